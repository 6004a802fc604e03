/- A call of 'taken', run. -/
import Derived.Test.YtjpjiognghcojaaGreatDoorEvTd
namespace Go.Ev
set_option maxRecDepth 100000
open Go.Proofs
theorem mT5_ok : MemoOk envV 6 mT5 := ⟨rfl, by kernel_rfl, by kernel_rfl⟩
end Go.Ev
