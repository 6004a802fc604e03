/- A call of 'taken', run. -/
import Derived.Test.YtjpjiognghcojaaGreatDoorEvTd
namespace Go.Ev
set_option maxRecDepth 100000
open Go.Proofs
theorem mT0_ok : MemoOk envV 6 mT0 := ⟨rfl, by kernel_rfl, by kernel_rfl⟩
end Go.Ev
