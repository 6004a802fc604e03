/- A call of 'taken', run. -/
import Derived.Test.YtjpjiognghcojaaGreatDoorEvTd
namespace Go.Ev
set_option maxRecDepth 100000
open Go.Proofs
theorem mT7_ok : MemoOk envV 6 mT7 := ⟨rfl, by kernel_rfl, by kernel_rfl⟩
end Go.Ev
