/- A call of 'corpus.Get', run. -/
import Derived.Test.YtjpjiognghcojaaGreatDoorEvMd
namespace Go.Ev
set_option maxRecDepth 100000
open Go.Proofs
theorem mG9_ok : MemoOk envU 7 mG9 := ⟨rfl, by kernel_rfl, by kernel_rfl⟩
end Go.Ev
