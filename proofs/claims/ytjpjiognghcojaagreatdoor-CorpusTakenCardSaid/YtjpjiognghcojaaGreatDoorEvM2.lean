/- The environment with the programs' bytes. -/
import Derived.Test.YtjpjiognghcojaaGreatDoorEvP0
import Derived.Test.YtjpjiognghcojaaGreatDoorEvP1
import Derived.Test.YtjpjiognghcojaaGreatDoorEvP2
import Derived.Test.YtjpjiognghcojaaGreatDoorEvP3
import Derived.Test.YtjpjiognghcojaaGreatDoorEvP4
import Derived.Test.YtjpjiognghcojaaGreatDoorEvP5
import Derived.Test.YtjpjiognghcojaaGreatDoorEvP6
import Derived.Test.YtjpjiognghcojaaGreatDoorEvP7
import Derived.Test.YtjpjiognghcojaaGreatDoorEvP8
import Derived.Test.YtjpjiognghcojaaGreatDoorEvP9
namespace Go.Ev
set_option maxRecDepth 100000
open Go.Proofs
theorem mGs_sm : SmOk 7 (memoT fb0 mGs) := memoT_ok good_envU fun M hM => by
  simp only [mGs, List.mem_cons, List.mem_nil_iff, or_false] at hM
  rcases hM with rfl | rfl | rfl | rfl | rfl | rfl | rfl | rfl | rfl | rfl
  · exact mG0_ok
  · exact mG1_ok
  · exact mG2_ok
  · exact mG3_ok
  · exact mG4_ok
  · exact mG5_ok
  · exact mG6_ok
  · exact mG7_ok
  · exact mG8_ok
  · exact mG9_ok
theorem m2L_ok : ∀ p, p ∈ m2L → SmOk p.1 p.2 := fun p hp => by
  rcases List.mem_append.1 hp with h | h
  · exact m1L_ok p h
  · cases h with
    | head => exact mGs_sm
    | tail _ h => cases h
theorem good_envV : Good envV := good_envT m2L_ok
end Go.Ev
