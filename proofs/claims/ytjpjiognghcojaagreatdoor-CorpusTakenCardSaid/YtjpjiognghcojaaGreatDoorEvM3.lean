/- The environment with the programs, taken. -/
import Derived.Test.YtjpjiognghcojaaGreatDoorEvM2
import Derived.Test.YtjpjiognghcojaaGreatDoorEvQ0
import Derived.Test.YtjpjiognghcojaaGreatDoorEvQ1
import Derived.Test.YtjpjiognghcojaaGreatDoorEvQ2
import Derived.Test.YtjpjiognghcojaaGreatDoorEvQ3
import Derived.Test.YtjpjiognghcojaaGreatDoorEvQ4
import Derived.Test.YtjpjiognghcojaaGreatDoorEvQ5
import Derived.Test.YtjpjiognghcojaaGreatDoorEvQ6
import Derived.Test.YtjpjiognghcojaaGreatDoorEvQ7
namespace Go.Ev
set_option maxRecDepth 100000
open Go.Proofs
theorem mTs_sm : SmOk 6 (memoT fb0 mTs) := memoT_ok good_envV fun M hM => by
  simp only [mTs, List.mem_cons, List.mem_nil_iff, or_false] at hM
  rcases hM with rfl | rfl | rfl | rfl | rfl | rfl | rfl | rfl
  · exact mT0_ok
  · exact mT1_ok
  · exact mT2_ok
  · exact mT3_ok
  · exact mT4_ok
  · exact mT5_ok
  · exact mT6_ok
  · exact mT7_ok
theorem m3L_ok : ∀ p, p ∈ m3L → SmOk p.1 p.2 := fun p hp => by
  rcases List.mem_append.1 hp with h | h
  · exact m2L_ok p h
  · cases h with
    | head => exact mTs_sm
    | tail _ h => cases h
theorem good_envW : Good envW := good_envT m3L_ok
end Go.Ev
