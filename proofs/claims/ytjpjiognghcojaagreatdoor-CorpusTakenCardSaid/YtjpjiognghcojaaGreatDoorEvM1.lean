/- Three calls without arguments, run beforehand. -/
import Derived.Test.YtjpjiognghcojaaGreatDoorEvSt
namespace Go.Ev
set_option maxRecDepth 100000
open Go.Proofs
noncomputable def mTab : Memo := ⟨148, [], [], (.sl (.o .h) 0 47 (.ex 47)), [((.o .h), [(.str [110, 111, 112]), iN 0, iN 0, (.str [105, 110, 116]), iN 1, iN 0, (.str [110, 117, 108, 108]), iN 0, iN 0, (.str [108, 111, 97, 100]), iN 2, iN 0, (.str [115, 116, 111, 114, 101]), iN 2, iN 0, (.str [112, 111, 112]), iN 0, iN 0, (.str [100, 117, 112]), iN 0, iN 0, (.str [115, 119, 97, 112]), iN 0, iN 0, (.str [97, 114, 105, 116, 104]), iN 3, iN 0, (.str [103, 111, 116, 111]), iN 4, iN 0, (.str [105, 102, 122, 101, 114, 111]), iN 4, iN 0, (.str [105, 102, 108, 101, 115, 115]), iN 4, iN 0, (.str [105, 102, 115, 97, 109, 101]), iN 4, iN 0, (.str [105, 102, 110, 117, 108, 108]), iN 4, iN 0, (.str [110, 101, 119]), iN 6, iN 0, (.str [103, 101, 116, 102, 105, 101, 108, 100]), iN 7, iN 12, (.str [112, 117, 116, 102, 105, 101, 108, 100]), iN 7, iN 12, (.str [103, 101, 116, 115, 116, 97, 116, 105, 99]), iN 8, iN 12, (.str [112, 117, 116, 115, 116, 97, 116, 105, 99]), iN 8, iN 12, (.str [110, 101, 119, 105, 110, 116, 115]), iN 0, iN 0, (.str [110, 101, 119, 114, 101, 102, 115]), iN 0, iN 0, (.str [108, 101, 110, 103, 116, 104]), iN 0, iN 0, (.str [103, 101, 116, 105, 110, 116]), iN 0, iN 0, (.str [112, 117, 116, 105, 110, 116]), iN 0, iN 0, (.str [103, 101, 116, 114, 101, 102]), iN 0, iN 0, (.str [112, 117, 116, 114, 101, 102]), iN 0, iN 0, (.str [99, 97, 108, 108, 115, 116, 97, 116, 105, 99]), iN 9, iN 12, (.str [99, 97, 108, 108, 118, 105, 114, 116, 117, 97, 108]), iN 10, iN 12, (.str [99, 97, 108, 108, 102, 97, 99, 101]), iN 11, iN 12, (.str [114, 101, 116, 117, 114, 110]), iN 0, iN 0, (.str [103, 105, 118, 101, 105, 110, 116]), iN 0, iN 0, (.str [103, 105, 118, 101, 114, 101, 102]), iN 0, iN 0, (.str [116, 104, 114, 111, 119]), iN 0, iN 0, (.str [105, 115]), iN 5, iN 0, (.str [99, 97, 115, 116]), iN 5, iN 0, (.str [101, 110, 116, 101, 114]), iN 0, iN 0, (.str [108, 101, 97, 118, 101]), iN 0, iN 0, (.str [119, 97, 105, 116]), iN 0, iN 0, (.str [110, 111, 116, 105, 102, 121]), iN 0, iN 0, (.str [110, 111, 116, 105, 102, 121, 97, 108, 108]), iN 0, iN 0, (.str [115, 116, 97, 114, 116]), iN 0, iN 0, (.str [106, 111, 105, 110]), iN 0, iN 0, (.str [112, 114, 105, 110, 116]), iN 0, iN 0, (.str [114, 101, 97, 100]), iN 0, iN 0, (.str [109, 97, 107, 101, 119, 101, 97, 107]), iN 0, iN 0, (.str [100, 101, 114, 101, 102]), iN 0, iN 0, (.str [99, 111, 108, 108, 101, 99, 116]), iN 0, iN 0])]⟩
theorem mTab_ok : MemoOk envS 148 mTab := ⟨rfl, by kernel_rfl, by kernel_rfl⟩
theorem mTab_sm : SmOk 148 (memoT fb0 [mTab]) := memoT_ok good_envS fun M hM => by
  cases hM with
  | head => exact mTab_ok
  | tail _ h => cases h
noncomputable def mNames : Memo := ⟨111, [], [], (.sl (.i (.i (.i (.i (.o (.o (.o .h))))))) 0 47 (.op 1)), [((.i (.i (.i (.i (.o (.o (.o .h))))))), [(.str [110, 111, 112]), (.str [105, 110, 116]), (.str [110, 117, 108, 108]), (.str [108, 111, 97, 100]), (.str [115, 116, 111, 114, 101]), (.str [112, 111, 112]), (.str [100, 117, 112]), (.str [115, 119, 97, 112]), (.str [97, 114, 105, 116, 104]), (.str [103, 111, 116, 111]), (.str [105, 102, 122, 101, 114, 111]), (.str [105, 102, 108, 101, 115, 115]), (.str [105, 102, 115, 97, 109, 101]), (.str [105, 102, 110, 117, 108, 108]), (.str [110, 101, 119]), (.str [103, 101, 116, 102, 105, 101, 108, 100]), (.str [112, 117, 116, 102, 105, 101, 108, 100]), (.str [103, 101, 116, 115, 116, 97, 116, 105, 99]), (.str [112, 117, 116, 115, 116, 97, 116, 105, 99]), (.str [110, 101, 119, 105, 110, 116, 115]), (.str [110, 101, 119, 114, 101, 102, 115]), (.str [108, 101, 110, 103, 116, 104]), (.str [103, 101, 116, 105, 110, 116]), (.str [112, 117, 116, 105, 110, 116]), (.str [103, 101, 116, 114, 101, 102]), (.str [112, 117, 116, 114, 101, 102]), (.str [99, 97, 108, 108, 115, 116, 97, 116, 105, 99]), (.str [99, 97, 108, 108, 118, 105, 114, 116, 117, 97, 108]), (.str [99, 97, 108, 108, 102, 97, 99, 101]), (.str [114, 101, 116, 117, 114, 110]), (.str [103, 105, 118, 101, 105, 110, 116]), (.str [103, 105, 118, 101, 114, 101, 102]), (.str [116, 104, 114, 111, 119]), (.str [105, 115]), (.str [99, 97, 115, 116]), (.str [101, 110, 116, 101, 114]), (.str [108, 101, 97, 118, 101]), (.str [119, 97, 105, 116]), (.str [110, 111, 116, 105, 102, 121]), (.str [110, 111, 116, 105, 102, 121, 97, 108, 108]), (.str [115, 116, 97, 114, 116]), (.str [106, 111, 105, 110]), (.str [112, 114, 105, 110, 116]), (.str [114, 101, 97, 100]), (.str [109, 97, 107, 101, 119, 101, 97, 107]), (.str [100, 101, 114, 101, 102]), (.str [99, 111, 108, 108, 101, 99, 116])])]⟩
theorem mNames_ok : MemoOk envS 111 mNames := ⟨rfl, by kernel_rfl, by kernel_rfl⟩
theorem mNames_sm : SmOk 111 (memoT fb0 [mNames]) := memoT_ok good_envS fun M hM => by
  cases hM with
  | head => exact mNames_ok
  | tail _ h => cases h
noncomputable def mOps : Memo := ⟨165, [], [], (.sl (.o .h) 0 12 (.ex 12)), [((.o .h), [(.str [97, 100, 100]), (.str [115, 117, 98]), (.str [109, 117, 108]), (.str [100, 105, 118]), (.str [114, 101, 109]), (.str [110, 101, 103]), (.str [97, 110, 100]), (.str [111, 114]), (.str [120, 111, 114]), (.str [115, 104, 108]), (.str [115, 104, 114]), (.str [117, 115, 104, 114])])]⟩
theorem mOps_ok : MemoOk envS 165 mOps := ⟨rfl, by kernel_rfl, by kernel_rfl⟩
theorem mOps_sm : SmOk 165 (memoT fb0 [mOps]) := memoT_ok good_envS fun M hM => by
  cases hM with
  | head => exact mOps_ok
  | tail _ h => cases h
noncomputable def m1L : List (Nat × SmT) := stL ++ [(148, memoT fb0 [mTab]), (111, memoT fb0 [mNames]), (165, memoT fb0 [mOps])]
theorem m1L_ok : ∀ p, p ∈ m1L → SmOk p.1 p.2 := fun p hp => by
  rcases List.mem_append.1 hp with h | h
  · exact stL_ok p h
  · simp only [List.mem_cons, List.mem_nil_iff, or_false] at h
    rcases h with rfl | rfl | rfl
    · exact mTab_sm
    · exact mNames_sm
    · exact mOps_sm
noncomputable def envU : Env := envT m1L
theorem good_envU : Good envU := good_envT m1L_ok
end Go.Ev
