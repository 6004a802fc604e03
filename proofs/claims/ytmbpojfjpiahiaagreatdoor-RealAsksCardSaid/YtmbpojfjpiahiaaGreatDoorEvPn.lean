/- The word for 'PutNum' of a number that is not known, and the environment with it. -/
import Derived.Test.YtmbpojfjpiahiaaGreatDoorEvVl
namespace Go.Ev
set_option maxRecDepth 100000
open Go.Proofs Go.Proofs.YtmbpojfjpiahiaaGreatDoor Go.RowKit
variable {σ : Nat → IntKind × Int}
noncomputable def tkOne (t : Tk) : Bool :=
  match t with
  | .b _ => true
  | .a _ _ => true
  | _ => false
noncomputable def avS5 (v : AV) : Bool :=
  match v with
  | .strq n => Nat.ble n 5
  | .str l => Nat.ble (len l) 5
  | .stk l => iand (allB tkOne l) (Nat.ble (len l) 5)
  | _ => false
theorem tkOne_len {σ : Nat → IntKind × Int} : ∀ {l : List Tk}, allB tkOne l = true → (tksB σ l).length = l.length
  | [], _ => rfl
  | t :: l, h => by
    replace h : iand (tkOne t) (allB tkOne l) = true := h
    rw [iand_eq, Bool.and_eq_true] at h
    show (Tk.bs σ t ++ tksB σ l).length = _
    rw [List.length_append, tkOne_len h.2]
    cases t with
    | b n => show 1 + _ = _; rw [List.length_cons]; omega
    | a i tb => show 1 + _ = _; rw [List.length_cons]; omega
    | q i tb => cases h.1
    | o i => cases h.1
noncomputable def isS5 (r : CR) : Bool := CR.rec (motive := fun _ => Bool) (fun v _ => avS5 v) (fun _ _ => false) false r
theorem isS5_inv {r : CR} (h : isS5 r = true) : ∃ v H, r = .ret v H ∧ ∀ (ι : Inj) (c : Value), VRel ι v c → ∃ s : ByteArray, c = .string s ∧ s.size ≤ 5 := by
  cases r with
  | no => cases h
  | pan v H => cases h
  | ret v H =>
    replace h : avS5 v = true := h
    refine ⟨v, H, rfl, fun ι c hc => ?_⟩
    unfold avS5 at h
    split at h
    · cases hc with
      | strq _ s hs => exact ⟨s, rfl, Nat.le_trans hs (Nat.le_of_ble_eq_true h)⟩
    · obtain ⟨s, rfl, hs⟩ := str_rel hc
      exact ⟨s, rfl, by rw [size_str hs]; have := Nat.le_of_ble_eq_true h; rw [len_eq] at this; exact this⟩
    · rw [iand_eq, Bool.and_eq_true] at h
      cases hc with
      | stk _ s hs _ => exact ⟨s, rfl, by rw [size_str hs, tkOne_len h.1]; have := Nat.le_of_ble_eq_true h.2; rw [len_eq] at this; exact this⟩
    · cases h
def Str5 (W : World) (n : Int) : Prop := Calls Tryz.prog 196 #[.int .i64 n] W fun e W' => (∃ s : ByteArray, e = .returned (.string s) ∧ s.size ≤ 5) ∧ Below W.heap.size W W'
theorem s5_of {nl n : Nat} {tb : List (Nat × AtO × AtV)} (h : isS5 (evC envL nl n 196 [.at 0 tb] H0) = true) {W : World} (hW : AsciiOk W) {x : Int} (hs : σ 0 = (.i64, x)) (ho : AtOk σ tb) : Entered Tryz.prog 196 ∧ Str5 W x := by
  obtain ⟨v, H', hr, hv⟩ := isS5_inv h
  obtain ⟨h1, hc⟩ := envL_call (base := W.heap.size) (w0 := W) nl n 196 [.at 0 tb] H0 _ rfl (by rw [hr]; intro e; cases e) (injS σ) W [.int .i64 x] (start envL_gl hW) (.cons _ _ _ _ (.at 0 tb .i64 x ho hs) .nil)
  refine ⟨h1, Calls.mono hc fun e W' he => ?_⟩
  rw [hr] at he
  cases e with
  | returned c =>
    obtain ⟨v', H2, ι', e1, e2, e3, e4⟩ := he
    cases e1
    obtain ⟨s, rfl, k⟩ := hv _ _ e2
    exact ⟨⟨s, rfl, k⟩, e3.below⟩
  | panicked ch =>
    obtain ⟨v', H2, ι', c, e1, _⟩ := he
    cases e1
  | outgrown => exact he.elim

noncomputable def pnU0 (x : Int) (neg : Bool) : Int := cnd neg (wr .u64 (wr .i64 (isub (wr .i64 (Int.mul (-2) x)) 1))) (wr .u64 (wr .i64 (Int.mul 2 x)))
noncomputable def pnU (x : Int) (neg : Bool) (j : Nat) : Int := Nat.rec (motive := fun _ => Int) (pnU0 x neg) (fun _ ih => Int.fdiv ih 128) j
noncomputable def pnB (x : Int) (neg : Bool) (j : Nat) : Int := wr .u8 (pnU x neg j)
noncomputable def pnC (x : Int) (neg : Bool) (j : Nat) : Int := ofB .u8 (Nat.lor (toB .u8 (pnB x neg j)) 128)
noncomputable def sgPn (x : Int) (neg : Bool) : Nat → IntKind × Int := sg [(.i64, x), (.i32, wr .i32 x), (.i64, wr .i64 (Int.mul 2 x)), (.i64, wr .i64 (Int.mul (-2) x)), (.i64, wr .i64 (isub (wr .i64 (Int.mul (-2) x)) 1)), (.u64, wr .u64 (wr .i64 (Int.mul 2 x))),
  (.u64, pnU x neg 0), (.u64, pnU x neg 1), (.u64, pnU x neg 2), (.u64, pnU x neg 3), (.u64, pnU x neg 4), (.u8, pnB x neg 0), (.u8, pnB x neg 1), (.u8, pnB x neg 2), (.u8, pnB x neg 3), (.u8, pnB x neg 4),
  (.u8, pnC x neg 0), (.u8, pnC x neg 1), (.u8, pnC x neg 2), (.u8, pnC x neg 3)]
noncomputable def tbNo : List (Nat × AtO × AtV) := [(0, .cv .i32, .at 1), (1, .cv .i64, .at 2), (0, .ea 2, .bool false)]
theorem pn_runNo : isS5 (evC envL 1000 100 196 [.at 0 tbNo] H0) = true := by kernel_rfl
noncomputable def tbP00 : List (Nat × AtO × AtV) := [(0, .cv .i32, .at 1), (1, .cv .i64, .at 0), (0, .bc .lss .i64 0, .bool false), (0, .cb .mul .i64 2, .at 2), (2, .cv .u64, .at 6), (6, .bc .geq .u64 128, .bool false), (6, .cv .u8, .at 11), (11, .cv .u8, .at 11)]
theorem tbP00_ok {x : Int} (hf : wr .i64 (wr .i32 x) = x) (hn : decide (x < 0) = false) (h0 : decide (pnU x false 0 ≥ 128) = false) : AtOk (sgPn x false) tbP00 :=
  atOk_cons (den_cv rfl rfl rfl) <|
    atOk_cons (den_cv rfl rfl hf) <|
    atOk_cons (den_lss rfl hn) <|
    atOk_cons (den_cb rfl rfl rfl (vI_eq .i64 _)) <|
    atOk_cons (den_cv rfl rfl rfl) <|
    atOk_cons (den_geq rfl h0) <|
    atOk_cons (den_cv rfl rfl rfl) <|
    atOk_cons (den_cv rfl rfl (wru8_idem _)) <| atOk_nil
theorem pn_run00 : isS5 (evC envL 1000 100 196 [.at 0 tbP00] H0) = true := by kernel_rfl
noncomputable def tbP01 : List (Nat × AtO × AtV) := [(0, .cv .i32, .at 1), (1, .cv .i64, .at 0), (0, .bc .lss .i64 0, .bool false), (0, .cb .mul .i64 2, .at 2), (2, .cv .u64, .at 6), (6, .bc .geq .u64 128, .bool true), (6, .cv .u8, .at 11), (11, .cv .u8, .at 11), (11, .bc .or .u8 128, .at 16), (16, .cv .u8, .at 16), (6, .bc .shr .u64 7, .at 7), (7, .bc .geq .u64 128, .bool false), (7, .cv .u8, .at 12), (12, .cv .u8, .at 12)]
theorem tbP01_ok {x : Int} (hf : wr .i64 (wr .i32 x) = x) (hn : decide (x < 0) = false) (h0 : decide (pnU x false 0 ≥ 128) = true) (h1 : decide (pnU x false 1 ≥ 128) = false) : AtOk (sgPn x false) tbP01 :=
  atOk_cons (den_cv rfl rfl rfl) <|
    atOk_cons (den_cv rfl rfl hf) <|
    atOk_cons (den_lss rfl hn) <|
    atOk_cons (den_cb rfl rfl rfl (vI_eq .i64 _)) <|
    atOk_cons (den_cv rfl rfl rfl) <|
    atOk_cons (den_geq rfl h0) <|
    atOk_cons (den_cv rfl rfl rfl) <|
    atOk_cons (den_cv rfl rfl (wru8_idem _)) <|
    atOk_cons (den_bc rfl rfl rfl (or128 _)) <|
    atOk_cons (den_cv rfl rfl (or128_idem _)) <|
    atOk_cons (den_bc rfl rfl rfl (vI_eq .u64 _)) <|
    atOk_cons (den_geq rfl h1) <|
    atOk_cons (den_cv rfl rfl rfl) <|
    atOk_cons (den_cv rfl rfl (wru8_idem _)) <| atOk_nil
theorem pn_run01 : isS5 (evC envL 1000 100 196 [.at 0 tbP01] H0) = true := by kernel_rfl
noncomputable def tbP02 : List (Nat × AtO × AtV) := [(0, .cv .i32, .at 1), (1, .cv .i64, .at 0), (0, .bc .lss .i64 0, .bool false), (0, .cb .mul .i64 2, .at 2), (2, .cv .u64, .at 6), (6, .bc .geq .u64 128, .bool true), (6, .cv .u8, .at 11), (11, .cv .u8, .at 11), (11, .bc .or .u8 128, .at 16), (16, .cv .u8, .at 16), (6, .bc .shr .u64 7, .at 7), (7, .bc .geq .u64 128, .bool true), (7, .cv .u8, .at 12), (12, .cv .u8, .at 12), (12, .bc .or .u8 128, .at 17), (17, .cv .u8, .at 17), (7, .bc .shr .u64 7, .at 8), (8, .bc .geq .u64 128, .bool false), (8, .cv .u8, .at 13), (13, .cv .u8, .at 13)]
theorem tbP02_ok {x : Int} (hf : wr .i64 (wr .i32 x) = x) (hn : decide (x < 0) = false) (h0 : decide (pnU x false 0 ≥ 128) = true) (h1 : decide (pnU x false 1 ≥ 128) = true) (h2 : decide (pnU x false 2 ≥ 128) = false) : AtOk (sgPn x false) tbP02 :=
  atOk_cons (den_cv rfl rfl rfl) <|
    atOk_cons (den_cv rfl rfl hf) <|
    atOk_cons (den_lss rfl hn) <|
    atOk_cons (den_cb rfl rfl rfl (vI_eq .i64 _)) <|
    atOk_cons (den_cv rfl rfl rfl) <|
    atOk_cons (den_geq rfl h0) <|
    atOk_cons (den_cv rfl rfl rfl) <|
    atOk_cons (den_cv rfl rfl (wru8_idem _)) <|
    atOk_cons (den_bc rfl rfl rfl (or128 _)) <|
    atOk_cons (den_cv rfl rfl (or128_idem _)) <|
    atOk_cons (den_bc rfl rfl rfl (vI_eq .u64 _)) <|
    atOk_cons (den_geq rfl h1) <|
    atOk_cons (den_cv rfl rfl rfl) <|
    atOk_cons (den_cv rfl rfl (wru8_idem _)) <|
    atOk_cons (den_bc rfl rfl rfl (or128 _)) <|
    atOk_cons (den_cv rfl rfl (or128_idem _)) <|
    atOk_cons (den_bc rfl rfl rfl (vI_eq .u64 _)) <|
    atOk_cons (den_geq rfl h2) <|
    atOk_cons (den_cv rfl rfl rfl) <|
    atOk_cons (den_cv rfl rfl (wru8_idem _)) <| atOk_nil
theorem pn_run02 : isS5 (evC envL 1000 100 196 [.at 0 tbP02] H0) = true := by kernel_rfl
noncomputable def tbP03 : List (Nat × AtO × AtV) := [(0, .cv .i32, .at 1), (1, .cv .i64, .at 0), (0, .bc .lss .i64 0, .bool false), (0, .cb .mul .i64 2, .at 2), (2, .cv .u64, .at 6), (6, .bc .geq .u64 128, .bool true), (6, .cv .u8, .at 11), (11, .cv .u8, .at 11), (11, .bc .or .u8 128, .at 16), (16, .cv .u8, .at 16), (6, .bc .shr .u64 7, .at 7), (7, .bc .geq .u64 128, .bool true), (7, .cv .u8, .at 12), (12, .cv .u8, .at 12), (12, .bc .or .u8 128, .at 17), (17, .cv .u8, .at 17), (7, .bc .shr .u64 7, .at 8), (8, .bc .geq .u64 128, .bool true), (8, .cv .u8, .at 13), (13, .cv .u8, .at 13), (13, .bc .or .u8 128, .at 18), (18, .cv .u8, .at 18), (8, .bc .shr .u64 7, .at 9), (9, .bc .geq .u64 128, .bool false), (9, .cv .u8, .at 14), (14, .cv .u8, .at 14)]
theorem tbP03_ok {x : Int} (hf : wr .i64 (wr .i32 x) = x) (hn : decide (x < 0) = false) (h0 : decide (pnU x false 0 ≥ 128) = true) (h1 : decide (pnU x false 1 ≥ 128) = true) (h2 : decide (pnU x false 2 ≥ 128) = true) (h3 : decide (pnU x false 3 ≥ 128) = false) : AtOk (sgPn x false) tbP03 :=
  atOk_cons (den_cv rfl rfl rfl) <|
    atOk_cons (den_cv rfl rfl hf) <|
    atOk_cons (den_lss rfl hn) <|
    atOk_cons (den_cb rfl rfl rfl (vI_eq .i64 _)) <|
    atOk_cons (den_cv rfl rfl rfl) <|
    atOk_cons (den_geq rfl h0) <|
    atOk_cons (den_cv rfl rfl rfl) <|
    atOk_cons (den_cv rfl rfl (wru8_idem _)) <|
    atOk_cons (den_bc rfl rfl rfl (or128 _)) <|
    atOk_cons (den_cv rfl rfl (or128_idem _)) <|
    atOk_cons (den_bc rfl rfl rfl (vI_eq .u64 _)) <|
    atOk_cons (den_geq rfl h1) <|
    atOk_cons (den_cv rfl rfl rfl) <|
    atOk_cons (den_cv rfl rfl (wru8_idem _)) <|
    atOk_cons (den_bc rfl rfl rfl (or128 _)) <|
    atOk_cons (den_cv rfl rfl (or128_idem _)) <|
    atOk_cons (den_bc rfl rfl rfl (vI_eq .u64 _)) <|
    atOk_cons (den_geq rfl h2) <|
    atOk_cons (den_cv rfl rfl rfl) <|
    atOk_cons (den_cv rfl rfl (wru8_idem _)) <|
    atOk_cons (den_bc rfl rfl rfl (or128 _)) <|
    atOk_cons (den_cv rfl rfl (or128_idem _)) <|
    atOk_cons (den_bc rfl rfl rfl (vI_eq .u64 _)) <|
    atOk_cons (den_geq rfl h3) <|
    atOk_cons (den_cv rfl rfl rfl) <|
    atOk_cons (den_cv rfl rfl (wru8_idem _)) <| atOk_nil
theorem pn_run03 : isS5 (evC envL 1000 100 196 [.at 0 tbP03] H0) = true := by kernel_rfl
noncomputable def tbP04 : List (Nat × AtO × AtV) := [(0, .cv .i32, .at 1), (1, .cv .i64, .at 0), (0, .bc .lss .i64 0, .bool false), (0, .cb .mul .i64 2, .at 2), (2, .cv .u64, .at 6), (6, .bc .geq .u64 128, .bool true), (6, .cv .u8, .at 11), (11, .cv .u8, .at 11), (11, .bc .or .u8 128, .at 16), (16, .cv .u8, .at 16), (6, .bc .shr .u64 7, .at 7), (7, .bc .geq .u64 128, .bool true), (7, .cv .u8, .at 12), (12, .cv .u8, .at 12), (12, .bc .or .u8 128, .at 17), (17, .cv .u8, .at 17), (7, .bc .shr .u64 7, .at 8), (8, .bc .geq .u64 128, .bool true), (8, .cv .u8, .at 13), (13, .cv .u8, .at 13), (13, .bc .or .u8 128, .at 18), (18, .cv .u8, .at 18), (8, .bc .shr .u64 7, .at 9), (9, .bc .geq .u64 128, .bool true), (9, .cv .u8, .at 14), (14, .cv .u8, .at 14), (14, .bc .or .u8 128, .at 19), (19, .cv .u8, .at 19), (9, .bc .shr .u64 7, .at 10), (10, .bc .geq .u64 128, .bool false), (10, .cv .u8, .at 15), (15, .cv .u8, .at 15)]
theorem tbP04_ok {x : Int} (hf : wr .i64 (wr .i32 x) = x) (hn : decide (x < 0) = false) (h0 : decide (pnU x false 0 ≥ 128) = true) (h1 : decide (pnU x false 1 ≥ 128) = true) (h2 : decide (pnU x false 2 ≥ 128) = true) (h3 : decide (pnU x false 3 ≥ 128) = true) (h4 : decide (pnU x false 4 ≥ 128) = false) : AtOk (sgPn x false) tbP04 :=
  atOk_cons (den_cv rfl rfl rfl) <|
    atOk_cons (den_cv rfl rfl hf) <|
    atOk_cons (den_lss rfl hn) <|
    atOk_cons (den_cb rfl rfl rfl (vI_eq .i64 _)) <|
    atOk_cons (den_cv rfl rfl rfl) <|
    atOk_cons (den_geq rfl h0) <|
    atOk_cons (den_cv rfl rfl rfl) <|
    atOk_cons (den_cv rfl rfl (wru8_idem _)) <|
    atOk_cons (den_bc rfl rfl rfl (or128 _)) <|
    atOk_cons (den_cv rfl rfl (or128_idem _)) <|
    atOk_cons (den_bc rfl rfl rfl (vI_eq .u64 _)) <|
    atOk_cons (den_geq rfl h1) <|
    atOk_cons (den_cv rfl rfl rfl) <|
    atOk_cons (den_cv rfl rfl (wru8_idem _)) <|
    atOk_cons (den_bc rfl rfl rfl (or128 _)) <|
    atOk_cons (den_cv rfl rfl (or128_idem _)) <|
    atOk_cons (den_bc rfl rfl rfl (vI_eq .u64 _)) <|
    atOk_cons (den_geq rfl h2) <|
    atOk_cons (den_cv rfl rfl rfl) <|
    atOk_cons (den_cv rfl rfl (wru8_idem _)) <|
    atOk_cons (den_bc rfl rfl rfl (or128 _)) <|
    atOk_cons (den_cv rfl rfl (or128_idem _)) <|
    atOk_cons (den_bc rfl rfl rfl (vI_eq .u64 _)) <|
    atOk_cons (den_geq rfl h3) <|
    atOk_cons (den_cv rfl rfl rfl) <|
    atOk_cons (den_cv rfl rfl (wru8_idem _)) <|
    atOk_cons (den_bc rfl rfl rfl (or128 _)) <|
    atOk_cons (den_cv rfl rfl (or128_idem _)) <|
    atOk_cons (den_bc rfl rfl rfl (vI_eq .u64 _)) <|
    atOk_cons (den_geq rfl h4) <|
    atOk_cons (den_cv rfl rfl rfl) <|
    atOk_cons (den_cv rfl rfl (wru8_idem _)) <| atOk_nil
theorem pn_run04 : isS5 (evC envL 1000 100 196 [.at 0 tbP04] H0) = true := by kernel_rfl
noncomputable def tbP10 : List (Nat × AtO × AtV) := [(0, .cv .i32, .at 1), (1, .cv .i64, .at 0), (0, .bc .lss .i64 0, .bool true), (0, .cb .mul .i64 2, .at 2), (2, .cv .u64, .at 5), (0, .cb .mul .i64 (-2), .at 3), (3, .bc .sub .i64 1, .at 4), (4, .cv .u64, .at 6), (6, .bc .geq .u64 128, .bool false), (6, .cv .u8, .at 11), (11, .cv .u8, .at 11)]
theorem tbP10_ok {x : Int} (hf : wr .i64 (wr .i32 x) = x) (hn : decide (x < 0) = true) (h0 : decide (pnU x true 0 ≥ 128) = false) : AtOk (sgPn x true) tbP10 :=
  atOk_cons (den_cv rfl rfl rfl) <|
    atOk_cons (den_cv rfl rfl hf) <|
    atOk_cons (den_lss rfl hn) <|
    atOk_cons (den_cb rfl rfl rfl (vI_eq .i64 _)) <|
    atOk_cons (den_cv rfl rfl rfl) <|
    atOk_cons (den_cb rfl rfl rfl (vI_eq .i64 _)) <|
    atOk_cons (den_bc rfl rfl rfl (vI_eq .i64 _)) <|
    atOk_cons (den_cv rfl rfl rfl) <|
    atOk_cons (den_geq rfl h0) <|
    atOk_cons (den_cv rfl rfl rfl) <|
    atOk_cons (den_cv rfl rfl (wru8_idem _)) <| atOk_nil
theorem pn_run10 : isS5 (evC envL 1000 100 196 [.at 0 tbP10] H0) = true := by kernel_rfl
noncomputable def tbP11 : List (Nat × AtO × AtV) := [(0, .cv .i32, .at 1), (1, .cv .i64, .at 0), (0, .bc .lss .i64 0, .bool true), (0, .cb .mul .i64 2, .at 2), (2, .cv .u64, .at 5), (0, .cb .mul .i64 (-2), .at 3), (3, .bc .sub .i64 1, .at 4), (4, .cv .u64, .at 6), (6, .bc .geq .u64 128, .bool true), (6, .cv .u8, .at 11), (11, .cv .u8, .at 11), (11, .bc .or .u8 128, .at 16), (16, .cv .u8, .at 16), (6, .bc .shr .u64 7, .at 7), (7, .bc .geq .u64 128, .bool false), (7, .cv .u8, .at 12), (12, .cv .u8, .at 12)]
theorem tbP11_ok {x : Int} (hf : wr .i64 (wr .i32 x) = x) (hn : decide (x < 0) = true) (h0 : decide (pnU x true 0 ≥ 128) = true) (h1 : decide (pnU x true 1 ≥ 128) = false) : AtOk (sgPn x true) tbP11 :=
  atOk_cons (den_cv rfl rfl rfl) <|
    atOk_cons (den_cv rfl rfl hf) <|
    atOk_cons (den_lss rfl hn) <|
    atOk_cons (den_cb rfl rfl rfl (vI_eq .i64 _)) <|
    atOk_cons (den_cv rfl rfl rfl) <|
    atOk_cons (den_cb rfl rfl rfl (vI_eq .i64 _)) <|
    atOk_cons (den_bc rfl rfl rfl (vI_eq .i64 _)) <|
    atOk_cons (den_cv rfl rfl rfl) <|
    atOk_cons (den_geq rfl h0) <|
    atOk_cons (den_cv rfl rfl rfl) <|
    atOk_cons (den_cv rfl rfl (wru8_idem _)) <|
    atOk_cons (den_bc rfl rfl rfl (or128 _)) <|
    atOk_cons (den_cv rfl rfl (or128_idem _)) <|
    atOk_cons (den_bc rfl rfl rfl (vI_eq .u64 _)) <|
    atOk_cons (den_geq rfl h1) <|
    atOk_cons (den_cv rfl rfl rfl) <|
    atOk_cons (den_cv rfl rfl (wru8_idem _)) <| atOk_nil
theorem pn_run11 : isS5 (evC envL 1000 100 196 [.at 0 tbP11] H0) = true := by kernel_rfl
noncomputable def tbP12 : List (Nat × AtO × AtV) := [(0, .cv .i32, .at 1), (1, .cv .i64, .at 0), (0, .bc .lss .i64 0, .bool true), (0, .cb .mul .i64 2, .at 2), (2, .cv .u64, .at 5), (0, .cb .mul .i64 (-2), .at 3), (3, .bc .sub .i64 1, .at 4), (4, .cv .u64, .at 6), (6, .bc .geq .u64 128, .bool true), (6, .cv .u8, .at 11), (11, .cv .u8, .at 11), (11, .bc .or .u8 128, .at 16), (16, .cv .u8, .at 16), (6, .bc .shr .u64 7, .at 7), (7, .bc .geq .u64 128, .bool true), (7, .cv .u8, .at 12), (12, .cv .u8, .at 12), (12, .bc .or .u8 128, .at 17), (17, .cv .u8, .at 17), (7, .bc .shr .u64 7, .at 8), (8, .bc .geq .u64 128, .bool false), (8, .cv .u8, .at 13), (13, .cv .u8, .at 13)]
theorem tbP12_ok {x : Int} (hf : wr .i64 (wr .i32 x) = x) (hn : decide (x < 0) = true) (h0 : decide (pnU x true 0 ≥ 128) = true) (h1 : decide (pnU x true 1 ≥ 128) = true) (h2 : decide (pnU x true 2 ≥ 128) = false) : AtOk (sgPn x true) tbP12 :=
  atOk_cons (den_cv rfl rfl rfl) <|
    atOk_cons (den_cv rfl rfl hf) <|
    atOk_cons (den_lss rfl hn) <|
    atOk_cons (den_cb rfl rfl rfl (vI_eq .i64 _)) <|
    atOk_cons (den_cv rfl rfl rfl) <|
    atOk_cons (den_cb rfl rfl rfl (vI_eq .i64 _)) <|
    atOk_cons (den_bc rfl rfl rfl (vI_eq .i64 _)) <|
    atOk_cons (den_cv rfl rfl rfl) <|
    atOk_cons (den_geq rfl h0) <|
    atOk_cons (den_cv rfl rfl rfl) <|
    atOk_cons (den_cv rfl rfl (wru8_idem _)) <|
    atOk_cons (den_bc rfl rfl rfl (or128 _)) <|
    atOk_cons (den_cv rfl rfl (or128_idem _)) <|
    atOk_cons (den_bc rfl rfl rfl (vI_eq .u64 _)) <|
    atOk_cons (den_geq rfl h1) <|
    atOk_cons (den_cv rfl rfl rfl) <|
    atOk_cons (den_cv rfl rfl (wru8_idem _)) <|
    atOk_cons (den_bc rfl rfl rfl (or128 _)) <|
    atOk_cons (den_cv rfl rfl (or128_idem _)) <|
    atOk_cons (den_bc rfl rfl rfl (vI_eq .u64 _)) <|
    atOk_cons (den_geq rfl h2) <|
    atOk_cons (den_cv rfl rfl rfl) <|
    atOk_cons (den_cv rfl rfl (wru8_idem _)) <| atOk_nil
theorem pn_run12 : isS5 (evC envL 1000 100 196 [.at 0 tbP12] H0) = true := by kernel_rfl
noncomputable def tbP13 : List (Nat × AtO × AtV) := [(0, .cv .i32, .at 1), (1, .cv .i64, .at 0), (0, .bc .lss .i64 0, .bool true), (0, .cb .mul .i64 2, .at 2), (2, .cv .u64, .at 5), (0, .cb .mul .i64 (-2), .at 3), (3, .bc .sub .i64 1, .at 4), (4, .cv .u64, .at 6), (6, .bc .geq .u64 128, .bool true), (6, .cv .u8, .at 11), (11, .cv .u8, .at 11), (11, .bc .or .u8 128, .at 16), (16, .cv .u8, .at 16), (6, .bc .shr .u64 7, .at 7), (7, .bc .geq .u64 128, .bool true), (7, .cv .u8, .at 12), (12, .cv .u8, .at 12), (12, .bc .or .u8 128, .at 17), (17, .cv .u8, .at 17), (7, .bc .shr .u64 7, .at 8), (8, .bc .geq .u64 128, .bool true), (8, .cv .u8, .at 13), (13, .cv .u8, .at 13), (13, .bc .or .u8 128, .at 18), (18, .cv .u8, .at 18), (8, .bc .shr .u64 7, .at 9), (9, .bc .geq .u64 128, .bool false), (9, .cv .u8, .at 14), (14, .cv .u8, .at 14)]
theorem tbP13_ok {x : Int} (hf : wr .i64 (wr .i32 x) = x) (hn : decide (x < 0) = true) (h0 : decide (pnU x true 0 ≥ 128) = true) (h1 : decide (pnU x true 1 ≥ 128) = true) (h2 : decide (pnU x true 2 ≥ 128) = true) (h3 : decide (pnU x true 3 ≥ 128) = false) : AtOk (sgPn x true) tbP13 :=
  atOk_cons (den_cv rfl rfl rfl) <|
    atOk_cons (den_cv rfl rfl hf) <|
    atOk_cons (den_lss rfl hn) <|
    atOk_cons (den_cb rfl rfl rfl (vI_eq .i64 _)) <|
    atOk_cons (den_cv rfl rfl rfl) <|
    atOk_cons (den_cb rfl rfl rfl (vI_eq .i64 _)) <|
    atOk_cons (den_bc rfl rfl rfl (vI_eq .i64 _)) <|
    atOk_cons (den_cv rfl rfl rfl) <|
    atOk_cons (den_geq rfl h0) <|
    atOk_cons (den_cv rfl rfl rfl) <|
    atOk_cons (den_cv rfl rfl (wru8_idem _)) <|
    atOk_cons (den_bc rfl rfl rfl (or128 _)) <|
    atOk_cons (den_cv rfl rfl (or128_idem _)) <|
    atOk_cons (den_bc rfl rfl rfl (vI_eq .u64 _)) <|
    atOk_cons (den_geq rfl h1) <|
    atOk_cons (den_cv rfl rfl rfl) <|
    atOk_cons (den_cv rfl rfl (wru8_idem _)) <|
    atOk_cons (den_bc rfl rfl rfl (or128 _)) <|
    atOk_cons (den_cv rfl rfl (or128_idem _)) <|
    atOk_cons (den_bc rfl rfl rfl (vI_eq .u64 _)) <|
    atOk_cons (den_geq rfl h2) <|
    atOk_cons (den_cv rfl rfl rfl) <|
    atOk_cons (den_cv rfl rfl (wru8_idem _)) <|
    atOk_cons (den_bc rfl rfl rfl (or128 _)) <|
    atOk_cons (den_cv rfl rfl (or128_idem _)) <|
    atOk_cons (den_bc rfl rfl rfl (vI_eq .u64 _)) <|
    atOk_cons (den_geq rfl h3) <|
    atOk_cons (den_cv rfl rfl rfl) <|
    atOk_cons (den_cv rfl rfl (wru8_idem _)) <| atOk_nil
theorem pn_run13 : isS5 (evC envL 1000 100 196 [.at 0 tbP13] H0) = true := by kernel_rfl
noncomputable def tbP14 : List (Nat × AtO × AtV) := [(0, .cv .i32, .at 1), (1, .cv .i64, .at 0), (0, .bc .lss .i64 0, .bool true), (0, .cb .mul .i64 2, .at 2), (2, .cv .u64, .at 5), (0, .cb .mul .i64 (-2), .at 3), (3, .bc .sub .i64 1, .at 4), (4, .cv .u64, .at 6), (6, .bc .geq .u64 128, .bool true), (6, .cv .u8, .at 11), (11, .cv .u8, .at 11), (11, .bc .or .u8 128, .at 16), (16, .cv .u8, .at 16), (6, .bc .shr .u64 7, .at 7), (7, .bc .geq .u64 128, .bool true), (7, .cv .u8, .at 12), (12, .cv .u8, .at 12), (12, .bc .or .u8 128, .at 17), (17, .cv .u8, .at 17), (7, .bc .shr .u64 7, .at 8), (8, .bc .geq .u64 128, .bool true), (8, .cv .u8, .at 13), (13, .cv .u8, .at 13), (13, .bc .or .u8 128, .at 18), (18, .cv .u8, .at 18), (8, .bc .shr .u64 7, .at 9), (9, .bc .geq .u64 128, .bool true), (9, .cv .u8, .at 14), (14, .cv .u8, .at 14), (14, .bc .or .u8 128, .at 19), (19, .cv .u8, .at 19), (9, .bc .shr .u64 7, .at 10), (10, .bc .geq .u64 128, .bool false), (10, .cv .u8, .at 15), (15, .cv .u8, .at 15)]
theorem tbP14_ok {x : Int} (hf : wr .i64 (wr .i32 x) = x) (hn : decide (x < 0) = true) (h0 : decide (pnU x true 0 ≥ 128) = true) (h1 : decide (pnU x true 1 ≥ 128) = true) (h2 : decide (pnU x true 2 ≥ 128) = true) (h3 : decide (pnU x true 3 ≥ 128) = true) (h4 : decide (pnU x true 4 ≥ 128) = false) : AtOk (sgPn x true) tbP14 :=
  atOk_cons (den_cv rfl rfl rfl) <|
    atOk_cons (den_cv rfl rfl hf) <|
    atOk_cons (den_lss rfl hn) <|
    atOk_cons (den_cb rfl rfl rfl (vI_eq .i64 _)) <|
    atOk_cons (den_cv rfl rfl rfl) <|
    atOk_cons (den_cb rfl rfl rfl (vI_eq .i64 _)) <|
    atOk_cons (den_bc rfl rfl rfl (vI_eq .i64 _)) <|
    atOk_cons (den_cv rfl rfl rfl) <|
    atOk_cons (den_geq rfl h0) <|
    atOk_cons (den_cv rfl rfl rfl) <|
    atOk_cons (den_cv rfl rfl (wru8_idem _)) <|
    atOk_cons (den_bc rfl rfl rfl (or128 _)) <|
    atOk_cons (den_cv rfl rfl (or128_idem _)) <|
    atOk_cons (den_bc rfl rfl rfl (vI_eq .u64 _)) <|
    atOk_cons (den_geq rfl h1) <|
    atOk_cons (den_cv rfl rfl rfl) <|
    atOk_cons (den_cv rfl rfl (wru8_idem _)) <|
    atOk_cons (den_bc rfl rfl rfl (or128 _)) <|
    atOk_cons (den_cv rfl rfl (or128_idem _)) <|
    atOk_cons (den_bc rfl rfl rfl (vI_eq .u64 _)) <|
    atOk_cons (den_geq rfl h2) <|
    atOk_cons (den_cv rfl rfl rfl) <|
    atOk_cons (den_cv rfl rfl (wru8_idem _)) <|
    atOk_cons (den_bc rfl rfl rfl (or128 _)) <|
    atOk_cons (den_cv rfl rfl (or128_idem _)) <|
    atOk_cons (den_bc rfl rfl rfl (vI_eq .u64 _)) <|
    atOk_cons (den_geq rfl h3) <|
    atOk_cons (den_cv rfl rfl rfl) <|
    atOk_cons (den_cv rfl rfl (wru8_idem _)) <|
    atOk_cons (den_bc rfl rfl rfl (or128 _)) <|
    atOk_cons (den_cv rfl rfl (or128_idem _)) <|
    atOk_cons (den_bc rfl rfl rfl (vI_eq .u64 _)) <|
    atOk_cons (den_geq rfl h4) <|
    atOk_cons (den_cv rfl rfl rfl) <|
    atOk_cons (den_cv rfl rfl (wru8_idem _)) <| atOk_nil
theorem pn_run14 : isS5 (evC envL 1000 100 196 [.at 0 tbP14] H0) = true := by kernel_rfl

theorem fdiv128 (a : Int) : Int.fdiv a 128 = a / 128 := Int.fdiv_eq_ediv_of_nonneg a (by decide)
theorem pnU4_lt {x : Int} {neg : Bool} (h0 : 0 ≤ pnU0 x neg) (h1 : pnU0 x neg < 34359738368) : ¬ pnU x neg 4 ≥ 128 := by
  show ¬ Int.fdiv (Int.fdiv (Int.fdiv (Int.fdiv (pnU0 x neg) 128) 128) 128) 128 ≥ 128
  generalize pnU0 x neg = u at *
  rw [fdiv128, fdiv128, fdiv128, fdiv128]
  omega
theorem wru64_id {n : Int} (h0 : 0 ≤ n) (h1 : n < 18446744073709551616) : wr .u64 n = n := by
  rw [wr_eq]
  simp only [IntKind.wrap, IntKind.bits, IntKind.signed]
  simp
  omega
theorem pnU0_rng {x : Int} {neg : Bool} (h1 : -2147483648 ≤ x) (h2 : x ≤ 2147483647) (hn : decide (x < 0) = neg) : 0 ≤ pnU0 x neg ∧ pnU0 x neg < 34359738368 := by
  cases neg with
  | true =>
    have hx : x < 0 := of_decide_eq_true hn
    show 0 ≤ wr .u64 (wr .i64 (isub (wr .i64 (-2 * x)) 1)) ∧ wr .u64 (wr .i64 (isub (wr .i64 (-2 * x)) 1)) < 34359738368
    rw [isub_eq, wr64_id (n := -2 * x) (by omega) (by omega), wr64_id (n := -2 * x - 1) (by omega) (by omega), wru64_id (by omega) (by omega)]
    omega
  | false =>
    have hx : ¬ x < 0 := of_decide_eq_false hn
    show 0 ≤ wr .u64 (wr .i64 (2 * x)) ∧ wr .u64 (wr .i64 (2 * x)) < 34359738368
    rw [wr64_id (n := 2 * x) (by omega) (by omega), wru64_id (by omega) (by omega)]
    omega
theorem putnum_calls {W : World} (hW : AsciiOk W) (x : Int) : Entered Tryz.prog 196 ∧ Str5 W x := by
  by_cases hf : wr .i64 (wr .i32 x) = x
  · have hr := wr32_range x
    rw [wr64_32] at hf
    have h1 : -2147483648 ≤ x ∧ x ≤ 2147483647 := by rw [hf] at hr; exact hr
    have hf' : wr .i64 (wr .i32 x) = x := by rw [wr64_32]; exact hf
    cases hn : decide (x < 0) with
    | false =>
      obtain ⟨u1, u2⟩ := pnU0_rng h1.1 h1.2 hn
      cases h0 : decide (pnU x false 0 ≥ 128) with
      | false => exact s5_of pn_run00 hW rfl (tbP00_ok hf' hn h0)
      | true =>
        cases h1 : decide (pnU x false 1 ≥ 128) with
        | false => exact s5_of pn_run01 hW rfl (tbP01_ok hf' hn h0 h1)
        | true =>
          cases h2 : decide (pnU x false 2 ≥ 128) with
          | false => exact s5_of pn_run02 hW rfl (tbP02_ok hf' hn h0 h1 h2)
          | true =>
            cases h3 : decide (pnU x false 3 ≥ 128) with
            | false => exact s5_of pn_run03 hW rfl (tbP03_ok hf' hn h0 h1 h2 h3)
            | true =>
              cases h4 : decide (pnU x false 4 ≥ 128) with
              | false => exact s5_of pn_run04 hW rfl (tbP04_ok hf' hn h0 h1 h2 h3 h4)
              | true =>
                exact absurd (of_decide_eq_true h4) (pnU4_lt u1 u2)
    | true =>
      obtain ⟨u1, u2⟩ := pnU0_rng h1.1 h1.2 hn
      cases h0 : decide (pnU x true 0 ≥ 128) with
      | false => exact s5_of pn_run10 hW rfl (tbP10_ok hf' hn h0)
      | true =>
        cases h1 : decide (pnU x true 1 ≥ 128) with
        | false => exact s5_of pn_run11 hW rfl (tbP11_ok hf' hn h0 h1)
        | true =>
          cases h2 : decide (pnU x true 2 ≥ 128) with
          | false => exact s5_of pn_run12 hW rfl (tbP12_ok hf' hn h0 h1 h2)
          | true =>
            cases h3 : decide (pnU x true 3 ≥ 128) with
            | false => exact s5_of pn_run13 hW rfl (tbP13_ok hf' hn h0 h1 h2 h3)
            | true =>
              cases h4 : decide (pnU x true 4 ≥ 128) with
              | false => exact s5_of pn_run14 hW rfl (tbP14_ok hf' hn h0 h1 h2 h3 h4)
              | true =>
                exact absurd (of_decide_eq_true h4) (pnU4_lt u1 u2)
  · refine s5_of (σ := sg [(.i64, x), (.i32, wr .i32 x), (.i64, wr .i64 (wr .i32 x))]) pn_runNo hW rfl ?_
    exact atOk_cons (den_cv rfl rfl rfl) <| atOk_cons (den_cv rfl rfl rfl) <| atOk_cons (den_ea (k := .i64) (a := x) (c := wr .i64 (wr .i32 x)) rfl rfl (beq_eq_false_iff_ne.2 fun h => hf h.symm)) <| atOk_nil

noncomputable def crO (r : CR) : Option (AV × Hp) := CR.rec (motive := fun _ => Option (AV × Hp)) (fun v H => some (v, H)) (fun _ _ => none) none r
noncomputable def putnumS (args : List AV) (H : Hp) : Option (AV × Hp) :=
  match args with
  | [.at i tb] => opt (atL i .w32 tb) none fun _ => some (.strq 5, H)
  | args => crO (evC envL 1000 100 196 args H)
noncomputable def word3 (i : Nat) : Option (List AV → Hp → Option (AV × Hp)) := cnd (Nat.beq i 196) (some putnumS) (word2 i)
noncomputable def env3 : Env := eF (mkPT (ccW word3))
theorem env3_ty : env3.ty = env.ty := by unfold env3 env eF; rfl
theorem env3_gl : env3.gl = env.gl := by unfold env3 env eF; rfl
theorem env3_cc : CcOk env3 := words_cc
theorem env3_fn {f : Nat} {x : Func} (h : fnOf env3 f = some x) : fnL[f]? = some x := words_fn h
theorem putnum_ok {E : Env} (hgl : E.gl = env.gl) {W : World} (hW : AsciiOk W) : CallOk Tryz.prog E W.heap.size W fun f' args H => if f' = 196 then sumK (putnumS args H) else .no := by
  intro f' args H r he hr ι w cargs hR ha
  replace he : (if f' = 196 then sumK (putnumS args H) else CR.no) = r := he
  have hf : f' = 196 := Classical.byContradiction fun hne => by
    rw [if_neg hne] at he
    exact hr he.symm
  subst hf
  rw [if_pos rfl] at he
  unfold sumK at he
  obtain ⟨p, h1, h2⟩ := optC_ne he hr
  have plain : ∀ args', crO (evC envL 1000 100 196 args' H) = some p → LRel ι args' cargs → Entered Tryz.prog 196 ∧ Calls Tryz.prog 196 cargs.toArray w (CPost E W.heap.size W ι H r) := by
    intro args' hp ha'
    generalize hx : evC envL 1000 100 196 args' H = q at hp
    cases q with
    | no => cases hp
    | pan v H' => cases hp
    | ret v H' =>
      cases hp
      obtain ⟨k1, k2⟩ := envL_call (base := W.heap.size) (w0 := W) 1000 100 196 args' H _ hx (by intro e; cases e) ι w cargs (hR.env (envL_gl.trans hgl.symm)) ha'
      refine ⟨k1, Calls.mono k2 fun e W' h3 => ?_⟩
      cases e with
      | returned c =>
        obtain ⟨v', H2, ι', e1, e2, e3, e4⟩ := h3
        cases e1
        exact ⟨v, H', ι', h2.symm, e2, e3.env (hgl.trans envL_gl.symm), e4⟩
      | panicked ch =>
        obtain ⟨v', H2, ι', c, e1, _⟩ := h3
        cases e1
      | outgrown => exact h3.elim
  unfold putnumS at h1
  split at h1
  · rename_i i tb
    obtain ⟨v, k1, k2⟩ := opt_eq_some h1
    cases k2
    cases ha with
    | cons _ c _ L hc ha =>
      cases ha
      obtain ⟨ho, rfl⟩ := at_rel hc
      obtain ⟨q, g1, g2⟩ := atL_some ho k1
      have hk : (ι.s i).1 = .i64 := by
        replace g1 : (match (ι.s i).1 with | .i64 => some (AV.int .i64 (wr .i32 (ι.s i).2)) | _ => none) = some (AtV.av ι.s q) := g1
        cases hh : (ι.s i).1 <;> rw [hh] at g1 <;> first | (cases g1; done) | rfl
      rw [hk]
      have hw : AsciiOk w := fun k hk => by
        rw [hR.below.cell (p := ⟨0, k, none⟩) hW.pos]
        exact hW k hk
      obtain ⟨h3, h4⟩ := putnum_calls hw (ι.s i).2
      refine ⟨h3, Calls.mono h4 fun e W' h5 => ?_⟩
      obtain ⟨⟨s, rfl, hs⟩, h6⟩ := h5
      exact ⟨.strq 5, H, ι, h2.symm, .strq 5 s hs, hR.of_below h6, .refl ι H⟩
  · exact plain _ h1 ha
theorem word3_ok {E : Env} (hgl : E.gl = env.gl) {W : World} (hW : AsciiOk W) {f : Nat} {g : List AV → Hp → Option (AV × Hp)} (h1 : word3 f = some g) : CallOk Tryz.prog E W.heap.size W fun f' args H => if f' = f then sumK (g args H) else .no := by
  unfold word3 at h1
  rw [cnd_eq] at h1
  split at h1
  · rename_i e
    obtain rfl := Nat.eq_of_beq_eq_true e
    cases h1
    exact putnum_ok hgl hW
  · exact word2_ok hgl hW h1
theorem env3_sums {W : World} (hW : AsciiOk W) : SumsOk Tryz.prog env3 W.heap.size W := fun _ _ h => word3_ok env3_gl hW (words_sm h)
theorem env3_call {W : World} (hW : AsciiOk W) (nl n : Nat) : CallOk Tryz.prog env3 W.heap.size W (evC env3 nl n) := evC_sound (ok_of env3_ty fun _ _ => env3_fn) env_mixed (code_of fun _ _ => env3_fn) (env3_sums hW) env3_cc nl n
theorem run3_true {f nl n : Nat} {args : List AV} (h : isTrue (evC env3 nl n f args H0) = true) {W : World} (hL : laidMetH Tryz.prog laid2 W) {cargs : List Value} (ha : LRel (injS σ) args cargs) :
    Calls Tryz.prog f cargs.toArray W fun e W' => e = .returned (.bool true) ∧ Below W.heap.size W W' :=
  (run_of (E := env3) env3_gl h (env3_call (ascii_cell hL) nl n) (ascii_cell hL) ha).2
end Go.Ev
