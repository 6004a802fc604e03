/- Slicing; all the operations that only reckon, together. -/
import Derived.Test.YtmjccopjophgjaaGreatDoorEvVal2
import Derived.Lib.Strings
namespace Go.Ev
variable {P : Program} {E : Env} {ι : Inj} {w : World} {T : PT AV} {L : List AV} {lk : Look} {a : Act}

theorem bnd_run {y m : Nat} {x : AV} {cx : Value} (hx : VRel ι x cx) (h : bnd y x = some m) : m ≤ y ∧ ∀ y', m ≤ y' → ∀ code, (Instr.sliceBound cx y' code).run P w = .ok m w := by
  unfold bnd at h
  split at h
  · rename_i k q
    obtain ⟨h1, h2⟩ := cnd_some h
    cases h2
    have e := int_rel hx; subst e
    refine ⟨Nat.le_of_ble_eq_true h1, fun y' hy code => ?_⟩
    have hb : (0 ≤ Int.ofNat m ∧ Int.ofNat m ≤ (y' : Int)) := ⟨by simp, by simp only [Int.ofNat_eq_natCast]; omega⟩
    simp only [Instr.sliceBound, asIntOf, Sem.run_bind, Sem.run_pure, Result.andThen_ok]
    rw [if_pos hb]; rfl
  · cases h
/-- A bound that is asked for, or not. -/
def BndOk (P : Program) (w : World) (x : Option Value) (y m d : Nat) : Prop :=
  match x with
  | some v => ∀ code, (Instr.sliceBound v y code).run P w = .ok m w
  | none => m = d
theorem bndI {m y d : Nat} (h : m ≤ y) : BndOk P w (some (.int .i64 m)) y m d := by
  have : bnd y (.int .i64 (.ofNat m)) = some m := by
    show cnd (Nat.ble m y) (some m) none = _
    rw [Nat.ble_eq_true_of_le h]; rfl
  exact fun code => (bnd_run (P := P) (w := w) (ι := ⟨fun _ => none, fun _ => (.i64, 0)⟩) (.int .i64 (.ofNat m)) this).2 y h code
theorem bounds_run {isS : Bool} {n c lv hv mv : Nat} {lo hi mx : Option Value} (hmx : mx.isSome = true → hi.isSome = true) (hm : BndOk P w mx c mv c) (hh : BndOk P w hi mv hv n) (hl : BndOk P w lo hv lv 0) :
    (Instr.sliceBounds isS n c lo hi mx).run P w = .ok (lv, hv, mv) w := by
  unfold Instr.sliceBounds
  cases mx with
  | none =>
    have hm' : mv = c := hm
    subst hm'
    cases hi with
    | none =>
      have hh' : hv = n := hh
      subst hh'
      cases lo with
      | none => have hl' : lv = 0 := hl; subst hl'; simp
      | some v => simp [hl _]
    | some u =>
      cases lo with
      | none => have hl' : lv = 0 := hl; subst hl'; simp [hh _]
      | some v => simp [hh _, hl _]
  | some q =>
    cases hi with
    | none => exact absurd (hmx rfl) (by decide)
    | some u =>
      cases lo with
      | none => have hl' : lv = 0 := hl; subst hl'; simp [hm _, hh _]
      | some v => simp [hm _, hh _, hl _]

theorem bndOk {b : Bool} {y m d : Nat} {x : AV} {X : Option Value} (hX : X.isSome = b) (hx : ∀ c, X = some c → VRel ι x c) (h : cnd b (bnd y x) (some d) = some m) (y' : Nat) (hy : m ≤ y → m ≤ y') : BndOk P w X y' m d := by
  cases X with
  | none => cases hX; cases h; rfl
  | some c =>
    cases hX
    obtain ⟨h1, h2⟩ := bnd_run (P := P) (w := w) (hx c rfl) h
    exact fun code => h2 y' (hy h1) code
theorem bnd_le {b : Bool} {y m d : Nat} {x : AV} {X : Option Value} (hX : X.isSome = b) (hx : ∀ c, X = some c → VRel ι x c) (h : cnd b (bnd y x) (some d) = some m) : m ≤ y ∨ m = d := by
  cases X with
  | none => cases hX; cases h; exact .inr rfl
  | some c => cases hX; exact .inl (bnd_run (P := default) (w := default) (hx c rfl) h).1

theorem slice_at (hE : EnvOk P E) {t e : Nat} (hd : E.und t = some (.slice e)) (x : Value) (lo hi mx : Option Value) : (Instr.sliceAt t x lo hi mx).run P w = (Instr.slice t x lo hi mx).run P w := by
  simp [Instr.sliceAt, und_run (P := P) (w := w) hE hd]
theorem slice_atS (hE : EnvOk P E) {t : Nat} (hd : E.und t = some .string) (x : Value) (lo hi mx : Option Value) : (Instr.sliceAt t x lo hi mx).run P w = (Instr.slice t x lo hi mx).run P w := by
  simp [Instr.sliceAt, und_run (P := P) (w := w) hE hd]

theorem slS_gives (hE : EnvOk P E) {t e z : Nat} (hd : E.und t = some (.slice e)) (hz : E.size e = some z) {lo hi mx : Bool} {LO HI MX : Option Value} (hlo : LO.isSome = lo) (hhi : HI.isSome = hi) (hmx : MX.isSome = mx)
    {l h m : AV} (rl : ∀ c, LO = some c → VRel ι l c) (rh : ∀ c, HI = some c → VRel ι h c) (rm : ∀ c, MX = some c → VRel ι m c) (hi3 : mx = true → hi = true)
    {b : Pos} {o n : Nat} {c : Cap} {cs : Value} (hs : VRel ι (.sl b o n c) cs) {v : AV} (hv : avSlS z lo hi mx b o n c l h m = some v) : Gives P ι w (Instr.sliceAt t cs LO HI MX) v := by
  unfold avSlS at hv
  obtain ⟨mv, h1, hv⟩ := opt_eq_some hv
  obtain ⟨hv', h2, hv⟩ := opt_eq_some hv
  obtain ⟨h3, hv⟩ := cnd_some hv
  obtain ⟨lv, h4, hv⟩ := opt_eq_some hv
  rw [fNat_eq] at hv
  have ll : lv ≤ hv' := by
    rcases bnd_le hlo rl h4 with h | h
    · exact h
    · omega
  have hmx' : MX.isSome = true → HI.isSome = true := by rw [hmx, hhi]; exact hi3
  -- the model's run, once the capacity is known
  have run : ∀ (A : Addr) (C : Nat), (mx = true → mv ≤ C) → (mx = false → hi = true → hv' ≤ C) → (cs = .slice (some A) n C) →
      (Instr.sliceAt t cs LO HI MX).run P w = .ok (.slice (some (if (if mx then mv else C) = lv then A else A.add (lv * z))) (hv' - lv) ((if mx then mv else C) - lv)) w := by
    intro A C k1 k2 ecs
    rw [slice_at hE hd, ecs]
    have hb : (Instr.sliceBounds true n C LO HI MX).run P w = .ok (lv, hv', if mx then mv else C) w := by
      refine bounds_run hmx' ?_ ?_ ?_
      · cases mx with
        | true => exact bndOk hmx rm (d := C) (by simpa using h1) C (fun _ => k1 rfl)
        | false =>
          cases MX with
          | none => rfl
          | some _ => cases hmx
      · cases mx with
        | true =>
          have := hi3 rfl
          subst this
          refine bndOk hhi rh (y := mv) (by simpa using h2) mv (fun h => h)
        | false =>
          cases hi with
          | true => exact bndOk hhi rh h2 _ (fun _ => k2 rfl rfl)
          | false =>
            cases HI with
            | none => cases h2; rfl
            | some _ => cases hhi
      · exact bndOk hlo rl h4 hv' (fun h => h)
    simp only [Instr.slice, Sem.run_bind, und_run (P := P) (w := w) hE hd, Result.andThen_ok, hb, size_run (P := P) (w := w) hE hz, Sem.run_pure]
    generalize (if mx = true then mv else C) = M
    by_cases hM : M = lv
    · rw [if_pos hM, if_pos hM]
    · rw [if_neg hM, if_neg hM]; rfl
  -- which bound each comes under
  have bm : mx = true → mv ≤ c.n n := by
    intro e; subst e
    cases MX with
    | none => cases hmx
    | some q => exact (bnd_run (P := P) (w := w) (rm q rfl) h1).1
  have bh : mx = false → hi = true → hv' ≤ c.n n := by
    intro e1 e2; subst e1; subst e2
    cases HI with
    | none => cases hhi
    | some q => exact (bnd_run (P := P) (w := w) (rh q rfl) h2).1
  -- the result where the capacity is asked for
  have withM : ∀ (r d zz : Nat), ι b = some (r, d, zz) → mx = true → cnd mx (fNat (Nat.add o (cnd (Nat.beq mv lv) 0 (Nat.mul lv z))) fun o' => fNat (Nat.sub mv lv) fun cv => some (AV.sl b o' (Nat.sub hv' lv) (.ex cv))) (avSlC z b o lv (Nat.sub hv' lv) c) = some v →
      ∀ C, VRel ι v (.slice (some (if (if mx = true then mv else C) = lv then ⟨r, d + o, none⟩ else (⟨r, d + o, none⟩ : Addr).add (lv * z))) (hv' - lv) ((if mx = true then mv else C) - lv)) := by
    intro r d zz hr e hv C
    subst e
    rw [cnd_true, fNat_eq, fNat_eq] at hv
    cases hv
    rw [if_pos rfl, cnd_eq]
    by_cases hq : mv = lv
    · subst hq
      rw [if_pos rfl, if_pos (Nat.beq_refl _)]
      exact .sl b o _ _ r d zz hr
    · rw [if_neg hq, if_neg (fun h => hq (Nat.eq_of_beq_eq_true h)), add_none, Nat.add_assoc]
      exact .sl b _ _ _ r d zz hr
  cases hs with
  | sl _ _ _ C r d zz hr =>
    have hrun := run ⟨r, d + o, none⟩ C bm bh rfl
    refine ⟨_, hrun, ?_⟩
    by_cases hmxv : mx = true
    · exact withM r d zz hr hmxv hv C
    · have hf : mx = false := eq_false_of_ne_true hmxv
      subst hf
      rw [cnd_false] at hv
      replace hv : fNat (Nat.add o (cnd (Nat.beq C lv) 0 (Nat.mul lv z))) (fun o' => fNat (Nat.sub C lv) fun cv => some (AV.sl b o' (Nat.sub hv' lv) (.ex cv))) = some v := hv
      rw [fNat_eq, fNat_eq] at hv
      cases hv
      simp only [Bool.false_eq_true, if_false]
      rw [cnd_eq]
      by_cases hq : C = lv
      · subst hq
        rw [if_pos rfl, if_pos (Nat.beq_refl _)]
        exact .sl b o _ _ r d zz hr
      · rw [if_neg hq, if_neg (fun h => hq (Nat.eq_of_beq_eq_true h)), add_none, Nat.add_assoc]
        exact .sl b _ _ _ r d zz hr
  | slu _ _ _ C r d zz ee hr hc hcz =>
    have hrun := run ⟨r, d + o, none⟩ C (fun e => Nat.le_trans (bm e) hc) (fun e1 e2 => Nat.le_trans (bh e1 e2) hc) rfl
    refine ⟨_, hrun, ?_⟩
    by_cases hmxv : mx = true
    · exact withM r d zz hr hmxv hv C
    · have hf : mx = false := eq_false_of_ne_true hmxv
      subst hf
      rw [cnd_false] at hv
      replace hv : cnd (Nat.beq ee z) (fNat (Nat.add o (Nat.mul lv z)) fun o' => some (AV.sl b o' (Nat.sub hv' lv) (.op ee))) none = some v := hv
      obtain ⟨hez, hv⟩ := cnd_some hv
      have hez' := Nat.eq_of_beq_eq_true hez
      subst hez'
      rw [fNat_eq] at hv
      cases hv
      simp only [Bool.false_eq_true, if_false]
      have hle : hv' ≤ n := by
        cases hi with
        | true => exact bh rfl rfl
        | false => cases h2; exact Nat.le_refl _
      by_cases hq : C = lv
      · subst hq
        rw [if_pos rfl, show hv' - C = 0 by omega, show C - C = 0 by omega, show Nat.sub hv' C = 0 from by show hv' - C = 0; omega]
        exact .slv b _ r d zz _ (.op ee) hr rfl
      · rw [if_neg hq, add_none, Nat.add_assoc]
        have hlC : lv ≤ C := by omega
        refine .slu b _ _ _ r d zz ee hr (by show hv' - lv ≤ C - lv; omega) ?_
        show o + lv * ee + (C - lv) * ee ≤ zz
        rw [Nat.add_assoc, ← Nat.add_mul, show lv + (C - lv) = C by omega]
        exact hcz
  | slv _ _ r d zz A _ hr hc =>
    rw [hc] at bm bh
    have hrun := run A 0 bm bh rfl
    refine ⟨_, hrun, ?_⟩
    have hv0 : hv' = 0 := by
      cases hi with
      | true =>
        cases mx with
        | true =>
          cases HI with
          | none => cases hhi
          | some q =>
            have := (bnd_run (P := P) (w := w) (rh q rfl) (show bnd mv h = some hv' from by simpa using h2)).1
            have := bm rfl
            omega
        | false => have := bh rfl rfl; omega
      | false => cases h2; rfl
    subst hv0
    have hl0 : lv = 0 := by omega
    subst hl0
    have ez : (if (if mx = true then mv else 0) = 0 then A else A.add (0 * z)) = A := by
      rw [Nat.zero_mul]
      have : A.add 0 = A := by unfold Addr.add; rw [if_pos rfl]
      rw [this, ite_self]
    rw [ez]
    cases mx with
    | true =>
      have hm0 : mv = 0 := by have := bm rfl; omega
      subst hm0
      rw [cnd_true, fNat_eq, fNat_eq] at hv
      cases hv
      exact .slv b _ r d zz A (.ex 0) hr rfl
    | false =>
      rw [cnd_false] at hv
      cases c with
      | ex c =>
        have hc0 : c = 0 := hc
        subst hc0
        replace hv : fNat (Nat.add o (cnd (Nat.beq 0 0) 0 (Nat.mul 0 z))) (fun o' => fNat (Nat.sub 0 0) fun cv => some (AV.sl b o' (Nat.sub 0 0) (.ex cv))) = some v := hv
        rw [fNat_eq, fNat_eq] at hv
        cases hv
        exact .slv b _ r d zz A (.ex 0) hr rfl
      | op e =>
        replace hv : cnd (Nat.beq e z) (fNat (Nat.add o (Nat.mul 0 z)) fun o' => some (AV.sl b o' (Nat.sub 0 0) (.op e))) none = some v := hv
        obtain ⟨_, hv⟩ := cnd_some hv
        rw [fNat_eq] at hv
        cases hv
        exact .slv b _ r d zz A (.op e) hr rfl

theorem slL_gives (hE : EnvOk P E) {t z e : Nat} (hd : E.und t = some (.slice e)) (hz : E.size e = some z) {lo hi mx : Bool} {LO HI MX : Option Value} (hlo : LO.isSome = lo) (hhi : HI.isSome = hi) (hmx : MX.isSome = mx)
    {s l h m : AV} (rl : ∀ c, LO = some c → VRel ι l c) (rh : ∀ c, HI = some c → VRel ι h c) (rm : ∀ c, MX = some c → VRel ι m c) (hi3 : mx = true → hi = true)
    {cs : Value} (hs : VRel ι s cs) {v : AV} (hv : avSl z lo hi mx [s, l, h, m] = some v) : Gives P ι w (Instr.sliceAt t cs LO HI MX) v := by
  have hmx' : MX.isSome = true → HI.isSome = true := by rw [hmx, hhi]; exact hi3
  cases s with
  | sl b o n c => exact slS_gives hE hd hz hlo hhi hmx rl rh rm hi3 hs hv
  | snil =>
    replace hv : opt (cnd mx (bnd 0 m) (some 0)) none (fun _ => opt (cnd hi (bnd 0 h) (some 0)) none fun _ => opt (cnd lo (bnd 0 l) (some 0)) none fun _ => some AV.snil) = some v := hv
    obtain ⟨mv, h1, hv⟩ := opt_eq_some hv
    obtain ⟨hv', h2, hv⟩ := opt_eq_some hv
    obtain ⟨lv, h3, hv⟩ := opt_eq_some hv
    cases hv
    cases hs
    have zero : ∀ {b : Bool} {x : AV} {X : Option Value} {q : Nat}, X.isSome = b → (∀ c, X = some c → VRel ι x c) → cnd b (bnd 0 x) (some 0) = some q → q = 0 ∧ BndOk P w X 0 0 0 := by
      intro b x X q hX hx hq
      have : q = 0 := by rcases bnd_le hX hx hq with h | h <;> omega
      subst this
      exact ⟨rfl, bndOk hX hx hq 0 (fun h => h)⟩
    have hb : (Instr.sliceBounds true 0 0 LO HI MX).run P w = .ok (0, 0, 0) w :=
      bounds_run hmx' (zero hmx rm h1).2 (zero hhi rh h2).2 (zero hlo rl h3).2
    refine ⟨.slice none 0 0, ?_, .snil⟩
    rw [slice_at hE hd]
    simp [Instr.slice, und_run (P := P) (w := w) hE hd, hb, size_run (P := P) (w := w) hE hz]
  | _ => cases hv
theorem tkByte_bs {σ : Nat → IntKind × Int} : ∀ {r : List Tk} {b : List Nat}, mapO tkByte r = some b → tksB σ r = b
  | [], b, h => by cases h; rfl
  | t :: r, b, h => by
    obtain ⟨y, ys, h1, h2, rfl⟩ := mapO_cons h
    have ih := tkByte_bs (σ := σ) h2
    have e : tksB σ (t :: r) = t.bs σ ++ tksB σ r := by simp [tksB]
    rw [e, ih]
    cases t with
    | b n => cases h1; rfl
    | _ => cases h1
/-- a place in a string of pieces -/
theorem tkPl_rel {l : List Tk} {x : AV} {c : Value} (hx : VRel ι x c) {k : Nat} (h : tkPl l x = some k) : c = .int .i64 (tksB ι.s (l.take k)).length ∧ k ≤ l.length := by
  unfold tkPl at h
  split at h
  · rename_i n
    obtain ⟨r, h1, h⟩ := opt_eq_some h
    obtain ⟨h2, h⟩ := cnd_some h
    cases h
    obtain ⟨h3, rfl⟩ := take_tk h1
    rw [int_rel hx, tksB_one ι.s h2, List.length_take, Nat.min_eq_left h3]
    exact ⟨rfl, h3⟩
  · rename_i l' k'
    obtain ⟨h1, h⟩ := cnd_some h
    cases h
    obtain rfl := tksEq_eq h1
    cases hx with
    | pos _ _ n hn hl _ => rw [hn]; exact ⟨rfl, hl⟩
  · cases h
theorem slX_gives (hE : EnvOk P E) {t : Nat} (hd : E.und t = some .string) {lo hi mx : Bool} {LO HI MX : Option Value} (hlo : LO.isSome = lo) (hhi : HI.isSome = hi) (hmx : MX.isSome = mx)
    {s l h m : AV} (rl : ∀ c, LO = some c → VRel ι l c) (rh : ∀ c, HI = some c → VRel ι h c)
    {cs : Value} (hs : VRel ι s cs) {v : AV} (hv : avSlX lo hi mx [s, l, h, m] = some v) : Gives P ι w (Instr.sliceAt t cs LO HI MX) v := by
  cases s with
  | str l' =>
    replace hv : cnd mx none (avSlT lo hi l' l h) = some v := hv
    obtain ⟨hm, hv⟩ := cnd_some' hv
    subst hm
    unfold avSlT at hv
    obtain ⟨hv', h1, hv⟩ := opt_eq_some hv
    obtain ⟨lv, h2, hv⟩ := opt_eq_some hv
    obtain ⟨r, h3, hv⟩ := opt_eq_some hv
    cases hv
    obtain ⟨u, rfl, hu⟩ := str_rel hs
    have hlen := size_str hu
    rw [len_eq, ← hlen] at h1
    have hMX : MX = none := by cases MX with | none => rfl | some _ => cases hmx
    subst hMX
    have hb : (Instr.sliceBounds false u.size u.size LO HI none).run P w = .ok (lv, hv', u.size) w := by
      refine bounds_run (fun h => by cases h) rfl ?_ ?_
      · cases hi with
        | true => exact bndOk hhi rh h1 _ (fun h => h)
        | false =>
          cases HI with
          | none => cases h1; rfl
          | some _ => cases hhi
      · exact bndOk hlo rl h2 hv' (fun h => h)
    refine ⟨.string (u.extract lv hv'), ?_, ?_⟩
    · rw [slice_atS hE hd]
      simp [Instr.slice, und_run (P := P) (w := w) hE hd, hb]
    · refine .str _ _ ?_
      obtain ⟨h4, h5⟩ := sub_eq h3
      rw [Lib.extract_data, List.map_take, List.map_drop, hu, h5]; rfl
  | stk l' =>
    replace hv : cnd (iand hi (inot mx)) (avSlK lo l' l h) none = some v := hv
    obtain ⟨h0, hv⟩ := cnd_some hv
    simp only [iand_eq, Bool.and_eq_true, inot_eq, Bool.not_eq_true'] at h0
    obtain ⟨hh, hm⟩ := h0
    subst hh
    subst hm
    have hMX : MX = none := by cases MX with | none => rfl | some _ => cases hmx
    subst hMX
    obtain ⟨j, h1, hv⟩ := opt_eq_some hv
    obtain ⟨k, h2, hv⟩ := opt_eq_some hv
    obtain ⟨h3, hv⟩ := cnd_some hv
    obtain ⟨r, h4, hv⟩ := opt_eq_some hv
    obtain ⟨b, h5, hv⟩ := opt_eq_some hv
    cases hv
    have hjk := Nat.le_of_ble_eq_true h3
    cases hs with
    | stk _ u hu hk =>
      have hlen : u.size = (tksB ι.s l').length := by rw [← hu, List.length_map, Array.length_toList]; rfl
      obtain ⟨cH, eH⟩ : ∃ c, HI = some c := by cases HI with | none => cases hhi | some c => exact ⟨c, rfl⟩
      subst eH
      obtain ⟨rfl, _⟩ := tkPl_rel (rh cH rfl) h2
      have rL : (if lo then LO else some (.int .i64 0)) = some (.int .i64 (tksB ι.s (l'.take j)).length) := by
        cases lo with
        | false => cases h1; rfl
        | true =>
          cases LO with
          | none => cases hlo
          | some c => rw [(tkPl_rel (rl c rfl) h1).1]; rfl
      have hq : (tksB ι.s (l'.take k)).length ≤ u.size := by rw [hlen]; exact tks_take k
      have hp := tks_take_le (σ := ι.s) (l := l') hjk
      have hb : (Instr.sliceBounds false u.size u.size LO (some (.int .i64 (tksB ι.s (l'.take k)).length)) none).run P w = .ok ((tksB ι.s (l'.take j)).length, (tksB ι.s (l'.take k)).length, u.size) w := by
        refine bounds_run (fun h => by cases h) rfl ?_ ?_
        · exact bndI (by omega)
        · cases lo with
          | false =>
            cases LO with
            | none =>
              have : (tksB ι.s (l'.take j)).length = 0 := by cases h1; rfl
              rw [this]; rfl
            | some _ => cases hlo
          | true =>
            rw [if_pos rfl] at rL
            subst rL
            exact bndI (by omega)
      refine ⟨.string (u.extract (tksB ι.s (l'.take j)).length (tksB ι.s (l'.take k)).length), ?_, ?_⟩
      · rw [slice_atS hE hd]
        simp [Instr.slice, und_run (P := P) (w := w) hE hd, hb]
      · refine .str _ _ ?_
        obtain ⟨h6, h7⟩ := sub_tk h4
        have e1 : l'.take k = l'.take j ++ r := by rw [← h7]; congr 1; show k = j + (k - j); omega
        have e2 : tksB ι.s r = b := tkByte_bs h5
        have e3 : tksB ι.s l' = tksB ι.s (l'.take j) ++ (b ++ tksB ι.s (l'.drop k)) := by
          conv => lhs; rw [← List.take_append_drop k l', tksB_app, e1, tksB_app, e2, List.append_assoc]
        rw [Lib.extract_data, List.map_take, List.map_drop, hu, e3, List.drop_left, e1, tksB_app, List.length_append, e2, Nat.add_sub_cancel_left, List.take_left]
  | _ => cases hv

/-! ### all of them -/
theorem opdD_sound (hg : ∀ g b, E.gl g = some b → ∃ z, ι b = some (g, 0, z)) (hl : LkOk ι T L lk a) {x : Option Operand} {y : Opd} (h : E.opdD lk x = some y) : ∀ c, x.map a.eval = some c → VRel ι (y.ev T L) c := by
  intro c hc
  cases x with
  | none => cases hc
  | some x => cases hc; exact opd_sound hg hl h
theorem mapO_of {α β γ : Type} {f : α → Option β} {P : Program} {w : World} {g : α → Sem β} : ∀ {l : List α} {r : List β}, mapO f l = some r → (∀ x y, f x = some y → (g x).run P w = .ok y w) → (l.mapM g).run P w = .ok r w
  | [], r, h, _ => by cases h; rfl
  | x :: l, r, h, hf => by
    obtain ⟨y, ys, h1, h2, rfl⟩ := mapO_cons h
    rw [List.mapM_cons, Sem.run_bind, hf x y h1]
    simp only [Result.andThen_ok, Sem.run_bind, mapO_of (γ := γ) h2 hf, Sem.run_pure]
theorem mapO_get {α β : Type} {f : α → Option β} : ∀ {l : List α} {r : List β}, mapO f l = some r → ∀ i : Nat, r[i]? = (l[i]?).bind f
  | [], r, h, i => by cases h; simp
  | x :: l, r, h, i => by
    obtain ⟨y, ys, h1, h2, rfl⟩ := mapO_cons h
    cases i with
    | zero => simp [h1]
    | succ i => simpa using mapO_get h2 i
theorem mapO_length {α β : Type} {f : α → Option β} : ∀ {l : List α} {r : List β}, mapO f l = some r → r.length = l.length
  | [], r, h => by cases h; rfl
  | x :: l, r, h => by
    obtain ⟨y, ys, h1, h2, rfl⟩ := mapO_cons h
    simp [mapO_length h2]
theorem mapO_map {α β : Type} {f : α → Option β} : ∀ {l : List α} {r : List β}, mapO f l = some r → l.map f = r.map some
  | [], r, h => by cases h; rfl
  | x :: l, r, h => by
    obtain ⟨y, ys, h1, h2, rfl⟩ := mapO_cons h
    simp [h1, mapO_map h2]

theorem build_gives (hE : EnvOk P E) {t : Nat} {z : List AV} {d : TypeDesc} {ps : List (Nat × Operand)} {pl : List (Nat × Nat)} {ρ : Operand → Value} (hz : E.zcells t = some z) (hd : E.und t = some d)
    (hp : places E d ps = some pl) {vs : List AV} (hx : LRel ι vs ((ps.map (·.2)).map ρ)) {v : AV} (h : bldF pl z vs = some v) :
    Gives P ι w (Instr.build t (ps.map fun (i, x) => (i, ρ x)).toArray) v := by
  obtain ⟨l, h1, h2⟩ := opt_eq_some h
  replace h1 := fillQ_eq h1
  cases h2
  obtain ⟨zc, hz1, hz2⟩ := zcells_run (P := P) (ι := ι) (w := w) hE hz
  have hu := und_run (P := P) (w := w) hE hd
  have hvs : LRel ι vs ((ps.map fun (p : Nat × Operand) => (p.1, ρ p.2)).map (·.2)) := by
    have e : (ps.map fun (p : Nat × Operand) => (p.1, ρ p.2)).map (·.2) = (ps.map (·.2)).map ρ := by simp
    rw [e]; exact hx
  unfold places at hp
  split at hp
  · rename_i fs
    obtain ⟨pls, h3, h4⟩ := opt_eq_some hp
    have hm : (fs.mapM fun (f : Field) => (do pure (f.offset, ← sizeOf f.type) : Sem (Nat × Nat))).run P w = .ok pls.toArray w := by
      rw [Array.mapM_eq_mapM_toList]
      rw [Sem.run_map]
      have := mapO_of (γ := Unit) (P := P) (w := w) (g := fun (f : Field) => (do pure (f.offset, ← sizeOf f.type) : Sem (Nat × Nat))) h3 (fun f y hy => by
        unfold placeF at hy
        obtain ⟨s, h5, h6⟩ := opt_eq_some hy
        cases h6
        simp [size_run (P := P) (w := w) hE h5])
      rw [this]; rfl
    obtain ⟨R, hR1, hR2⟩ := fill_rel (ι := ι) (fun i => pls.toArray[i]?) pl vs z l h1 (ps.map fun (p : Nat × Operand) => (p.1, ρ p.2)) zc.cells (by
      have := mapO_map h4
      rw [List.map_map, ← this]
      apply List.map_congr_left
      intro p _
      simp) hvs hz2
    refine ⟨.agg R, ?_, ?_⟩
    · simp only [Instr.build, Sem.run_bind, hz1, Result.andThen_ok, hu, hm]
      rw [hR1]; rfl
    · simpa using VRel.agg l R.toList hR2
  · rename_i n e
    obtain ⟨s, h3, h4⟩ := opt_eq_some hp
    cases h4
    obtain ⟨R, hR1, hR2⟩ := fill_rel (ι := ι) (fun i => some (i * s, s)) _ vs z l h1 (ps.map fun (p : Nat × Operand) => (p.1, ρ p.2)) zc.cells (by
      simp [placesA]) hvs hz2
    refine ⟨.agg R, ?_, ?_⟩
    · simp only [Instr.build, Sem.run_bind, hz1, Result.andThen_ok, hu, size_run (P := P) (w := w) hE h3]
      rw [hR1]; rfl
    · simpa using VRel.agg l R.toList hR2
  · cases hp
end Go.Ev
