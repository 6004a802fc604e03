/- All the operations that only reckon, by their compiled form. -/
import Derived.Test.YtmjccopjophgjaaGreatDoorEvSl
namespace Go.Ev
variable {P : Program} {E : Env} {ι : Inj} {w : World} {T : PT AV} {L : List AV} {lk : Look} {a : Act}

theorem pure_sound (hE : EnvOk P E) (hg : ∀ g b, E.gl g = some b → ∃ z, ι b = some (g, 0, z)) (hl : LkOk ι T L lk a) {o : Oper} {q : K} (h : cK E lk o.op = some q) {v : AV} (hv : pv q T L = some v) :
    OpGives P ι w a.eval o v := by
  obtain ⟨dst, op, type, pos, after, guard⟩ := o
  have O : ∀ {x : Operand} {y : Opd}, E.opd lk x = some y → VRel ι (y.ev T L) (a.eval x) := fun h => opd_sound hg hl h
  cases op with
  | move x =>
    obtain ⟨y, h1, h2⟩ := K1_inv h
    cases h2
    rw [show pv (.p1 avId y) T L = avId (y.ev T L) from rfl, avId_eq] at hv
    cases hv
    exact ⟨_, rfl, O h1⟩
  | assign x =>
    obtain ⟨y, h1, h2⟩ := K1_inv h
    cases h2
    rw [show pv (.p1 avId y) T L = avId (y.ev T L) from rfl, avId_eq] at hv
    cases hv
    exact ⟨_, rfl, O h1⟩
  | pick c x y =>
    obtain ⟨u, h1, h2⟩ := K1_inv h
    obtain ⟨p, r, h3, h4, h5⟩ := K2_inv h2
    cases h5
    exact .of (pick_gives (P := P) (w := w) (O h1) (O h3) (O h4) hv) (by simp [execOp])
  | alloc t => obtain ⟨z, _, h2⟩ := opt_eq_some h; cases h2; cases hv
  | box t x => obtain ⟨y, _, h2⟩ := K1_inv h; cases h2; cases hv
  | build t ps =>
    obtain ⟨z, h1, h⟩ := opt_eq_some h
    obtain ⟨d, h2, h⟩ := opt_eq_some h
    obtain ⟨xs, h3, h⟩ := opt_eq_some h
    obtain ⟨pl, h4, h⟩ := opt_eq_some h
    cases h
    have := build_gives (P := P) (w := w) hE h1 h2 h4 (opds_sound hg hl h3) hv
    refine OpGives.of this ?_
    show (do pure (.value (← Instr.build t (ps.map fun (i, x) => (i, a.eval x)))) : Sem Next) = _
    have e : (ps.map fun (p : Nat × Operand) => (p.1, a.eval p.2)) = (ps.toList.map fun (p : Nat × Operand) => (p.1, a.eval p.2)).toArray := by
      apply Array.toList_inj.1; simp
    rw [← e]
  | buildSlice t n ps =>
    replace h : cSlice E lk t n ps.toList = some q := h
    obtain ⟨d, _, h⟩ := opt_eq_some h
    obtain ⟨e, _, h⟩ := opt_eq_some h
    obtain ⟨s, _, h⟩ := opt_eq_some h
    obtain ⟨z, _, h⟩ := opt_eq_some h
    obtain ⟨xs, _, h⟩ := opt_eq_some h
    obtain ⟨_, h⟩ := cnd_some h
    cases h; cases hv
  | insert t m k x => cases h
  | load t x =>
    obtain ⟨g, _, h⟩ := opt_eq_some h
    obtain ⟨n, _, h⟩ := opt_eq_some h
    obtain ⟨y, _, h⟩ := K1_inv h
    cases h; cases hv
  | store t x y =>
    obtain ⟨n, _, h⟩ := opt_eq_some h
    obtain ⟨u, r, _, _, h⟩ := K2_inv h
    cases h; cases hv
  | ready g => cases h
  | waits g => cases h
  | nilCheck x =>
    obtain ⟨y, h1, h2⟩ := K1_inv h
    cases h2
    exact nil_gives (O h1) hv rfl rfl
  | binOp op t x y yt =>
    replace h : cBin E lk op t x y = some q := h
    have eq : ∀ (f : Nat → AV → AV → Option AV) (g : AV → Option AV), cEq E lk t x y f g = some q →
        ((∃ m, P.underlying t = some (.interface m) ∧ y = .const .nilIface ∧ ∃ u, VRel ι u (a.eval x) ∧ g u = some v) ∨ ∃ d u r, E.und t = some d ∧ VRel ι u (a.eval x) ∧ VRel ι r (a.eval y) ∧ f (tyCls d) u r = some v) := by
      intro f g hh
      obtain ⟨d, h1, hh⟩ := opt_eq_some hh
      rw [cnd_eq] at hh
      split at hh
      · rename_i hc
        obtain ⟨u, h2, hh⟩ := K1_inv hh
        cases hh
        simp only [iand_eq, Bool.and_eq_true] at hc
        obtain ⟨c1, c2⟩ := hc
        have hy : y = .const .nilIface := by
          unfold isNilC at c1
          split at c1
          · rfl
          · cases c1
        have hd : ∃ m, d = .interface m := by
          cases d <;> first | exact ⟨_, rfl⟩ | (exact absurd c2 (by decide)) | (exact absurd c2 Bool.false_ne_true)
        obtain ⟨m, rfl⟩ := hd
        exact .inl ⟨m, und_eq hE h1, hy, _, O h2, hv⟩
      · obtain ⟨u, r, h2, h3, hh⟩ := K2_inv hh
        cases hh
        exact .inr ⟨d, _, _, h1, O h2, O h3, hv⟩
    by_cases hop1 : op = .eql
    · subst hop1
      rcases eq avEq1 nilQ h with ⟨m, hu, rfl, u, hx, hq⟩ | ⟨d, u, r, hd, hx, hy, hq⟩
      · obtain ⟨b, e1, e2⟩ := opt_eq_some hq
        rw [bI_eq] at e2; cases e2
        exact .of ⟨.bool b, (nil_run hu hx e1 x).1, .bool b⟩ rfl
      · obtain ⟨b, e1, e2⟩ := opt_eq_some hq
        rw [bI_eq] at e2; cases e2
        exact .of ⟨.bool b, (eq_run hE hd hx hy e1 x y).1, .bool b⟩ rfl
    by_cases hop2 : op = .neq
    · subst hop2
      rcases eq avNe1 nilN h with ⟨m, hu, rfl, u, hx, hq⟩ | ⟨d, u, r, hd, hx, hy, hq⟩
      · obtain ⟨b, e1, e2⟩ := opt_eq_some hq
        rw [bI_eq, inot_eq] at e2; cases e2
        exact .of ⟨.bool (!b), (nil_run hu hx e1 x).2, .bool _⟩ rfl
      · obtain ⟨b, e1, e2⟩ := opt_eq_some hq
        rw [bI_eq, inot_eq] at e2; cases e2
        exact .of ⟨.bool (!b), (eq_run hE hd hx hy e1 x y).2, .bool _⟩ rfl
    have hb : cBin E lk op t x y = opt (avBin op) none fun f => K2 E lk x y fun a b => some (.p2 (syBin op f) a b) := by
      cases op <;> first | rfl | (exact absurd rfl hop1) | (exact absurd rfl hop2)
    rw [hb] at h
    obtain ⟨f, h1, h⟩ := opt_eq_some h
    obtain ⟨u, r, h2, h3, h⟩ := K2_inv h
    cases h
    exact .of (syBin_run h1 (O h2) (O h3) hv t x y) rfl
  | unOp op t x =>
    cases op with
    | not =>
      obtain ⟨y, h1, h2⟩ := K1_inv h
      cases h2
      replace hv : avNot (y.ev T L) = some v := hv
      have hx := O h1
      unfold avNot at hv
      split at hv
      · rename_i b e
        rw [e] at hx
        rw [bI_eq, inot_eq] at hv; cases hv
        have := bool_rel hx
        refine .of ⟨.bool !b, ?_, .bool _⟩ rfl
        rw [this]; rfl
      · cases hv
    | neg =>
      obtain ⟨y, h1, h2⟩ := K1_inv h
      cases h2
      replace hv : avNeg (y.ev T L) = some v := hv
      have hx := O h1
      unfold avNeg at hv
      split at hv
      · rename_i k n e
        rw [e] at hx
        rw [vI_eq] at hv; cases hv
        have := int_rel hx
        refine .of ⟨.int k (k.wrap (0 - n)), ?_, ?_⟩ rfl
        · rw [this]; rfl
        · rw [wr_eq, ineg_eq, show -n = 0 - n by omega]; exact .int _ _
      · rename_i i tb e
        rw [e] at hx
        obtain ⟨ho, hc⟩ := at_rel hx
        obtain ⟨r, g1, g2⟩ := atL_some ho hv
        replace g1 : vI (ι.s i).1 (wr (ι.s i).1 (ineg (ι.s i).2)) = some (AtV.av ι.s r) := g1
        rw [vI_eq, wr_eq, ineg_eq, show -(ι.s i).2 = 0 - (ι.s i).2 by omega] at g1
        have g3 := (Option.some.inj g1).symm
        refine .of ⟨.int (ι.s i).1 ((ι.s i).1.wrap (0 - (ι.s i).2)), by rw [hc]; rfl, at_lift ho g2 ?_⟩ rfl
        rw [g3]; exact .int _ _
      · cases hv
    | xor =>
      obtain ⟨y, h1, h2⟩ := K1_inv h
      cases h2
      replace hv : avCom (y.ev T L) = some v := hv
      have hx := O h1
      unfold avCom at hv
      split at hv
      · rename_i k n e
        rw [e] at hx
        obtain ⟨hk, hv⟩ := cnd_some hv
        simp only [iand_eq, Bool.and_eq_true] at hk
        rw [vI_eq] at hv; cases hv
        have := int_rel hx
        refine .of ⟨.int k (-1 - n), ?_, ?_⟩ rfl
        · rw [this]; exact avCom_run hk.1 hk.2
        · rw [isub_eq]; exact .int _ _
      · cases hv
    | _ => cases h
  | convert s t x =>
    replace h : cConv E lk s t x = some q := h
    obtain ⟨d, h1, h⟩ := opt_eq_some h
    obtain ⟨e, h2, h⟩ := opt_eq_some h
    split at h
    · obtain ⟨y, h3, h⟩ := K1_inv h
      cases h
      exact .of (conv_gives hE h2 h1 (O h3) hv) rfl
    · obtain ⟨y, h3, h⟩ := K1_inv h
      cases h
      exact .of (convS_gives hE h2 h1 (O h3) hv) rfl
    · obtain ⟨_, h⟩ := cnd_some h
      obtain ⟨y, _, h⟩ := K1_inv h
      cases h; cases hv
    · obtain ⟨_, h⟩ := cnd_some h
      obtain ⟨y, _, h⟩ := K1_inv h
      cases h; cases hv
    · obtain ⟨_, h⟩ := cnd_some h
      obtain ⟨_, _, h⟩ := opt_eq_some h
      obtain ⟨_, _, h⟩ := opt_eq_some h
      obtain ⟨_, h⟩ := cnd_some h
      obtain ⟨y, _, h⟩ := K1_inv h
      cases h; cases hv
    · cases h
  | sliceToArrayPointer t x => cases h
  | makeInterface t x =>
    obtain ⟨d, h1, h⟩ := opt_eq_some h
    obtain ⟨h2, h⟩ := cnd_some h
    obtain ⟨y, h3, h⟩ := K1_inv h
    cases h
    exact .of (ifc_gives hE h1 h2 (O h3) hv) rfl
  | makeFunc f first cap =>
    obtain ⟨xs, h1, h⟩ := opt_eq_some h
    cases h
    have hx := opds_sound hg hl h1
    replace hv : mkfF f first.toList.length (evs T L xs) = some v := hv
    refine .of (mkf_gives (P := P) (w := w) hx hv) ?_
    show (do pure (.value (← Instr.makeFunc f (first.map a.eval) (cap.map a.eval))) : Sem Next) = _
    have e1 : (first.map a.eval) = (first.toList.map a.eval).toArray := by apply Array.toList_inj.1; simp
    have e2 : (cap.map a.eval) = (cap.toList.map a.eval).toArray := by apply Array.toList_inj.1; simp
    rw [e1, e2]
  | makeMap t r =>
    obtain ⟨_, _, h⟩ := opt_eq_some h
    obtain ⟨_, _, h⟩ := opt_eq_some h
    cases h; cases hv
  | makeChan t s =>
    replace h : (opt (chE E t) none fun _ => K1 E lk s fun a => some (K.al mkcF [a])) = some q := h
    obtain ⟨_, _, h⟩ := opt_eq_some h
    obtain ⟨y, _, h⟩ := K1_inv h
    cases h; cases hv
  | makeSlice t l c =>
    replace h : cMks E lk t l c = some q := h
    obtain ⟨d, _, h⟩ := opt_eq_some h
    obtain ⟨e, _, h⟩ := opt_eq_some h
    obtain ⟨i, _, h⟩ := opt_eq_some h
    obtain ⟨z, _, h⟩ := opt_eq_some h
    obtain ⟨xs, _, h⟩ := opt_eq_some h
    obtain ⟨_, h⟩ := cnd_some h
    cases h; cases hv
  | slice t x lo hi mx =>
    replace h : cSl E lk t x lo hi mx = some q := h
    obtain ⟨d, h1, h⟩ := opt_eq_some h
    obtain ⟨f, h2, h⟩ := opt_eq_some h
    obtain ⟨s, h3, h⟩ := opt_eq_some h
    obtain ⟨l, h4, h⟩ := opt_eq_some h
    obtain ⟨hh, h5, h⟩ := opt_eq_some h
    obtain ⟨m, h6, h⟩ := opt_eq_some h
    obtain ⟨h7, h⟩ := cnd_some' h
    cases h
    have hi3 : mx.isSome = true → hi.isSome = true := by
      intro e
      rw [e] at h7
      simpa using h7
    have rl := opdD_sound hg hl h4
    have rh := opdD_sound hg hl h5
    have rm := opdD_sound hg hl h6
    unfold slF at h2
    split at h2
    · obtain ⟨z, h8, h2⟩ := opt_eq_some h2
      cases h2
      exact .of (slL_gives hE h1 h8 (by simp) (by simp) (by simp) rl rh rm hi3 (O h3) hv) rfl
    · cases h2
      exact .of (slX_gives hE h1 (by simp) (by simp) (by simp) (m := m.ev T L) rl rh (O h3) hv) rfl
    · cases h2
  | fieldAddr s x f =>
    obtain ⟨fd, h1, h⟩ := opt_eq_some h
    obtain ⟨n, h2, h⟩ := opt_eq_some h
    obtain ⟨h3, h⟩ := cnd_some' h
    obtain ⟨y, h4, h⟩ := K1_inv h
    cases h
    exact .of (fa_gives hE h1 h2 h3 (O h4) hv) rfl
  | field s x f =>
    obtain ⟨fd, h1, h⟩ := opt_eq_some h
    obtain ⟨n, h2, h⟩ := opt_eq_some h
    obtain ⟨g, h3, h⟩ := opt_eq_some h
    obtain ⟨y, h4, h⟩ := K1_inv h
    cases h
    exact .of (field_gives hE h1 h2 h3 (O h4) hv) rfl
  | indexAddr t x i =>
    obtain ⟨d, h1, h⟩ := opt_eq_some h
    unfold cIA at h
    split at h
    · obtain ⟨n, h2, h⟩ := opt_eq_some h
      obtain ⟨u, r, h3, h4, h⟩ := K2_inv h
      cases h
      exact .of (ia_gives hE h1 h2 (O h3) (O h4) hv) rfl
    · obtain ⟨n, h2, h⟩ := opt_eq_some h
      obtain ⟨u, r, h3, h4, h⟩ := K2_inv h
      cases h
      exact .of (iaa_gives hE h1 h2 (O h3) (O h4) hv) rfl
    · cases h
  | index t x i =>
    obtain ⟨d, h1, h⟩ := opt_eq_some h
    obtain ⟨h2, h⟩ := cnd_some h
    obtain ⟨u, r, h3, h4, h⟩ := K2_inv h
    cases h
    have hd : d = .string := by
      unfold isStr at h2
      split at h2
      · rfl
      · cases h2
    subst hd
    exact .of (is_gives hE h1 (O h3) (O h4) hv) rfl
  | lookup t x i ok =>
    obtain ⟨_, _, h⟩ := opt_eq_some h
    obtain ⟨_, _, h⟩ := opt_eq_some h
    obtain ⟨_, _, _, _, h⟩ := K2_inv h
    cases h; cases hv
  | mapUpdate t m k x =>
    obtain ⟨_, _, h⟩ := opt_eq_some h
    obtain ⟨_, _, _, _, h⟩ := K2_inv h
    obtain ⟨_, _, h⟩ := K1_inv h
    cases h; cases hv
  | mapEntry t m k => cases h
  | entryStore t m s x => cases h
  | range t x =>
    obtain ⟨_, _, h⟩ := opt_eq_some h
    obtain ⟨_, _, h⟩ := K1_inv h
    cases h; cases hv
  | next i s =>
    obtain ⟨_, h⟩ := cnd_some' h
    obtain ⟨_, _, h⟩ := K1_inv h
    cases h; cases hv
  | entry i => cases h
  | typeAssert x xt t ok =>
    obtain ⟨d, h1, h⟩ := opt_eq_some h
    obtain ⟨h2, h⟩ := cnd_some h
    obtain ⟨z, h3, h⟩ := opt_eq_some h
    obtain ⟨y, h4, h⟩ := K1_inv h
    cases h
    exact .of (ta_gives hE h1 h2 h3 (O h4) hv) rfl
  | extract x i =>
    obtain ⟨y, h4, h⟩ := K1_inv h
    cases h
    exact .of (ext_gives (O h4) hv) rfl
  | call c =>
    obtain ⟨callee, args, ats⟩ := c
    cases callee with
    | value f =>
      obtain ⟨xs, h1, h⟩ := opt_eq_some h
      cases f with
      | func g => cases h; cases hv
      | tmp t => obtain ⟨y, _, h⟩ := opt_eq_some h; cases h; cases hv
      | const c => obtain ⟨y, _, h⟩ := opt_eq_some h; cases h; cases hv
      | global g => obtain ⟨y, _, h⟩ := opt_eq_some h; cases h; cases hv
    | invoke r m => cases h
    | builtin b =>
      replace h : cBi E lk b args.toList ats.toList = some q := h
      unfold cBi at h
      split at h
      · rename_i x t ea et
        have ea' : args = #[x] := Array.toList_inj.1 ea
        have et' : ats = #[t] := Array.toList_inj.1 et
        subst ea'; subst et'
        obtain ⟨d, h1, h⟩ := opt_eq_some h
        split at h
        · obtain ⟨y, h2, h⟩ := K1_inv h
          cases h
          exact .of (lenT_gives (ty := type) hE h1 (O h2) hv) (by simp [execOp, resolve, invoke, builtin])
        · obtain ⟨y, h2, h⟩ := K1_inv h
          cases h
          exact .of (lenL_gives (ty := type) hE h1 (O h2) hv) (by simp [execOp, resolve, invoke, builtin])
        · obtain ⟨y, _, h⟩ := K1_inv h
          cases h; cases hv
        · cases h
      · unfold cApp at h
        obtain ⟨d, _, h⟩ := opt_eq_some h
        obtain ⟨e, _, h⟩ := opt_eq_some h
        obtain ⟨xd, _, h⟩ := opt_eq_some h
        obtain ⟨i, _, h⟩ := opt_eq_some h
        obtain ⟨_, _, h⟩ := opt_eq_some h
        obtain ⟨_, h⟩ := cnd_some h
        obtain ⟨_, _, _, _, h⟩ := K2_inv h
        cases h; cases hv
      · rename_i x y ea
        have ea' : args = #[x, y] := Array.toList_inj.1 ea
        subst ea'
        obtain ⟨os, h1, h⟩ := opt_eq_some h
        cases h
        have hx := opds_sound hg hl h1
        exact .of (max_gives (P := P) (w := w) (ts := ats) (ty := type) hx hv) (by simp [execOp, resolve, invoke, builtin])
      · rename_i x y ea
        have ea' : args = #[x, y] := Array.toList_inj.1 ea
        subst ea'
        obtain ⟨os, h1, h⟩ := opt_eq_some h
        cases h
        have hx := opds_sound hg hl h1
        exact .of (min_gives (P := P) (w := w) (ts := ats) (ty := type) hx hv) (by simp [execOp, resolve, invoke, builtin])
      · obtain ⟨_, _, h⟩ := opt_eq_some h
        obtain ⟨_, _, _, _, h⟩ := K2_inv h
        cases h; cases hv
      · obtain ⟨_, _, h⟩ := opt_eq_some h
        obtain ⟨_, _, h⟩ := opt_eq_some h
        obtain ⟨_, _, h⟩ := opt_eq_some h
        obtain ⟨_, h⟩ := cnd_some h
        obtain ⟨_, _, _, _, h⟩ := K2_inv h
        cases h; cases hv
      · cases h; cases hv
      · obtain ⟨y, _, h⟩ := K1_inv h
        cases h; cases hv
      · cases h
  | go c => cases h
  | defer c =>
    obtain ⟨callee, args, ats⟩ := c
    cases callee with
    | value f =>
      obtain ⟨xs, h1, h⟩ := opt_eq_some h
      obtain ⟨y, _, h⟩ := opt_eq_some h
      cases h; cases hv
    | invoke r m => cases h
    | builtin b => cases h
  | panic x => obtain ⟨y, h4, h⟩ := K1_inv h; cases h; cases hv
  | send c x => cases h
  | recv t c ok => cases h
  | select cs b =>
    replace h : cnd b none (opt (sel1 cs.toList) none fun p => opt (E.zero p.2) none fun z => K1 E lk p.1 fun a => some (K.sel z a)) = some q := h
    obtain ⟨_, h⟩ := cnd_some' h
    obtain ⟨_, _, h⟩ := opt_eq_some h
    obtain ⟨_, _, h⟩ := opt_eq_some h
    obtain ⟨y, _, h⟩ := K1_inv h
    cases h; cases hv
end Go.Ev
