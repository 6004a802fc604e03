/- The evaluator at functions. -/
import Derived.Test.YtmjccopjophgjaaGreatDoorEvCode
namespace Go.Ev
open Go.RowKit (Below)
variable {P : Program} {E : Env} {base : Nat} {w0 : World} {T : PT AV}
variable {nt : Nat} {ops : Array Oper} {ι0 ι : Inj} {H0 H : Hp} {D : List DF} {L : List AV} {a : Act} {w : World} {X : PT Unit} {call : CallT}

theorem initT_get (X : PT Unit) : ∀ (args : List AV) (n : Nat) (T : PT AV) (t : Nat) (v : AV),
    ((List.rec (motive := fun _ => Pos → PT AV → PT AV) (fun _ T => T) (fun x _ ih p T => opt (X.get p) (ih p.succ T) fun _ => (T.set p x).frc fun T' => ih p.succ T') args (Pos.of n) T : PT AV)).get (Pos.of t) = some v →
      (∃ k, t = n + k ∧ args[k]? = some v ∧ ∃ u, X.get (Pos.of t) = some u) ∨ T.get (Pos.of t) = some v
  | [], n, T, t, v, h => .inr h
  | x :: args, n, T, t, v, h => by
    have tail : ∀ T', ((List.rec (motive := fun _ => Pos → PT AV → PT AV) (fun _ T => T) (fun x _ ih p T => opt (X.get p) (ih p.succ T) fun _ => (T.set p x).frc fun T' => ih p.succ T') args (Pos.of n).succ T' : PT AV)).get (Pos.of t) = some v →
        (∃ k, t = n + k ∧ (x :: args)[k]? = some v ∧ ∃ u, X.get (Pos.of t) = some u) ∨ T'.get (Pos.of t) = some v := by
      intro T' h'
      rw [← Pos.of_succ] at h'
      rcases initT_get X args (n + 1) T' t v h' with ⟨k, e1, e2, e3⟩ | h'
      · exact .inl ⟨k + 1, by omega, by simpa using e2, e3⟩
      · exact .inr h'
    cases hx : X.get (Pos.of n) with
    | none =>
      replace h : (opt (X.get (Pos.of n)) _ _ : PT AV).get (Pos.of t) = some v := h
      rw [hx] at h
      exact tail T h
    | some u =>
      replace h : (opt (X.get (Pos.of n)) _ _ : PT AV).get (Pos.of t) = some v := h
      rw [hx] at h
      replace h : ((T.set (Pos.of n) x).frc _ : PT AV).get (Pos.of t) = some v := h
      rw [frc_eq] at h
      rcases tail _ h with h | h
      · exact .inl h
      · by_cases htn : t = n
        · subst htn
          rw [get_set_same] at h; cases h
          exact .inl ⟨0, rfl, rfl, u, hx⟩
        · rw [get_set_ne _ _ _ _ fun e => htn (Pos.of_inj e)] at h
          exact .inr h

/-- The frame at the start. -/
theorem Fr.init {fn : Func} {args : List AV} {cargs : List Value} (h : LRel ι args cargs) : Fr fn.ntmps X ι (initT X args) { tmps := cargs.toArray ++ Array.replicate (fn.ntmps - cargs.toArray.size) undef, defers := [] } := by
  have key : ∀ (t : Nat) (v : AV), (initT X args).get (Pos.of t) = some v → args[t]? = some v ∧ ∃ u, X.get (Pos.of t) = some u := by
    intro t v ht
    rcases initT_get X args 0 .l t v ht with ⟨k, e1, e2, e3⟩ | h
    · have : t = k := by omega
      subst this; exact ⟨e2, e3⟩
    · simp at h
  refine ⟨by simp; omega, fun t v ht => (key t v ht).2, fun t v ht => ?_⟩
  obtain ⟨c, h1, h2⟩ := h.get (key t v ht).1
  have hlt : t < cargs.length := (List.getElem?_eq_some_iff.1 h1).1
  have : ({ tmps := cargs.toArray ++ Array.replicate (fn.ntmps - cargs.toArray.size) undef, defers := [] } : Act).eval (.tmp t) = c := by
    have e := (List.getElem?_eq_some_iff.1 h1).2
    simp only [Act.eval, Array.getD_eq_getD_getElem?]
    rw [Array.getElem?_append_left (by simpa using hlt)]
    simp [h1]
  rw [this]; exact h2

/-! ### results -/
theorem resOf_sound (hE : EnvOk P E) (hF : Fr nt X ι T a) (hR : Rl E base w0 ι H w) {r : ResultVar} {v : AV} (h : resOf E T H r = some v) :
    ∃ c, (match r with | .tmp t => pure (a.tmps.getD t undef) | .cell x t => do loadVar t (← asAddr (a.tmps.getD x undef)) : Sem Value).run P w = .ok c w ∧ VRel ι v c := by
  cases r with
  | tmp t =>
    replace h : opt (T.get (Pos.of t)) none avId = some v := h
    obtain ⟨u, h1, h2⟩ := opt_eq_some h
    rw [avId_eq] at h2; cases h2
    exact ⟨_, rfl, hF.val t _ h1⟩
  | cell x t =>
    replace h : (opt (E.isAgg t) none fun g => opt (E.size t) none fun n => (cnd g (ldn n) ld1) (opt (T.get (Pos.of x)) .any fun v => v) H) = some v := h
    obtain ⟨g, h1, h⟩ := opt_eq_some h
    obtain ⟨n, h2, h⟩ := opt_eq_some h
    have hv : VRel ι (opt (T.get (Pos.of x)) .any fun v => v) (a.tmps.getD x undef) := by
      cases hT : T.get (Pos.of x) with
      | none => exact .any _
      | some u => exact hF.val x u hT
    obtain ⟨c, k1, k2⟩ := load_gives hE hR h1 h2 hv h
    refine ⟨c, ?_, k2⟩
    show ((do loadVar t (← asAddr (a.tmps.getD x undef)) : Sem Value)).run P w = .ok c w
    generalize a.tmps.getD x undef = cx at hv k1 ⊢
    -- the address is sure where the load is
    have : ∃ ad, cx = .pointer (some ad) := by
      generalize (opt (T.get (Pos.of x)) AV.any fun v => v) = y at hv h
      cases g with
      | true =>
        replace h : ldn n y H = some v := h
        unfold ldn at h
        split at h
        · cases hv; exact ⟨_, rfl⟩
        · cases h
      | false =>
        replace h : ld1 y H = some v := h
        unfold ld1 at h
        split at h
        · cases hv; exact ⟨_, rfl⟩
        · cases h
    obtain ⟨ad, rfl⟩ := this
    simpa [asAddr, Instr.loadAt, Instr.sureAddr] using k1

theorem mapRes_sound (hE : EnvOk P E) (hF : Fr nt X ι T a) (hR : Rl E base w0 ι H w) : ∀ (l : List ResultVar) (vs : List AV), mapO (resOf E T H) l = some vs →
    ∃ C, (l.mapM fun (r : ResultVar) => (match r with | .tmp t => pure (a.tmps.getD t undef) | .cell x t => do loadVar t (← asAddr (a.tmps.getD x undef)) : Sem Value)).run P w = .ok C w ∧ LRel ι vs C
  | [], vs, h => by cases h; exact ⟨[], rfl, .nil⟩
  | r :: l, vs, h => by
    obtain ⟨y, zs, h1, h2, rfl⟩ := mapO_cons h
    obtain ⟨c, k1, k2⟩ := resOf_sound hE hF hR h1
    obtain ⟨C, k3, k4⟩ := mapRes_sound hE hF hR l zs h2
    refine ⟨c :: C, ?_, .cons _ _ _ _ k2 k4⟩
    rw [List.mapM_cons]
    simp only [Sem.run_bind, k1, Result.andThen_ok, k3, Sem.run_pure]

theorem results_sound (hE : EnvOk P E) (hF : Fr nt X ι T a) (hR : Rl E base w0 ι H w) {fn : Func} {v : AV} (h : results E fn T H = some v) : ∃ c, (Go.results fn a.tmps).run P w = .ok c w ∧ VRel ι v c := by
  unfold results at h
  obtain ⟨vs, h1, h2⟩ := opt_eq_some h
  obtain ⟨C, k1, k2⟩ := mapRes_sound hE hF hR _ vs h1
  have hrun : (Go.results fn a.tmps).run P w = .ok (if h : C.toArray.size = 1 then C.toArray[0] else .tuple C.toArray) w := by
    unfold Go.results
    rw [Array.mapM_eq_mapM_toList]
    simp only [Sem.run_bind, Sem.run_map, Sem.run_pure]
    erw [k1]
    rfl
  unfold rsM at h2
  split at h2
  · cases h2
    cases k2 with
    | cons _ c _ _ hx t =>
      cases t
      exact ⟨c, hrun, hx⟩
  · rename_i hne
    cases h2
    have hlen : C.toArray.size ≠ 1 := by
      intro e
      have hl := k2.length
      have : C.length = 1 := by simpa using e
      rw [this] at hl
      match vs, hl with
      | [x], _ => exact hne x rfl
    rw [dif_neg hlen] at hrun
    exact ⟨_, hrun, .tup _ _ k2⟩

/-! ### deferred calls -/
inductive URel (ι : Inj) : UM → FrameMode → Prop
  | ret : URel ι .ret .returning
  | pan (v : AV) (c : Value) (b : Bool) (h : VRel ι v c) : URel ι (.pan v b) (.panicking [{ v := c, recovered := b }])
theorem URel.mono {κ : Inj} (hi : ι.le κ) {u : UM} {m : FrameMode} (h : URel ι u m) : URel κ u m := by
  cases h with
  | ret => exact .ret
  | pan v c b h => exact .pan v c b (h.mono hi)
theorem URel.ne {u : UM} {m : FrameMode} (h : URel ι u m) : m ≠ .run := by cases h <;> simp
theorem URel.settle {u : UM} {m : FrameMode} (h : URel ι u m) : URel ι (settleU u) (settle m) := by
  cases h with
  | ret => exact .ret
  | pan v c b h =>
    cases b with
    | true => exact .ret
    | false => exact .pan v c false h

/-- What a deferred function's code leaves. -/
def SPost (E : Env) (base : Nat) (w0 : World) (nt : Nat) (X : PT Unit) (ι0 : Inj) (H0 : Hp) (c0 : Frame) (cs : List Frame) (r : SO) : Exit → Act → List Frame → World → Prop
  | .normal, a, fs, w => ∃ T u H ι m, r = .nrm T u H ∧ fs = { c0 with mode := m } :: cs ∧ URel ι u m ∧ a.defers = [] ∧ Fr nt X ι T a ∧ AfterR E base w0 ι0 H0 [] H ι [] w
  | .ret, a, fs, w => ∃ T u H ι m, r = .ret T u H ∧ fs = { c0 with mode := m } :: cs ∧ URel ι u m ∧ a.defers = [] ∧ Fr nt X ι T a ∧ AfterR E base w0 ι0 H0 [] H ι [] w
  | _, _, _, _ => False

theorem wpS_mono {c : Code} {Q Q' : Exit → Act → List Frame → World → Prop} {cs : List Frame} (h : c.wpS P Q a cs w) (hq : ∀ e a cs w, Q e a cs w → Q' e a cs w) : c.wpS P Q' a cs w :=
  fun b k h1 h2 => let ⟨e, a', cs', w', q, r⟩ := h b k h1 h2; ⟨e, a', cs', w', hq _ _ _ _ q, r⟩

theorem optS_ne {α : Type} {x : Option α} {s : α → SO} {r : SO} (h : opt x .no s = r) (hr : r ≠ .no) : ∃ v, x = some v ∧ s v = r := by
  cases x with
  | none => exact absurd h.symm hr
  | some v => exact ⟨v, rfl, h⟩
theorem optL_ne {α : Type} {x : Option α} {s : α → SL} {r : SL} (h : opt x .no s = r) (hr : r ≠ .no) : ∃ v, x = some v ∧ s v = r := by
  cases x with
  | none => exact absurd h.symm hr
  | some v => exact ⟨v, rfl, h⟩
theorem mkCT_w (g : Option (Nat × Bool)) (q : K) : (mkCT g q).w = g := by cases g <;> cases q <;> rfl
theorem mkCT_q (g : Option (Nat × Bool)) (q : K) : (mkCT g q).q = q := by cases g <;> cases q <;> rfl

theorem textS_sound (hE : EnvOk P E) (hC : CallOk P E base w0 call) (hO : OpsOk nt ops) {r : SL} (hr : r ≠ .no) {Q : Exit → Act → List Frame → World → Prop} (c0 : Frame) (fs : List Frame) (all : List Nat)
    (hn : ∀ L' u H' ι' m a' w', r = .nrm L' u H' → URel ι' u m → a'.defers = [] → RInv nt ops ι' T all L' a' → AfterR E base w0 ι0 H0 [] H' ι' [] w' → Q .normal a' ({ c0 with mode := m } :: fs) w') :
    ∀ (todo done : List Nat) (L : List AV) (u : UM) (H : Hp) (ι : Inj) (m : FrameMode) (a : Act) (w : World), todo.reverse ++ done = all → (∀ i ∈ todo, i ∉ done) → todo.Nodup → URel ι u m → a.defers = [] →
      RInv nt ops ι T done L a → AfterR E base w0 ι0 H0 [] H ι [] w → evCsS call T (cText E ops.toList todo done) L u H = r → wpOpsS P ops Q todo a ({ c0 with mode := m } :: fs) w
  | [], done, L, u, H, ι, m, a, w, ha, _, _, hU, hd, hI, hA, he => by
    have : r = .nrm L u H := he.symm
    exact hn L u H ι m a w this hU hd (by simpa using ha ▸ hI) hA
  | i :: todo, done, L, u, H, ι, m, a, w, ha, hdd, hnd, hU, hd, hI, hA, he => by
    replace he : evCsS call T (opt (cOne E ops.toList done i) [coNo] fun p => mkCT p.1 p.2 :: cText E ops.toList todo (i :: done)) L u H = r := he
    have hnot : i ∉ done := hdd i (by simp)
    have hnd' := List.nodup_cons.1 hnd
    have hall : todo.reverse ++ (i :: done) = all := by rw [← ha]; simp
    have hdis : ∀ j ∈ todo, j ∉ i :: done := by
      intro j hj hm
      cases hm with
      | head => exact hnd'.1 hj
      | tail _ hm => exact hdd j (by simp [hj]) hm
    cases hc : cOne E ops.toList done i with
    | none => rw [hc] at he; exact absurd he.symm hr
    | some p =>
      rw [hc] at he
      obtain ⟨g, q⟩ := p
      replace he : (opt (guardB (mkCT g q).w L) .no fun b => cnd b
          (cnd (isRcv (mkCT g q).q) (rcvV u fun v u' => evCsS call T (cText E ops.toList todo (i :: done)) (v :: L) u' H)
            (RO.rec (motive := fun _ => SL) (fun L' D H' => match L', D with
              | [v], [] => evCsS call T (cText E ops.toList todo (i :: done)) (v :: L) u H'
              | _, _ => .no) (fun _ _ _ => .no) .no (exec (mkCT g q).q call T L [] H fun v D' H' => .nrm [v] D' H')))
          (evCsS call T (cText E ops.toList todo (i :: done)) (.tup [] :: L) u H)) = r := he
      rw [mkCT_w, mkCT_q] at he
      obtain ⟨b, h1, h2⟩ := optL_ne he hr
      obtain ⟨o, ho, hg, hk⟩ := cOne_inv hc
      have hw := guard_ok hO hI ho hg h1
      simp only [wpOpsS, ho]
      cases b with
      | false =>
        rw [if_neg (by rw [hw]; decide)]
        have hs := hI.step hO ho hnot (Inj.le_refl ι) (VRel.tup [] [] .nil) a.defers
        rw [done_self] at hs
        exact textS_sound hE hC hO hr c0 fs all hn todo (i :: done) (.tup [] :: L) u H ι m _ w hall hdis hnd'.2 hU (by rw [defers_put]; exact hd) hs hA h2
      | true =>
        rw [if_pos hw]
        replace h2 : cnd (isRcv q) (rcvV u fun v u' => evCsS call T (cText E ops.toList todo (i :: done)) (v :: L) u' H)
            (RO.rec (motive := fun _ => SL) (fun L' D H' => match L', D with
              | [v], [] => evCsS call T (cText E ops.toList todo (i :: done)) (v :: L) u H'
              | _, _ => .no) (fun _ _ _ => .no) .no (exec q call T L [] H fun v D' H' => .nrm [v] D' H')) = r := h2
        cases hq : isRcv q with
        | true =>
          rw [hq] at h2
          replace h2 : (rcvV u fun v u' => evCsS call T (cText E ops.toList todo (i :: done)) (v :: L) u' H) = r := h2
          have hqr : q = .rcv := by cases q <;> first | rfl | cases hq
          subst hqr
          obtain ⟨dst, op, type, pos, after, guard⟩ := o
          cases cK_inv hk with
          | pur _ _ hh => cases hh
          | rcv args ts =>
            have hrun : (execOp a.eval { dst := dst, op := .call { callee := .builtin .recover, args := args, argTypes := ts }, type := type, pos := pos, after := after, guard := guard }).run P w = .ok .recover w := by
              simp [execOp, resolve, invoke, builtin]
            rw [hrun]
            have nilcase : recoverD ({ c0 with mode := m } :: fs) = none → evCsS call T (cText E ops.toList todo (i :: done)) (.inil :: L) u H = r →
                (match recoverD ({ c0 with mode := m } :: fs) with
                | some (v, cs') => wpOpsS P ops Q todo (a.put dst v) cs' w
                | none => wpOpsS P ops Q todo (a.put dst .nilIface) ({ c0 with mode := m } :: fs) w) := by
              intro hrec hev
              rw [hrec]
              have hs := hI.step hO ho hnot (Inj.le_refl ι) VRel.inil a.defers
              rw [done_self] at hs
              exact textS_sound hE hC hO hr c0 fs all hn todo (i :: done) (.inil :: L) u H ι m _ w hall hdis hnd'.2 hU (by rw [defers_put]; exact hd) hs hA hev
            cases hU with
            | ret => exact nilcase rfl h2
            | pan v c b hv =>
              cases b with
              | true => exact nilcase rfl h2
              | false =>
                show wpOpsS P ops Q todo (a.put dst c) ({ c0 with mode := .panicking [{ v := c, recovered := true }] } :: fs) w
                have hs := hI.step hO ho hnot (Inj.le_refl ι) hv a.defers
                rw [done_self] at hs
                exact textS_sound hE hC hO hr c0 fs all hn todo (i :: done) (v :: L) (.pan v true) H ι _ _ w hall hdis hnd'.2 (.pan v c true hv) (by rw [defers_put]; exact hd) hs hA h2
        | false =>
          rw [hq] at h2
          generalize hx : exec q call T L [] H (fun v D' H' => RO.nrm [v] D' H') = r1 at h2
          have hne : r1 ≠ .no := by intro e; subst e; exact hr h2.symm
          have hwp : o.wp P a w (fun a' w' => wpOpsS P ops Q todo a' ({ c0 with mode := m } :: fs) w') (fun e a' w' => Q e a' ({ c0 with mode := m } :: fs) w') := by
            refine exec_sound hE hC hA.rl (lookR_ok hI) (D := []) (by rw [hd]; exact .nil) hk hx hne (fun v D' H' ι' c S w' e1 e2 => ?_) (fun v H' ι' c w' e1 e2 => ?_)
            · subst e1
              cases D' with
              | cons d D' => exact absurd h2.symm hr
              | nil =>
                replace h2 : evCsS call T (cText E ops.toList todo (i :: done)) (v :: L) u H' = r := h2
                have hS : S = [] := by cases e2.dfr; rfl
                subst hS
                exact textS_sound hE hC hO hr c0 fs all hn todo (i :: done) (v :: L) u H' ι' m _ w' hall hdis hnd'.2 (hU.mono e2.stp.le) (by unfold Act.done; rw [defers_put]) (hI.step hO ho hnot e2.stp.le e2.val []) ⟨e2.rl, hA.stp.trans e2.stp, .nil⟩ h2
            · subst e1
              exact absurd h2.symm hr
          unfold Oper.wp at hwp
          split
          · rename_i w' hrun
            rw [hrun] at hwp
            exact hwp.elim
          · exact hwp

theorem evS_sound (hE : EnvOk P E) (hC : CallOk P E base w0 call) (hm : P.follows .mixedOrders = true) (c0 : Frame) (fs : List Frame) : ∀ (c : Code), CodeOk nt c → ∀ (T : PT AV) (u : UM) (H : Hp) (r : SO), evS E call X c T u H = r → r ≠ .no → ∀ (ι : Inj) (m : FrameMode) (a : Act) (w : World),
    URel ι u m → a.defers = [] → Fr nt X ι T a → AfterR E base w0 ι0 H0 [] H ι [] w → c.wpS P (SPost E base w0 nt X ι0 H0 c0 fs r) a ({ c0 with mode := m } :: fs) w := by
  intro c
  induction c with
  | skip =>
    intro _ T u H r he hr ι m a w hU hd hF hA
    exact wpS_of_wp (wp_skip ⟨T, u, H, ι, m, he.symm, rfl, hU, hd, hF, hA⟩)
  | region id ops draw =>
    intro hc T u H r he hr ι m a w hU hd hF hA
    cases draw with
    | true =>
      replace he : (Out.rec (motive := fun _ => SO) (fun T D H => match D with | [] => .nrm T u H | _ => .no) (fun _ _ _ _ => .no) (fun _ _ _ => .no) (fun _ _ _ _ => .no) .no (evReg E call X ops.toList true T [] H)) = r := he
      generalize hx : evReg E call X ops.toList true T [] H = r1 at he
      have hne : r1 ≠ .no := by intro e; subst e; exact hr he.symm
      have hreg := region_sound (id := id) (ι0 := ι) (H0 := H) hE hC hm hc.1 hc.2 hne hx hF (w := w) ⟨hA.rl, .refl ι H, by rw [hd]; exact .nil⟩
      refine wpS_of_wp (wp_mono hreg fun e a' w' hp => ?_)
      cases e with
      | normal =>
        obtain ⟨T', D', H', ι', rfl, hF', hA'⟩ := hp
        cases D' with
        | cons d D' => exact absurd he.symm hr
        | nil =>
          have hd' : a'.defers = [] := by cases hdd : a'.defers with
            | nil => rfl
            | cons x y => have := hA'.dfr; rw [hdd] at this; cases this
          exact ⟨T', u, H', ι', m, he.symm, rfl, hU.mono hA'.stp.le, hd', hF', hA'.rl, hA.stp.trans hA'.stp, .nil⟩
      | exit id => obtain ⟨T', D', H', ι', rfl, _⟩ := hp; exact absurd he.symm hr
      | ret => obtain ⟨T', D', H', ι', rfl, _⟩ := hp; exact absurd he.symm hr
      | panic ch => obtain ⟨v, T', D', H', ι', c, rfl, _⟩ := hp; exact absurd he.symm hr
      | goto l => exact hp.elim
      | outgrown => exact hp.elim
    | false =>
      replace he : (opt (cReg E X ops.toList false) .no fun r => SL.rec (motive := fun _ => SO) (fun L u H => .nrm (save T L r.2) u H) .no (evCsS call T r.1 [] u H)) = r := he
      obtain ⟨⟨cs, sv⟩, h1, h2⟩ := optS_ne he hr
      obtain ⟨_, h1⟩ := cnd_some h1
      cases h1
      rw [rngF_eq, revF, len_eq] at h2
      generalize hx : evCsS call T (cText E ops.toList (List.range ops.toList.length) []) [] u H = r1 at h2
      have hne : r1 ≠ .no := by intro e; subst e; exact hr h2.symm
      refine wpS_region (textS_sound hE hC hc.1 hne c0 fs (List.range ops.size).reverse (fun L' u' H' ι' m' a' w' e1 e2 e3 e4 e5 => ?_) (List.range ops.size) [] [] u H ι m a w (by simp) (by simp) List.nodup_range hU hd hF.start hA (by simpa using hx))
      subst e1
      refine ⟨_, u', H', ι', m', h2.symm, rfl, e2, e3, ?_, e5⟩
      have := hF.save e4
      simpa using this
  | seq x y ihx ihy =>
    intro hc T u H r he hr ι m a w hU hd hF hA
    replace he : (SO.rec (motive := fun _ => SO) (evS E call X y) (fun T u H => .ret T u H) .no (evS E call X x T u H)) = r := he
    generalize hr1 : evS E call X x T u H = r1 at he
    have hne : r1 ≠ .no := by intro e; subst e; exact hr he.symm
    refine wpS_seq (wpS_mono (ihx hc.1 T u H r1 hr1 hne ι m a w hU hd hF hA) fun e a' cs' w' hp => ?_)
    cases e with
    | normal =>
      obtain ⟨T', u', H', ι', m', rfl, rfl, hU', hd', hF', hA'⟩ := hp
      exact ihy hc.2 T' u' H' r he hr ι' m' a' w' hU' hd' hF' hA'
    | ret =>
      obtain ⟨T', u', H', ι', m', rfl, rfl, hU', hd', hF', hA'⟩ := hp
      exact ⟨T', u', H', ι', m', he.symm, rfl, hU', hd', hF', hA'⟩
    | exit id => exact hp.elim
    | panic ch => exact hp.elim
    | goto l => exact hp.elim
    | outgrown => exact hp.elim
  | cond o x y ihx ihy =>
    intro hc T u H r he hr ι m a w hU hd hF hA
    have he' : (opt (cond1 E o T) .no fun t => cnd t (evS E call X x T u H) (evS E call X y T u H)) = r := by
      rw [← he]
      show _ = (opt (E.opd (fun t => some (.t (Pos.of t))) o) SO.no fun x' => _)
      unfold cond1
      cases E.opd (fun t => some (.t (Pos.of t))) o with
      | none => rfl
      | some z =>
        show opt (bq (z.ev T [])) _ _ = (match z.ev T [] with | .bool t => _ | _ => _)
        cases z.ev T [] <;> rfl
    obtain ⟨t, h1, h2⟩ := optS_ne he' hr
    refine wpS_cond (cond1_sound hA.rl.glob hF h1) ?_
    cases t with
    | true => exact ihx hc.1 T u H r h2 hr ι m a w hU hd hF hA
    | false => exact ihy hc.2 T u H r h2 hr ι m a w hU hd hF hA
  | ret =>
    intro _ T u H r he hr ι m a w hU hd hF hA
    exact wpS_of_wp (wp_ret ⟨T, u, H, ι, m, he.symm, rfl, hU, hd, hF, hA⟩)
  | block id x ih => intro _ T u H r he hr; exact absurd he.symm hr
  | loop x ih => intro _ T u H r he hr; exact absurd he.symm hr
  | rangeFunc f ps x y ihx ihy => intro _ T u H r he hr; exact absurd he.symm hr
  | exit id => intro _ T u H r he hr; exact absurd he.symm hr
  | scope x ih => intro _ T u H r he hr; exact absurd he.symm hr
  | label l => intro _ T u H r he hr; exact absurd he.symm hr
  | goto l => intro _ T u H r he hr; exact absurd he.symm hr
  | refuse s => intro _ T u H r he hr; exact absurd he.symm hr

end Go.Ev
