/- A region in its text's order, as steps of a lone goroutine: operations that the plain walk knows, and a look at a channel with a way out. -/
import Derived.Test.YtmjccopjophgjaaGreatDoorEvCall
import Derived.Conc.LoneCalls
namespace Go.Ev
variable {P : Program} {ops : Array Oper} {Q : Exit → Act → World → Prop} {a : Act} {w : World} {i : Nat} {rest : List Nat} {o : Oper}

/-- From within a region: what is left of it comes to Q. -/
def RegAt (P : Program) (ops : Array Oper) (Q : Exit → Act → World → Prop) (l : List Nat) (a : Act) (w : World) : Prop :=
  ∀ (b : Frame) (k : List Item) (cs : List Frame), ∃ e a' w', Q e a' w' ∧ Arrives P (lone (b.at a (.inRegion ops l :: k)) cs w) b k cs e a' w'
theorem regAt_nil (h : Q .normal a w) : RegAt P ops Q [] a w := fun _ _ _ => ⟨.normal, a, w, h, .one step_region_end⟩
/-- one step on, to the same frame with a slot filled -/
theorem regAt_go {a1 : Act} {w1 : World} (h : RegAt P ops Q rest a1 w1)
    (hs : ∀ (b : Frame) (k : List Item) (cs : List Frame), Steps P (lone (b.at a (.inRegion ops (i :: rest) :: k)) cs w) (lone (b.at a1 (.inRegion ops rest :: k)) cs w1)) : RegAt P ops Q (i :: rest) a w := fun b k cs => by
  obtain ⟨e, a', w', hq, harr⟩ := h b k cs
  exact ⟨e, a', w', hq, .of_steps (hs b k cs) harr⟩
theorem regAt_skip (ho : ops[i]? = some o) (hw : Region.wanted o (yielded ops a.tmps) = false) (h : RegAt P ops Q rest (a.put o.dst undef) w) : RegAt P ops Q (i :: rest) a w :=
  regAt_go h fun b k cs => by
    have hs := step_op_skip (P := P) (b := b) (a := a) (k := k) (cs := cs) (w := w) (ops := ops) (i := i) (rest := rest) (by simp [ho, hw])
    simp only [ho, Option.bind_some] at hs
    exact .one hs
theorem fin_at (ho : ops[i]? = some o) (b : Frame) (a : Act) (k : List Item) (v : Value) : (b.at a (.inRegion ops (i :: rest) :: k)).finish v = b.at (a.put o.dst v) (.inRegion ops rest :: k) := by
  rw [Frame.finish_at, ho]; rfl
theorem regAt_wp (ho : ops[i]? = some o) (hw : Region.wanted o (yielded ops a.tmps) = true) (h : o.wp P a w (RegAt P ops Q rest) Q) : RegAt P ops Q (i :: rest) a w := by
  have hg : ∀ (b : Frame) (k : List Item) (cs : List Frame), _ := fun b k cs => stepG_op (P := P) (b := b) (k := k) (cs := cs) (w := w) (rest := rest) ho hw
  unfold Oper.wp at h
  generalize hx : (execOp a.eval o).run P w = x at h
  cases x with
  | halt hl w' =>
    cases hl <;> try exact h.elim
    rename_i v
    replace h : Q (.panic [{ v, recovered := false }]) a w' := h
    intro b k cs
    refine ⟨_, a, w', h, .inRegion ops (i :: rest) :: k, .one (step_lone_go ?_)⟩
    rw [hg, ← Frame.raise_at]
    simp [stepG.apply, hx]
  | ok nx w' =>
    cases nx with
    | value v =>
      refine regAt_go (show RegAt P ops Q rest (a.put o.dst v) w' from h) fun b k cs => .one (step_lone_go ?_)
      rw [hg, ← fin_at ho]; simp [stepG.apply, hx]
    | skip =>
      refine regAt_go (show RegAt P ops Q rest (a.put o.dst undef) w' from h) fun b k cs => .one (step_lone_go ?_)
      rw [hg, ← fin_at ho]; simp [stepG.apply, hx]
    | «defer» d =>
      refine regAt_go (a1 := ({ a with defers := d :: a.defers } : Act).put o.dst undef) (w1 := w') h fun b k cs => .one (step_lone_go ?_)
      have e : ({ b.at a (.inRegion ops (i :: rest) :: k) with defers := d :: a.defers } : Frame).finish undef = b.at ({ a with defers := d :: a.defers }.put o.dst undef) (.inRegion ops rest :: k) :=
        fin_at ho b { a with defers := d :: a.defers } k undef
      rw [hg, ← e]
      simp only [stepG.apply, Sem.runT_eq, hx, GStep.bare_after]
      rfl
    | enter f args =>
      replace h : Calls P f args w' fun
        | .returned v, w'' => RegAt P ops Q rest (a.put o.dst v) w''
        | .panicked chain, w'' => Q (.panic chain) a w''
        | .outgrown, _ => LetsOut Q := h
      intro b k cs
      obtain ⟨e, w'', fr, hR, hsteps, _, hleave⟩ := h (b.at a (.inRegion ops (i :: rest) :: k) :: cs)
      have henter : step P (lone (b.at a (.inRegion ops (i :: rest) :: k)) cs w) = .next (lone (Frame.enter P f args .normal) (b.at a (.inRegion ops (i :: rest) :: k) :: cs) w') :=
        step_lone_go (by rw [hg]; simp [stepG.apply, hx, Frame.at])
      cases e with
      | returned v =>
        obtain ⟨e, a', w₃, hq, harr⟩ := hR b k cs
        refine ⟨e, a', w₃, hq, .of_steps (.head henter (Steps.trans hsteps (.one ?_))) harr⟩
        rw [← fin_at ho]; exact step_leave_returned hleave
      | panicked chain =>
        refine ⟨.panic chain, a, w'', hR, .inRegion ops (i :: rest) :: k, .head henter (Steps.trans hsteps (.one ?_))⟩
        rw [← Frame.raise_at]; exact step_leave_panicked hleave
      | outgrown =>
        obtain ⟨a₀, w₀, hq⟩ := hR
        exact ⟨.outgrown, a₀, w₀, hq, .inr (Outgrown.of_steps (.one henter) hsteps)⟩
    | row row args =>
      replace h : Rows P row args w' fun v w'' => RegAt P ops Q rest (a.put o.dst v) w'' := h
      intro b k cs
      obtain ⟨v, w'', hR, hsteps⟩ := h (b.at a (.inRegion ops (i :: rest) :: k)) cs
      have henter : step P (lone (b.at a (.inRegion ops (i :: rest) :: k)) cs w) = .next (lone (Frame.ofRow P row args .normal) (b.at a (.inRegion ops (i :: rest) :: k) :: cs) w') :=
        step_lone_go (by rw [hg]; simp [stepG.apply, hx, Frame.at])
      obtain ⟨e, a', w₃, hq, harr⟩ := hR b k cs
      refine ⟨e, a', w₃, hq, .of_steps (.head henter ?_) harr⟩
      rw [← fin_at ho]; exact hsteps
    | _ => exact h.elim
/-- what such a look is -/
theorem sel_run {c : SelectCase} {zc : Value} {r : Nat} (hop : o.op = .select #[c] false) (hs : c.send = none) (hz : (zeroValue c.elem).run P w = .ok zc w) (hc : a.eval c.chan = .chan (some r)) :
    (execOp a.eval o).run P w = .ok (.comm #[{ chan := .chan (some r), send := none, zero := zc }] false .select) w := by
  unfold execOp
  rw [hop]
  simp [hs, hz, hc]
theorem step_sel {c : SelectCase} {zc : Value} {r cap s q : Nat} {cl tm : Bool} (ho : ops[i]? = some o) (hop : o.op = .select #[c] false) (hs : c.send = none) (hw : Region.wanted o (yielded ops a.tmps) = true)
    (hz : (zeroValue c.elem).run P w = .ok zc w) (hc : a.eval c.chan = .chan (some r)) (hb : w.heap[r]? = some (.chan cap #[] cl s q tm)) (b : Frame) (k : List Item) (cs : List Frame) :
    step P (lone (b.at a (.inRegion ops (i :: rest) :: k)) cs w) = .next (lone (b.at (a.put o.dst (.tuple #[goInt (if cl then 0 else -1), .bool false, zc])) (.inRegion ops rest :: k)) cs w) := by
  have hr := sel_run (P := P) (w := w) hop hs hz hc
  have hg : ∃ es, stepG P true (Go.Conc.G (b.at a (.inRegion ops (i :: rest) :: k)) cs) w = .comm (Go.Conc.G (b.at a (.inRegion ops (i :: rest) :: k)) cs) #[Go.Conc.rcase r zc] false .select w es := by
    rw [Go.Conc.stepG_oper ho hw]
    by_cases hk : b.kind = .early
    · simp [stepG.apply, hr, Go.Conc.G, Go.Conc.rcase, Frame.at, hk, GStep.after]
    · have hk' : (b.kind == CallKind.early) = false := by simpa using hk
      simp [stepG.apply, hr, Go.Conc.G, Go.Conc.rcase, Frame.at, hk', GStep.after]
  obtain ⟨es, hg⟩ := hg
  rw [← fin_at ho]
  cases cl with
  | false => exact Go.Conc.step_lone_select_default hg hb
  | true =>
    have hp := Go.Conc.partners_alone (c := r) true
    show step P (Go.Conc.solo (Go.Conc.G (b.at a (.inRegion ops (i :: rest) :: k)) cs) w) = _
    rw [step, Go.Conc.stepT_solo rfl]
    simp [runT, Go.Conc.solo, Go.Conc.G, Array.swapAt!, Array.swapAt, hg, GStep.es, communicate, ways, Go.Conc.rcase, hb, hp, choose, Sem.run, Question.forced, bind, Sem.bind, pure, Goroutine.finishComm, commResult] at hg ⊢
    rfl
theorem regAt_sel {c : SelectCase} {zc : Value} {r cap s q : Nat} {cl tm : Bool} (ho : ops[i]? = some o) (hop : o.op = .select #[c] false) (hs : c.send = none) (hw : Region.wanted o (yielded ops a.tmps) = true)
    (hz : (zeroValue c.elem).run P w = .ok zc w) (hc : a.eval c.chan = .chan (some r)) (hb : w.heap[r]? = some (.chan cap #[] cl s q tm))
    (h : RegAt P ops Q rest (a.put o.dst (.tuple #[goInt (if cl then 0 else -1), .bool false, zc])) w) : RegAt P ops Q (i :: rest) a w :=
  regAt_go h fun b k cs => .one (step_sel ho hop hs hw hz hc hb b k cs)
theorem wp_regAt {id : Nat} (h : RegAt P ops Q (List.range ops.size) a w) : (Code.region id ops false).wp P Q a w :=
  fun b k cs => let ⟨e, a', w', q, r⟩ := h b k cs; ⟨e, a', w', q, .of_steps (.one step_region) r⟩
end Go.Ev
