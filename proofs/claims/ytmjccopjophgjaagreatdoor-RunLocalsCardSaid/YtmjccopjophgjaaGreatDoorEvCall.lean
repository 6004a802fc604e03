/- The evaluator's operations that call, defer, panic. -/
import Derived.Test.YtmjccopjophgjaaGreatDoorEvMap
namespace Go.Ev
open Go.RowKit (Below)
variable {P : Program} {E : Env} {base : Nat} {w0 : World} {ι : Inj} {H : Hp} {w : World} {T : PT AV} {L : List AV} {lk : Look} {a : Act}

/-- What a call comes to. -/
def CPost (E : Env) (base : Nat) (w0 : World) (ι : Inj) (H : Hp) (r : CR) : Ending → World → Prop
  | .returned c, w' => ∃ v H' ι', r = .ret v H' ∧ VRel ι' v c ∧ Rl E base w0 ι' H' w' ∧ Stp ι ι' H H'
  | .panicked ch, w' => ∃ v H' ι' c, r = .pan v H' ∧ ch = [{ v := c, recovered := false }] ∧ VRel ι' v c ∧ Rl E base w0 ι' H' w' ∧ Stp ι ι' H H'
  | .outgrown, _ => False
/-- A function that may be called. -/
def Entered (P : Program) (f : Nat) : Prop := ∃ fn, P.funcs[f]? = some fn ∧ (fn.name == "runtime.NumGoroutine") = false ∧ fn.body.isSome = true
theorem Entered.run {f : Nat} (h : Entered P f) (args : Array Value) (w : World) : (callFunc f args).run P w = .ok (.enter f args) w := by
  obtain ⟨fn, h1, h2, h3⟩ := h
  have h4 : ¬ fn.body = none := by intro hb; rw [hb] at h3; cases h3
  have h5 : ¬ fn.name = "runtime.NumGoroutine" := by simpa using h2
  unfold callFunc
  simp [program, Sem.run, h1, h4, h5]
def CallOk (P : Program) (E : Env) (base : Nat) (w0 : World) (call : CallT) : Prop :=
  ∀ f args H r, call f args H = r → r ≠ .no → ∀ ι w cargs, Rl E base w0 ι H w → LRel ι args cargs → Entered P f ∧ Calls P f cargs.toArray w (CPost E base w0 ι H r)

/-- What is deferred. -/
inductive DRel (ι : Inj) : List DF → List Deferred → Prop
  | nil : DRel ι [] []
  | cons (d : DF) (A C : List Value) (D : List DF) (S : List Deferred) (ha : LRel ι d.args A) (hc : LRel ι d.cap C) (t : DRel ι D S) : DRel ι (d :: D) ({ target := .fn (.func d.f) C.toArray, args := A.toArray } :: S)
theorem DRel.mono {ι κ : Inj} (hi : ι.le κ) : ∀ {D : List DF} {S : List Deferred}, DRel ι D S → DRel κ D S
  | _, _, .nil => .nil
  | _, _, .cons d A C D S ha hc t => .cons d A C D S (ha.mono hi) (hc.mono hi) (t.mono hi)

/-- What the frame holds behind an operation. -/
def Act.done (a : Act) (S : List Deferred) (dst : Option Tmp) (c : Value) : Act := Act.put { a with defers := S } dst c
theorem done_self (a : Act) (dst : Option Tmp) (c : Value) : Act.done a a.defers dst c = a.put dst c := rfl

theorem exec_p1 (f : AV → Option AV) (x : Opd) (call : CallT) (D : List DF) (k : AV → List DF → Hp → RO) : exec (.p1 f x) call T L D H k = tryV (pv (.p1 f x) T L) D H k := rfl
theorem pv_pure {q : K} (hq : q.pureK = true) (call : CallT) (D : List DF) (k : AV → List DF → Hp → RO) : exec q call T L D H k = tryV (pv q T L) D H k := by
  cases q <;> first | rfl | cases hq

theorem tryV_ne {x : Option AV} {D : List DF} {k : AV → List DF → Hp → RO} {r : RO} (h : tryV x D H k = r) (hr : r ≠ .no) : ∃ v, x = some v ∧ k v D H = r := by
  cases x with
  | none => exact absurd h.symm hr
  | some v => exact ⟨v, rfl, h⟩
theorem orV_ne {x : OR} {D : List DF} {k : AV → List DF → Hp → RO} {r : RO} (h : orV x D k = r) (hr : r ≠ .no) : ∃ v H', x = .val v H' ∧ k v D H' = r := by
  cases x with
  | no => exact absurd h.symm hr
  | val v H' => exact ⟨v, H', rfl, h⟩
theorem optR_ne {α : Type} {x : Option α} {s : α → RO} {r : RO} (h : opt x .no s = r) (hr : r ≠ .no) : ∃ v, x = some v ∧ s v = r := by
  cases x with
  | none => exact absurd h.symm hr
  | some v => exact ⟨v, rfl, h⟩

theorem fn_rel {f : Fn} {first cap : List AV} {v : Value} (h : VRel ι (.fn f first cap) v) : ∃ A C, v = .func f A.toArray C.toArray ∧ LRel ι first A ∧ LRel ι cap C := by
  cases h with
  | fn _ _ _ A C hA hC => exact ⟨A, C, rfl, hA, hC⟩

/-- What stands behind an operation. -/
structure After (E : Env) (base : Nat) (w0 : World) (ι : Inj) (H : Hp) (v : AV) (D : List DF) (H' : Hp) (ι' : Inj) (c : Value) (S : List Deferred) (w' : World) : Prop where
  val : VRel ι' v c
  rl : Rl E base w0 ι' H' w'
  stp : Stp ι ι' H H'
  dfr : DRel ι' D S

theorem exec_sound (hE : EnvOk P E) {call : CallT} (hC : CallOk P E base w0 call) (h : Rl E base w0 ι H w) (hl : LkOk ι T L lk a) {D : List DF} (hD : DRel ι D a.defers)
    {o : Oper} {q : K} (hk : cK E lk o.op = some q) {k : AV → List DF → Hp → RO} {r : RO} (he : exec q call T L D H k = r) (hr : r ≠ .no)
    {next : Act → World → Prop} {Q : Exit → Act → World → Prop}
    (hn : ∀ v D' H' ι' c S w', k v D' H' = r → After E base w0 ι H v D' H' ι' c S w' → next (Act.done a S o.dst c) w')
    (hp : ∀ v H' ι' c w', r = .pan v D H' → After E base w0 ι H v D H' ι' c a.defers w' → Q (.panic [{ v := c, recovered := false }]) a w') :
    o.wp P a w next Q := by
  have pure_case : ∀ v, k v D H = r → OpGives P ι w a.eval o v → o.wp P a w next Q := by
    intro v hv hg
    obtain ⟨c, h1, h2⟩ := hg
    unfold Oper.wp
    rw [h1]
    exact hn v D H ι c a.defers w hv ⟨h2, h, .refl ι H, hD⟩
  have call_case : ∀ (f : Nat) (args : List AV) (cargs : List Value), LRel ι args cargs → crV (call f args H) D k = r → (execOp a.eval o).run P w = (callFunc f cargs.toArray).run P w → o.wp P a w next Q := by
    intro f args cargs hargs hcr hrun
    have hne : call f args H ≠ .no := by
      intro e; rw [e] at hcr; exact absurd hcr.symm hr
    obtain ⟨h1, h2⟩ := hC f args H _ rfl hne ι w cargs h hargs
    unfold Oper.wp
    rw [hrun, h1.run, Oper.upon_enter]
    refine Calls.mono h2 fun e w' he => ?_
    cases e with
    | returned c =>
      obtain ⟨v, H', ι', e1, e2, e3, e4⟩ := he
      rw [e1] at hcr
      exact hn v D H' ι' c a.defers w' hcr ⟨e2, e3, e4, hD.mono e4.le⟩
    | panicked ch =>
      obtain ⟨v, H', ι', c, e1, rfl, e2, e3, e4⟩ := he
      rw [e1] at hcr
      exact hp v H' ι' c w' hcr.symm ⟨e2, e3, e4, hD.mono e4.le⟩
    | outgrown => exact he.elim
  by_cases hq : q.pureK = true
  · rw [pv_pure hq] at he
    obtain ⟨v, h1, h2⟩ := tryV_ne he hr
    exact pure_case v h2 (pure_sound hE h.glob hl hk h1)
  · have hk' := hk
    obtain ⟨dst, op, type, pos, after, guard⟩ := o
    cases q with
    | p1 f x => exact absurd rfl hq
    | p2 f x y => exact absurd rfl hq
    | p3 f x y z => exact absurd rfl hq
    | pn f xs => exact absurd rfl hq
    | r1 f x =>
      obtain ⟨v, h1, h2⟩ := tryV_ne (x := f (x.ev T L) H) he hr
      exact pure_case v h2 (read_sound hE h hl hk h1)
    | al f xs =>
      obtain ⟨⟨x, m⟩, h1, h2⟩ := optR_ne he hr
      obtain ⟨ob, z, g1, g2, g3, g4⟩ := al_sound (P := P) (w := w) hE h.glob hl hk h1
      rw [new_eq] at h2
      obtain ⟨k1, k2⟩ := h.alloc ob z x g2
      unfold Oper.wp
      rw [g1]
      exact hn _ D _ _ (m.cv w.heap.size) a.defers _ h2 ⟨Mk.rel (upd_same _ _ _), k1, k2, hD.mono k2.le⟩
    | w2 f x y =>
      obtain ⟨v, H', h1, h2⟩ := orV_ne (x := f (x.ev T L) (y.ev T L) H) he hr
      cases cK_inv hk with
      | pur _ _ hh => exact absurd hh hq
      | store t n x' y' u v' g1 g2 g3 =>
        obtain ⟨rfl, w', k1, k2, k3⟩ := st_sound (P := P) hE h g1 (opd_sound h.glob hl g2) (opd_sound h.glob hl g3) h1
        have hrun : (execOp a.eval { dst := dst, op := .store t x' y', type := type, pos := pos, after := after, guard := guard }).run P w = .ok .skip w' := by simp [execOp, k1]
        unfold Oper.wp
        rw [hrun]
        exact hn _ D _ ι undef a.defers _ h2 ⟨.tup [] [] .nil, k2, k3, hD⟩
      | app s x' st xt e dx i z u v' g1 g2 g3 g4 g5 g6 g7 g8 g9 g10 =>
        obtain ⟨c, w', ι', k1, k2, k3, k4⟩ := app_sound (P := P) (ty := type) hE h g1 g2 g3 g4 g5 g6 g8 (opd_sound h.glob hl g9) (opd_sound h.glob hl g10) h1
        have hrun : (execOp a.eval { dst := dst, op := .call { callee := .builtin .append, args := #[s, x'], argTypes := #[st, xt] }, type := type, pos := pos, after := after, guard := guard }).run P w = .ok (.value c) w' := by
          simp [execOp, resolve, invoke, builtin, k1]
        unfold Oper.wp
        rw [hrun]
        exact hn _ D _ ι' c a.defers _ h2 ⟨k2, k3, k4, hD.mono k4.le⟩
      | look t kt et d z x' i ok u v' g1 g2 g3 g4 g5 =>
        obtain ⟨k1, rfl⟩ := look_sound (P := P) hE h g1 g2 g3 (opd_sound h.glob hl g4) (opd_sound h.glob hl g5) h1
        exact pure_case v h2 (.of k1 rfl)
      | mdel t kt et ts d m k' u v' g1 g2 g4 g5 =>
        obtain ⟨rfl, w', k1, k2, k3⟩ := mdel_sound (P := P) (ts := ts) (ty := type) hE h g1 g2 (opd_sound h.glob hl g4) (opd_sound h.glob hl g5) h1
        have hrun : (execOp a.eval { dst := dst, op := .call { callee := .builtin .delete, args := #[m, k'], argTypes := (t :: ts).toArray }, type := type, pos := pos, after := after, guard := guard }).run P w = .ok (.value (.tuple #[])) w' := by
          simp [execOp, resolve, invoke, builtin, k1]
        unfold Oper.wp
        rw [hrun]
        exact hn _ D _ ι (.tuple #[]) a.defers _ h2 ⟨.tup [] [] .nil, k2, k3, hD⟩
      | copy t e n ts x' y' u v' g1 g2 g3 g4 g5 =>
        obtain ⟨c, w', ι', k1, k2, k3, k4⟩ := copy_sound (P := P) (ts := ts) (ty := type) hE h g1 g2 (opd_sound h.glob hl g4) (opd_sound h.glob hl g5) h1
        have hrun : (execOp a.eval { dst := dst, op := .call { callee := .builtin .copy, args := #[x', y'], argTypes := (t :: ts).toArray }, type := type, pos := pos, after := after, guard := guard }).run P w = .ok (.value c) w' := by
          simp [execOp, resolve, invoke, builtin, k1]
        unfold Oper.wp
        rw [hrun]
        exact hn _ D _ ι' c a.defers _ h2 ⟨k2, k3, k4, hD.mono k4.le⟩
      | cls x' u ts g1 =>
        obtain ⟨rfl, w', k1, k2, k3⟩ := close_sound (P := P) (ats := ts) (ty := type) h (opd_sound h.glob hl g1) h1
        have hrun : (execOp a.eval { dst := dst, op := .call { callee := .builtin .close, args := #[x'], argTypes := ts }, type := type, pos := pos, after := after, guard := guard }).run P w = .ok (.value (.tuple #[])) w' := by
          simp [execOp, resolve, invoke, builtin, k1]
        unfold Oper.wp
        rw [hrun]
        exact hn _ D _ ι (.tuple #[]) a.defers _ h2 ⟨.tup [] [] .nil, k2, k3, hD⟩
      | rng t kt et x' u g1 g2 =>
        obtain ⟨c, w', ι', k1, k2, k3, k4⟩ := rng_sound (P := P) hE h g1 (opd_sound h.glob hl g2) h1
        have hrun : (execOp a.eval { dst := dst, op := .range t x', type := type, pos := pos, after := after, guard := guard }).run P w = .ok (.value c) w' := by simp [execOp, k1]
        unfold Oper.wp
        rw [hrun]
        exact hn _ D _ ι' c a.defers _ h2 ⟨k2, k3, k4, hD.mono k4.le⟩
      | nxt x' u g2 =>
        obtain ⟨c, w', ι', k1, k2, k3, k4⟩ := nxt_sound (P := P) (ty := type) h (opd_sound h.glob hl g2) h1
        have hrun : (execOp a.eval { dst := dst, op := .next x' false, type := type, pos := pos, after := after, guard := guard }).run P w = .ok (.value c) w' := by simp [execOp, k1]
        unfold Oper.wp
        rw [hrun]
        exact hn _ D _ ι' c a.defers _ h2 ⟨k2, k3, k4, hD.mono k4.le⟩
      | s2s s e x' u g1 g3 g8 =>
        obtain ⟨c, w', ι', k1, k2, k3, k4⟩ := s2s_sound (P := P) hE h g1 g3 (opd_sound h.glob hl g8) h1
        have hrun : (execOp a.eval { dst := dst, op := .convert s s x', type := type, pos := pos, after := after, guard := guard }).run P w = .ok (.value c) w' := by simp [execOp, k1]
        unfold Oper.wp
        rw [hrun]
        exact hn _ D _ ι' c a.defers _ h2 ⟨k2, k3, k4, hD.mono k4.le⟩
      | s2b s d e i z x' u g1 g2 g3 g4 g5 g6 g7 g8 =>
        obtain ⟨c, w', ι', k1, k2, k3, k4⟩ := s2b_sound (P := P) hE h g1 g2 g3 g4 g5 g6 g7 (opd_sound h.glob hl g8) h1
        have hrun : (execOp a.eval { dst := dst, op := .convert s d x', type := type, pos := pos, after := after, guard := guard }).run P w = .ok (.value c) w' := by simp [execOp, k1]
        unfold Oper.wp
        rw [hrun]
        exact hn _ D _ ι' c a.defers _ h2 ⟨k2, k3, k4, hD.mono k4.le⟩
    | w3 f x y z =>
      obtain ⟨v, H', h1, h2⟩ := orV_ne (x := f (x.ev T L) (y.ev T L) (z.ev T L) H) he hr
      cases cK_inv hk with
      | pur _ _ hh => exact absurd hh hq
      | mupd t kt et d m k' x' u v' y' g1 g2 g4 g5 g6 =>
        obtain ⟨rfl, w', k1, k2, k3⟩ := mupd_sound (P := P) hE h g1 g2 (opd_sound h.glob hl g4) (opd_sound h.glob hl g5) (opd_sound h.glob hl g6) h1
        have hrun : (execOp a.eval { dst := dst, op := .mapUpdate t m k' x', type := type, pos := pos, after := after, guard := guard }).run P w = .ok .skip w' := by simp [execOp, k1]
        unfold Oper.wp
        rw [hrun]
        exact hn _ D _ ι undef a.defers _ h2 ⟨.tup [] [] .nil, k2, k3, hD⟩
    | call f xs =>
      cases cK_inv hk with
      | pur _ _ hh => exact absurd hh hq
      | call g args ts xs hx =>
        refine call_case f (evs T L xs) _ (opds_sound h.glob hl hx) he ?_
        have e1 : (args.toList.map a.eval).toArray = args.map a.eval := by apply Array.ext'; simp
        rw [e1]
        simp [execOp, resolve, invoke, Deferred.ofValue, Act.eval]
    | callv f xs =>
      cases cK_inv hk with
      | pur _ _ hh => exact absurd hh hq
      | callv g args ts xs y hx hy =>
        have hf := opd_sound h.glob hl hy
        have ha := opds_sound h.glob hl hx
        replace he : crV (callV call (f.ev T L) (evs T L xs) H) D k = r := he
        unfold callV at he
        split at he
        · rename_i e0 gf first cap e1
          rw [e1] at hf
          obtain ⟨A, C, e2, hA, hCc⟩ := fn_rel hf
          rw [app_eq, app_eq] at he
          refine call_case gf _ _ (hA.append (ha.append hCc)) he ?_
          have e3 : (A ++ (args.toList.map a.eval ++ C)).toArray = A.toArray ++ args.map a.eval ++ C.toArray := by apply Array.ext'; simp
          rw [e3]
          simp [execOp, resolve, invoke, Deferred.ofValue, e2]
        · exact absurd he.symm hr
    | rcv => exact absurd he.symm hr
    | sel z x => exact absurd he.symm hr
    | dfr f xs =>
      cases cK_inv hk with
      | pur _ _ hh => exact absurd hh hq
      | dfr g args ts xs y hx hy =>
        have hf := opd_sound h.glob hl hy
        have ha := opds_sound h.glob hl hx
        replace he : opt (dfOf (f.ev T L) (evs T L xs)) .no (fun d => k (.tup []) (d :: D) H) = r := he
        obtain ⟨d, h1, h2⟩ := optR_ne he hr
        unfold dfOf at h1
        split at h1
        · rename_i e0 gf first cap e1
          cases h1
          rw [e1] at hf
          obtain ⟨A, C, e2, hA, hCc⟩ := fn_rel hf
          · have hrun : (execOp a.eval { dst := dst, op := .defer { callee := .value g, args := args, argTypes := ts }, type := type, pos := pos, after := after, guard := guard }).run P w =
                .ok (.defer { target := .fn (.func gf) C.toArray, args := (A ++ args.toList.map a.eval).toArray }) w := by
              have e3 : (A ++ args.toList.map a.eval).toArray = A.toArray ++ args.map a.eval := by apply Array.ext'; simp
              rw [e3]
              simp [execOp, resolve, Deferred.ofValue, e2]
            unfold Oper.wp
            rw [hrun]
            have := DRel.cons (ι := ι) ⟨gf, app first (evs T L xs), cap⟩ (A ++ args.toList.map a.eval) C D a.defers (by rw [app_eq]; exact hA.append ha) hCc hD
            exact hn _ _ _ ι undef _ _ h2 ⟨.tup [] [] .nil, h, .refl ι H, this⟩
        · cases h1
    | pan x =>
      cases cK_inv hk with
      | pur _ _ hh => exact absurd hh hq
      | pan x' y hy =>
        have hx := opd_sound h.glob hl hy
        replace he : panV (x.ev T L) D H = r := he
        unfold panV at he
        split at he
        · rename_i e0 t v e1
          rw [e1] at hx
          have e3 : ∃ u, a.eval x' = .iface t u := by
            generalize a.eval x' = c at hx
            cases hx with
            | ifc _ _ u hu => exact ⟨u, rfl⟩
          obtain ⟨u, hu⟩ := e3
          have hrun : (execOp a.eval { dst := dst, op := .panic x', type := type, pos := pos, after := after, guard := guard }).run P w = .halt (.panic (.iface t u)) w := by
            simp [execOp, hu, Instr.panic, goPanic, Sem.run]
          unfold Oper.wp
          rw [hrun]
          refine hp _ H ι (.iface t u) w he.symm ⟨by rw [← hu]; exact hx, h, .refl ι H, hD⟩
        · exact absurd he.symm hr
end Go.Ev
