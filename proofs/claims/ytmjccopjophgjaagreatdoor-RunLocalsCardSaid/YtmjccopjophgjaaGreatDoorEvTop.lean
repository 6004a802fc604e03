/- The evaluator at calls: THE LAW. -/
import Derived.Test.YtmjccopjophgjaaGreatDoorEvFn
namespace Go.Ev
open Go.RowKit (Below)
variable {P : Program} {E : Env} {base : Nat} {w0 : World} {T : PT AV}
variable {nt : Nat} {ι0 ι : Inj} {H0 H : Hp} {D : List DF} {a : Act} {w : World} {X : PT Unit} {call : CallT}

/-- All functions' code is in order. -/
def CodesOk (E : Env) : Prop := ∀ (f : Nat) (fn : Func) (c : Code), fnOf E f = some fn → fn.body = some c → CodeOk fn.ntmps c
/-- What is said of a function in the place of its text. -/
def SumsOk (P : Program) (E : Env) (base : Nat) (w0 : World) : Prop := ∀ (f : Nat) (g : List AV → Hp → Option (AV × Hp)), E.fn.get (Pos.of f) = some (.sm g) → CallOk P E base w0 fun f' args H => if f' = f then sumK (g args H) else .no

theorem optC_ne {α : Type} {x : Option α} {s : α → CR} {r : CR} (h : opt x .no s = r) (hr : r ≠ .no) : ∃ v, x = some v ∧ s v = r := by
  cases x with
  | none => exact absurd h.symm hr
  | some v => exact ⟨v, rfl, h⟩

theorem entered (hE : EnvOk P E) {f : Nat} {fn : Func} {c : Code} (h : fnOf E f = some fn) (hb : fn.body = some c) : Entered P f := by
  obtain ⟨h1, h2⟩ := hE.fn f fn h
  exact ⟨fn, h1, h2, by rw [hb]; rfl⟩

theorem evD_sound (hE : EnvOk P E) (hC : CallOk P E base w0 call) (hm : P.follows .mixedOrders = true) (hK : CodesOk E) {d : DF} {u : UM} {r : DR} (he : evD E call d u H = r) (hr : r ≠ .no) {m : FrameMode} (hU : URel ι u m)
    {A C : List Value} (ha : LRel ι d.args A) (hc : LRel ι d.cap C) (hA : AfterR E base w0 ι0 H0 [] H ι [] w) :
    Entered P d.f ∧ CallsD P d.f (A.toArray ++ C.toArray) m w fun e m' w' => match e with
      | .returned _ => ∃ u' H' ι', r = .ret u' H' ∧ URel ι' u' m' ∧ AfterR E base w0 ι0 H0 [] H' ι' [] w' ∧ ι.le ι'
      | _ => False := by
  unfold evD at he
  cases hf : fnOf E d.f with
  | none => rw [hf] at he; exact absurd he.symm hr
  | some fn =>
    rw [hf] at he
    replace he : (opt fn.body DR.no fun c => (crossF fn).frc fun X => SO.rec (motive := fun _ => DR) (fun T u H => opt (results E fn T H) .no fun _ => .ret u H) (fun T u H => opt (results E fn T H) .no fun _ => .ret u H) .no (evS E call X c (initT X (app d.args d.cap)) u H)) = r := he
    cases hb : fn.body with
    | none => rw [hb] at he; exact absurd he.symm hr
    | some c =>
      rw [hb] at he
      replace he : ((crossF fn).frc fun X => SO.rec (motive := fun _ => DR) (fun T u H => opt (results E fn T H) .no fun _ => .ret u H) (fun T u H => opt (results E fn T H) .no fun _ => .ret u H) .no (evS E call X c (initT X (app d.args d.cap)) u H)) = r := he
      rw [frc_eq, app_eq] at he
      refine ⟨entered hE hf hb, ?_⟩
      generalize hx : evS E call (crossF fn) c (initT (crossF fn) (d.args ++ d.cap)) u H = r1 at he
      have hne : r1 ≠ .no := by intro e; subst e; exact hr he.symm
      have e0 : A.toArray ++ C.toArray = (A ++ C).toArray := by simp
      rw [e0]
      refine callsD_of_wpS (hE.fn _ _ hf).1 hb fun c0 cs hmode => ?_
      have hc0 : c0 = { c0 with mode := m } := by subst hmode; rfl
      have hS := evS_sound (ι0 := ι) (H0 := H) hE hC hm c0 cs c (hK _ _ _ hf hb) _ u H r1 hx hne ι m { tmps := (A ++ C).toArray ++ Array.replicate (fn.ntmps - (A ++ C).toArray.size) undef, defers := [] } w hU rfl (Fr.init (ha.append hc)) ⟨hA.rl, .refl ι H, .nil⟩
      rw [← hc0] at hS
      refine wpS_mono hS fun e a' fs w' hp => ?_
      cases e with
      | normal =>
        obtain ⟨T', u', H', ι', m', rfl, rfl, hU', hd', hF', hA'⟩ := hp
        replace he : (opt (results E fn T' H') DR.no fun _ => .ret u' H') = r := he
        cases hres : results E fn T' H' with
        | none => rw [hres] at he; exact absurd he.symm hr
        | some v =>
          rw [hres] at he
          obtain ⟨cv, k1, _⟩ := results_sound (P := P) hE hF' hA'.rl hres
          exact ⟨hd', m', rfl, cv, k1, u', H', ι', he.symm, hU', ⟨hA'.rl, hA.stp.trans hA'.stp, .nil⟩, hA'.stp.le⟩
      | ret =>
        obtain ⟨T', u', H', ι', m', rfl, rfl, hU', hd', hF', hA'⟩ := hp
        replace he : (opt (results E fn T' H') DR.no fun _ => .ret u' H') = r := he
        cases hres : results E fn T' H' with
        | none => rw [hres] at he; exact absurd he.symm hr
        | some v =>
          rw [hres] at he
          obtain ⟨cv, k1, _⟩ := results_sound (P := P) hE hF' hA'.rl hres
          exact ⟨hd', m', rfl, cv, k1, u', H', ι', he.symm, hU', ⟨hA'.rl, hA.stp.trans hA'.stp, .nil⟩, hA'.stp.le⟩
      | exit id => exact hp.elim
      | panic ch => exact hp.elim
      | goto l => exact hp.elim
      | outgrown => exact hp.elim

theorem Fr.mono {κ : Inj} (hi : ι.le κ) (h : Fr nt X ι T a) : Fr nt X κ T a := ⟨h.size, h.cross, fun t v ht => (h.val t v ht).mono hi⟩

theorem leaves_sound (hE : EnvOk P E) (hC : CallOk P E base w0 call) (hm : P.follows .mixedOrders = true) (hK : CodesOk E) {fn : Func} {r : CR} (hr : r ≠ .no) : ∀ (D : List DF) (S : List Deferred) (u : UM) (m : FrameMode) (H : Hp) (ι : Inj) (w : World),
    leaves E call fn T D u H = r → DRel ι D S → URel ι u m → Fr nt X ι T a → AfterR E base w0 ι0 H0 [] H ι [] w → Leaves P fn a.tmps (CPost E base w0 ι0 H0 r) S m w
  | [], S, u, m, H, ι, w, he, hD, hU, hF, hA => by
    cases hD
    cases hU with
    | ret =>
      replace he : (opt (results E fn T H) CR.no fun v => .ret v H) = r := he
      obtain ⟨v, h1, h2⟩ := optC_ne he hr
      obtain ⟨c, k1, k2⟩ := results_sound (P := P) hE hF hA.rl h1
      exact ⟨c, k1, v, H, ι, h2.symm, k2, hA.rl, hA.stp⟩
    | pan v c b hv =>
      cases b with
      | false => exact ⟨v, H, ι, c, he.symm, rfl, hv, hA.rl, hA.stp⟩
      | true => exact absurd he.symm hr
  | d :: D, S, u, m, H, ι, w, he, hD, hU, hF, hA => by
    cases hD with
    | cons _ A C _ S ha hc t =>
      replace he : (DR.rec (motive := fun _ => CR) (fun u' H' => leaves E call fn T D (settleU u') H') .no (evD E call d u H)) = r := he
      generalize hx : evD E call d u H = r1 at he
      have hne : r1 ≠ .no := by intro e; subst e; exact hr he.symm
      obtain ⟨h1, h2⟩ := evD_sound hE hC hm hK hx hne hU ha hc hA
      refine leaves_cons hU.ne (h1.run _ w) (h2.mono fun e m' w' hp => ?_)
      cases e with
      | returned c =>
        obtain ⟨u', H', ι', rfl, hU', hA', hle⟩ := hp
        exact leaves_sound hE hC hm hK hr D S (settleU u') (settle m') H' ι' w' he (t.mono hle) hU'.settle (hF.mono hle) hA'
      | panicked ch => exact hp.elim
      | outgrown => exact hp.elim

theorem evFn_sound (hE : EnvOk P E) (hC : CallOk P E base w0 call) (hm : P.follows .mixedOrders = true) (hK : CodesOk E) (nl : Nat) {f : Nat} {fn : Func} (hf : fnOf E f = some fn) {args : List AV} {H : Hp} {r : CR} (he : evFn E call nl args H fn = r) (hr : r ≠ .no)
    {cargs : List Value} (hR : Rl E base w0 ι H w) (ha : LRel ι args cargs) : Entered P f ∧ Calls P f cargs.toArray w (CPost E base w0 ι H r) := by
  unfold evFn at he
  obtain ⟨c, hb, he⟩ := optC_ne he hr
  refine ⟨entered hE hf hb, ?_⟩
  rw [frc_eq] at he
  generalize hx : ev E call nl (crossF fn) c (initT (crossF fn) args) [] H = r1 at he
  have hne : r1 ≠ .no := by intro e; subst e; exact hr he.symm
  refine calls_of_wp_defers (hE.fn _ _ hf).1 hb ?_
  refine wp_mono (ev_sound (ι0 := ι) (H0 := H) hE hC hm nl c (hK _ _ _ hf hb) _ [] H r1 hx hne ι _ w (Fr.init ha) ⟨hR, .refl ι H, .nil⟩) fun e a' w' hp => ?_
  cases e with
  | normal =>
    obtain ⟨T', D', H', ι', rfl, hF', hA'⟩ := hp
    exact leaves_sound hE hC hm hK hr D' a'.defers .ret .returning H' ι' w' he hA'.dfr .ret hF' ⟨hA'.rl, hA'.stp, .nil⟩
  | ret =>
    obtain ⟨T', D', H', ι', rfl, hF', hA'⟩ := hp
    exact leaves_sound hE hC hm hK hr D' a'.defers .ret .returning H' ι' w' he hA'.dfr .ret hF' ⟨hA'.rl, hA'.stp, .nil⟩
  | panic ch =>
    obtain ⟨v, T', D', H', ι', cv, rfl, rfl, hv, hF', hA'⟩ := hp
    exact leaves_sound hE hC hm hK hr D' a'.defers (.pan v false) (.panicking [{ v := cv, recovered := false }]) H' ι' w' he hA'.dfr (.pan v cv false hv) hF' ⟨hA'.rl, hA'.stp, .nil⟩
  | exit id => obtain ⟨T', D', H', ι', rfl, _⟩ := hp; exact absurd he.symm hr
  | goto l => exact hp.elim
  | outgrown => exact hp.elim

/-- What is told of a function's text is so. -/
def CcOk (E : Env) : Prop := ∀ (f : Nat) (fn : Func) (X : PT Unit) (g : CallT → Nat → StT) (rs : PT AV → Hp → Option AV), E.fn.get (Pos.of f) = some (.cc fn X g rs) →
  X = crossF fn ∧ (∃ c, fn.body = some c) ∧ (∀ call nl, g call nl = ev E call nl X (bodyOf fn)) ∧ ∀ T H, rs T H = results E fn T H
/-- what is told of one function -/
def Told (E : Env) (fn : Func) (X : PT Unit) (g : CallT → Nat → StT) (rs : PT AV → Hp → Option AV) : Prop :=
  X = crossF fn ∧ (∃ c, fn.body = some c) ∧ (∀ call nl, g call nl = ev E call nl X (bodyOf fn)) ∧ ∀ T H, rs T H = results E fn T H
theorem fin_eq {rs : PT AV → Hp → Option AV} {fn : Func} (h : ∀ T H, rs T H = results E fn T H) (T : PT AV) (D : List DF) (H : Hp) : fin E call fn rs T D H = leaves E call fn T D .ret H := by
  cases D with
  | nil =>
    show opt (rs T H) CR.no (fun v => .ret v H) = opt (results E fn T H) CR.no fun v => .ret v H
    rw [h]
  | cons d D => rfl
theorem evCc_eq (nl : Nat) (args : List AV) (H : Hp) {fn : Func} {X : PT Unit} {g : CallT → Nat → StT} {rs : PT AV → Hp → Option AV} (hX : X = crossF fn) (hb : ∃ c, fn.body = some c) (hg : ∀ call nl, g call nl = ev E call nl X (bodyOf fn))
    (hr : ∀ T H, rs T H = results E fn T H) : evCc E call nl args H fn X g rs = evFn E call nl args H fn := by
  obtain ⟨c, hb⟩ := hb
  have hc : bodyOf fn = c := by unfold bodyOf; rw [hb]; rfl
  unfold evCc evFn
  rw [hb, hg, hc, hX, funext fun T => funext fun D => funext fun H => fin_eq (E := E) (call := call) hr T D H]
  show _ = PT.frc (crossF fn) (fun X => Out.rec (motive := fun _ => CR) (fun T D H => leaves E call fn T D .ret H) (fun _ _ _ _ => .no) (fun T D H => leaves E call fn T D .ret H) (fun v T D H => leaves E call fn T D (.pan v false) H) .no (ev E call nl X c (initT X args) [] H))
  rw [frc_eq]
/-- THE LAW: what the evaluator says of a call, the model does. -/
theorem evC_sound (hE : EnvOk P E) (hm : P.follows .mixedOrders = true) (hK : CodesOk E) (hS : SumsOk P E base w0) (hT : CcOk E) (nl : Nat) : ∀ n, CallOk P E base w0 (evC E nl n)
  | 0 => fun f args H r he hr => absurd he.symm hr
  | n + 1 => by
    intro f args H r he hr ι w cargs hR ha
    replace he : (opt (E.fn.get (Pos.of f)) CR.no fun x => FE.rec (motive := fun _ => CR) (fun fn => evFn E (evC E nl n) nl args H fn) (fun g => sumK (g args H)) (fun fn X g rs => evCc E (evC E nl n) nl args H fn X g rs) x) = r := he
    obtain ⟨x, h1, h2⟩ := optC_ne he hr
    cases x with
    | fn fn =>
      have hf : fnOf E f = some fn := by unfold fnOf; rw [h1]; rfl
      exact evFn_sound hE (evC_sound hE hm hK hS hT nl n) hm hK nl hf h2 hr hR ha
    | cc fn X g rs =>
      have hf : fnOf E f = some fn := by unfold fnOf; rw [h1]; rfl
      obtain ⟨t1, t2, t3, t4⟩ := hT f fn X g rs h1
      replace h2 : evCc E (evC E nl n) nl args H fn X g rs = r := h2
      rw [evCc_eq nl args H t1 t2 t3 t4] at h2
      exact evFn_sound hE (evC_sound hE hm hK hS hT nl n) hm hK nl hf h2 hr hR ha
    | sm g => exact hS f g h1 f args H r (by show (if f = f then sumK (g args H) else CR.no) = r; rw [if_pos rfl]; exact h2) hr ι w cargs hR ha

/-- Without told texts. -/
theorem ccOk_none (h : ∀ f fn X g rs, E.fn.get (Pos.of f) ≠ some (.cc fn X g rs)) : CcOk E := fun f fn X g rs e => absurd e (h f fn X g rs)
/-- Without such words. -/
theorem sumsOk_none (h : ∀ f g, E.fn.get (Pos.of f) ≠ some (.sm g)) : SumsOk P E base w0 := fun f g e => absurd e (h f g)

/-! ### the checks, as they are run -/
noncomputable def ltB (a b : Nat) : Bool := Nat.ble (Nat.succ a) b
noncomputable def allN (f : Nat → Bool) (n : Nat) : Bool := Nat.rec (motive := fun _ => Bool) true (fun m ih => iand (f m) ih) n
noncomputable def hasDst (ops : List Oper) (j : Nat) : Bool := opt (nth j ops) false fun p => opt p.dst false fun _ => true
noncomputable def opsB (nt : Nat) (ops : List Oper) : Bool :=
  iand (nodupB (dsts ops)) (allB (fun o => iand (opt o.dst true fun d => ltB d nt) (opt o.guard true fun g => hasDst ops g.1)) ops)
noncomputable def bitB (ms : List Nat) (i j : Nat) : Bool := opt (nth i ms) false fun m => tb m j
noncomputable def drawB1 (ops : List Oper) (ms : List Nat) (all : List Nat) (i : Nat) (o : Oper) : Bool :=
  iand (opt o.guard true fun g => bitB ms i g.1)
    (allB (fun t => opt (locOf ops all t) true fun j => cnd (Nat.beq i j) true (cnd (bitB ms i j) true (bitB ms j i))) (readsOf o.op))
noncomputable def drawB (ops : List Oper) : Bool :=
  allN (fun i => opt (nth i ops) false fun o => drawB1 ops (masks ops) (rngF (len ops)) i o) (len ops)
noncomputable def codeB (nt : Nat) (c : Code) : Bool :=
  Code.rec (motive := fun _ => Bool) true (fun _ ops draw => iand (opsB nt ops.toList) (cnd draw (drawB ops.toList) true)) (fun _ _ a b => iand a b) (fun _ _ _ a b => iand a b) (fun _ _ c => c) (fun _ c => c) (fun _ _ _ _ a b => iand a b) (fun _ => true) (fun _ c => c) (fun _ => true) (fun _ => true) true (fun _ => true) c
noncomputable def fnB (fn : Func) : Bool := opt fn.body true fun c => codeB fn.ntmps c

theorem allN_eq {f : Nat → Bool} : ∀ {n : Nat}, allN f n = true → ∀ i, i < n → f i = true
  | 0, _, i, hi => by omega
  | n + 1, h, i, hi => by
    replace h : iand (f n) (allN f n) = true := h
    rw [iand_eq, Bool.and_eq_true] at h
    by_cases e : i = n
    · subst e; exact h.1
    · exact allN_eq h.2 i (by omega)
theorem memB_eq {i : Nat} : ∀ {l : List Nat}, memB i l = false → i ∉ l
  | [], _, h => by cases h
  | j :: l, h, hm => by
    replace h : cnd (Nat.beq i j) true (memB i l) = false := h
    rw [cnd_eq] at h
    split at h
    · cases h
    · rename_i hne
      cases hm with
      | head => exact hne (Nat.beq_refl _)
      | tail _ hm => exact memB_eq h hm
theorem nodupB_eq : ∀ {l : List Nat}, nodupB l = true → l.Nodup
  | [], _ => List.nodup_nil
  | i :: l, h => by
    replace h : iand (inot (memB i l)) (nodupB l) = true := h
    simp only [iand_eq, Bool.and_eq_true, inot_eq, Bool.not_eq_true'] at h
    exact List.nodup_cons.2 ⟨memB_eq h.1, nodupB_eq h.2⟩
theorem dsts_nd : ∀ {l : List Oper}, (dsts l).Nodup → ∀ (i j : Nat) (o p : Oper) (d : Nat), l[i]? = some o → l[j]? = some p → o.dst = some d → p.dst = some d → i = j
  | [], _, i, j, o, p, d, h, _, _, _ => by simp at h
  | x :: l, h, i, j, o, p, d, hi, hj, ho, hp => by
    have tail : (dsts l).Nodup := by
      unfold dsts at h ⊢
      cases hx : x.dst with
      | none => simpa [List.filterMap_cons, hx] using h
      | some e => rw [List.filterMap_cons, hx] at h; exact (List.nodup_cons.1 h).2
    have noHead : ∀ (k : Nat) (q : Oper), l[k]? = some q → q.dst = some d → x.dst = some d → False := by
      intro k q hk hq hx
      unfold dsts at h
      rw [List.filterMap_cons, hx] at h
      exact (List.nodup_cons.1 h).1 (List.mem_filterMap.2 ⟨q, List.mem_of_getElem? hk, hq⟩)
    cases i with
    | zero =>
      have : x = o := by simpa using hi
      subst this
      cases j with
      | zero => rfl
      | succ j => exact (noHead j p (by simpa using hj) hp ho).elim
    | succ i =>
      cases j with
      | zero =>
        have : x = p := by simpa using hj
        subst this
        exact (noHead i o (by simpa using hi) ho hp).elim
      | succ j => rw [dsts_nd tail i j o p d (by simpa using hi) (by simpa using hj) ho hp]

theorem opsB_ok {nt : Nat} {ops : Array Oper} (h : opsB nt ops.toList = true) : OpsOk nt ops := by
  unfold opsB at h
  rw [iand_eq, Bool.and_eq_true] at h
  have hall : ∀ (i : Nat) (o : Oper), ops[i]? = some o → (opt o.dst true fun d => ltB d nt) = true ∧ (opt o.guard true fun g => hasDst ops.toList g.1) = true := by
    intro i o ho
    have := allB_eq h.2 o (List.mem_of_getElem? (i := i) (by rw [Array.getElem?_toList]; exact ho))
    rw [iand_eq, Bool.and_eq_true] at this
    exact this
  refine ⟨fun i o d ho hd => ?_, fun i j o p d hi hj ho hp => ?_, fun i o j b ho hg => ?_⟩
  · have := (hall i o ho).1
    rw [hd] at this
    exact Nat.le_of_ble_eq_true (show Nat.ble (Nat.succ d) nt = true from this)
  · exact dsts_nd (nodupB_eq h.1) i j o p d (by rw [Array.getElem?_toList]; exact hi) (by rw [Array.getElem?_toList]; exact hj) ho hp
  · have := (hall i o ho).2
    rw [hg] at this
    replace this : hasDst ops.toList j = true := this
    unfold hasDst at this
    rw [nth_eq, Array.getElem?_toList] at this
    cases hp : ops[j]? with
    | none => rw [hp] at this; cases this
    | some p =>
      rw [hp] at this
      replace this : (opt p.dst false fun _ => true) = true := this
      cases hd : p.dst with
      | none => rw [hd] at this; cases this
      | some d => exact ⟨p, d, rfl, hd⟩

theorem bitB_eq {ms : List Nat} {i j m : Nat} (h : bitB ms i j = true) (hm : ms[i]? = some m) : m.testBit j = true := by
  unfold bitB at h
  rw [nth_eq, hm] at h
  rw [← tb_eq]; exact h
theorem drawB_ok {nt : Nat} {ops : Array Oper} (hO : OpsOk nt ops) (h : drawB ops.toList = true) : DrawOk ops := by
  unfold drawB at h
  rw [rngF_eq, len_eq] at h
  have one : ∀ (i : Nat) (o : Oper), ops[i]? = some o → drawB1 ops.toList (masks ops.toList) (List.range ops.toList.length) i o = true := by
    intro i o ho
    have hlt : i < ops.toList.length := by
      have := (Array.getElem?_eq_some_iff.1 ho).1
      simpa using this
    have := allN_eq h i hlt
    rw [nth_eq, Array.getElem?_toList, ho] at this
    exact this
  refine ⟨fun i j o p t mi mj ho hp hne ht hd hmi hmj => ?_, fun i j o b mi ho hg hmi => ?_⟩
  · have h1 := one i o ho
    unfold drawB1 at h1
    rw [iand_eq, Bool.and_eq_true] at h1
    have h2 := allB_eq h1.2 t ht
    cases hl : locOf ops.toList (List.range ops.toList.length) t with
    | none =>
      have hj : j < ops.toList.length := by
        have := (Array.getElem?_eq_some_iff.1 hp).1
        simpa using this
      exact absurd hd (locOf_none hl j (List.mem_range.2 hj) p (by rw [Array.getElem?_toList]; exact hp))
    | some k =>
      rw [hl] at h2
      replace h2 : cnd (Nat.beq i k) true (cnd (bitB (masks ops.toList) i k) true (bitB (masks ops.toList) k i)) = true := h2
      obtain ⟨k', q, e1, e2, e3⟩ := locOf_some hl
      have hkk : k = k' := by
        obtain ⟨hk, e⟩ := List.getElem?_eq_some_iff.1 e1
        simpa using e
      subst hkk
      rw [Array.getElem?_toList] at e2
      have hkj : k = j := hO.nd k j q p t e2 hp e3 hd
      subst hkj
      rw [cnd_eq] at h2
      split at h2
      · rename_i hb
        exact absurd (Nat.eq_of_beq_eq_true hb) hne
      · rw [cnd_eq] at h2
        split at h2
        · rename_i hb
          exact .inl (bitB_eq hb hmi)
        · exact .inr (bitB_eq h2 hmj)
  · have h1 := one i o ho
    unfold drawB1 at h1
    rw [iand_eq, Bool.and_eq_true] at h1
    have h2 := h1.1
    rw [hg] at h2
    exact bitB_eq h2 hmi

theorem codeB_ok {nt : Nat} : ∀ (c : Code), codeB nt c = true → CodeOk nt c := by
  intro c
  induction c with
  | region id ops draw =>
    intro h
    replace h : iand (opsB nt ops.toList) (cnd draw (drawB ops.toList) true) = true := h
    rw [iand_eq, Bool.and_eq_true] at h
    refine ⟨opsB_ok h.1, fun hd => ?_⟩
    subst hd
    exact drawB_ok (opsB_ok h.1) h.2
  | seq x y ihx ihy =>
    intro h
    replace h : iand (codeB nt x) (codeB nt y) = true := h
    rw [iand_eq, Bool.and_eq_true] at h
    exact ⟨ihx h.1, ihy h.2⟩
  | cond o x y ihx ihy =>
    intro h
    replace h : iand (codeB nt x) (codeB nt y) = true := h
    rw [iand_eq, Bool.and_eq_true] at h
    exact ⟨ihx h.1, ihy h.2⟩
  | rangeFunc f ps x y ihx ihy =>
    intro h
    replace h : iand (codeB nt x) (codeB nt y) = true := h
    rw [iand_eq, Bool.and_eq_true] at h
    exact ⟨ihx h.1, ihy h.2⟩
  | block id x ih => exact ih
  | loop x ih => exact ih
  | scope x ih => exact ih
  | _ => intro _; trivial
theorem fnB_ok {fn : Func} (h : fnB fn = true) {c : Code} (hb : fn.body = some c) : CodeOk fn.ntmps c := by
  unfold fnB at h
  rw [hb] at h
  exact codeB_ok c h

/-! ### tables -/
theorem mkPT_get {α : Type} : ∀ (l : List α) (n : Nat) (T : PT α) (t : Nat) (v : α), (List.rec (motive := fun _ => Pos → PT α → PT α) (fun _ T => T) (fun x _ ih p T => (T.set p x).frc fun T' => ih p.succ T') l (Pos.of n) T : PT α).get (Pos.of t) = some v →
    (∃ k, t = n + k ∧ l[k]? = some v) ∨ T.get (Pos.of t) = some v
  | [], n, T, t, v, h => .inr h
  | x :: l, n, T, t, v, h => by
    replace h : ((T.set (Pos.of n) x).frc fun T' => (List.rec (motive := fun _ => Pos → PT α → PT α) (fun _ T => T) (fun x _ ih p T => (T.set p x).frc fun T' => ih p.succ T') l (Pos.of n).succ T' : PT α)).get (Pos.of t) = some v := h
    rw [frc_eq, ← Pos.of_succ] at h
    rcases mkPT_get l (n + 1) _ t v h with ⟨k, e1, e2⟩ | h
    · exact .inl ⟨k + 1, by omega, by simpa using e2⟩
    · by_cases ht : t = n
      · subst ht
        rw [get_set_same] at h; cases h
        exact .inl ⟨0, rfl, rfl⟩
      · rw [get_set_ne _ _ _ _ fun e => ht (Pos.of_inj e)] at h
        exact .inr h
theorem mkPT_some {α : Type} {l : List α} {t : Nat} {v : α} (h : (mkPT l).get (Pos.of t) = some v) : l[t]? = some v := by
  rcases mkPT_get l 0 .l t v h with ⟨k, e1, e2⟩ | h
  · have : t = k := by omega
    subst this; exact e2
  · simp at h
end Go.Ev
