/- Told texts over values and heaps that are not known: rules for rewriting. -/
import Derived.Test.YtmjccopjophgjaaGreatDoorEvWd
namespace Go.Ev
theorem cnd_tt {β : Type} (t e : β) : cnd true t e = t := rfl
theorem cnd_ff {β : Type} (t e : β) : cnd false t e = e := rfl
theorem rg_nrm (T : PT AV) (sv : List (Nat × Pos)) (L : List AV) (D : List DF) (H : Hp) : rg T sv (.nrm L D H) = .nrm (save T L sv) D H := rfl
theorem ov_val (v : AV) (H : Hp) (k : AV → Hp → RO) : ov (.val v H) k = k v H := rfl
theorem cv_ret (v : AV) (H : Hp) (D : List DF) (k : AV → Hp → RO) : cv (.ret v H) D k = k v H := rfl
theorem thn_ext (i : Nat) (T : PT AV) (D : List DF) (H : Hp) (k : PT AV → List DF → Hp → Out) : thn (.ext i T D H) k = .ext i T D H := rfl
theorem thn_ret (T : PT AV) (D : List DF) (H : Hp) (k : PT AV → List DF → Hp → Out) : thn (.ret T D H) k = .ret T D H := rfl
theorem sSeq_eq (a b : StT) (T : PT AV) (D : List DF) (H : Hp) : sSeq a b T D H = thn (a T D H) b := rfl
theorem sCd_eq (f : PT AV → Option Bool) (a b : StT) (T : PT AV) (D : List DF) (H : Hp) : sCd f a b T D H = opt (f T) .no fun t => cnd t (a T D H) (b T D H) := rfl
theorem sSkip_eq (T : PT AV) (D : List DF) (H : Hp) : sSkip T D H = .nrm T D H := rfl
/-- what a block makes of what its code comes to -/
noncomputable def blkO (id : Nat) (r : Out) : Out := Out.rec (motive := fun _ => Out) (fun T D H => .nrm T D H) (fun i T D H => cnd (Nat.beq i id) (.nrm T D H) (.ext i T D H)) (fun T D H => .ret T D H) (fun v T D H => .pan v T D H) .no r
theorem sBlock_eq (id : Nat) (c : StT) (T : PT AV) (D : List DF) (H : Hp) : sBlock id c T D H = blkO id (c T D H) := rfl
theorem blkO_nrm (id : Nat) (T : PT AV) (D : List DF) (H : Hp) : blkO id (.nrm T D H) = .nrm T D H := rfl
theorem blkO_ret (id : Nat) (T : PT AV) (D : List DF) (H : Hp) : blkO id (.ret T D H) = .ret T D H := rfl
theorem blkO_ext (id : Nat) (T : PT AV) (D : List DF) (H : Hp) : blkO id (.ext id T D H) = .nrm T D H := by
  show cnd (Nat.beq id id) (Out.nrm T D H) (.ext id T D H) = _
  rw [Nat.beq_refl]; rfl
theorem save_nil (T : PT AV) (L : List AV) : save T L [] = T := rfl
theorem save_cons (T : PT AV) (L : List AV) (n : Nat) (p : Pos) (sv : List (Nat × Pos)) : save T L ((n, p) :: sv) = save (opt (nth n L) (T.set p .any) fun v => T.set p v) L sv := by
  show PT.frc (opt (nth n L) (T.set p .any) fun v => T.set p v) _ = _
  rw [frc_eq]; rfl
theorem nth_z {α : Type} (x : α) (l : List α) : nth 0 (x :: l) = some x := rfl
theorem nth_s {α : Type} (n : Nat) (x : α) (l : List α) : nth (n + 1) (x :: l) = nth n l := rfl
/-! slots of a tree that is written out -/
theorem gh_n {α : Type} (a : PT α) (v : Option α) (b : PT α) : PT.get .h (.n a v b) = v := rfl
theorem go_n {α : Type} (p : Pos) (a : PT α) (v : Option α) (b : PT α) : PT.get (.o p) (.n a v b) = PT.get p a := rfl
theorem gi_n {α : Type} (p : Pos) (a : PT α) (v : Option α) (b : PT α) : PT.get (.i p) (.n a v b) = PT.get p b := rfl
theorem sh_n {α : Type} (x : α) (a : PT α) (v : Option α) (b : PT α) : PT.set .h x (.n a v b) = .n a (some x) b := rfl
theorem so_n {α : Type} (x : α) (p : Pos) (a : PT α) (v : Option α) (b : PT α) : PT.set (.o p) x (.n a v b) = .n (PT.set p x a) v b := by
  show PT.frc (PT.set p x a) (fun a' => PT.n a' v b) = _
  rw [frc_eq]
theorem si_n {α : Type} (x : α) (p : Pos) (a : PT α) (v : Option α) (b : PT α) : PT.set (.i p) x (.n a v b) = .n a v (PT.set p x b) := by
  show PT.frc (PT.set p x b) (fun b' => PT.n a v b') = _
  rw [frc_eq]
theorem sh_l {α : Type} (x : α) : PT.set .h x (.l : PT α) = .n .l (some x) .l := rfl
theorem so_l {α : Type} (x : α) (p : Pos) : PT.set (.o p) x (.l : PT α) = .n (PT.set p x .l) none .l := by
  show PT.frc (PT.set p x .l) (fun a' => PT.n a' none .l) = _
  rw [frc_eq]
theorem si_l {α : Type} (x : α) (p : Pos) : PT.set (.i p) x (.l : PT α) = .n .l none (PT.set p x .l) := by
  show PT.frc (PT.set p x .l) (fun b' => PT.n .l none b') = _
  rw [frc_eq]
/-! operations -/
theorem avNC_ptr (b : Pos) (o : Nat) : avNC (.ptr b o) = some (.ptr b o) := rfl
theorem fNat_eq' {β : Type} (n : Nat) (k : Nat → β) : fNat n k = k n := by cases n <;> rfl
theorem avFA_ptr (k : Nat) (b : Pos) (o : Nat) : avFA k (.ptr b o) = some (.ptr b (o + k)) := by
  show fNat (Nat.add o k) (fun n => some (AV.ptr b n)) = _
  rw [fNat_eq']; rfl
theorem eqP_ptr (b : Pos) (o : Nat) : avEqP (.ptr b o) .pnil = some false := rfl
theorem bI_t : bI true = some (.bool true) := rfl
theorem bI_f : bI false = some (.bool false) := rfl
theorem bN_t : bN true = some (.bool false) := rfl
theorem bN_f : bN false = some (.bool true) := rfl
theorem bq_b (b : Bool) : bq (.bool b) = some b := rfl
theorem avNot_b (b : Bool) : avNot (.bool b) = some (.bool (inot b)) := by cases b <;> rfl
theorem inot_t : inot true = false := rfl
theorem inot_f : inot false = true := rfl
theorem avExt_0 (x : AV) (l : List AV) : avExt 0 (.tup (x :: l)) = some x := rfl
theorem avExt_1 (x y : AV) (l : List AV) : avExt 1 (.tup (x :: y :: l)) = some y := rfl
theorem avLenL_sl (b : Pos) (o n : Nat) (c : Cap) : avLenL (.sl b o n c) = some (.int .i64 (.ofNat n)) := rfl
theorem eqN_int (k : IntKind) (a b : Int) : avEqN (.int k a) (.int k b) = some (ieq a b) := by
  show cnd (kbeq k k) (some (ieq a b)) none = _
  cases k <;> rfl
theorem gB_ft : gB false (.bool true) = some false := rfl
theorem gB_ff : gB false (.bool false) = some true := rfl
theorem gB_tt : gB true (.bool true) = some true := rfl
theorem gB_tf : gB true (.bool false) = some false := rfl
theorem gB_tup (w : Bool) (l : List AV) : gB w (.tup l) = some false := rfl
theorem pick_t (x y : AV) : avPick (.bool true) x y = some x := by show avId x = _; rw [avId_eq]
theorem pick_f (x y : AV) : avPick (.bool false) x y = some y := by show avId y = _; rw [avId_eq]
theorem jn_eq {α β : Type} (x : α) (f : α → β) : jn x f = f x := rfl
theorem ld1_of {H : Hp} {b : Pos} {ro : Bool} {l : List AV} (h : H.m.get b = some (.cells ro l)) (o : Nat) : ld1 (.ptr b o) H = nth o l := by
  show H.cells b _ _ = _
  unfold Hp.cells
  rw [h]; rfl
theorem ld1_arr {H : Hp} {b : Pos} {z : AV} {t : PT AV} {n : Nat} (h : H.m.get b = some (.arr z t n)) (o : Nat) (ho : o < n) : ld1 (.ptr b o) H = some (arrG z t o) := by
  show H.cells b _ _ = _
  unfold Hp.cells
  rw [h]
  show H.ar b none _ = _
  unfold Hp.ar
  rw [h]
  show cnd (Nat.ble (Nat.succ o) n) (some (arrG z t o)) none = _
  rw [Nat.ble_eq_true_of_le ho]; rfl
theorem avIA_1 {b : Pos} {o n m : Nat} {c : Cap} {k : IntKind} (h : m < n) : avIA 1 (.sl b o n c) (.int k (.ofNat m)) = some (.ptr b (o + m)) := by
  show cnd (Nat.ble (Nat.succ m) n) (fNat (Nat.add o (Nat.mul m 1)) fun q => some (AV.ptr b q)) none = _
  rw [Nat.ble_eq_true_of_le h, fNat_eq', cnd_tt]
  show some (AV.ptr b (o + m * 1)) = _
  rw [Nat.mul_one]
theorem puts_one (x : AV) : ∀ (o : Nat) (l : List AV), o < l.length → puts o [x] l = some (l.set o x)
  | _, [], h => by simp at h
  | 0, y :: l, _ => by cases l <;> rfl
  | o + 1, y :: l, h => by
    show opt (puts o [x] l) none (fun r' => some (fcons y r')) = _
    rw [puts_one x o l (by simpa using h)]
    show some (fcons y (l.set o x)) = some (y :: l.set o x)
    cases l.set o x <;> rfl
theorem cells_one {x : AV} (h : x.one = true) : x.cells = some [x] := by
  cases x <;> first | rfl | cases h
theorem st1_of {H : Hp} {b : Pos} {l : List AV} (h : H.m.get b = some (.cells false l)) {o : Nat} (ho : o < l.length) {x : AV} (hx : x.one = true) : st 1 (.ptr b o) x H = .val (.tup []) ⟨H.m.set b (.cells false (l.set o x)), H.nx⟩ := by
  show opt x.cells OR.no (fun xs => H.cells b (stA 1 b o xs H) fun ro l => cnd (iand (inot ro) (iand (Nat.beq (len xs) 1) (allB AV.one xs))) (opt (puts o xs l) .no fun l' => .val (.tup []) (H.put b (.cells false l'))) .no) = _
  rw [cells_one hx, opt_some]
  unfold Hp.cells
  rw [h]
  show cnd (iand (inot false) (iand (Nat.beq (len [x]) 1) (allB AV.one [x]))) (opt (puts o [x] l) OR.no fun l' => .val (.tup []) (H.put b (.cells false l'))) .no = _
  have : (iand (inot false) (iand (Nat.beq (len [x]) 1) (allB AV.one [x]))) = true := by
    show iand true (iand true (iand x.one true)) = true
    rw [hx]; rfl
  rw [this, cnd_tt, puts_one x o l ho, opt_some, put_eq]
theorem stA_of {H : Hp} {b : Pos} {z : AV} {t : PT AV} {n : Nat} (h : H.m.get b = some (.arr z t n)) {o : Nat} (ho : o < n) (hn : n ≤ 1000000) {x : AV} (hx : x.one = true) : st 1 (.ptr b o) x H = .val (.tup []) ⟨H.m.set b (.arr z (t.set (toP o) x) n), H.nx⟩ := by
  show opt x.cells OR.no (fun xs => H.cells b (stA 1 b o xs H) fun ro l => cnd (iand (inot ro) (iand (Nat.beq (len xs) 1) (allB AV.one xs))) (opt (puts o xs l) .no fun l' => .val (.tup []) (H.put b (.cells false l'))) .no) = _
  rw [cells_one hx, opt_some]
  unfold Hp.cells
  rw [h]
  show H.ar b OR.no _ = _
  unfold Hp.ar
  rw [h]
  show cnd (iand (Nat.beq 1 1) (iand (x.one) (iand (Nat.ble (Nat.succ o) n) (Nat.ble n 1000000)))) ((t.set (toP o) x).frc fun t' => OR.val (.tup []) (H.put b (.arr z t' n))) .no = _
  rw [hx, Nat.ble_eq_true_of_le ho, Nat.ble_eq_true_of_le hn, frc_eq, put_eq]; rfl
theorem add_int (k : IntKind) (a b : Int) : syBin .add strApp (.int k a) (.int k b) = some (.int k (wr k (iadd a b))) := by
  show opt (cnd (kbeq k k) (vI k (wr k (iadd a b))) none) _ _ = _
  rw [vI_eq]
  cases k <;> rfl
theorem int2_eq (op : BinOp) (f : IntKind → Int → Int → Option AV) (k : IntKind) (a b : Int) {v : AV} (h : f k a b = some v) : syBin op (int2 f) (.int k a) (.int k b) = some v := by
  show opt (cnd (kbeq k k) (f k a b) none) _ _ = _
  rw [h]
  cases k <;> rfl
theorem lss_int (k : IntKind) (a b : Int) : syBin .lss fLss (.int k a) (.int k b) = some (.bool (inot (ile b a))) := int2_eq _ _ k a b (by cases ile b a <;> rfl)
theorem rem_int {a b : Nat} (h : a < b) : syBin .rem fRem (.int .i64 (.ofNat a)) (.int .i64 (.ofNat b)) = some (.int .i64 (.ofNat a)) := by
  refine int2_eq _ _ .i64 _ _ ?_
  show cnd (ieq (.ofNat b) (.ofNat 0)) none (vI .i64 (Int.tmod (.ofNat a) (.ofNat b))) = _
  have h0 : ieq (.ofNat b) (.ofNat 0) = false := by
    show Nat.beq b 0 = false
    cases b with
    | zero => omega
    | succ b => rfl
  rw [h0, cnd_ff, vI_eq]
  show some (AV.int .i64 (.ofNat (a % b))) = _
  rw [Nat.mod_eq_of_lt h]
theorem remN_int {a b : Nat} (h : 0 < b) : syBin .rem fRem (.int .i64 (.ofNat a)) (.int .i64 (.ofNat b)) = some (.int .i64 (.ofNat (a % b))) := by
  refine int2_eq _ _ .i64 _ _ ?_
  show cnd (ieq (.ofNat b) (.ofNat 0)) none (vI .i64 (Int.tmod (.ofNat a) (.ofNat b))) = _
  have h0 : ieq (.ofNat b) (.ofNat 0) = false := by
    show Nat.beq b 0 = false
    cases b with
    | zero => omega
    | succ b => rfl
  rw [h0, cnd_ff, vI_eq]; rfl
theorem addN_int {a b : Nat} (h : a + b ≤ 9223372036854775807) : syBin .add strApp (.int .i64 (.ofNat a)) (.int .i64 (.ofNat b)) = some (.int .i64 (.ofNat (a + b))) := by
  rw [add_int]
  have : wr .i64 (iadd (.ofNat a) (.ofNat b)) = Int.ofNat (a + b) := by
    show cnd (Nat.ble (a + b) 9223372036854775807) (Int.ofNat (a + b)) (IntKind.i64.wrap (Int.ofNat (a + b))) = _
    rw [Nat.ble_eq_true_of_le h]; rfl
  rw [this]
theorem avSl_1 {b : Pos} {o m : Nat} (x y : AV) : avSl 1 true false false [.sl b o (m + 1) (.op 1), .int .i64 (.ofNat 1), x, y] = some (.sl b (o + 1) m (.op 1)) := by
  have : bnd (m + 1) (.int .i64 (.ofNat 1)) = some 1 := by
    show cnd (Nat.ble 1 (m + 1)) (some 1) none = _
    rw [Nat.ble_eq_true_of_le (by omega)]; rfl
  show cnd (Nat.ble (m + 1) (m + 1)) (opt (bnd (m + 1) (.int .i64 (.ofNat 1))) none fun lv => fNat (Nat.sub (m + 1) lv) fun q => avSlC 1 b o lv q (.op 1)) none = _
  rw [Nat.ble_eq_true_of_le (Nat.le_refl _), cnd_tt, this, opt_some, fNat_eq']
  show cnd (Nat.beq 1 1) (fNat (Nat.add o (Nat.mul 1 1)) fun o' => some (AV.sl b o' (Nat.sub (m + 1) 1) (.op 1))) none = _
  rw [fNat_eq']; rfl
theorem selF_f (z : AV) {H : Hp} {b : Pos} (h : H.m.get b = some (.chan false)) : selF z (.chn b) H = some (.tup [.int .i64 (.negSucc 0), .bool false, z]) := by
  show H.ch b none _ = _
  unfold Hp.ch
  rw [h]; rfl
theorem selF_t (z : AV) {H : Hp} {b : Pos} (h : H.m.get b = some (.chan true)) : selF z (.chn b) H = some (.tup [.int .i64 (.ofNat 0), .bool false, z]) := by
  show H.ch b none _ = _
  unfold Hp.ch
  rw [h]; rfl
theorem clF_f (y : AV) {H : Hp} {b : Pos} (h : H.m.get b = some (.chan false)) : clF (.chn b) y H = .val (.tup []) ⟨H.m.set b (.chan true), H.nx⟩ := by
  show H.ch b OR.no _ = _
  unfold Hp.ch
  rw [h]
  show OR.val (.tup []) (H.put b (.chan true)) = _
  rw [put_eq]
/-- a call of a function whose text is told -/
theorem evC_cc {E : Env} {f : Nat} {fn : Func} {X : PT Unit} {g : CallT → Nat → StT} {rs : PT AV → Hp → Option AV} (h : E.fn.get (Pos.of f) = some (.cc fn X g rs)) (nl n : Nat) (args : List AV) (H : Hp) :
    evC E nl (n + 1) f args H = evCc E (evC E nl n) nl args H fn X g rs := by
  show opt (E.fn.get (Pos.of f)) CR.no _ = _
  rw [h]; rfl
/-- what a function's text comes to, as a call -/
noncomputable def ccO (E : Env) (call : CallT) (fn : Func) (rs : PT AV → Hp → Option AV) (r : Out) : CR :=
  Out.rec (motive := fun _ => CR) (fun T D H => fin E call fn rs T D H) (fun _ _ _ _ => .no) (fun T D H => fin E call fn rs T D H) (fun v T D H => leaves E call fn T D (.pan v false) H) .no r
theorem evCc_ccO (E : Env) (call : CallT) (nl : Nat) (args : List AV) (H : Hp) (fn : Func) (X : PT Unit) (g : CallT → Nat → StT) (rs : PT AV → Hp → Option AV) : evCc E call nl args H fn X g rs = ccO E call fn rs (g call nl (initT X args) [] H) := rfl
theorem ccO_ret (E : Env) (call : CallT) (fn : Func) (rs : PT AV → Hp → Option AV) (T : PT AV) (H : Hp) : ccO E call fn rs (.ret T [] H) = opt (rs T H) .no fun v => .ret v H := rfl
theorem rsV_eq (l : List RV) (T : PT AV) (H : Hp) : rsV l T H = opt (mapO (rvOf T H) l) none rsM := rfl
theorem rvOf_t (T : PT AV) (H : Hp) (p : Pos) : rvOf T H (.t p) = opt (T.get p) none avId := rfl
theorem mapO_n0 {α β : Type} (f : α → Option β) : mapO f [] = some [] := rfl
theorem mapO_n1 {α β : Type} (f : α → Option β) (x : α) (l : List α) : mapO f (x :: l) = opt (f x) none fun y => opt (mapO f l) none fun ys => some (y :: ys) := by
  show opt (f x) none (fun y => opt (mapO f l) none fun ys => some (fcons y ys)) = _
  cases f x with
  | none => rfl
  | some y =>
    show opt (mapO f l) none (fun ys => some (fcons y ys)) = opt (mapO f l) none fun ys => some (y :: ys)
    cases mapO f l with
    | none => rfl
    | some ys => cases ys <;> rfl
theorem rsM_1 (v : AV) : rsM [v] = some v := rfl
theorem rsM_2 (v w : AV) : rsM [v, w] = some (.tup [v, w]) := rfl
end Go.Ev
