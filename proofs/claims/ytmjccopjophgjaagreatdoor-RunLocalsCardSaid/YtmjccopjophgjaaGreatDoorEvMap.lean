/- The evaluator's operations on maps, copies, texts of bytes. -/
import Derived.Test.YtmjccopjophgjaaGreatDoorEvW4
import Derived.Conc.EventLaws
namespace Go.Ev
open Go.RowKit (Below)
open Go.MapKept (IsKey bytes_beq run_keyThatStays)
variable {P : Program} {E : Env} {base : Nat} {w0 : World} {ι : Inj} {H : Hp} {w : World} {T : PT AV} {L : List AV} {lk : Look} {a : Act}

/-! ### keys -/
/-- a key in the model: of a plain type, or a row of two numbers -/
def isArr (d : TypeDesc) : Bool :=
  match d with
  | .array _ _ => true
  | _ => false
def Key (d : TypeDesc) (k : Value) : Prop := (isArr d = false ∧ IsKey d k) ∨ isArr d = true ∧ ∃ ka a kb b, k = .agg #[.int ka a, .int kb b]
theorem keyOk_is {d : TypeDesc} {k : AV} {ck : Value} (h : keyOk d k = true) (hk : VRel ι k ck) : Key d ck := by
  unfold keyOk at h
  split at h
  · rw [int_rel hk]; exact .inl ⟨rfl, (kbeq_eq h).symm⟩
  · obtain ⟨s, rfl, _⟩ := str_rel hk; exact .inl ⟨rfl, trivial⟩
  · rw [bool_rel hk]; exact .inl ⟨rfl, trivial⟩
  · cases hk with
    | agg l L hl =>
      cases hl with
      | cons _ v _ L h1 hl =>
        cases hl with
        | cons _ u _ L h2 hl =>
          cases hl
          rw [int_rel h1, int_rel h2]
          exact .inr ⟨rfl, _, _, _, _, rfl⟩
  · cases h
theorem keyQ_is {d : TypeDesc} (ha : isArr d = false) {x y : AV} {cx cy : Value} {b : Bool} (h : keyQ d x y = some b) (hx : VRel ι x cx) (hy : VRel ι y cy) : Instr.sameNow d cx cy = some b ∧ (b = true → cy = cx) := by
  unfold keyQ at h
  split at h
  · obtain ⟨hk, h'⟩ := cnd_some h
    cases h'
    have := kbeq_eq hk; subst this
    rw [int_rel hx, int_rel hy, ieq_eq]
    refine ⟨by simp [Instr.sameNow], fun hb => ?_⟩
    rw [eq_of_beq hb]
  · cases h
    obtain ⟨s, rfl, hs⟩ := str_rel hx
    obtain ⟨u, rfl, hu⟩ := str_rel hy
    subst hs; subst hu
    rw [strEq_eq]
    have key : (s == u) = (s.data.toList.map (·.toNat) == u.data.toList.map (·.toNat)) := by
      cases hb : (s.data.toList.map (·.toNat) == u.data.toList.map (·.toNat)) with
      | true =>
        have h2 := toNat_inj (eq_of_beq hb)
        have h3 : s = u := by cases s; cases u; simp at h2; rw [h2]
        exact (bytes_beq s u).2 h3
      | false =>
        cases hb2 : (s == u) with
        | false => rfl
        | true =>
          have := (bytes_beq s u).1 hb2
          subst this
          simp at hb
    refine ⟨by simp only [Instr.sameNow, key], fun hb => ?_⟩
    rw [(bytes_beq s u).1 (key.trans hb)]
  · cases h
    rw [bool_rel hx, bool_rel hy]
    rename_i a b
    cases a <;> cases b <;> simp [Instr.sameNow]
  · cases ha
  · cases h
theorem undK_und {E : Env} {kt : Nat} {d : TypeDesc} (h : undK E kt = some d) : E.und kt = some d ∧ keyTy E d = true := by
  obtain ⟨q, h1, h2⟩ := opt_eq_some h
  obtain ⟨h3, h4⟩ := cnd_some h2
  cases h4
  exact ⟨h1, h3⟩
/-- what is known of an array's type -/
theorem keyTy_arr (hE : EnvOk P E) {n e : Nat} (h : keyTy E (.array n e) = true) : n = 2 ∧ (∃ k, P.underlying e = some (.int k)) ∧ ∀ w : World, (sizeOf e).run P w = .ok 1 w := by
  replace h : iand (Nat.beq n 2) (opt (E.und e) false (int1D (E.size e))) = true := h
  rw [iand_eq, Bool.and_eq_true] at h
  refine ⟨Nat.eq_of_beq_eq_true h.1, ?_⟩
  have h2 := h.2
  cases hu : E.und e with
  | none => rw [hu] at h2; cases h2
  | some d =>
    rw [hu] at h2
    replace h2 : int1D (E.size e) d = true := h2
    cases d with
    | int k =>
      cases hs : E.size e with
      | none => rw [hs] at h2; cases h2
      | some s =>
        rw [hs] at h2
        obtain rfl : s = 1 := Nat.eq_of_beq_eq_true h2
        exact ⟨⟨k, und_eq hE hu⟩, fun w => size_run hE hs⟩
    | _ => cases h2
theorem part_int {e : Nat} {k : IntKind} (he : P.underlying e = some (.int k)) {cs : Array Value} {i : Nat} {v : Value} (hv : cs[i]? = some v) : (part e cs i).run P w = .ok v w := by
  have h1 := und_run' (P := P) (w := w) he
  simp [part, isAgg, h1, hv]
/-- two rows of two numbers -/
theorem equal_arr (hE : EnvOk P E) {kt : Nat} {n e : Nat} (hd : P.underlying kt = some (.array n e)) (hK : keyTy E (.array n e) = true) {ka kb : IntKind} {a b a' b' : Int} {t : Bool} {kb' : IntKind}
    (ht : (cnd (ieq a a') (cnd (kbeq kb kb') (some (ieq b b')) none) (some false)) = some t) :
    (Op.equal kt (.agg #[.int ka a, .int kb b]) (.agg #[.int ka a', .int kb' b'])).run P w = .ok t w ∧ (t = true → (Value.agg #[.int ka a', .int kb' b'] : Value) = .agg #[.int ka a, .int kb b]) := by
  obtain ⟨rfl, ⟨k, he⟩, hs⟩ := keyTy_arr hE hK
  have h1 := und_run' (P := P) (w := w) hd
  have h2 := und_run' (P := P) (w := w) he
  have eqI : ∀ (m : Nat) (k1 : IntKind) (x y : Int), (Op.equalIn (m + 1) e (.int k1 x) (.int k1 y)).run P w = .ok (x == y) w := by
    intro m k1 x y
    rw [Op.equalIn, Sem.run_bind, h2]
    simp
  have p0 : ∀ (v u : Value), (part e #[v, u] 0).run P w = .ok v w := fun v u => part_int he rfl
  have p1 : ∀ (v u : Value), (part e #[v, u] 1).run P w = .ok u w := fun v u => part_int he rfl
  rw [ieq_eq, ieq_eq, cnd_eq, cnd_eq] at ht
  show (Op.equalIn (9999 + 1) kt _ _).run P w = _ ∧ _
  rw [Op.equalIn, Sem.run_bind, h1]
  by_cases ha : (a == a') = true
  · rw [if_pos ha] at ht
    split at ht
    · rename_i hb
      have := kbeq_eq hb
      subst this
      cases ht
      refine ⟨?_, fun h => by rw [eq_of_beq ha, eq_of_beq h]⟩
      simp [Std.Legacy.Range.forIn_eq_forIn_range', List.range', hs, p0, p1, eqI, ha]
      by_cases e : b = b' <;> simp [e]
    · cases ht
  · rw [if_neg ha] at ht
    cases ht
    refine ⟨?_, fun h => by cases h⟩
    simp [Std.Legacy.Range.forIn_eq_forIn_range', List.range', hs, p0, eqI, ha]
/-- what '==' says of two keys -/
def KeyIs (P : Program) (w : World) (kt : TypeId) (d : TypeDesc) (x y : Value) (b : Bool) : Prop :=
  ((isArr d = false ∧ Instr.sameNow d x y = some b) ∨ isArr d = true ∧ (Op.equal kt x y).run P w = .ok b w) ∧ (b = true → y = x)
theorem key_is (hE : EnvOk P E) {kt : Nat} {d : TypeDesc} (hK : undK E kt = some d) {x y : AV} {cx cy : Value} {b : Bool} (h : keyQ d x y = some b) (hx : VRel ι x cx) (hy : VRel ι y cy) : KeyIs P w kt d cx cy b := by
  obtain ⟨h1, h2⟩ := undK_und hK
  cases ha : isArr d with
  | false =>
    obtain ⟨k1, k2⟩ := keyQ_is ha h hx hy
    exact ⟨.inl ⟨ha, k1⟩, k2⟩
  | true =>
    unfold keyQ at h
    split at h
    · cases ha
    · cases ha
    · cases ha
    · rename_i n e ka a kb b1 ka' a' kb' b2
      obtain ⟨hk, h3⟩ := cnd_some h
      have := kbeq_eq hk
      subst this
      cases hx with
      | agg l L hl =>
        cases hl with
        | cons _ v _ L g1 hl =>
          cases hl with
          | cons _ u _ L g2 hl =>
            cases hl
            cases hy with
            | agg l' L' hl' =>
              cases hl' with
              | cons _ v' _ L' g3 hl' =>
                cases hl' with
                | cons _ u' _ L' g4 hl' =>
                  cases hl'
                  rw [int_rel g1, int_rel g2, int_rel g3, int_rel g4]
                  obtain ⟨k1, k2⟩ := equal_arr (P := P) (w := w) hE (und_eq hE h1) h2 h3
                  exact ⟨.inr ⟨ha, k1⟩, k2⟩
    · cases h
/-- what the search for a key comes to -/
def Fnd (P : Program) (w : World) (kt : TypeId) (d : TypeDesc) (k : Value) (es : List MapEntry) (i : Nat) (a : Option (Nat × Value)) : Prop :=
  (isArr d = false ∧ Instr.findNow d k es i = some a) ∨ isArr d = true ∧ (Instr.findAsking kt k es i).run P w = .ok a w
theorem fnd_nil {kt : TypeId} {d : TypeDesc} {k : Value} {i : Nat} : Fnd P w kt d k [] i none := by
  cases h : isArr d with
  | false => exact .inl ⟨h, rfl⟩
  | true => exact .inr ⟨h, rfl⟩
theorem fnd_hit {kt : TypeId} {d : TypeDesc} {k : Value} {i : Nat} {e : MapEntry} {es : List MapEntry} (h : KeyIs P w kt d k e.key true) : Fnd P w kt d k (e :: es) i (some (i, e.val)) := by
  rcases h.1 with ⟨h1, h2⟩ | ⟨h1, h2⟩
  · exact .inl ⟨h1, by simp [Instr.findNow, h2]⟩
  · exact .inr ⟨h1, by simp [Instr.findAsking, h2]⟩
theorem fnd_miss {kt : TypeId} {d : TypeDesc} {k : Value} {i : Nat} {e : MapEntry} {es : List MapEntry} {a : Option (Nat × Value)} (h : KeyIs P w kt d k e.key false) (t : Fnd P w kt d k es (i + 1) a) : Fnd P w kt d k (e :: es) i a := by
  rcases h.1 with ⟨h1, h2⟩ | ⟨h1, h2⟩
  · rcases t with ⟨_, t⟩ | ⟨t1, _⟩
    · exact .inl ⟨h1, by simp [Instr.findNow, h2, t]⟩
    · rw [h1] at t1; cases t1
  · rcases t with ⟨t1, _⟩ | ⟨_, t⟩
    · rw [h1] at t1; cases t1
    · exact .inr ⟨h1, by simp [Instr.findAsking, h2, t]⟩

theorem mget_spec (hE : EnvOk P E) {kt : Nat} {d : TypeDesc} (hK : undK E kt = some d) {k : AV} {ck : Value} (hk : VRel ι k ck) : ∀ {es : List (AV × AV × Nat)} {ES : List MapEntry} (i : Nat) {r : Option AV}, ERel ι es ES → mget d k es = some r →
    (r = none ∧ Fnd P w kt d ck ES i none) ∨ ∃ v j e, r = some v ∧ Fnd P w kt d ck ES i (some (i + j, e.val)) ∧ ES[j]? = some e ∧ VRel ι v e.val
  | _, _, i, r, .nil, h => by cases h; exact .inl ⟨rfl, fnd_nil⟩
  | _, _, i, r, .cons x v n X V l L hx hv t, h => by
    replace h : (opt (keyQ d k x) none fun b => cnd b (some (some v)) (mget d k l)) = some r := h
    obtain ⟨b, h1, h2⟩ := opt_eq_some h
    have hs := key_is (P := P) (w := w) hE hK h1 hk hx
    cases b with
    | true =>
      cases h2
      exact .inr ⟨v, 0, ⟨X, V, n⟩, rfl, fnd_hit (e := ⟨X, V, n⟩) hs, rfl, hv⟩
    | false =>
      rcases mget_spec hE hK hk (i + 1) t h2 with ⟨e1, e2⟩ | ⟨v', j, e, e1, e2, e3, e4⟩
      · exact .inl ⟨e1, fnd_miss (e := ⟨X, V, n⟩) hs e2⟩
      · exact .inr ⟨v', j + 1, e, e1, by rw [show i + (j + 1) = i + 1 + j by omega]; exact fnd_miss (e := ⟨X, V, n⟩) hs e2, by simpa using e3, e4⟩
theorem mupd_spec (hE : EnvOk P E) {kt : Nat} {d : TypeDesc} (hK : undK E kt = some d) {k v : AV} {ck cv : Value} (hk : VRel ι k ck) (hv : VRel ι v cv) : ∀ {es : List (AV × AV × Nat)} {ES : List MapEntry} (i : Nat) {r : Option (List (AV × AV × Nat))}, ERel ι es ES → mupd d k v es = some r →
    (r = none ∧ Fnd P w kt d ck ES i none) ∨ ∃ l j e, r = some l ∧ Fnd P w kt d ck ES i (some (i + j, e.val)) ∧ ES[j]? = some e ∧ e.key = ck ∧ ERel ι l (ES.modify j fun e => { e with key := ck, val := cv })
  | _, _, i, r, .nil, h => by cases h; exact .inl ⟨rfl, fnd_nil⟩
  | _, _, i, r, .cons x y n X V l L hx hy t, h => by
    replace h : (opt (keyQ d k x) none fun b => cnd b (some (some ((x, v, n) :: l))) (opt (mupd d k v l) none fun r => opt r (some none) fun t => some (some ((x, y, n) :: t)))) = some r := h
    obtain ⟨b, h1, h2⟩ := opt_eq_some h
    have hs := key_is (P := P) (w := w) hE hK h1 hk hx
    cases b with
    | true =>
      cases h2
      have e := hs.2 rfl
      refine .inr ⟨_, 0, ⟨X, V, n⟩, rfl, fnd_hit (e := ⟨X, V, n⟩) hs, rfl, e, ?_⟩
      subst e
      exact .cons x v n X cv l L hx hv t
    | false =>
      obtain ⟨r', h3, h4⟩ := opt_eq_some h2
      rcases mupd_spec hE hK hk hv (i + 1) t h3 with ⟨e1, e2⟩ | ⟨l', j, e, e1, e2, e3, e4, e5⟩
      · subst e1; cases h4
        exact .inl ⟨rfl, fnd_miss (e := ⟨X, V, n⟩) hs e2⟩
      · subst e1; cases h4
        exact .inr ⟨_, j + 1, e, rfl, by rw [show i + (j + 1) = i + 1 + j by omega]; exact fnd_miss (e := ⟨X, V, n⟩) hs e2, by simpa using e3, e4, .cons x y n X V _ _ hx hy e5⟩
theorem mdel_spec (hE : EnvOk P E) {kt : Nat} {d : TypeDesc} (hK : undK E kt = some d) {k : AV} {ck : Value} (hk : VRel ι k ck) : ∀ {es : List (AV × AV × Nat)} {ES : List MapEntry} (i : Nat) {r : List (AV × AV × Nat)}, ERel ι es ES → mdel d k es = some r →
    (ERel ι r ES ∧ Fnd P w kt d ck ES i none) ∨ ∃ j e, Fnd P w kt d ck ES i (some (i + j, e.val)) ∧ ES[j]? = some e ∧ ERel ι r (ES.eraseIdx j)
  | _, _, i, r, .nil, h => by cases h; exact .inl ⟨.nil, fnd_nil⟩
  | _, _, i, r, .cons x y n X V l L hx hy t, h => by
    replace h : (opt (keyQ d k x) none fun b => cnd b (some l) (opt (mdel d k l) none fun t => some ((x, y, n) :: t))) = some r := h
    obtain ⟨b, h1, h2⟩ := opt_eq_some h
    have hs := key_is (P := P) (w := w) hE hK h1 hk hx
    cases b with
    | true =>
      cases h2
      exact .inr ⟨0, ⟨X, V, n⟩, fnd_hit (e := ⟨X, V, n⟩) hs, rfl, t⟩
    | false =>
      obtain ⟨r', h3, h4⟩ := opt_eq_some h2
      cases h4
      rcases mdel_spec hE hK hk (i + 1) t h3 with ⟨e1, e2⟩ | ⟨j, e, e1, e2, e3⟩
      · exact .inl ⟨.cons x y n X V _ _ hx hy e1, fnd_miss (e := ⟨X, V, n⟩) hs e2⟩
      · exact .inr ⟨j + 1, e, by rw [show i + (j + 1) = i + 1 + j by omega]; exact fnd_miss (e := ⟨X, V, n⟩) hs e1, by simpa using e2, .cons x y n X V _ _ hx hy e3⟩
theorem ERel.snoc {k v : AV} {n : Nat} {ck cv : Value} (hk : VRel ι k ck) (hv : VRel ι v cv) : ∀ {l : List (AV × AV × Nat)} {L : List MapEntry}, ERel ι l L → ERel ι (l ++ [(k, v, n)]) (L ++ [⟨ck, cv, n⟩])
  | _, _, .nil => .cons _ _ _ _ _ _ _ hk hv .nil
  | _, _, .cons x y n X V l L hx hy t => .cons x y n X V _ _ hx hy (t.snoc hk hv)

/-! ### look-ups -/
theorem lkR_none {z v : AV} {ok : Bool} {H' : Hp} (hv : lkR ok z none H = .val v H') {zc : Value} (hz : VRel ι z zc) : VRel ι v (if ok then .tuple #[zc, .bool false] else zc) ∧ H' = H := by
  cases ok with
  | true => cases hv; exact ⟨.tup _ [zc, .bool false] (.cons _ _ _ _ hz (.cons _ _ _ _ (.bool _) .nil)), rfl⟩
  | false => cases hv; exact ⟨hz, rfl⟩
theorem lkR_some {z u v : AV} {ok : Bool} {H' : Hp} (hv : lkR ok z (some u) H = .val v H') {c : Value} (hu : VRel ι u c) : VRel ι v (if ok then .tuple #[c, .bool true] else c) ∧ H' = H := by
  cases ok with
  | true => cases hv; exact ⟨.tup _ [c, .bool true] (.cons _ _ _ _ hu (.cons _ _ _ _ (.bool _) .nil)), rfl⟩
  | false => cases hv; exact ⟨hu, rfl⟩
theorem run_find {kt : TypeId} {d : TypeDesc} (hd : P.underlying kt = some d) {k : Value} {l : List MapEntry} {a : Option (Nat × Value)} (h : Fnd P w kt d k l 0 a) : (Instr.findKey kt k l).run P w = .ok a w := by
  rcases h with ⟨_, h⟩ | ⟨h1, h⟩
  · simp [Instr.findKey, underlying, program, Sem.run, hd, h]
  · have h2 := und_run' (P := P) (w := w) hd
    cases l with
    | nil =>
      cases h
      simp [Instr.findKey, h2, Instr.findNow]
    | cons e l =>
      have : Instr.findNow d k (e :: l) 0 = none := by
        cases d <;> first | (cases h1; done) | rfl
      simp [Instr.findKey, h2, this, h]
theorem run_check (hE : EnvOk P E) {kt : Nat} {d : TypeDesc} {k : Value} (hK : undK E kt = some d) (hk : Key d k) (e : Bool) : (Instr.checkKey e 10000 kt k).run P w = .ok () w := by
  obtain ⟨hu, hT⟩ := undK_und hK
  have hd := und_eq hE hu
  rcases hk with ⟨_, hk⟩ | ⟨h1, ka, a, kb, b, rfl⟩
  · show (Instr.checkKey e (9999 + 1) kt k).run P w = _
    unfold Instr.checkKey
    simp only [Sem.run_bind, underlying, program, Sem.run, hd, Result.andThen]
    cases d <;> cases k <;> simp_all [IsKey]
  · cases d <;> try (cases h1; done)
    rename_i n el
    obtain ⟨rfl, ⟨ki, he⟩, hs⟩ := keyTy_arr hE hT
    have h2 := und_run' (P := P) (w := w) hd
    have h3 := und_run' (P := P) (w := w) he
    have p0 : ∀ (v u : Value), (part el #[v, u] 0).run P w = .ok v w := fun v u => part_int he rfl
    have p1 : ∀ (v u : Value), (part el #[v, u] 1).run P w = .ok u w := fun v u => part_int he rfl
    have ck : ∀ (k1 : IntKind) (x : Int), (Instr.checkKey e 9999 el (.int k1 x)).run P w = .ok () w := by
      intro k1 x
      show (Instr.checkKey e (9998 + 1) el (.int k1 x)).run P w = _
      rw [Instr.checkKey, Sem.run_bind, h3]
      rfl
    show (Instr.checkKey e (9999 + 1) kt _).run P w = _
    rw [Instr.checkKey, Sem.run_bind, h2]
    simp [Std.Legacy.Range.forIn_eq_forIn_range', List.range', hs, p0, p1, ck]
theorem run_stays {d : TypeDesc} {k : Value} (hk : Key d k) : (Instr.keyThatStays k k).run P w = .ok k w := by
  rcases hk with ⟨_, hk⟩ | ⟨_, ka, a, kb, b, rfl⟩
  · exact run_keyThatStays hk
  · have : Instr.sameBits (9999 + 1) (.agg #[.int ka a, .int kb b]) (.agg #[.int ka a, .int kb b]) = true := by simp [Instr.sameBits]
    unfold Instr.keyThatStays
    rw [if_pos this]; rfl
theorem getObj_run {P : Program} {w : World} {r : Nat} {o : Obj} (ho : w.heap[r]? = some o) (hc : ∀ c e f, o ≠ .cells c e f) : (getObj r).run P w = .ok o w := by
  unfold getObj
  simp only [Sem.run, ho]
theorem setObj_run {P : Program} {w : World} {r : Nat} {o o' : Obj} (ho : w.heap[r]? = some o) (hc : ∀ c e f, o ≠ .cells c e f) : (setObj r o').run P w = .ok () { w with heap := w.heap.setIfInBounds r o' } := by
  unfold setObj
  simp only [Sem.run, ho]

theorem look_sound (hE : EnvOk P E) (h : Rl E base w0 ι H w) {t kt et : Nat} {d : TypeDesc} {z : AV} (h1 : E.und t = some (.map kt et)) (h2 : undK E kt = some d) (hz : E.zero et = some z) {x y : AV} {cx cy : Value}
    (hx : VRel ι x cx) (hy : VRel ι y cy) {ok : Bool} {v : AV} {H' : Hp} (hv : lkF d z ok x y H = .val v H') : Gives P ι w (Instr.lookup t cx cy ok) v ∧ H' = H := by
  have hd := und_eq hE (undK_und h2).1
  have fin : ∀ (es : Array MapEntry) (r : Option AV) (a : Option (Nat × Value)), Key d cy → Fnd P w kt d cy es.toList 0 a → lkR ok z r H = .val v H' → ((r = none ∧ a = none) ∨ ∃ u i c, r = some u ∧ a = some (i, c) ∧ VRel ι u c) →
      (cx = .map none ∧ es = #[] ∨ ∃ r c, cx = .map (some r) ∧ w.heap[r]? = some (.map es c)) → Gives P ι w (Instr.lookup t cx cy ok) v ∧ H' = H := by
    intro es r a hk hf hr ha hc
    rcases ha with ⟨rfl, rfl⟩ | ⟨u, i, c, rfl, rfl, hu⟩
    · obtain ⟨zc, g1, g2⟩ := zero_run (P := P) (ι := ι) (w := w) hE hz
      obtain ⟨k1, k2⟩ := lkR_none hr g2
      refine ⟨⟨_, ?_, k1⟩, k2⟩
      rcases hc with ⟨rfl, rfl⟩ | ⟨r, cl, rfl, hb⟩
      · simp [Instr.lookup, und_run (P := P) (w := w) hE h1, run_check hE h2 hk, run_find hd hf, g1]
      · simp [Instr.lookup, und_run (P := P) (w := w) hE h1, getObj_run (P := P) hb (fun _ _ _ e => by cases e), run_check hE h2 hk, run_find hd hf, g1]
    · obtain ⟨k1, k2⟩ := lkR_some hr hu
      refine ⟨⟨_, ?_, k1⟩, k2⟩
      rcases hc with ⟨rfl, rfl⟩ | ⟨r, cl, rfl, hb⟩
      · simp [Instr.lookup, und_run (P := P) (w := w) hE h1, run_check hE h2 hk, run_find hd hf]
      · simp [Instr.lookup, und_run (P := P) (w := w) hE h1, getObj_run (P := P) hb (fun _ _ _ e => by cases e), run_check hE h2 hk, run_find hd hf]
  unfold lkF at hv
  split at hv
  · obtain ⟨hk, hv⟩ := cnd_invO hv
    cases hx
    exact fin #[] none none (keyOk_is hk hy) fnd_nil hv (.inl ⟨rfl, rfl⟩) (.inl ⟨rfl, rfl⟩)
  · rename_i b
    obtain ⟨hk, hv⟩ := cnd_invO hv
    obtain ⟨es, c, h3, hv⟩ := mp_invO hv
    obtain ⟨r, h4, hv⟩ := opt_invO hv
    obtain ⟨R, z', ES, rfl, hi, h5, h6⟩ := h.mapAt hx h3
    rcases mget_spec (P := P) (w := w) hE h2 hy 0 h6 h4 with ⟨rfl, e2⟩ | ⟨u, j, e, rfl, e2, e3, e4⟩
    · exact fin ES none none (keyOk_is hk hy) e2 hv (.inl ⟨rfl, rfl⟩) (.inr ⟨R, c, rfl, h5⟩)
    · exact fin ES (some u) _ (keyOk_is hk hy) e2 hv (.inr ⟨u, _, _, rfl, rfl, e4⟩) (.inr ⟨R, c, rfl, h5⟩)
  · cases hv

/-! ### writing a map -/
/-- a block that is no row of cells is written -/
theorem Rl.obj (h : Rl E base w0 ι H w) {b : Pos} {r d z : Nat} {x y : Blk} (e : ι b = some (r, d, z)) (g : H.m.get b = some x) (hl : x.live = true) (hro : x.ro = false) {o : Obj} (hy : BRel ι { w with heap := w.heap.setIfInBounds r o } r d z y) :
    Rl E base w0 ι ⟨H.m.set b y, H.nx⟩ { w with heap := w.heap.setIfInBounds r o } ∧ Stp ι ι H ⟨H.m.set b y, H.nx⟩ :=
  h.write e g hl hro (fun k hk => by simp [Ne.symm hk]) (by simp) rfl rfl rfl hy
theorem heap_set_same {w : World} {r : Nat} {o o' : Obj} (hb : w.heap[r]? = some o) : ({ w with heap := w.heap.setIfInBounds r o' } : World).heap[r]? = some o' := by
  have hlt : r < w.heap.size := (Array.getElem?_eq_some_iff.1 hb).1
  simp [hlt]

theorem mupd_sound (hE : EnvOk P E) (h : Rl E base w0 ι H w) {t kt et : Nat} {d : TypeDesc} (h1 : E.und t = some (.map kt et)) (h2 : undK E kt = some d) {x y u : AV} {cx cy cu : Value}
    (hx : VRel ι x cx) (hy : VRel ι y cy) (hu : VRel ι u cu) {v : AV} {H' : Hp} (hv : muF d x y u H = .val v H') :
    v = .tup [] ∧ ∃ w', (Instr.mapUpdate t cx cy cu).run P w = .ok () w' ∧ Rl E base w0 ι H' w' ∧ Stp ι ι H H' := by
  have hd := und_eq hE (undK_und h2).1
  unfold muF at hv
  split at hv
  · rename_i b
    obtain ⟨hk, hv⟩ := cnd_invO hv
    obtain ⟨es, c, h3, hv⟩ := mp_invO hv
    obtain ⟨u', h4, hv⟩ := opt_invO hv
    rw [avId_eq] at h4; cases h4
    obtain ⟨r, h5, hv⟩ := opt_invO hv
    obtain ⟨R, z', ES, rfl, hi, h6, h7⟩ := h.mapAt hx h3
    have hk' := keyOk_is hk hy
    have run0 : ∀ w' a, Fnd P w kt d cy ES.toList 0 a → ((match a with
        | some (i, _) => do
          let key ← Instr.keyThatStays (((ES[i]?).map (·.key)).getD cy) cy
          setObj R (.map (ES.modify i fun e => { e with key, val := cu }) c)
        | none => setObj R (.map (ES.push { key := cy, val := cu, born := c }) (c + 1)) : Sem Unit).run P w = .ok () w') → (Instr.mapUpdate t (.map (some R)) cy cu).run P w = .ok () w' := by
      intro w' a ha this
      simp only [Instr.mapUpdate, Sem.run_bind, und_run (P := P) (w := w) hE h1, Result.andThen_ok, getObj_run h6 (fun _ _ _ e => by cases e), run_check hE h2 hk', run_find hd ha]
      cases a with
      | none => exact this
      | some p => exact this
    rcases mupd_spec (P := P) (w := w) hE h2 hy hu 0 h7 h5 with ⟨rfl, e2⟩ | ⟨l, j, e, rfl, e2, e3, e4, e5⟩
    · replace hv : (opt (avId y) .no fun k => fNat (Nat.succ c) fun c' => .val (.tup []) (H.put b (.map (app es [(k, u, c)]) c'))) = OR.val v H' := hv
      rw [avId_eq] at hv
      replace hv : (fNat (Nat.succ c) fun c' => OR.val (.tup []) (H.put b (.map (app es [(y, u, c)]) c'))) = OR.val v H' := hv
      rw [fNat_eq, put_eq, app_eq] at hv
      cases hv
      refine ⟨rfl, _, run0 _ _ e2 ?_, h.obj hi h3 rfl rfl ⟨rfl, ES.push { key := cy, val := cu, born := c }, heap_set_same h6, ?_⟩⟩
      · exact setObj_run h6 (fun _ _ _ e => by cases e)
      · rw [Array.toList_push]; exact h7.snoc hy hu
    · replace hv : OR.val (.tup []) (H.put b (.map l c)) = OR.val v H' := hv
      rw [put_eq] at hv
      cases hv
      refine ⟨rfl, _, run0 _ _ e2 ?_, h.obj hi h3 rfl rfl ⟨rfl, ES.modify j fun e => { e with key := cy, val := cu }, heap_set_same h6, ?_⟩⟩
      · have hj : ES[0 + j]? = some e := by rw [Nat.zero_add]; simpa using e3
        simp only [Sem.run_bind, hj, Option.map_some, Option.getD_some, e4, run_stays hk', Result.andThen_ok]
        rw [Nat.zero_add]
        exact setObj_run h6 (fun _ _ _ e => by cases e)
      · rw [Array.toList_modify]; exact e5
  · cases hv

theorem mdel_sound (hE : EnvOk P E) (h : Rl E base w0 ι H w) {t kt et : Nat} {ts : List Nat} {d : TypeDesc} (h1 : E.und t = some (.map kt et)) (h2 : undK E kt = some d) {x y : AV} {cx cy : Value}
    (hx : VRel ι x cx) (hy : VRel ι y cy) {v : AV} {H' : Hp} (hv : mdF d x y H = .val v H') {ty : TypeId} :
    v = .tup [] ∧ ∃ w', (Builtin.delete_ (t :: ts).toArray ty #[cx, cy]).run P w = .ok (.tuple #[]) w' ∧ Rl E base w0 ι H' w' ∧ Stp ι ι H H' := by
  have hd := und_eq hE (undK_und h2).1
  unfold mdF at hv
  split at hv
  · obtain ⟨hk, hv⟩ := cnd_invO hv
    cases hv
    cases hx
    refine ⟨rfl, w, ?_, h, .refl _ _⟩
    simp [Builtin.delete_, und_run (P := P) (w := w) hE h1, run_check hE h2 (keyOk_is hk hy)]
  · rename_i b
    obtain ⟨hk, hv⟩ := cnd_invO hv
    obtain ⟨es, c, h3, hv⟩ := mp_invO hv
    obtain ⟨l, h4, hv⟩ := opt_invO hv
    rw [put_eq] at hv
    cases hv
    obtain ⟨R, z', ES, rfl, hi, h6, h7⟩ := h.mapAt hx h3
    rcases mdel_spec (P := P) (w := w) hE h2 hy 0 h7 h4 with ⟨e1, e2⟩ | ⟨j, e, e2, e3, e5⟩
    · refine ⟨rfl, _, ?_, h.obj hi h3 rfl rfl ⟨rfl, ES, heap_set_same h6, e1⟩⟩
      simp [Builtin.delete_, und_run (P := P) (w := w) hE h1, getObj_run (P := P) h6 (fun _ _ _ e => by cases e), run_check hE h2 (keyOk_is hk hy), run_find hd e2, setObj_run (P := P) h6 (fun _ _ _ e => by cases e)]
    · refine ⟨rfl, _, ?_, h.obj hi h3 rfl rfl ⟨rfl, ES.eraseIdxIfInBounds j, heap_set_same h6, ?_⟩⟩
      · simp [Builtin.delete_, und_run (P := P) (w := w) hE h1, getObj_run (P := P) h6 (fun _ _ _ e => by cases e), run_check hE h2 (keyOk_is hk hy), run_find hd e2, setObj_run (P := P) h6 (fun _ _ _ e => by cases e)]
      · have hlt : j < ES.size := by
          have := (List.getElem?_eq_some_iff.1 e3).1
          simpa using this
        unfold Array.eraseIdxIfInBounds
        rw [dif_pos hlt, Array.toList_eraseIdx]
        exact e5
  · cases hv

/-! ### channels -/
theorem ch_inv {β : Type} {b : Pos} {k : Bool → Option β} {v : β} (h : H.ch b none k = some v) : ∃ cl, H.m.get b = some (.chan cl) ∧ k cl = some v := by
  unfold Hp.ch at h
  obtain ⟨x, h1, h2⟩ := opt_eq_some h
  cases x with
  | chan cl => exact ⟨cl, h1, h2⟩
  | _ => cases h2
theorem ch_invO {b : Pos} {k : Bool → OR} {v : AV} {H' : Hp} (h : H.ch b .no k = .val v H') : ∃ cl, H.m.get b = some (.chan cl) ∧ k cl = .val v H' := by
  unfold Hp.ch at h
  obtain ⟨x, h1, h2⟩ := opt_invO h
  cases x with
  | chan cl => exact ⟨cl, h1, h2⟩
  | _ => cases h2
theorem close_sound (h : Rl E base w0 ι H w) {x y : AV} {cx : Value} (hx : VRel ι x cx) {v : AV} {H' : Hp} (hv : clF x y H = .val v H') {ats : Array TypeId} {ty : TypeId} :
    v = .tup [] ∧ ∃ w', (Builtin.close_ ats ty #[cx]).run P w = .ok (.tuple #[]) w' ∧ Rl E base w0 ι H' w' ∧ Stp ι ι H H' := by
  unfold clF at hv
  split at hv
  · rename_i b
    obtain ⟨cl, h1, h2⟩ := ch_invO hv
    obtain ⟨hcl, h3⟩ := cnd_invO' h2
    subst hcl
    rw [put_eq] at h3
    cases h3
    cases hx with
    | chn _ r z hi =>
      obtain ⟨_, cap, s, q, tm, hb⟩ := h.blk b r 0 z _ hi h1
      exact ⟨rfl, _, Go.run_close_open ats ty hb, h.obj hi h1 rfl rfl ⟨rfl, cap, s, q, tm, heap_set_same hb⟩⟩
  · cases hv
/-- what a look at a channel gives -/
theorem sel_val {z x : AV} {cx zc : Value} (h : Rl E base w0 ι H w) (hx : VRel ι x cx) (hz : VRel ι z zc) {v : AV} (hv : selF z x H = some v) :
    ∃ r cap cl s q tm, cx = .chan (some r) ∧ w.heap[r]? = some (.chan cap #[] cl s q tm) ∧ VRel ι v (.tuple #[goInt (if cl then 0 else -1), .bool false, zc]) := by
  unfold selF at hv
  split at hv
  · rename_i b
    obtain ⟨cl, h1, h2⟩ := ch_inv hv
    cases h2
    cases hx with
    | chn _ r z' hi =>
      obtain ⟨_, cap, s, q, tm, hb⟩ := h.blk b r 0 z' _ hi h1
      refine ⟨r, cap, cl, s, q, tm, rfl, hb, ?_⟩
      have e : VRel ι (.int .i64 (Bool.rec (.negSucc 0) (.ofNat 0) cl)) (goInt (if cl then 0 else -1)) := by
        cases cl <;> exact .int _ _
      exact .tup _ [_, _, _] (.cons _ _ _ _ e (.cons _ _ _ _ (.bool false) (.cons _ _ _ _ hz .nil)))
  · cases hv

/-! ### walks over a map -/
theorem rng_sound (hE : EnvOk P E) (h : Rl E base w0 ι H w) {t kt et : Nat} (h1 : E.und t = some (.map kt et)) {x y : AV} {cx : Value} (hx : VRel ι x cx) {v : AV} {H' : Hp} (hv : rgF x y H = .val v H') :
    WGives P E base w0 ι H w (Instr.range t cx) v H' := by
  have fin : ∀ (m : Option Pos) (s l : Nat) (R : Option Nat), IRel ι m R → (Instr.range t cx).run P w = .ok (.pointer (some ⟨w.heap.size, 0, none⟩)) (w.alloc (.mapIter R s #[] l)) →
      (H.new (.iter m s [] l) fun b H' => OR.val (.ptr b 0) H') = .val v H' → WGives P E base w0 ι H w (Instr.range t cx) v H' := by
    intro m s l R hm hrun hh
    rw [new_eq] at hh
    cases hh
    obtain ⟨k1, k2⟩ := h.alloc (.mapIter R s #[] l) 0 (.iter m s [] l) fun κ hκ => ⟨rfl, R, #[], by show (w.heap.push _)[w.heap.size]? = _; simp, rfl, hm.mono hκ⟩
    refine ⟨_, _, _, hrun, ?_, k1, k2⟩
    have := VRel.ptr (ι := upd ι H.nx (w.heap.size, 0, 0)) H.nx 0 w.heap.size 0 0 (upd_same _ _ _)
    simpa using this
  unfold rgF at hv
  split at hv
  · cases hx
    exact fin none 0 0 none trivial (by simp [Instr.range, und_run (P := P) (w := w) hE h1, newObj, Sem.run]) hv
  · rename_i b
    obtain ⟨es, c, h3, hv⟩ := mp_invO hv
    obtain ⟨R, z', ES, rfl, hi, h6, h7⟩ := h.mapAt hx h3
    exact fin (some b) c c (some R) ⟨z', hi⟩ (by simp [Instr.range, und_run (P := P) (w := w) hE h1, getObj_run (P := P) h6 (fun _ _ _ e => by cases e), newObj, Sem.run]) hv
  · cases hv

theorem nxL_spec {seen : List Nat} {S : Array Nat} (hS : S.toList = seen.reverse) : ∀ {es : List (AV × AV × Nat)} {ES : List MapEntry}, ERel ι es ES → ERel ι (nxL seen es) (ES.filter fun e => !S.contains e.born)
  | _, _, .nil => .nil
  | _, _, .cons x y n X V l L hx hy t => by
    have mem : ∀ (q : List Nat), (List.rec (motive := fun _ => Bool) false (fun j _ h => cnd (Nat.beq n j) true h) q : Bool) = q.contains n := by
      intro q
      induction q with
      | nil => rfl
      | cons j q ih =>
        show cnd (Nat.beq n j) true (List.rec (motive := fun _ => Bool) false (fun j _ h => cnd (Nat.beq n j) true h) q) = _
        rw [ih, List.contains_cons]
        have hb : Nat.beq n j = (n == j) := by
          cases hc : Nat.beq n j with
          | true => simp [Nat.eq_of_beq_eq_true hc]
          | false =>
            have : n ≠ j := fun e => by rw [e, Nat.beq_refl] at hc; cases hc
            simp [this]
        rw [hb]
        cases (n == j) <;> rfl
    have hc : S.contains n = seen.contains n := by
      rw [← Array.contains_toList, hS]
      simp
    show ERel ι (cnd (List.rec (motive := fun _ => Bool) false (fun j _ h => cnd (Nat.beq n j) true h) seen) (nxL seen l) (fcons (x, y, n) (nxL seen l))) _
    rw [mem, fcons_eq, List.filter_cons]
    have ih := nxL_spec hS t
    cases hb : seen.contains n with
    | true => simp only [hc, hb]; exact ih
    | false => simp only [hc, hb]; exact .cons _ _ _ _ _ _ _ hx hy ih
theorem nxB_spec {seen : List Nat} {S : Array Nat} (hS : S.toList = seen.reverse) {es : List (AV × AV × Nat)} {ES : Array MapEntry} (hE : ERel ι es ES.toList) {last : Nat} (h : nxB seen es last = false) :
    (!S.isEmpty && !ES.isEmpty && ES.all (·.born ≥ last)) = false := by
  have all : ∀ {es : List (AV × AV × Nat)} {L : List MapEntry}, ERel ι es L → (List.rec (motive := fun _ => Bool) true (fun e _ ih => iand (Nat.ble last e.2.2) ih) es : Bool) = L.all (fun e => decide (e.born ≥ last)) := by
    intro es L hh
    induction es generalizing L with
    | nil => cases hh; rfl
    | cons e es ih =>
      cases hh with
      | cons x y n X V l L hx hy t =>
        show iand (Nat.ble last n) (List.rec (motive := fun _ => Bool) true (fun e _ ih => iand (Nat.ble last e.2.2) ih) es) = _
        rw [ih t, iand_eq, List.all_cons]
        have : Nat.ble last n = decide (n ≥ last) := by
          by_cases hb : last ≤ n
          · rw [Nat.ble_eq_true_of_le hb]; simp [hb]
          · have : Nat.ble last n = false := by
              cases hc : Nat.ble last n with
              | false => rfl
              | true => exact absurd (Nat.le_of_ble_eq_true hc) hb
            rw [this]; simp [hb]
        rw [this]
  cases seen with
  | nil =>
    have : S = #[] := by apply Array.toList_inj.1; simpa using hS
    subst this; rfl
  | cons j seen =>
    cases es with
    | nil =>
      have : ES = #[] := by
        apply Array.toList_inj.1
        generalize ES.toList = L at hE
        cases hE; rfl
      subst this; simp
    | cons e es =>
      replace h : (List.rec (motive := fun _ => Bool) true (fun e _ ih => iand (Nat.ble last e.2.2) ih) (e :: es) : Bool) = false := h
      rw [all hE] at h
      rw [← Array.all_toList, h]
      simp

theorem nxt_sound (h : Rl E base w0 ι H w) {x y : AV} {cx : Value} (hx : VRel ι x cx) {v : AV} {H' : Hp} (hv : nxF x y H = .val v H') {ty : TypeId} :
    WGives P E base w0 ι H w (Instr.next cx false ty) v H' := by
  unfold nxF at hv
  split at hv
  case h_2 => cases hv
  rename_i c o
  obtain ⟨ho, hv⟩ := cnd_invO hv
  have := Nat.eq_of_beq_eq_true ho; subst this
  obtain ⟨m, since, seen, last, h1, hv⟩ := it_invO hv
  cases hx with
  | ptr _ _ r d z hi =>
    obtain ⟨rfl, R, S, h2, h3, h4⟩ : BRel ι w r d z (.iter m since seen last) := h.blk c r d z _ hi h1
    cases m with
    | none =>
      cases R with
      | some r => exact h4.elim
      | none =>
        replace hv : OR.val (.tup [.bool false]) H = .val v H' := hv
        cases hv
        refine ⟨.tuple #[.bool false], w, ι, ?_, .tup _ [.bool false] (.cons _ _ _ _ (.bool _) .nil), h, .refl _ _⟩
        simp [Instr.next, getObj_run (P := P) h2 (fun _ _ _ e => by cases e)]
    | some b =>
      cases R with
      | none => exact h4.elim
      | some R =>
        obtain ⟨z', hz'⟩ := h4
        replace hv : (H.mp b .no fun es clk => cnd (nxB seen es last) .no (nxP c b since seen clk (nxL seen es) H)) = .val v H' := hv
        obtain ⟨es, clk, h5, hv⟩ := mp_invO hv
        obtain ⟨hb, hv⟩ := cnd_invO' hv
        obtain ⟨R', z2, ES, e0, hi', h6, h7⟩ := h.mapAt (.map b R z' hz') h5
        cases e0
        have hbad := nxB_spec h3 h7 hb
        have hleft := nxL_spec h3 h7
        have hrun : ∀ (cands : Array (Option MapEntry)) (w' : World) (cv : Value),
            (let left := ES.filter fun e => !S.contains e.born
             let old := left.filter (·.born < since)
             let new := left.filter (·.born ≥ since)
             (if old.isEmpty then #[none] else #[]) ++ (old ++ new).map some) = cands → cands.size = 1 →
            ((match cands[0]? with
              | some (some e) => do
                setObj r (.mapIter (some R) since (S.push e.born) clk)
                pure (.tuple #[.bool true, e.key, e.val])
              | some none => pure (.tuple #[.bool false])
              | none => stuck "Next: no such candidate" : Sem Value).run P w = .ok cv w') →
            (Instr.next (.pointer (some ⟨r, 0, none⟩)) false ty).run P w = .ok cv w' := by
          intro cands w' cv hc hs hr
          have hch : (choose (.mapNext cands.size)).run P w = .ok 0 w := by
            rw [hs]; rfl
          simp only [Instr.next, Sem.run_bind, getObj_run (P := P) h2 (fun _ _ _ e => by cases e), Result.andThen_ok, getObj_run (P := P) h6 (fun _ _ _ e => by cases e), hbad]
          simp only [Bool.false_eq_true, if_false, Sem.run_bind]
          replace hc : (if ((ES.filter fun e => !S.contains e.born).filter (·.born < since)).isEmpty = true then #[none] else #[]) ++ ((ES.filter fun e => !S.contains e.born).filter (·.born < since) ++ (ES.filter fun e => !S.contains e.born).filter (·.born ≥ since)).map some = cands := hc
          rw [hc, hch]
          simp only [Result.andThen_ok]
          exact hr
        have hfl : (ES.filter fun e => !S.contains e.born).toList = ES.toList.filter fun e => !S.contains e.born := by simp
        generalize hl : nxL seen es = l at hv hleft
        unfold nxP at hv
        split at hv
        · cases hv
          have he : (ES.filter fun e => !S.contains e.born) = #[] := by
            apply Array.toList_inj.1
            rw [hfl]
            generalize (ES.toList.filter fun e => !S.contains e.born) = q at hleft
            cases hleft; rfl
          refine ⟨.tuple #[.bool false], w, ι, ?_, .tup _ [.bool false] (.cons _ _ _ _ (.bool _) .nil), h, .refl _ _⟩
          refine hrun #[none] w _ (by simp only [he]; simp) rfl rfl
        · rename_i e0
          obtain ⟨x, y, n⟩ := e0
          obtain ⟨hn, hv⟩ := cnd_invO hv
          have hn : n < since := Nat.le_of_ble_eq_true hn
          rw [fNat_eq, put_eq] at hv
          cases hv
          obtain ⟨X, V, hX, hV, he⟩ : ∃ X V, VRel ι x X ∧ VRel ι y V ∧ (ES.filter fun e => !S.contains e.born) = #[⟨X, V, n⟩] := by
            generalize hq : (ES.toList.filter fun e => !S.contains e.born) = q at hleft
            cases hleft with
            | cons _ _ _ X V _ _ hx hy t =>
              cases t
              exact ⟨X, V, hx, hy, Array.toList_inj.1 (by rw [hfl, hq])⟩
          have hpush : (S.push n).toList = (n :: seen).reverse := by simp [h3]
          obtain ⟨k1, k2⟩ := h.obj (o := .mapIter (some R) since (S.push n) clk) (y := .iter (some b) since (n :: seen) clk) hi h1 rfl rfl ⟨rfl, some R, S.push n, heap_set_same h2, hpush, z', hz'⟩
          refine ⟨.tuple #[.bool true, X, V], _, ι, ?_, .tup _ [.bool true, X, V] (.cons _ _ _ _ (.bool _) (.cons _ _ _ _ hX (.cons _ _ _ _ hV .nil))), k1, k2⟩
          refine hrun #[some ⟨X, V, n⟩] _ _ ?_ rfl ?_
          · simp only [he]
            simp [hn, Nat.not_le.2 hn]
          · simp [setObj_run (P := P) h2 (fun _ _ _ e => by cases e)]
        · cases hv

/-! ### copies -/
theorem cells_runO (h : Rl E base w0 ι H w) {b : Pos} {o k r d z : Nat} {q : List AV} (hi : ι b = some (r, d, z)) (hc : (H.cells b none fun _ l => sub o k l) = some q) :
    ∃ C, LRel ι q C ∧ C.length = k ∧ (∀ j v, C[j]? = some v → w.cell? ((⟨r, d + o, none⟩ : Addr).add j) = some v) := cells_run h hi hc
theorem copy_run {P : Program} {w w' : World} {dT sT e n : Nat} {ty : TypeId} (hu : P.underlying dT = some (.slice e)) (hs : (sizeOf e).run P w = .ok n w) (ts : List Nat) {base : Option Addr} {dl dc sl : Nat} {src : Value} {C : List Value}
    (hl : (Builtin.lenOf src).run P w = .ok sl w) (hf : (Builtin.firstCells n (Nat.min sl dl) src).run P w = .ok C.toArray w) (hst : (match base with | some a => storeCells a C | none => pure ()).run P w = .ok () w') (_ : sT = sT) :
    (Builtin.copy_ (dT :: ts).toArray ty #[.slice base dl dc, src]).run P w = .ok (.int .i64 (Nat.min sl dl : Nat)) w' := by
  have hur : (underlying dT).run P w = .ok (.slice e) w := by simp [underlying, program, Sem.run, hu]
  cases base with
  | none =>
    have hw : w' = w := by
      replace hst : (pure () : Sem Unit).run P w = .ok () w' := hst
      simpa using hst.symm
    subst hw
    simp [Builtin.copy_, goInt, hur, hl, hs, hf]
  | some a => simp [Builtin.copy_, goInt, hur, hl, hs, hf, hst]
theorem copy_sound (hE : EnvOk P E) (h : Rl E base w0 ι H w) {t e n : Nat} {ts : List Nat} (h1 : E.und t = some (.slice e)) (h2 : E.size e = some n) {x y : AV} {cx cy : Value} (hx : VRel ι x cx) (hy : VRel ι y cy) {v : AV} {H' : Hp}
    (hv : cpF n x y H = .val v H') {ty : TypeId} : WGives P E base w0 ι H w (Builtin.copy_ (t :: ts).toArray ty #[cx, cy]) v H' := by
  have hu := und_eq hE h1
  have hs := size_run (P := P) (w := w) hE h2
  -- nothing is copied
  have none0 : ∀ (bs : Option Addr) (dl dc sl : Nat) (src : Value), (Builtin.lenOf src).run P w = .ok sl w → Nat.min sl dl = 0 → (Builtin.firstCells n 0 src).run P w = .ok #[] w → v = .int .i64 (.ofNat 0) → H' = H →
      WGives P E base w0 ι H w (Builtin.copy_ (t :: ts).toArray ty #[.slice bs dl dc, src]) v H' := by
    intro bs dl dc sl src hl hm hf e1 e2
    subst e1; subst e2
    have := copy_run (P := P) (w := w) (w' := w) (ty := ty) (sT := 0) hu hs ts (base := bs) (dl := dl) (dc := dc) (C := []) hl (by rw [hm]; exact hf) (by cases bs <;> rfl) rfl
    rw [hm] at this
    exact ⟨_, w, ι, this, .int _ _, h, .refl _ _⟩
  have f0 : ∀ (a : Addr) (l c : Nat), (Builtin.firstCells n 0 (.slice (some a) l c)).run P w = .ok #[] w := fun a l c => by
    simpa using run_firstCells_some (P := P) w n 0 a l c [] (by simp) (by simp)
  have srcOf : ∀ (c : Pos) (p m : Nat) (cap : Cap) (src : Value), VRel ι (.sl c p m cap) src → (∃ a k, src = .slice (some a) m k) ∧ ∀ k xs, 0 < m → (H.cells c none fun _ l => sub p (Nat.mul k n) l) = some xs → ∃ C, LRel ι xs C ∧ C.length = k * n ∧ (Builtin.firstCells n k src).run P w = .ok C.toArray w := by
    intro c p m cap src hsrc
    cases hsrc with
    | sl _ _ _ c' r d z hi =>
      refine ⟨⟨_, _, rfl⟩, fun k xs _ hc => ?_⟩
      obtain ⟨C, c1, c2, c3⟩ := cells_run h hi hc
      exact ⟨C, c1, c2, run_firstCells_some (P := P) w n k _ m c' C c2 c3⟩
    | slu _ _ _ c' r d z e' hi hcap hz =>
      refine ⟨⟨_, _, rfl⟩, fun k xs _ hc => ?_⟩
      obtain ⟨C, c1, c2, c3⟩ := cells_run h hi hc
      exact ⟨C, c1, c2, run_firstCells_some (P := P) w n k _ m c' C c2 c3⟩
    | slv => exact ⟨⟨_, _, rfl⟩, fun k xs hm => by omega⟩
  unfold cpF at hv
  split at hv
  · cases hv; cases hx; cases hy
    exact none0 none 0 0 0 _ rfl rfl rfl rfl rfl
  · cases hv; cases hx
    obtain ⟨⟨a, k, rfl⟩, _⟩ := srcOf _ _ _ _ _ hy
    exact none0 none 0 0 _ _ rfl (Nat.min_eq_right (Nat.zero_le _)) (f0 _ _ _) rfl rfl
  · cases hv; cases hy
    obtain ⟨⟨a, k, rfl⟩, _⟩ := srcOf _ _ _ _ _ hx
    exact none0 (some a) _ _ 0 _ rfl (Nat.min_eq_left (Nat.zero_le _)) rfl rfl rfl
  · rename_i b o dl dcap c p m scap
    rw [fNat_eq] at hv
    have hmin : (cnd (Nat.ble m dl) m dl) = Nat.min m dl := by
      rw [cnd_eq]
      split
      · rename_i hb; exact (Nat.min_eq_left (Nat.le_of_ble_eq_true hb)).symm
      · rename_i hb
        have : ¬ m ≤ dl := fun hle => hb (Nat.ble_eq_true_of_le hle)
        exact (Nat.min_eq_right (by omega)).symm
    rw [hmin] at hv
    unfold cpS at hv
    obtain ⟨⟨sa, sk, hcy⟩, hsrc⟩ := srcOf _ _ _ _ _ hy
    have hlen : (Builtin.lenOf cy).run P w = .ok m w := by rw [hcy]; rfl
    rw [cnd_eq] at hv
    split at hv
    · rename_i h0
      have h0 := Nat.eq_of_beq_eq_true h0
      cases hv
      obtain ⟨⟨a, k, rfl⟩, _⟩ := srcOf _ _ _ _ _ hx
      exact none0 (some a) _ _ m _ hlen h0 (by rw [hcy]; exact f0 _ _ _) rfl rfl
    · rename_i h0
      have hpos : 0 < Nat.min m dl := Nat.pos_of_ne_zero fun e => h0 (by rw [e]; rfl)
      have hm : 0 < m := Nat.lt_of_lt_of_le hpos (Nat.min_le_left _ _)
      have hdl : 0 < dl := Nat.lt_of_lt_of_le hpos (Nat.min_le_right _ _)
      obtain ⟨xs, h3, hv⟩ := opt_invO hv
      obtain ⟨h4, hv⟩ := cnd_invO hv
      obtain ⟨ro, l, h5, hv⟩ := cells_invO hv
      obtain ⟨hro, hv⟩ := cnd_invO' hv
      subst hro
      obtain ⟨l', h6, hv⟩ := opt_invO hv
      rw [put_eq] at hv
      cases hv
      obtain ⟨C, c1, c2, c3⟩ := hsrc _ _ hm h3
      have dst : ∀ (r d z dc : Nat), ι b = some (r, d, z) → WGives P E base w0 ι H w (Builtin.copy_ (t :: ts).toArray ty #[.slice (some ⟨r, d + o, none⟩) dl dc, cy]) (.int .i64 (.ofNat (Nat.min m dl))) ⟨H.m.set b (.cells false l'), H.nx⟩ := by
        intro r d z dc hi
        obtain ⟨k1, k2⟩ := h.put hi h5 h6 c1
        have hb : BRel ι w r d z (.cells false l) := h.blk b r d z _ hi h5
        obtain ⟨p1, p2⟩ := puts_eq h6
        have hlen' := c1.length
        have hst := run_storeCells_cells (P := P) r (d + o) C 0 w (fun j hj => by simp only [Nat.add_zero]; rw [Nat.add_assoc]; exact (hb.2.2 rfl (o + j) (by have := hb.1; omega)).1)
          (fun j hj => by simp only [Nat.add_zero]; rw [Nat.add_assoc]; exact (hb.2.2 rfl (o + j) (by have := hb.1; omega)).2) (c1.one h4)
        simp only [Nat.add_zero] at hst
        exact ⟨_, _, ι, copy_run (P := P) (sT := 0) hu hs ts hlen c3 hst rfl, .int _ _, k1, k2⟩
      cases hx with
      | sl _ _ _ dc r d z hi => exact dst _ _ _ _ hi
      | slu _ _ _ dc r d z e' hi hcap hz => exact dst _ _ _ _ hi
      | slv => omega
  · cases hv

/-! ### a text as bytes -/
theorem push_last {α : Type} (xs : Array α) (x : α) : (xs.push x)[xs.size]? = some x := by simp
theorem push_modify {α : Type} (xs : Array α) (x : α) (f : α → α) : (xs.push x).modify xs.size f = xs.push (f x) := by
  apply Array.ext_getElem?
  intro k
  rw [Array.getElem?_modify]
  by_cases hk : xs.size = k
  · subst hk; simp
  · rw [if_neg hk, Array.getElem?_push, Array.getElem?_push, if_neg (Ne.symm hk), if_neg (Ne.symm hk)]
theorem s2b_sound (hE : EnvOk P E) (h : Rl E base w0 ι H w) {s t e : Nat} {i : TypeInfo} {z : List AV} (h1 : E.und t = some (.slice e)) (h2 : E.und s = some .string) (h3 : E.und e = some (.int .u8)) (_h4 : E.zcells e = some z) (_h5 : E.info e = some i) (_h6 : z.length = i.size) (_h7 : i.size = 1)
    {x y : AV} {cx : Value} (hx : VRel ι x cx) {v : AV} {H' : Hp} (hv : s2b x y H = .val v H') : WGives P E base w0 ι H w (convert s t cx) v H' := by
  unfold s2b at hv
  split at hv
  case h_2 => cases hv
  rename_i l
  obtain ⟨str, rfl, hl⟩ := str_rel hx
  unfold grow at hv
  obtain ⟨hn, hv⟩ := cnd_invO hv
  rw [new_eq, fNat_eq] at hv
  cases hv
  have hsz : len l = str.size := by rw [len_eq, ← hl]; simp
  have hge := grownCap_ge w str.size 0 e
  generalize hcap : grownCap w str.size 0 e = cap at hge
  let R : Array Value := (str.data.map fun (b : UInt8) => Value.int .u8 b.toNat) ++ Array.replicate (cap - str.size) (Value.int .u8 0)
  have hR : R.size = cap := by
    show ((str.data.map fun (b : UInt8) => Value.int .u8 b.toNat) ++ Array.replicate (cap - str.size) (Value.int .u8 0)).size = cap
    have : str.data.size = str.size := rfl
    simp [this]; omega
  have hrun : (convert s t (.string str)).run P w = .ok (.slice (some ⟨w.heap.size, 0, none⟩) str.size cap) (w.drew.alloc (.cells R e (cap, cap + 1))) := by
    have hch : (choose (.appendCap str.size 0 e)).run P w = .ok cap w.drew := by
      rw [← hcap]; rfl
    have e1 : (convert s t (.string str)).run P w = (Conv.stringToBytes e str).run P w := by
      simp only [convert, Sem.run_bind, und_run (P := P) (w := w) hE h2, und_run (P := P) (w := w) hE h1, und_run (P := P) (w := w) hE h3, Result.andThen_ok]
    rw [e1]
    unfold Conv.stringToBytes
    simp only [Sem.run_bind, hch, Result.andThen_ok, newRow, newObj, markStringish, shape, freeze, Sem.run]
    have hRe : (str.data.map fun (b : UInt8) => Value.int .u8 b.toNat) ++ Array.replicate (cap - str.size) (Value.int .u8 0) = R := rfl
    rw [hRe]
    have hds : w.drew.heap.size = w.heap.size := rfl
    have hsh : ∀ (W : World), W.heap = w.drew.heap.push (Obj.cells R e) → W.shape? w.heap.size = some (e, cap) := by
      intro W hW
      unfold World.shape?
      rw [hW, ← hds, push_last]
      show some (e, R.size) = _
      rw [hR]
    simp only [Sem.run_pure, Result.andThen_ok, hds]
    rw [hsh _ rfl]
    simp only [Sem.run, Result.andThen_ok]
    unfold World.freeze
    rw [if_neg (by decide)]
    simp only [← hds, push_modify]
    rfl
  have hrel : LRel ι (l.map fun c => AV.int .u8 (.ofNat c)) (str.data.toList.map fun (b : UInt8) => Value.int .u8 b.toNat) := by
    subst hl
    refine .of_get (by simp) fun j u c hu hc => ?_
    simp only [List.getElem?_map, Option.map_eq_some_iff] at hu hc
    obtain ⟨y, ⟨b, hb, rfl⟩, rfl⟩ := hu
    obtain ⟨b', hb', rfl⟩ := hc
    rw [hb] at hb'; cases hb'
    exact .int _ _
  obtain ⟨k1, k2⟩ := h.drew.alloc (.cells R e (cap, cap + 1)) cap (.cells false (l.map fun c => AV.int .u8 (.ofNat c))) fun κ hκ => by
    refine ⟨by rw [List.length_map, ← len_eq, hsz]; exact hge, fun j u hu => ?_, fun _ j hj => ⟨?_, ?_⟩⟩
    · obtain ⟨c, g1, g2⟩ := hrel.get hu
      refine ⟨c, ?_, g2.mono hκ⟩
      have hjl : j < str.data.toList.length := by
        have := (List.getElem?_eq_some_iff.1 g1).1
        simpa using this
      rw [Nat.zero_add]
      show (match (w.drew.heap.push (Obj.cells R e (cap, cap + 1)))[w.drew.heap.size]? with | some (.cells c _ _) => c[j]? | _ => none) = some c
      simp only [Array.getElem?_push_size]
      show ((str.data.map fun (b : UInt8) => Value.int .u8 b.toNat) ++ Array.replicate (cap - str.size) (Value.int .u8 0))[j]? = some c
      rw [Array.getElem?_append_left (by simpa using hjl)]
      simpa using g1
    · rw [Nat.zero_add]
      show (match (w.drew.heap.push (Obj.cells R e (cap, cap + 1)))[w.drew.heap.size]? with | some (.cells c _ _) => c[j]? | _ => none).isSome = true
      simp only [Array.getElem?_push_size]
      rw [← hR] at hj
      simp [hj]
    · rw [Nat.zero_add]
      show (match (w.drew.heap.push (Obj.cells R e (cap, cap + 1)))[w.drew.heap.size]? with | some (.cells _ _ (lo, hi)) => decide (lo ≤ j) && decide (j < hi) | _ => false) = false
      simp only [Array.getElem?_push_size]
      simp
      omega
  refine ⟨_, _, _, hrun, ?_, k1, k2⟩
  have := VRel.slu (ι := upd ι H.nx (w.drew.heap.size, 0, cap)) H.nx 0 (len l) cap w.drew.heap.size 0 cap 1 (upd_same _ _ _) (by omega) (by omega)
  rw [hsz] at this ⊢
  simpa using this
/-- Bytes as they are. -/
theorem s2s_sound (hE : EnvOk P E) (h : Rl E base w0 ι H w) {s e : Nat} (h1 : E.und s = some (.slice e)) (h3 : E.und e = some (.int .u8)) {x y : AV} {cx : Value} (hx : VRel ι x cx) {v : AV} {H' : Hp} (hv : s2s x y H = .val v H') :
    WGives P E base w0 ι H w (convert s s cx) v H' := by
  unfold s2s at hv
  split at hv
  case h_2 => cases hv
  rename_i b o n c
  obtain ⟨hn, hv⟩ := cnd_invO hv
  have hn := Nat.le_of_ble_eq_true hn
  obtain ⟨ro, l, hg, hv⟩ := cells_invO hv
  obtain ⟨hro, hv⟩ := cnd_invO' hv
  subst hro
  rw [put_eq] at hv
  cases hv
  have fin : ∀ (r d z : Nat) (ad : Addr) (n' c' : Nat), ι b = some (r, d, z) → ad.block = r → VRel ι (.sl b o n c) (.slice (some ad) n' c') → WGives P E base w0 ι H w (convert s s (.slice (some ad) n' c')) (.sl b o n c) ⟨H.m.set b (.cells true l), H.nx⟩ := by
    intro r d z ad n' c' hi had hval
    have hb : BRel ι w r d z (.cells false l) := h.blk b r d z _ hi hg
    have hconv : (convert s s (.slice (some ad) n' c')).run P w = (do markStringish ad; pure (.slice (some ad) n' c') : Sem Value).run P w := by
      simp [convert, und_run (P := P) (w := w) hE h1, und_run (P := P) (w := w) hE h3]
    obtain ⟨w', hw', hcell, hoth, hsz, ho, ht, hp⟩ : ∃ w', (markStringish ad).run P w = .ok () w' ∧ (∀ q : Addr, w'.cell? q = w.cell? q) ∧ (∀ k, k ≠ r → w'.heap[k]? = w.heap[k]?) ∧ w'.heap.size = w.heap.size ∧ w'.os = w.os ∧ w'.tape = w.tape ∧ w'.output = w.output := by
      cases hs : w.shape? ad.block with
      | none =>
        refine ⟨w, ?_, fun _ => rfl, fun _ _ => rfl, rfl, rfl, rfl, rfl⟩
        simp [markStringish, shape, Sem.run, hs]
      | some p =>
        obtain ⟨t, q⟩ := p
        refine ⟨w.freeze ⟨ad.block, q, none⟩ 1, ?_, fun a => ?_, fun k hk => ?_, ?_, ?_, ?_, ?_⟩
        · simp [markStringish, shape, freeze, Sem.run, hs]
        · unfold World.freeze World.cell?
          rw [if_neg (by decide)]
          simp only [Array.getElem?_modify]
          by_cases hk : ad.block = a.block
          · rw [if_pos hk]
            cases w.heap[a.block]? with
            | none => rfl
            | some ob => cases ob <;> rfl
          · rw [if_neg hk]
        · unfold World.freeze
          rw [if_neg (by decide)]
          simp only [Array.getElem?_modify]
          rw [if_neg (by rw [had]; exact Ne.symm hk)]
        · unfold World.freeze
          rw [if_neg (by decide)]
          simp
        · unfold World.freeze; rw [if_neg (by decide)]
        · unfold World.freeze; rw [if_neg (by decide)]
        · unfold World.freeze; rw [if_neg (by decide)]
    obtain ⟨k1, k2⟩ := h.write (y := .cells true l) hi hg rfl rfl hoth hsz ho ht hp ⟨hb.1, fun j x hx => by rw [hcell]; exact hb.2.1 j x hx, fun e => by cases e⟩
    exact ⟨_, w', ι, by rw [hconv]; simp [hw'], hval, k1, k2⟩
  have hx' := hx
  cases hx with
  | sl _ _ _ c' r d z hi => exact fin r d z _ _ _ hi rfl hx'
  | slu _ _ _ c' r d z e' hi hcap hz => exact fin r d z _ _ _ hi rfl hx'
  | slv => omega
end Go.Ev
