/- Of which operation a compiled form comes. -/
import Derived.Test.YtmjccopjophgjaaGreatDoorEvOpK
namespace Go.Ev
variable {P : Program} {E : Env} {lk : Look}

def K.pureK : K → Bool
  | .p1 _ _ => true
  | .p2 _ _ _ => true
  | .p3 _ _ _ _ => true
  | .pn _ _ => true
  | _ => false
inductive KInv (E : Env) (lk : Look) : Op → K → Prop
  | pur (op : Op) (q : K) (h : q.pureK = true) : KInv E lk op q
  | load (t n : Nat) (g : Bool) (x : Operand) (y : Opd) (h1 : E.isAgg t = some g) (h2 : E.size t = some n) (h3 : E.opd lk x = some y) : KInv E lk (.load t x) (.r1 (cnd g (ldn n) ld1) y)
  | alloc (t : Nat) (z : List AV) (h : E.zcells t = some z) : KInv E lk (.alloc t) (.al (fun _ => some (.cells false z, .ptr)) [])
  | box (t : Nat) (x : Operand) (y : Opd) (h : E.opd lk x = some y) : KInv E lk (.box t x) (.al boxF [y])
  | bsl (t n e s : Nat) (z : List AV) (ps : Array (Nat × Operand)) (xs : List Opd) (h1 : E.und t = some (.slice e)) (h2 : E.size e = some s) (h3 : E.zcells e = some z) (h4 : E.opds lk (ps.toList.map (·.2)) = some xs)
      (h5 : z.length = s) (h6 : 1 ≤ s) (h7 : n * s ≤ 16777216) : KInv E lk (.buildSlice t n ps) (.al (bslF (placesA s ps.toList) z n) xs)
  | mks (t e : Nat) (l c : Operand) (i : TypeInfo) (z : List AV) (xs : List Opd) (h1 : E.und t = some (.slice e)) (h2 : E.info e = some i) (h3 : E.zcells e = some z) (h4 : E.opds lk [l, c] = some xs)
      (h5 : z.length = i.size) (h6 : i.bytes ≤ 100000) : KInv E lk (.makeSlice t l c) (.al (mksF i.size z) xs)
  | store (t n : Nat) (x y : Operand) (u v : Opd) (h1 : E.size t = some n) (h2 : E.opd lk x = some u) (h3 : E.opd lk y = some v) : KInv E lk (.store t x y) (.w2 (st n) u v)
  | app (s x : Operand) (st xt e : Nat) (dx : TypeDesc) (i : TypeInfo) (z : List AV) (u v : Opd) (h1 : E.und st = some (.slice e)) (h2 : E.und xt = some dx) (h3 : strOrSl dx = true) (h4 : E.info e = some i) (hz : E.zcells e = some z) (hz2 : z.length = i.size) (h5 : 1 ≤ i.size) (h6 : i.bytes ≤ 100000)
      (h7 : E.opd lk s = some u) (h8 : E.opd lk x = some v) : KInv E lk (.call { callee := .builtin .append, args := #[s, x], argTypes := #[st, xt] }) (.w2 (apd i.size) u v)
  | call (g : Nat) (args : Array Operand) (ts : Array TypeId) (xs : List Opd) (h : E.opds lk args.toList = some xs) : KInv E lk (.call { callee := .value (.func g), args, argTypes := ts }) (.call g xs)
  | callv (f : Operand) (args : Array Operand) (ts : Array TypeId) (xs : List Opd) (y : Opd) (h : E.opds lk args.toList = some xs) (h2 : E.opd lk f = some y) : KInv E lk (.call { callee := .value f, args, argTypes := ts }) (.callv y xs)
  | lenm (t kt et : Nat) (x : Operand) (y : Opd) (h1 : E.und t = some (.map kt et)) (h2 : E.opd lk x = some y) : KInv E lk (.call { callee := .builtin .len, args := #[x], argTypes := #[t] }) (.r1 mlF y)
  | b2s (s d e : Nat) (x : Operand) (y : Opd) (h1 : E.und d = some .string) (h2 : E.und s = some (.slice e)) (h3 : E.und e = some (.int .u8)) (h4 : E.opd lk x = some y) : KInv E lk (.convert s d x) (.r1 b2s y)
  | s2b (s d e : Nat) (i : TypeInfo) (z : List AV) (x : Operand) (y : Opd) (h1 : E.und d = some (.slice e)) (h2 : E.und s = some .string) (h3 : E.und e = some (.int .u8)) (h4 : E.zcells e = some z) (h5 : E.info e = some i) (h6 : z.length = i.size) (h7 : i.size = 1) (h8 : E.opd lk x = some y) : KInv E lk (.convert s d x) (.w2 s2b y y)
  | s2s (s e : Nat) (x : Operand) (y : Opd) (h1 : E.und s = some (.slice e)) (h3 : E.und e = some (.int .u8)) (h8 : E.opd lk x = some y) : KInv E lk (.convert s s x) (.w2 s2s y y)
  | mkm (t kt et : Nat) (r : Option Operand) (xs : List Opd) (h1 : E.und t = some (.map kt et)) (h2 : E.opds lk r.toList = some xs) : KInv E lk (.makeMap t r) (.al mkmF xs)
  | look (t kt et : Nat) (d : TypeDesc) (z : AV) (x i : Operand) (ok : Bool) (u v : Opd) (h1 : E.und t = some (.map kt et)) (h2 : undK E kt = some d) (h3 : E.zero et = some z) (h4 : E.opd lk x = some u) (h5 : E.opd lk i = some v) : KInv E lk (.lookup t x i ok) (.w2 (lkF d z ok) u v)
  | mupd (t kt et : Nat) (d : TypeDesc) (m k x : Operand) (u v y : Opd) (h1 : E.und t = some (.map kt et)) (h2 : undK E kt = some d) (h4 : E.opd lk m = some u) (h5 : E.opd lk k = some v) (h6 : E.opd lk x = some y) : KInv E lk (.mapUpdate t m k x) (.w3 (muF d) u v y)
  | mdel (t kt et : Nat) (ts : List Nat) (d : TypeDesc) (m k : Operand) (u v : Opd) (h1 : E.und t = some (.map kt et)) (h2 : undK E kt = some d) (h4 : E.opd lk m = some u) (h5 : E.opd lk k = some v) : KInv E lk (.call { callee := .builtin .delete, args := #[m, k], argTypes := (t :: ts).toArray }) (.w2 (mdF d) u v)
  | copy (t e n : Nat) (ts : List Nat) (x y : Operand) (u v : Opd) (h1 : E.und t = some (.slice e)) (h2 : E.size e = some n) (h3 : 1 ≤ n) (h4 : E.opd lk x = some u) (h5 : E.opd lk y = some v) : KInv E lk (.call { callee := .builtin .copy, args := #[x, y], argTypes := (t :: ts).toArray }) (.w2 (cpF n) u v)
  | rng (t kt et : Nat) (x : Operand) (y : Opd) (h1 : E.und t = some (.map kt et)) (h2 : E.opd lk x = some y) : KInv E lk (.range t x) (.w2 rgF y y)
  | nxt (x : Operand) (y : Opd) (h2 : E.opd lk x = some y) : KInv E lk (.next x false) (.w2 nxF y y)
  | rcv (args : Array Operand) (ts : Array TypeId) : KInv E lk (.call { callee := .builtin .recover, args, argTypes := ts }) .rcv
  | dfr (f : Operand) (args : Array Operand) (ts : Array TypeId) (xs : List Opd) (y : Opd) (h : E.opds lk args.toList = some xs) (h2 : E.opd lk f = some y) : KInv E lk (.defer { callee := .value f, args, argTypes := ts }) (.dfr y xs)
  | pan (x : Operand) (y : Opd) (h : E.opd lk x = some y) : KInv E lk (.panic x) (.pan y)
  | mkc (t e : Nat) (dir : ChanDir) (i : TypeInfo) (x : Operand) (y : Opd) (h1 : E.und t = some (.chan dir e)) (h2 : E.info e = some i) (h3 : E.opd lk x = some y) : KInv E lk (.makeChan t x) (.al mkcF [y])
  | cls (x : Operand) (y : Opd) (ts : Array TypeId) (h : E.opd lk x = some y) : KInv E lk (.call { callee := .builtin .close, args := #[x], argTypes := ts }) (.w2 clF y y)
  | sel (c : SelectCase) (z : AV) (y : Opd) (h1 : c.send = none) (h2 : E.zero c.elem = some z) (h3 : E.opd lk c.chan = some y) : KInv E lk (.select #[c] false) (.sel z y)

theorem sliceElem_inv {d : TypeDesc} {e : Nat} (h : sliceElem d = some e) : d = .slice e := by
  unfold sliceElem at h
  split at h
  · cases h; rfl
  · cases h

theorem mapT_inv {t : Nat} {p : TypeDesc × Nat} (h : mapT E t = some p) : ∃ kt, E.und t = some (.map kt p.2) ∧ undK E kt = some p.1 := by
  unfold mapT at h
  obtain ⟨d, h1, h⟩ := opt_eq_some h
  split at h
  · obtain ⟨q, h2, h⟩ := opt_eq_some h
    cases h
    exact ⟨_, h1, h2⟩
  · cases h
theorem isU8_inv {e : Nat} (h : isU8 E e = true) : E.und e = some (.int .u8) := by
  unfold isU8 at h
  split at h
  · assumption
  · cases h
theorem cK_inv {op : Op} {q : K} (h : cK E lk op = some q) : KInv E lk op q := by
  cases op with
  | move x => obtain ⟨y, h1, h2⟩ := K1_inv h; cases h2; exact .pur _ _ rfl
  | assign x => obtain ⟨y, h1, h2⟩ := K1_inv h; cases h2; exact .pur _ _ rfl
  | pick c x y => obtain ⟨u, h1, h2⟩ := K1_inv h; obtain ⟨p, r, h3, h4, h5⟩ := K2_inv h2; cases h5; exact .pur _ _ rfl
  | alloc t => obtain ⟨z, h1, h2⟩ := opt_eq_some h; cases h2; exact .alloc t z h1
  | box t x => obtain ⟨y, h1, h2⟩ := K1_inv h; cases h2; exact .box t x y h1
  | build t ps =>
    obtain ⟨z, h1, h⟩ := opt_eq_some h
    obtain ⟨d, h2, h⟩ := opt_eq_some h
    obtain ⟨xs, h3, h⟩ := opt_eq_some h
    obtain ⟨pl, h4, h⟩ := opt_eq_some h
    cases h; exact .pur _ _ rfl
  | buildSlice t n ps =>
    replace h : cSlice E lk t n ps.toList = some q := h
    obtain ⟨d, h1, h⟩ := opt_eq_some h
    obtain ⟨e, h2, h⟩ := opt_eq_some h
    obtain ⟨s, h3, h⟩ := opt_eq_some h
    obtain ⟨z, h4, h⟩ := opt_eq_some h
    obtain ⟨xs, h5, h⟩ := opt_eq_some h
    obtain ⟨h6, h⟩ := cnd_some h
    cases h
    have := sliceElem_inv h2; subst this
    simp only [iand_eq, Bool.and_eq_true, len_eq] at h6
    exact .bsl t n e s z ps xs h1 h3 h4 h5 (Nat.eq_of_beq_eq_true h6.1) (Nat.le_of_ble_eq_true h6.2.1) (Nat.le_of_ble_eq_true h6.2.2)
  | insert t m k x => cases h
  | load t x =>
    obtain ⟨g, h1, h⟩ := opt_eq_some h
    obtain ⟨n, h2, h⟩ := opt_eq_some h
    obtain ⟨y, h3, h⟩ := K1_inv h
    cases h; exact .load t n g x y h1 h2 h3
  | store t x y =>
    obtain ⟨n, h1, h⟩ := opt_eq_some h
    obtain ⟨u, r, h2, h3, h⟩ := K2_inv h
    cases h; exact .store t n x y u r h1 h2 h3
  | ready g => cases h
  | waits g => cases h
  | nilCheck x => obtain ⟨y, h1, h2⟩ := K1_inv h; cases h2; exact .pur _ _ rfl
  | binOp op t x y yt =>
    replace h : cBin E lk op t x y = some q := h
    have eq : ∀ (f : Nat → AV → AV → Option AV) (g : AV → Option AV), cEq E lk t x y f g = some q → q.pureK = true := by
      intro f g hh
      obtain ⟨d, h1, hh⟩ := opt_eq_some hh
      rw [cnd_eq] at hh
      split at hh
      · obtain ⟨u, h2, hh⟩ := K1_inv hh; cases hh; rfl
      · obtain ⟨u, r, h2, h3, hh⟩ := K2_inv hh; cases hh; rfl
    by_cases hop1 : op = .eql
    · subst hop1; exact .pur _ _ (eq _ _ h)
    by_cases hop2 : op = .neq
    · subst hop2; exact .pur _ _ (eq _ _ h)
    have hb : cBin E lk op t x y = opt (avBin op) none fun f => K2 E lk x y fun a b => some (.p2 (syBin op f) a b) := by
      cases op <;> first | rfl | (exact absurd rfl hop1) | (exact absurd rfl hop2)
    rw [hb] at h
    obtain ⟨f, h1, h⟩ := opt_eq_some h
    obtain ⟨u, r, h2, h3, h⟩ := K2_inv h
    cases h; exact .pur _ _ rfl
  | unOp op t x =>
    cases op with
    | not => obtain ⟨y, h1, h2⟩ := K1_inv h; cases h2; exact .pur _ _ rfl
    | neg => obtain ⟨y, h1, h2⟩ := K1_inv h; cases h2; exact .pur _ _ rfl
    | xor => obtain ⟨y, h1, h2⟩ := K1_inv h; cases h2; exact .pur _ _ rfl
    | _ => cases h
  | convert s t x =>
    replace h : cConv E lk s t x = some q := h
    obtain ⟨d, h1, h⟩ := opt_eq_some h
    obtain ⟨e, h2, h⟩ := opt_eq_some h
    split at h
    · obtain ⟨y, h3, h⟩ := K1_inv h; cases h; exact .pur _ _ rfl
    · obtain ⟨y, h3, h⟩ := K1_inv h; cases h; exact .pur _ _ rfl
    · obtain ⟨h3, h⟩ := cnd_some h
      obtain ⟨y, h4, h⟩ := K1_inv h
      cases h; exact .b2s s t _ x y h1 h2 (isU8_inv h3) h4
    · rename_i e1 e2
      obtain ⟨h3, h'⟩ := cnd_some h
      obtain ⟨y, h4, h''⟩ := K1_inv h'
      simp only [iand_eq, Bool.and_eq_true] at h3
      have hst := Nat.eq_of_beq_eq_true h3.1
      subst hst
      cases h''; exact .s2s s _ x y h1 (isU8_inv h3.2) h4
    · obtain ⟨h3, h⟩ := cnd_some h
      obtain ⟨z, h5, h⟩ := opt_eq_some h
      obtain ⟨i, h6, h⟩ := opt_eq_some h
      obtain ⟨h7, h⟩ := cnd_some h
      obtain ⟨y, h4, h⟩ := K1_inv h
      simp only [iand_eq, Bool.and_eq_true, len_eq] at h7
      cases h; exact .s2b s t _ i z x y h1 h2 (isU8_inv h3) h5 h6 (Nat.eq_of_beq_eq_true h7.1) (Nat.eq_of_beq_eq_true h7.2) h4
    · cases h
  | sliceToArrayPointer t x => cases h
  | makeInterface t x =>
    obtain ⟨d, h1, h⟩ := opt_eq_some h
    obtain ⟨h2, h⟩ := cnd_some h
    obtain ⟨y, h3, h⟩ := K1_inv h
    cases h; exact .pur _ _ rfl
  | makeFunc f first cap => obtain ⟨xs, h1, h⟩ := opt_eq_some h; cases h; exact .pur _ _ rfl
  | makeMap t r =>
    obtain ⟨p, h1, h⟩ := opt_eq_some h
    obtain ⟨xs, h2, h⟩ := opt_eq_some h
    obtain ⟨kt, h3, h4⟩ := mapT_inv h1
    cases h; exact .mkm t kt p.2 r xs h3 h2
  | makeChan t s =>
    replace h : (opt (chE E t) none fun _ => K1 E lk s fun a => some (K.al mkcF [a])) = some q := h
    obtain ⟨e, h1, h⟩ := opt_eq_some h
    obtain ⟨y, h2, h⟩ := K1_inv h
    unfold chE at h1
    obtain ⟨d, h3, h4⟩ := opt_eq_some h1
    split at h4
    · obtain ⟨i, h5, h6⟩ := opt_eq_some h4
      cases h; exact .mkc t _ _ i s y h3 h5 h2
    · cases h4
  | makeSlice t l c =>
    replace h : cMks E lk t l c = some q := h
    obtain ⟨d, h1, h⟩ := opt_eq_some h
    obtain ⟨e, h2, h⟩ := opt_eq_some h
    obtain ⟨i, h3, h⟩ := opt_eq_some h
    obtain ⟨z, h4, h⟩ := opt_eq_some h
    obtain ⟨xs, h5, h⟩ := opt_eq_some h
    obtain ⟨h6, h⟩ := cnd_some h
    cases h
    have := sliceElem_inv h2; subst this
    simp only [iand_eq, Bool.and_eq_true, len_eq] at h6
    exact .mks t e l c i z xs h1 h3 h4 h5 (Nat.eq_of_beq_eq_true h6.1) (Nat.le_of_ble_eq_true h6.2)
  | slice t x lo hi mx =>
    replace h : cSl E lk t x lo hi mx = some q := h
    obtain ⟨d, h1, h⟩ := opt_eq_some h
    obtain ⟨f, h2, h⟩ := opt_eq_some h
    obtain ⟨s, h3, h⟩ := opt_eq_some h
    obtain ⟨l, h4, h⟩ := opt_eq_some h
    obtain ⟨hh, h5, h⟩ := opt_eq_some h
    obtain ⟨m, h6, h⟩ := opt_eq_some h
    obtain ⟨h7, h⟩ := cnd_some' h
    cases h; exact .pur _ _ rfl
  | fieldAddr s x f =>
    obtain ⟨fd, h1, h⟩ := opt_eq_some h
    obtain ⟨n, h2, h⟩ := opt_eq_some h
    obtain ⟨h3, h⟩ := cnd_some' h
    obtain ⟨y, h4, h⟩ := K1_inv h
    cases h; exact .pur _ _ rfl
  | field s x f =>
    obtain ⟨fd, h1, h⟩ := opt_eq_some h
    obtain ⟨n, h2, h⟩ := opt_eq_some h
    obtain ⟨g, h3, h⟩ := opt_eq_some h
    obtain ⟨y, h4, h⟩ := K1_inv h
    cases h; exact .pur _ _ rfl
  | indexAddr t x i =>
    obtain ⟨d, h1, h⟩ := opt_eq_some h
    unfold cIA at h
    split at h
    · obtain ⟨n, h2, h⟩ := opt_eq_some h; obtain ⟨u, r, h3, h4, h⟩ := K2_inv h; cases h; exact .pur _ _ rfl
    · obtain ⟨n, h2, h⟩ := opt_eq_some h; obtain ⟨u, r, h3, h4, h⟩ := K2_inv h; cases h; exact .pur _ _ rfl
    · cases h
  | index t x i =>
    obtain ⟨d, h1, h⟩ := opt_eq_some h
    obtain ⟨h2, h⟩ := cnd_some h
    obtain ⟨u, r, h3, h4, h⟩ := K2_inv h
    cases h; exact .pur _ _ rfl
  | lookup t x i ok =>
    obtain ⟨p, h1, h⟩ := opt_eq_some h
    obtain ⟨z, h2, h⟩ := opt_eq_some h
    obtain ⟨u, v, h3, h4, h⟩ := K2_inv h
    obtain ⟨kt, h5, h6⟩ := mapT_inv h1
    cases h; exact .look t kt p.2 p.1 z x i ok u v h5 h6 h2 h3 h4
  | mapUpdate t m k x =>
    obtain ⟨p, h1, h⟩ := opt_eq_some h
    obtain ⟨u, v, h3, h4, h⟩ := K2_inv h
    obtain ⟨y, h2, h⟩ := K1_inv h
    obtain ⟨kt, h5, h6⟩ := mapT_inv h1
    cases h; exact .mupd t kt p.2 p.1 m k x u v y h5 h6 h3 h4 h2
  | mapEntry t m k => cases h
  | entryStore t m s x => cases h
  | range t x =>
    obtain ⟨p, h1, h⟩ := opt_eq_some h
    obtain ⟨y, h2, h⟩ := K1_inv h
    obtain ⟨kt, h5, h6⟩ := mapT_inv h1
    cases h; exact .rng t kt p.2 x y h5 h2
  | next i s =>
    obtain ⟨hs, h⟩ := cnd_some' h
    subst hs
    obtain ⟨y, h2, h⟩ := K1_inv h
    cases h; exact .nxt i y h2
  | entry i => cases h
  | typeAssert x xt t ok =>
    obtain ⟨d, h1, h⟩ := opt_eq_some h
    obtain ⟨h2, h⟩ := cnd_some h
    obtain ⟨z, h3, h⟩ := opt_eq_some h
    obtain ⟨y, h4, h⟩ := K1_inv h
    cases h; exact .pur _ _ rfl
  | extract x i => obtain ⟨y, h4, h⟩ := K1_inv h; cases h; exact .pur _ _ rfl
  | call c =>
    obtain ⟨callee, args, ats⟩ := c
    cases callee with
    | value f =>
      obtain ⟨xs, h1, h⟩ := opt_eq_some h
      cases f with
      | func g => cases h; exact .call g args ats xs h1
      | tmp t => obtain ⟨y, h2, h⟩ := opt_eq_some h; cases h; exact .callv _ args ats xs y h1 h2
      | const c => obtain ⟨y, h2, h⟩ := opt_eq_some h; cases h; exact .callv _ args ats xs y h1 h2
      | global g => obtain ⟨y, h2, h⟩ := opt_eq_some h; cases h; exact .callv _ args ats xs y h1 h2
    | invoke r m => cases h
    | builtin b =>
      replace h : cBi E lk b args.toList ats.toList = some q := h
      unfold cBi at h
      split at h
      · obtain ⟨d, h1, h⟩ := opt_eq_some h
        split at h
        · obtain ⟨y, h2, h⟩ := K1_inv h; cases h; exact .pur _ _ rfl
        · obtain ⟨y, h2, h⟩ := K1_inv h; cases h; exact .pur _ _ rfl
        · rename_i x t ea et hx0 hx1 kt et'
          obtain ⟨y, h2, h⟩ := K1_inv h
          have ea' : args = #[x] := Array.toList_inj.1 ea
          have et'' : ats = #[t] := Array.toList_inj.1 et
          subst ea'; subst et''
          cases h; exact .lenm t kt et' x y h1 h2
        · cases h
      · rename_i s x st xt ea et
        have ea' : args = #[s, x] := Array.toList_inj.1 ea
        have et' : ats = #[st, xt] := Array.toList_inj.1 et
        subst ea'; subst et'
        unfold cApp at h
        obtain ⟨d, h1, h⟩ := opt_eq_some h
        obtain ⟨e, h1', h⟩ := opt_eq_some h
        obtain ⟨dx, h2, h⟩ := opt_eq_some h
        obtain ⟨i, h3, h⟩ := opt_eq_some h
        obtain ⟨z, hz, h⟩ := opt_eq_some h
        obtain ⟨h4, h⟩ := cnd_some h
        obtain ⟨u, v, h5, h6, h⟩ := K2_inv h
        cases h
        have := sliceElem_inv h1'; subst this
        simp only [iand_eq, Bool.and_eq_true, len_eq] at h4
        exact .app s x st xt e dx i z u v h1 h2 h4.1 h3 hz (Nat.eq_of_beq_eq_true h4.2.1) (Nat.le_of_ble_eq_true h4.2.2.1) (Nat.le_of_ble_eq_true h4.2.2.2) h5 h6
      · obtain ⟨os, h1, h⟩ := opt_eq_some h; cases h; exact .pur _ _ rfl
      · obtain ⟨os, h1, h⟩ := opt_eq_some h; cases h; exact .pur _ _ rfl
      · rename_i x y t ts ea et
        have ea' : args = #[x, y] := Array.toList_inj.1 ea
        have et' : ats = (t :: ts).toArray := Array.toList_inj.1 (by rw [et])
        subst ea'; subst et'
        obtain ⟨p, h1, h⟩ := opt_eq_some h
        obtain ⟨u, v, h3, h4, h⟩ := K2_inv h
        obtain ⟨kt, h5, h6⟩ := mapT_inv h1
        cases h; exact .mdel t kt p.2 ts p.1 x y u v h5 h6 h3 h4
      · rename_i x y t ts ea et
        have ea' : args = #[x, y] := Array.toList_inj.1 ea
        have et' : ats = (t :: ts).toArray := Array.toList_inj.1 (by rw [et])
        subst ea'; subst et'
        obtain ⟨d, h1, h'⟩ := opt_eq_some h
        obtain ⟨e, h2, h''⟩ := opt_eq_some h'
        obtain ⟨n, h3, h3'⟩ := opt_eq_some h''
        obtain ⟨h4, h4'⟩ := cnd_some h3'
        obtain ⟨u, v, h5, h6, h7⟩ := K2_inv h4'
        have hd := sliceElem_inv h2
        rw [hd] at h1
        cases h7; exact .copy t e n ts x y u v h1 h3 (Nat.le_of_ble_eq_true h4) h5 h6
      · cases h; exact .rcv args ats
      · rename_i x ea
        have ea' : args = #[x] := Array.toList_inj.1 ea
        subst ea'
        obtain ⟨y, h1, h⟩ := K1_inv h
        cases h; exact .cls x y ats h1
      · cases h
  | go c => cases h
  | defer c =>
    obtain ⟨callee, args, ats⟩ := c
    cases callee with
    | value f =>
      obtain ⟨xs, h1, h⟩ := opt_eq_some h
      obtain ⟨y, h2, h⟩ := opt_eq_some h
      cases h; exact .dfr f args ats xs y h1 h2
    | invoke r m => cases h
    | builtin b => cases h
  | panic x => obtain ⟨y, h4, h⟩ := K1_inv h; cases h; exact .pan x y h4
  | send c x => cases h
  | recv t c ok => cases h
  | select cs b =>
    replace h : cnd b none (opt (sel1 cs.toList) none fun p => opt (E.zero p.2) none fun z => K1 E lk p.1 fun a => some (K.sel z a)) = some q := h
    obtain ⟨hb, g1⟩ := cnd_some' h
    obtain ⟨p, h1, g2⟩ := opt_eq_some g1
    obtain ⟨z, h2, g3⟩ := opt_eq_some g2
    obtain ⟨y, h3, g4⟩ := K1_inv g3
    clear h g1 g2 g3
    unfold sel1 at h1
    split at h1
    · rename_i c ec
      have ec' : cs = #[c] := Array.toList_inj.1 ec
      subst ec'
      cases hs : c.send with
      | some x => rw [hs] at h1; cases h1
      | none =>
        rw [hs] at h1
        cases h1
        subst hb
        cases g4; exact .sel c z y hs h2 h3
    · cases h1
end Go.Ev
