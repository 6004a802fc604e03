/- The word for 'value', and the environment with it. -/
import Derived.Test.YtmbpojfjpiahiaaGreatDoorEvRow
import Derived.Test.YtmbpojfjpiahiaaGreatDoorEvLd
namespace Go.Ev
set_option maxRecDepth 100000
open Go.Proofs Go.Proofs.YtmbpojfjpiahiaaGreatDoor Go.RowKit
variable {σ : Nat → IntKind × Int}
noncomputable def avAt (j : Nat) (v : AV) : Bool :=
  match v with
  | .at i _ => Nat.beq i j
  | _ => false
noncomputable def isAt (j : Nat) (r : CR) : Bool := CR.rec (motive := fun _ => Bool) (fun v _ => avAt j v) (fun _ _ => false) false r
theorem isAt_inv {j : Nat} {r : CR} (h : isAt j r = true) : ∃ tb H, r = .ret (.at j tb) H := by
  cases r with
  | no => cases h
  | pan v H => cases h
  | ret v H =>
    replace h : avAt j v = true := h
    unfold avAt at h
    split at h
    · rename_i i tb; exact ⟨tb, H, by rw [Nat.eq_of_beq_eq_true h]⟩
    · cases h
theorem at_of {E : Env} (hgl : E.gl = env.gl) {f nl n j : Nat} {args : List AV} (h : isAt j (evC E nl n f args H0) = true) {W : World} (hE : CallOk Tryz.prog E W.heap.size W (evC E nl n)) (hW : AsciiOk W) {cargs : List Value} (ha : LRel (injS σ) args cargs) :
    Entered Tryz.prog f ∧ Calls Tryz.prog f cargs.toArray W fun e W' => e = .returned (.int (σ j).1 (σ j).2) ∧ Below W.heap.size W W' := by
  obtain ⟨tb, H', hr⟩ := isAt_inv h
  obtain ⟨h1, hc⟩ := hE f args H0 _ rfl (by rw [hr]; intro e; cases e) (injS σ) W cargs (start hgl hW) ha
  refine ⟨h1, Calls.mono hc fun e W' he => ?_⟩
  rw [hr] at he
  cases e with
  | returned c =>
    obtain ⟨v, H2, ι', e1, e2, e3, e4⟩ := he
    cases e1
    obtain ⟨_, rfl⟩ := at_rel e2
    have hs : ι'.s = σ := e4.le.s
    rw [hs]
    exact ⟨rfl, e3.below⟩
  | panicked ch =>
    obtain ⟨v, H2, ι', c, e1, _⟩ := he
    cases e1
  | outgrown => exact he.elim

noncomputable def word2 : Nat → Option (List AV → Hp → Option (AV × Hp)) := word1
theorem word2_ok {E : Env} (hgl : E.gl = env.gl) {W : World} (hW : AsciiOk W) {f : Nat} {g : List AV → Hp → Option (AV × Hp)} (h1 : word2 f = some g) : CallOk Tryz.prog E W.heap.size W fun f' args H => if f' = f then sumK (g args H) else .no := word1_ok hgl hW h1
end Go.Ev
