/- The plain form of far. -/
import Derived.Test.YtnelblndidciiaaHc
import Derived.Test.YtnelblndidciiaaA63
namespace Go.Proofs.Ytnelblndidciiaa.P
open Go.RowKit Go.Proofs.YtnelblndidciiaaW.PrintWords Go.Proofs.YtnelblndidciiaaW.PrintLast Go.Proofs.YtnelblndidciiaaW.PrintMore
set_option linter.unusedVariables false
set_option linter.unusedSimpArgs false

/-! ### far, plain -/
def farI (n : Int) : Bool := decide (n > 1000000000) || decide (n < -1000000000)
theorem far_l0 (l : List Int) (hl : l.length ≤ 9223372036854775807) : ∀ d i : Nat, i + d = l.length →
    Ev (fun k => bits_far.l0 k l (l.length : Int) (i : Int)) ((l.drop i).any farI) := by
  intro d
  induction d with
  | zero =>
    intro i h
    rw [List.drop_of_length_le (by omega), List.any_nil]
    exact Ev.step (f := fun _ => some false) (fun k => by simp only [bits_far.l0]; rw [if_neg (by omega)]) (Ev.now _)
  | succ d ih =>
    intro i h
    have hi : i < l.length := by omega
    have e : ∀ k, bits_far.l0 (k + 1) l (l.length : Int) (i : Int) = if farI (l.getD i 0) = true then some true else bits_far.l0 k l (l.length : Int) ((i + 1 : Nat) : Int) := fun k => by
      simp only [bits_far.l0]
      rw [if_pos (by omega), if_pos (by omega), if_pos (by omega), rdI, wrapN hi hl]
      by_cases h1 : l.getD i 0 > 1000000000
      · rw [if_pos h1, if_pos (by simp only [farI, decide_eq_true h1, Bool.true_or])]
      · by_cases h2 : l.getD i 0 < -1000000000
        · rw [if_neg h1, if_pos h2, if_pos (by simp only [farI, decide_eq_true h2, Bool.or_true])]
        · rw [if_neg h1, if_neg h2, if_neg (by simp only [farI, decide_eq_false h1, decide_eq_false h2]; decide)]
    rw [drop_getD 0 hi, List.any_cons]
    cases hc : farI (l.getD i 0) with
    | true =>
      rw [Bool.true_or]
      exact Ev.step (f := fun _ => some true) (fun k => by rw [e, if_pos hc]) (Ev.now _)
    | false =>
      rw [Bool.false_or]
      exact Ev.step (fun k => by rw [e, if_neg (by rw [hc]; decide)]) (ih (i + 1) (by omega))
def bits_farT.f (l0 : List Int) : Option Bool := some (l0.any farI)
theorem bits_farT.calls (A0 : Option Addr) (c0 : Nat) (l0 : List Int) (r : Bool) (w : World) (hr0 : Kd.C (Kd.int .i64) w A0 l0.length l0) (hc0 : l0.length ≤ c0) (h : bits_farT.f l0 = some r) :
    Calls Try.prog 63 #[.slice A0 l0.length c0] w fun e w' => e = .returned (.bool r) ∧ Drawn0 w w' := by
  obtain rfl : l0.any farI = r := by simpa [bits_farT.f] using h
  obtain ⟨k, hk⟩ := (far_l0 l0 hr0.2.1 l0.length 0 (by omega)).rounds
  exact bits_far.calls k A0 c0 l0 _ w hr0 hc0 hk
end Go.Proofs.Ytnelblndidciiaa.P
