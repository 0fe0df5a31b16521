/- Functions and contracts, written by this session's program out of the translation. Not trusted: Lean checks it. -/
import Derived.Test.YtnelblndidciiaaK
import Derived.Test.YtnelblndidciiaaWApart
import Derived.Test.YtnelblndidciiaaWKept
import Derived.Test.YtnelblndidciiaaWRepsOne
import Derived.Test.YtnelblndidciiaaWShare
import Derived.Test.YtnelblndidciiaaWWords
namespace Go.Proofs.Ytnelblndidciiaa.P
open Go.RowKit Go.Proofs.YtnelblndidciiaaW.PrintWords Go.Proofs.YtnelblndidciiaaW.PrintLast Go.Proofs.YtnelblndidciiaaW.PrintMore
attribute [local go_sem] max2_int min2_int max_two min_two max_three min_three max_four min_four   -- for this text's walks alone
set_option linter.unusedVariables false
set_option linter.unusedSimpArgs false

/-! ### ironbarkref05_Filler: function 81 -/
def ironbarkref05_Filler.f (a0 : Int) : Option (ByteArray) := if a0 = 5 then (some (⟨#[48]⟩ : ByteArray)) else (some (⟨#[32]⟩ : ByteArray))
set_option maxHeartbeats 8000000 in
set_option maxRecDepth 100000 in
theorem ironbarkref05_Filler.calls (a0 : Int) (r : ByteArray) (w : World) (h : ironbarkref05_Filler.f a0 = some r) :
    Calls Try.prog 81 #[.int .i64 a0] w fun e w' => e = .returned (.string r) ∧ Drawn0 w w' := by
  have H : (if a0 = 5 then (some (⟨#[48]⟩ : ByteArray)) else (some (⟨#[32]⟩ : ByteArray))) = some r := h
  clear h
  by_cases c2 : a0 = 5
  · rw [if_pos c2] at H
    have c2b0 : (a0 == 5) = true := beq_iff_eq.mpr c2
    have c2b1 : (a0 != 5) = false := bne_eq_false_iff_eq.mpr c2
    clear c2
    obtain rfl := Option.some.inj H
    go_enter Try.func81, Try.ntmps81
    go_wp2
    go_ret
    exact ⟨by first | rfl | (simp; done) | (simp [*]; done), by repeat (first | exact Drawn0.refl _ | apply Drawn0.step)⟩
  · rw [if_neg c2] at H
    have c2b0 : (a0 == 5) = false := beq_eq_false_iff_ne.mpr c2
    have c2b1 : (a0 != 5) = true := bne_iff_ne.mpr c2
    obtain rfl := Option.some.inj H
    go_enter Try.func81, Try.ntmps81
    go_wp2
    go_ret
    exact ⟨by first | rfl | (simp; done) | (simp [*]; done), by repeat (first | exact Drawn0.refl _ | apply Drawn0.step)⟩

end Go.Proofs.Ytnelblndidciiaa.P
