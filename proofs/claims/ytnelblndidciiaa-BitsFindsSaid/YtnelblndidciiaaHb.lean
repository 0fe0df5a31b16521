/- Contract of bits.bitwise. -/
import Derived.Test.YtnelblndidciiaaHa
namespace Go.Proofs.Ytnelblndidciiaa.P
open Go.RowKit Go.Proofs.YtnelblndidciiaaW.PrintWords Go.Proofs.YtnelblndidciiaaW.PrintLast Go.Proofs.YtnelblndidciiaaW.PrintMore
set_option linter.unusedVariables false
def bits_bitwise.f (a0_0 a0_1 a0_2 : Int) (a0_3 : ByteArray) : Option Bool := some (a0_0 == 5)
theorem ta5 (w : World) : (Instr.typeAssert (.iface 68 (.agg #[])) 82 68 true).run Try.prog w = .ok (.tuple #[.agg #[], .bool true]) w := by kernel_rfl
theorem ta4 (w : World) : (Instr.typeAssert (.iface 106 (.agg #[])) 82 68 true).run Try.prog w = .ok (.tuple #[.agg #[], .bool false]) w := by kernel_rfl
theorem ta0 (w : World) : (Instr.typeAssert .nilIface 82 68 true).run Try.prog w = .ok (.tuple #[.agg #[], .bool false]) w := by kernel_rfl
theorem bits_bitwise.calls (a0_0 a0_1 a0_2 : Int) (a0_3 : ByteArray) (r : Bool) (w : World) (h : bits_bitwise.f a0_0 a0_1 a0_2 a0_3 = some r) :
    Calls Try.prog 91 #[.agg #[.int .i64 a0_0, .int .i64 a0_1, .int .i64 a0_2, .string a0_3]] w fun e w' => e = .returned (.bool r) ∧ Below w.heap.size w w' := by
  obtain rfl : (a0_0 == 5) = r := by simpa [bits_bitwise.f] using h
  clear h
  have t5 := ta5
  have t4 := ta4
  have t0 := ta0
  by_cases h5 : a0_0 = 5
  · subst h5
    go_enter Try.func91, Try.ntmps91
    go_wp2_with (go_at_call 84; refine (of_5 _).mono ?_; rintro e w' ⟨rfl, rfl⟩)
    go_ret
    exact ⟨rfl, (Below.refl _ _).alloc (Nat.le_refl _) _⟩
  · by_cases h4 : a0_0 = 4
    · subst h4
      go_enter Try.func91, Try.ntmps91
      go_wp2_with (go_at_call 84; refine (of_4 _).mono ?_; rintro e w' ⟨rfl, rfl⟩)
      go_ret
      exact ⟨rfl, (Below.refl _ _).alloc (Nat.le_refl _) _⟩
    · have e5 : (a0_0 == 5) = false := beq_eq_false_iff_ne.2 h5
      rw [e5]
      go_enter Try.func91, Try.ntmps91
      go_wp2_with (go_at_call 84; refine (of_no _ h4 h5 _).mono ?_; rintro e w' ⟨rfl, rfl⟩)
      go_ret
      exact ⟨rfl, (Below.refl _ _).alloc (Nat.le_refl _) _⟩
end Go.Proofs.Ytnelblndidciiaa.P
