/- Functions and contracts, written by this session's program out of the translation. Not trusted: Lean checks it. -/
import Derived.Test.YtnelblndidciiaaK
import Derived.Test.YtnelblndidciiaaWApart
import Derived.Test.YtnelblndidciiaaWKept
import Derived.Test.YtnelblndidciiaaWMore
import Derived.Test.YtnelblndidciiaaWRepsOne
import Derived.Test.YtnelblndidciiaaWWords
namespace Go.Proofs.Ytnelblndidciiaa.P
open Go.RowKit Go.Proofs.YtnelblndidciiaaW.PrintWords Go.Proofs.YtnelblndidciiaaW.PrintLast Go.Proofs.YtnelblndidciiaaW.PrintMore
attribute [local go_sem] max2_int min2_int max_two min_two max_three min_three max_four min_four   -- for this text's walks alone
set_option linter.unusedVariables false
set_option linter.unusedSimpArgs false

/-! ### bits_part: function 64 -/
def bits_part.f (a0 : Int) (a1 : Int) (a2 : Int) : Option (Int × Int × Bool) := if a1 ≥ 1 then (if a2 ≥ 0 then (some (mn (wrap64 ((mx a1 1) - 1)) a0, mx (mn (wrap64 ((wrap64 (a1 + a2)) - 1)) a0) (mn (wrap64 ((mx a1 1) - 1)) a0), decide ((wrap64 ((wrap64 (a1 + a2)) - 1)) ≤ a0))) else (some (mn (wrap64 ((mx a1 1) - 1)) a0, mx (mn (wrap64 ((wrap64 (a1 + a2)) - 1)) a0) (mn (wrap64 ((mx a1 1) - 1)) a0), false))) else (some (mn (wrap64 ((mx a1 1) - 1)) a0, mx (mn (wrap64 ((wrap64 (a1 + a2)) - 1)) a0) (mn (wrap64 ((mx a1 1) - 1)) a0), false))
set_option maxHeartbeats 8000000 in
set_option maxRecDepth 100000 in
theorem bits_part.calls (a0 : Int) (a1 : Int) (a2 : Int) (r1 : Int) (r2 : Int) (r3 : Bool) (w : World) (h : bits_part.f a0 a1 a2 = some (r1, r2, r3)) :
    Calls Try.prog 64 #[.int .i64 a0, .int .i64 a1, .int .i64 a2] w fun e w' => e = .returned (.tuple #[.int .i64 r1, .int .i64 r2, .bool r3]) ∧ Below w.heap.size w w' := by
  have HB := Aside0.mk (Below.refl w.heap.size w)
  have H : (if a1 ≥ 1 then (if a2 ≥ 0 then (some (mn (wrap64 ((mx a1 1) - 1)) a0, mx (mn (wrap64 ((wrap64 (a1 + a2)) - 1)) a0) (mn (wrap64 ((mx a1 1) - 1)) a0), decide ((wrap64 ((wrap64 (a1 + a2)) - 1)) ≤ a0))) else (some (mn (wrap64 ((mx a1 1) - 1)) a0, mx (mn (wrap64 ((wrap64 (a1 + a2)) - 1)) a0) (mn (wrap64 ((mx a1 1) - 1)) a0), false))) else (some (mn (wrap64 ((mx a1 1) - 1)) a0, mx (mn (wrap64 ((wrap64 (a1 + a2)) - 1)) a0) (mn (wrap64 ((mx a1 1) - 1)) a0), false))) = some (r1, r2, r3) := h
  clear h
  obtain ⟨ji4, hji4⟩ : ∃ j_ : Int, (mx a1 1) = j_ := ⟨_, rfl⟩
  replace H : (if a1 ≥ 1 then (if a2 ≥ 0 then (some (mn (wrap64 ((ji4) - 1)) a0, mx (mn (wrap64 ((wrap64 (a1 + a2)) - 1)) a0) (mn (wrap64 ((ji4) - 1)) a0), decide ((wrap64 ((wrap64 (a1 + a2)) - 1)) ≤ a0))) else (some (mn (wrap64 ((ji4) - 1)) a0, mx (mn (wrap64 ((wrap64 (a1 + a2)) - 1)) a0) (mn (wrap64 ((ji4) - 1)) a0), false))) else (some (mn (wrap64 ((ji4) - 1)) a0, mx (mn (wrap64 ((wrap64 (a1 + a2)) - 1)) a0) (mn (wrap64 ((ji4) - 1)) a0), false))) = some (r1, r2, r3) := by first | (rw [hji4] at H; exact H) | (simp only [hji4] at H ⊢; exact H)
  (try (have hji4l : 1 ≤ ji4 := by (rw [← hji4]; unfold mx; (repeat' split) <;> omega)))
  (try (have hji4m : 0 ≤ ji4 := by omega))
  have hji4_ : (if a1 < 1 then 1 else a1) = ji4 := hji4
  obtain ⟨ji5, hji5⟩ : ∃ j_ : Int, (mn (wrap64 ((ji4) - 1)) a0) = j_ := ⟨_, rfl⟩
  replace H : (if a1 ≥ 1 then (if a2 ≥ 0 then (some (ji5, mx (mn (wrap64 ((wrap64 (a1 + a2)) - 1)) a0) (ji5), decide ((wrap64 ((wrap64 (a1 + a2)) - 1)) ≤ a0))) else (some (ji5, mx (mn (wrap64 ((wrap64 (a1 + a2)) - 1)) a0) (ji5), false))) else (some (ji5, mx (mn (wrap64 ((wrap64 (a1 + a2)) - 1)) a0) (ji5), false))) = some (r1, r2, r3) := by first | (rw [hji5] at H; exact H) | (simp only [hji5] at H ⊢; exact H)
  have hji5_ : (if a0 < (wrap64 ((ji4) - 1)) then a0 else (wrap64 ((ji4) - 1))) = ji5 := hji5
  obtain ⟨ji6, hji6⟩ : ∃ j_ : Int, (mn (wrap64 ((wrap64 (a1 + a2)) - 1)) a0) = j_ := ⟨_, rfl⟩
  replace H : (if a1 ≥ 1 then (if a2 ≥ 0 then (some (ji5, mx (ji6) (ji5), decide ((wrap64 ((wrap64 (a1 + a2)) - 1)) ≤ a0))) else (some (ji5, mx (ji6) (ji5), false))) else (some (ji5, mx (ji6) (ji5), false))) = some (r1, r2, r3) := by first | (rw [hji6] at H; exact H) | (simp only [hji6] at H ⊢; exact H)
  have hji6_ : (if a0 < (wrap64 ((wrap64 (a1 + a2)) - 1)) then a0 else (wrap64 ((wrap64 (a1 + a2)) - 1))) = ji6 := hji6
  obtain ⟨ji7, hji7⟩ : ∃ j_ : Int, (mx (ji6) (ji5)) = j_ := ⟨_, rfl⟩
  replace H : (if a1 ≥ 1 then (if a2 ≥ 0 then (some (ji5, ji7, decide ((wrap64 ((wrap64 (a1 + a2)) - 1)) ≤ a0))) else (some (ji5, ji7, false))) else (some (ji5, ji7, false))) = some (r1, r2, r3) := by first | (rw [hji7] at H; exact H) | (simp only [hji7] at H ⊢; exact H)
  have hji7_ : (if (ji6) < (ji5) then (ji5) else (ji6)) = ji7 := hji7
  by_cases c8 : a1 ≥ 1
  · rw [if_pos c8] at H
    have c8b0 : decide (1 ≤ a1) = true := decide_eq_true c8
    clear c8
    by_cases c9 : a2 ≥ 0
    · rw [if_pos c9] at H
      have c9b0 : decide (0 ≤ a2) = true := decide_eq_true c9
      clear c9
      simp only [Option.some.injEq, Prod.mk.injEq] at H
      obtain ⟨rfl, rfl, rfl⟩ := H
      go_enter Try.func64, Try.ntmps64
      go_wp2
      go_ret3
      exact ⟨by first | rfl | (simp [errW_none, errW_some] <;> rfl) | (simp only [← hji4, ← hji5, ← hji6, ← hji7]; first | rfl | (simp [errW_none, errW_some] <;> rfl)) | (simp [*, errW_none, errW_some] <;> rfl), by repeat (first | (with_reducible first | exact HB.out | apply below_alloc | apply pw_below_drewN | apply below_drew1) | exact HB.out)⟩
    · rw [if_neg c9] at H
      have c9b0 : decide (0 ≤ a2) = false := decide_eq_false c9
      clear c9
      simp only [Option.some.injEq, Prod.mk.injEq] at H
      obtain ⟨rfl, rfl, rfl⟩ := H
      go_enter Try.func64, Try.ntmps64
      go_wp2
      go_ret3
      exact ⟨by first | rfl | (simp [errW_none, errW_some] <;> rfl) | (simp only [← hji4, ← hji5, ← hji6, ← hji7]; first | rfl | (simp [errW_none, errW_some] <;> rfl)) | (simp [*, errW_none, errW_some] <;> rfl), by repeat (first | (with_reducible first | exact HB.out | apply below_alloc | apply pw_below_drewN | apply below_drew1) | exact HB.out)⟩
  · rw [if_neg c8] at H
    have c8b0 : decide (1 ≤ a1) = false := decide_eq_false c8
    clear c8
    simp only [Option.some.injEq, Prod.mk.injEq] at H
    obtain ⟨rfl, rfl, rfl⟩ := H
    go_enter Try.func64, Try.ntmps64
    go_wp2
    go_ret3
    exact ⟨by first | rfl | (simp [errW_none, errW_some] <;> rfl) | (simp only [← hji4, ← hji5, ← hji6, ← hji7]; first | rfl | (simp [errW_none, errW_some] <;> rfl)) | (simp [*, errW_none, errW_some] <;> rfl), by repeat (first | (with_reducible first | exact HB.out | apply below_alloc | apply pw_below_drewN | apply below_drew1) | exact HB.out)⟩

end Go.Proofs.Ytnelblndidciiaa.P
