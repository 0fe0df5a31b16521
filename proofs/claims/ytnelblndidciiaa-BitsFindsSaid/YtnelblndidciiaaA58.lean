/- Functions and contracts, written by this session's program out of the translation. Not trusted: Lean checks it. -/
import Derived.Test.YtnelblndidciiaaK
import Derived.Test.YtnelblndidciiaaWApart
import Derived.Test.YtnelblndidciiaaWKept
import Derived.Test.YtnelblndidciiaaWLast
import Derived.Test.YtnelblndidciiaaWMore
import Derived.Test.YtnelblndidciiaaWRepsOne
import Derived.Test.YtnelblndidciiaaWShare
import Derived.Test.YtnelblndidciiaaWWords
import Derived.Test.YtnelblndidciiaaA81
namespace Go.Proofs.Ytnelblndidciiaa.P
open Go.RowKit Go.Proofs.YtnelblndidciiaaW.PrintWords Go.Proofs.YtnelblndidciiaaW.PrintLast Go.Proofs.YtnelblndidciiaaW.PrintMore
attribute [local go_sem] max2_int min2_int max_two min_two max_three min_three max_four min_four   -- for this text's walks alone
set_option linter.unusedVariables false
set_option linter.unusedSimpArgs false

/-! ### ironbarkref05_Filled: function 58 -/
def ironbarkref05_Filled.l0 : Nat → ByteArray → Int → Int → Option (ByteArray)
  | 0, _, _, _ => none
  | k + 1, x0, x1, x2 => if (x0.size : Int) < x2 then ((ironbarkref05_Filler.f x1).bind fun t101 => (if x0.size + t101.size ≤ 9223372036854775807 then (ironbarkref05_Filled.l0 k (x0 ++ t101) x1 x2) else (none))) else (if 0 ≤ (mx x2 0) then (if (mx x2 0) ≤ (x0.size : Int) then (some (x0.extract 0 ((mx x2 0) : Int).toNat)) else (none)) else (none))
def ironbarkref05_Filled.f (k : Nat) (a0 : ByteArray) (a1 : Int) (a2 : Int) : Option (ByteArray) := ironbarkref05_Filled.l0 k a0 a1 a2
theorem ironbarkref05_Filled.mono_l : ∀ k, (∀ y0 y1 y2, LeO (ironbarkref05_Filled.l0 k y0 y1 y2) (ironbarkref05_Filled.l0 (k + 1) y0 y1 y2))
  | 0 => fun _ _ _ r h => by simp [ironbarkref05_Filled.l0] at h
  | k + 1 => by
    have ih0 := ironbarkref05_Filled.mono_l k
    · intro y0 y1 y2
      unfold ironbarkref05_Filled.l0
      repeat' first
      | (with_reducible exact ih0 _ _ _)
      | (with_reducible exact LeO.refl _)
      | (with_reducible exact LeO.none _)
      | (with_reducible refine LeO.ite ?_ ?_)
      | (with_reducible refine LeO.bind ?_ (fun _ => ?_))
      | exact ih0 _ _ _
      | exact LeO.none _
      | refine LeO.ite ?_ ?_
      | refine LeO.bind ?_ (fun _ => ?_)
theorem ironbarkref05_Filled.mono : ∀ a0 a1 a2 k, LeO (ironbarkref05_Filled.f k a0 a1 a2) (ironbarkref05_Filled.f (k + 1) a0 a1 a2) := by
  intro a0 a1 a2 k
  have ih0 := ironbarkref05_Filled.mono_l k
  unfold ironbarkref05_Filled.f
  repeat' first
      | (with_reducible exact ih0 _ _ _)
      | (with_reducible exact LeO.refl _)
      | (with_reducible exact LeO.none _)
      | (with_reducible refine LeO.ite ?_ ?_)
      | (with_reducible refine LeO.bind ?_ (fun _ => ?_))
      | exact ih0 _ _ _
      | exact LeO.none _
      | refine LeO.ite ?_ ?_
      | refine LeO.bind ?_ (fun _ => ?_)
set_option maxHeartbeats 8000000 in
set_option maxRecDepth 100000 in
theorem ironbarkref05_Filled.calls (k : Nat) (a0 : ByteArray) (a1 : Int) (a2 : Int) (r : ByteArray) (w : World) (h : ironbarkref05_Filled.f k a0 a1 a2 = some r) :
    Calls Try.prog 58 #[.string a0, .int .i64 a1, .int .i64 a2] w fun e w' => e = .returned (.string r) ∧ Below w.heap.size w w' := by
  have HB := Aside0.mk (Below.refl w.heap.size w)
  have H : (ironbarkref05_Filled.l0 k a0 a1 a2) = some r := h
  clear h
  have H' := Aside0.mk H
  clear H
  go_enter Try.func58, Try.ntmps58
  go_wp2
  go_loopg [0] k (fun kq v0 w' => ∃ (x0_1 : ByteArray), v0 = .string x0_1 ∧ Aside0 (ironbarkref05_Filled.l0 kq x0_1 a1 a2 = some r) ∧ Aside0 (kq ≤ k) ∧ Aside0 (Below w.heap.size w w'))
  case atStart => exact ⟨(a0), (by first | rfl | (simp; done) | (generalize ByteArray.toList _ = l_; cases l_ <;> rfl) | (simp [*]; done)), H', ⟨Nat.le_refl _⟩, ⟨by repeat (first | (with_reducible first | exact HB.out | apply below_alloc | apply pw_below_drewN | apply below_drew1) | exact HB.out)⟩⟩
  case round =>
    clear H'
    try clear p2
    obtain ⟨x0_1, rfl, HA, HK1, HB⟩ := hrel
    cases gk with
    | zero => exact absurd HA.out (by simp [ironbarkref05_Filled.l0])
    | succ k1 =>
      have H := HA.out
      clear HA
      simp only [ironbarkref05_Filled.l0] at H
      by_cases c4 : (x0_1.size : Int) < a2
      · rw [if_pos c4] at H
        have c4b0 : decide ((x0_1.size : Int) < a2) = true := decide_eq_true c4
        clear c4
        replace H := Option.bind_eq_some_iff.mp H
        obtain ⟨t101, A50, H⟩ := H
        replace H : (if x0_1.size + t101.size ≤ 9223372036854775807 then (ironbarkref05_Filled.l0 k1 (x0_1 ++ t101) a1 a2) else (none)) = some r := H
        have A5 := Aside0.mk A50
        clear A50
        by_cases c6 : x0_1.size + t101.size ≤ 9223372036854775807
        · rw [if_pos c6] at H
          have c6b0 := eq_true c6
          have c6b1 : decide (x0_1.size + t101.size ≤ 9223372036854775807) = true := decide_eq_true c6
          try have c6b2 : (9223372036854775807 < x0_1.size + t101.size) = False := eq_false (Nat.not_lt.2 c6)
          have H' := Aside0.mk H
          clear H
          go_wp2_with (first | ((with_reducible refine gate_callee (f := 81) rfl ?_); refine goesL_ (some 13) rfl rfl Try.func81 (by kernel_rfl) rfl #[.int .i64 a1] rfl (by (try simp only [List.map_toArray, List.map_cons, List.map_nil]); first | done | rfl | (simp only [List.length_drop, List.length_take]; rfl)) ?_; (with_reducible refine (ironbarkref05_Filler.calls a1 t101 _ A5.out).mono ?_); rintro e w' ⟨rfl, ⟨nd, rfl⟩⟩; refine ⟨_, rfl, ?_⟩))
          go_roundg k1
          case measure => have := HK1.out; omega
          case rel => exact ⟨(x0_1 ++ t101), (by first | rfl | (simp; done) | (generalize ByteArray.toList _ = l_; cases l_ <;> rfl) | (simp [*]; done)), H', ⟨by have := HK1.out; omega⟩, ⟨by repeat (first | (with_reducible first | exact HB.out | apply below_alloc | apply pw_below_drewN | apply below_drew1) | exact HB.out)⟩⟩
        · rw [if_neg c6] at H
          exact absurd H (by simp)
      · rw [if_neg c4] at H
        have c4b0 : decide ((x0_1.size : Int) < a2) = false := decide_eq_false c4
        clear c4
        obtain ⟨ji7, hji7⟩ : ∃ j_ : Int, (mx a2 0) = j_ := ⟨_, rfl⟩
        replace H : (if 0 ≤ (ji7) then (if (ji7) ≤ (x0_1.size : Int) then (some (x0_1.extract 0 ((ji7) : Int).toNat)) else (none)) else (none)) = some r := by first | (rw [hji7] at H; exact H) | (simp only [hji7] at H ⊢; exact H)
        have hji7_ : (if a2 < 0 then 0 else a2) = ji7 := hji7
        by_cases c8 : 0 ≤ (ji7)
        · rw [if_pos c8] at H
          have c8b0 := eq_true c8
          have c8b1 : decide (0 ≤ (ji7)) = true := decide_eq_true c8
          clear c8
          by_cases c9 : (ji7) ≤ (x0_1.size : Int)
          · rw [if_pos c9] at H
            have c9b0 := eq_true c9
            have c9b1 : decide ((ji7) ≤ (x0_1.size : Int)) = true := decide_eq_true c9
            clear c9
            obtain rfl := Option.some.inj H
            go_wp2
            go_ret
            exact ⟨by first | rfl | (simp [errW_none, errW_some] <;> rfl) | (simp only [← hji7]; first | rfl | (simp [errW_none, errW_some] <;> rfl)) | (simp [*, errW_none, errW_some] <;> rfl), by repeat (first | (with_reducible first | exact HB.out | apply below_alloc | apply pw_below_drewN | apply below_drew1) | exact HB.out)⟩
          · rw [if_neg c9] at H
            exact absurd H (by simp)
        · rw [if_neg c8] at H
          exact absurd H (by simp)

end Go.Proofs.Ytnelblndidciiaa.P
