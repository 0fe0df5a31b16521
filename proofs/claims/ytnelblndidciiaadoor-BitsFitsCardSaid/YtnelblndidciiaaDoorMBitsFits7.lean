/- Part 7 of the proof of the law BitsFits: functions, contracts and plain laws; merged by this session's program. -/
import Derived.IntWalk
import Derived.Test.YtnelblndidciiaaDoorMBitsFits1
import Derived.Test.YtnelblndidciiaaDoorMBitsFits2
import Derived.Test.YtnelblndidciiaaDoorMBitsFits3
import Derived.Test.YtnelblndidciiaaDoorMBitsFits4
import Derived.Test.YtnelblndidciiaaDoorMBitsFits5
import Derived.Test.YtnelblndidciiaaDoorMBitsFits6
-- from the text A9
namespace Go.Proofs.YtnelblndidciiaaDoor.P
open Go.RowKit Go.Proofs.YtnelblndidciiaaDoorW.PrintWords Go.Proofs.YtnelblndidciiaaDoorW.PrintLast Go.Proofs.YtnelblndidciiaaDoorW.PrintMore
attribute [local go_sem] max2_int min2_int max_two min_two max_three min_three max_four min_four   -- for this text's walks alone
set_option linter.unusedVariables false
set_option linter.unusedSimpArgs false
mutual
def ironbarkref05_Valid.j0 : Nat → Bool → Int → Int → Int → ByteArray → Option (Bool)
  | 0, _, _, _, _, _ => none
  | k + 1, x27, x102000, x102001, x102002, x102003 => if x27 = true then (some false) else (ironbarkref05_Valid.l0 k 0 x102000 x102001 x102002 x102003)
def ironbarkref05_Valid.l0 : Nat → Int → Int → Int → Int → ByteArray → Option (Bool)
  | 0, _, _, _, _, _ => none
  | k + 1, x3, x102000, x102001, x102002, x102003 => if x3 < (x102003.size : Int) then (if x102000 = 5 then (if 0 ≤ x3 then (if (bt x102003 x3) = 48 then (if (bt x102003 x3) < 32 then (some false) else (if (bt x102003 x3) > 126 then (some false) else (ironbarkref05_Valid.l0 k (wrap64 (x3 + 1)) x102000 x102001 x102002 x102003))) else (if (bt x102003 x3) = 49 then (if (bt x102003 x3) < 32 then (some false) else (if (bt x102003 x3) > 126 then (some false) else (ironbarkref05_Valid.l0 k (wrap64 (x3 + 1)) x102000 x102001 x102002 x102003))) else (some false))) else (none)) else (if 0 ≤ x3 then (if (bt x102003 x3) < 32 then (some false) else (if (bt x102003 x3) > 126 then (some false) else (ironbarkref05_Valid.l0 k (wrap64 (x3 + 1)) x102000 x102001 x102002 x102003))) else (none))) else (some true)
end
def ironbarkref05_Valid.f (k : Nat) (a0_0 : Int) (a0_1 : Int) (a0_2 : Int) (a0_3 : ByteArray) : Option (Bool) := if a0_1 = 0 then (if a0_2 = 0 then (if (a0_3.size : Int) > 250 then (ironbarkref05_Valid.j0 k true a0_0 a0_1 a0_2 a0_3) else (if a0_0 = 4 then (ironbarkref05_Valid.j0 k false a0_0 a0_1 a0_2 a0_3) else (ironbarkref05_Valid.j0 k (a0_0 != 5) a0_0 a0_1 a0_2 a0_3))) else (ironbarkref05_Valid.j0 k true a0_0 a0_1 a0_2 a0_3)) else (ironbarkref05_Valid.j0 k true a0_0 a0_1 a0_2 a0_3)
set_option maxHeartbeats 8000000 in
set_option maxRecDepth 100000 in
theorem ironbarkref05_Valid.calls (k : Nat) (a0_0 : Int) (a0_1 : Int) (a0_2 : Int) (a0_3 : ByteArray) (r : Bool) (w : World) (h : ironbarkref05_Valid.f k a0_0 a0_1 a0_2 a0_3 = some r) :
    Calls Tryd.prog 9 #[.agg #[.int .i64 a0_0, .int .i64 a0_1, .int .i64 a0_2, .string a0_3]] w fun e w' => e = .returned (.bool r) ∧ Below w.heap.size w w' := by
  have hu23 := Tryd.underlying23
  have HB := Aside0.mk (Below.refl w.heap.size w)
  have H : (if a0_1 = 0 then (if a0_2 = 0 then (if (a0_3.size : Int) > 250 then (ironbarkref05_Valid.j0 k true a0_0 a0_1 a0_2 a0_3) else (if a0_0 = 4 then (ironbarkref05_Valid.j0 k false a0_0 a0_1 a0_2 a0_3) else (ironbarkref05_Valid.j0 k (a0_0 != 5) a0_0 a0_1 a0_2 a0_3))) else (ironbarkref05_Valid.j0 k true a0_0 a0_1 a0_2 a0_3)) else (ironbarkref05_Valid.j0 k true a0_0 a0_1 a0_2 a0_3)) = some r := h
  clear h
  have HC2 := Aside0.mk H
  clear H
  go_enter Tryd.func9, Tryd.ntmps9
  go_upto_region 1 with (first | ((with_reducible refine gate_dst (N := 1) rfl ?_); (try (refine gate_guard (by rfl) ?_; dsimp only)); refine box_event ?hg (N := 1) ?hd (cs := #[.int .i64 a0_0, .int .i64 a0_1, .int .i64 a0_2, .string a0_3]) (t := 23) ?hr ?_; (case hd => rfl); (case hg => rfl); (case hr => first | (go_simp; done) | (go_simp; rfl)); intro gb101 hg w3 hbox hb; have n0_ := Aside0.mk (below_step (by repeat (first | (with_reducible first | exact HB.out | apply below_alloc | apply pw_below_drewN | apply below_drew1) | exact HB.out)) hb); have n1_ := Aside0.mk (hbox); have n2_ := Aside0.mk ((by rw [hg]; exact (below_size (by repeat (first | (with_reducible first | exact HB.out | apply below_alloc | apply pw_below_drewN | apply below_drew1) | exact HB.out))) : w.heap.size ≤ gb101)); have n3_ := n2_; clear HB; have HB := n0_; have BK101 := n1_; have GW101 := n2_; have GE101 := n3_; clear n0_ n1_ n2_ n3_; clear hb hbox hg))
  (try simp only [Act.put, List.setIfInBounds_toArray, List.set_cons_zero, List.set_cons_succ])
  go_cut [27] (fun v27 wc => ∃ (kq : Nat) (x27_1 : Bool), v27 = .bool x27_1 ∧ Aside0 (ironbarkref05_Valid.j0 kq x27_1 a0_0 a0_1 a0_2 a0_3 = some r) ∧ Aside0 (kq ≤ k) ∧ Aside0 (wc.heap[gb101]? = some (.cells #[.int .i64 a0_0, .int .i64 a0_1, .int .i64 a0_2, .string a0_3] 23 (0, 0))) ∧ Aside0 (Below w.heap.size w wc))
  case first =>
    have H := HC2.out
    clear HC2
    by_cases c4 : a0_1 = 0
    · rw [if_pos c4] at H
      have c4b0 : (a0_1 == 0) = true := beq_iff_eq.mpr c4
      have c4b1 : (a0_1 != 0) = false := bne_eq_false_iff_eq.mpr c4
      clear c4
      (first | rw [c4b0] | (simp only [i64_w, i32_w]; rw [c4b0]) | skip)
      by_cases c5 : a0_2 = 0
      · rw [if_pos c5] at H
        have c5b0 : (a0_2 == 0) = true := beq_iff_eq.mpr c5
        have c5b1 : (a0_2 != 0) = false := bne_eq_false_iff_eq.mpr c5
        clear c5
        by_cases c6 : (a0_3.size : Int) > 250
        · rw [if_pos c6] at H
          have c6b0 : decide (250 < (a0_3.size : Int)) = true := decide_eq_true c6
          have c6b1 : decide (250 < a0_3.size) = true := decide_eq_true (by omega)
          clear c6
          have H' := Aside0.mk H
          clear H
          obtain ⟨hcz7_0, hcz7_1, hcz7_2, hcz7_3⟩ := blk_quad BK101.out
          obtain ⟨hfz7_0, hfz7_1, hfz7_2, hfz7_3⟩ := blk_quad_free BK101.out
          go_wp2
          go_meet
          case rel => exact ⟨_, (true), (by first | rfl | (simp; done) | (generalize ByteArray.toList _ = l_; cases l_ <;> rfl) | (simp [*]; done)), H', ⟨by first | omega | exact Nat.le_refl _⟩, ⟨zk BK101.out⟩, ⟨by repeat (first | (with_reducible first | exact HB.out | apply below_alloc | apply pw_below_drewN | apply below_drew1 | refine below_set ?_ GE101.out) | exact HB.out)⟩⟩
        · rw [if_neg c6] at H
          have c6b0 : decide (250 < (a0_3.size : Int)) = false := decide_eq_false c6
          have c6b1 : decide (250 < a0_3.size) = false := decide_eq_false (by omega)
          clear c6
          by_cases c8 : a0_0 = 4
          · rw [if_pos c8] at H
            have c8b0 : (a0_0 == 4) = true := beq_iff_eq.mpr c8
            have c8b1 : (a0_0 != 4) = false := bne_eq_false_iff_eq.mpr c8
            clear c8
            have H' := Aside0.mk H
            clear H
            obtain ⟨hcz9_0, hcz9_1, hcz9_2, hcz9_3⟩ := blk_quad BK101.out
            obtain ⟨hfz9_0, hfz9_1, hfz9_2, hfz9_3⟩ := blk_quad_free BK101.out
            go_wp2
            go_meet
            case rel => exact ⟨_, (false), (by first | rfl | (simp; done) | (generalize ByteArray.toList _ = l_; cases l_ <;> rfl) | (simp [*]; done)), H', ⟨by first | omega | exact Nat.le_refl _⟩, ⟨zk BK101.out⟩, ⟨by repeat (first | (with_reducible first | exact HB.out | apply below_alloc | apply pw_below_drewN | apply below_drew1 | refine below_set ?_ GE101.out) | exact HB.out)⟩⟩
          · rw [if_neg c8] at H
            have c8b0 : (a0_0 == 4) = false := beq_eq_false_iff_ne.mpr c8
            have c8b1 : (a0_0 != 4) = true := bne_iff_ne.mpr c8
            have H' := Aside0.mk H
            clear H
            obtain ⟨hcz10_0, hcz10_1, hcz10_2, hcz10_3⟩ := blk_quad BK101.out
            obtain ⟨hfz10_0, hfz10_1, hfz10_2, hfz10_3⟩ := blk_quad_free BK101.out
            go_wp2
            go_meet
            case rel => exact ⟨_, ((a0_0 != 5)), (by first | rfl | (simp; done) | (generalize ByteArray.toList _ = l_; cases l_ <;> rfl) | (simp [*]; done)), H', ⟨by first | omega | exact Nat.le_refl _⟩, ⟨zk BK101.out⟩, ⟨by repeat (first | (with_reducible first | exact HB.out | apply below_alloc | apply pw_below_drewN | apply below_drew1 | refine below_set ?_ GE101.out) | exact HB.out)⟩⟩
      · rw [if_neg c5] at H
        have c5b0 : (a0_2 == 0) = false := beq_eq_false_iff_ne.mpr c5
        have c5b1 : (a0_2 != 0) = true := bne_iff_ne.mpr c5
        have H' := Aside0.mk H
        clear H
        obtain ⟨hcz11_0, hcz11_1, hcz11_2, hcz11_3⟩ := blk_quad BK101.out
        obtain ⟨hfz11_0, hfz11_1, hfz11_2, hfz11_3⟩ := blk_quad_free BK101.out
        go_wp2
        go_meet
        case rel => exact ⟨_, (true), (by first | rfl | (simp; done) | (generalize ByteArray.toList _ = l_; cases l_ <;> rfl) | (simp [*]; done)), H', ⟨by first | omega | exact Nat.le_refl _⟩, ⟨zk BK101.out⟩, ⟨by repeat (first | (with_reducible first | exact HB.out | apply below_alloc | apply pw_below_drewN | apply below_drew1 | refine below_set ?_ GE101.out) | exact HB.out)⟩⟩
    · rw [if_neg c4] at H
      have c4b0 : (a0_1 == 0) = false := beq_eq_false_iff_ne.mpr c4
      have c4b1 : (a0_1 != 0) = true := bne_iff_ne.mpr c4
      (first | rw [c4b0] | (simp only [i64_w, i32_w]; rw [c4b0]) | skip)
      have H' := Aside0.mk H
      clear H
      obtain ⟨hcz12_0, hcz12_1, hcz12_2, hcz12_3⟩ := blk_quad BK101.out
      obtain ⟨hfz12_0, hfz12_1, hfz12_2, hfz12_3⟩ := blk_quad_free BK101.out
      go_wp2
      go_meet
      case rel => exact ⟨_, (true), (by first | rfl | (simp; done) | (generalize ByteArray.toList _ = l_; cases l_ <;> rfl) | (simp [*]; done)), H', ⟨by first | omega | exact Nat.le_refl _⟩, ⟨zk BK101.out⟩, ⟨by repeat (first | (with_reducible first | exact HB.out | apply below_alloc | apply pw_below_drewN | apply below_drew1 | refine below_set ?_ GE101.out) | exact HB.out)⟩⟩
  case rest =>
    clear HC2
    try clear p2
    try clear c4
    try clear c4b0
    try clear c4b1
    try clear c5
    try clear c5b0
    try clear c5b1
    try clear c6
    try clear c6b0
    try clear c6b1
    try clear c8
    try clear c8b0
    try clear c8b1
    try clear c9
    try clear hcz10_0 hcz10_1 hcz10_2 hcz10_3
    try clear hcz11_0 hcz11_1 hcz11_2 hcz11_3
    try clear hcz12_0 hcz12_1 hcz12_2 hcz12_3
    try clear hcz7_0 hcz7_1 hcz7_2 hcz7_3
    try clear hcz9_0 hcz9_1 hcz9_2 hcz9_3
    try clear hfz10_0 hfz10_1 hfz10_2 hfz10_3
    try clear hfz11_0 hfz11_1 hfz11_2 hfz11_3
    try clear hfz12_0 hfz12_1 hfz12_2 hfz12_3
    try clear hfz7_0 hfz7_1 hfz7_2 hfz7_3
    try clear hfz9_0 hfz9_1 hfz9_2 hfz9_3
    obtain ⟨kq, x27_1, rfl, HA, HJ1, BK101, HB⟩ := hcut
    cases kq with
    | zero => exact absurd HA.out (by simp [ironbarkref05_Valid.j0])
    | succ kj1 =>
      have H := HA.out
      clear HA
      simp only [ironbarkref05_Valid.j0] at H
      by_cases c13 : x27_1 = true
      · subst c13
        have H1 : (some false) = some r := by rw [if_pos rfl] at H; exact H
        clear H
        have H := H1
        clear H1
        obtain rfl := Option.some.inj H
        go_wp2
        go_ret
        exact ⟨by first | rfl | (simp [errW_none, errW_some] <;> rfl) | (simp [*, errW_none, errW_some] <;> rfl), by repeat (first | (with_reducible first | exact HB.out | apply below_alloc | apply pw_below_drewN | apply below_drew1 | refine below_set ?_ GE101.out) | exact HB.out)⟩
      · replace c13 := Bool.eq_false_iff.mpr c13
        subst c13
        have H1 : (ironbarkref05_Valid.l0 kj1 0 a0_0 a0_1 a0_2 a0_3) = some r := by rw [if_neg (show ¬ (false = true) by decide)] at H; exact H
        clear H
        have H := H1
        clear H1
        have H' := Aside0.mk H
        clear H
        go_wp2
        go_loopg [3] kj1 (fun kq v3 w' => ∃ (x3_2 : Int), v3 = .int .i64 x3_2 ∧ Aside0 (ironbarkref05_Valid.l0 kq x3_2 a0_0 a0_1 a0_2 a0_3 = some r) ∧ Aside0 (kq ≤ kj1) ∧ Aside0 (w'.heap[gb101]? = some (.cells #[.int .i64 a0_0, .int .i64 a0_1, .int .i64 a0_2, .string a0_3] 23 (0, 0))) ∧ Aside0 (Below w.heap.size w w'))
        case atStart => exact ⟨(0), (by first | rfl | (simp; done) | (generalize ByteArray.toList _ = l_; cases l_ <;> rfl) | (simp [*]; done)), H', ⟨Nat.le_refl _⟩, ⟨zk BK101.out⟩, ⟨by repeat (first | (with_reducible first | exact HB.out | apply below_alloc | apply pw_below_drewN | apply below_drew1 | refine below_set ?_ GE101.out) | exact HB.out)⟩⟩
        case round =>
          clear H'
          try clear c1
          try clear p2
          try clear c4
          try clear c4b0
          try clear c4b1
          try clear c5
          try clear c5b0
          try clear c5b1
          try clear c6
          try clear c6b0
          try clear c6b1
          try clear c8
          try clear c8b0
          try clear c8b1
          try clear c9
          try clear c13
          try clear hcz10_0 hcz10_1 hcz10_2 hcz10_3
          try clear hcz11_0 hcz11_1 hcz11_2 hcz11_3
          try clear hcz12_0 hcz12_1 hcz12_2 hcz12_3
          try clear hcz7_0 hcz7_1 hcz7_2 hcz7_3
          try clear hcz9_0 hcz9_1 hcz9_2 hcz9_3
          try clear hfz10_0 hfz10_1 hfz10_2 hfz10_3
          try clear hfz11_0 hfz11_1 hfz11_2 hfz11_3
          try clear hfz12_0 hfz12_1 hfz12_2 hfz12_3
          try clear hfz7_0 hfz7_1 hfz7_2 hfz7_3
          try clear hfz9_0 hfz9_1 hfz9_2 hfz9_3
          try clear p2
          obtain ⟨x3_2, rfl, HA, HK2, BK101, HB⟩ := hrel
          cases gk with
          | zero => exact absurd HA.out (by simp [ironbarkref05_Valid.l0])
          | succ k2 =>
            have H := HA.out
            clear HA
            simp only [ironbarkref05_Valid.l0] at H
            by_cases c14 : x3_2 < (a0_3.size : Int)
            · rw [if_pos c14] at H
              have c14b0 : decide (x3_2 < (a0_3.size : Int)) = true := decide_eq_true c14
              clear c14
              by_cases c15 : a0_0 = 5
              · rw [if_pos c15] at H
                have c15b0 : (a0_0 == 5) = true := beq_iff_eq.mpr c15
                have c15b1 : (a0_0 != 5) = false := bne_eq_false_iff_eq.mpr c15
                clear c15
                by_cases c16 : 0 ≤ x3_2
                · rw [if_pos c16] at H
                  have c16b0 : decide (0 ≤ x3_2) = true := decide_eq_true c16
                  clear c16
                  by_cases c18 : (bt a0_3 x3_2) = 48
                  · rw [if_pos c18] at H
                    have c18b0 : ((bt a0_3 x3_2) == 48) = true := beq_iff_eq.mpr c18
                    have c18b1 : ((bt a0_3 x3_2) != 48) = false := bne_eq_false_iff_eq.mpr c18
                    clear c18
                    by_cases c20 : (bt a0_3 x3_2) < 32
                    · rw [if_pos c20] at H
                      have c20b0 : decide ((bt a0_3 x3_2) < 32) = true := decide_eq_true c20
                      clear c20
                      obtain rfl := Option.some.inj H
                      obtain ⟨hcz21_0, hcz21_1, hcz21_2, hcz21_3⟩ := blk_quad BK101.out
                      obtain ⟨hfz21_0, hfz21_1, hfz21_2, hfz21_3⟩ := blk_quad_free BK101.out
                      have p17 : 0 ≤ (x3_2 : Int) := of_decide_eq_true (by first | (with_reducible assumption) | assumption)
                      have q17 : x3_2 < (a0_3.size : Int) := of_decide_eq_true (by first | (with_reducible assumption) | assumption)
                      have hx17 := bt_at a0_3 x3_2
                      replace p17 := eq_true p17
                      replace q17 := eq_true q17
                      have p19 : 0 ≤ (x3_2 : Int) := of_decide_eq_true (by first | (with_reducible assumption) | assumption)
                      have q19 : x3_2 < (a0_3.size : Int) := of_decide_eq_true (by first | (with_reducible assumption) | assumption)
                      have hx19 := bt_at a0_3 x3_2
                      replace p19 := eq_true p19
                      replace q19 := eq_true q19
                      go_wp2
                      go_ret
                      exact ⟨by first | rfl | (simp [errW_none, errW_some] <;> rfl) | (simp [*, errW_none, errW_some] <;> rfl), by repeat (first | (with_reducible first | exact HB.out | apply below_alloc | apply pw_below_drewN | apply below_drew1 | refine below_set ?_ GE101.out) | exact HB.out)⟩
                    · rw [if_neg c20] at H
                      have c20b0 : decide ((bt a0_3 x3_2) < 32) = false := decide_eq_false c20
                      clear c20
                      by_cases c23 : (bt a0_3 x3_2) > 126
                      · rw [if_pos c23] at H
                        have c23b0 : decide (126 < (bt a0_3 x3_2)) = true := decide_eq_true c23
                        clear c23
                        obtain rfl := Option.some.inj H
                        obtain ⟨hcz24_0, hcz24_1, hcz24_2, hcz24_3⟩ := blk_quad BK101.out
                        obtain ⟨hfz24_0, hfz24_1, hfz24_2, hfz24_3⟩ := blk_quad_free BK101.out
                        have p17 : 0 ≤ (x3_2 : Int) := of_decide_eq_true (by first | (with_reducible assumption) | assumption)
                        have q17 : x3_2 < (a0_3.size : Int) := of_decide_eq_true (by first | (with_reducible assumption) | assumption)
                        have hx17 := bt_at a0_3 x3_2
                        replace p17 := eq_true p17
                        replace q17 := eq_true q17
                        have p19 : 0 ≤ (x3_2 : Int) := of_decide_eq_true (by first | (with_reducible assumption) | assumption)
                        have q19 : x3_2 < (a0_3.size : Int) := of_decide_eq_true (by first | (with_reducible assumption) | assumption)
                        have hx19 := bt_at a0_3 x3_2
                        replace p19 := eq_true p19
                        replace q19 := eq_true q19
                        have p22 : 0 ≤ (x3_2 : Int) := of_decide_eq_true (by first | (with_reducible assumption) | assumption)
                        have q22 : x3_2 < (a0_3.size : Int) := of_decide_eq_true (by first | (with_reducible assumption) | assumption)
                        have hx22 := bt_at a0_3 x3_2
                        replace p22 := eq_true p22
                        replace q22 := eq_true q22
                        go_wp2
                        go_ret
                        exact ⟨by first | rfl | (simp [errW_none, errW_some] <;> rfl) | (simp [*, errW_none, errW_some] <;> rfl), by repeat (first | (with_reducible first | exact HB.out | apply below_alloc | apply pw_below_drewN | apply below_drew1 | refine below_set ?_ GE101.out) | exact HB.out)⟩
                      · rw [if_neg c23] at H
                        have c23b0 : decide (126 < (bt a0_3 x3_2)) = false := decide_eq_false c23
                        clear c23
                        have H' := Aside0.mk H
                        clear H
                        obtain ⟨hcz25_0, hcz25_1, hcz25_2, hcz25_3⟩ := blk_quad BK101.out
                        obtain ⟨hfz25_0, hfz25_1, hfz25_2, hfz25_3⟩ := blk_quad_free BK101.out
                        have p17 : 0 ≤ (x3_2 : Int) := of_decide_eq_true (by first | (with_reducible assumption) | assumption)
                        have q17 : x3_2 < (a0_3.size : Int) := of_decide_eq_true (by first | (with_reducible assumption) | assumption)
                        have hx17 := bt_at a0_3 x3_2
                        replace p17 := eq_true p17
                        replace q17 := eq_true q17
                        have p19 : 0 ≤ (x3_2 : Int) := of_decide_eq_true (by first | (with_reducible assumption) | assumption)
                        have q19 : x3_2 < (a0_3.size : Int) := of_decide_eq_true (by first | (with_reducible assumption) | assumption)
                        have hx19 := bt_at a0_3 x3_2
                        replace p19 := eq_true p19
                        replace q19 := eq_true q19
                        have p22 : 0 ≤ (x3_2 : Int) := of_decide_eq_true (by first | (with_reducible assumption) | assumption)
                        have q22 : x3_2 < (a0_3.size : Int) := of_decide_eq_true (by first | (with_reducible assumption) | assumption)
                        have hx22 := bt_at a0_3 x3_2
                        replace p22 := eq_true p22
                        replace q22 := eq_true q22
                        go_wp2
                        go_roundg k2
                        case measure => have := HJ1.out; have := HK2.out; omega
                        case rel => exact ⟨(wrap64 (x3_2 + 1)), (by first | rfl | (simp; done) | (generalize ByteArray.toList _ = l_; cases l_ <;> rfl) | (simp [*]; done)), H', ⟨by have := HJ1.out; have := HK2.out; omega⟩, ⟨zk BK101.out⟩, ⟨by repeat (first | (with_reducible first | exact HB.out | apply below_alloc | apply pw_below_drewN | apply below_drew1 | refine below_set ?_ GE101.out) | exact HB.out)⟩⟩
                  · rw [if_neg c18] at H
                    have c18b0 : ((bt a0_3 x3_2) == 48) = false := beq_eq_false_iff_ne.mpr c18
                    have c18b1 : ((bt a0_3 x3_2) != 48) = true := bne_iff_ne.mpr c18
                    by_cases c27 : (bt a0_3 x3_2) = 49
                    · rw [if_pos c27] at H
                      have c27b0 : ((bt a0_3 x3_2) == 49) = true := beq_iff_eq.mpr c27
                      have c27b1 : ((bt a0_3 x3_2) != 49) = false := bne_eq_false_iff_eq.mpr c27
                      clear c27
                      by_cases c29 : (bt a0_3 x3_2) < 32
                      · rw [if_pos c29] at H
                        have c29b0 : decide ((bt a0_3 x3_2) < 32) = true := decide_eq_true c29
                        clear c29
                        obtain rfl := Option.some.inj H
                        obtain ⟨hcz30_0, hcz30_1, hcz30_2, hcz30_3⟩ := blk_quad BK101.out
                        obtain ⟨hfz30_0, hfz30_1, hfz30_2, hfz30_3⟩ := blk_quad_free BK101.out
                        have p17 : 0 ≤ (x3_2 : Int) := of_decide_eq_true (by first | (with_reducible assumption) | assumption)
                        have q17 : x3_2 < (a0_3.size : Int) := of_decide_eq_true (by first | (with_reducible assumption) | assumption)
                        have hx17 := bt_at a0_3 x3_2
                        replace p17 := eq_true p17
                        replace q17 := eq_true q17
                        have p26 : 0 ≤ (x3_2 : Int) := of_decide_eq_true (by first | (with_reducible assumption) | assumption)
                        have q26 : x3_2 < (a0_3.size : Int) := of_decide_eq_true (by first | (with_reducible assumption) | assumption)
                        have hx26 := bt_at a0_3 x3_2
                        replace p26 := eq_true p26
                        replace q26 := eq_true q26
                        have p28 : 0 ≤ (x3_2 : Int) := of_decide_eq_true (by first | (with_reducible assumption) | assumption)
                        have q28 : x3_2 < (a0_3.size : Int) := of_decide_eq_true (by first | (with_reducible assumption) | assumption)
                        have hx28 := bt_at a0_3 x3_2
                        replace p28 := eq_true p28
                        replace q28 := eq_true q28
                        go_wp2
                        go_ret
                        exact ⟨by first | rfl | (simp [errW_none, errW_some] <;> rfl) | (simp [*, errW_none, errW_some] <;> rfl), by repeat (first | (with_reducible first | exact HB.out | apply below_alloc | apply pw_below_drewN | apply below_drew1 | refine below_set ?_ GE101.out) | exact HB.out)⟩
                      · rw [if_neg c29] at H
                        have c29b0 : decide ((bt a0_3 x3_2) < 32) = false := decide_eq_false c29
                        clear c29
                        by_cases c32 : (bt a0_3 x3_2) > 126
                        · rw [if_pos c32] at H
                          have c32b0 : decide (126 < (bt a0_3 x3_2)) = true := decide_eq_true c32
                          clear c32
                          obtain rfl := Option.some.inj H
                          obtain ⟨hcz33_0, hcz33_1, hcz33_2, hcz33_3⟩ := blk_quad BK101.out
                          obtain ⟨hfz33_0, hfz33_1, hfz33_2, hfz33_3⟩ := blk_quad_free BK101.out
                          have p17 : 0 ≤ (x3_2 : Int) := of_decide_eq_true (by first | (with_reducible assumption) | assumption)
                          have q17 : x3_2 < (a0_3.size : Int) := of_decide_eq_true (by first | (with_reducible assumption) | assumption)
                          have hx17 := bt_at a0_3 x3_2
                          replace p17 := eq_true p17
                          replace q17 := eq_true q17
                          have p26 : 0 ≤ (x3_2 : Int) := of_decide_eq_true (by first | (with_reducible assumption) | assumption)
                          have q26 : x3_2 < (a0_3.size : Int) := of_decide_eq_true (by first | (with_reducible assumption) | assumption)
                          have hx26 := bt_at a0_3 x3_2
                          replace p26 := eq_true p26
                          replace q26 := eq_true q26
                          have p28 : 0 ≤ (x3_2 : Int) := of_decide_eq_true (by first | (with_reducible assumption) | assumption)
                          have q28 : x3_2 < (a0_3.size : Int) := of_decide_eq_true (by first | (with_reducible assumption) | assumption)
                          have hx28 := bt_at a0_3 x3_2
                          replace p28 := eq_true p28
                          replace q28 := eq_true q28
                          have p31 : 0 ≤ (x3_2 : Int) := of_decide_eq_true (by first | (with_reducible assumption) | assumption)
                          have q31 : x3_2 < (a0_3.size : Int) := of_decide_eq_true (by first | (with_reducible assumption) | assumption)
                          have hx31 := bt_at a0_3 x3_2
                          replace p31 := eq_true p31
                          replace q31 := eq_true q31
                          go_wp2
                          go_ret
                          exact ⟨by first | rfl | (simp [errW_none, errW_some] <;> rfl) | (simp [*, errW_none, errW_some] <;> rfl), by repeat (first | (with_reducible first | exact HB.out | apply below_alloc | apply pw_below_drewN | apply below_drew1 | refine below_set ?_ GE101.out) | exact HB.out)⟩
                        · rw [if_neg c32] at H
                          have c32b0 : decide (126 < (bt a0_3 x3_2)) = false := decide_eq_false c32
                          clear c32
                          have H' := Aside0.mk H
                          clear H
                          obtain ⟨hcz34_0, hcz34_1, hcz34_2, hcz34_3⟩ := blk_quad BK101.out
                          obtain ⟨hfz34_0, hfz34_1, hfz34_2, hfz34_3⟩ := blk_quad_free BK101.out
                          have p17 : 0 ≤ (x3_2 : Int) := of_decide_eq_true (by first | (with_reducible assumption) | assumption)
                          have q17 : x3_2 < (a0_3.size : Int) := of_decide_eq_true (by first | (with_reducible assumption) | assumption)
                          have hx17 := bt_at a0_3 x3_2
                          replace p17 := eq_true p17
                          replace q17 := eq_true q17
                          have p26 : 0 ≤ (x3_2 : Int) := of_decide_eq_true (by first | (with_reducible assumption) | assumption)
                          have q26 : x3_2 < (a0_3.size : Int) := of_decide_eq_true (by first | (with_reducible assumption) | assumption)
                          have hx26 := bt_at a0_3 x3_2
                          replace p26 := eq_true p26
                          replace q26 := eq_true q26
                          have p28 : 0 ≤ (x3_2 : Int) := of_decide_eq_true (by first | (with_reducible assumption) | assumption)
                          have q28 : x3_2 < (a0_3.size : Int) := of_decide_eq_true (by first | (with_reducible assumption) | assumption)
                          have hx28 := bt_at a0_3 x3_2
                          replace p28 := eq_true p28
                          replace q28 := eq_true q28
                          have p31 : 0 ≤ (x3_2 : Int) := of_decide_eq_true (by first | (with_reducible assumption) | assumption)
                          have q31 : x3_2 < (a0_3.size : Int) := of_decide_eq_true (by first | (with_reducible assumption) | assumption)
                          have hx31 := bt_at a0_3 x3_2
                          replace p31 := eq_true p31
                          replace q31 := eq_true q31
                          go_wp2
                          go_roundg k2
                          case measure => have := HJ1.out; have := HK2.out; omega
                          case rel => exact ⟨(wrap64 (x3_2 + 1)), (by first | rfl | (simp; done) | (generalize ByteArray.toList _ = l_; cases l_ <;> rfl) | (simp [*]; done)), H', ⟨by have := HJ1.out; have := HK2.out; omega⟩, ⟨zk BK101.out⟩, ⟨by repeat (first | (with_reducible first | exact HB.out | apply below_alloc | apply pw_below_drewN | apply below_drew1 | refine below_set ?_ GE101.out) | exact HB.out)⟩⟩
                    · rw [if_neg c27] at H
                      have c27b0 : ((bt a0_3 x3_2) == 49) = false := beq_eq_false_iff_ne.mpr c27
                      have c27b1 : ((bt a0_3 x3_2) != 49) = true := bne_iff_ne.mpr c27
                      obtain rfl := Option.some.inj H
                      obtain ⟨hcz35_0, hcz35_1, hcz35_2, hcz35_3⟩ := blk_quad BK101.out
                      obtain ⟨hfz35_0, hfz35_1, hfz35_2, hfz35_3⟩ := blk_quad_free BK101.out
                      have p17 : 0 ≤ (x3_2 : Int) := of_decide_eq_true (by first | (with_reducible assumption) | assumption)
                      have q17 : x3_2 < (a0_3.size : Int) := of_decide_eq_true (by first | (with_reducible assumption) | assumption)
                      have hx17 := bt_at a0_3 x3_2
                      replace p17 := eq_true p17
                      replace q17 := eq_true q17
                      have p26 : 0 ≤ (x3_2 : Int) := of_decide_eq_true (by first | (with_reducible assumption) | assumption)
                      have q26 : x3_2 < (a0_3.size : Int) := of_decide_eq_true (by first | (with_reducible assumption) | assumption)
                      have hx26 := bt_at a0_3 x3_2
                      replace p26 := eq_true p26
                      replace q26 := eq_true q26
                      go_wp2
                      go_ret
                      exact ⟨by first | rfl | (simp [errW_none, errW_some] <;> rfl) | (simp [*, errW_none, errW_some] <;> rfl), by repeat (first | (with_reducible first | exact HB.out | apply below_alloc | apply pw_below_drewN | apply below_drew1 | refine below_set ?_ GE101.out) | exact HB.out)⟩
                · rw [if_neg c16] at H
                  exact absurd H (by simp)
              · rw [if_neg c15] at H
                have c15b0 : (a0_0 == 5) = false := beq_eq_false_iff_ne.mpr c15
                have c15b1 : (a0_0 != 5) = true := bne_iff_ne.mpr c15
                by_cases c36 : 0 ≤ x3_2
                · rw [if_pos c36] at H
                  have c36b0 : decide (0 ≤ x3_2) = true := decide_eq_true c36
                  clear c36
                  by_cases c38 : (bt a0_3 x3_2) < 32
                  · rw [if_pos c38] at H
                    have c38b0 : decide ((bt a0_3 x3_2) < 32) = true := decide_eq_true c38
                    clear c38
                    obtain rfl := Option.some.inj H
                    obtain ⟨hcz39_0, hcz39_1, hcz39_2, hcz39_3⟩ := blk_quad BK101.out
                    obtain ⟨hfz39_0, hfz39_1, hfz39_2, hfz39_3⟩ := blk_quad_free BK101.out
                    have p37 : 0 ≤ (x3_2 : Int) := of_decide_eq_true (by first | (with_reducible assumption) | assumption)
                    have q37 : x3_2 < (a0_3.size : Int) := of_decide_eq_true (by first | (with_reducible assumption) | assumption)
                    have hx37 := bt_at a0_3 x3_2
                    replace p37 := eq_true p37
                    replace q37 := eq_true q37
                    go_wp2
                    go_ret
                    exact ⟨by first | rfl | (simp [errW_none, errW_some] <;> rfl) | (simp [*, errW_none, errW_some] <;> rfl), by repeat (first | (with_reducible first | exact HB.out | apply below_alloc | apply pw_below_drewN | apply below_drew1 | refine below_set ?_ GE101.out) | exact HB.out)⟩
                  · rw [if_neg c38] at H
                    have c38b0 : decide ((bt a0_3 x3_2) < 32) = false := decide_eq_false c38
                    clear c38
                    by_cases c41 : (bt a0_3 x3_2) > 126
                    · rw [if_pos c41] at H
                      have c41b0 : decide (126 < (bt a0_3 x3_2)) = true := decide_eq_true c41
                      clear c41
                      obtain rfl := Option.some.inj H
                      obtain ⟨hcz42_0, hcz42_1, hcz42_2, hcz42_3⟩ := blk_quad BK101.out
                      obtain ⟨hfz42_0, hfz42_1, hfz42_2, hfz42_3⟩ := blk_quad_free BK101.out
                      have p37 : 0 ≤ (x3_2 : Int) := of_decide_eq_true (by first | (with_reducible assumption) | assumption)
                      have q37 : x3_2 < (a0_3.size : Int) := of_decide_eq_true (by first | (with_reducible assumption) | assumption)
                      have hx37 := bt_at a0_3 x3_2
                      replace p37 := eq_true p37
                      replace q37 := eq_true q37
                      have p40 : 0 ≤ (x3_2 : Int) := of_decide_eq_true (by first | (with_reducible assumption) | assumption)
                      have q40 : x3_2 < (a0_3.size : Int) := of_decide_eq_true (by first | (with_reducible assumption) | assumption)
                      have hx40 := bt_at a0_3 x3_2
                      replace p40 := eq_true p40
                      replace q40 := eq_true q40
                      go_wp2
                      go_ret
                      exact ⟨by first | rfl | (simp [errW_none, errW_some] <;> rfl) | (simp [*, errW_none, errW_some] <;> rfl), by repeat (first | (with_reducible first | exact HB.out | apply below_alloc | apply pw_below_drewN | apply below_drew1 | refine below_set ?_ GE101.out) | exact HB.out)⟩
                    · rw [if_neg c41] at H
                      have c41b0 : decide (126 < (bt a0_3 x3_2)) = false := decide_eq_false c41
                      clear c41
                      have H' := Aside0.mk H
                      clear H
                      obtain ⟨hcz43_0, hcz43_1, hcz43_2, hcz43_3⟩ := blk_quad BK101.out
                      obtain ⟨hfz43_0, hfz43_1, hfz43_2, hfz43_3⟩ := blk_quad_free BK101.out
                      have p37 : 0 ≤ (x3_2 : Int) := of_decide_eq_true (by first | (with_reducible assumption) | assumption)
                      have q37 : x3_2 < (a0_3.size : Int) := of_decide_eq_true (by first | (with_reducible assumption) | assumption)
                      have hx37 := bt_at a0_3 x3_2
                      replace p37 := eq_true p37
                      replace q37 := eq_true q37
                      have p40 : 0 ≤ (x3_2 : Int) := of_decide_eq_true (by first | (with_reducible assumption) | assumption)
                      have q40 : x3_2 < (a0_3.size : Int) := of_decide_eq_true (by first | (with_reducible assumption) | assumption)
                      have hx40 := bt_at a0_3 x3_2
                      replace p40 := eq_true p40
                      replace q40 := eq_true q40
                      go_wp2
                      go_roundg k2
                      case measure => have := HJ1.out; have := HK2.out; omega
                      case rel => exact ⟨(wrap64 (x3_2 + 1)), (by first | rfl | (simp; done) | (generalize ByteArray.toList _ = l_; cases l_ <;> rfl) | (simp [*]; done)), H', ⟨by have := HJ1.out; have := HK2.out; omega⟩, ⟨zk BK101.out⟩, ⟨by repeat (first | (with_reducible first | exact HB.out | apply below_alloc | apply pw_below_drewN | apply below_drew1 | refine below_set ?_ GE101.out) | exact HB.out)⟩⟩
                · rw [if_neg c36] at H
                  exact absurd H (by simp)
            · rw [if_neg c14] at H
              have c14b0 : decide (x3_2 < (a0_3.size : Int)) = false := decide_eq_false c14
              clear c14
              obtain rfl := Option.some.inj H
              obtain ⟨hcz44_0, hcz44_1, hcz44_2, hcz44_3⟩ := blk_quad BK101.out
              obtain ⟨hfz44_0, hfz44_1, hfz44_2, hfz44_3⟩ := blk_quad_free BK101.out
              go_wp2
              go_ret
              exact ⟨by first | rfl | (simp [errW_none, errW_some] <;> rfl) | (simp [*, errW_none, errW_some] <;> rfl), by repeat (first | (with_reducible first | exact HB.out | apply below_alloc | apply pw_below_drewN | apply below_drew1 | refine below_set ?_ GE101.out) | exact HB.out)⟩
end Go.Proofs.YtnelblndidciiaaDoor.P

-- from the text A24
namespace Go.Proofs.YtnelblndidciiaaDoor.P
open Go.RowKit Go.Proofs.YtnelblndidciiaaDoorW.PrintWords Go.Proofs.YtnelblndidciiaaDoorW.PrintLast Go.Proofs.YtnelblndidciiaaDoorW.PrintMore
attribute [local go_sem] max2_int min2_int max_two min_two max_three min_three max_four min_four   -- for this text's walks alone
set_option linter.unusedVariables false
set_option linter.unusedSimpArgs false
mutual
def ironbarkref05_strings.l0 : Nat → List (S23) → Int → Int → Option (Int)
  | 0, _, _, _ => none
  | k + 1, x0, x1, x5 => if x5 < (x0.length : Int) then (if 0 ≤ x5 then ((ironbarkref05_Valid.f k ((rd_T23 x0 x5).f0) ((rd_T23 x0 x5).f1) ((rd_T23 x0 x5).f2) ((rd_T23 x0 x5).f3)).bind fun t102 => (if t102 = true then (ironbarkref05_strings.l0 k x0 x1 (wrap64 (x5 + 1))) else (some 1))) else (none)) else (ironbarkref05_strings.l1 k x0 x1 0)
def ironbarkref05_strings.l1 : Nat → List (S23) → Int → Int → Option (Int)
  | 0, _, _, _ => none
  | k + 1, x0, x1, x6 => if x6 < (x0.length : Int) then (if 0 ≤ x6 then (if 0 < (x0.length : Int) then (if ((rd_T23 x0 x6).f0) = ((rd_T23 x0 0).f0) then (if x1 = 0 then (ironbarkref05_strings.l1 k x0 x1 (wrap64 (x6 + 1))) else (if ((rd_T23 x0 x6).f0) = x1 then (ironbarkref05_strings.l1 k x0 x1 (wrap64 (x6 + 1))) else (some 10))) else (some 10)) else (none)) else (none)) else (some 0)
end
def ironbarkref05_strings.f (k : Nat) (l0 : List (S23)) (a1 : Int) : Option (Int) := ironbarkref05_strings.l0 k l0 a1 0
set_option maxHeartbeats 8000000 in
set_option maxRecDepth 100000 in
theorem ironbarkref05_strings.calls (k : Nat) (A0 : Option Addr) (c0 : Nat) (l0 : List (S23)) (a1 : Int) (r : Int) (w : World) (hr0 : Kd.C k23 w A0 l0.length l0) (hc0 : l0.length ≤ c0) (h : ironbarkref05_strings.f k l0 a1 = some r) :
    Calls Tryd.prog 24 #[.slice A0 l0.length c0, .int .i64 a1] w fun e w' => e = .returned (.int .i64 r) ∧ Below w.heap.size w w' := by
  have hu23 := Tryd.underlying23
  have HR0 := Aside0.mk hr0
  have HC0 := Aside0.mk hc0
  clear hr0 hc0
  have HB := Aside0.mk (Below.refl w.heap.size w)
  have H : (ironbarkref05_strings.l0 k l0 a1 0) = some r := h
  clear h
  have H' := Aside0.mk H
  clear H
  go_enter Tryd.func24, Tryd.ntmps24
  go_wp2
  repeat (go_quiet (fail); try go_wp2)
  go_loopg [5] k (fun kq v5 w' => ∃ (x5_1 : Int), v5 = .int .i64 x5_1 ∧ Aside0 (ironbarkref05_strings.l0 kq l0 a1 x5_1 = some r) ∧ Aside0 (kq ≤ k) ∧ Aside0 (Below w.heap.size w w'))
  case atStart => exact ⟨(0), (by first | rfl | (simp; done) | (generalize ByteArray.toList _ = l_; cases l_ <;> rfl) | (simp [*]; done)), H', ⟨Nat.le_refl _⟩, ⟨by repeat (first | (with_reducible first | exact HB.out | apply below_alloc | apply pw_below_drewN | apply below_drew1) | exact HB.out)⟩⟩
  case round =>
    clear H'
    try clear c2
    try clear p2
    obtain ⟨x5_1, rfl, HA, HK1, HB⟩ := hrel
    cases gk with
    | zero => exact absurd HA.out (by simp [ironbarkref05_strings.l0])
    | succ k1 =>
      have H := HA.out
      clear HA
      simp only [ironbarkref05_strings.l0] at H
      by_cases c3 : x5_1 < (l0.length : Int)
      · rw [if_pos c3] at H
        have c3b0 : decide (x5_1 < (l0.length : Int)) = true := decide_eq_true c3
        clear c3
        by_cases c4 : 0 ≤ x5_1
        · rw [if_pos c4] at H
          have c4b0 : decide (0 ≤ x5_1) = true := decide_eq_true c4
          clear c4
          replace H := Option.bind_eq_some_iff.mp H
          obtain ⟨t102, A50, H⟩ := H
          replace H : (if t102 = true then (ironbarkref05_strings.l0 k1 l0 a1 (wrap64 (x5_1 + 1))) else (some 1)) = some r := H
          have A5 := Aside0.mk A50
          clear A50
          by_cases c6 : t102 = true
          · subst c6
            have H1 : (ironbarkref05_strings.l0 k1 l0 a1 (wrap64 (x5_1 + 1))) = some r := by rw [if_pos rfl] at H; exact H
            clear H
            have H := H1
            clear H1
            have H' := Aside0.mk H
            clear H
            have p101 : 0 ≤ (x5_1 : Int) := of_decide_eq_true (by first | (with_reducible assumption) | assumption)
            have q101 : x5_1 < (l0.length : Int) := of_decide_eq_true (by first | (with_reducible assumption) | assumption)
            obtain ⟨ad101, e101, hx101_0, hx101_1, hx101_2, hx101_3⟩ := at_T23 HR0.out x5_1 p101 q101
            cases e101
            replace hx101_0 := (HB.out.cell (World.block_lt_of_cell? w _ hx101_0)).trans hx101_0
            replace hx101_1 := (HB.out.cell (World.block_lt_of_cell? w _ hx101_1)).trans hx101_1
            replace hx101_2 := (HB.out.cell (World.block_lt_of_cell? w _ hx101_2)).trans hx101_2
            replace hx101_3 := (HB.out.cell (World.block_lt_of_cell? w _ hx101_3)).trans hx101_3
            replace p101 := eq_true p101
            replace q101 := eq_true q101
            go_wp2_with (first | (go_at_call 9; (with_reducible refine (ironbarkref05_Valid.calls k1 ((rd_T23 l0 x5_1).f0) ((rd_T23 l0 x5_1).f1) ((rd_T23 l0 x5_1).f2) ((rd_T23 l0 x5_1).f3) true _ A5.out).mono ?_); rintro e w7 ⟨rfl, hb⟩; have n0_ := Aside0.mk (below_step (by repeat (first | (with_reducible first | exact HB.out | apply below_alloc | apply pw_below_drewN | apply below_drew1) | exact HB.out)) hb); clear HB; have HB := n0_; clear n0_; (try clear hb); (try clear hb2); (try clear hk); (try clear hi)))
            repeat (go_quiet (first | (go_at_call 9; (with_reducible refine (ironbarkref05_Valid.calls k1 ((rd_T23 l0 x5_1).f0) ((rd_T23 l0 x5_1).f1) ((rd_T23 l0 x5_1).f2) ((rd_T23 l0 x5_1).f3) true _ A5.out).mono ?_); rintro e w7 ⟨rfl, hb⟩; have n0_ := Aside0.mk (below_step (by repeat (first | (with_reducible first | exact HB.out | apply below_alloc | apply pw_below_drewN | apply below_drew1) | exact HB.out)) hb); clear HB; have HB := n0_; clear n0_; (try clear hb); (try clear hb2); (try clear hk); (try clear hi))); try go_wp2_with (first | (go_at_call 9; (with_reducible refine (ironbarkref05_Valid.calls k1 ((rd_T23 l0 x5_1).f0) ((rd_T23 l0 x5_1).f1) ((rd_T23 l0 x5_1).f2) ((rd_T23 l0 x5_1).f3) true _ A5.out).mono ?_); rintro e w7 ⟨rfl, hb⟩; have n0_ := Aside0.mk (below_step (by repeat (first | (with_reducible first | exact HB.out | apply below_alloc | apply pw_below_drewN | apply below_drew1) | exact HB.out)) hb); clear HB; have HB := n0_; clear n0_; (try clear hb); (try clear hb2); (try clear hk); (try clear hi))))
            go_roundg k1
            case measure => have := HK1.out; omega
            case rel => exact ⟨(wrap64 (x5_1 + 1)), (by first | rfl | (simp; done) | (generalize ByteArray.toList _ = l_; cases l_ <;> rfl) | (simp [*]; done)), H', ⟨by have := HK1.out; omega⟩, ⟨by repeat (first | (with_reducible first | exact HB.out | apply below_alloc | apply pw_below_drewN | apply below_drew1) | exact HB.out)⟩⟩
          · replace c6 := Bool.eq_false_iff.mpr c6
            subst c6
            have H1 : (some 1) = some r := by rw [if_neg (show ¬ (false = true) by decide)] at H; exact H
            clear H
            have H := H1
            clear H1
            obtain rfl := Option.some.inj H
            have p101 : 0 ≤ (x5_1 : Int) := of_decide_eq_true (by first | (with_reducible assumption) | assumption)
            have q101 : x5_1 < (l0.length : Int) := of_decide_eq_true (by first | (with_reducible assumption) | assumption)
            obtain ⟨ad101, e101, hx101_0, hx101_1, hx101_2, hx101_3⟩ := at_T23 HR0.out x5_1 p101 q101
            cases e101
            replace hx101_0 := (HB.out.cell (World.block_lt_of_cell? w _ hx101_0)).trans hx101_0
            replace hx101_1 := (HB.out.cell (World.block_lt_of_cell? w _ hx101_1)).trans hx101_1
            replace hx101_2 := (HB.out.cell (World.block_lt_of_cell? w _ hx101_2)).trans hx101_2
            replace hx101_3 := (HB.out.cell (World.block_lt_of_cell? w _ hx101_3)).trans hx101_3
            replace p101 := eq_true p101
            replace q101 := eq_true q101
            go_wp2_with (first | (go_at_call 9; (with_reducible refine (ironbarkref05_Valid.calls k1 ((rd_T23 l0 x5_1).f0) ((rd_T23 l0 x5_1).f1) ((rd_T23 l0 x5_1).f2) ((rd_T23 l0 x5_1).f3) false _ A5.out).mono ?_); rintro e w8 ⟨rfl, hb⟩; have n0_ := Aside0.mk (below_step (by repeat (first | (with_reducible first | exact HB.out | apply below_alloc | apply pw_below_drewN | apply below_drew1) | exact HB.out)) hb); clear HB; have HB := n0_; clear n0_; (try clear hb); (try clear hb2); (try clear hk); (try clear hi)))
            repeat (go_quiet (first | (go_at_call 9; (with_reducible refine (ironbarkref05_Valid.calls k1 ((rd_T23 l0 x5_1).f0) ((rd_T23 l0 x5_1).f1) ((rd_T23 l0 x5_1).f2) ((rd_T23 l0 x5_1).f3) false _ A5.out).mono ?_); rintro e w8 ⟨rfl, hb⟩; have n0_ := Aside0.mk (below_step (by repeat (first | (with_reducible first | exact HB.out | apply below_alloc | apply pw_below_drewN | apply below_drew1) | exact HB.out)) hb); clear HB; have HB := n0_; clear n0_; (try clear hb); (try clear hb2); (try clear hk); (try clear hi))); try go_wp2_with (first | (go_at_call 9; (with_reducible refine (ironbarkref05_Valid.calls k1 ((rd_T23 l0 x5_1).f0) ((rd_T23 l0 x5_1).f1) ((rd_T23 l0 x5_1).f2) ((rd_T23 l0 x5_1).f3) false _ A5.out).mono ?_); rintro e w8 ⟨rfl, hb⟩; have n0_ := Aside0.mk (below_step (by repeat (first | (with_reducible first | exact HB.out | apply below_alloc | apply pw_below_drewN | apply below_drew1) | exact HB.out)) hb); clear HB; have HB := n0_; clear n0_; (try clear hb); (try clear hb2); (try clear hk); (try clear hi))))
            go_ret
            exact ⟨by first | rfl | (simp [errW_none, errW_some] <;> rfl) | (simp [*, errW_none, errW_some] <;> rfl), by repeat (first | (with_reducible first | exact HB.out | apply below_alloc | apply pw_below_drewN | apply below_drew1) | exact HB.out)⟩
        · rw [if_neg c4] at H
          exact absurd H (by simp)
      · rw [if_neg c3] at H
        have c3b0 : decide (x5_1 < (l0.length : Int)) = false := decide_eq_false c3
        clear c3
        have H' := Aside0.mk H
        clear H
        go_wp2
        repeat (go_quiet (fail); try go_wp2)
        go_loopg [6] k1 (fun kq v6 w' => ∃ (x6_2 : Int), v6 = .int .i64 x6_2 ∧ Aside0 (ironbarkref05_strings.l1 kq l0 a1 x6_2 = some r) ∧ Aside0 (kq ≤ k1) ∧ Aside0 (Below w.heap.size w w'))
        case atStart => exact ⟨(0), (by first | rfl | (simp; done) | (generalize ByteArray.toList _ = l_; cases l_ <;> rfl) | (simp [*]; done)), H', ⟨Nat.le_refl _⟩, ⟨by repeat (first | (with_reducible first | exact HB.out | apply below_alloc | apply pw_below_drewN | apply below_drew1) | exact HB.out)⟩⟩
        case round =>
          clear H'
          try clear p1
          try clear q1
          try clear hx1
          try clear c2
          try clear p2
          try clear c3
          try clear c3b0
          try clear c4
          try clear c4b0
          try clear c6
          try clear p6
          try clear hx101_0
          try clear hx101_1
          try clear hx101_2
          try clear hx101_3
          try clear p101
          try clear p2
          try clear q101
          obtain ⟨x6_2, rfl, HA, HK2, HB⟩ := hrel
          cases gk with
          | zero => exact absurd HA.out (by simp [ironbarkref05_strings.l1])
          | succ k2 =>
            have H := HA.out
            clear HA
            simp only [ironbarkref05_strings.l1] at H
            by_cases c9 : x6_2 < (l0.length : Int)
            · rw [if_pos c9] at H
              have c9b0 : decide (x6_2 < (l0.length : Int)) = true := decide_eq_true c9
              clear c9
              by_cases c10 : 0 ≤ x6_2
              · rw [if_pos c10] at H
                have c10b0 : decide (0 ≤ x6_2) = true := decide_eq_true c10
                clear c10
                by_cases c11 : 0 < (l0.length : Int)
                · rw [if_pos c11] at H
                  have c11b0 : decide (0 < (l0.length : Int)) = true := decide_eq_true c11
                  have c11b1 : decide (0 < l0.length) = true := decide_eq_true (by omega)
                  clear c11
                  by_cases c12 : ((rd_T23 l0 x6_2).f0) = ((rd_T23 l0 0).f0)
                  · rw [if_pos c12] at H
                    have c12b0 : (((rd_T23 l0 x6_2).f0) == ((rd_T23 l0 0).f0)) = true := beq_iff_eq.mpr c12
                    have c12b1 : (((rd_T23 l0 x6_2).f0) != ((rd_T23 l0 0).f0)) = false := bne_eq_false_iff_eq.mpr c12
                    clear c12
                    by_cases c13 : a1 = 0
                    · rw [if_pos c13] at H
                      have c13b0 : (a1 == 0) = true := beq_iff_eq.mpr c13
                      have c13b1 : (a1 != 0) = false := bne_eq_false_iff_eq.mpr c13
                      clear c13
                      have H' := Aside0.mk H
                      clear H
                      have p103 : 0 ≤ (x6_2 : Int) := of_decide_eq_true (by first | (with_reducible assumption) | assumption)
                      have q103 : x6_2 < (l0.length : Int) := of_decide_eq_true (by first | (with_reducible assumption) | assumption)
                      obtain ⟨ad103, e103, hx103_0, hx103_1, hx103_2, hx103_3⟩ := at_T23 HR0.out x6_2 p103 q103
                      cases e103
                      replace hx103_0 := (HB.out.cell (World.block_lt_of_cell? w _ hx103_0)).trans hx103_0
                      replace hx103_1 := (HB.out.cell (World.block_lt_of_cell? w _ hx103_1)).trans hx103_1
                      replace hx103_2 := (HB.out.cell (World.block_lt_of_cell? w _ hx103_2)).trans hx103_2
                      replace hx103_3 := (HB.out.cell (World.block_lt_of_cell? w _ hx103_3)).trans hx103_3
                      replace p103 := eq_true p103
                      replace q103 := eq_true q103
                      have p104 : 0 ≤ (0 : Int) := (by omega)
                      have q104 : 0 < (l0.length : Int) := of_decide_eq_true (by first | (with_reducible assumption) | assumption)
                      obtain ⟨ad104, e104, hx104_0, hx104_1, hx104_2, hx104_3⟩ := at_T23 HR0.out 0 p104 q104
                      obtain rfl : ad103 = ad104 := (by injection e104)
                      have qi104 : (0 < l0.length) = True := eq_true (by omega)
                      (try rw [show ((0 : Int)).toNat = 0 from rfl] at hx104_0)
                      (try rw [show 0 * 4 = 0 from rfl] at hx104_0)
                      (try rw [Addr.add_zero'] at hx104_0)
                      (try rw [show ((0 : Int)).toNat = 0 from rfl] at hx104_1)
                      (try rw [show 0 * 4 = 0 from rfl] at hx104_1)
                      (try rw [Addr.add_zero'] at hx104_1)
                      (try rw [show ((0 : Int)).toNat = 0 from rfl] at hx104_2)
                      (try rw [show 0 * 4 = 0 from rfl] at hx104_2)
                      (try rw [Addr.add_zero'] at hx104_2)
                      (try rw [show ((0 : Int)).toNat = 0 from rfl] at hx104_3)
                      (try rw [show 0 * 4 = 0 from rfl] at hx104_3)
                      (try rw [Addr.add_zero'] at hx104_3)
                      replace hx104_0 := (HB.out.cell (World.block_lt_of_cell? w _ hx104_0)).trans hx104_0
                      replace hx104_1 := (HB.out.cell (World.block_lt_of_cell? w _ hx104_1)).trans hx104_1
                      replace hx104_2 := (HB.out.cell (World.block_lt_of_cell? w _ hx104_2)).trans hx104_2
                      replace hx104_3 := (HB.out.cell (World.block_lt_of_cell? w _ hx104_3)).trans hx104_3
                      replace p104 := eq_true p104
                      replace q104 := eq_true q104
                      go_wp2
                      repeat (go_quiet (fail); try go_wp2)
                      go_roundg k2
                      case measure => have := HK1.out; have := HK2.out; omega
                      case rel => exact ⟨(wrap64 (x6_2 + 1)), (by first | rfl | (simp; done) | (generalize ByteArray.toList _ = l_; cases l_ <;> rfl) | (simp [*]; done)), H', ⟨by have := HK1.out; have := HK2.out; omega⟩, ⟨by repeat (first | (with_reducible first | exact HB.out | apply below_alloc | apply pw_below_drewN | apply below_drew1) | exact HB.out)⟩⟩
                    · rw [if_neg c13] at H
                      have c13b0 : (a1 == 0) = false := beq_eq_false_iff_ne.mpr c13
                      have c13b1 : (a1 != 0) = true := bne_iff_ne.mpr c13
                      by_cases c14 : ((rd_T23 l0 x6_2).f0) = a1
                      · rw [if_pos c14] at H
                        have c14b0 : (((rd_T23 l0 x6_2).f0) == a1) = true := beq_iff_eq.mpr c14
                        have c14b1 : (((rd_T23 l0 x6_2).f0) != a1) = false := bne_eq_false_iff_eq.mpr c14
                        clear c14
                        have H' := Aside0.mk H
                        clear H
                        have p103 : 0 ≤ (x6_2 : Int) := of_decide_eq_true (by first | (with_reducible assumption) | assumption)
                        have q103 : x6_2 < (l0.length : Int) := of_decide_eq_true (by first | (with_reducible assumption) | assumption)
                        obtain ⟨ad103, e103, hx103_0, hx103_1, hx103_2, hx103_3⟩ := at_T23 HR0.out x6_2 p103 q103
                        cases e103
                        replace hx103_0 := (HB.out.cell (World.block_lt_of_cell? w _ hx103_0)).trans hx103_0
                        replace hx103_1 := (HB.out.cell (World.block_lt_of_cell? w _ hx103_1)).trans hx103_1
                        replace hx103_2 := (HB.out.cell (World.block_lt_of_cell? w _ hx103_2)).trans hx103_2
                        replace hx103_3 := (HB.out.cell (World.block_lt_of_cell? w _ hx103_3)).trans hx103_3
                        replace p103 := eq_true p103
                        replace q103 := eq_true q103
                        have p104 : 0 ≤ (0 : Int) := (by omega)
                        have q104 : 0 < (l0.length : Int) := of_decide_eq_true (by first | (with_reducible assumption) | assumption)
                        obtain ⟨ad104, e104, hx104_0, hx104_1, hx104_2, hx104_3⟩ := at_T23 HR0.out 0 p104 q104
                        obtain rfl : ad103 = ad104 := (by injection e104)
                        have qi104 : (0 < l0.length) = True := eq_true (by omega)
                        (try rw [show ((0 : Int)).toNat = 0 from rfl] at hx104_0)
                        (try rw [show 0 * 4 = 0 from rfl] at hx104_0)
                        (try rw [Addr.add_zero'] at hx104_0)
                        (try rw [show ((0 : Int)).toNat = 0 from rfl] at hx104_1)
                        (try rw [show 0 * 4 = 0 from rfl] at hx104_1)
                        (try rw [Addr.add_zero'] at hx104_1)
                        (try rw [show ((0 : Int)).toNat = 0 from rfl] at hx104_2)
                        (try rw [show 0 * 4 = 0 from rfl] at hx104_2)
                        (try rw [Addr.add_zero'] at hx104_2)
                        (try rw [show ((0 : Int)).toNat = 0 from rfl] at hx104_3)
                        (try rw [show 0 * 4 = 0 from rfl] at hx104_3)
                        (try rw [Addr.add_zero'] at hx104_3)
                        replace hx104_0 := (HB.out.cell (World.block_lt_of_cell? w _ hx104_0)).trans hx104_0
                        replace hx104_1 := (HB.out.cell (World.block_lt_of_cell? w _ hx104_1)).trans hx104_1
                        replace hx104_2 := (HB.out.cell (World.block_lt_of_cell? w _ hx104_2)).trans hx104_2
                        replace hx104_3 := (HB.out.cell (World.block_lt_of_cell? w _ hx104_3)).trans hx104_3
                        replace p104 := eq_true p104
                        replace q104 := eq_true q104
                        have p105 : 0 ≤ (x6_2 : Int) := of_decide_eq_true (by first | (with_reducible assumption) | assumption)
                        have q105 : x6_2 < (l0.length : Int) := of_decide_eq_true (by first | (with_reducible assumption) | assumption)
                        obtain ⟨ad105, e105, hx105_0, hx105_1, hx105_2, hx105_3⟩ := at_T23 HR0.out x6_2 p105 q105
                        obtain rfl : ad103 = ad105 := (by injection e105)
                        replace hx105_0 := (HB.out.cell (World.block_lt_of_cell? w _ hx105_0)).trans hx105_0
                        replace hx105_1 := (HB.out.cell (World.block_lt_of_cell? w _ hx105_1)).trans hx105_1
                        replace hx105_2 := (HB.out.cell (World.block_lt_of_cell? w _ hx105_2)).trans hx105_2
                        replace hx105_3 := (HB.out.cell (World.block_lt_of_cell? w _ hx105_3)).trans hx105_3
                        replace p105 := eq_true p105
                        replace q105 := eq_true q105
                        go_wp2
                        repeat (go_quiet (fail); try go_wp2)
                        go_roundg k2
                        case measure => have := HK1.out; have := HK2.out; omega
                        case rel => exact ⟨(wrap64 (x6_2 + 1)), (by first | rfl | (simp; done) | (generalize ByteArray.toList _ = l_; cases l_ <;> rfl) | (simp [*]; done)), H', ⟨by have := HK1.out; have := HK2.out; omega⟩, ⟨by repeat (first | (with_reducible first | exact HB.out | apply below_alloc | apply pw_below_drewN | apply below_drew1) | exact HB.out)⟩⟩
                      · rw [if_neg c14] at H
                        have c14b0 : (((rd_T23 l0 x6_2).f0) == a1) = false := beq_eq_false_iff_ne.mpr c14
                        have c14b1 : (((rd_T23 l0 x6_2).f0) != a1) = true := bne_iff_ne.mpr c14
                        obtain rfl := Option.some.inj H
                        have p103 : 0 ≤ (x6_2 : Int) := of_decide_eq_true (by first | (with_reducible assumption) | assumption)
                        have q103 : x6_2 < (l0.length : Int) := of_decide_eq_true (by first | (with_reducible assumption) | assumption)
                        obtain ⟨ad103, e103, hx103_0, hx103_1, hx103_2, hx103_3⟩ := at_T23 HR0.out x6_2 p103 q103
                        cases e103
                        replace hx103_0 := (HB.out.cell (World.block_lt_of_cell? w _ hx103_0)).trans hx103_0
                        replace hx103_1 := (HB.out.cell (World.block_lt_of_cell? w _ hx103_1)).trans hx103_1
                        replace hx103_2 := (HB.out.cell (World.block_lt_of_cell? w _ hx103_2)).trans hx103_2
                        replace hx103_3 := (HB.out.cell (World.block_lt_of_cell? w _ hx103_3)).trans hx103_3
                        replace p103 := eq_true p103
                        replace q103 := eq_true q103
                        have p104 : 0 ≤ (0 : Int) := (by omega)
                        have q104 : 0 < (l0.length : Int) := of_decide_eq_true (by first | (with_reducible assumption) | assumption)
                        obtain ⟨ad104, e104, hx104_0, hx104_1, hx104_2, hx104_3⟩ := at_T23 HR0.out 0 p104 q104
                        obtain rfl : ad103 = ad104 := (by injection e104)
                        have qi104 : (0 < l0.length) = True := eq_true (by omega)
                        (try rw [show ((0 : Int)).toNat = 0 from rfl] at hx104_0)
                        (try rw [show 0 * 4 = 0 from rfl] at hx104_0)
                        (try rw [Addr.add_zero'] at hx104_0)
                        (try rw [show ((0 : Int)).toNat = 0 from rfl] at hx104_1)
                        (try rw [show 0 * 4 = 0 from rfl] at hx104_1)
                        (try rw [Addr.add_zero'] at hx104_1)
                        (try rw [show ((0 : Int)).toNat = 0 from rfl] at hx104_2)
                        (try rw [show 0 * 4 = 0 from rfl] at hx104_2)
                        (try rw [Addr.add_zero'] at hx104_2)
                        (try rw [show ((0 : Int)).toNat = 0 from rfl] at hx104_3)
                        (try rw [show 0 * 4 = 0 from rfl] at hx104_3)
                        (try rw [Addr.add_zero'] at hx104_3)
                        replace hx104_0 := (HB.out.cell (World.block_lt_of_cell? w _ hx104_0)).trans hx104_0
                        replace hx104_1 := (HB.out.cell (World.block_lt_of_cell? w _ hx104_1)).trans hx104_1
                        replace hx104_2 := (HB.out.cell (World.block_lt_of_cell? w _ hx104_2)).trans hx104_2
                        replace hx104_3 := (HB.out.cell (World.block_lt_of_cell? w _ hx104_3)).trans hx104_3
                        replace p104 := eq_true p104
                        replace q104 := eq_true q104
                        have p105 : 0 ≤ (x6_2 : Int) := of_decide_eq_true (by first | (with_reducible assumption) | assumption)
                        have q105 : x6_2 < (l0.length : Int) := of_decide_eq_true (by first | (with_reducible assumption) | assumption)
                        obtain ⟨ad105, e105, hx105_0, hx105_1, hx105_2, hx105_3⟩ := at_T23 HR0.out x6_2 p105 q105
                        obtain rfl : ad103 = ad105 := (by injection e105)
                        replace hx105_0 := (HB.out.cell (World.block_lt_of_cell? w _ hx105_0)).trans hx105_0
                        replace hx105_1 := (HB.out.cell (World.block_lt_of_cell? w _ hx105_1)).trans hx105_1
                        replace hx105_2 := (HB.out.cell (World.block_lt_of_cell? w _ hx105_2)).trans hx105_2
                        replace hx105_3 := (HB.out.cell (World.block_lt_of_cell? w _ hx105_3)).trans hx105_3
                        replace p105 := eq_true p105
                        replace q105 := eq_true q105
                        go_wp2
                        repeat (go_quiet (fail); try go_wp2)
                        go_ret
                        exact ⟨by first | rfl | (simp [errW_none, errW_some] <;> rfl) | (simp [*, errW_none, errW_some] <;> rfl), by repeat (first | (with_reducible first | exact HB.out | apply below_alloc | apply pw_below_drewN | apply below_drew1) | exact HB.out)⟩
                  · rw [if_neg c12] at H
                    have c12b0 : (((rd_T23 l0 x6_2).f0) == ((rd_T23 l0 0).f0)) = false := beq_eq_false_iff_ne.mpr c12
                    have c12b1 : (((rd_T23 l0 x6_2).f0) != ((rd_T23 l0 0).f0)) = true := bne_iff_ne.mpr c12
                    obtain rfl := Option.some.inj H
                    have p103 : 0 ≤ (x6_2 : Int) := of_decide_eq_true (by first | (with_reducible assumption) | assumption)
                    have q103 : x6_2 < (l0.length : Int) := of_decide_eq_true (by first | (with_reducible assumption) | assumption)
                    obtain ⟨ad103, e103, hx103_0, hx103_1, hx103_2, hx103_3⟩ := at_T23 HR0.out x6_2 p103 q103
                    cases e103
                    replace hx103_0 := (HB.out.cell (World.block_lt_of_cell? w _ hx103_0)).trans hx103_0
                    replace hx103_1 := (HB.out.cell (World.block_lt_of_cell? w _ hx103_1)).trans hx103_1
                    replace hx103_2 := (HB.out.cell (World.block_lt_of_cell? w _ hx103_2)).trans hx103_2
                    replace hx103_3 := (HB.out.cell (World.block_lt_of_cell? w _ hx103_3)).trans hx103_3
                    replace p103 := eq_true p103
                    replace q103 := eq_true q103
                    have p104 : 0 ≤ (0 : Int) := (by omega)
                    have q104 : 0 < (l0.length : Int) := of_decide_eq_true (by first | (with_reducible assumption) | assumption)
                    obtain ⟨ad104, e104, hx104_0, hx104_1, hx104_2, hx104_3⟩ := at_T23 HR0.out 0 p104 q104
                    obtain rfl : ad103 = ad104 := (by injection e104)
                    have qi104 : (0 < l0.length) = True := eq_true (by omega)
                    (try rw [show ((0 : Int)).toNat = 0 from rfl] at hx104_0)
                    (try rw [show 0 * 4 = 0 from rfl] at hx104_0)
                    (try rw [Addr.add_zero'] at hx104_0)
                    (try rw [show ((0 : Int)).toNat = 0 from rfl] at hx104_1)
                    (try rw [show 0 * 4 = 0 from rfl] at hx104_1)
                    (try rw [Addr.add_zero'] at hx104_1)
                    (try rw [show ((0 : Int)).toNat = 0 from rfl] at hx104_2)
                    (try rw [show 0 * 4 = 0 from rfl] at hx104_2)
                    (try rw [Addr.add_zero'] at hx104_2)
                    (try rw [show ((0 : Int)).toNat = 0 from rfl] at hx104_3)
                    (try rw [show 0 * 4 = 0 from rfl] at hx104_3)
                    (try rw [Addr.add_zero'] at hx104_3)
                    replace hx104_0 := (HB.out.cell (World.block_lt_of_cell? w _ hx104_0)).trans hx104_0
                    replace hx104_1 := (HB.out.cell (World.block_lt_of_cell? w _ hx104_1)).trans hx104_1
                    replace hx104_2 := (HB.out.cell (World.block_lt_of_cell? w _ hx104_2)).trans hx104_2
                    replace hx104_3 := (HB.out.cell (World.block_lt_of_cell? w _ hx104_3)).trans hx104_3
                    replace p104 := eq_true p104
                    replace q104 := eq_true q104
                    go_wp2
                    repeat (go_quiet (fail); try go_wp2)
                    go_ret
                    exact ⟨by first | rfl | (simp [errW_none, errW_some] <;> rfl) | (simp [*, errW_none, errW_some] <;> rfl), by repeat (first | (with_reducible first | exact HB.out | apply below_alloc | apply pw_below_drewN | apply below_drew1) | exact HB.out)⟩
                · rw [if_neg c11] at H
                  exact absurd H (by simp)
              · rw [if_neg c10] at H
                exact absurd H (by simp)
            · rw [if_neg c9] at H
              have c9b0 : decide (x6_2 < (l0.length : Int)) = false := decide_eq_false c9
              clear c9
              obtain rfl := Option.some.inj H
              go_wp2
              repeat (go_quiet (fail); try go_wp2)
              go_ret
              exact ⟨by first | rfl | (simp [errW_none, errW_some] <;> rfl) | (simp [*, errW_none, errW_some] <;> rfl), by repeat (first | (with_reducible first | exact HB.out | apply below_alloc | apply pw_below_drewN | apply below_drew1) | exact HB.out)⟩
end Go.Proofs.YtnelblndidciiaaDoor.P

-- from the text B26
namespace Go.Proofs.YtnelblndidciiaaDoor.P
open Go.RowKit Go.Proofs.YtnelblndidciiaaDoorW.PrintWords Go.Proofs.YtnelblndidciiaaDoorW.PrintLast Go.Proofs.YtnelblndidciiaaDoorW.PrintMore
attribute [local go_sem] max2_int min2_int max_two min_two max_three min_three max_four min_four   -- for this text's walks alone
set_option linter.unusedVariables false
set_option linter.unusedSimpArgs false
mutual
def bits_asked.l0 : Nat → List (S23) → List (S23) → Int → Int → Option (Int)
  | 0, _, _, _, _ => none
  | k + 1, x0, x7, x8, x9 => if x9 < x8 then (if 0 ≤ x9 then (if x9 < (x7.length : Int) then ((bits_Valid.f ((rd_T23 x7 x9).f0) ((rd_T23 x7 x9).f1) ((rd_T23 x7 x9).f2) ((rd_T23 x7 x9).f3)).bind fun t103 => (if t103 = true then (bits_asked.l0 k x0 x7 x8 (wrap64 (x9 + 1))) else (some 1))) else (none)) else (none)) else (bits_asked.l1 k x0 x0 (x0.length : Int) 0)
def bits_asked.l1 : Nat → List (S23) → List (S23) → Int → Int → Option (Int)
  | 0, _, _, _, _ => none
  | k + 1, x0, x17, x18, x19 => if x19 < x18 then (if 0 ≤ x19 then (if x19 < (x17.length : Int) then (if 0 < (x0.length : Int) then (if ((rd_T23 x17 x19).f0) = ((rd_T23 x0 0).f0) then (bits_asked.l1 k x0 x17 x18 (wrap64 (x19 + 1))) else (some 10)) else (none)) else (none)) else (none)) else (some 0)
end
def bits_asked.f (k : Nat) (l0 : List (S23)) : Option (Int) := bits_asked.l0 k l0 l0 (l0.length : Int) 0
set_option maxHeartbeats 8000000 in
set_option maxRecDepth 100000 in
theorem bits_asked.calls (k : Nat) (A0 : Option Addr) (c0 : Nat) (l0 : List (S23)) (r : Int) (w : World) (hr0 : Kd.C k23 w A0 l0.length l0) (hc0 : l0.length ≤ c0) (h : bits_asked.f k l0 = some r) :
    Calls Tryd.prog 26 #[.slice A0 l0.length c0] w fun e w' => e = .returned (.int .i64 r) ∧ Below w.heap.size w w' := by
  have hu23 := Tryd.underlying23
  have HR0 := Aside0.mk hr0
  have HC0 := Aside0.mk hc0
  clear hr0 hc0
  have HB := Aside0.mk (Below.refl w.heap.size w)
  have H : (bits_asked.l0 k l0 l0 (l0.length : Int) 0) = some r := h
  clear h
  have H' := Aside0.mk H
  clear H
  go_enter Tryd.func26, Tryd.ntmps26
  go_wp2
  repeat (go_quiet (fail); try go_wp2)
  go_loopg [9] k (fun kq v9 w' => ∃ (x9_1 : Int), v9 = .int .i64 x9_1 ∧ Aside0 (bits_asked.l0 kq l0 l0 (l0.length : Int) x9_1 = some r) ∧ Aside0 (kq ≤ k) ∧ Aside0 (Below w.heap.size w w'))
  case atStart => exact ⟨(0), (by first | rfl | (simp; done) | (generalize ByteArray.toList _ = l_; cases l_ <;> rfl) | (simp [*]; done)), H', ⟨Nat.le_refl _⟩, ⟨by repeat (first | (with_reducible first | exact HB.out | apply below_alloc | apply pw_below_drewN | apply below_drew1) | exact HB.out)⟩⟩
  case round =>
    clear H'
    obtain ⟨x9_1, rfl, HA, HK1, HB⟩ := hrel
    cases gk with
    | zero => exact absurd HA.out (by simp [bits_asked.l0])
    | succ k1 =>
      have H := HA.out
      clear HA
      simp only [bits_asked.l0] at H
      by_cases c2 : x9_1 < (l0.length : Int)
      · rw [if_pos c2] at H
        have c2b0 : decide (x9_1 < (l0.length : Int)) = true := decide_eq_true c2
        clear c2
        by_cases c3 : 0 ≤ x9_1
        · rw [if_pos c3] at H
          have c3b0 : decide (0 ≤ x9_1) = true := decide_eq_true c3
          clear c3
          by_cases c4 : x9_1 < (l0.length : Int)
          · rw [if_pos c4] at H
            have c4b0 : decide (x9_1 < (l0.length : Int)) = true := decide_eq_true c4
            clear c4
            replace H := Option.bind_eq_some_iff.mp H
            obtain ⟨t103, A50, H⟩ := H
            replace H : (if t103 = true then (bits_asked.l0 k1 l0 l0 (l0.length : Int) (wrap64 (x9_1 + 1))) else (some 1)) = some r := H
            have A5 := Aside0.mk A50
            clear A50
            by_cases c6 : t103 = true
            · subst c6
              have H1 : (bits_asked.l0 k1 l0 l0 (l0.length : Int) (wrap64 (x9_1 + 1))) = some r := by rw [if_pos rfl] at H; exact H
              clear H
              have H := H1
              clear H1
              have H' := Aside0.mk H
              clear H
              have p101 : 0 ≤ (x9_1 : Int) := of_decide_eq_true (by first | (with_reducible assumption) | assumption)
              have q101 : x9_1 < (l0.length : Int) := of_decide_eq_true (by first | (with_reducible assumption) | assumption)
              obtain ⟨ad101, e101, hx101_0, hx101_1, hx101_2, hx101_3⟩ := at_T23 HR0.out x9_1 p101 q101
              cases e101
              replace hx101_0 := (HB.out.cell (World.block_lt_of_cell? w _ hx101_0)).trans hx101_0
              replace hx101_1 := (HB.out.cell (World.block_lt_of_cell? w _ hx101_1)).trans hx101_1
              replace hx101_2 := (HB.out.cell (World.block_lt_of_cell? w _ hx101_2)).trans hx101_2
              replace hx101_3 := (HB.out.cell (World.block_lt_of_cell? w _ hx101_3)).trans hx101_3
              replace p101 := eq_true p101
              replace q101 := eq_true q101
              go_wp2_with (first | ((with_reducible refine gate_dst (N := 4) rfl ?_); refine box_event ?hg (N := 4) ?hd (cs := #[.int .i64 0, .int .i64 0, .int .i64 0, .string (⟨#[]⟩ : ByteArray)]) (t := 23) ?hr ?_; (case hd => rfl); (case hg => rfl); (case hr => first | (go_simp; done) | (go_simp; rfl)); intro gb102 hg w7 hbox hb; have n0_ := Aside0.mk (below_step (by repeat (first | (with_reducible first | exact HB.out | apply below_alloc | apply pw_below_drewN | apply below_drew1) | exact HB.out)) hb); have n1_ := Aside0.mk (hbox); have n2_ := Aside0.mk ((by rw [hg]; exact (below_size (by repeat (first | (with_reducible first | exact HB.out | apply below_alloc | apply pw_below_drewN | apply below_drew1) | exact HB.out))) : w.heap.size ≤ gb102)); have n3_ := n2_; clear HB; have HB := n0_; have BK102 := n1_; have GW102 := n2_; have GE102 := n3_; clear n0_ n1_ n2_ n3_; clear hb hbox hg; obtain ⟨hcz8_0, hcz8_1, hcz8_2, hcz8_3⟩ := blk_quad BK102.out; obtain ⟨hfz8_0, hfz8_1, hfz8_2, hfz8_3⟩ := blk_quad_free BK102.out) | (go_at_call 8; (with_reducible refine (bits_Valid.calls ((rd_T23 l0 x9_1).f0) ((rd_T23 l0 x9_1).f1) ((rd_T23 l0 x9_1).f2) ((rd_T23 l0 x9_1).f3) true _ A5.out).mono ?_); rintro e w9 ⟨rfl, hb⟩; have n0_ := Aside0.mk (blk_below (g := gb102) (o := .cells #[.int .i64 ((rd_T23 l0 x9_1).f0), .int .i64 ((rd_T23 l0 x9_1).f1), .int .i64 ((rd_T23 l0 x9_1).f2), .string ((rd_T23 l0 x9_1).f3)] 23 (0, 0)) (by refine zk ?_; refine blk_put (cs := #[.int .i64 ((rd_T23 l0 x9_1).f0), .int .i64 ((rd_T23 l0 x9_1).f1), .int .i64 ((rd_T23 l0 x9_1).f2), .string (⟨#[]⟩ : ByteArray)]) ?_ 3 _ rfl; refine zk ?_; refine blk_put (cs := #[.int .i64 ((rd_T23 l0 x9_1).f0), .int .i64 ((rd_T23 l0 x9_1).f1), .int .i64 0, .string (⟨#[]⟩ : ByteArray)]) ?_ 2 _ rfl; refine zk ?_; refine blk_put (cs := #[.int .i64 ((rd_T23 l0 x9_1).f0), .int .i64 0, .int .i64 0, .string (⟨#[]⟩ : ByteArray)]) ?_ 1 _ rfl; refine zk ?_; refine blk_put (cs := #[.int .i64 0, .int .i64 0, .int .i64 0, .string (⟨#[]⟩ : ByteArray)]) ?_ 0 _ rfl; refine zk ?_; exact BK102.out) hb); have n1_ := Aside0.mk (below_step (by repeat (first | (with_reducible first | exact HB.out | apply below_alloc | apply pw_below_drewN | apply below_drew1 | refine below_set ?_ GE102.out) | exact HB.out)) hb); clear BK102; clear HB; have BK102 := n0_; have HB := n1_; clear n0_ n1_; (try clear hb); (try clear hb2); (try clear hk); (try clear hi)))
              repeat (go_quiet (first | ((with_reducible refine gate_dst (N := 4) rfl ?_); refine box_event ?hg (N := 4) ?hd (cs := #[.int .i64 0, .int .i64 0, .int .i64 0, .string (⟨#[]⟩ : ByteArray)]) (t := 23) ?hr ?_; (case hd => rfl); (case hg => rfl); (case hr => first | (go_simp; done) | (go_simp; rfl)); intro gb102 hg w7 hbox hb; have n0_ := Aside0.mk (below_step (by repeat (first | (with_reducible first | exact HB.out | apply below_alloc | apply pw_below_drewN | apply below_drew1) | exact HB.out)) hb); have n1_ := Aside0.mk (hbox); have n2_ := Aside0.mk ((by rw [hg]; exact (below_size (by repeat (first | (with_reducible first | exact HB.out | apply below_alloc | apply pw_below_drewN | apply below_drew1) | exact HB.out))) : w.heap.size ≤ gb102)); have n3_ := n2_; clear HB; have HB := n0_; have BK102 := n1_; have GW102 := n2_; have GE102 := n3_; clear n0_ n1_ n2_ n3_; clear hb hbox hg; obtain ⟨hcz8_0, hcz8_1, hcz8_2, hcz8_3⟩ := blk_quad BK102.out; obtain ⟨hfz8_0, hfz8_1, hfz8_2, hfz8_3⟩ := blk_quad_free BK102.out) | (go_at_call 8; (with_reducible refine (bits_Valid.calls ((rd_T23 l0 x9_1).f0) ((rd_T23 l0 x9_1).f1) ((rd_T23 l0 x9_1).f2) ((rd_T23 l0 x9_1).f3) true _ A5.out).mono ?_); rintro e w9 ⟨rfl, hb⟩; have n0_ := Aside0.mk (blk_below (g := gb102) (o := .cells #[.int .i64 ((rd_T23 l0 x9_1).f0), .int .i64 ((rd_T23 l0 x9_1).f1), .int .i64 ((rd_T23 l0 x9_1).f2), .string ((rd_T23 l0 x9_1).f3)] 23 (0, 0)) (by refine zk ?_; refine blk_put (cs := #[.int .i64 ((rd_T23 l0 x9_1).f0), .int .i64 ((rd_T23 l0 x9_1).f1), .int .i64 ((rd_T23 l0 x9_1).f2), .string (⟨#[]⟩ : ByteArray)]) ?_ 3 _ rfl; refine zk ?_; refine blk_put (cs := #[.int .i64 ((rd_T23 l0 x9_1).f0), .int .i64 ((rd_T23 l0 x9_1).f1), .int .i64 0, .string (⟨#[]⟩ : ByteArray)]) ?_ 2 _ rfl; refine zk ?_; refine blk_put (cs := #[.int .i64 ((rd_T23 l0 x9_1).f0), .int .i64 0, .int .i64 0, .string (⟨#[]⟩ : ByteArray)]) ?_ 1 _ rfl; refine zk ?_; refine blk_put (cs := #[.int .i64 0, .int .i64 0, .int .i64 0, .string (⟨#[]⟩ : ByteArray)]) ?_ 0 _ rfl; refine zk ?_; exact BK102.out) hb); have n1_ := Aside0.mk (below_step (by repeat (first | (with_reducible first | exact HB.out | apply below_alloc | apply pw_below_drewN | apply below_drew1 | refine below_set ?_ GE102.out) | exact HB.out)) hb); clear BK102; clear HB; have BK102 := n0_; have HB := n1_; clear n0_ n1_; (try clear hb); (try clear hb2); (try clear hk); (try clear hi))); try go_wp2_with (first | ((with_reducible refine gate_dst (N := 4) rfl ?_); refine box_event ?hg (N := 4) ?hd (cs := #[.int .i64 0, .int .i64 0, .int .i64 0, .string (⟨#[]⟩ : ByteArray)]) (t := 23) ?hr ?_; (case hd => rfl); (case hg => rfl); (case hr => first | (go_simp; done) | (go_simp; rfl)); intro gb102 hg w7 hbox hb; have n0_ := Aside0.mk (below_step (by repeat (first | (with_reducible first | exact HB.out | apply below_alloc | apply pw_below_drewN | apply below_drew1) | exact HB.out)) hb); have n1_ := Aside0.mk (hbox); have n2_ := Aside0.mk ((by rw [hg]; exact (below_size (by repeat (first | (with_reducible first | exact HB.out | apply below_alloc | apply pw_below_drewN | apply below_drew1) | exact HB.out))) : w.heap.size ≤ gb102)); have n3_ := n2_; clear HB; have HB := n0_; have BK102 := n1_; have GW102 := n2_; have GE102 := n3_; clear n0_ n1_ n2_ n3_; clear hb hbox hg; obtain ⟨hcz8_0, hcz8_1, hcz8_2, hcz8_3⟩ := blk_quad BK102.out; obtain ⟨hfz8_0, hfz8_1, hfz8_2, hfz8_3⟩ := blk_quad_free BK102.out) | (go_at_call 8; (with_reducible refine (bits_Valid.calls ((rd_T23 l0 x9_1).f0) ((rd_T23 l0 x9_1).f1) ((rd_T23 l0 x9_1).f2) ((rd_T23 l0 x9_1).f3) true _ A5.out).mono ?_); rintro e w9 ⟨rfl, hb⟩; have n0_ := Aside0.mk (blk_below (g := gb102) (o := .cells #[.int .i64 ((rd_T23 l0 x9_1).f0), .int .i64 ((rd_T23 l0 x9_1).f1), .int .i64 ((rd_T23 l0 x9_1).f2), .string ((rd_T23 l0 x9_1).f3)] 23 (0, 0)) (by refine zk ?_; refine blk_put (cs := #[.int .i64 ((rd_T23 l0 x9_1).f0), .int .i64 ((rd_T23 l0 x9_1).f1), .int .i64 ((rd_T23 l0 x9_1).f2), .string (⟨#[]⟩ : ByteArray)]) ?_ 3 _ rfl; refine zk ?_; refine blk_put (cs := #[.int .i64 ((rd_T23 l0 x9_1).f0), .int .i64 ((rd_T23 l0 x9_1).f1), .int .i64 0, .string (⟨#[]⟩ : ByteArray)]) ?_ 2 _ rfl; refine zk ?_; refine blk_put (cs := #[.int .i64 ((rd_T23 l0 x9_1).f0), .int .i64 0, .int .i64 0, .string (⟨#[]⟩ : ByteArray)]) ?_ 1 _ rfl; refine zk ?_; refine blk_put (cs := #[.int .i64 0, .int .i64 0, .int .i64 0, .string (⟨#[]⟩ : ByteArray)]) ?_ 0 _ rfl; refine zk ?_; exact BK102.out) hb); have n1_ := Aside0.mk (below_step (by repeat (first | (with_reducible first | exact HB.out | apply below_alloc | apply pw_below_drewN | apply below_drew1 | refine below_set ?_ GE102.out) | exact HB.out)) hb); clear BK102; clear HB; have BK102 := n0_; have HB := n1_; clear n0_ n1_; (try clear hb); (try clear hb2); (try clear hk); (try clear hi))))
              go_roundg k1
              case measure => have := HK1.out; omega
              case rel => exact ⟨(wrap64 (x9_1 + 1)), (by first | rfl | (simp; done) | (generalize ByteArray.toList _ = l_; cases l_ <;> rfl) | (simp [*]; done)), H', ⟨by have := HK1.out; omega⟩, ⟨by repeat (first | (with_reducible first | exact HB.out | apply below_alloc | apply pw_below_drewN | apply below_drew1 | refine below_set ?_ GE102.out) | exact HB.out)⟩⟩
            · replace c6 := Bool.eq_false_iff.mpr c6
              subst c6
              have H1 : (some 1) = some r := by rw [if_neg (show ¬ (false = true) by decide)] at H; exact H
              clear H
              have H := H1
              clear H1
              obtain rfl := Option.some.inj H
              have p101 : 0 ≤ (x9_1 : Int) := of_decide_eq_true (by first | (with_reducible assumption) | assumption)
              have q101 : x9_1 < (l0.length : Int) := of_decide_eq_true (by first | (with_reducible assumption) | assumption)
              obtain ⟨ad101, e101, hx101_0, hx101_1, hx101_2, hx101_3⟩ := at_T23 HR0.out x9_1 p101 q101
              cases e101
              replace hx101_0 := (HB.out.cell (World.block_lt_of_cell? w _ hx101_0)).trans hx101_0
              replace hx101_1 := (HB.out.cell (World.block_lt_of_cell? w _ hx101_1)).trans hx101_1
              replace hx101_2 := (HB.out.cell (World.block_lt_of_cell? w _ hx101_2)).trans hx101_2
              replace hx101_3 := (HB.out.cell (World.block_lt_of_cell? w _ hx101_3)).trans hx101_3
              replace p101 := eq_true p101
              replace q101 := eq_true q101
              go_wp2_with (first | ((with_reducible refine gate_dst (N := 4) rfl ?_); refine box_event ?hg (N := 4) ?hd (cs := #[.int .i64 0, .int .i64 0, .int .i64 0, .string (⟨#[]⟩ : ByteArray)]) (t := 23) ?hr ?_; (case hd => rfl); (case hg => rfl); (case hr => first | (go_simp; done) | (go_simp; rfl)); intro gb102 hg w10 hbox hb; have n0_ := Aside0.mk (below_step (by repeat (first | (with_reducible first | exact HB.out | apply below_alloc | apply pw_below_drewN | apply below_drew1) | exact HB.out)) hb); have n1_ := Aside0.mk (hbox); have n2_ := Aside0.mk ((by rw [hg]; exact (below_size (by repeat (first | (with_reducible first | exact HB.out | apply below_alloc | apply pw_below_drewN | apply below_drew1) | exact HB.out))) : w.heap.size ≤ gb102)); have n3_ := n2_; clear HB; have HB := n0_; have BK102 := n1_; have GW102 := n2_; have GE102 := n3_; clear n0_ n1_ n2_ n3_; clear hb hbox hg; obtain ⟨hcz11_0, hcz11_1, hcz11_2, hcz11_3⟩ := blk_quad BK102.out; obtain ⟨hfz11_0, hfz11_1, hfz11_2, hfz11_3⟩ := blk_quad_free BK102.out) | (go_at_call 8; (with_reducible refine (bits_Valid.calls ((rd_T23 l0 x9_1).f0) ((rd_T23 l0 x9_1).f1) ((rd_T23 l0 x9_1).f2) ((rd_T23 l0 x9_1).f3) false _ A5.out).mono ?_); rintro e w12 ⟨rfl, hb⟩; have n0_ := Aside0.mk (blk_below (g := gb102) (o := .cells #[.int .i64 ((rd_T23 l0 x9_1).f0), .int .i64 ((rd_T23 l0 x9_1).f1), .int .i64 ((rd_T23 l0 x9_1).f2), .string ((rd_T23 l0 x9_1).f3)] 23 (0, 0)) (by refine zk ?_; refine blk_put (cs := #[.int .i64 ((rd_T23 l0 x9_1).f0), .int .i64 ((rd_T23 l0 x9_1).f1), .int .i64 ((rd_T23 l0 x9_1).f2), .string (⟨#[]⟩ : ByteArray)]) ?_ 3 _ rfl; refine zk ?_; refine blk_put (cs := #[.int .i64 ((rd_T23 l0 x9_1).f0), .int .i64 ((rd_T23 l0 x9_1).f1), .int .i64 0, .string (⟨#[]⟩ : ByteArray)]) ?_ 2 _ rfl; refine zk ?_; refine blk_put (cs := #[.int .i64 ((rd_T23 l0 x9_1).f0), .int .i64 0, .int .i64 0, .string (⟨#[]⟩ : ByteArray)]) ?_ 1 _ rfl; refine zk ?_; refine blk_put (cs := #[.int .i64 0, .int .i64 0, .int .i64 0, .string (⟨#[]⟩ : ByteArray)]) ?_ 0 _ rfl; refine zk ?_; exact BK102.out) hb); have n1_ := Aside0.mk (below_step (by repeat (first | (with_reducible first | exact HB.out | apply below_alloc | apply pw_below_drewN | apply below_drew1 | refine below_set ?_ GE102.out) | exact HB.out)) hb); clear BK102; clear HB; have BK102 := n0_; have HB := n1_; clear n0_ n1_; (try clear hb); (try clear hb2); (try clear hk); (try clear hi)))
              repeat (go_quiet (first | ((with_reducible refine gate_dst (N := 4) rfl ?_); refine box_event ?hg (N := 4) ?hd (cs := #[.int .i64 0, .int .i64 0, .int .i64 0, .string (⟨#[]⟩ : ByteArray)]) (t := 23) ?hr ?_; (case hd => rfl); (case hg => rfl); (case hr => first | (go_simp; done) | (go_simp; rfl)); intro gb102 hg w10 hbox hb; have n0_ := Aside0.mk (below_step (by repeat (first | (with_reducible first | exact HB.out | apply below_alloc | apply pw_below_drewN | apply below_drew1) | exact HB.out)) hb); have n1_ := Aside0.mk (hbox); have n2_ := Aside0.mk ((by rw [hg]; exact (below_size (by repeat (first | (with_reducible first | exact HB.out | apply below_alloc | apply pw_below_drewN | apply below_drew1) | exact HB.out))) : w.heap.size ≤ gb102)); have n3_ := n2_; clear HB; have HB := n0_; have BK102 := n1_; have GW102 := n2_; have GE102 := n3_; clear n0_ n1_ n2_ n3_; clear hb hbox hg; obtain ⟨hcz11_0, hcz11_1, hcz11_2, hcz11_3⟩ := blk_quad BK102.out; obtain ⟨hfz11_0, hfz11_1, hfz11_2, hfz11_3⟩ := blk_quad_free BK102.out) | (go_at_call 8; (with_reducible refine (bits_Valid.calls ((rd_T23 l0 x9_1).f0) ((rd_T23 l0 x9_1).f1) ((rd_T23 l0 x9_1).f2) ((rd_T23 l0 x9_1).f3) false _ A5.out).mono ?_); rintro e w12 ⟨rfl, hb⟩; have n0_ := Aside0.mk (blk_below (g := gb102) (o := .cells #[.int .i64 ((rd_T23 l0 x9_1).f0), .int .i64 ((rd_T23 l0 x9_1).f1), .int .i64 ((rd_T23 l0 x9_1).f2), .string ((rd_T23 l0 x9_1).f3)] 23 (0, 0)) (by refine zk ?_; refine blk_put (cs := #[.int .i64 ((rd_T23 l0 x9_1).f0), .int .i64 ((rd_T23 l0 x9_1).f1), .int .i64 ((rd_T23 l0 x9_1).f2), .string (⟨#[]⟩ : ByteArray)]) ?_ 3 _ rfl; refine zk ?_; refine blk_put (cs := #[.int .i64 ((rd_T23 l0 x9_1).f0), .int .i64 ((rd_T23 l0 x9_1).f1), .int .i64 0, .string (⟨#[]⟩ : ByteArray)]) ?_ 2 _ rfl; refine zk ?_; refine blk_put (cs := #[.int .i64 ((rd_T23 l0 x9_1).f0), .int .i64 0, .int .i64 0, .string (⟨#[]⟩ : ByteArray)]) ?_ 1 _ rfl; refine zk ?_; refine blk_put (cs := #[.int .i64 0, .int .i64 0, .int .i64 0, .string (⟨#[]⟩ : ByteArray)]) ?_ 0 _ rfl; refine zk ?_; exact BK102.out) hb); have n1_ := Aside0.mk (below_step (by repeat (first | (with_reducible first | exact HB.out | apply below_alloc | apply pw_below_drewN | apply below_drew1 | refine below_set ?_ GE102.out) | exact HB.out)) hb); clear BK102; clear HB; have BK102 := n0_; have HB := n1_; clear n0_ n1_; (try clear hb); (try clear hb2); (try clear hk); (try clear hi))); try go_wp2_with (first | ((with_reducible refine gate_dst (N := 4) rfl ?_); refine box_event ?hg (N := 4) ?hd (cs := #[.int .i64 0, .int .i64 0, .int .i64 0, .string (⟨#[]⟩ : ByteArray)]) (t := 23) ?hr ?_; (case hd => rfl); (case hg => rfl); (case hr => first | (go_simp; done) | (go_simp; rfl)); intro gb102 hg w10 hbox hb; have n0_ := Aside0.mk (below_step (by repeat (first | (with_reducible first | exact HB.out | apply below_alloc | apply pw_below_drewN | apply below_drew1) | exact HB.out)) hb); have n1_ := Aside0.mk (hbox); have n2_ := Aside0.mk ((by rw [hg]; exact (below_size (by repeat (first | (with_reducible first | exact HB.out | apply below_alloc | apply pw_below_drewN | apply below_drew1) | exact HB.out))) : w.heap.size ≤ gb102)); have n3_ := n2_; clear HB; have HB := n0_; have BK102 := n1_; have GW102 := n2_; have GE102 := n3_; clear n0_ n1_ n2_ n3_; clear hb hbox hg; obtain ⟨hcz11_0, hcz11_1, hcz11_2, hcz11_3⟩ := blk_quad BK102.out; obtain ⟨hfz11_0, hfz11_1, hfz11_2, hfz11_3⟩ := blk_quad_free BK102.out) | (go_at_call 8; (with_reducible refine (bits_Valid.calls ((rd_T23 l0 x9_1).f0) ((rd_T23 l0 x9_1).f1) ((rd_T23 l0 x9_1).f2) ((rd_T23 l0 x9_1).f3) false _ A5.out).mono ?_); rintro e w12 ⟨rfl, hb⟩; have n0_ := Aside0.mk (blk_below (g := gb102) (o := .cells #[.int .i64 ((rd_T23 l0 x9_1).f0), .int .i64 ((rd_T23 l0 x9_1).f1), .int .i64 ((rd_T23 l0 x9_1).f2), .string ((rd_T23 l0 x9_1).f3)] 23 (0, 0)) (by refine zk ?_; refine blk_put (cs := #[.int .i64 ((rd_T23 l0 x9_1).f0), .int .i64 ((rd_T23 l0 x9_1).f1), .int .i64 ((rd_T23 l0 x9_1).f2), .string (⟨#[]⟩ : ByteArray)]) ?_ 3 _ rfl; refine zk ?_; refine blk_put (cs := #[.int .i64 ((rd_T23 l0 x9_1).f0), .int .i64 ((rd_T23 l0 x9_1).f1), .int .i64 0, .string (⟨#[]⟩ : ByteArray)]) ?_ 2 _ rfl; refine zk ?_; refine blk_put (cs := #[.int .i64 ((rd_T23 l0 x9_1).f0), .int .i64 0, .int .i64 0, .string (⟨#[]⟩ : ByteArray)]) ?_ 1 _ rfl; refine zk ?_; refine blk_put (cs := #[.int .i64 0, .int .i64 0, .int .i64 0, .string (⟨#[]⟩ : ByteArray)]) ?_ 0 _ rfl; refine zk ?_; exact BK102.out) hb); have n1_ := Aside0.mk (below_step (by repeat (first | (with_reducible first | exact HB.out | apply below_alloc | apply pw_below_drewN | apply below_drew1 | refine below_set ?_ GE102.out) | exact HB.out)) hb); clear BK102; clear HB; have BK102 := n0_; have HB := n1_; clear n0_ n1_; (try clear hb); (try clear hb2); (try clear hk); (try clear hi))))
              go_ret
              exact ⟨by first | rfl | (simp [errW_none, errW_some] <;> rfl) | (simp [*, errW_none, errW_some] <;> rfl), by repeat (first | (with_reducible first | exact HB.out | apply below_alloc | apply pw_below_drewN | apply below_drew1 | refine below_set ?_ GE102.out) | exact HB.out)⟩
          · rw [if_neg c4] at H
            exact absurd H (by simp)
        · rw [if_neg c3] at H
          exact absurd H (by simp)
      · rw [if_neg c2] at H
        have c2b0 : decide (x9_1 < (l0.length : Int)) = false := decide_eq_false c2
        clear c2
        have H' := Aside0.mk H
        clear H
        go_wp2
        repeat (go_quiet (fail); try go_wp2)
        go_loopg [19] k1 (fun kq v19 w' => ∃ (x19_2 : Int), v19 = .int .i64 x19_2 ∧ Aside0 (bits_asked.l1 kq l0 l0 (l0.length : Int) x19_2 = some r) ∧ Aside0 (kq ≤ k1) ∧ Aside0 (Below w.heap.size w w'))
        case atStart => exact ⟨(0), (by first | rfl | (simp; done) | (generalize ByteArray.toList _ = l_; cases l_ <;> rfl) | (simp [*]; done)), H', ⟨Nat.le_refl _⟩, ⟨by repeat (first | (with_reducible first | exact HB.out | apply below_alloc | apply pw_below_drewN | apply below_drew1) | exact HB.out)⟩⟩
        case round =>
          clear H'
          try clear p1
          try clear q1
          try clear hx1
          try clear c2
          try clear c2b0
          try clear p2
          try clear c3
          try clear c3b0
          try clear c4
          try clear c4b0
          try clear c6
          try clear p6
          try clear p10
          try clear q10
          try clear hx10
          try clear hcz11_0 hcz11_1 hcz11_2 hcz11_3
          try clear hcz8_0 hcz8_1 hcz8_2 hcz8_3
          try clear hfz11_0 hfz11_1 hfz11_2 hfz11_3
          try clear hfz8_0 hfz8_1 hfz8_2 hfz8_3
          try clear hx101_0
          try clear hx101_1
          try clear hx101_2
          try clear hx101_3
          try clear p101
          try clear q101
          obtain ⟨x19_2, rfl, HA, HK2, HB⟩ := hrel
          cases gk with
          | zero => exact absurd HA.out (by simp [bits_asked.l1])
          | succ k2 =>
            have H := HA.out
            clear HA
            simp only [bits_asked.l1] at H
            by_cases c13 : x19_2 < (l0.length : Int)
            · rw [if_pos c13] at H
              have c13b0 : decide (x19_2 < (l0.length : Int)) = true := decide_eq_true c13
              clear c13
              by_cases c14 : 0 ≤ x19_2
              · rw [if_pos c14] at H
                have c14b0 : decide (0 ≤ x19_2) = true := decide_eq_true c14
                clear c14
                by_cases c15 : x19_2 < (l0.length : Int)
                · rw [if_pos c15] at H
                  have c15b0 : decide (x19_2 < (l0.length : Int)) = true := decide_eq_true c15
                  clear c15
                  by_cases c16 : 0 < (l0.length : Int)
                  · rw [if_pos c16] at H
                    have c16b0 : decide (0 < (l0.length : Int)) = true := decide_eq_true c16
                    have c16b1 : decide (0 < l0.length) = true := decide_eq_true (by omega)
                    clear c16
                    by_cases c17 : ((rd_T23 l0 x19_2).f0) = ((rd_T23 l0 0).f0)
                    · rw [if_pos c17] at H
                      have c17b0 : (((rd_T23 l0 x19_2).f0) == ((rd_T23 l0 0).f0)) = true := beq_iff_eq.mpr c17
                      have c17b1 : (((rd_T23 l0 x19_2).f0) != ((rd_T23 l0 0).f0)) = false := bne_eq_false_iff_eq.mpr c17
                      clear c17
                      have H' := Aside0.mk H
                      clear H
                      have p104 : 0 ≤ (x19_2 : Int) := of_decide_eq_true (by first | (with_reducible assumption) | assumption)
                      have q104 : x19_2 < (l0.length : Int) := of_decide_eq_true (by first | (with_reducible assumption) | assumption)
                      obtain ⟨ad104, e104, hx104_0, hx104_1, hx104_2, hx104_3⟩ := at_T23 HR0.out x19_2 p104 q104
                      cases e104
                      replace hx104_0 := (HB.out.cell (World.block_lt_of_cell? w _ hx104_0)).trans hx104_0
                      replace hx104_1 := (HB.out.cell (World.block_lt_of_cell? w _ hx104_1)).trans hx104_1
                      replace hx104_2 := (HB.out.cell (World.block_lt_of_cell? w _ hx104_2)).trans hx104_2
                      replace hx104_3 := (HB.out.cell (World.block_lt_of_cell? w _ hx104_3)).trans hx104_3
                      replace p104 := eq_true p104
                      replace q104 := eq_true q104
                      go_wp2_with (first | ((with_reducible refine gate_dst (N := 6) rfl ?_); refine box_event ?hg (N := 6) ?hd (cs := #[.int .i64 0, .int .i64 0, .int .i64 0, .string (⟨#[]⟩ : ByteArray)]) (t := 23) ?hr ?_; (case hd => rfl); (case hg => rfl); (case hr => first | (go_simp; done) | (go_simp; rfl)); intro gb105 hg w18 hbox hb; have n0_ := Aside0.mk (below_step (by repeat (first | (with_reducible first | exact HB.out | apply below_alloc | apply pw_below_drewN | apply below_drew1) | exact HB.out)) hb); have n1_ := Aside0.mk (hbox); have n2_ := Aside0.mk ((by rw [hg]; exact (below_size (by repeat (first | (with_reducible first | exact HB.out | apply below_alloc | apply pw_below_drewN | apply below_drew1) | exact HB.out))) : w.heap.size ≤ gb105)); have n3_ := n2_; clear HB; have HB := n0_; have BK105 := n1_; have GW105 := n2_; have GE105 := n3_; clear n0_ n1_ n2_ n3_; clear hb hbox hg; obtain ⟨hcz19_0, hcz19_1, hcz19_2, hcz19_3⟩ := blk_quad BK105.out; obtain ⟨hfz19_0, hfz19_1, hfz19_2, hfz19_3⟩ := blk_quad_free BK105.out; have p106 : 0 ≤ (0 : Int) := (by omega); have q106 : 0 < (l0.length : Int) := of_decide_eq_true (by first | (with_reducible assumption) | assumption); obtain ⟨ad106, e106, hx106_0, hx106_1, hx106_2, hx106_3⟩ := at_T23 HR0.out 0 p106 q106; obtain rfl : ad104 = ad106 := (by injection e106); have qi106 : (0 < l0.length) = True := eq_true (by omega); (try rw [show ((0 : Int)).toNat = 0 from rfl] at hx106_0); (try rw [show 0 * 4 = 0 from rfl] at hx106_0); (try rw [Addr.add_zero'] at hx106_0); (try rw [show ((0 : Int)).toNat = 0 from rfl] at hx106_1); (try rw [show 0 * 4 = 0 from rfl] at hx106_1); (try rw [Addr.add_zero'] at hx106_1); (try rw [show ((0 : Int)).toNat = 0 from rfl] at hx106_2); (try rw [show 0 * 4 = 0 from rfl] at hx106_2); (try rw [Addr.add_zero'] at hx106_2); (try rw [show ((0 : Int)).toNat = 0 from rfl] at hx106_3); (try rw [show 0 * 4 = 0 from rfl] at hx106_3); (try rw [Addr.add_zero'] at hx106_3); have hn106_0 : ad104.block ≠ gb105 := Nat.ne_of_lt (Nat.lt_of_lt_of_le (by have := World.block_lt_of_cell? _ _ hx106_0; first | rwa [add_block] at this | exact this) GW105.out); have hn106_1 : ad104.block ≠ gb105 := Nat.ne_of_lt (Nat.lt_of_lt_of_le (by have := World.block_lt_of_cell? _ _ hx106_0; first | rwa [add_block] at this | exact this) GW105.out); have hn106_2 : ad104.block ≠ gb105 := Nat.ne_of_lt (Nat.lt_of_lt_of_le (by have := World.block_lt_of_cell? _ _ hx106_0; first | rwa [add_block] at this | exact this) GW105.out); have hn106_3 : ad104.block ≠ gb105 := Nat.ne_of_lt (Nat.lt_of_lt_of_le (by have := World.block_lt_of_cell? _ _ hx106_0; first | rwa [add_block] at this | exact this) GW105.out); replace hx106_0 := (HB.out.cell (World.block_lt_of_cell? w _ hx106_0)).trans hx106_0; replace hx106_1 := (HB.out.cell (World.block_lt_of_cell? w _ hx106_1)).trans hx106_1; replace hx106_2 := (HB.out.cell (World.block_lt_of_cell? w _ hx106_2)).trans hx106_2; replace hx106_3 := (HB.out.cell (World.block_lt_of_cell? w _ hx106_3)).trans hx106_3; replace hx106_0 := (cell_far (p := ⟨gb105, 0, none⟩) (by first | (rw [add_block]; exact hn106_0) | (show (Addr.add _ _).block ≠ _; rw [add_block]; exact hn106_0) | exact hn106_0) (.int .i64 ((rd_T23 l0 x19_2).f0))).trans hx106_0; replace hx106_1 := (cell_far (p := ⟨gb105, 0, none⟩) (by first | (rw [add_block]; exact hn106_0) | (show (Addr.add _ _).block ≠ _; rw [add_block]; exact hn106_0) | exact hn106_0) (.int .i64 ((rd_T23 l0 x19_2).f0))).trans hx106_1; replace hx106_2 := (cell_far (p := ⟨gb105, 0, none⟩) (by first | (rw [add_block]; exact hn106_0) | (show (Addr.add _ _).block ≠ _; rw [add_block]; exact hn106_0) | exact hn106_0) (.int .i64 ((rd_T23 l0 x19_2).f0))).trans hx106_2; replace hx106_3 := (cell_far (p := ⟨gb105, 0, none⟩) (by first | (rw [add_block]; exact hn106_0) | (show (Addr.add _ _).block ≠ _; rw [add_block]; exact hn106_0) | exact hn106_0) (.int .i64 ((rd_T23 l0 x19_2).f0))).trans hx106_3; replace hx106_0 := (cell_far (p := ⟨gb105, 1, none⟩) (by first | (rw [add_block]; exact hn106_1) | (show (Addr.add _ _).block ≠ _; rw [add_block]; exact hn106_1) | exact hn106_1) (.int .i64 ((rd_T23 l0 x19_2).f1))).trans hx106_0; replace hx106_1 := (cell_far (p := ⟨gb105, 1, none⟩) (by first | (rw [add_block]; exact hn106_1) | (show (Addr.add _ _).block ≠ _; rw [add_block]; exact hn106_1) | exact hn106_1) (.int .i64 ((rd_T23 l0 x19_2).f1))).trans hx106_1; replace hx106_2 := (cell_far (p := ⟨gb105, 1, none⟩) (by first | (rw [add_block]; exact hn106_1) | (show (Addr.add _ _).block ≠ _; rw [add_block]; exact hn106_1) | exact hn106_1) (.int .i64 ((rd_T23 l0 x19_2).f1))).trans hx106_2; replace hx106_3 := (cell_far (p := ⟨gb105, 1, none⟩) (by first | (rw [add_block]; exact hn106_1) | (show (Addr.add _ _).block ≠ _; rw [add_block]; exact hn106_1) | exact hn106_1) (.int .i64 ((rd_T23 l0 x19_2).f1))).trans hx106_3; replace hx106_0 := (cell_far (p := ⟨gb105, 2, none⟩) (by first | (rw [add_block]; exact hn106_2) | (show (Addr.add _ _).block ≠ _; rw [add_block]; exact hn106_2) | exact hn106_2) (.int .i64 ((rd_T23 l0 x19_2).f2))).trans hx106_0; replace hx106_1 := (cell_far (p := ⟨gb105, 2, none⟩) (by first | (rw [add_block]; exact hn106_2) | (show (Addr.add _ _).block ≠ _; rw [add_block]; exact hn106_2) | exact hn106_2) (.int .i64 ((rd_T23 l0 x19_2).f2))).trans hx106_1; replace hx106_2 := (cell_far (p := ⟨gb105, 2, none⟩) (by first | (rw [add_block]; exact hn106_2) | (show (Addr.add _ _).block ≠ _; rw [add_block]; exact hn106_2) | exact hn106_2) (.int .i64 ((rd_T23 l0 x19_2).f2))).trans hx106_2; replace hx106_3 := (cell_far (p := ⟨gb105, 2, none⟩) (by first | (rw [add_block]; exact hn106_2) | (show (Addr.add _ _).block ≠ _; rw [add_block]; exact hn106_2) | exact hn106_2) (.int .i64 ((rd_T23 l0 x19_2).f2))).trans hx106_3; replace hx106_0 := (cell_far (p := ⟨gb105, 3, none⟩) (by first | (rw [add_block]; exact hn106_3) | (show (Addr.add _ _).block ≠ _; rw [add_block]; exact hn106_3) | exact hn106_3) (.string ((rd_T23 l0 x19_2).f3))).trans hx106_0; replace hx106_1 := (cell_far (p := ⟨gb105, 3, none⟩) (by first | (rw [add_block]; exact hn106_3) | (show (Addr.add _ _).block ≠ _; rw [add_block]; exact hn106_3) | exact hn106_3) (.string ((rd_T23 l0 x19_2).f3))).trans hx106_1; replace hx106_2 := (cell_far (p := ⟨gb105, 3, none⟩) (by first | (rw [add_block]; exact hn106_3) | (show (Addr.add _ _).block ≠ _; rw [add_block]; exact hn106_3) | exact hn106_3) (.string ((rd_T23 l0 x19_2).f3))).trans hx106_2; replace hx106_3 := (cell_far (p := ⟨gb105, 3, none⟩) (by first | (rw [add_block]; exact hn106_3) | (show (Addr.add _ _).block ≠ _; rw [add_block]; exact hn106_3) | exact hn106_3) (.string ((rd_T23 l0 x19_2).f3))).trans hx106_3; (try have hy106_0 := fun (n_ : Nat) => (show ((((((w18.drewN n_).setCell ⟨gb105, 0, none⟩ (.int .i64 ((rd_T23 l0 x19_2).f0))).setCell ⟨gb105, 1, none⟩ (.int .i64 ((rd_T23 l0 x19_2).f1))).setCell ⟨gb105, 2, none⟩ (.int .i64 ((rd_T23 l0 x19_2).f2))).setCell ⟨gb105, 3, none⟩ (.string ((rd_T23 l0 x19_2).f3)))).cell? _ = some _ from hx106_0)); (try have hy106_1 := fun (n_ : Nat) => (show ((((((w18.drewN n_).setCell ⟨gb105, 0, none⟩ (.int .i64 ((rd_T23 l0 x19_2).f0))).setCell ⟨gb105, 1, none⟩ (.int .i64 ((rd_T23 l0 x19_2).f1))).setCell ⟨gb105, 2, none⟩ (.int .i64 ((rd_T23 l0 x19_2).f2))).setCell ⟨gb105, 3, none⟩ (.string ((rd_T23 l0 x19_2).f3)))).cell? _ = some _ from hx106_1)); (try have hy106_2 := fun (n_ : Nat) => (show ((((((w18.drewN n_).setCell ⟨gb105, 0, none⟩ (.int .i64 ((rd_T23 l0 x19_2).f0))).setCell ⟨gb105, 1, none⟩ (.int .i64 ((rd_T23 l0 x19_2).f1))).setCell ⟨gb105, 2, none⟩ (.int .i64 ((rd_T23 l0 x19_2).f2))).setCell ⟨gb105, 3, none⟩ (.string ((rd_T23 l0 x19_2).f3)))).cell? _ = some _ from hx106_2)); (try have hy106_3 := fun (n_ : Nat) => (show ((((((w18.drewN n_).setCell ⟨gb105, 0, none⟩ (.int .i64 ((rd_T23 l0 x19_2).f0))).setCell ⟨gb105, 1, none⟩ (.int .i64 ((rd_T23 l0 x19_2).f1))).setCell ⟨gb105, 2, none⟩ (.int .i64 ((rd_T23 l0 x19_2).f2))).setCell ⟨gb105, 3, none⟩ (.string ((rd_T23 l0 x19_2).f3)))).cell? _ = some _ from hx106_3)); clear hn106_0; clear hn106_1; clear hn106_2; clear hn106_3; replace p106 := eq_true p106; replace q106 := eq_true q106))
                      repeat (go_quiet (first | ((with_reducible refine gate_dst (N := 6) rfl ?_); refine box_event ?hg (N := 6) ?hd (cs := #[.int .i64 0, .int .i64 0, .int .i64 0, .string (⟨#[]⟩ : ByteArray)]) (t := 23) ?hr ?_; (case hd => rfl); (case hg => rfl); (case hr => first | (go_simp; done) | (go_simp; rfl)); intro gb105 hg w18 hbox hb; have n0_ := Aside0.mk (below_step (by repeat (first | (with_reducible first | exact HB.out | apply below_alloc | apply pw_below_drewN | apply below_drew1) | exact HB.out)) hb); have n1_ := Aside0.mk (hbox); have n2_ := Aside0.mk ((by rw [hg]; exact (below_size (by repeat (first | (with_reducible first | exact HB.out | apply below_alloc | apply pw_below_drewN | apply below_drew1) | exact HB.out))) : w.heap.size ≤ gb105)); have n3_ := n2_; clear HB; have HB := n0_; have BK105 := n1_; have GW105 := n2_; have GE105 := n3_; clear n0_ n1_ n2_ n3_; clear hb hbox hg; obtain ⟨hcz19_0, hcz19_1, hcz19_2, hcz19_3⟩ := blk_quad BK105.out; obtain ⟨hfz19_0, hfz19_1, hfz19_2, hfz19_3⟩ := blk_quad_free BK105.out; have p106 : 0 ≤ (0 : Int) := (by omega); have q106 : 0 < (l0.length : Int) := of_decide_eq_true (by first | (with_reducible assumption) | assumption); obtain ⟨ad106, e106, hx106_0, hx106_1, hx106_2, hx106_3⟩ := at_T23 HR0.out 0 p106 q106; obtain rfl : ad104 = ad106 := (by injection e106); have qi106 : (0 < l0.length) = True := eq_true (by omega); (try rw [show ((0 : Int)).toNat = 0 from rfl] at hx106_0); (try rw [show 0 * 4 = 0 from rfl] at hx106_0); (try rw [Addr.add_zero'] at hx106_0); (try rw [show ((0 : Int)).toNat = 0 from rfl] at hx106_1); (try rw [show 0 * 4 = 0 from rfl] at hx106_1); (try rw [Addr.add_zero'] at hx106_1); (try rw [show ((0 : Int)).toNat = 0 from rfl] at hx106_2); (try rw [show 0 * 4 = 0 from rfl] at hx106_2); (try rw [Addr.add_zero'] at hx106_2); (try rw [show ((0 : Int)).toNat = 0 from rfl] at hx106_3); (try rw [show 0 * 4 = 0 from rfl] at hx106_3); (try rw [Addr.add_zero'] at hx106_3); have hn106_0 : ad104.block ≠ gb105 := Nat.ne_of_lt (Nat.lt_of_lt_of_le (by have := World.block_lt_of_cell? _ _ hx106_0; first | rwa [add_block] at this | exact this) GW105.out); have hn106_1 : ad104.block ≠ gb105 := Nat.ne_of_lt (Nat.lt_of_lt_of_le (by have := World.block_lt_of_cell? _ _ hx106_0; first | rwa [add_block] at this | exact this) GW105.out); have hn106_2 : ad104.block ≠ gb105 := Nat.ne_of_lt (Nat.lt_of_lt_of_le (by have := World.block_lt_of_cell? _ _ hx106_0; first | rwa [add_block] at this | exact this) GW105.out); have hn106_3 : ad104.block ≠ gb105 := Nat.ne_of_lt (Nat.lt_of_lt_of_le (by have := World.block_lt_of_cell? _ _ hx106_0; first | rwa [add_block] at this | exact this) GW105.out); replace hx106_0 := (HB.out.cell (World.block_lt_of_cell? w _ hx106_0)).trans hx106_0; replace hx106_1 := (HB.out.cell (World.block_lt_of_cell? w _ hx106_1)).trans hx106_1; replace hx106_2 := (HB.out.cell (World.block_lt_of_cell? w _ hx106_2)).trans hx106_2; replace hx106_3 := (HB.out.cell (World.block_lt_of_cell? w _ hx106_3)).trans hx106_3; replace hx106_0 := (cell_far (p := ⟨gb105, 0, none⟩) (by first | (rw [add_block]; exact hn106_0) | (show (Addr.add _ _).block ≠ _; rw [add_block]; exact hn106_0) | exact hn106_0) (.int .i64 ((rd_T23 l0 x19_2).f0))).trans hx106_0; replace hx106_1 := (cell_far (p := ⟨gb105, 0, none⟩) (by first | (rw [add_block]; exact hn106_0) | (show (Addr.add _ _).block ≠ _; rw [add_block]; exact hn106_0) | exact hn106_0) (.int .i64 ((rd_T23 l0 x19_2).f0))).trans hx106_1; replace hx106_2 := (cell_far (p := ⟨gb105, 0, none⟩) (by first | (rw [add_block]; exact hn106_0) | (show (Addr.add _ _).block ≠ _; rw [add_block]; exact hn106_0) | exact hn106_0) (.int .i64 ((rd_T23 l0 x19_2).f0))).trans hx106_2; replace hx106_3 := (cell_far (p := ⟨gb105, 0, none⟩) (by first | (rw [add_block]; exact hn106_0) | (show (Addr.add _ _).block ≠ _; rw [add_block]; exact hn106_0) | exact hn106_0) (.int .i64 ((rd_T23 l0 x19_2).f0))).trans hx106_3; replace hx106_0 := (cell_far (p := ⟨gb105, 1, none⟩) (by first | (rw [add_block]; exact hn106_1) | (show (Addr.add _ _).block ≠ _; rw [add_block]; exact hn106_1) | exact hn106_1) (.int .i64 ((rd_T23 l0 x19_2).f1))).trans hx106_0; replace hx106_1 := (cell_far (p := ⟨gb105, 1, none⟩) (by first | (rw [add_block]; exact hn106_1) | (show (Addr.add _ _).block ≠ _; rw [add_block]; exact hn106_1) | exact hn106_1) (.int .i64 ((rd_T23 l0 x19_2).f1))).trans hx106_1; replace hx106_2 := (cell_far (p := ⟨gb105, 1, none⟩) (by first | (rw [add_block]; exact hn106_1) | (show (Addr.add _ _).block ≠ _; rw [add_block]; exact hn106_1) | exact hn106_1) (.int .i64 ((rd_T23 l0 x19_2).f1))).trans hx106_2; replace hx106_3 := (cell_far (p := ⟨gb105, 1, none⟩) (by first | (rw [add_block]; exact hn106_1) | (show (Addr.add _ _).block ≠ _; rw [add_block]; exact hn106_1) | exact hn106_1) (.int .i64 ((rd_T23 l0 x19_2).f1))).trans hx106_3; replace hx106_0 := (cell_far (p := ⟨gb105, 2, none⟩) (by first | (rw [add_block]; exact hn106_2) | (show (Addr.add _ _).block ≠ _; rw [add_block]; exact hn106_2) | exact hn106_2) (.int .i64 ((rd_T23 l0 x19_2).f2))).trans hx106_0; replace hx106_1 := (cell_far (p := ⟨gb105, 2, none⟩) (by first | (rw [add_block]; exact hn106_2) | (show (Addr.add _ _).block ≠ _; rw [add_block]; exact hn106_2) | exact hn106_2) (.int .i64 ((rd_T23 l0 x19_2).f2))).trans hx106_1; replace hx106_2 := (cell_far (p := ⟨gb105, 2, none⟩) (by first | (rw [add_block]; exact hn106_2) | (show (Addr.add _ _).block ≠ _; rw [add_block]; exact hn106_2) | exact hn106_2) (.int .i64 ((rd_T23 l0 x19_2).f2))).trans hx106_2; replace hx106_3 := (cell_far (p := ⟨gb105, 2, none⟩) (by first | (rw [add_block]; exact hn106_2) | (show (Addr.add _ _).block ≠ _; rw [add_block]; exact hn106_2) | exact hn106_2) (.int .i64 ((rd_T23 l0 x19_2).f2))).trans hx106_3; replace hx106_0 := (cell_far (p := ⟨gb105, 3, none⟩) (by first | (rw [add_block]; exact hn106_3) | (show (Addr.add _ _).block ≠ _; rw [add_block]; exact hn106_3) | exact hn106_3) (.string ((rd_T23 l0 x19_2).f3))).trans hx106_0; replace hx106_1 := (cell_far (p := ⟨gb105, 3, none⟩) (by first | (rw [add_block]; exact hn106_3) | (show (Addr.add _ _).block ≠ _; rw [add_block]; exact hn106_3) | exact hn106_3) (.string ((rd_T23 l0 x19_2).f3))).trans hx106_1; replace hx106_2 := (cell_far (p := ⟨gb105, 3, none⟩) (by first | (rw [add_block]; exact hn106_3) | (show (Addr.add _ _).block ≠ _; rw [add_block]; exact hn106_3) | exact hn106_3) (.string ((rd_T23 l0 x19_2).f3))).trans hx106_2; replace hx106_3 := (cell_far (p := ⟨gb105, 3, none⟩) (by first | (rw [add_block]; exact hn106_3) | (show (Addr.add _ _).block ≠ _; rw [add_block]; exact hn106_3) | exact hn106_3) (.string ((rd_T23 l0 x19_2).f3))).trans hx106_3; (try have hy106_0 := fun (n_ : Nat) => (show ((((((w18.drewN n_).setCell ⟨gb105, 0, none⟩ (.int .i64 ((rd_T23 l0 x19_2).f0))).setCell ⟨gb105, 1, none⟩ (.int .i64 ((rd_T23 l0 x19_2).f1))).setCell ⟨gb105, 2, none⟩ (.int .i64 ((rd_T23 l0 x19_2).f2))).setCell ⟨gb105, 3, none⟩ (.string ((rd_T23 l0 x19_2).f3)))).cell? _ = some _ from hx106_0)); (try have hy106_1 := fun (n_ : Nat) => (show ((((((w18.drewN n_).setCell ⟨gb105, 0, none⟩ (.int .i64 ((rd_T23 l0 x19_2).f0))).setCell ⟨gb105, 1, none⟩ (.int .i64 ((rd_T23 l0 x19_2).f1))).setCell ⟨gb105, 2, none⟩ (.int .i64 ((rd_T23 l0 x19_2).f2))).setCell ⟨gb105, 3, none⟩ (.string ((rd_T23 l0 x19_2).f3)))).cell? _ = some _ from hx106_1)); (try have hy106_2 := fun (n_ : Nat) => (show ((((((w18.drewN n_).setCell ⟨gb105, 0, none⟩ (.int .i64 ((rd_T23 l0 x19_2).f0))).setCell ⟨gb105, 1, none⟩ (.int .i64 ((rd_T23 l0 x19_2).f1))).setCell ⟨gb105, 2, none⟩ (.int .i64 ((rd_T23 l0 x19_2).f2))).setCell ⟨gb105, 3, none⟩ (.string ((rd_T23 l0 x19_2).f3)))).cell? _ = some _ from hx106_2)); (try have hy106_3 := fun (n_ : Nat) => (show ((((((w18.drewN n_).setCell ⟨gb105, 0, none⟩ (.int .i64 ((rd_T23 l0 x19_2).f0))).setCell ⟨gb105, 1, none⟩ (.int .i64 ((rd_T23 l0 x19_2).f1))).setCell ⟨gb105, 2, none⟩ (.int .i64 ((rd_T23 l0 x19_2).f2))).setCell ⟨gb105, 3, none⟩ (.string ((rd_T23 l0 x19_2).f3)))).cell? _ = some _ from hx106_3)); clear hn106_0; clear hn106_1; clear hn106_2; clear hn106_3; replace p106 := eq_true p106; replace q106 := eq_true q106)); try go_wp2_with (first | ((with_reducible refine gate_dst (N := 6) rfl ?_); refine box_event ?hg (N := 6) ?hd (cs := #[.int .i64 0, .int .i64 0, .int .i64 0, .string (⟨#[]⟩ : ByteArray)]) (t := 23) ?hr ?_; (case hd => rfl); (case hg => rfl); (case hr => first | (go_simp; done) | (go_simp; rfl)); intro gb105 hg w18 hbox hb; have n0_ := Aside0.mk (below_step (by repeat (first | (with_reducible first | exact HB.out | apply below_alloc | apply pw_below_drewN | apply below_drew1) | exact HB.out)) hb); have n1_ := Aside0.mk (hbox); have n2_ := Aside0.mk ((by rw [hg]; exact (below_size (by repeat (first | (with_reducible first | exact HB.out | apply below_alloc | apply pw_below_drewN | apply below_drew1) | exact HB.out))) : w.heap.size ≤ gb105)); have n3_ := n2_; clear HB; have HB := n0_; have BK105 := n1_; have GW105 := n2_; have GE105 := n3_; clear n0_ n1_ n2_ n3_; clear hb hbox hg; obtain ⟨hcz19_0, hcz19_1, hcz19_2, hcz19_3⟩ := blk_quad BK105.out; obtain ⟨hfz19_0, hfz19_1, hfz19_2, hfz19_3⟩ := blk_quad_free BK105.out; have p106 : 0 ≤ (0 : Int) := (by omega); have q106 : 0 < (l0.length : Int) := of_decide_eq_true (by first | (with_reducible assumption) | assumption); obtain ⟨ad106, e106, hx106_0, hx106_1, hx106_2, hx106_3⟩ := at_T23 HR0.out 0 p106 q106; obtain rfl : ad104 = ad106 := (by injection e106); have qi106 : (0 < l0.length) = True := eq_true (by omega); (try rw [show ((0 : Int)).toNat = 0 from rfl] at hx106_0); (try rw [show 0 * 4 = 0 from rfl] at hx106_0); (try rw [Addr.add_zero'] at hx106_0); (try rw [show ((0 : Int)).toNat = 0 from rfl] at hx106_1); (try rw [show 0 * 4 = 0 from rfl] at hx106_1); (try rw [Addr.add_zero'] at hx106_1); (try rw [show ((0 : Int)).toNat = 0 from rfl] at hx106_2); (try rw [show 0 * 4 = 0 from rfl] at hx106_2); (try rw [Addr.add_zero'] at hx106_2); (try rw [show ((0 : Int)).toNat = 0 from rfl] at hx106_3); (try rw [show 0 * 4 = 0 from rfl] at hx106_3); (try rw [Addr.add_zero'] at hx106_3); have hn106_0 : ad104.block ≠ gb105 := Nat.ne_of_lt (Nat.lt_of_lt_of_le (by have := World.block_lt_of_cell? _ _ hx106_0; first | rwa [add_block] at this | exact this) GW105.out); have hn106_1 : ad104.block ≠ gb105 := Nat.ne_of_lt (Nat.lt_of_lt_of_le (by have := World.block_lt_of_cell? _ _ hx106_0; first | rwa [add_block] at this | exact this) GW105.out); have hn106_2 : ad104.block ≠ gb105 := Nat.ne_of_lt (Nat.lt_of_lt_of_le (by have := World.block_lt_of_cell? _ _ hx106_0; first | rwa [add_block] at this | exact this) GW105.out); have hn106_3 : ad104.block ≠ gb105 := Nat.ne_of_lt (Nat.lt_of_lt_of_le (by have := World.block_lt_of_cell? _ _ hx106_0; first | rwa [add_block] at this | exact this) GW105.out); replace hx106_0 := (HB.out.cell (World.block_lt_of_cell? w _ hx106_0)).trans hx106_0; replace hx106_1 := (HB.out.cell (World.block_lt_of_cell? w _ hx106_1)).trans hx106_1; replace hx106_2 := (HB.out.cell (World.block_lt_of_cell? w _ hx106_2)).trans hx106_2; replace hx106_3 := (HB.out.cell (World.block_lt_of_cell? w _ hx106_3)).trans hx106_3; replace hx106_0 := (cell_far (p := ⟨gb105, 0, none⟩) (by first | (rw [add_block]; exact hn106_0) | (show (Addr.add _ _).block ≠ _; rw [add_block]; exact hn106_0) | exact hn106_0) (.int .i64 ((rd_T23 l0 x19_2).f0))).trans hx106_0; replace hx106_1 := (cell_far (p := ⟨gb105, 0, none⟩) (by first | (rw [add_block]; exact hn106_0) | (show (Addr.add _ _).block ≠ _; rw [add_block]; exact hn106_0) | exact hn106_0) (.int .i64 ((rd_T23 l0 x19_2).f0))).trans hx106_1; replace hx106_2 := (cell_far (p := ⟨gb105, 0, none⟩) (by first | (rw [add_block]; exact hn106_0) | (show (Addr.add _ _).block ≠ _; rw [add_block]; exact hn106_0) | exact hn106_0) (.int .i64 ((rd_T23 l0 x19_2).f0))).trans hx106_2; replace hx106_3 := (cell_far (p := ⟨gb105, 0, none⟩) (by first | (rw [add_block]; exact hn106_0) | (show (Addr.add _ _).block ≠ _; rw [add_block]; exact hn106_0) | exact hn106_0) (.int .i64 ((rd_T23 l0 x19_2).f0))).trans hx106_3; replace hx106_0 := (cell_far (p := ⟨gb105, 1, none⟩) (by first | (rw [add_block]; exact hn106_1) | (show (Addr.add _ _).block ≠ _; rw [add_block]; exact hn106_1) | exact hn106_1) (.int .i64 ((rd_T23 l0 x19_2).f1))).trans hx106_0; replace hx106_1 := (cell_far (p := ⟨gb105, 1, none⟩) (by first | (rw [add_block]; exact hn106_1) | (show (Addr.add _ _).block ≠ _; rw [add_block]; exact hn106_1) | exact hn106_1) (.int .i64 ((rd_T23 l0 x19_2).f1))).trans hx106_1; replace hx106_2 := (cell_far (p := ⟨gb105, 1, none⟩) (by first | (rw [add_block]; exact hn106_1) | (show (Addr.add _ _).block ≠ _; rw [add_block]; exact hn106_1) | exact hn106_1) (.int .i64 ((rd_T23 l0 x19_2).f1))).trans hx106_2; replace hx106_3 := (cell_far (p := ⟨gb105, 1, none⟩) (by first | (rw [add_block]; exact hn106_1) | (show (Addr.add _ _).block ≠ _; rw [add_block]; exact hn106_1) | exact hn106_1) (.int .i64 ((rd_T23 l0 x19_2).f1))).trans hx106_3; replace hx106_0 := (cell_far (p := ⟨gb105, 2, none⟩) (by first | (rw [add_block]; exact hn106_2) | (show (Addr.add _ _).block ≠ _; rw [add_block]; exact hn106_2) | exact hn106_2) (.int .i64 ((rd_T23 l0 x19_2).f2))).trans hx106_0; replace hx106_1 := (cell_far (p := ⟨gb105, 2, none⟩) (by first | (rw [add_block]; exact hn106_2) | (show (Addr.add _ _).block ≠ _; rw [add_block]; exact hn106_2) | exact hn106_2) (.int .i64 ((rd_T23 l0 x19_2).f2))).trans hx106_1; replace hx106_2 := (cell_far (p := ⟨gb105, 2, none⟩) (by first | (rw [add_block]; exact hn106_2) | (show (Addr.add _ _).block ≠ _; rw [add_block]; exact hn106_2) | exact hn106_2) (.int .i64 ((rd_T23 l0 x19_2).f2))).trans hx106_2; replace hx106_3 := (cell_far (p := ⟨gb105, 2, none⟩) (by first | (rw [add_block]; exact hn106_2) | (show (Addr.add _ _).block ≠ _; rw [add_block]; exact hn106_2) | exact hn106_2) (.int .i64 ((rd_T23 l0 x19_2).f2))).trans hx106_3; replace hx106_0 := (cell_far (p := ⟨gb105, 3, none⟩) (by first | (rw [add_block]; exact hn106_3) | (show (Addr.add _ _).block ≠ _; rw [add_block]; exact hn106_3) | exact hn106_3) (.string ((rd_T23 l0 x19_2).f3))).trans hx106_0; replace hx106_1 := (cell_far (p := ⟨gb105, 3, none⟩) (by first | (rw [add_block]; exact hn106_3) | (show (Addr.add _ _).block ≠ _; rw [add_block]; exact hn106_3) | exact hn106_3) (.string ((rd_T23 l0 x19_2).f3))).trans hx106_1; replace hx106_2 := (cell_far (p := ⟨gb105, 3, none⟩) (by first | (rw [add_block]; exact hn106_3) | (show (Addr.add _ _).block ≠ _; rw [add_block]; exact hn106_3) | exact hn106_3) (.string ((rd_T23 l0 x19_2).f3))).trans hx106_2; replace hx106_3 := (cell_far (p := ⟨gb105, 3, none⟩) (by first | (rw [add_block]; exact hn106_3) | (show (Addr.add _ _).block ≠ _; rw [add_block]; exact hn106_3) | exact hn106_3) (.string ((rd_T23 l0 x19_2).f3))).trans hx106_3; (try have hy106_0 := fun (n_ : Nat) => (show ((((((w18.drewN n_).setCell ⟨gb105, 0, none⟩ (.int .i64 ((rd_T23 l0 x19_2).f0))).setCell ⟨gb105, 1, none⟩ (.int .i64 ((rd_T23 l0 x19_2).f1))).setCell ⟨gb105, 2, none⟩ (.int .i64 ((rd_T23 l0 x19_2).f2))).setCell ⟨gb105, 3, none⟩ (.string ((rd_T23 l0 x19_2).f3)))).cell? _ = some _ from hx106_0)); (try have hy106_1 := fun (n_ : Nat) => (show ((((((w18.drewN n_).setCell ⟨gb105, 0, none⟩ (.int .i64 ((rd_T23 l0 x19_2).f0))).setCell ⟨gb105, 1, none⟩ (.int .i64 ((rd_T23 l0 x19_2).f1))).setCell ⟨gb105, 2, none⟩ (.int .i64 ((rd_T23 l0 x19_2).f2))).setCell ⟨gb105, 3, none⟩ (.string ((rd_T23 l0 x19_2).f3)))).cell? _ = some _ from hx106_1)); (try have hy106_2 := fun (n_ : Nat) => (show ((((((w18.drewN n_).setCell ⟨gb105, 0, none⟩ (.int .i64 ((rd_T23 l0 x19_2).f0))).setCell ⟨gb105, 1, none⟩ (.int .i64 ((rd_T23 l0 x19_2).f1))).setCell ⟨gb105, 2, none⟩ (.int .i64 ((rd_T23 l0 x19_2).f2))).setCell ⟨gb105, 3, none⟩ (.string ((rd_T23 l0 x19_2).f3)))).cell? _ = some _ from hx106_2)); (try have hy106_3 := fun (n_ : Nat) => (show ((((((w18.drewN n_).setCell ⟨gb105, 0, none⟩ (.int .i64 ((rd_T23 l0 x19_2).f0))).setCell ⟨gb105, 1, none⟩ (.int .i64 ((rd_T23 l0 x19_2).f1))).setCell ⟨gb105, 2, none⟩ (.int .i64 ((rd_T23 l0 x19_2).f2))).setCell ⟨gb105, 3, none⟩ (.string ((rd_T23 l0 x19_2).f3)))).cell? _ = some _ from hx106_3)); clear hn106_0; clear hn106_1; clear hn106_2; clear hn106_3; replace p106 := eq_true p106; replace q106 := eq_true q106)))
                      go_roundg k2
                      case measure => have := HK1.out; have := HK2.out; omega
                      case rel => exact ⟨(wrap64 (x19_2 + 1)), (by first | rfl | (simp; done) | (generalize ByteArray.toList _ = l_; cases l_ <;> rfl) | (simp [*]; done)), H', ⟨by have := HK1.out; have := HK2.out; omega⟩, ⟨by repeat (first | (with_reducible first | exact HB.out | apply below_alloc | apply pw_below_drewN | apply below_drew1 | refine below_set ?_ GE105.out) | exact HB.out)⟩⟩
                    · rw [if_neg c17] at H
                      have c17b0 : (((rd_T23 l0 x19_2).f0) == ((rd_T23 l0 0).f0)) = false := beq_eq_false_iff_ne.mpr c17
                      have c17b1 : (((rd_T23 l0 x19_2).f0) != ((rd_T23 l0 0).f0)) = true := bne_iff_ne.mpr c17
                      obtain rfl := Option.some.inj H
                      have p104 : 0 ≤ (x19_2 : Int) := of_decide_eq_true (by first | (with_reducible assumption) | assumption)
                      have q104 : x19_2 < (l0.length : Int) := of_decide_eq_true (by first | (with_reducible assumption) | assumption)
                      obtain ⟨ad104, e104, hx104_0, hx104_1, hx104_2, hx104_3⟩ := at_T23 HR0.out x19_2 p104 q104
                      cases e104
                      replace hx104_0 := (HB.out.cell (World.block_lt_of_cell? w _ hx104_0)).trans hx104_0
                      replace hx104_1 := (HB.out.cell (World.block_lt_of_cell? w _ hx104_1)).trans hx104_1
                      replace hx104_2 := (HB.out.cell (World.block_lt_of_cell? w _ hx104_2)).trans hx104_2
                      replace hx104_3 := (HB.out.cell (World.block_lt_of_cell? w _ hx104_3)).trans hx104_3
                      replace p104 := eq_true p104
                      replace q104 := eq_true q104
                      go_wp2_with (first | ((with_reducible refine gate_dst (N := 6) rfl ?_); refine box_event ?hg (N := 6) ?hd (cs := #[.int .i64 0, .int .i64 0, .int .i64 0, .string (⟨#[]⟩ : ByteArray)]) (t := 23) ?hr ?_; (case hd => rfl); (case hg => rfl); (case hr => first | (go_simp; done) | (go_simp; rfl)); intro gb105 hg w20 hbox hb; have n0_ := Aside0.mk (below_step (by repeat (first | (with_reducible first | exact HB.out | apply below_alloc | apply pw_below_drewN | apply below_drew1) | exact HB.out)) hb); have n1_ := Aside0.mk (hbox); have n2_ := Aside0.mk ((by rw [hg]; exact (below_size (by repeat (first | (with_reducible first | exact HB.out | apply below_alloc | apply pw_below_drewN | apply below_drew1) | exact HB.out))) : w.heap.size ≤ gb105)); have n3_ := n2_; clear HB; have HB := n0_; have BK105 := n1_; have GW105 := n2_; have GE105 := n3_; clear n0_ n1_ n2_ n3_; clear hb hbox hg; obtain ⟨hcz21_0, hcz21_1, hcz21_2, hcz21_3⟩ := blk_quad BK105.out; obtain ⟨hfz21_0, hfz21_1, hfz21_2, hfz21_3⟩ := blk_quad_free BK105.out; have p106 : 0 ≤ (0 : Int) := (by omega); have q106 : 0 < (l0.length : Int) := of_decide_eq_true (by first | (with_reducible assumption) | assumption); obtain ⟨ad106, e106, hx106_0, hx106_1, hx106_2, hx106_3⟩ := at_T23 HR0.out 0 p106 q106; obtain rfl : ad104 = ad106 := (by injection e106); have qi106 : (0 < l0.length) = True := eq_true (by omega); (try rw [show ((0 : Int)).toNat = 0 from rfl] at hx106_0); (try rw [show 0 * 4 = 0 from rfl] at hx106_0); (try rw [Addr.add_zero'] at hx106_0); (try rw [show ((0 : Int)).toNat = 0 from rfl] at hx106_1); (try rw [show 0 * 4 = 0 from rfl] at hx106_1); (try rw [Addr.add_zero'] at hx106_1); (try rw [show ((0 : Int)).toNat = 0 from rfl] at hx106_2); (try rw [show 0 * 4 = 0 from rfl] at hx106_2); (try rw [Addr.add_zero'] at hx106_2); (try rw [show ((0 : Int)).toNat = 0 from rfl] at hx106_3); (try rw [show 0 * 4 = 0 from rfl] at hx106_3); (try rw [Addr.add_zero'] at hx106_3); have hn106_0 : ad104.block ≠ gb105 := Nat.ne_of_lt (Nat.lt_of_lt_of_le (by have := World.block_lt_of_cell? _ _ hx106_0; first | rwa [add_block] at this | exact this) GW105.out); have hn106_1 : ad104.block ≠ gb105 := Nat.ne_of_lt (Nat.lt_of_lt_of_le (by have := World.block_lt_of_cell? _ _ hx106_0; first | rwa [add_block] at this | exact this) GW105.out); have hn106_2 : ad104.block ≠ gb105 := Nat.ne_of_lt (Nat.lt_of_lt_of_le (by have := World.block_lt_of_cell? _ _ hx106_0; first | rwa [add_block] at this | exact this) GW105.out); have hn106_3 : ad104.block ≠ gb105 := Nat.ne_of_lt (Nat.lt_of_lt_of_le (by have := World.block_lt_of_cell? _ _ hx106_0; first | rwa [add_block] at this | exact this) GW105.out); replace hx106_0 := (HB.out.cell (World.block_lt_of_cell? w _ hx106_0)).trans hx106_0; replace hx106_1 := (HB.out.cell (World.block_lt_of_cell? w _ hx106_1)).trans hx106_1; replace hx106_2 := (HB.out.cell (World.block_lt_of_cell? w _ hx106_2)).trans hx106_2; replace hx106_3 := (HB.out.cell (World.block_lt_of_cell? w _ hx106_3)).trans hx106_3; replace hx106_0 := (cell_far (p := ⟨gb105, 0, none⟩) (by first | (rw [add_block]; exact hn106_0) | (show (Addr.add _ _).block ≠ _; rw [add_block]; exact hn106_0) | exact hn106_0) (.int .i64 ((rd_T23 l0 x19_2).f0))).trans hx106_0; replace hx106_1 := (cell_far (p := ⟨gb105, 0, none⟩) (by first | (rw [add_block]; exact hn106_0) | (show (Addr.add _ _).block ≠ _; rw [add_block]; exact hn106_0) | exact hn106_0) (.int .i64 ((rd_T23 l0 x19_2).f0))).trans hx106_1; replace hx106_2 := (cell_far (p := ⟨gb105, 0, none⟩) (by first | (rw [add_block]; exact hn106_0) | (show (Addr.add _ _).block ≠ _; rw [add_block]; exact hn106_0) | exact hn106_0) (.int .i64 ((rd_T23 l0 x19_2).f0))).trans hx106_2; replace hx106_3 := (cell_far (p := ⟨gb105, 0, none⟩) (by first | (rw [add_block]; exact hn106_0) | (show (Addr.add _ _).block ≠ _; rw [add_block]; exact hn106_0) | exact hn106_0) (.int .i64 ((rd_T23 l0 x19_2).f0))).trans hx106_3; replace hx106_0 := (cell_far (p := ⟨gb105, 1, none⟩) (by first | (rw [add_block]; exact hn106_1) | (show (Addr.add _ _).block ≠ _; rw [add_block]; exact hn106_1) | exact hn106_1) (.int .i64 ((rd_T23 l0 x19_2).f1))).trans hx106_0; replace hx106_1 := (cell_far (p := ⟨gb105, 1, none⟩) (by first | (rw [add_block]; exact hn106_1) | (show (Addr.add _ _).block ≠ _; rw [add_block]; exact hn106_1) | exact hn106_1) (.int .i64 ((rd_T23 l0 x19_2).f1))).trans hx106_1; replace hx106_2 := (cell_far (p := ⟨gb105, 1, none⟩) (by first | (rw [add_block]; exact hn106_1) | (show (Addr.add _ _).block ≠ _; rw [add_block]; exact hn106_1) | exact hn106_1) (.int .i64 ((rd_T23 l0 x19_2).f1))).trans hx106_2; replace hx106_3 := (cell_far (p := ⟨gb105, 1, none⟩) (by first | (rw [add_block]; exact hn106_1) | (show (Addr.add _ _).block ≠ _; rw [add_block]; exact hn106_1) | exact hn106_1) (.int .i64 ((rd_T23 l0 x19_2).f1))).trans hx106_3; replace hx106_0 := (cell_far (p := ⟨gb105, 2, none⟩) (by first | (rw [add_block]; exact hn106_2) | (show (Addr.add _ _).block ≠ _; rw [add_block]; exact hn106_2) | exact hn106_2) (.int .i64 ((rd_T23 l0 x19_2).f2))).trans hx106_0; replace hx106_1 := (cell_far (p := ⟨gb105, 2, none⟩) (by first | (rw [add_block]; exact hn106_2) | (show (Addr.add _ _).block ≠ _; rw [add_block]; exact hn106_2) | exact hn106_2) (.int .i64 ((rd_T23 l0 x19_2).f2))).trans hx106_1; replace hx106_2 := (cell_far (p := ⟨gb105, 2, none⟩) (by first | (rw [add_block]; exact hn106_2) | (show (Addr.add _ _).block ≠ _; rw [add_block]; exact hn106_2) | exact hn106_2) (.int .i64 ((rd_T23 l0 x19_2).f2))).trans hx106_2; replace hx106_3 := (cell_far (p := ⟨gb105, 2, none⟩) (by first | (rw [add_block]; exact hn106_2) | (show (Addr.add _ _).block ≠ _; rw [add_block]; exact hn106_2) | exact hn106_2) (.int .i64 ((rd_T23 l0 x19_2).f2))).trans hx106_3; replace hx106_0 := (cell_far (p := ⟨gb105, 3, none⟩) (by first | (rw [add_block]; exact hn106_3) | (show (Addr.add _ _).block ≠ _; rw [add_block]; exact hn106_3) | exact hn106_3) (.string ((rd_T23 l0 x19_2).f3))).trans hx106_0; replace hx106_1 := (cell_far (p := ⟨gb105, 3, none⟩) (by first | (rw [add_block]; exact hn106_3) | (show (Addr.add _ _).block ≠ _; rw [add_block]; exact hn106_3) | exact hn106_3) (.string ((rd_T23 l0 x19_2).f3))).trans hx106_1; replace hx106_2 := (cell_far (p := ⟨gb105, 3, none⟩) (by first | (rw [add_block]; exact hn106_3) | (show (Addr.add _ _).block ≠ _; rw [add_block]; exact hn106_3) | exact hn106_3) (.string ((rd_T23 l0 x19_2).f3))).trans hx106_2; replace hx106_3 := (cell_far (p := ⟨gb105, 3, none⟩) (by first | (rw [add_block]; exact hn106_3) | (show (Addr.add _ _).block ≠ _; rw [add_block]; exact hn106_3) | exact hn106_3) (.string ((rd_T23 l0 x19_2).f3))).trans hx106_3; (try have hy106_0 := fun (n_ : Nat) => (show ((((((w20.drewN n_).setCell ⟨gb105, 0, none⟩ (.int .i64 ((rd_T23 l0 x19_2).f0))).setCell ⟨gb105, 1, none⟩ (.int .i64 ((rd_T23 l0 x19_2).f1))).setCell ⟨gb105, 2, none⟩ (.int .i64 ((rd_T23 l0 x19_2).f2))).setCell ⟨gb105, 3, none⟩ (.string ((rd_T23 l0 x19_2).f3)))).cell? _ = some _ from hx106_0)); (try have hy106_1 := fun (n_ : Nat) => (show ((((((w20.drewN n_).setCell ⟨gb105, 0, none⟩ (.int .i64 ((rd_T23 l0 x19_2).f0))).setCell ⟨gb105, 1, none⟩ (.int .i64 ((rd_T23 l0 x19_2).f1))).setCell ⟨gb105, 2, none⟩ (.int .i64 ((rd_T23 l0 x19_2).f2))).setCell ⟨gb105, 3, none⟩ (.string ((rd_T23 l0 x19_2).f3)))).cell? _ = some _ from hx106_1)); (try have hy106_2 := fun (n_ : Nat) => (show ((((((w20.drewN n_).setCell ⟨gb105, 0, none⟩ (.int .i64 ((rd_T23 l0 x19_2).f0))).setCell ⟨gb105, 1, none⟩ (.int .i64 ((rd_T23 l0 x19_2).f1))).setCell ⟨gb105, 2, none⟩ (.int .i64 ((rd_T23 l0 x19_2).f2))).setCell ⟨gb105, 3, none⟩ (.string ((rd_T23 l0 x19_2).f3)))).cell? _ = some _ from hx106_2)); (try have hy106_3 := fun (n_ : Nat) => (show ((((((w20.drewN n_).setCell ⟨gb105, 0, none⟩ (.int .i64 ((rd_T23 l0 x19_2).f0))).setCell ⟨gb105, 1, none⟩ (.int .i64 ((rd_T23 l0 x19_2).f1))).setCell ⟨gb105, 2, none⟩ (.int .i64 ((rd_T23 l0 x19_2).f2))).setCell ⟨gb105, 3, none⟩ (.string ((rd_T23 l0 x19_2).f3)))).cell? _ = some _ from hx106_3)); clear hn106_0; clear hn106_1; clear hn106_2; clear hn106_3; replace p106 := eq_true p106; replace q106 := eq_true q106))
                      repeat (go_quiet (first | ((with_reducible refine gate_dst (N := 6) rfl ?_); refine box_event ?hg (N := 6) ?hd (cs := #[.int .i64 0, .int .i64 0, .int .i64 0, .string (⟨#[]⟩ : ByteArray)]) (t := 23) ?hr ?_; (case hd => rfl); (case hg => rfl); (case hr => first | (go_simp; done) | (go_simp; rfl)); intro gb105 hg w20 hbox hb; have n0_ := Aside0.mk (below_step (by repeat (first | (with_reducible first | exact HB.out | apply below_alloc | apply pw_below_drewN | apply below_drew1) | exact HB.out)) hb); have n1_ := Aside0.mk (hbox); have n2_ := Aside0.mk ((by rw [hg]; exact (below_size (by repeat (first | (with_reducible first | exact HB.out | apply below_alloc | apply pw_below_drewN | apply below_drew1) | exact HB.out))) : w.heap.size ≤ gb105)); have n3_ := n2_; clear HB; have HB := n0_; have BK105 := n1_; have GW105 := n2_; have GE105 := n3_; clear n0_ n1_ n2_ n3_; clear hb hbox hg; obtain ⟨hcz21_0, hcz21_1, hcz21_2, hcz21_3⟩ := blk_quad BK105.out; obtain ⟨hfz21_0, hfz21_1, hfz21_2, hfz21_3⟩ := blk_quad_free BK105.out; have p106 : 0 ≤ (0 : Int) := (by omega); have q106 : 0 < (l0.length : Int) := of_decide_eq_true (by first | (with_reducible assumption) | assumption); obtain ⟨ad106, e106, hx106_0, hx106_1, hx106_2, hx106_3⟩ := at_T23 HR0.out 0 p106 q106; obtain rfl : ad104 = ad106 := (by injection e106); have qi106 : (0 < l0.length) = True := eq_true (by omega); (try rw [show ((0 : Int)).toNat = 0 from rfl] at hx106_0); (try rw [show 0 * 4 = 0 from rfl] at hx106_0); (try rw [Addr.add_zero'] at hx106_0); (try rw [show ((0 : Int)).toNat = 0 from rfl] at hx106_1); (try rw [show 0 * 4 = 0 from rfl] at hx106_1); (try rw [Addr.add_zero'] at hx106_1); (try rw [show ((0 : Int)).toNat = 0 from rfl] at hx106_2); (try rw [show 0 * 4 = 0 from rfl] at hx106_2); (try rw [Addr.add_zero'] at hx106_2); (try rw [show ((0 : Int)).toNat = 0 from rfl] at hx106_3); (try rw [show 0 * 4 = 0 from rfl] at hx106_3); (try rw [Addr.add_zero'] at hx106_3); have hn106_0 : ad104.block ≠ gb105 := Nat.ne_of_lt (Nat.lt_of_lt_of_le (by have := World.block_lt_of_cell? _ _ hx106_0; first | rwa [add_block] at this | exact this) GW105.out); have hn106_1 : ad104.block ≠ gb105 := Nat.ne_of_lt (Nat.lt_of_lt_of_le (by have := World.block_lt_of_cell? _ _ hx106_0; first | rwa [add_block] at this | exact this) GW105.out); have hn106_2 : ad104.block ≠ gb105 := Nat.ne_of_lt (Nat.lt_of_lt_of_le (by have := World.block_lt_of_cell? _ _ hx106_0; first | rwa [add_block] at this | exact this) GW105.out); have hn106_3 : ad104.block ≠ gb105 := Nat.ne_of_lt (Nat.lt_of_lt_of_le (by have := World.block_lt_of_cell? _ _ hx106_0; first | rwa [add_block] at this | exact this) GW105.out); replace hx106_0 := (HB.out.cell (World.block_lt_of_cell? w _ hx106_0)).trans hx106_0; replace hx106_1 := (HB.out.cell (World.block_lt_of_cell? w _ hx106_1)).trans hx106_1; replace hx106_2 := (HB.out.cell (World.block_lt_of_cell? w _ hx106_2)).trans hx106_2; replace hx106_3 := (HB.out.cell (World.block_lt_of_cell? w _ hx106_3)).trans hx106_3; replace hx106_0 := (cell_far (p := ⟨gb105, 0, none⟩) (by first | (rw [add_block]; exact hn106_0) | (show (Addr.add _ _).block ≠ _; rw [add_block]; exact hn106_0) | exact hn106_0) (.int .i64 ((rd_T23 l0 x19_2).f0))).trans hx106_0; replace hx106_1 := (cell_far (p := ⟨gb105, 0, none⟩) (by first | (rw [add_block]; exact hn106_0) | (show (Addr.add _ _).block ≠ _; rw [add_block]; exact hn106_0) | exact hn106_0) (.int .i64 ((rd_T23 l0 x19_2).f0))).trans hx106_1; replace hx106_2 := (cell_far (p := ⟨gb105, 0, none⟩) (by first | (rw [add_block]; exact hn106_0) | (show (Addr.add _ _).block ≠ _; rw [add_block]; exact hn106_0) | exact hn106_0) (.int .i64 ((rd_T23 l0 x19_2).f0))).trans hx106_2; replace hx106_3 := (cell_far (p := ⟨gb105, 0, none⟩) (by first | (rw [add_block]; exact hn106_0) | (show (Addr.add _ _).block ≠ _; rw [add_block]; exact hn106_0) | exact hn106_0) (.int .i64 ((rd_T23 l0 x19_2).f0))).trans hx106_3; replace hx106_0 := (cell_far (p := ⟨gb105, 1, none⟩) (by first | (rw [add_block]; exact hn106_1) | (show (Addr.add _ _).block ≠ _; rw [add_block]; exact hn106_1) | exact hn106_1) (.int .i64 ((rd_T23 l0 x19_2).f1))).trans hx106_0; replace hx106_1 := (cell_far (p := ⟨gb105, 1, none⟩) (by first | (rw [add_block]; exact hn106_1) | (show (Addr.add _ _).block ≠ _; rw [add_block]; exact hn106_1) | exact hn106_1) (.int .i64 ((rd_T23 l0 x19_2).f1))).trans hx106_1; replace hx106_2 := (cell_far (p := ⟨gb105, 1, none⟩) (by first | (rw [add_block]; exact hn106_1) | (show (Addr.add _ _).block ≠ _; rw [add_block]; exact hn106_1) | exact hn106_1) (.int .i64 ((rd_T23 l0 x19_2).f1))).trans hx106_2; replace hx106_3 := (cell_far (p := ⟨gb105, 1, none⟩) (by first | (rw [add_block]; exact hn106_1) | (show (Addr.add _ _).block ≠ _; rw [add_block]; exact hn106_1) | exact hn106_1) (.int .i64 ((rd_T23 l0 x19_2).f1))).trans hx106_3; replace hx106_0 := (cell_far (p := ⟨gb105, 2, none⟩) (by first | (rw [add_block]; exact hn106_2) | (show (Addr.add _ _).block ≠ _; rw [add_block]; exact hn106_2) | exact hn106_2) (.int .i64 ((rd_T23 l0 x19_2).f2))).trans hx106_0; replace hx106_1 := (cell_far (p := ⟨gb105, 2, none⟩) (by first | (rw [add_block]; exact hn106_2) | (show (Addr.add _ _).block ≠ _; rw [add_block]; exact hn106_2) | exact hn106_2) (.int .i64 ((rd_T23 l0 x19_2).f2))).trans hx106_1; replace hx106_2 := (cell_far (p := ⟨gb105, 2, none⟩) (by first | (rw [add_block]; exact hn106_2) | (show (Addr.add _ _).block ≠ _; rw [add_block]; exact hn106_2) | exact hn106_2) (.int .i64 ((rd_T23 l0 x19_2).f2))).trans hx106_2; replace hx106_3 := (cell_far (p := ⟨gb105, 2, none⟩) (by first | (rw [add_block]; exact hn106_2) | (show (Addr.add _ _).block ≠ _; rw [add_block]; exact hn106_2) | exact hn106_2) (.int .i64 ((rd_T23 l0 x19_2).f2))).trans hx106_3; replace hx106_0 := (cell_far (p := ⟨gb105, 3, none⟩) (by first | (rw [add_block]; exact hn106_3) | (show (Addr.add _ _).block ≠ _; rw [add_block]; exact hn106_3) | exact hn106_3) (.string ((rd_T23 l0 x19_2).f3))).trans hx106_0; replace hx106_1 := (cell_far (p := ⟨gb105, 3, none⟩) (by first | (rw [add_block]; exact hn106_3) | (show (Addr.add _ _).block ≠ _; rw [add_block]; exact hn106_3) | exact hn106_3) (.string ((rd_T23 l0 x19_2).f3))).trans hx106_1; replace hx106_2 := (cell_far (p := ⟨gb105, 3, none⟩) (by first | (rw [add_block]; exact hn106_3) | (show (Addr.add _ _).block ≠ _; rw [add_block]; exact hn106_3) | exact hn106_3) (.string ((rd_T23 l0 x19_2).f3))).trans hx106_2; replace hx106_3 := (cell_far (p := ⟨gb105, 3, none⟩) (by first | (rw [add_block]; exact hn106_3) | (show (Addr.add _ _).block ≠ _; rw [add_block]; exact hn106_3) | exact hn106_3) (.string ((rd_T23 l0 x19_2).f3))).trans hx106_3; (try have hy106_0 := fun (n_ : Nat) => (show ((((((w20.drewN n_).setCell ⟨gb105, 0, none⟩ (.int .i64 ((rd_T23 l0 x19_2).f0))).setCell ⟨gb105, 1, none⟩ (.int .i64 ((rd_T23 l0 x19_2).f1))).setCell ⟨gb105, 2, none⟩ (.int .i64 ((rd_T23 l0 x19_2).f2))).setCell ⟨gb105, 3, none⟩ (.string ((rd_T23 l0 x19_2).f3)))).cell? _ = some _ from hx106_0)); (try have hy106_1 := fun (n_ : Nat) => (show ((((((w20.drewN n_).setCell ⟨gb105, 0, none⟩ (.int .i64 ((rd_T23 l0 x19_2).f0))).setCell ⟨gb105, 1, none⟩ (.int .i64 ((rd_T23 l0 x19_2).f1))).setCell ⟨gb105, 2, none⟩ (.int .i64 ((rd_T23 l0 x19_2).f2))).setCell ⟨gb105, 3, none⟩ (.string ((rd_T23 l0 x19_2).f3)))).cell? _ = some _ from hx106_1)); (try have hy106_2 := fun (n_ : Nat) => (show ((((((w20.drewN n_).setCell ⟨gb105, 0, none⟩ (.int .i64 ((rd_T23 l0 x19_2).f0))).setCell ⟨gb105, 1, none⟩ (.int .i64 ((rd_T23 l0 x19_2).f1))).setCell ⟨gb105, 2, none⟩ (.int .i64 ((rd_T23 l0 x19_2).f2))).setCell ⟨gb105, 3, none⟩ (.string ((rd_T23 l0 x19_2).f3)))).cell? _ = some _ from hx106_2)); (try have hy106_3 := fun (n_ : Nat) => (show ((((((w20.drewN n_).setCell ⟨gb105, 0, none⟩ (.int .i64 ((rd_T23 l0 x19_2).f0))).setCell ⟨gb105, 1, none⟩ (.int .i64 ((rd_T23 l0 x19_2).f1))).setCell ⟨gb105, 2, none⟩ (.int .i64 ((rd_T23 l0 x19_2).f2))).setCell ⟨gb105, 3, none⟩ (.string ((rd_T23 l0 x19_2).f3)))).cell? _ = some _ from hx106_3)); clear hn106_0; clear hn106_1; clear hn106_2; clear hn106_3; replace p106 := eq_true p106; replace q106 := eq_true q106)); try go_wp2_with (first | ((with_reducible refine gate_dst (N := 6) rfl ?_); refine box_event ?hg (N := 6) ?hd (cs := #[.int .i64 0, .int .i64 0, .int .i64 0, .string (⟨#[]⟩ : ByteArray)]) (t := 23) ?hr ?_; (case hd => rfl); (case hg => rfl); (case hr => first | (go_simp; done) | (go_simp; rfl)); intro gb105 hg w20 hbox hb; have n0_ := Aside0.mk (below_step (by repeat (first | (with_reducible first | exact HB.out | apply below_alloc | apply pw_below_drewN | apply below_drew1) | exact HB.out)) hb); have n1_ := Aside0.mk (hbox); have n2_ := Aside0.mk ((by rw [hg]; exact (below_size (by repeat (first | (with_reducible first | exact HB.out | apply below_alloc | apply pw_below_drewN | apply below_drew1) | exact HB.out))) : w.heap.size ≤ gb105)); have n3_ := n2_; clear HB; have HB := n0_; have BK105 := n1_; have GW105 := n2_; have GE105 := n3_; clear n0_ n1_ n2_ n3_; clear hb hbox hg; obtain ⟨hcz21_0, hcz21_1, hcz21_2, hcz21_3⟩ := blk_quad BK105.out; obtain ⟨hfz21_0, hfz21_1, hfz21_2, hfz21_3⟩ := blk_quad_free BK105.out; have p106 : 0 ≤ (0 : Int) := (by omega); have q106 : 0 < (l0.length : Int) := of_decide_eq_true (by first | (with_reducible assumption) | assumption); obtain ⟨ad106, e106, hx106_0, hx106_1, hx106_2, hx106_3⟩ := at_T23 HR0.out 0 p106 q106; obtain rfl : ad104 = ad106 := (by injection e106); have qi106 : (0 < l0.length) = True := eq_true (by omega); (try rw [show ((0 : Int)).toNat = 0 from rfl] at hx106_0); (try rw [show 0 * 4 = 0 from rfl] at hx106_0); (try rw [Addr.add_zero'] at hx106_0); (try rw [show ((0 : Int)).toNat = 0 from rfl] at hx106_1); (try rw [show 0 * 4 = 0 from rfl] at hx106_1); (try rw [Addr.add_zero'] at hx106_1); (try rw [show ((0 : Int)).toNat = 0 from rfl] at hx106_2); (try rw [show 0 * 4 = 0 from rfl] at hx106_2); (try rw [Addr.add_zero'] at hx106_2); (try rw [show ((0 : Int)).toNat = 0 from rfl] at hx106_3); (try rw [show 0 * 4 = 0 from rfl] at hx106_3); (try rw [Addr.add_zero'] at hx106_3); have hn106_0 : ad104.block ≠ gb105 := Nat.ne_of_lt (Nat.lt_of_lt_of_le (by have := World.block_lt_of_cell? _ _ hx106_0; first | rwa [add_block] at this | exact this) GW105.out); have hn106_1 : ad104.block ≠ gb105 := Nat.ne_of_lt (Nat.lt_of_lt_of_le (by have := World.block_lt_of_cell? _ _ hx106_0; first | rwa [add_block] at this | exact this) GW105.out); have hn106_2 : ad104.block ≠ gb105 := Nat.ne_of_lt (Nat.lt_of_lt_of_le (by have := World.block_lt_of_cell? _ _ hx106_0; first | rwa [add_block] at this | exact this) GW105.out); have hn106_3 : ad104.block ≠ gb105 := Nat.ne_of_lt (Nat.lt_of_lt_of_le (by have := World.block_lt_of_cell? _ _ hx106_0; first | rwa [add_block] at this | exact this) GW105.out); replace hx106_0 := (HB.out.cell (World.block_lt_of_cell? w _ hx106_0)).trans hx106_0; replace hx106_1 := (HB.out.cell (World.block_lt_of_cell? w _ hx106_1)).trans hx106_1; replace hx106_2 := (HB.out.cell (World.block_lt_of_cell? w _ hx106_2)).trans hx106_2; replace hx106_3 := (HB.out.cell (World.block_lt_of_cell? w _ hx106_3)).trans hx106_3; replace hx106_0 := (cell_far (p := ⟨gb105, 0, none⟩) (by first | (rw [add_block]; exact hn106_0) | (show (Addr.add _ _).block ≠ _; rw [add_block]; exact hn106_0) | exact hn106_0) (.int .i64 ((rd_T23 l0 x19_2).f0))).trans hx106_0; replace hx106_1 := (cell_far (p := ⟨gb105, 0, none⟩) (by first | (rw [add_block]; exact hn106_0) | (show (Addr.add _ _).block ≠ _; rw [add_block]; exact hn106_0) | exact hn106_0) (.int .i64 ((rd_T23 l0 x19_2).f0))).trans hx106_1; replace hx106_2 := (cell_far (p := ⟨gb105, 0, none⟩) (by first | (rw [add_block]; exact hn106_0) | (show (Addr.add _ _).block ≠ _; rw [add_block]; exact hn106_0) | exact hn106_0) (.int .i64 ((rd_T23 l0 x19_2).f0))).trans hx106_2; replace hx106_3 := (cell_far (p := ⟨gb105, 0, none⟩) (by first | (rw [add_block]; exact hn106_0) | (show (Addr.add _ _).block ≠ _; rw [add_block]; exact hn106_0) | exact hn106_0) (.int .i64 ((rd_T23 l0 x19_2).f0))).trans hx106_3; replace hx106_0 := (cell_far (p := ⟨gb105, 1, none⟩) (by first | (rw [add_block]; exact hn106_1) | (show (Addr.add _ _).block ≠ _; rw [add_block]; exact hn106_1) | exact hn106_1) (.int .i64 ((rd_T23 l0 x19_2).f1))).trans hx106_0; replace hx106_1 := (cell_far (p := ⟨gb105, 1, none⟩) (by first | (rw [add_block]; exact hn106_1) | (show (Addr.add _ _).block ≠ _; rw [add_block]; exact hn106_1) | exact hn106_1) (.int .i64 ((rd_T23 l0 x19_2).f1))).trans hx106_1; replace hx106_2 := (cell_far (p := ⟨gb105, 1, none⟩) (by first | (rw [add_block]; exact hn106_1) | (show (Addr.add _ _).block ≠ _; rw [add_block]; exact hn106_1) | exact hn106_1) (.int .i64 ((rd_T23 l0 x19_2).f1))).trans hx106_2; replace hx106_3 := (cell_far (p := ⟨gb105, 1, none⟩) (by first | (rw [add_block]; exact hn106_1) | (show (Addr.add _ _).block ≠ _; rw [add_block]; exact hn106_1) | exact hn106_1) (.int .i64 ((rd_T23 l0 x19_2).f1))).trans hx106_3; replace hx106_0 := (cell_far (p := ⟨gb105, 2, none⟩) (by first | (rw [add_block]; exact hn106_2) | (show (Addr.add _ _).block ≠ _; rw [add_block]; exact hn106_2) | exact hn106_2) (.int .i64 ((rd_T23 l0 x19_2).f2))).trans hx106_0; replace hx106_1 := (cell_far (p := ⟨gb105, 2, none⟩) (by first | (rw [add_block]; exact hn106_2) | (show (Addr.add _ _).block ≠ _; rw [add_block]; exact hn106_2) | exact hn106_2) (.int .i64 ((rd_T23 l0 x19_2).f2))).trans hx106_1; replace hx106_2 := (cell_far (p := ⟨gb105, 2, none⟩) (by first | (rw [add_block]; exact hn106_2) | (show (Addr.add _ _).block ≠ _; rw [add_block]; exact hn106_2) | exact hn106_2) (.int .i64 ((rd_T23 l0 x19_2).f2))).trans hx106_2; replace hx106_3 := (cell_far (p := ⟨gb105, 2, none⟩) (by first | (rw [add_block]; exact hn106_2) | (show (Addr.add _ _).block ≠ _; rw [add_block]; exact hn106_2) | exact hn106_2) (.int .i64 ((rd_T23 l0 x19_2).f2))).trans hx106_3; replace hx106_0 := (cell_far (p := ⟨gb105, 3, none⟩) (by first | (rw [add_block]; exact hn106_3) | (show (Addr.add _ _).block ≠ _; rw [add_block]; exact hn106_3) | exact hn106_3) (.string ((rd_T23 l0 x19_2).f3))).trans hx106_0; replace hx106_1 := (cell_far (p := ⟨gb105, 3, none⟩) (by first | (rw [add_block]; exact hn106_3) | (show (Addr.add _ _).block ≠ _; rw [add_block]; exact hn106_3) | exact hn106_3) (.string ((rd_T23 l0 x19_2).f3))).trans hx106_1; replace hx106_2 := (cell_far (p := ⟨gb105, 3, none⟩) (by first | (rw [add_block]; exact hn106_3) | (show (Addr.add _ _).block ≠ _; rw [add_block]; exact hn106_3) | exact hn106_3) (.string ((rd_T23 l0 x19_2).f3))).trans hx106_2; replace hx106_3 := (cell_far (p := ⟨gb105, 3, none⟩) (by first | (rw [add_block]; exact hn106_3) | (show (Addr.add _ _).block ≠ _; rw [add_block]; exact hn106_3) | exact hn106_3) (.string ((rd_T23 l0 x19_2).f3))).trans hx106_3; (try have hy106_0 := fun (n_ : Nat) => (show ((((((w20.drewN n_).setCell ⟨gb105, 0, none⟩ (.int .i64 ((rd_T23 l0 x19_2).f0))).setCell ⟨gb105, 1, none⟩ (.int .i64 ((rd_T23 l0 x19_2).f1))).setCell ⟨gb105, 2, none⟩ (.int .i64 ((rd_T23 l0 x19_2).f2))).setCell ⟨gb105, 3, none⟩ (.string ((rd_T23 l0 x19_2).f3)))).cell? _ = some _ from hx106_0)); (try have hy106_1 := fun (n_ : Nat) => (show ((((((w20.drewN n_).setCell ⟨gb105, 0, none⟩ (.int .i64 ((rd_T23 l0 x19_2).f0))).setCell ⟨gb105, 1, none⟩ (.int .i64 ((rd_T23 l0 x19_2).f1))).setCell ⟨gb105, 2, none⟩ (.int .i64 ((rd_T23 l0 x19_2).f2))).setCell ⟨gb105, 3, none⟩ (.string ((rd_T23 l0 x19_2).f3)))).cell? _ = some _ from hx106_1)); (try have hy106_2 := fun (n_ : Nat) => (show ((((((w20.drewN n_).setCell ⟨gb105, 0, none⟩ (.int .i64 ((rd_T23 l0 x19_2).f0))).setCell ⟨gb105, 1, none⟩ (.int .i64 ((rd_T23 l0 x19_2).f1))).setCell ⟨gb105, 2, none⟩ (.int .i64 ((rd_T23 l0 x19_2).f2))).setCell ⟨gb105, 3, none⟩ (.string ((rd_T23 l0 x19_2).f3)))).cell? _ = some _ from hx106_2)); (try have hy106_3 := fun (n_ : Nat) => (show ((((((w20.drewN n_).setCell ⟨gb105, 0, none⟩ (.int .i64 ((rd_T23 l0 x19_2).f0))).setCell ⟨gb105, 1, none⟩ (.int .i64 ((rd_T23 l0 x19_2).f1))).setCell ⟨gb105, 2, none⟩ (.int .i64 ((rd_T23 l0 x19_2).f2))).setCell ⟨gb105, 3, none⟩ (.string ((rd_T23 l0 x19_2).f3)))).cell? _ = some _ from hx106_3)); clear hn106_0; clear hn106_1; clear hn106_2; clear hn106_3; replace p106 := eq_true p106; replace q106 := eq_true q106)))
                      go_ret
                      exact ⟨by first | rfl | (simp [errW_none, errW_some] <;> rfl) | (simp [*, errW_none, errW_some] <;> rfl), by repeat (first | (with_reducible first | exact HB.out | apply below_alloc | apply pw_below_drewN | apply below_drew1 | refine below_set ?_ GE105.out) | exact HB.out)⟩
                  · rw [if_neg c16] at H
                    exact absurd H (by simp)
                · rw [if_neg c15] at H
                  exact absurd H (by simp)
              · rw [if_neg c14] at H
                exact absurd H (by simp)
            · rw [if_neg c13] at H
              have c13b0 : decide (x19_2 < (l0.length : Int)) = false := decide_eq_false c13
              clear c13
              obtain rfl := Option.some.inj H
              go_wp2
              repeat (go_quiet (fail); try go_wp2)
              go_ret
              exact ⟨by first | rfl | (simp [errW_none, errW_some] <;> rfl) | (simp [*, errW_none, errW_some] <;> rfl), by repeat (first | (with_reducible first | exact HB.out | apply below_alloc | apply pw_below_drewN | apply below_drew1) | exact HB.out)⟩
end Go.Proofs.YtnelblndidciiaaDoor.P

-- from the text Hc
namespace Go.Proofs.YtnelblndidciiaaDoor.P
open Go.RowKit Go.Proofs.YtnelblndidciiaaDoorW.PrintWords Go.Proofs.YtnelblndidciiaaDoorW.PrintLast Go.Proofs.YtnelblndidciiaaDoorW.PrintMore
set_option linter.unusedVariables false
set_option linter.unusedSimpArgs false
theorem wrapN {i n : Nat} (h : i < n) (hn : n ≤ 9223372036854775807) : wrap64 ((i : Int) + 1) = ((i + 1 : Nat) : Int) := by
  unfold wrap64; omega
theorem drop_getD {α : Type} (z : α) {l : List α} {i : Nat} (h : i < l.length) : l.drop i = l.getD i z :: l.drop (i + 1) := by
  rw [List.drop_eq_getElem_cons h, List.getD_eq_getElem?_getD, List.getElem?_eq_getElem h]; rfl
theorem rdT (l : List S23) (i : Nat) : rd_T23 l (i : Int) = l.getD i z23 := by simp [rd_T23]
theorem rdI (l : List Int) (i : Nat) : rd l (i : Int) = l.getD i 0 := by simp [rd]
def okV (v : S23) : Bool := validB v.f0 v.f1 v.f2 v.f3
def askedI (l : List S23) : Int := if l.all okV = true then (if l.all (fun v => v.f0 == (l.getD 0 z23).f0) = true then 0 else 10) else 1
theorem asked_l1 (l : List S23) (hl : l.length ≤ 9223372036854775807) : ∀ d i : Nat, i + d = l.length →
    Ev (fun k => bits_asked.l1 k l l (l.length : Int) (i : Int)) (if (l.drop i).all (fun v => v.f0 == (l.getD 0 z23).f0) = true then 0 else 10) := by
  intro d
  induction d with
  | zero =>
    intro i h
    rw [List.drop_of_length_le (by omega), List.all_nil, if_pos rfl]
    exact Ev.step (f := fun _ => some 0) (fun k => by simp only [bits_asked.l1]; rw [if_neg (by omega)]) (Ev.now _)
  | succ d ih =>
    intro i h
    have hi : i < l.length := by omega
    have e : ∀ k, bits_asked.l1 (k + 1) l l (l.length : Int) (i : Int) = if (l.getD i z23).f0 = (l.getD 0 z23).f0 then bits_asked.l1 k l l (l.length : Int) ((i + 1 : Nat) : Int) else some 10 := fun k => by
      simp only [bits_asked.l1]
      rw [if_pos (by omega), if_pos (by omega), if_pos (by omega), if_pos (by omega), rdT, wrapN hi hl, show rd_T23 l 0 = l.getD 0 z23 from rdT l 0]
    rw [drop_getD z23 hi, List.all_cons]
    by_cases hc : (l.getD i z23).f0 = (l.getD 0 z23).f0
    · rw [beq_iff_eq.2 hc, Bool.true_and]
      exact Ev.step (fun k => by rw [e, if_pos hc]) (ih (i + 1) (by omega))
    · rw [beq_eq_false_iff_ne.2 hc, Bool.false_and, if_neg (by decide)]
      exact Ev.step (f := fun _ => some 10) (fun k => by rw [e, if_neg hc]) (Ev.now _)
theorem asked_l0 (l : List S23) (hl : l.length ≤ 9223372036854775807) : ∀ d i : Nat, i + d = l.length →
    Ev (fun k => bits_asked.l0 k l l (l.length : Int) (i : Int)) (if (l.drop i).all okV = true then (if l.all (fun v => v.f0 == (l.getD 0 z23).f0) = true then 0 else 10) else 1) := by
  intro d
  induction d with
  | zero =>
    intro i h
    rw [List.drop_of_length_le (by omega), List.all_nil, if_pos rfl]
    refine Ev.step (f := fun k => bits_asked.l1 k l l (l.length : Int) 0) (fun k => by simp only [bits_asked.l0]; rw [if_neg (by omega)]) ?_
    exact asked_l1 l hl l.length 0 (by omega)
  | succ d ih =>
    intro i h
    have hi : i < l.length := by omega
    have e : ∀ k, bits_asked.l0 (k + 1) l l (l.length : Int) (i : Int) = if okV (l.getD i z23) = true then bits_asked.l0 k l l (l.length : Int) ((i + 1 : Nat) : Int) else some 1 := fun k => by
      simp only [bits_asked.l0]
      rw [if_pos (by omega), if_pos (by omega), if_pos (by omega), rdT, wrapN hi hl]
      simp only [bits_Valid.f, Option.bind_some]
      rfl
    rw [drop_getD z23 hi, List.all_cons]
    cases hc : okV (l.getD i z23) with
    | true =>
      rw [Bool.true_and]
      exact Ev.step (fun k => by rw [e, if_pos hc]) (ih (i + 1) (by omega))
    | false =>
      rw [Bool.false_and, if_neg (by decide)]
      exact Ev.step (f := fun _ => some 1) (fun k => by rw [e, if_neg (by rw [hc]; decide)]) (Ev.now _)
theorem asked_ev (l : List S23) (hl : l.length ≤ 9223372036854775807) : Ev (fun k => bits_asked.f k l) (askedI l) := asked_l0 l hl l.length 0 (by omega)
def bits_askedT.f (l0 : List S23) : Option Int := some (askedI l0)
theorem bits_askedT.calls (A0 : Option Addr) (c0 : Nat) (l0 : List (S23)) (r : Int) (w : World) (hr0 : Kd.C k23 w A0 l0.length l0) (hc0 : l0.length ≤ c0) (h : bits_askedT.f l0 = some r) :
    Calls Tryd.prog 26 #[.slice A0 l0.length c0] w fun e w' => e = .returned (.int .i64 r) ∧ Below w.heap.size w w' := by
  obtain rfl : askedI l0 = r := by simpa [bits_askedT.f] using h
  obtain ⟨k, hk⟩ := (asked_ev l0 hr0.2.1).rounds
  exact bits_asked.calls k A0 c0 l0 _ w hr0 hc0 hk
theorem light_l0 (l : List S23) (hl : l.length ≤ 9223372036854775807) : ∀ d i : Nat, i + d = l.length →
    Ev (fun k => ironbarklaw05_light.l0 k l (i : Int)) ((l.drop i).all fun v => decide (v.f3.size ≤ 600)) := by
  intro d
  induction d with
  | zero =>
    intro i h
    rw [List.drop_of_length_le (by omega), List.all_nil]
    exact Ev.step (f := fun _ => some true) (fun k => by simp only [ironbarklaw05_light.l0]; rw [if_neg (by omega)]) (Ev.now _)
  | succ d ih =>
    intro i h
    have hi : i < l.length := by omega
    have e : ∀ k, ironbarklaw05_light.l0 (k + 1) l (i : Int) = if (l.getD i z23).f3.size ≤ 600 then ironbarklaw05_light.l0 k l ((i + 1 : Nat) : Int) else some false := fun k => by
      simp only [ironbarklaw05_light.l0]
      rw [if_pos (by omega), if_pos (by omega), rdT, wrapN hi hl]
      by_cases h1 : (l.getD i z23).f3.size ≤ 600
      · rw [if_neg (by omega), if_pos h1]
      · rw [if_pos (by omega), if_neg h1]
    rw [drop_getD z23 hi, List.all_cons]
    by_cases hc : (l.getD i z23).f3.size ≤ 600
    · rw [decide_eq_true hc, Bool.true_and]
      exact Ev.step (fun k => by rw [e, if_pos hc]) (ih (i + 1) (by omega))
    · rw [decide_eq_false hc, Bool.false_and]
      exact Ev.step (f := fun _ => some false) (fun k => by rw [e, if_neg hc]) (Ev.now _)
def ironbarklaw05_lightT.f (l0 : List S23) : Option Bool := some (l0.all fun v => decide (v.f3.size ≤ 600))
theorem ironbarklaw05_lightT.calls (A0 : Option Addr) (c0 : Nat) (l0 : List (S23)) (r : Bool) (w : World) (hr0 : Kd.C k23 w A0 l0.length l0) (hc0 : l0.length ≤ c0) (h : ironbarklaw05_lightT.f l0 = some r) :
    Calls Tryd.prog 4 #[.slice A0 l0.length c0] w fun e w' => e = .returned (.bool r) ∧ Drawn0 w w' := by
  obtain rfl : (l0.all fun v => decide (v.f3.size ≤ 600)) = r := by simpa [ironbarklaw05_lightT.f] using h
  obtain ⟨k, hk⟩ := (light_l0 l0 hr0.2.1 l0.length 0 (by omega)).rounds
  exact ironbarklaw05_light.calls k A0 c0 l0 _ w hr0 hc0 hk
theorem btN (s : ByteArray) (i : Nat) (h : i < s.size) : bt s (i : Int) = ((s[i]'h).toNat : Int) := (bt_at s (i : Int) (by simpa using h)).symm
theorem okc4 (c : Int) : okc 4 c = (decide (32 ≤ c) && decide (c ≤ 126)) := rfl
theorem okc5 (c : Int) : okc 5 c = (c == 48 || c == 49) := rfl
/-- From an index on. -/
def okFrom (n : Int) (s : ByteArray) (i : Nat) : Bool := (s.data.toList.drop i).all fun c => okc n (c.toNat : Int)
theorem okFrom_end (n : Int) (s : ByteArray) (i : Nat) (h : s.size ≤ i) : okFrom n s i = true := by
  unfold okFrom; rw [List.drop_of_length_le (by simpa using h)]; rfl
theorem okFrom_step (n : Int) (s : ByteArray) (i : Nat) (h : i < s.size) : okFrom n s i = (okc n (bt s (i : Int)) && okFrom n s (i + 1)) := by
  unfold okFrom
  rw [List.drop_eq_getElem_cons (by simpa using h), List.all_cons, btN s i h]; rfl
theorem rvalid_l0 (n a b : Int) (hn : n = 4 ∨ n = 5) (s : ByteArray) (hl : s.size ≤ 9223372036854775807) : ∀ d i : Nat, i + d = s.size →
    Ev (fun k => ironbarkref05_Valid.l0 k (i : Int) n a b s) (okFrom n s i) := by
  intro d
  induction d with
  | zero =>
    intro i h
    rw [okFrom_end n s i (by omega)]
    exact Ev.step (f := fun _ => some true) (fun k => by simp only [ironbarkref05_Valid.l0]; rw [if_neg (by omega)]) (Ev.now _)
  | succ d ih =>
    intro i h
    have hi : i < s.size := by omega
    have e : ∀ k, ironbarkref05_Valid.l0 (k + 1) (i : Int) n a b s = if okc n (bt s (i : Int)) = true then ironbarkref05_Valid.l0 k ((i + 1 : Nat) : Int) n a b s else some false := fun k => by
      simp only [ironbarkref05_Valid.l0]
      rw [if_pos (by omega), wrapN hi hl]
      generalize bt s (i : Int) = c
      rcases hn with rfl | rfl
      · rw [if_neg (by decide), if_pos (by omega), okc4]
        by_cases h1 : c < 32
        · rw [if_pos h1, if_neg (by simp; omega)]
        · by_cases h2 : c > 126
          · rw [if_neg h1, if_pos h2, if_neg (by simp; omega)]
          · rw [if_neg h1, if_neg h2, if_pos (by simp; omega)]
      · rw [if_pos rfl, if_pos (by omega), okc5]
        by_cases h1 : c = 48
        · subst h1; rw [if_pos rfl, if_neg (by decide), if_neg (by decide), if_pos (by decide)]
        · by_cases h2 : c = 49
          · subst h2; rw [if_neg (by decide), if_pos rfl, if_neg (by decide), if_neg (by decide), if_pos (by decide)]
          · rw [if_neg h1, if_neg h2, if_neg (by simp [h1, h2])]
    rw [okFrom_step n s i hi]
    cases hc : okc n (bt s (i : Int)) with
    | true =>
      rw [Bool.true_and]
      exact Ev.step (fun k => by rw [e, if_pos hc]) (ih (i + 1) (by omega))
    | false =>
      rw [Bool.false_and]
      exact Ev.step (f := fun _ => some false) (fun k => by rw [e, if_neg (by rw [hc]; decide)]) (Ev.now _)
theorem rvalid_j0 (b : Bool) (n p q : Int) (hn : b = false → n = 4 ∨ n = 5) (s : ByteArray) (hl : s.size ≤ 9223372036854775807) :
    Ev (fun k => ironbarkref05_Valid.j0 k b n p q s) (!b && okS n s) := by
  cases b with
  | true => exact Ev.step (f := fun _ => some false) (fun k => by simp only [ironbarkref05_Valid.j0]; rw [if_pos trivial]) (Ev.now _)
  | false =>
    refine Ev.step (f := fun k => ironbarkref05_Valid.l0 k 0 n p q s) (fun k => by simp only [ironbarkref05_Valid.j0]; rw [if_neg (by decide)]) ?_
    exact rvalid_l0 n p q (hn rfl) s hl s.size 0 (by omega)
theorem rvalid_ev (n a b : Int) (s : ByteArray) : Ev (fun k => ironbarkref05_Valid.f k n a b s) (validB n a b s) := by
  unfold ironbarkref05_Valid.f
  by_cases ha : a = 0
  · by_cases hb : b = 0
    · by_cases hs : (s.size : Int) > 250
      · refine Ev.congr (f := fun k => ironbarkref05_Valid.j0 k true n a b s) (fun k => by rw [if_pos ha, if_pos hb, if_pos hs]) ?_
        have e : validB n a b s = (!true && okS n s) := by simp [validB, show ¬ s.size ≤ 250 by omega]
        rw [e]
        refine Ev.step (f := fun _ => some false) (fun k => by simp only [ironbarkref05_Valid.j0]; rw [if_pos trivial]) (Ev.now _)
      · have hsz : s.size ≤ 250 := by omega
        by_cases h4 : n = 4
        · refine Ev.congr (f := fun k => ironbarkref05_Valid.j0 k false n a b s) (fun k => by rw [if_pos ha, if_pos hb, if_neg hs, if_pos h4]) ?_
          have e : validB n a b s = (!false && okS n s) := by simp [validB, ha, hb, h4, hsz]
          rw [e]
          exact rvalid_j0 false n a b (fun _ => .inl h4) s (by omega)
        · refine Ev.congr (f := fun k => ironbarkref05_Valid.j0 k (n != 5) n a b s) (fun k => by rw [if_pos ha, if_pos hb, if_neg hs, if_neg h4]) ?_
          have e : validB n a b s = (!(n != 5) && okS n s) := by rw [show (!(n != 5)) = (n == 5) by simp [bne]]; simp [validB, ha, hb, beq_eq_false_iff_ne.2 h4, hsz]
          rw [e]
          exact rvalid_j0 _ n a b (fun h => .inr (by simpa using h)) s (by omega)
    · refine Ev.congr (f := fun k => ironbarkref05_Valid.j0 k true n a b s) (fun k => by rw [if_pos ha, if_neg hb]) ?_
      have e : validB n a b s = false := by simp [validB, hb]
      rw [e]
      exact Ev.step (f := fun _ => some false) (fun k => by simp only [ironbarkref05_Valid.j0]; rw [if_pos trivial]) (Ev.now _)
  · refine Ev.congr (f := fun k => ironbarkref05_Valid.j0 k true n a b s) (fun k => by rw [if_neg ha]) ?_
    have e : validB n a b s = false := by simp [validB, ha]
    rw [e]
    exact Ev.step (f := fun _ => some false) (fun k => by simp only [ironbarkref05_Valid.j0]; rw [if_pos trivial]) (Ev.now _)
def ironbarkref05_ValidT.f (a0_0 a0_1 a0_2 : Int) (a0_3 : ByteArray) : Option Bool := some (validB a0_0 a0_1 a0_2 a0_3)
theorem ironbarkref05_ValidT.calls (a0_0 a0_1 a0_2 : Int) (a0_3 : ByteArray) (r : Bool) (w : World) (h : ironbarkref05_ValidT.f a0_0 a0_1 a0_2 a0_3 = some r) :
    Calls Tryd.prog 9 #[.agg #[.int .i64 a0_0, .int .i64 a0_1, .int .i64 a0_2, .string a0_3]] w fun e w' => e = .returned (.bool r) ∧ Below w.heap.size w w' := by
  obtain rfl : validB a0_0 a0_1 a0_2 a0_3 = r := by simpa [ironbarkref05_ValidT.f] using h
  obtain ⟨k, hk⟩ := (rvalid_ev a0_0 a0_1 a0_2 a0_3).rounds
  exact ironbarkref05_Valid.calls k a0_0 a0_1 a0_2 a0_3 _ w hk
def stringsI (l : List S23) (n : Int) : Int := if l.all okV = true then (if l.all (fun v => v.f0 == (l.getD 0 z23).f0 && (n == 0 || v.f0 == n)) = true then 0 else 10) else 1
theorem strings_l1 (l : List S23) (n : Int) (hl : l.length ≤ 9223372036854775807) : ∀ d i : Nat, i + d = l.length →
    Ev (fun k => ironbarkref05_strings.l1 k l n (i : Int)) (if (l.drop i).all (fun v => v.f0 == (l.getD 0 z23).f0 && (n == 0 || v.f0 == n)) = true then 0 else 10) := by
  intro d
  induction d with
  | zero =>
    intro i h
    rw [List.drop_of_length_le (by omega), List.all_nil, if_pos rfl]
    exact Ev.step (f := fun _ => some 0) (fun k => by simp only [ironbarkref05_strings.l1]; rw [if_neg (by omega)]) (Ev.now _)
  | succ d ih =>
    intro i h
    have hi : i < l.length := by omega
    have e : ∀ k, ironbarkref05_strings.l1 (k + 1) l n (i : Int) = if ((l.getD i z23).f0 == (l.getD 0 z23).f0 && (n == 0 || (l.getD i z23).f0 == n)) = true then ironbarkref05_strings.l1 k l n ((i + 1 : Nat) : Int) else some 10 := fun k => by
      simp only [ironbarkref05_strings.l1]
      rw [if_pos (by omega), if_pos (by omega), if_pos (by omega), rdT, wrapN hi hl, show rd_T23 l 0 = l.getD 0 z23 from rdT l 0]
      generalize (l.getD i z23).f0 = x
      generalize (l.getD 0 z23).f0 = y
      by_cases h1 : x = y <;> by_cases h2 : n = 0 <;> by_cases h3 : x = n <;> simp [h1, h2, h3] <;> simp_all
    rw [drop_getD z23 hi, List.all_cons]
    cases hc : ((l.getD i z23).f0 == (l.getD 0 z23).f0 && (n == 0 || (l.getD i z23).f0 == n)) with
    | true =>
      rw [Bool.true_and]
      exact Ev.step (fun k => by rw [e, if_pos hc]) (ih (i + 1) (by omega))
    | false =>
      rw [Bool.false_and, if_neg (by decide)]
      exact Ev.step (f := fun _ => some 10) (fun k => by rw [e, if_neg (by rw [hc]; decide)]) (Ev.now _)
theorem strings_l0 (l : List S23) (n : Int) (hl : l.length ≤ 9223372036854775807) : ∀ d i : Nat, i + d = l.length →
    Ev (fun k => ironbarkref05_strings.l0 k l n (i : Int)) (if (l.drop i).all okV = true then (if l.all (fun v => v.f0 == (l.getD 0 z23).f0 && (n == 0 || v.f0 == n)) = true then 0 else 10) else 1) := by
  intro d
  induction d with
  | zero =>
    intro i h
    rw [List.drop_of_length_le (by omega), List.all_nil, if_pos rfl]
    refine Ev.step (f := fun k => ironbarkref05_strings.l1 k l n 0) (fun k => by simp only [ironbarkref05_strings.l0]; rw [if_neg (by omega)]) ?_
    exact strings_l1 l n hl l.length 0 (by omega)
  | succ d ih =>
    intro i h
    have hi : i < l.length := by omega
    have e : ∀ k, ironbarkref05_strings.l0 (k + 1) l n (i : Int) = (ironbarkref05_Valid.f k (l.getD i z23).f0 (l.getD i z23).f1 (l.getD i z23).f2 (l.getD i z23).f3).bind fun t => if t = true then ironbarkref05_strings.l0 k l n ((i + 1 : Nat) : Int) else some 1 := fun k => by
      simp only [ironbarkref05_strings.l0]
      rw [if_pos (by omega), if_pos (by omega), rdT, wrapN hi hl]
    rw [drop_getD z23 hi, List.all_cons]
    refine Ev.step e (Ev.bind (rvalid_ev _ _ _ _) ?_)
    show Ev (fun k => if okV (l.getD i z23) = true then _ else _) _
    cases hc : okV (l.getD i z23) with
    | true =>
      rw [Bool.true_and]
      exact Ev.congr (fun k => if_pos rfl) (ih (i + 1) (by omega))
    | false =>
      rw [Bool.false_and, if_neg (by decide)]
      exact Ev.congr (f := fun _ => some 1) (fun k => if_neg (by decide)) (Ev.now _)
def ironbarkref05_stringsT.f (l0 : List S23) (a1 : Int) : Option Int := some (stringsI l0 a1)
theorem ironbarkref05_stringsT.calls (A0 : Option Addr) (c0 : Nat) (l0 : List (S23)) (a1 : Int) (r : Int) (w : World) (hr0 : Kd.C k23 w A0 l0.length l0) (hc0 : l0.length ≤ c0) (h : ironbarkref05_stringsT.f l0 a1 = some r) :
    Calls Tryd.prog 24 #[.slice A0 l0.length c0, .int .i64 a1] w fun e w' => e = .returned (.int .i64 r) ∧ Below w.heap.size w w' := by
  obtain rfl : stringsI l0 a1 = r := by simpa [ironbarkref05_stringsT.f] using h
  obtain ⟨k, hk⟩ := (strings_l0 l0 a1 hr0.2.1 l0.length 0 (by omega)).rounds
  exact ironbarkref05_strings.calls k A0 c0 l0 a1 _ w hr0 hc0 hk
end Go.Proofs.YtnelblndidciiaaDoor.P

-- from the text A27
namespace Go.Proofs.YtnelblndidciiaaDoor.P
open Go.RowKit Go.Proofs.YtnelblndidciiaaDoorW.PrintWords Go.Proofs.YtnelblndidciiaaDoorW.PrintLast Go.Proofs.YtnelblndidciiaaDoorW.PrintMore
attribute [local go_sem] max2_int min2_int max_two min_two max_three min_three max_four min_four   -- for this text's walks alone
set_option linter.unusedVariables false
set_option linter.unusedSimpArgs false
def bits_far.l0 : Nat → List Int → Int → Int → Option (Bool)
  | 0, _, _, _ => none
  | k + 1, x5, x6, x7 => if x7 < x6 then (if 0 ≤ x7 then (if x7 < (x5.length : Int) then (if (rd x5 x7) > 1000000000 then (some true) else (if (rd x5 x7) < (-1000000000) then (some true) else (bits_far.l0 k x5 x6 (wrap64 (x7 + 1))))) else (none)) else (none)) else (some false)
def bits_far.f (k : Nat) (l0 : List Int) : Option (Bool) := bits_far.l0 k l0 (l0.length : Int) 0
set_option maxHeartbeats 8000000 in
set_option maxRecDepth 100000 in
theorem bits_far.calls (k : Nat) (A0 : Option Addr) (c0 : Nat) (l0 : List Int) (r : Bool) (w : World) (hr0 : Kd.C (Kd.int .i64) w A0 l0.length l0) (hc0 : l0.length ≤ c0) (h : bits_far.f k l0 = some r) :
    Calls Tryd.prog 27 #[.slice A0 l0.length c0] w fun e w' => e = .returned (.bool r) ∧ Drawn0 w w' := by
  have HR0 := Aside0.mk hr0
  have HC0 := Aside0.mk hc0
  clear hr0 hc0
  have H : (bits_far.l0 k l0 (l0.length : Int) 0) = some r := h
  clear h
  have H' := Aside0.mk H
  clear H
  go_enter Tryd.func27, Tryd.ntmps27
  go_wp2
  go_loopg [7] k (fun kq v7 w' => ∃ (x7_1 : Int), v7 = .int .i64 x7_1 ∧ Aside0 (bits_far.l0 kq l0 (l0.length : Int) x7_1 = some r) ∧ Aside0 (kq ≤ k) ∧ Drawn0 w w')
  case atStart => exact ⟨(0), (by first | rfl | (simp; done) | (generalize ByteArray.toList _ = l_; cases l_ <;> rfl) | (simp [*]; done)), H', ⟨Nat.le_refl _⟩, by repeat (first | exact Drawn0.refl _ | apply Drawn0.step)⟩
  case round =>
    clear H'
    obtain ⟨x7_1, rfl, HA, HK1, ⟨m1, rfl⟩⟩ := hrel
    cases gk with
    | zero => exact absurd HA.out (by simp [bits_far.l0])
    | succ k1 =>
      have H := HA.out
      clear HA
      simp only [bits_far.l0] at H
      by_cases c2 : x7_1 < (l0.length : Int)
      · rw [if_pos c2] at H
        have c2b0 : decide (x7_1 < (l0.length : Int)) = true := decide_eq_true c2
        clear c2
        by_cases c3 : 0 ≤ x7_1
        · rw [if_pos c3] at H
          have c3b0 : decide (0 ≤ x7_1) = true := decide_eq_true c3
          clear c3
          by_cases c4 : x7_1 < (l0.length : Int)
          · rw [if_pos c4] at H
            have c4b0 : decide (x7_1 < (l0.length : Int)) = true := decide_eq_true c4
            clear c4
            by_cases c5 : (rd l0 x7_1) > 1000000000
            · rw [if_pos c5] at H
              have c5b0 : decide (1000000000 < (rd l0 x7_1)) = true := decide_eq_true c5
              clear c5
              obtain rfl := Option.some.inj H
              have p101 : 0 ≤ (x7_1 : Int) := of_decide_eq_true (by first | (with_reducible assumption) | assumption)
              have q101 : x7_1 < (l0.length : Int) := of_decide_eq_true (by first | (with_reducible assumption) | assumption)
              obtain ⟨ad101, e101, hx101_0⟩ := Kd.at_int HR0.out x7_1 p101 q101
              cases e101
              replace p101 := eq_true p101
              replace q101 := eq_true q101
              go_wp2
              go_ret
              exact ⟨by first | rfl | (simp; done) | (simp [*]; done), by repeat (first | exact Drawn0.refl _ | apply Drawn0.step)⟩
            · rw [if_neg c5] at H
              have c5b0 : decide (1000000000 < (rd l0 x7_1)) = false := decide_eq_false c5
              clear c5
              by_cases c6 : (rd l0 x7_1) < (-1000000000)
              · rw [if_pos c6] at H
                have c6b0 : decide ((rd l0 x7_1) < (-1000000000)) = true := decide_eq_true c6
                clear c6
                obtain rfl := Option.some.inj H
                have p101 : 0 ≤ (x7_1 : Int) := of_decide_eq_true (by first | (with_reducible assumption) | assumption)
                have q101 : x7_1 < (l0.length : Int) := of_decide_eq_true (by first | (with_reducible assumption) | assumption)
                obtain ⟨ad101, e101, hx101_0⟩ := Kd.at_int HR0.out x7_1 p101 q101
                cases e101
                replace p101 := eq_true p101
                replace q101 := eq_true q101
                go_wp2
                go_ret
                exact ⟨by first | rfl | (simp; done) | (simp [*]; done), by repeat (first | exact Drawn0.refl _ | apply Drawn0.step)⟩
              · rw [if_neg c6] at H
                have c6b0 : decide ((rd l0 x7_1) < (-1000000000)) = false := decide_eq_false c6
                clear c6
                have H' := Aside0.mk H
                clear H
                have p101 : 0 ≤ (x7_1 : Int) := of_decide_eq_true (by first | (with_reducible assumption) | assumption)
                have q101 : x7_1 < (l0.length : Int) := of_decide_eq_true (by first | (with_reducible assumption) | assumption)
                obtain ⟨ad101, e101, hx101_0⟩ := Kd.at_int HR0.out x7_1 p101 q101
                cases e101
                replace p101 := eq_true p101
                replace q101 := eq_true q101
                go_wp2
                go_roundg k1
                case measure => have := HK1.out; omega
                case rel => exact ⟨(wrap64 (x7_1 + 1)), (by first | rfl | (simp; done) | (generalize ByteArray.toList _ = l_; cases l_ <;> rfl) | (simp [*]; done)), H', ⟨by have := HK1.out; omega⟩, by repeat (first | exact Drawn0.refl _ | apply Drawn0.step)⟩
          · rw [if_neg c4] at H
            exact absurd H (by simp)
        · rw [if_neg c3] at H
          exact absurd H (by simp)
      · rw [if_neg c2] at H
        have c2b0 : decide (x7_1 < (l0.length : Int)) = false := decide_eq_false c2
        clear c2
        obtain rfl := Option.some.inj H
        go_wp2
        go_ret
        exact ⟨by first | rfl | (simp; done) | (simp [*]; done), by repeat (first | exact Drawn0.refl _ | apply Drawn0.step)⟩
/-- THE ONE PURE STATEMENT of bits_far: yours. -/
def bits_far.Pure : Prop := ∀ (l0 : List Int), l0.length ≤ maxLen → l0.length * 8 ≤ 140737488351232 → (∀ x ∈ l0, (Lit.int .i64 x).wf = true) → ∃ k, bits_far.f k l0 = some true
theorem bits_far.walk (P : bits_far.Pure) (a0 : Option Addr) (len0 cap0 : Nat) (z0 : List Int) (w : World) (w0 : (a0 = none ∧ len0 = 0 ∧ cap0 = 0 ∧ z0 = []) ∨ ∃ x, a0 = some x ∧ len0 ≤ cap0 ∧ cap0 ≤ maxLen ∧ z0.length = cap0 ∧ (∀ i, i < z0.length → w.cell? (x.add i) = some (.int .i64 (z0.getD i 0))) ∧ ∀ n ∈ z0, (Lit.int .i64 n).wf = true) (y0 : len0 * 8 ≤ 140737488351232) :
    Calls Tryd.prog 27 #[.slice a0 len0 cap0] w fun e w' => e = .returned (.bool true) ∧ Below w.heap.size w w' := by
  obtain ⟨l0, rfl, hr0, hm0, hw0, hc0⟩ := ReadsInt.ofRowC w0
  obtain ⟨k, h⟩ := P l0 hm0 y0 hw0
  refine (bits_far.calls k _ _ l0 true w (Kd.C_of_reads (d := (0 : Int)) (h1 := fun _ => rfl) hr0) hc0 h).mono ?_
  rintro e w' ⟨rfl, hd⟩
  exact ⟨rfl, hd.below⟩
end Go.Proofs.YtnelblndidciiaaDoor.P

-- from the text Hcf
namespace Go.Proofs.YtnelblndidciiaaDoor.P
open Go.RowKit Go.Proofs.YtnelblndidciiaaDoorW.PrintWords Go.Proofs.YtnelblndidciiaaDoorW.PrintLast Go.Proofs.YtnelblndidciiaaDoorW.PrintMore
set_option linter.unusedVariables false
set_option linter.unusedSimpArgs false
def farI (n : Int) : Bool := decide (n > 1000000000) || decide (n < -1000000000)
theorem far_l0 (l : List Int) (hl : l.length ≤ 9223372036854775807) : ∀ d i : Nat, i + d = l.length →
    Ev (fun k => bits_far.l0 k l (l.length : Int) (i : Int)) ((l.drop i).any farI) := by
  intro d
  induction d with
  | zero =>
    intro i h
    rw [List.drop_of_length_le (by omega), List.any_nil]
    exact Ev.step (f := fun _ => some false) (fun k => by simp only [bits_far.l0]; rw [if_neg (by omega)]) (Ev.now _)
  | succ d ih =>
    intro i h
    have hi : i < l.length := by omega
    have e : ∀ k, bits_far.l0 (k + 1) l (l.length : Int) (i : Int) = if farI (l.getD i 0) = true then some true else bits_far.l0 k l (l.length : Int) ((i + 1 : Nat) : Int) := fun k => by
      simp only [bits_far.l0]
      rw [if_pos (by omega), if_pos (by omega), if_pos (by omega), rdI, wrapN hi hl]
      by_cases h1 : l.getD i 0 > 1000000000
      · rw [if_pos h1, if_pos (by simp only [farI, decide_eq_true h1, Bool.true_or])]
      · by_cases h2 : l.getD i 0 < -1000000000
        · rw [if_neg h1, if_pos h2, if_pos (by simp only [farI, decide_eq_true h2, Bool.or_true])]
        · rw [if_neg h1, if_neg h2, if_neg (by simp only [farI, decide_eq_false h1, decide_eq_false h2]; decide)]
    rw [drop_getD 0 hi, List.any_cons]
    cases hc : farI (l.getD i 0) with
    | true =>
      rw [Bool.true_or]
      exact Ev.step (f := fun _ => some true) (fun k => by rw [e, if_pos hc]) (Ev.now _)
    | false =>
      rw [Bool.false_or]
      exact Ev.step (fun k => by rw [e, if_neg (by rw [hc]; decide)]) (ih (i + 1) (by omega))
def bits_farT.f (l0 : List Int) : Option Bool := some (l0.any farI)
theorem bits_farT.calls (A0 : Option Addr) (c0 : Nat) (l0 : List Int) (r : Bool) (w : World) (hr0 : Kd.C (Kd.int .i64) w A0 l0.length l0) (hc0 : l0.length ≤ c0) (h : bits_farT.f l0 = some r) :
    Calls Tryd.prog 27 #[.slice A0 l0.length c0] w fun e w' => e = .returned (.bool r) ∧ Drawn0 w w' := by
  obtain rfl : l0.any farI = r := by simpa [bits_farT.f] using h
  obtain ⟨k, hk⟩ := (far_l0 l0 hr0.2.1 l0.length 0 (by omega)).rounds
  exact bits_far.calls k A0 c0 l0 _ w hr0 hc0 hk
end Go.Proofs.YtnelblndidciiaaDoor.P

-- from the text A28
namespace Go.Proofs.YtnelblndidciiaaDoor.P
open Go.RowKit Go.Proofs.YtnelblndidciiaaDoorW.PrintWords Go.Proofs.YtnelblndidciiaaDoorW.PrintLast Go.Proofs.YtnelblndidciiaaDoorW.PrintMore
attribute [local go_sem] max2_int min2_int max_two min_two max_three min_three max_four min_four   -- for this text's walks alone
set_option linter.unusedVariables false
set_option linter.unusedSimpArgs false
def bits_part.f (a0 : Int) (a1 : Int) (a2 : Int) : Option (Int × Int × Bool) := if a1 ≥ 1 then (if a2 ≥ 0 then (some (mn (wrap64 ((mx a1 1) - 1)) a0, mx (mn (wrap64 ((wrap64 (a1 + a2)) - 1)) a0) (mn (wrap64 ((mx a1 1) - 1)) a0), decide ((wrap64 ((wrap64 (a1 + a2)) - 1)) ≤ a0))) else (some (mn (wrap64 ((mx a1 1) - 1)) a0, mx (mn (wrap64 ((wrap64 (a1 + a2)) - 1)) a0) (mn (wrap64 ((mx a1 1) - 1)) a0), false))) else (some (mn (wrap64 ((mx a1 1) - 1)) a0, mx (mn (wrap64 ((wrap64 (a1 + a2)) - 1)) a0) (mn (wrap64 ((mx a1 1) - 1)) a0), false))
set_option maxHeartbeats 8000000 in
set_option maxRecDepth 100000 in
theorem bits_part.calls (a0 : Int) (a1 : Int) (a2 : Int) (r1 : Int) (r2 : Int) (r3 : Bool) (w : World) (h : bits_part.f a0 a1 a2 = some (r1, r2, r3)) :
    Calls Tryd.prog 28 #[.int .i64 a0, .int .i64 a1, .int .i64 a2] w fun e w' => e = .returned (.tuple #[.int .i64 r1, .int .i64 r2, .bool r3]) ∧ Below w.heap.size w w' := by
  have HB := Aside0.mk (Below.refl w.heap.size w)
  have H : (if a1 ≥ 1 then (if a2 ≥ 0 then (some (mn (wrap64 ((mx a1 1) - 1)) a0, mx (mn (wrap64 ((wrap64 (a1 + a2)) - 1)) a0) (mn (wrap64 ((mx a1 1) - 1)) a0), decide ((wrap64 ((wrap64 (a1 + a2)) - 1)) ≤ a0))) else (some (mn (wrap64 ((mx a1 1) - 1)) a0, mx (mn (wrap64 ((wrap64 (a1 + a2)) - 1)) a0) (mn (wrap64 ((mx a1 1) - 1)) a0), false))) else (some (mn (wrap64 ((mx a1 1) - 1)) a0, mx (mn (wrap64 ((wrap64 (a1 + a2)) - 1)) a0) (mn (wrap64 ((mx a1 1) - 1)) a0), false))) = some (r1, r2, r3) := h
  clear h
  obtain ⟨ji4, hji4⟩ : ∃ j_ : Int, (mx a1 1) = j_ := ⟨_, rfl⟩
  replace H : (if a1 ≥ 1 then (if a2 ≥ 0 then (some (mn (wrap64 ((ji4) - 1)) a0, mx (mn (wrap64 ((wrap64 (a1 + a2)) - 1)) a0) (mn (wrap64 ((ji4) - 1)) a0), decide ((wrap64 ((wrap64 (a1 + a2)) - 1)) ≤ a0))) else (some (mn (wrap64 ((ji4) - 1)) a0, mx (mn (wrap64 ((wrap64 (a1 + a2)) - 1)) a0) (mn (wrap64 ((ji4) - 1)) a0), false))) else (some (mn (wrap64 ((ji4) - 1)) a0, mx (mn (wrap64 ((wrap64 (a1 + a2)) - 1)) a0) (mn (wrap64 ((ji4) - 1)) a0), false))) = some (r1, r2, r3) := by first | (rw [hji4] at H; exact H) | (simp only [hji4] at H ⊢; exact H)
  (try (have hji4l : 1 ≤ ji4 := by (rw [← hji4]; unfold mx; (repeat' split) <;> omega)))
  (try (have hji4m : 0 ≤ ji4 := by omega))
  have hji4_ : (if a1 < 1 then 1 else a1) = ji4 := hji4
  obtain ⟨ji5, hji5⟩ : ∃ j_ : Int, (mn (wrap64 ((ji4) - 1)) a0) = j_ := ⟨_, rfl⟩
  replace H : (if a1 ≥ 1 then (if a2 ≥ 0 then (some (ji5, mx (mn (wrap64 ((wrap64 (a1 + a2)) - 1)) a0) (ji5), decide ((wrap64 ((wrap64 (a1 + a2)) - 1)) ≤ a0))) else (some (ji5, mx (mn (wrap64 ((wrap64 (a1 + a2)) - 1)) a0) (ji5), false))) else (some (ji5, mx (mn (wrap64 ((wrap64 (a1 + a2)) - 1)) a0) (ji5), false))) = some (r1, r2, r3) := by first | (rw [hji5] at H; exact H) | (simp only [hji5] at H ⊢; exact H)
  have hji5_ : (if a0 < (wrap64 ((ji4) - 1)) then a0 else (wrap64 ((ji4) - 1))) = ji5 := hji5
  obtain ⟨ji6, hji6⟩ : ∃ j_ : Int, (mn (wrap64 ((wrap64 (a1 + a2)) - 1)) a0) = j_ := ⟨_, rfl⟩
  replace H : (if a1 ≥ 1 then (if a2 ≥ 0 then (some (ji5, mx (ji6) (ji5), decide ((wrap64 ((wrap64 (a1 + a2)) - 1)) ≤ a0))) else (some (ji5, mx (ji6) (ji5), false))) else (some (ji5, mx (ji6) (ji5), false))) = some (r1, r2, r3) := by first | (rw [hji6] at H; exact H) | (simp only [hji6] at H ⊢; exact H)
  have hji6_ : (if a0 < (wrap64 ((wrap64 (a1 + a2)) - 1)) then a0 else (wrap64 ((wrap64 (a1 + a2)) - 1))) = ji6 := hji6
  obtain ⟨ji7, hji7⟩ : ∃ j_ : Int, (mx (ji6) (ji5)) = j_ := ⟨_, rfl⟩
  replace H : (if a1 ≥ 1 then (if a2 ≥ 0 then (some (ji5, ji7, decide ((wrap64 ((wrap64 (a1 + a2)) - 1)) ≤ a0))) else (some (ji5, ji7, false))) else (some (ji5, ji7, false))) = some (r1, r2, r3) := by first | (rw [hji7] at H; exact H) | (simp only [hji7] at H ⊢; exact H)
  have hji7_ : (if (ji6) < (ji5) then (ji5) else (ji6)) = ji7 := hji7
  by_cases c8 : a1 ≥ 1
  · rw [if_pos c8] at H
    have c8b0 : decide (1 ≤ a1) = true := decide_eq_true c8
    clear c8
    by_cases c9 : a2 ≥ 0
    · rw [if_pos c9] at H
      have c9b0 : decide (0 ≤ a2) = true := decide_eq_true c9
      clear c9
      simp only [Option.some.injEq, Prod.mk.injEq] at H
      obtain ⟨rfl, rfl, rfl⟩ := H
      go_enter Tryd.func28, Tryd.ntmps28
      go_wp2
      go_ret3
      exact ⟨by first | rfl | (simp [errW_none, errW_some] <;> rfl) | (simp only [← hji4, ← hji5, ← hji6, ← hji7]; first | rfl | (simp [errW_none, errW_some] <;> rfl)) | (simp [*, errW_none, errW_some] <;> rfl), by repeat (first | (with_reducible first | exact HB.out | apply below_alloc | apply pw_below_drewN | apply below_drew1) | exact HB.out)⟩
    · rw [if_neg c9] at H
      have c9b0 : decide (0 ≤ a2) = false := decide_eq_false c9
      clear c9
      simp only [Option.some.injEq, Prod.mk.injEq] at H
      obtain ⟨rfl, rfl, rfl⟩ := H
      go_enter Tryd.func28, Tryd.ntmps28
      go_wp2
      go_ret3
      exact ⟨by first | rfl | (simp [errW_none, errW_some] <;> rfl) | (simp only [← hji4, ← hji5, ← hji6, ← hji7]; first | rfl | (simp [errW_none, errW_some] <;> rfl)) | (simp [*, errW_none, errW_some] <;> rfl), by repeat (first | (with_reducible first | exact HB.out | apply below_alloc | apply pw_below_drewN | apply below_drew1) | exact HB.out)⟩
  · rw [if_neg c8] at H
    have c8b0 : decide (1 ≤ a1) = false := decide_eq_false c8
    clear c8
    simp only [Option.some.injEq, Prod.mk.injEq] at H
    obtain ⟨rfl, rfl, rfl⟩ := H
    go_enter Tryd.func28, Tryd.ntmps28
    go_wp2
    go_ret3
    exact ⟨by first | rfl | (simp [errW_none, errW_some] <;> rfl) | (simp only [← hji4, ← hji5, ← hji6, ← hji7]; first | rfl | (simp [errW_none, errW_some] <;> rfl)) | (simp [*, errW_none, errW_some] <;> rfl), by repeat (first | (with_reducible first | exact HB.out | apply below_alloc | apply pw_below_drewN | apply below_drew1) | exact HB.out)⟩
end Go.Proofs.YtnelblndidciiaaDoor.P

-- from the text A18
namespace Go.Proofs.YtnelblndidciiaaDoor.P
open Go.RowKit Go.Proofs.YtnelblndidciiaaDoorW.PrintWords Go.Proofs.YtnelblndidciiaaDoorW.PrintLast Go.Proofs.YtnelblndidciiaaDoorW.PrintMore
attribute [local go_sem] max2_int min2_int max_two min_two max_three min_three max_four min_four   -- for this text's walks alone
set_option linter.unusedVariables false
set_option linter.unusedSimpArgs false
def bits_with.f (a0_0 : Int) (a0_1 : Int) (a0_2 : Int) (a0_3 : ByteArray) (a1 : ByteArray) : Option (Int × Int × Int × ByteArray) := some (a0_0, 0, 0, a1)
set_option maxHeartbeats 8000000 in
set_option maxRecDepth 100000 in
theorem bits_with.calls (a0_0 : Int) (a0_1 : Int) (a0_2 : Int) (a0_3 : ByteArray) (a1 : ByteArray) (r1 : Int) (r2 : Int) (r3 : Int) (r4 : ByteArray) (w : World) (h : bits_with.f a0_0 a0_1 a0_2 a0_3 a1 = some (r1, r2, r3, r4)) :
    Calls Tryd.prog 18 #[.agg #[.int .i64 a0_0, .int .i64 a0_1, .int .i64 a0_2, .string a0_3], .string a1] w fun e w' => e = .returned (.agg #[.int .i64 r1, .int .i64 r2, .int .i64 r3, .string r4]) ∧ Below w.heap.size w w' := by
  have hu23 := Tryd.underlying23
  have HB := Aside0.mk (Below.refl w.heap.size w)
  have H : (some (a0_0, 0, 0, a1)) = some (r1, r2, r3, r4) := h
  clear h
  simp only [Option.some.injEq, Prod.mk.injEq] at H
  obtain ⟨rfl, rfl, rfl, rfl⟩ := H
  go_enter Tryd.func18, Tryd.ntmps18
  go_wp2_with (first | ((with_reducible refine gate_dst (N := 2) rfl ?_); refine box_event ?hg (N := 2) ?hd (cs := #[.int .i64 a0_0, .int .i64 a0_1, .int .i64 a0_2, .string a0_3]) (t := 23) ?hr ?_; (case hd => rfl); (case hg => rfl); (case hr => first | (go_simp; done) | (go_simp; rfl)); intro gb101 hg w3 hbox hb; have n0_ := Aside0.mk (below_step (by repeat (first | (with_reducible first | exact HB.out | apply below_alloc | apply pw_below_drewN | apply below_drew1) | exact HB.out)) hb); have n1_ := Aside0.mk (hbox); have n2_ := Aside0.mk ((by rw [hg]; exact (below_size (by repeat (first | (with_reducible first | exact HB.out | apply below_alloc | apply pw_below_drewN | apply below_drew1) | exact HB.out))) : w.heap.size ≤ gb101)); have n3_ := n2_; clear HB; have HB := n0_; have BK101 := n1_; have GW101 := n2_; have GE101 := n3_; clear n0_ n1_ n2_ n3_; clear hb hbox hg) | ((with_reducible refine gate_dst (N := 4) rfl ?_); refine box_event ?hg (N := 4) ?hd (cs := #[.int .i64 0, .int .i64 0, .int .i64 0, .string (⟨#[]⟩ : ByteArray)]) (t := 23) ?hr ?_; (case hd => rfl); (case hg => rfl); (case hr => first | (go_simp; done) | (go_simp; rfl)); intro gb102 hg w4 hbox hb; have n0_ := Aside0.mk (blk_below (zk BK101.out) hb); have n1_ := Aside0.mk (below_step (by repeat (first | (with_reducible first | exact HB.out | apply below_alloc | apply pw_below_drewN | apply below_drew1 | refine below_set ?_ GE101.out) | exact HB.out)) hb); have n2_ := Aside0.mk (hbox); have n3_ := Aside0.mk ((by rw [hg]; exact (below_size (by repeat (first | (with_reducible first | exact HB.out | apply below_alloc | apply pw_below_drewN | apply below_drew1 | refine below_set ?_ GE101.out) | exact HB.out))) : w.heap.size ≤ gb102)); have n4_ := n3_; have n5_ := Aside0.mk ((by rw [hg]; exact Nat.ne_of_lt (blk_lt (zk BK101.out)) : gb101 ≠ gb102)); have n6_ := Aside0.mk ((by rw [hg]; exact Nat.ne_of_gt (blk_lt (zk BK101.out)) : gb102 ≠ gb101)); clear BK101; clear HB; have BK101 := n0_; have HB := n1_; have BK102 := n2_; have GW102 := n3_; have GE102 := n4_; have NB101_102 := n5_; have NB102_101 := n6_; clear n0_ n1_ n2_ n3_ n4_ n5_ n6_; clear hb hbox hg; have hnb5 := NB101_102.out; have hnc5 := NB102_101.out; obtain ⟨hcz6_0, hcz6_1, hcz6_2, hcz6_3⟩ := blk_quad BK101.out; obtain ⟨hfz6_0, hfz6_1, hfz6_2, hfz6_3⟩ := blk_quad_free BK101.out; obtain ⟨hcz7_0, hcz7_1, hcz7_2, hcz7_3⟩ := blk_quad BK102.out; obtain ⟨hfz7_0, hfz7_1, hfz7_2, hfz7_3⟩ := blk_quad_free BK102.out))
  refine bodyPost_ret (results_cell_row rfl _ _ gb102 23 #[.int .i64 a0_0, .int .i64 0, .int .i64 0, .string a1] (0, 0) _ rfl (by refine zk ?_; refine blk_put (cs := #[.int .i64 a0_0, .int .i64 0, .int .i64 0, .string (⟨#[]⟩ : ByteArray)]) ?_ 3 _ rfl; refine zk ?_; refine blk_put (cs := #[.int .i64 a0_0, .int .i64 0, .int .i64 0, .string (⟨#[]⟩ : ByteArray)]) ?_ 2 _ rfl; refine zk ?_; refine blk_put (cs := #[.int .i64 a0_0, .int .i64 0, .int .i64 0, .string (⟨#[]⟩ : ByteArray)]) ?_ 1 _ rfl; refine zk ?_; refine blk_put (cs := #[.int .i64 0, .int .i64 0, .int .i64 0, .string (⟨#[]⟩ : ByteArray)]) ?_ 0 _ rfl; refine zk ?_; exact BK102.out) Tryd.underlying23 rfl (by kernel_rfl)) rfl ?_
  exact ⟨by first | rfl | (simp [errW_none, errW_some] <;> rfl) | (simp [*, errW_none, errW_some] <;> rfl), by repeat (first | (with_reducible first | exact HB.out | apply below_alloc | apply pw_below_drewN | apply below_drew1 | refine below_set ?_ GE101.out | refine below_set ?_ GE102.out) | exact HB.out)⟩
end Go.Proofs.YtnelblndidciiaaDoor.P

-- from the text A30
namespace Go.Proofs.YtnelblndidciiaaDoor.P
open Go.RowKit Go.Proofs.YtnelblndidciiaaDoorW.PrintWords Go.Proofs.YtnelblndidciiaaDoorW.PrintLast Go.Proofs.YtnelblndidciiaaDoorW.PrintMore
attribute [local go_sem] max2_int min2_int max_two min_two max_three min_three max_four min_four   -- for this text's walks alone
set_option linter.unusedVariables false
set_option linter.unusedSimpArgs false
def bits_cond.f (a0 : Bool) : Option (Int) := if a0 = true then (some 0) else (some 5)
set_option maxHeartbeats 8000000 in
set_option maxRecDepth 100000 in
theorem bits_cond.calls (a0 : Bool) (r : Int) (w : World) (h : bits_cond.f a0 = some r) :
    Calls Tryd.prog 30 #[.bool a0] w fun e w' => e = .returned (.int .i64 r) ∧ Drawn0 w w' := by
  have H : (if a0 = true then (some 0) else (some 5)) = some r := h
  clear h
  by_cases c2 : a0 = true
  · subst c2
    have H1 : (some 0) = some r := by rw [if_pos rfl] at H; exact H
    clear H
    have H := H1
    clear H1
    obtain rfl := Option.some.inj H
    go_enter Tryd.func30, Tryd.ntmps30
    go_wp2
    go_ret
    exact ⟨by first | rfl | (simp; done) | (simp [*]; done), by repeat (first | exact Drawn0.refl _ | apply Drawn0.step)⟩
  · replace c2 := Bool.eq_false_iff.mpr c2
    subst c2
    have H1 : (some 5) = some r := by rw [if_neg (show ¬ (false = true) by decide)] at H; exact H
    clear H
    have H := H1
    clear H1
    obtain rfl := Option.some.inj H
    go_enter Tryd.func30, Tryd.ntmps30
    go_wp2
    go_ret
    exact ⟨by first | rfl | (simp; done) | (simp [*]; done), by repeat (first | exact Drawn0.refl _ | apply Drawn0.step)⟩
end Go.Proofs.YtnelblndidciiaaDoor.P

-- from the text He
namespace Go.Proofs.YtnelblndidciiaaDoor.P
open Go.RowKit Go.Proofs.YtnelblndidciiaaDoorW.PrintWords Go.Proofs.YtnelblndidciiaaDoorW.PrintLast Go.Proofs.YtnelblndidciiaaDoorW.PrintMore
set_option linter.unusedVariables false
set_option linter.unusedSimpArgs false
/-- Block g is a row of bytes whose first cells are vals; none of its cells is frozen. -/
structure BRow (W : World) (g : Nat) (e : Nat) (vals : List Int) : Prop where mk ::
  out : ∃ cur : Array Value, W.heap[g]? = some (.cells cur e (cur.size, cur.size + 1)) ∧ vals.length ≤ cur.size ∧ ∀ j : Nat, j < vals.length → cur[j]? = some (.int .u8 (vals.getD j 0))
theorem BRow.cell {W : World} {g e : Nat} {vals : List Int} (h : BRow W g e vals) {j : Nat} (hj : j < vals.length) : W.cell? ⟨g, j, none⟩ = some (.int .u8 (vals.getD j 0)) := by
  obtain ⟨cur, h1, h2, h3⟩ := h.out
  simp [World.cell?, h1, h3 j hj]
theorem BRow.free {W : World} {g e : Nat} {vals : List Int} (h : BRow W g e vals) {j : Nat} (hj : j < vals.length) : W.frozen? ⟨g, j, none⟩ = false := by
  obtain ⟨cur, h1, h2, h3⟩ := h.out
  simp [World.frozen?, h1]; omega
theorem BRow.move {W W' : World} {g e : Nat} {vals : List Int} (h : BRow W g e vals) (hm : W'.heap[g]? = W.heap[g]?) : BRow W' g e vals := by
  obtain ⟨cur, h1, h2, h3⟩ := h.out
  exact ⟨cur, hm.trans h1, h2, h3⟩
theorem BRow.lt {W : World} {g e : Nat} {vals : List Int} (h : BRow W g e vals) : g < W.heap.size := by
  obtain ⟨cur, h1, _⟩ := h.out
  rcases Nat.lt_or_ge g W.heap.size with h' | h'
  · exact h'
  · rw [Array.getElem?_eq_none h'] at h1; cases h1
theorem BRow.below {W W' : World} {g e : Nat} {vals : List Int} (h : BRow W g e vals) (hb : Below W.heap.size W W') : BRow W' g e vals := h.move (hb.block g h.lt)
theorem BRow.set {W : World} {g e : Nat} {vals : List Int} (h : BRow W g e vals) (j : Nat) (x : Int) : BRow (W.setCell ⟨g, j, none⟩ (.int .u8 x)) g e (vals.set j x) := by
  obtain ⟨cur, h1, h2, h3⟩ := h.out
  have hg := h.lt
  refine ⟨cur.setIfInBounds j (.int .u8 x), ?_, by simpa using h2, fun i hi => ?_⟩
  · have h1' : W.heap[g] = .cells cur e (cur.size, cur.size + 1) := by
      rw [Array.getElem?_eq_getElem hg] at h1; exact Option.some.inj h1
    simp [World.setCell, Array.getElem?_modify, Array.getElem?_eq_getElem hg, h1']
  · rw [List.length_set] at hi
    by_cases hij : j = i
    · subst hij
      rw [Array.getElem?_setIfInBounds_self_of_lt (by omega)]
      simp [List.getD_eq_getElem?_getD, List.getElem?_set_self hi]
    · rw [Array.getElem?_setIfInBounds_ne hij, h3 i hi]
      simp [List.getD_eq_getElem?_getD, List.getElem?_set_ne hij]
theorem BRow.make (w : World) (e : Nat) (s : ByteArray) : BRow (Lib.bytesWorld w e s) w.heap.size e (bytesOf s) := by
  refine ⟨Lib.bytesCells w e s, Lib.bytesWorld_at_new w e s, by simp [Lib.bytesCells, bytesOf], fun j hj => ?_⟩
  have hj' : j < s.size := by simpa [bytesOf] using hj
  have := Lib.bytesWorld_cell w e s j hj'
  rw [World.cell?, Lib.bytesWorld_at_new] at this
  simp only [Option.isSome_none, Bool.false_eq_true, if_false] at this
  rw [this]
  have hjl : j < s.data.toList.length := hj'
  simp [bytesOf, List.getD_eq_getElem?_getD, List.getElem?_map, List.getElem?_eq_getElem hjl]
theorem below_bytes {w W : World} (e : Nat) (s : ByteArray) (h : Below w.heap.size w W) : Below w.heap.size w (Lib.bytesWorld W e s) :=
  ⟨h.os, h.tape, h.output, Nat.le_trans h.size (by rw [Lib.bytesWorld_size]; omega), fun k hk => (Lib.bytesWorld_at_old W e s k (Nat.lt_of_lt_of_le hk h.size)).trans (h.block k hk)⟩
theorem below_bytes_self (W : World) (e : Nat) (s : ByteArray) : Below W.heap.size W (Lib.bytesWorld W e s) := below_bytes e s (Below.refl _ _)
theorem BRow.string {P : Program} {W : World} {g e src dst c : Nat} {vals : List Int} (h : BRow W g e vals) (hl : vals.length ≤ 9223372036854775807) (hs : P.underlying src = some (.slice e)) (he : P.underlying e = some (.int .u8)) (hd : P.underlying dst = some .string) :
    (convert src dst (.slice (some ⟨g, 0, none⟩) vals.length c)).run P W = .ok (.string (strOfNums vals)) W := by
  refine string_of_reads hs he hd ⟨rfl, hl, fun _ => ⟨_, rfl, fun j hj => ?_⟩⟩
  rw [add_plain]; exact h.cell hj
theorem bytesOf_len (s : ByteArray) : (bytesOf s).length = s.size := by simp [bytesOf]
/-- The bytes behind the setting of a part: those from 'from' on, m of them. -/
def setL (n : Int) (v : ByteArray) (i fr : Int) (m : Nat) (vals : List Int) : List Int := (List.range m).foldl (fun l j => l.set (fr.toNat + j) (if fr + j - i + 1 < v.size then bt v (fr + j - i + 1) else fillc n)) vals
theorem setL_len (n : Int) (v : ByteArray) (i fr : Int) (m : Nat) (vals : List Int) : (setL n v i fr m vals).length = vals.length := by
  unfold setL
  induction m with
  | zero => rfl
  | succ m ih => rw [List.range_succ, List.foldl_append]; simp only [List.foldl_cons, List.foldl_nil, List.length_set]; exact ih
theorem setL_succ (n : Int) (v : ByteArray) (i fr : Int) (m : Nat) (vals : List Int) : setL n v i fr (m + 1) vals = (setL n v i fr m vals).set (fr.toNat + m) (if fr + m - i + 1 < v.size then bt v (fr + m - i + 1) else fillc n) := by
  unfold setL
  rw [List.range_succ, List.foldl_append]; rfl
def bits_SetSub.f (a0_0 a0_1 a0_2 : Int) (a0_3 : ByteArray) (a1 a2 : Int) (a3_0 a3_1 a3_2 : Int) (a3_3 : ByteArray) : Option (Int × Int × Int × ByteArray × Int × Int) :=
  if askedI [⟨a0_0, a0_1, a0_2, a0_3⟩, ⟨a3_0, a3_1, a3_2, a3_3⟩] = 0 then
    (if farI a1 || farI a2 then some (0, 0, 0, ⟨#[]⟩, 0, 7)
     else (bits_part.f (a0_3.size : Int) a1 a2).bind fun p => (bits_cond.f p.2.2).bind fun c => some (a0_0, 0, 0, strOfNums (setL a3_0 a3_3 a1 p.1 (p.2.1 - p.1).toNat (bytesOf a0_3)), c, 0))
  else some (0, 0, 0, ⟨#[]⟩, 0, askedI [⟨a0_0, a0_1, a0_2, a0_3⟩, ⟨a3_0, a3_1, a3_2, a3_3⟩])
theorem askedI_two {x y : S23} (h : askedI [x, y] = 0) : okV x = true ∧ okV y = true ∧ x.f0 = y.f0 := by
  simp [askedI] at h
  split at h
  · rename_i h1
    split at h
    · rename_i h2; exact ⟨h1.1, h1.2, h2.symm⟩
    · cases h
  · cases h
theorem okV_parts {v : S23} (h : okV v = true) : (v.f0 = 4 ∨ v.f0 = 5) ∧ v.f1 = 0 ∧ v.f2 = 0 ∧ v.f3.size ≤ 250 ∧ okS v.f0 v.f3 = true := by
  simpa [okV, validB] using h
theorem kd_two {W : World} {B : Nat} {x y : S23} (h : ∃ f, W.heap[B]? = some (.cells #[.int .i64 x.f0, .int .i64 x.f1, .int .i64 x.f2, .string x.f3, .int .i64 y.f0, .int .i64 y.f1, .int .i64 y.f2, .string y.f3] 23 f)) : Kd.C k23 W (some ⟨B, 0, none⟩) 2 [x, y] := by
  obtain ⟨f, h⟩ := h
  refine ⟨rfl, by decide, fun _ => ⟨_, rfl, fun j p hj => ?_⟩⟩
  match j, hj with
  | 0, hj =>
    obtain rfl : x = p := by simpa using hj
    refine ⟨_, rfl, k23_mk W x, fun i u hu => ?_⟩
    rw [add_plain]
    match i, hu with
    | 0, hu | 1, hu | 2, hu | 3, hu => simp [World.cell?, h, k23, Kd.iso, Kd.pair, Kd.int, Kd.string, Kd.scalar] at hu ⊢; exact hu
    | n + 4, hu => simp at hu
  | 1, hj =>
    obtain rfl : y = p := by simpa using hj
    refine ⟨_, rfl, k23_mk W y, fun i u hu => ?_⟩
    rw [add_plain]
    match i, hu with
    | 0, hu | 1, hu | 2, hu | 3, hu => simp [World.cell?, h, k23, Kd.iso, Kd.pair, Kd.int, Kd.string, Kd.scalar] at hu ⊢; exact hu
    | n + 4, hu => simp at hu
  | j + 2, hj => simp at hj
theorem asked_two (x y : S23) (B : Nat) (w : World) (h : ∃ f, w.heap[B]? = some (.cells #[.int .i64 x.f0, .int .i64 x.f1, .int .i64 x.f2, .string x.f3, .int .i64 y.f0, .int .i64 y.f1, .int .i64 y.f2, .string y.f3] 23 f)) :
    Calls Tryd.prog 26 #[.slice (some ⟨B, 0, none⟩) 2 2] w fun e w' => e = .returned (.int .i64 (askedI [x, y])) ∧ Below w.heap.size w w' :=
  bits_askedT.calls _ 2 [x, y] _ w (kd_two h) (Nat.le_refl _) rfl
theorem far_two (x y : Int) (B : Nat) (w : World) (h0 : w.cell? ⟨B, 0, none⟩ = some (.int .i64 x)) (h1 : w.cell? ⟨B, 1, none⟩ = some (.int .i64 y)) :
    Calls Tryd.prog 27 #[.slice (some ⟨B, 0, none⟩) 2 2] w fun e w' => e = .returned (.bool (farI x || farI y)) ∧ Below w.heap.size w w' := by
  have := bits_farT.calls (some ⟨B, 0, none⟩) 2 [x, y] (farI x || farI y) w (Kd.C_of_reads (d := (0 : Int)) (h1 := fun _ => rfl) ⟨rfl, by show 2 ≤ _; omega, fun _ => ⟨_, rfl, fun j hj => by
    rw [add_plain]
    match j, hj with
    | 0, _ => exact h0
    | 1, _ => exact h1⟩⟩) (Nat.le_refl _) (by simp [bits_farT.f])
  exact this.mono fun e w' ⟨he, hd⟩ => ⟨he, hd.below⟩
theorem part_bounds (l i n fr tt : Int) (rt : Bool) (hl : 0 ≤ l) (hl2 : l ≤ 250) (hi : farI i = false) (hn : farI n = false) (h : bits_part.f l i n = some (fr, tt, rt)) :
    0 ≤ fr ∧ fr ≤ tt ∧ tt ≤ l ∧ fr = mn (mx i 1 - 1) l ∧ tt = mx (mn (i + n - 1) l) fr ∧ rt = (decide (1 ≤ i) && (decide (0 ≤ n) && decide (i + n - 1 ≤ l))) := by
  simp [farI] at hi hn
  unfold bits_part.f at h
  have e1 : wrap64 ((mx i 1) - 1) = mx i 1 - 1 := by unfold wrap64 mx; split <;> omega
  have e2 : wrap64 (i + n) = i + n := by unfold wrap64; omega
  have e3 : wrap64 (i + n - 1) = i + n - 1 := by unfold wrap64; omega
  rw [e2, e3, e1] at h
  split at h
  · split at h
    · simp only [Option.some.injEq, Prod.mk.injEq] at h
      obtain ⟨rfl, rfl, rfl⟩ := h
      refine ⟨by unfold mn mx; repeat' split <;> omega, by unfold mn mx; repeat' split <;> omega, by unfold mn mx; repeat' split <;> omega, rfl, rfl, ?_⟩
      rename_i h1 h2; rw [decide_eq_true (show 1 ≤ i from h1), decide_eq_true (show 0 ≤ n from h2)]; rfl
    · simp only [Option.some.injEq, Prod.mk.injEq] at h
      obtain ⟨rfl, rfl, rfl⟩ := h
      refine ⟨by unfold mn mx; repeat' split <;> omega, by unfold mn mx; repeat' split <;> omega, by unfold mn mx; repeat' split <;> omega, rfl, rfl, ?_⟩
      rename_i h1 h2; simp; omega
  · simp only [Option.some.injEq, Prod.mk.injEq] at h
    obtain ⟨rfl, rfl, rfl⟩ := h
    refine ⟨by unfold mn mx; repeat' split <;> omega, by unfold mn mx; repeat' split <;> omega, by unfold mn mx; repeat' split <;> omega, rfl, rfl, ?_⟩
    rename_i h1; simp; omega
theorem blk_at_n {W : World} {o : Obj} {n : Nat} (h : n = W.heap.size) : (W.alloc o).heap[n]? = some o := h ▸ blk_new W o
def box23 (v : S23) : Array Value := #[.int .i64 v.f0, .int .i64 v.f1, .int .i64 v.f2, .string v.f3]
set_option maxRecDepth 100000 in
theorem setsub_asked (s v : S23) (i n : Int) (w : World) (h : askedI [s, v] ≠ 0) :
    Calls Tryd.prog 16 #[.agg #[.int .i64 s.f0, .int .i64 s.f1, .int .i64 s.f2, .string s.f3], .int .i64 i, .int .i64 n, .agg #[.int .i64 v.f0, .int .i64 v.f1, .int .i64 v.f2, .string v.f3]] w fun e w' =>
      e = .returned (.tuple #[.agg #[.int .i64 0, .int .i64 0, .int .i64 0, .string ⟨#[]⟩], .int .i64 0, .int .i64 (askedI [s, v])]) ∧ Below w.heap.size w w' := by
  have h1 : (askedI [s, v] != 0) = true := bne_iff_ne.2 h
  clear h
  go_enter Tryd.func16, Tryd.ntmps16
  go_wp2_with (go_at_call 26; refine (asked_two s v _ _ ?hh).mono ?_)
  case hh => (refine ⟨(0, 0), ?_⟩; exact blk_at_n (by simp))
  rintro e w' ⟨rfl, hb1⟩
  have hb : Below w.heap.size w w' := (((((Below.refl _ _).alloc (Nat.le_refl _) _).alloc (by simp) _).alloc (by simp; omega) _).alloc (by simp; omega) _).trans (hb1.mono (by simp; omega))
  have hZ : w'.heap[w.heap.size + 1 + 1]? = some (.cells #[.int .i64 0, .int .i64 0, .int .i64 0, .string ⟨#[]⟩] 23 (0, 0)) := blk_below (blk_alloc (blk_at_n (by simp)) _) hb1
  have c0 := blk_cell hZ 0
  have c1 := blk_cell hZ 1
  have c2 := blk_cell hZ 2
  have c3 := blk_cell hZ 3
  have f0 := blk_frozen hZ 0
  have f1 := blk_frozen hZ 1
  have f2 := blk_frozen hZ 2
  have f3 := blk_frozen hZ 3
  have HZ := Aside0.mk hZ
  clear hZ hb1
  go_wp2_with fail
  refine bodyPost_ret (v := .tuple #[.agg #[.int .i64 0, .int .i64 0, .int .i64 0, .string ⟨#[]⟩], .int .i64 0, .int .i64 (askedI [s, v])]) (by simp [results, Tryd.results16, go_sem, c0, c1, c2, c3]) rfl ⟨rfl, ?_⟩
  repeat (first | exact hb | refine Below.setCell ?_ (by simp; omega) _)
set_option maxRecDepth 100000 in
theorem setsub_far (s v : S23) (i n : Int) (w : World) (h : askedI [s, v] = 0) (hf : (farI i || farI n) = true) :
    Calls Tryd.prog 16 #[.agg #[.int .i64 s.f0, .int .i64 s.f1, .int .i64 s.f2, .string s.f3], .int .i64 i, .int .i64 n, .agg #[.int .i64 v.f0, .int .i64 v.f1, .int .i64 v.f2, .string v.f3]] w fun e w' =>
      e = .returned (.tuple #[.agg #[.int .i64 0, .int .i64 0, .int .i64 0, .string ⟨#[]⟩], .int .i64 0, .int .i64 7]) ∧ Below w.heap.size w w' := by
  have h0 := asked_two s v
  rw [h] at h0
  have h2 := far_two i n
  rw [hf] at h2
  have H0 := Lib.hid h0
  have H2 := Lib.hid h2
  clear h h0 h2 hf
  go_enter Tryd.func16, Tryd.ntmps16
  go_wp2_with (go_at_call 26; refine (H0.out _ _ ?hh).mono ?_)
  case hh => (refine ⟨(0, 0), ?_⟩; exact blk_at_n (by simp))
  rintro e w' ⟨rfl, hb1⟩
  have hb : Below w.heap.size w w' := (((((Below.refl _ _).alloc (Nat.le_refl _) _).alloc (by simp) _).alloc (by simp; omega) _).alloc (by simp; omega) _).trans (hb1.mono (by simp; omega))
  have hZ : w'.heap[w.heap.size + 1 + 1]? = some (.cells #[.int .i64 0, .int .i64 0, .int .i64 0, .string ⟨#[]⟩] 23 (0, 0)) := blk_below (blk_alloc (blk_at_n (by simp)) _) hb1
  have HZ := Aside0.mk hZ
  clear hZ hb1
  go_wp2_with (go_at_call 27; refine (H2.out _ _ ?h0 ?h1).mono ?_)
  case h0 => simp [go_sem]
  case h1 => simp [go_sem]
  rintro e w2 ⟨rfl, hb2⟩
  have hZ : w2.heap[w.heap.size + 1 + 1]? = some (.cells #[.int .i64 0, .int .i64 0, .int .i64 0, .string ⟨#[]⟩] 23 (0, 0)) := blk_below (blk_alloc HZ.out _) hb2
  have hb3 : Below w.heap.size w w2 := (hb.alloc hb.size _).trans (hb2.mono (by have := hb.size; simp; omega))
  have c0 := blk_cell hZ 0
  have c1 := blk_cell hZ 1
  have c2 := blk_cell hZ 2
  have c3 := blk_cell hZ 3
  have f0 := blk_frozen hZ 0
  have f1 := blk_frozen hZ 1
  have f2 := blk_frozen hZ 2
  have f3 := blk_frozen hZ 3
  clear hZ hb2 hb HZ
  go_wp2_with fail
  refine bodyPost_ret (v := .tuple #[.agg #[.int .i64 0, .int .i64 0, .int .i64 0, .string ⟨#[]⟩], .int .i64 0, .int .i64 7]) (by simp [results, Tryd.results16, go_sem, c0, c1, c2, c3]) rfl ⟨rfl, ?_⟩
  repeat (first | exact hb3 | refine Below.setCell ?_ (by simp; omega) _)
theorem bits_with.is (n a b : Int) (s r : ByteArray) : bits_with.f n a b s r = some (n, 0, 0, r) := rfl
set_option maxRecDepth 100000 in
set_option maxHeartbeats 4000000 in
theorem setsub_does (s v : S23) (i n : Int) (w : World) (h : askedI [s, v] = 0) (hi : farI i = false) (hn : farI n = false) (fr tt : Int) (rt : Bool) (hp : bits_part.f (s.f3.size : Int) i n = some (fr, tt, rt)) (c : Int) (hcnd : bits_cond.f rt = some c) (out : ByteArray) (hout : strOfNums (setL v.f0 v.f3 i fr (tt - fr).toNat (bytesOf s.f3)) = out) :
    Calls Tryd.prog 16 #[.agg #[.int .i64 s.f0, .int .i64 s.f1, .int .i64 s.f2, .string s.f3], .int .i64 i, .int .i64 n, .agg #[.int .i64 v.f0, .int .i64 v.f1, .int .i64 v.f2, .string v.f3]] w fun e w' =>
      e = .returned (.tuple #[.agg #[.int .i64 s.f0, .int .i64 0, .int .i64 0, .string out], .int .i64 c, .int .i64 0]) ∧ Below w.heap.size w w' := by
  have HO := Lib.hid hout
  clear hout
  obtain ⟨ok1, ok2, -⟩ := askedI_two h
  have hs := (okV_parts ok1).2.2.2.1
  have hv := (okV_parts ok2).2.2.2.1
  have hk := (okV_parts ok2).1
  obtain ⟨hfr0, hfrt, htl, hfre, -, -⟩ := part_bounds _ _ _ _ _ _ (by omega) (by omega) hi hn hp
  have hfi : fr < tt → i ≤ fr + 1 := by intro h3; rw [hfre] at h3 ⊢; unfold mn mx at *; split at h3 <;> split at h3 <;> omega
  clear hfre
  have hi2 : -1000000000 ≤ i ∧ i ≤ 1000000000 := by simp [farI] at hi; omega
  have h0 := asked_two s v
  rw [h] at h0
  have h2 := far_two i n
  rw [hi, hn] at h2
  have H0 := Lib.hid h0
  have H2 := Lib.hid h2
  have HP := Lib.hid hp
  have HC := Lib.hid hcnd
  clear h h0 h2 hi hn ok1 ok2 hp hcnd
  go_enter Tryd.func16, Tryd.ntmps16
  go_wp2_with (go_at_call 26; refine (H0.out _ _ ?hh).mono ?_)
  case hh => (refine ⟨(0, 0), ?_⟩; exact blk_at_n (by simp))
  rintro e w' ⟨rfl, hb1⟩
  have hb : Below w.heap.size w w' := (((((Below.refl _ _).alloc (Nat.le_refl _) _).alloc (by simp) _).alloc (by simp; omega) _).alloc (by simp; omega) _).trans (hb1.mono (by simp; omega))
  have hS : w'.heap[w.heap.size]? = some (.cells (box23 s) 23 (0, 0)) := blk_below (blk_alloc (blk_alloc (blk_alloc (blk_at_n (by simp)) _) _) _) hb1
  have hV : w'.heap[w.heap.size + 1]? = some (.cells (box23 v) 23 (0, 0)) := blk_below (blk_alloc (blk_alloc (blk_at_n (by simp)) _) _) hb1
  have hZ : w'.heap[w.heap.size + 1 + 1]? = some (.cells #[.int .i64 0, .int .i64 0, .int .i64 0, .string ⟨#[]⟩] 23 (0, 0)) := blk_below (blk_alloc (blk_at_n (by simp)) _) hb1
  have HS := Aside0.mk hS
  have HV := Aside0.mk hV
  have HZ := Aside0.mk hZ
  clear hZ hS hV hb1
  go_wp2_with (go_at_call 27; refine (H2.out _ _ ?h0 ?h1).mono ?_)
  case h0 => simp [go_sem]
  case h1 => simp [go_sem]
  rintro e w2 ⟨rfl, hb2⟩
  have hS := Aside0.mk (blk_below (blk_alloc HS.out _) hb2)
  have hV := Aside0.mk (blk_below (blk_alloc HV.out _) hb2)
  have hZ := Aside0.mk (blk_below (blk_alloc HZ.out _) hb2)
  have hb3 : Below w.heap.size w w2 := (hb.alloc hb.size _).trans (hb2.mono (by have := hb.size; simp; omega))
  clear hb2 hb HZ HS HV
  have s3 : w2.cell? ⟨w.heap.size, 3, none⟩ = some (.string s.f3) := (blk_cell hS.out 3).trans rfl
  go_wp2_with (go_at_call 28; refine (bits_part.calls _ _ _ _ _ _ _ HP.out).mono ?_)
  rintro e w3 ⟨rfl, hb4⟩
  clear s3
  have hS := Aside0.mk (blk_below hS.out hb4)
  have hV := Aside0.mk (blk_below hV.out hb4)
  have hZ := Aside0.mk (blk_below hZ.out hb4)
  have hb5 := hb3.trans (hb4.mono hb3.size)
  clear hb4 hb3
  have s3 : w3.cell? ⟨w.heap.size, 3, none⟩ = some (.string s.f3) := (blk_cell hS.out 3).trans rfl
  have hconv := fun (W : World) => Lib.run_convert_string_bytes (P := Tryd.prog) W 9 50 5 s.f3 Tryd.underlying9 Tryd.underlying50 Tryd.underlying5
  go_wp2_with fail
  clear s3
  go_loopw [16] (fun p wr => ∃ m : Nat, m ≤ (tt - fr).toNat ∧ p = .int .i64 (fr + m) ∧ Aside0 (Below w.heap.size w wr) ∧ Aside0 (wr.heap[w.heap.size]? = some (.cells (box23 s) 23 (0, 0))) ∧ Aside0 (wr.heap[w.heap.size + 1]? = some (.cells (box23 v) 23 (0, 0))) ∧ Aside0 (wr.heap[w.heap.size + 1 + 1]? = some (.cells #[.int .i64 0, .int .i64 0, .int .i64 0, .string ⟨#[]⟩] 23 (0, 0))) ∧ BRow wr w3.heap.size 5 (setL v.f0 v.f3 i fr m (bytesOf s.f3))) (fun p _ => (tt - intOf p).toNat)
  case atStart =>
    exact ⟨0, Nat.zero_le _, by simp, ⟨below_bytes 5 _ hb5⟩, ⟨blk_below hS.out (below_bytes_self _ _ _)⟩, ⟨blk_below hV.out (below_bytes_self _ _ _)⟩, ⟨blk_below hZ.out (below_bytes_self _ _ _)⟩, BRow.make _ _ _⟩
  case round =>
    obtain ⟨m, hm, rfl, HB, KS, KV, KZ, HR⟩ := hrel
    by_cases hlt : m < (tt - fr).toNat
    · have hge : 0 ≤ fr + m - i + 1 := by have := hfi (by omega); omega
      obtain ⟨x, hx⟩ : ∃ x, x = (if fr + m - i + 1 < v.f3.size then bt v.f3 (fr + m - i + 1) else fillc v.f0) := ⟨_, rfl⟩
      have hat : bits_at.f v.f0 v.f1 v.f2 v.f3 (fr + m - i + 1) = some x := by
        unfold bits_at.f
        by_cases h5 : fr + m - i + 1 < v.f3.size
        · rw [if_pos h5, if_pos hge, hx, if_pos h5]
        · rw [if_neg h5, if_pos hk, hx, if_neg h5]
      have HX := Lib.hid hx
      have HAT := Lib.hid hat
      clear hx hat
      have v0 : wr.cell? ⟨w.heap.size + 1, 0, none⟩ = some (.int .i64 v.f0) := (blk_cell KV.out 0).trans rfl
      have v1 : wr.cell? ⟨w.heap.size + 1, 1, none⟩ = some (.int .i64 v.f1) := (blk_cell KV.out 1).trans rfl
      have v2 : wr.cell? ⟨w.heap.size + 1, 2, none⟩ = some (.int .i64 v.f2) := (blk_cell KV.out 2).trans rfl
      have v3 : wr.cell? ⟨w.heap.size + 1, 3, none⟩ = some (.string v.f3) := (blk_cell KV.out 3).trans rfl
      go_wp2_with (go_at_call 29; refine (bits_at.calls _ _ _ _ _ _ _ HAT.out).mono ?_)
      rintro e w4 ⟨rfl, hb6⟩
      clear v0 v1 v2 v3
      have hlen : (setL v.f0 v.f3 i fr m (bytesOf s.f3)).length = s.f3.size := by rw [setL_len, bytesOf_len]
      have HR4 := HR.below hb6
      have hidx : (fr + m).toNat < (setL v.f0 v.f3 i fr m (bytesOf s.f3)).length := by rw [hlen]; omega
      have hcell := HR4.cell hidx
      have hfree := HR4.free hidx
      have hbd : 0 ≤ fr + (m : Int) ∧ fr + (m : Int) < (s.f3.size : Int) := ⟨by omega, by omega⟩
      have hbw := Aside0.mk (HB.out.trans (hb6.mono HB.out.size))
      have KS := Aside0.mk (blk_below KS.out hb6)
      have KV := Aside0.mk (blk_below KV.out hb6)
      have KZ := Aside0.mk (blk_below KZ.out hb6)
      clear hlen HR hidx hb6
      go_wp2_with fail
      have hg1 : w.heap.size ≠ w3.heap.size := by have := blk_lt hZ.out; omega
      have hg2 : w.heap.size + 1 ≠ w3.heap.size := by have := blk_lt hZ.out; omega
      have hg3 : w.heap.size + 1 + 1 ≠ w3.heap.size := by have := blk_lt hZ.out; omega
      have hset := HR4.set (fr + m).toNat x
      rw [HX.out, show (fr + (m : Int)).toNat = fr.toNat + m by omega, ← setL_succ, ← HX.out] at hset
      go_roundw
      case rel =>
        refine ⟨m + 1, by omega, by congr 1; omega, ⟨hbw.out.setCell (by have := hb5.size; exact this) _⟩, ⟨blk_far KS.out hg1 _⟩, ⟨blk_far KV.out hg2 _⟩, ⟨blk_far KZ.out hg3 _⟩, ?_⟩
        rw [show (fr + (m : Int)).toNat = fr.toNat + m by omega]
        exact hset
      case measure => simp [intOf]; omega
    · obtain rfl : m = (tt - fr).toNat := by omega
      have hmm : fr + (((tt - fr).toNat : Nat) : Int) = tt := by omega
      have hlen : (setL v.f0 v.f3 i fr (tt - fr).toNat (bytesOf s.f3)).length = s.f3.size := by rw [setL_len, bytesOf_len]
      have s0 : wr.cell? ⟨w.heap.size, 0, none⟩ = some (.int .i64 s.f0) := (blk_cell KS.out 0).trans rfl
      have s1 : wr.cell? ⟨w.heap.size, 1, none⟩ = some (.int .i64 s.f1) := (blk_cell KS.out 1).trans rfl
      have s2 : wr.cell? ⟨w.heap.size, 2, none⟩ = some (.int .i64 s.f2) := (blk_cell KS.out 2).trans rfl
      have s3 : wr.cell? ⟨w.heap.size, 3, none⟩ = some (.string s.f3) := (blk_cell KS.out 3).trans rfl
      have hcv : ∀ c : Nat, (convert 50 9 (.slice (some ⟨w3.heap.size, 0, none⟩) s.f3.size c)).run Tryd.prog wr = .ok (.string (strOfNums (setL v.f0 v.f3 i fr (tt - fr).toNat (bytesOf s.f3)))) wr := fun c => by
        have := HR.string (P := Tryd.prog) (src := 50) (dst := 9) (c := c) (by rw [hlen]; omega) Tryd.underlying50 Tryd.underlying5 Tryd.underlying9
        rw [hlen] at this; exact this
      clear hlen HR
      rw [HO.out] at hcv
      rw [hmm]
      clear hmm
      go_wp2_with (go_at_call 18; refine (bits_with.calls _ _ _ _ _ _ _ _ _ _ (bits_with.is _ _ _ _ _)).mono ?_)
      rintro e w4 ⟨rfl, hb6⟩
      have KZ := Aside0.mk (blk_below KZ.out hb6)
      have hb7 := Aside0.mk (HB.out.trans (hb6.mono HB.out.size))
      clear s0 s1 s2 s3 hb6 hcv
      go_wp2_with (go_at_call 30; refine (bits_cond.calls _ _ _ HC.out).mono ?_)
      rintro e w5 ⟨rfl, hd⟩
      have hb8 := hd.below
      have KZ := blk_below KZ.out hb8
      have hb9 := Aside0.mk (hb7.out.trans (hb8.mono hb7.out.size))
      clear hd hb8
      have c0 := blk_cell KZ 0
      have c1 := blk_cell KZ 1
      have c2 := blk_cell KZ 2
      have c3 := blk_cell KZ 3
      have f0 := blk_frozen KZ 0
      have f1 := blk_frozen KZ 1
      have f2 := blk_frozen KZ 2
      have f3 := blk_frozen KZ 3
      clear KZ
      go_wp2_with fail
      refine bodyPost_ret (v := .tuple #[.agg #[.int .i64 s.f0, .int .i64 0, .int .i64 0, .string out], .int .i64 c, .int .i64 0]) (by simp [results, Tryd.results16, go_sem, c0, c1, c2, c3]) rfl ⟨rfl, ?_⟩
      repeat (first | exact hb9.out | refine Below.setCell ?_ (by simp; omega) _)
theorem bits_SetSub.calls (a0_0 a0_1 a0_2 : Int) (a0_3 : ByteArray) (a1 a2 : Int) (a3_0 a3_1 a3_2 : Int) (a3_3 : ByteArray) (r1 r2 r3 : Int) (r4 : ByteArray) (r5 r6 : Int) (w : World)
    (h : bits_SetSub.f a0_0 a0_1 a0_2 a0_3 a1 a2 a3_0 a3_1 a3_2 a3_3 = some (r1, r2, r3, r4, r5, r6)) :
    Calls Tryd.prog 16 #[.agg #[.int .i64 a0_0, .int .i64 a0_1, .int .i64 a0_2, .string a0_3], .int .i64 a1, .int .i64 a2, .agg #[.int .i64 a3_0, .int .i64 a3_1, .int .i64 a3_2, .string a3_3]] w fun e w' =>
      e = .returned (.tuple #[.agg #[.int .i64 r1, .int .i64 r2, .int .i64 r3, .string r4], .int .i64 r5, .int .i64 r6]) ∧ Below w.heap.size w w' := by
  unfold bits_SetSub.f at h
  split at h
  · rename_i h1
    split at h
    · rename_i h2
      simp only [Option.some.injEq, Prod.mk.injEq] at h
      obtain ⟨rfl, rfl, rfl, rfl, rfl, rfl⟩ := h
      exact setsub_far ⟨a0_0, a0_1, a0_2, a0_3⟩ ⟨a3_0, a3_1, a3_2, a3_3⟩ a1 a2 w h1 h2
    · rename_i h2
      obtain ⟨p, hp, h⟩ := Option.bind_eq_some_iff.1 h
      obtain ⟨c, hc, h⟩ := Option.bind_eq_some_iff.1 h
      simp only [Option.some.injEq, Prod.mk.injEq] at h
      obtain ⟨rfl, rfl, rfl, rfl, rfl, rfl⟩ := h
      simp only [Bool.or_eq_true, not_or, Bool.not_eq_true] at h2
      exact setsub_does ⟨a0_0, a0_1, a0_2, a0_3⟩ ⟨a3_0, a3_1, a3_2, a3_3⟩ a1 a2 w h1 h2.1 h2.2 p.1 p.2.1 p.2.2 hp c hc _ rfl
  · rename_i h1
    simp only [Option.some.injEq, Prod.mk.injEq] at h
    obtain ⟨rfl, rfl, rfl, rfl, rfl, rfl⟩ := h
    exact setsub_asked ⟨a0_0, a0_1, a0_2, a0_3⟩ ⟨a3_0, a3_1, a3_2, a3_3⟩ a1 a2 w h1
end Go.Proofs.YtnelblndidciiaaDoor.P

-- from the text Hf
namespace Go.Proofs.YtnelblndidciiaaDoor.P
open Go.RowKit Go.Proofs.YtnelblndidciiaaDoorW.PrintWords Go.Proofs.YtnelblndidciiaaDoorW.PrintLast Go.Proofs.YtnelblndidciiaaDoorW.PrintMore
set_option linter.unusedVariables false
set_option linter.unusedSimpArgs false
def strings_Repeat.f (a0 : ByteArray) (a1 : Int) : Option ByteArray := if 0 ≤ a1 ∧ a1 ≤ 9223372036854775807 ∧ a0.size * a1.toNat ≤ 140737488355328 then some ⟨(Lib.repeatL a0.data.toList a1.toNat).toArray⟩ else none
theorem strings_Repeat.calls (a0 : ByteArray) (a1 : Int) (r : ByteArray) (w : World) (h : strings_Repeat.f a0 a1 = some r) :
    Calls Tryd.prog 19 #[.string a0, .int .i64 a1] w fun e w' => e = .returned (.string r) ∧ Below w.heap.size w w' := by
  unfold strings_Repeat.f at h
  split at h
  · rename_i hc
    obtain rfl : (⟨(Lib.repeatL a0.data.toList a1.toNat).toArray⟩ : ByteArray) = r := by simpa using h
    obtain ⟨c, rfl⟩ := Int.eq_ofNat_of_zero_le hc.1
    exact Go.Proofs.Tryd.strings_Repeat a0 c w (by omega) (by simpa using hc.2.2)
  · cases h
theorem toList_nil (p : ByteArray) (h : p.size = 0) : p.toList = [] := by
  rw [ByteArray.toList_eq]; exact List.eq_nil_of_length_eq_zero (by simpa using h)
theorem toList_ne (p : ByteArray) (h : 0 < p.size) : ¬ p.toList = [] := by
  rw [ByteArray.toList_eq]; intro e
  have : p.size = 0 := by rw [← data_length, e]; rfl
  omega
def strings_Trim.f (a0 a1 : ByteArray) : Option ByteArray := if a1 = ⟨#[32]⟩ ∧ a0.size ≤ 9223372036854775807 then some ⟨(Lib.trimB a0.data.toList 32).toArray⟩ else none
theorem strings_Trim.calls (a0 a1 : ByteArray) (r : ByteArray) (w : World) (h : strings_Trim.f a0 a1 = some r) :
    Calls Tryd.prog 23 #[.string a0, .string a1] w fun e w' => e = .returned (.string r) ∧ Drawn0 w w' := by
  unfold strings_Trim.f at h
  split at h
  · rename_i hc
    obtain ⟨rfl, hs⟩ := hc
    obtain rfl : (⟨(Lib.trimB a0.data.toList 32).toArray⟩ : ByteArray) = r := by simpa using h
    exact (Go.Proofs.Tryd.strings_Trim_one a0 32 (by decide) w hs).mono fun e w' ⟨he, hw⟩ => ⟨he, by rcases hw with rfl | rfl; exact Drawn0.refl _; exact (Drawn0.refl _).step 1⟩
  · cases h
end Go.Proofs.YtnelblndidciiaaDoor.P

-- from the text A37
namespace Go.Proofs.YtnelblndidciiaaDoor.P
open Go.RowKit Go.Proofs.YtnelblndidciiaaDoorW.PrintWords Go.Proofs.YtnelblndidciiaaDoorW.PrintLast Go.Proofs.YtnelblndidciiaaDoorW.PrintMore
attribute [local go_sem] max2_int min2_int max_two min_two max_three min_three max_four min_four   -- for this text's walks alone
set_option linter.unusedVariables false
set_option linter.unusedSimpArgs false
def ironbarkref05_Filler.f (a0 : Int) : Option (ByteArray) := if a0 = 5 then (some (⟨#[48]⟩ : ByteArray)) else (some (⟨#[32]⟩ : ByteArray))
set_option maxHeartbeats 8000000 in
set_option maxRecDepth 100000 in
theorem ironbarkref05_Filler.calls (a0 : Int) (r : ByteArray) (w : World) (h : ironbarkref05_Filler.f a0 = some r) :
    Calls Tryd.prog 37 #[.int .i64 a0] w fun e w' => e = .returned (.string r) ∧ Drawn0 w w' := by
  have H : (if a0 = 5 then (some (⟨#[48]⟩ : ByteArray)) else (some (⟨#[32]⟩ : ByteArray))) = some r := h
  clear h
  by_cases c2 : a0 = 5
  · rw [if_pos c2] at H
    have c2b0 : (a0 == 5) = true := beq_iff_eq.mpr c2
    have c2b1 : (a0 != 5) = false := bne_eq_false_iff_eq.mpr c2
    clear c2
    obtain rfl := Option.some.inj H
    go_enter Tryd.func37, Tryd.ntmps37
    go_wp2
    go_ret
    exact ⟨by first | rfl | (simp; done) | (simp [*]; done), by repeat (first | exact Drawn0.refl _ | apply Drawn0.step)⟩
  · rw [if_neg c2] at H
    have c2b0 : (a0 == 5) = false := beq_eq_false_iff_ne.mpr c2
    have c2b1 : (a0 != 5) = true := bne_iff_ne.mpr c2
    obtain rfl := Option.some.inj H
    go_enter Tryd.func37, Tryd.ntmps37
    go_wp2
    go_ret
    exact ⟨by first | rfl | (simp; done) | (simp [*]; done), by repeat (first | exact Drawn0.refl _ | apply Drawn0.step)⟩
end Go.Proofs.YtnelblndidciiaaDoor.P

-- from the text A21
namespace Go.Proofs.YtnelblndidciiaaDoor.P
open Go.RowKit Go.Proofs.YtnelblndidciiaaDoorW.PrintWords Go.Proofs.YtnelblndidciiaaDoorW.PrintLast Go.Proofs.YtnelblndidciiaaDoorW.PrintMore
attribute [local go_sem] max2_int min2_int max_two min_two max_three min_three max_four min_four   -- for this text's walks alone
set_option linter.unusedVariables false
set_option linter.unusedSimpArgs false
def ironbarkref05_Filled.l0 : Nat → ByteArray → Int → Int → Option (ByteArray)
  | 0, _, _, _ => none
  | k + 1, x0, x1, x2 => if (x0.size : Int) < x2 then ((ironbarkref05_Filler.f x1).bind fun t101 => (if x0.size + t101.size ≤ 9223372036854775807 then (ironbarkref05_Filled.l0 k (x0 ++ t101) x1 x2) else (none))) else (if 0 ≤ (mx x2 0) then (if (mx x2 0) ≤ (x0.size : Int) then (some (x0.extract 0 ((mx x2 0) : Int).toNat)) else (none)) else (none))
def ironbarkref05_Filled.f (k : Nat) (a0 : ByteArray) (a1 : Int) (a2 : Int) : Option (ByteArray) := ironbarkref05_Filled.l0 k a0 a1 a2
set_option maxHeartbeats 8000000 in
set_option maxRecDepth 100000 in
theorem ironbarkref05_Filled.calls (k : Nat) (a0 : ByteArray) (a1 : Int) (a2 : Int) (r : ByteArray) (w : World) (h : ironbarkref05_Filled.f k a0 a1 a2 = some r) :
    Calls Tryd.prog 21 #[.string a0, .int .i64 a1, .int .i64 a2] w fun e w' => e = .returned (.string r) ∧ Below w.heap.size w w' := by
  have HB := Aside0.mk (Below.refl w.heap.size w)
  have H : (ironbarkref05_Filled.l0 k a0 a1 a2) = some r := h
  clear h
  have H' := Aside0.mk H
  clear H
  go_enter Tryd.func21, Tryd.ntmps21
  go_wp2
  go_loopg [0] k (fun kq v0 w' => ∃ (x0_1 : ByteArray), v0 = .string x0_1 ∧ Aside0 (ironbarkref05_Filled.l0 kq x0_1 a1 a2 = some r) ∧ Aside0 (kq ≤ k) ∧ Aside0 (Below w.heap.size w w'))
  case atStart => exact ⟨(a0), (by first | rfl | (simp; done) | (generalize ByteArray.toList _ = l_; cases l_ <;> rfl) | (simp [*]; done)), H', ⟨Nat.le_refl _⟩, ⟨by repeat (first | (with_reducible first | exact HB.out | apply below_alloc | apply pw_below_drewN | apply below_drew1) | exact HB.out)⟩⟩
  case round =>
    clear H'
    try clear c2
    try clear p2
    obtain ⟨x0_1, rfl, HA, HK1, HB⟩ := hrel
    cases gk with
    | zero => exact absurd HA.out (by simp [ironbarkref05_Filled.l0])
    | succ k1 =>
      have H := HA.out
      clear HA
      simp only [ironbarkref05_Filled.l0] at H
      by_cases c4 : (x0_1.size : Int) < a2
      · rw [if_pos c4] at H
        have c4b0 : decide ((x0_1.size : Int) < a2) = true := decide_eq_true c4
        clear c4
        replace H := Option.bind_eq_some_iff.mp H
        obtain ⟨t101, A50, H⟩ := H
        replace H : (if x0_1.size + t101.size ≤ 9223372036854775807 then (ironbarkref05_Filled.l0 k1 (x0_1 ++ t101) a1 a2) else (none)) = some r := H
        have A5 := Aside0.mk A50
        clear A50
        by_cases c6 : x0_1.size + t101.size ≤ 9223372036854775807
        · rw [if_pos c6] at H
          have c6b0 := eq_true c6
          have c6b1 : decide (x0_1.size + t101.size ≤ 9223372036854775807) = true := decide_eq_true c6
          try have c6b2 : (9223372036854775807 < x0_1.size + t101.size) = False := eq_false (Nat.not_lt.2 c6)
          have H' := Aside0.mk H
          clear H
          go_wp2_with (first | ((with_reducible refine gate_callee (f := 37) rfl ?_); refine goesL_ (some 13) rfl rfl Tryd.func37 (by kernel_rfl) rfl #[.int .i64 a1] rfl (by (try simp only [List.map_toArray, List.map_cons, List.map_nil]); first | done | rfl | (simp only [List.length_drop, List.length_take]; rfl)) ?_; (with_reducible refine (ironbarkref05_Filler.calls a1 t101 _ A5.out).mono ?_); rintro e w' ⟨rfl, ⟨nd, rfl⟩⟩; refine ⟨_, rfl, ?_⟩))
          go_roundg k1
          case measure => have := HK1.out; omega
          case rel => exact ⟨(x0_1 ++ t101), (by first | rfl | (simp; done) | (generalize ByteArray.toList _ = l_; cases l_ <;> rfl) | (simp [*]; done)), H', ⟨by have := HK1.out; omega⟩, ⟨by repeat (first | (with_reducible first | exact HB.out | apply below_alloc | apply pw_below_drewN | apply below_drew1) | exact HB.out)⟩⟩
        · rw [if_neg c6] at H
          exact absurd H (by simp)
      · rw [if_neg c4] at H
        have c4b0 : decide ((x0_1.size : Int) < a2) = false := decide_eq_false c4
        clear c4
        obtain ⟨ji7, hji7⟩ : ∃ j_ : Int, (mx a2 0) = j_ := ⟨_, rfl⟩
        replace H : (if 0 ≤ (ji7) then (if (ji7) ≤ (x0_1.size : Int) then (some (x0_1.extract 0 ((ji7) : Int).toNat)) else (none)) else (none)) = some r := by first | (rw [hji7] at H; exact H) | (simp only [hji7] at H ⊢; exact H)
        have hji7_ : (if a2 < 0 then 0 else a2) = ji7 := hji7
        by_cases c8 : 0 ≤ (ji7)
        · rw [if_pos c8] at H
          have c8b0 := eq_true c8
          have c8b1 : decide (0 ≤ (ji7)) = true := decide_eq_true c8
          clear c8
          by_cases c9 : (ji7) ≤ (x0_1.size : Int)
          · rw [if_pos c9] at H
            have c9b0 := eq_true c9
            have c9b1 : decide ((ji7) ≤ (x0_1.size : Int)) = true := decide_eq_true c9
            clear c9
            obtain rfl := Option.some.inj H
            go_wp2
            go_ret
            exact ⟨by first | rfl | (simp [errW_none, errW_some] <;> rfl) | (simp only [← hji7]; first | rfl | (simp [errW_none, errW_some] <;> rfl)) | (simp [*, errW_none, errW_some] <;> rfl), by repeat (first | (with_reducible first | exact HB.out | apply below_alloc | apply pw_below_drewN | apply below_drew1) | exact HB.out)⟩
          · rw [if_neg c9] at H
            exact absurd H (by simp)
        · rw [if_neg c8] at H
          exact absurd H (by simp)
end Go.Proofs.YtnelblndidciiaaDoor.P

-- from the text Hd
namespace Go.Proofs.YtnelblndidciiaaDoor.P
open Go.RowKit Go.Proofs.YtnelblndidciiaaDoorW.PrintWords Go.Proofs.YtnelblndidciiaaDoorW.PrintLast Go.Proofs.YtnelblndidciiaaDoorW.PrintMore
set_option linter.unusedVariables false
set_option linter.unusedSimpArgs false
theorem bytes_ext {a b : ByteArray} (h : a.size = b.size) (h2 : ∀ i : Nat, i < a.size → bt a (i : Int) = bt b (i : Int)) : a = b := by
  obtain ⟨⟨la⟩⟩ := a
  obtain ⟨⟨lb⟩⟩ := b
  have hs : la.length = lb.length := h
  have : la = lb := by
    apply List.ext_getElem hs
    intro i h1 h3
    have := h2 i h1
    rw [btN ⟨⟨la⟩⟩ i (show i < ByteArray.size ⟨⟨la⟩⟩ from h1), btN ⟨⟨lb⟩⟩ i (show i < ByteArray.size ⟨⟨lb⟩⟩ from h3)] at this
    exact UInt8.toNat.inj (by exact_mod_cast this)
  rw [this]
theorem bt_append (a b : ByteArray) (i : Nat) : bt (a ++ b) (i : Int) = if i < a.size then bt a (i : Int) else bt b ((i - a.size : Nat) : Int) := by
  by_cases h : i < (a ++ b).size
  · rw [btN _ i h]
    rw [ByteArray.size_append] at h
    by_cases h1 : i < a.size
    · rw [if_pos h1, btN _ i h1, ByteArray.getElem_append_left h1]
    · rw [if_neg h1, btN _ (i - a.size) (by omega), ByteArray.getElem_append_right (by omega)]
  · have h' := h
    rw [ByteArray.size_append] at h
    rw [if_neg (by omega)]
    unfold bt
    rw [dif_neg (by simpa using h'), dif_neg (by simp; omega)]
theorem size_extract0 (a : ByteArray) (m : Nat) : (a.extract 0 m).size = min m a.size := by simp [ByteArray.size_extract]
theorem bt_extract0 (a : ByteArray) (m i : Nat) (h : i < m) (h2 : i < a.size) : bt (a.extract 0 m) (i : Int) = bt a (i : Int) := by
  rw [btN _ i (by rw [size_extract0]; omega), btN _ i h2, ByteArray.getElem_extract]
  simp
/-- One character, n times. -/
def repC (c : UInt8) (n : Nat) : ByteArray := ⟨Array.replicate n c⟩
theorem repC_size (c : UInt8) (n : Nat) : (repC c n).size = n := by simp [repC, ByteArray.size]
theorem bt_repC (c : UInt8) (n i : Nat) (h : i < n) : bt (repC c n) (i : Int) = (c.toNat : Int) := by
  rw [btN _ i (by rw [repC_size]; exact h)]
  simp [repC, ByteArray.getElem_eq_getElem_data]
/-- A text filled up behind, or cut. -/
def fillB (kind : Int) : UInt8 := if kind = 5 then 48 else 32
def filledS (s : ByteArray) (kind n : Int) : ByteArray := (s ++ repC (fillB kind) (n.toNat - s.size)).extract 0 n.toNat
theorem filler_is (kind : Int) : ironbarkref05_Filler.f kind = some (repC (fillB kind) 1) := by
  unfold ironbarkref05_Filler.f fillB
  by_cases h : kind = 5
  · rw [if_pos h, if_pos h]; rfl
  · rw [if_neg h, if_neg h]; rfl
theorem rep_one_more (c : UInt8) (n : Nat) : repC c 1 ++ repC c n = repC c (n + 1) := by
  apply bytes_ext
  · rw [ByteArray.size_append, repC_size, repC_size, repC_size]; omega
  · intro i h
    rw [ByteArray.size_append, repC_size, repC_size] at h
    rw [bt_append, bt_repC c (n + 1) i (by omega), repC_size]
    by_cases h1 : i < 1
    · rw [if_pos h1, bt_repC c 1 i h1]
    · rw [if_neg h1, bt_repC c n _ (by omega)]
theorem bapp_assoc (a b c : ByteArray) : a ++ b ++ c = a ++ (b ++ c) := ByteArray.append_assoc
theorem filledS_more (s : ByteArray) (kind n : Int) (h : (s.size : Int) < n) : filledS (s ++ repC (fillB kind) 1) kind n = filledS s kind n := by
  unfold filledS
  rw [bapp_assoc, rep_one_more, ByteArray.size_append, repC_size, show n.toNat - (s.size + 1) + 1 = n.toNat - s.size by omega]
theorem filled_l0 (kind n : Int) (hn : n ≤ 9223372036854775807) : ∀ (d : Nat) (s : ByteArray), n.toNat - s.size = d → Ev (fun k => ironbarkref05_Filled.l0 k s kind n) (filledS s kind n) := by
  intro d
  induction d with
  | zero =>
    intro s h
    refine Ev.step (f := fun _ => some (s.extract 0 n.toNat)) (fun k => ?_) ?_
    · simp only [ironbarkref05_Filled.l0]
      have e : (mx n 0).toNat = n.toNat := by unfold mx; split <;> omega
      rw [if_neg (by omega), if_pos (by unfold mx; split <;> omega), if_pos (by unfold mx; split <;> omega), e]
    · have e : filledS s kind n = s.extract 0 n.toNat := by
        unfold filledS
        rw [h]
        have : s ++ repC (fillB kind) 0 = s := by
          apply bytes_ext
          · rw [ByteArray.size_append, repC_size]; omega
          · intro i hi; rw [ByteArray.size_append, repC_size] at hi; rw [bt_append, if_pos (by omega)]
        rw [this]
      rw [e]
      exact Ev.now _
  | succ d ih =>
    intro s h
    have hlt : (s.size : Int) < n := by omega
    refine Ev.step (f := fun k => ironbarkref05_Filled.l0 k (s ++ repC (fillB kind) 1) kind n) (fun k => ?_) ?_
    · simp only [ironbarkref05_Filled.l0]
      rw [if_pos hlt, filler_is]
      simp only [Option.bind_some]
      rw [if_pos (by rw [repC_size]; omega)]
    · rw [← filledS_more s kind n hlt]
      exact ih _ (by rw [ByteArray.size_append, repC_size]; omega)
def ironbarkref05_FilledT.f (a0 : ByteArray) (a1 a2 : Int) : Option ByteArray := if a2 ≤ 9223372036854775807 then some (filledS a0 a1 a2) else none
theorem ironbarkref05_FilledT.calls (a0 : ByteArray) (a1 : Int) (a2 : Int) (r : ByteArray) (w : World) (h : ironbarkref05_FilledT.f a0 a1 a2 = some r) :
    Calls Tryd.prog 21 #[.string a0, .int .i64 a1, .int .i64 a2] w fun e w' => e = .returned (.string r) ∧ Below w.heap.size w w' := by
  unfold ironbarkref05_FilledT.f at h
  split at h
  · rename_i hn
    obtain rfl : filledS a0 a1 a2 = r := by simpa using h
    obtain ⟨k, hk⟩ := (filled_l0 a1 a2 hn _ a0 rfl).rounds
    exact ironbarkref05_Filled.calls k a0 a1 a2 _ w hk
  · cases h
end Go.Proofs.YtnelblndidciiaaDoor.P

-- from the text Hh
namespace Go.Proofs.YtnelblndidciiaaDoor.P
open Go.RowKit Go.Proofs.YtnelblndidciiaaDoorW.PrintWords Go.Proofs.YtnelblndidciiaaDoorW.PrintLast Go.Proofs.YtnelblndidciiaaDoorW.PrintMore
set_option linter.unusedVariables false
set_option linter.unusedSimpArgs false
def validT (k p q n : Int) (v : Bool) (s : ByteArray) : Bool := (k == 4 || k == 5) && (p == 0 && (q == 0 && (decide (0 ≤ n) && (decide (n ≤ 250) && decide (s.size = 0)))))
def bits_ValidType.f (a0_0 a0_1 a0_2 a0_3 : Int) (a0_4 : Bool) (a0_5 : ByteArray) : Option Bool := some (validT a0_0 a0_1 a0_2 a0_3 a0_4 a0_5)
theorem vtype_no (k : Int) (h4 : k ≠ 4) (h5 : k ≠ 5) (p q n : Int) (v : Bool) (s : ByteArray)  (w : World) :
    Calls Tryd.prog 10 #[.agg #[.int .i64 k, .int .i64 p, .int .i64 q, .int .i64 n, .bool v, .string s]] w fun e w' => e = .returned (.bool false) ∧ Below w.heap.size w w' := by
  go_enter Tryd.func10, Tryd.ntmps10
  go_wp2_with (go_at_call 20; refine (of_no k h4 h5 _).mono ?_; rintro e w' ⟨rfl, rfl⟩)
  go_ret
  exact ⟨rfl, (Below.refl _ _).alloc (Nat.le_refl _) _⟩
theorem vtype_4_p (p q n : Int) (v : Bool) (s : ByteArray) (h : p ≠ 0) (w : World) :
    Calls Tryd.prog 10 #[.agg #[.int .i64 4, .int .i64 p, .int .i64 q, .int .i64 n, .bool v, .string s]] w fun e w' => e = .returned (.bool false) ∧ Below w.heap.size w w' := by
  have h1 : (p == 0) = false := beq_eq_false_iff_ne.2 h
  go_enter Tryd.func10, Tryd.ntmps10
  go_wp2_with (go_at_call 20; refine (of_4 _).mono ?_; rintro e w' ⟨rfl, rfl⟩)
  go_ret
  exact ⟨rfl, (Below.refl _ _).alloc (Nat.le_refl _) _⟩
theorem vtype_4_q (p q n : Int) (v : Bool) (s : ByteArray) (h : q ≠ 0) (w : World) :
    Calls Tryd.prog 10 #[.agg #[.int .i64 4, .int .i64 0, .int .i64 q, .int .i64 n, .bool v, .string s]] w fun e w' => e = .returned (.bool false) ∧ Below w.heap.size w w' := by
  have h1 : (q == 0) = false := beq_eq_false_iff_ne.2 h
  go_enter Tryd.func10, Tryd.ntmps10
  go_wp2_with (go_at_call 20; refine (of_4 _).mono ?_; rintro e w' ⟨rfl, rfl⟩)
  go_ret
  exact ⟨rfl, (Below.refl _ _).alloc (Nat.le_refl _) _⟩
theorem vtype_4_n (p q n : Int) (v : Bool) (s : ByteArray) (h : ¬ 0 ≤ n) (w : World) :
    Calls Tryd.prog 10 #[.agg #[.int .i64 4, .int .i64 0, .int .i64 0, .int .i64 n, .bool v, .string s]] w fun e w' => e = .returned (.bool false) ∧ Below w.heap.size w w' := by
  have h1 : decide (0 ≤ n) = false := decide_eq_false h
  go_enter Tryd.func10, Tryd.ntmps10
  go_wp2_with (go_at_call 20; refine (of_4 _).mono ?_; rintro e w' ⟨rfl, rfl⟩)
  go_ret
  exact ⟨rfl, (Below.refl _ _).alloc (Nat.le_refl _) _⟩
theorem vtype_4_m (p q n : Int) (v : Bool) (s : ByteArray) (h0 : 0 ≤ n) (h : ¬ n ≤ 250) (w : World) :
    Calls Tryd.prog 10 #[.agg #[.int .i64 4, .int .i64 0, .int .i64 0, .int .i64 n, .bool v, .string s]] w fun e w' => e = .returned (.bool false) ∧ Below w.heap.size w w' := by
  have h1 : decide (0 ≤ n) = true := decide_eq_true h0
  have h2 : decide (n ≤ 250) = false := decide_eq_false h
  go_enter Tryd.func10, Tryd.ntmps10
  go_wp2_with (go_at_call 20; refine (of_4 _).mono ?_; rintro e w' ⟨rfl, rfl⟩)
  go_ret
  exact ⟨rfl, (Below.refl _ _).alloc (Nat.le_refl _) _⟩
theorem vtype_4_s (p q n : Int) (v : Bool) (s : ByteArray) (h0 : 0 ≤ n) (h : n ≤ 250) (h2 : 0 < s.size) (w : World) :
    Calls Tryd.prog 10 #[.agg #[.int .i64 4, .int .i64 0, .int .i64 0, .int .i64 n, .bool v, .string s]] w fun e w' => e = .returned (.bool false) ∧ Below w.heap.size w w' := by
  have h3 : decide (0 ≤ n) = true := decide_eq_true h0
  have h4 : decide (n ≤ 250) = true := decide_eq_true h
  have h5 : s.toList.isEmpty = false := by cases e : s.toList with | nil => exact absurd e (toList_ne s h2) | cons _ _ => rfl
  have h6 := toList_ne s h2
  go_enter Tryd.func10, Tryd.ntmps10
  go_wp2_with (go_at_call 20; refine (of_4 _).mono ?_; rintro e w' ⟨rfl, rfl⟩)
  go_ret
  exact ⟨rfl, (Below.refl _ _).alloc (Nat.le_refl _) _⟩
theorem vtype_4_y (p q n : Int) (v : Bool) (s : ByteArray) (h0 : 0 ≤ n) (h : n ≤ 250) (h2 : s.size = 0) (w : World) :
    Calls Tryd.prog 10 #[.agg #[.int .i64 4, .int .i64 0, .int .i64 0, .int .i64 n, .bool v, .string s]] w fun e w' => e = .returned (.bool true) ∧ Below w.heap.size w w' := by
  have h3 : decide (0 ≤ n) = true := decide_eq_true h0
  have h4 : decide (n ≤ 250) = true := decide_eq_true h
  have h5 := toList_nil s h2
  clear h2
  go_enter Tryd.func10, Tryd.ntmps10
  go_wp2_with (go_at_call 20; refine (of_4 _).mono ?_; rintro e w' ⟨rfl, rfl⟩)
  go_ret
  exact ⟨rfl, (Below.refl _ _).alloc (Nat.le_refl _) _⟩
theorem vtype_5_p (p q n : Int) (v : Bool) (s : ByteArray) (h : p ≠ 0) (w : World) :
    Calls Tryd.prog 10 #[.agg #[.int .i64 5, .int .i64 p, .int .i64 q, .int .i64 n, .bool v, .string s]] w fun e w' => e = .returned (.bool false) ∧ Below w.heap.size w w' := by
  have h1 : (p == 0) = false := beq_eq_false_iff_ne.2 h
  go_enter Tryd.func10, Tryd.ntmps10
  go_wp2_with (go_at_call 20; refine (of_5 _).mono ?_; rintro e w' ⟨rfl, rfl⟩)
  go_ret
  exact ⟨rfl, (Below.refl _ _).alloc (Nat.le_refl _) _⟩
theorem vtype_5_q (p q n : Int) (v : Bool) (s : ByteArray) (h : q ≠ 0) (w : World) :
    Calls Tryd.prog 10 #[.agg #[.int .i64 5, .int .i64 0, .int .i64 q, .int .i64 n, .bool v, .string s]] w fun e w' => e = .returned (.bool false) ∧ Below w.heap.size w w' := by
  have h1 : (q == 0) = false := beq_eq_false_iff_ne.2 h
  go_enter Tryd.func10, Tryd.ntmps10
  go_wp2_with (go_at_call 20; refine (of_5 _).mono ?_; rintro e w' ⟨rfl, rfl⟩)
  go_ret
  exact ⟨rfl, (Below.refl _ _).alloc (Nat.le_refl _) _⟩
theorem vtype_5_n (p q n : Int) (v : Bool) (s : ByteArray) (h : ¬ 0 ≤ n) (w : World) :
    Calls Tryd.prog 10 #[.agg #[.int .i64 5, .int .i64 0, .int .i64 0, .int .i64 n, .bool v, .string s]] w fun e w' => e = .returned (.bool false) ∧ Below w.heap.size w w' := by
  have h1 : decide (0 ≤ n) = false := decide_eq_false h
  go_enter Tryd.func10, Tryd.ntmps10
  go_wp2_with (go_at_call 20; refine (of_5 _).mono ?_; rintro e w' ⟨rfl, rfl⟩)
  go_ret
  exact ⟨rfl, (Below.refl _ _).alloc (Nat.le_refl _) _⟩
theorem vtype_5_m (p q n : Int) (v : Bool) (s : ByteArray) (h0 : 0 ≤ n) (h : ¬ n ≤ 250) (w : World) :
    Calls Tryd.prog 10 #[.agg #[.int .i64 5, .int .i64 0, .int .i64 0, .int .i64 n, .bool v, .string s]] w fun e w' => e = .returned (.bool false) ∧ Below w.heap.size w w' := by
  have h1 : decide (0 ≤ n) = true := decide_eq_true h0
  have h2 : decide (n ≤ 250) = false := decide_eq_false h
  go_enter Tryd.func10, Tryd.ntmps10
  go_wp2_with (go_at_call 20; refine (of_5 _).mono ?_; rintro e w' ⟨rfl, rfl⟩)
  go_ret
  exact ⟨rfl, (Below.refl _ _).alloc (Nat.le_refl _) _⟩
theorem vtype_5_s (p q n : Int) (v : Bool) (s : ByteArray) (h0 : 0 ≤ n) (h : n ≤ 250) (h2 : 0 < s.size) (w : World) :
    Calls Tryd.prog 10 #[.agg #[.int .i64 5, .int .i64 0, .int .i64 0, .int .i64 n, .bool v, .string s]] w fun e w' => e = .returned (.bool false) ∧ Below w.heap.size w w' := by
  have h3 : decide (0 ≤ n) = true := decide_eq_true h0
  have h4 : decide (n ≤ 250) = true := decide_eq_true h
  have h5 : s.toList.isEmpty = false := by cases e : s.toList with | nil => exact absurd e (toList_ne s h2) | cons _ _ => rfl
  have h6 := toList_ne s h2
  go_enter Tryd.func10, Tryd.ntmps10
  go_wp2_with (go_at_call 20; refine (of_5 _).mono ?_; rintro e w' ⟨rfl, rfl⟩)
  go_ret
  exact ⟨rfl, (Below.refl _ _).alloc (Nat.le_refl _) _⟩
theorem vtype_5_y (p q n : Int) (v : Bool) (s : ByteArray) (h0 : 0 ≤ n) (h : n ≤ 250) (h2 : s.size = 0) (w : World) :
    Calls Tryd.prog 10 #[.agg #[.int .i64 5, .int .i64 0, .int .i64 0, .int .i64 n, .bool v, .string s]] w fun e w' => e = .returned (.bool true) ∧ Below w.heap.size w w' := by
  have h3 : decide (0 ≤ n) = true := decide_eq_true h0
  have h4 : decide (n ≤ 250) = true := decide_eq_true h
  have h5 := toList_nil s h2
  clear h2
  go_enter Tryd.func10, Tryd.ntmps10
  go_wp2_with (go_at_call 20; refine (of_5 _).mono ?_; rintro e w' ⟨rfl, rfl⟩)
  go_ret
  exact ⟨rfl, (Below.refl _ _).alloc (Nat.le_refl _) _⟩
theorem vtype_all (k p q n : Int) (v : Bool) (s : ByteArray) (w : World) :
    Calls Tryd.prog 10 #[.agg #[.int .i64 k, .int .i64 p, .int .i64 q, .int .i64 n, .bool v, .string s]] w fun e w' => e = .returned (.bool (validT k p q n v s)) ∧ Below w.heap.size w w' := by
  by_cases hk : k = 4
  · subst hk
    by_cases hp : p = 0
    · subst hp
      by_cases hq : q = 0
      · subst hq
        by_cases h0 : 0 ≤ n
        · by_cases hm : n ≤ 250
          · by_cases hs : s.size = 0
            · rw [show validT 4 0 0 n v s = true by simp [validT, h0, hm, hs]]; exact vtype_4_y 0 0 n v s h0 hm hs w
            · rw [show validT 4 0 0 n v s = false by simp [validT, hs]]; exact vtype_4_s 0 0 n v s h0 hm (by omega) w
          · rw [show validT 4 0 0 n v s = false by simp [validT, hm]]; exact vtype_4_m 0 0 n v s h0 hm w
        · rw [show validT 4 0 0 n v s = false by simp [validT, h0]]; exact vtype_4_n 0 0 n v s h0 w
      · rw [show validT 4 0 q n v s = false by simp [validT, hq]]; exact vtype_4_q 0 q n v s hq w
    · rw [show validT 4 p q n v s = false by simp [validT, hp]]; exact vtype_4_p p q n v s hp w
  by_cases hk5 : k = 5
  · subst hk5
    by_cases hp : p = 0
    · subst hp
      by_cases hq : q = 0
      · subst hq
        by_cases h0 : 0 ≤ n
        · by_cases hm : n ≤ 250
          · by_cases hs : s.size = 0
            · rw [show validT 5 0 0 n v s = true by simp [validT, h0, hm, hs]]; exact vtype_5_y 0 0 n v s h0 hm hs w
            · rw [show validT 5 0 0 n v s = false by simp [validT, hs]]; exact vtype_5_s 0 0 n v s h0 hm (by omega) w
          · rw [show validT 5 0 0 n v s = false by simp [validT, hm]]; exact vtype_5_m 0 0 n v s h0 hm w
        · rw [show validT 5 0 0 n v s = false by simp [validT, h0]]; exact vtype_5_n 0 0 n v s h0 w
      · rw [show validT 5 0 q n v s = false by simp [validT, hq]]; exact vtype_5_q 0 q n v s hq w
    · rw [show validT 5 p q n v s = false by simp [validT, hp]]; exact vtype_5_p p q n v s hp w
  · rw [show validT k p q n v s = false by simp [validT, hk, hk5]]; exact vtype_no k hk hk5 p q n v s w
theorem bits_ValidType.calls (a0_0 a0_1 a0_2 a0_3 : Int) (a0_4 : Bool) (a0_5 : ByteArray) (r : Bool) (w : World) (h : bits_ValidType.f a0_0 a0_1 a0_2 a0_3 a0_4 a0_5 = some r) :
    Calls Tryd.prog 10 #[.agg #[.int .i64 a0_0, .int .i64 a0_1, .int .i64 a0_2, .int .i64 a0_3, .bool a0_4, .string a0_5]] w fun e w' => e = .returned (.bool r) ∧ Below w.heap.size w w' := by
  obtain rfl : validT a0_0 a0_1 a0_2 a0_3 a0_4 a0_5 = r := by simpa [bits_ValidType.f] using h
  exact vtype_all _ _ _ _ _ _ w
end Go.Proofs.YtnelblndidciiaaDoor.P

-- from the text Hi
namespace Go.Proofs.YtnelblndidciiaaDoor.P
open Go.RowKit Go.Proofs.YtnelblndidciiaaDoorW.PrintWords Go.Proofs.YtnelblndidciiaaDoorW.PrintLast Go.Proofs.YtnelblndidciiaaDoorW.PrintMore
set_option linter.unusedVariables false
set_option linter.unusedSimpArgs false
def fillU (n : Int) : UInt8 := if n = 4 then 32 else 48
def bits_Fit.f (a0_0 a0_1 a0_2 : Int) (a0_3 : ByteArray) (a1_0 a1_1 a1_2 a1_3 : Int) (a1_4 : Bool) (a1_5 : ByteArray) : Option (Int × Int × Int × ByteArray × Int × Int) :=
  if validB a0_0 a0_1 a0_2 a0_3 = true then
    (if validT a1_0 a1_1 a1_2 a1_3 a1_4 a1_5 = true then
      (if a0_0 = a1_0 then
        (if a1_3 < (a0_3.size : Int) then some (a0_0, 0, 0, a0_3.extract 0 a1_3.toNat, 6, 0)
         else if a1_4 = true then some (a0_0, a0_1, a0_2, a0_3, 0, 0)
         else some (a0_0, 0, 0, a0_3 ++ ⟨(Lib.repeatL [fillU a0_0] (a1_3.toNat - a0_3.size)).toArray⟩, 0, 0))
       else some (0, 0, 0, ⟨#[]⟩, 0, 10))
     else some (0, 0, 0, ⟨#[]⟩, 0, 1))
  else some (0, 0, 0, ⟨#[]⟩, 0, 1)
theorem valid_is (v : S23) (w : World) (b : Bool) (h : validB v.f0 v.f1 v.f2 v.f3 = b) : Calls Tryd.prog 8 #[.agg #[.int .i64 v.f0, .int .i64 v.f1, .int .i64 v.f2, .string v.f3]] w fun e w' => e = .returned (.bool b) ∧ Below w.heap.size w w' :=
  bits_Valid.calls _ _ _ _ b w (by rw [← h]; rfl)
theorem validT_is (t : S25) (w : World) (b : Bool) (h : validT t.f0 t.f1 t.f2 t.f3 t.f4 t.f5 = b) : Calls Tryd.prog 10 #[.agg #[.int .i64 t.f0, .int .i64 t.f1, .int .i64 t.f2, .int .i64 t.f3, .bool t.f4, .string t.f5]] w fun e w' => e = .returned (.bool b) ∧ Below w.heap.size w w' :=
  bits_ValidType.calls _ _ _ _ _ _ b w (by rw [← h]; rfl)
set_option maxRecDepth 100000 in
theorem fit_a (v : S23) (t : S25) (w : World) (h : validB v.f0 v.f1 v.f2 v.f3 = false) :
    Calls Tryd.prog 6 #[.agg #[.int .i64 v.f0, .int .i64 v.f1, .int .i64 v.f2, .string v.f3], .agg #[.int .i64 t.f0, .int .i64 t.f1, .int .i64 t.f2, .int .i64 t.f3, .bool t.f4, .string t.f5]] w fun e w' =>
      e = .returned (.tuple #[.agg #[.int .i64 0, .int .i64 0, .int .i64 0, .string ⟨#[]⟩], .int .i64 0, .int .i64 1]) ∧ Below w.heap.size w w' := by
  have H := Lib.hid h
  clear h
  go_enter Tryd.func6, Tryd.ntmps6
  go_wp2_with fail
  refine (valid_is v _ _ H.out).mono ?_
  rintro e w' ⟨rfl, hb1⟩
  have hb : Below w.heap.size w w' := ((((Below.refl _ _).alloc (Nat.le_refl _) _).alloc (by simp) _).alloc (by simp; omega) _).trans (hb1.mono (by simp; omega))
  have hZ : w'.heap[w.heap.size + 1 + 1]? = some (.cells #[.int .i64 0, .int .i64 0, .int .i64 0, .string ⟨#[]⟩] 23 (0, 0)) := blk_below (blk_at_n (by simp)) hb1
  have c0 := blk_cell hZ 0
  have c1 := blk_cell hZ 1
  have c2 := blk_cell hZ 2
  have c3 := blk_cell hZ 3
  have f0 := blk_frozen hZ 0
  have f1 := blk_frozen hZ 1
  have f2 := blk_frozen hZ 2
  have f3 := blk_frozen hZ 3
  clear hZ hb1
  go_wp2_with fail
  refine bodyPost_ret (v := .tuple #[.agg #[.int .i64 0, .int .i64 0, .int .i64 0, .string ⟨#[]⟩], .int .i64 0, .int .i64 1]) (by simp [results, Tryd.results6, go_sem, c0, c1, c2, c3]) rfl ⟨rfl, ?_⟩
  repeat (first | exact hb | refine Below.setCell ?_ (by simp; omega) _)
set_option maxRecDepth 100000 in
theorem fit_b (v : S23) (t : S25) (w : World) (h : validB v.f0 v.f1 v.f2 v.f3 = true) (h2 : validT t.f0 t.f1 t.f2 t.f3 t.f4 t.f5 = false) :
    Calls Tryd.prog 6 #[.agg #[.int .i64 v.f0, .int .i64 v.f1, .int .i64 v.f2, .string v.f3], .agg #[.int .i64 t.f0, .int .i64 t.f1, .int .i64 t.f2, .int .i64 t.f3, .bool t.f4, .string t.f5]] w fun e w' =>
      e = .returned (.tuple #[.agg #[.int .i64 0, .int .i64 0, .int .i64 0, .string ⟨#[]⟩], .int .i64 0, .int .i64 1]) ∧ Below w.heap.size w w' := by
  have H := Lib.hid h
  have H2 := Lib.hid h2
  clear h h2
  go_enter Tryd.func6, Tryd.ntmps6
  go_wp2_with fail
  refine (valid_is v _ _ H.out).mono ?_
  rintro e w' ⟨rfl, hb1⟩
  have hb : Below w.heap.size w w' := ((((Below.refl _ _).alloc (Nat.le_refl _) _).alloc (by simp) _).alloc (by simp; omega) _).trans (hb1.mono (by simp; omega))
  have hT : w'.heap[w.heap.size + 1]? = some (.cells #[.int .i64 t.f0, .int .i64 t.f1, .int .i64 t.f2, .int .i64 t.f3, .bool t.f4, .string t.f5] 25 (0, 0)) := blk_below (blk_alloc (blk_at_n (by simp)) _) hb1
  have hZ : w'.heap[w.heap.size + 1 + 1]? = some (.cells #[.int .i64 0, .int .i64 0, .int .i64 0, .string ⟨#[]⟩] 23 (0, 0)) := blk_below (blk_at_n (by simp)) hb1
  have HZ := Aside0.mk hZ
  have t0 := (blk_cell hT 0).trans rfl
  have t1 := (blk_cell hT 1).trans rfl
  have t2 := (blk_cell hT 2).trans rfl
  have t3 := (blk_cell hT 3).trans rfl
  have t4 := (blk_cell hT 4).trans rfl
  have t5 := (blk_cell hT 5).trans rfl
  clear hT hZ hb1
  go_wp2_with fail
  refine (validT_is t _ _ H2.out).mono ?_
  rintro e w2 ⟨rfl, hb2⟩
  have hZ := blk_below HZ.out hb2
  have hb3 := hb.trans (hb2.mono hb.size)
  have c0 := blk_cell hZ 0
  have c1 := blk_cell hZ 1
  have c2 := blk_cell hZ 2
  have c3 := blk_cell hZ 3
  have f0 := blk_frozen hZ 0
  have f1 := blk_frozen hZ 1
  have f2 := blk_frozen hZ 2
  have f3 := blk_frozen hZ 3
  clear hZ hb2 hb t0 t1 t2 t3 t4 t5
  go_wp2_with fail
  refine bodyPost_ret (v := .tuple #[.agg #[.int .i64 0, .int .i64 0, .int .i64 0, .string ⟨#[]⟩], .int .i64 0, .int .i64 1]) (by simp [results, Tryd.results6, go_sem, c0, c1, c2, c3]) rfl ⟨rfl, ?_⟩
  repeat (first | exact hb3 | refine Below.setCell ?_ (by simp; omega) _)
def fitRes (v : S23) (t : S25) : Int × Int × Int × ByteArray × Int × Int :=
  if v.f0 = t.f0 then
        (if t.f3 < (v.f3.size : Int) then (v.f0, 0, 0, v.f3.extract 0 t.f3.toNat, 6, 0)
         else if t.f4 = true then (v.f0, v.f1, v.f2, v.f3, 0, 0)
         else (v.f0, 0, 0, v.f3 ++ ⟨(Lib.repeatL [fillU v.f0] (t.f3.toNat - v.f3.size)).toArray⟩, 0, 0))
       else (0, 0, 0, ⟨#[]⟩, 0, 10)
set_option maxRecDepth 100000 in
set_option maxHeartbeats 4000000 in
theorem fit_c (v : S23) (t : S25) (w : World) (h : validB v.f0 v.f1 v.f2 v.f3 = true) (h2 : validT t.f0 t.f1 t.f2 t.f3 t.f4 t.f5 = true) (hno : ¬ (v.f0 = t.f0 ∧ ¬ t.f3 < (v.f3.size : Int) ∧ t.f4 = false)) (r : Int × Int × Int × ByteArray × Int × Int) (hr : fitRes v t = r) :
    Calls Tryd.prog 6 #[.agg #[.int .i64 v.f0, .int .i64 v.f1, .int .i64 v.f2, .string v.f3], .agg #[.int .i64 t.f0, .int .i64 t.f1, .int .i64 t.f2, .int .i64 t.f3, .bool t.f4, .string t.f5]] w fun e w' =>
      e = .returned (.tuple #[.agg #[.int .i64 r.1, .int .i64 r.2.1, .int .i64 r.2.2.1, .string r.2.2.2.1], .int .i64 r.2.2.2.2.1, .int .i64 r.2.2.2.2.2]) ∧ Below w.heap.size w w' := by
  have hv4 := (okV_parts (v := v) h).1
  have hv1 := (okV_parts (v := v) h).2.1
  have hv2 := (okV_parts (v := v) h).2.2.1
  have hvs := (okV_parts (v := v) h).2.2.2.1
  have ht0 : 0 ≤ t.f3 ∧ t.f3 ≤ 250 := by simp [validT] at h2; omega
  have H := Lib.hid h
  have H2 := Lib.hid h2
  have HR := Lib.hid hr
  have HV1 := Lib.hid hv1
  have HV2 := Lib.hid hv2
  obtain ⟨ht1, ht2⟩ := ht0
  have HNO := Lib.hid hno
  clear h h2 hr hv1 hv2 hno
  go_enter Tryd.func6, Tryd.ntmps6
  go_wp2_with fail
  refine (valid_is v _ _ H.out).mono ?_
  rintro e w' ⟨rfl, hb1⟩
  have hb : Below w.heap.size w w' := ((((Below.refl _ _).alloc (Nat.le_refl _) _).alloc (by simp) _).alloc (by simp; omega) _).trans (hb1.mono (by simp; omega))
  have hV : w'.heap[w.heap.size]? = some (.cells #[.int .i64 v.f0, .int .i64 v.f1, .int .i64 v.f2, .string v.f3] 23 (0, 0)) := blk_below (blk_alloc (blk_alloc (blk_at_n (by simp)) _) _) hb1
  have hT : w'.heap[w.heap.size + 1]? = some (.cells #[.int .i64 t.f0, .int .i64 t.f1, .int .i64 t.f2, .int .i64 t.f3, .bool t.f4, .string t.f5] 25 (0, 0)) := blk_below (blk_alloc (blk_at_n (by simp)) _) hb1
  have hZ : w'.heap[w.heap.size + 1 + 1]? = some (.cells #[.int .i64 0, .int .i64 0, .int .i64 0, .string ⟨#[]⟩] 23 (0, 0)) := blk_below (blk_at_n (by simp)) hb1
  have HZ := Aside0.mk hZ
  have HT := Aside0.mk hT
  have HV := Aside0.mk hV
  have t0 := (blk_cell hT 0).trans rfl
  have t1 := (blk_cell hT 1).trans rfl
  have t2 := (blk_cell hT 2).trans rfl
  have t3 := (blk_cell hT 3).trans rfl
  have t4 := (blk_cell hT 4).trans rfl
  have t5 := (blk_cell hT 5).trans rfl
  clear hT hZ hV hb1
  go_wp2_with fail
  refine (validT_is t _ _ H2.out).mono ?_
  rintro e w2 ⟨rfl, hb2⟩
  have hZ := blk_below HZ.out hb2
  have hT := blk_below HT.out hb2
  have hV := blk_below HV.out hb2
  have hb3 := Aside0.mk (hb.trans (hb2.mono hb.size))
  clear hb2 hb t0 t1 t2 t3 t4 t5 HZ HV HT
  have HZ := Aside0.mk hZ
  have t0 : w2.cell? ⟨w.heap.size + 1, 0, none⟩ = some (.int .i64 t.f0) := (blk_cell hT 0).trans rfl
  have t3 : w2.cell? ⟨w.heap.size + 1, 3, none⟩ = some (.int .i64 t.f3) := (blk_cell hT 3).trans rfl
  have t4 : w2.cell? ⟨w.heap.size + 1, 4, none⟩ = some (.bool t.f4) := (blk_cell hT 4).trans rfl
  have v0 : w2.cell? ⟨w.heap.size, 0, none⟩ = some (.int .i64 v.f0) := (blk_cell hV 0).trans rfl
  have v1 : w2.cell? ⟨w.heap.size, 1, none⟩ = some (.int .i64 v.f1) := (blk_cell hV 1).trans rfl
  have v2 : w2.cell? ⟨w.heap.size, 2, none⟩ = some (.int .i64 v.f2) := (blk_cell hV 2).trans rfl
  have v3 : w2.cell? ⟨w.heap.size, 3, none⟩ = some (.string v.f3) := (blk_cell hV 3).trans rfl
  clear hT hV hZ
  by_cases hk : v.f0 = t.f0
  · have hkb : (v.f0 != t.f0) = false := bne_eq_false_iff_eq.2 hk
    by_cases hlt : t.f3 < (v.f3.size : Int)
    · have hr := HR.out
      unfold fitRes at hr
      rw [if_pos hk, if_pos hlt] at hr
      subst hr
      clear HR hk
      have hle : t.f3 ≤ (v.f3.size : Int) := by omega
      go_wp2_with fail
      go_region_held3 (fun w' => w'.cell? ⟨w.heap.size, 0, none⟩ = some (.int .i64 v.f0) ∧ w'.cell? ⟨w.heap.size, 1, none⟩ = some (.int .i64 v.f1) ∧ w'.cell? ⟨w.heap.size, 2, none⟩ = some (.int .i64 v.f2) ∧ w'.cell? ⟨w.heap.size, 3, none⟩ = some (.string v.f3) ∧ w'.cell? ⟨w.heap.size + 1, 3, none⟩ = some (.int .i64 t.f3)) (((refine ⟨?_, ?_, ?_, ?_, ?_⟩) <;> (first | (simp [go_sem, *]; done) | (refine pw_cell_below (by assumption) ?_; first | assumption | (simp [go_sem, *]; done)))))
        ((go_at_call 18; refine (bits_with.calls _ _ _ _ _ _ _ _ _ _ (bits_with.is _ _ _ _ _)).mono ?_; rintro e w4 ⟨rfl, hb6⟩; have hZ := blk_below (blk_drew HZ.out) hb6; have c0 := blk_cell hZ 0; have c1 := blk_cell hZ 1; have c2 := blk_cell hZ 2; have c3 := blk_cell hZ 3; have f0 := blk_frozen hZ 0; have f1 := blk_frozen hZ 1; have f2 := blk_frozen hZ 2; have f3 := blk_frozen hZ 3; clear hZ))
      go_wp2_with fail
      refine bodyPost_ret (v := .tuple #[.agg #[.int .i64 v.f0, .int .i64 0, .int .i64 0, .string (v.f3.extract 0 t.f3.toNat)], .int .i64 6, .int .i64 0]) (by simp [results, Tryd.results6, go_sem, c0, c1, c2, c3]) rfl ⟨rfl, ?_⟩
      repeat (first | exact (hb3.out.drew.trans (hb6.mono hb3.out.size)) | refine Below.setCell ?_ (by simp; omega) _)
    · have hle : (v.f3.size : Int) ≤ t.f3 := by omega
      cases hv : t.f4 with
      | true =>
        have hr := HR.out
        unfold fitRes at hr
        rw [if_pos hk, if_neg hlt, if_pos hv] at hr
        subst hr
        rw [hv] at t4
        clear HR hk hv
        have hZ := HZ.out
        have c0 := blk_cell hZ 0
        have c1 := blk_cell hZ 1
        have c2 := blk_cell hZ 2
        have c3 := blk_cell hZ 3
        have f0 := blk_frozen hZ 0
        have f1 := blk_frozen hZ 1
        have f2 := blk_frozen hZ 2
        have f3 := blk_frozen hZ 3
        clear hZ
        go_wp2_with fail
        refine bodyPost_ret (v := .tuple #[.agg #[.int .i64 v.f0, .int .i64 v.f1, .int .i64 v.f2, .string v.f3], .int .i64 0, .int .i64 0]) (by simp [results, Tryd.results6, go_sem, c0, c1, c2, c3]) rfl ⟨rfl, ?_⟩
        repeat (first | exact hb3.out | refine Below.setCell ?_ (by simp; omega) _)
      | false => exact absurd ⟨hk, by omega, hv⟩ HNO.out
  · have hkb : (v.f0 != t.f0) = true := bne_iff_ne.2 hk
    have hr := HR.out
    unfold fitRes at hr
    rw [if_neg hk] at hr
    subst hr
    clear HR hk
    have hZ := HZ.out
    have c0 := blk_cell hZ 0
    have c1 := blk_cell hZ 1
    have c2 := blk_cell hZ 2
    have c3 := blk_cell hZ 3
    have f0 := blk_frozen hZ 0
    have f1 := blk_frozen hZ 1
    have f2 := blk_frozen hZ 2
    have f3 := blk_frozen hZ 3
    clear hZ
    go_wp2_with fail
    refine bodyPost_ret (v := .tuple #[.agg #[.int .i64 0, .int .i64 0, .int .i64 0, .string ⟨#[]⟩], .int .i64 0, .int .i64 10]) (by simp [results, Tryd.results6, go_sem, c0, c1, c2, c3]) rfl ⟨rfl, ?_⟩
    repeat (first | exact hb3.out | refine Below.setCell ?_ (by simp; omega) _)
set_option maxRecDepth 100000 in
set_option maxHeartbeats 8000000 in
theorem fit_d4 (s : ByteArray) (t : S25) (w : World) (h : validB 4 0 0 s = true) (h2 : validT t.f0 t.f1 t.f2 t.f3 t.f4 t.f5 = true) (hk : t.f0 = 4) (hle : (s.size : Int) ≤ t.f3) (hy : t.f4 = false) (out : ByteArray) (hout : s ++ ⟨(Lib.repeatL [32] (t.f3.toNat - s.size)).toArray⟩ = out) :
    Calls Tryd.prog 6 #[.agg #[.int .i64 4, .int .i64 0, .int .i64 0, .string s], .agg #[.int .i64 t.f0, .int .i64 t.f1, .int .i64 t.f2, .int .i64 t.f3, .bool t.f4, .string t.f5]] w fun e w' =>
      e = .returned (.tuple #[.agg #[.int .i64 4, .int .i64 0, .int .i64 0, .string out], .int .i64 0, .int .i64 0]) ∧ Below w.heap.size w w' := by
  have hvs : s.size ≤ 250 := (okV_parts (v := ⟨4, 0, 0, s⟩) h).2.2.2.1
  have ht0 : 0 ≤ t.f3 ∧ t.f3 ≤ 250 := by simp [validT] at h2; omega
  obtain ⟨ht1, ht2⟩ := ht0
  obtain ⟨rr, hrr⟩ : ∃ rr : ByteArray, (⟨(Lib.repeatL [32] (t.f3.toNat - s.size)).toArray⟩ : ByteArray) = rr := ⟨_, rfl⟩
  have hrep : strings_Repeat.f ⟨#[32]⟩ (t.f3 - s.size) = some rr := by
    unfold strings_Repeat.f
    have e : (t.f3 - (s.size : Int)).toNat = t.f3.toNat - s.size := by omega
    have e2 : (⟨#[32]⟩ : ByteArray).size = 1 := rfl
    rw [if_pos ⟨by omega, by omega, by rw [e2]; omega⟩, e]
    exact congrArg some hrr
  have hrsz : s.size + rr.size ≤ 9223372036854775807 := by
    have : rr.size = t.f3.toNat - s.size := by
      rw [← hrr]; show (Lib.repeatL [32] (t.f3.toNat - s.size)).toArray.size = _
      rw [List.size_toArray, Lib.repeatL_length]; simp
    omega
  rw [hrr] at hout
  have H := Lib.hid h
  have H2 := Lib.hid h2
  have HREP := Lib.hid hrep
  have HOUT := Lib.hid hout
  have HY := Lib.hid hy
  have HK := Lib.hid hk
  clear h h2 hrr hrep hout hy hk
  have hlt : ¬ t.f3 < (s.size : Int) := by omega
  have hmm := fmethod4
  have hcc : ∀ w : World, (convert 5 9 (.int .u8 32)).run Tryd.prog w = .ok (.string ⟨#[32]⟩) w := fun _ => by kernel_rfl
  go_enter Tryd.func6, Tryd.ntmps6
  go_wp2_with fail
  refine (valid_is ⟨4, 0, 0, s⟩ _ _ H.out).mono ?_
  rintro e w' ⟨rfl, hb1⟩
  have hb : Below w.heap.size w w' := ((((Below.refl _ _).alloc (Nat.le_refl _) _).alloc (by simp) _).alloc (by simp; omega) _).trans (hb1.mono (by simp; omega))
  have hV : w'.heap[w.heap.size]? = some (.cells #[.int .i64 4, .int .i64 0, .int .i64 0, .string s] 23 (0, 0)) := blk_below (blk_alloc (blk_alloc (blk_at_n (by simp)) _) _) hb1
  have hT : w'.heap[w.heap.size + 1]? = some (.cells #[.int .i64 t.f0, .int .i64 t.f1, .int .i64 t.f2, .int .i64 t.f3, .bool t.f4, .string t.f5] 25 (0, 0)) := blk_below (blk_alloc (blk_at_n (by simp)) _) hb1
  have hZ : w'.heap[w.heap.size + 1 + 1]? = some (.cells #[.int .i64 0, .int .i64 0, .int .i64 0, .string ⟨#[]⟩] 23 (0, 0)) := blk_below (blk_at_n (by simp)) hb1
  have HZ := Aside0.mk hZ
  have HT := Aside0.mk hT
  have HV := Aside0.mk hV
  have t0 := (blk_cell hT 0).trans rfl
  have t1 := (blk_cell hT 1).trans rfl
  have t2 := (blk_cell hT 2).trans rfl
  have t3 := (blk_cell hT 3).trans rfl
  have t4 := (blk_cell hT 4).trans rfl
  have t5 := (blk_cell hT 5).trans rfl
  clear hT hZ hV hb1
  go_wp2_with fail
  refine (validT_is t _ _ H2.out).mono ?_
  rintro e w2 ⟨rfl, hb2⟩
  have hZ := blk_below HZ.out hb2
  have hT := blk_below HT.out hb2
  have hV := blk_below HV.out hb2
  have hb3 := Aside0.mk (hb.trans (hb2.mono hb.size))
  clear hb2 hb t0 t1 t2 t3 t4 t5 HZ HV HT
  have HZ := Aside0.mk hZ
  have t0 : w2.cell? ⟨w.heap.size + 1, 0, none⟩ = some (.int .i64 4) := by rw [← HK.out]; exact (blk_cell hT 0).trans rfl
  have t3 : w2.cell? ⟨w.heap.size + 1, 3, none⟩ = some (.int .i64 t.f3) := (blk_cell hT 3).trans rfl
  have t4 : w2.cell? ⟨w.heap.size + 1, 4, none⟩ = some (.bool false) := by rw [← HY.out]; exact (blk_cell hT 4).trans rfl
  have v0 : w2.cell? ⟨w.heap.size, 0, none⟩ = some (.int .i64 4) := (blk_cell hV 0).trans rfl
  have v1 : w2.cell? ⟨w.heap.size, 1, none⟩ = some (.int .i64 0) := (blk_cell hV 1).trans rfl
  have v2 : w2.cell? ⟨w.heap.size, 2, none⟩ = some (.int .i64 0) := (blk_cell hV 2).trans rfl
  have v3 : w2.cell? ⟨w.heap.size, 3, none⟩ = some (.string s) := (blk_cell hV 3).trans rfl
  clear hT hV hZ
  have hw64 : IntKind.i64.wrap (t.f3 - (s.size : Int)) = t.f3 - (s.size : Int) := IntWalk.i64_in _ (by omega)
  go_wp2_with fail
  have hcat2 : ¬ (9223372036854775807 < s.size + rr.size) := by omega
  go_region_held3 (fun w' => w'.cell? ⟨w.heap.size, 0, none⟩ = some (.int .i64 4) ∧ w'.cell? ⟨w.heap.size, 1, none⟩ = some (.int .i64 0) ∧ w'.cell? ⟨w.heap.size, 2, none⟩ = some (.int .i64 0) ∧ w'.cell? ⟨w.heap.size, 3, none⟩ = some (.string s) ∧ w'.cell? ⟨w.heap.size + 1, 3, none⟩ = some (.int .i64 t.f3)) (((refine ⟨?_, ?_, ?_, ?_, ?_⟩) <;> (first | (simp [go_sem, *]; done) | (refine pw_cell_below (by assumption) ?_; first | assumption | (simp [go_sem, *]; done)))))
    ((first | (go_at_call 20; refine (of_4 _).mono ?_; rintro e w4 ⟨rfl, rfl⟩) | (go_at_call 81; refine (filler4 _).mono ?_; rintro e w5 ⟨rfl, hb5⟩) | (go_at_call 19; refine (strings_Repeat.calls _ _ _ _ HREP.out).mono ?_; rintro e w6 ⟨rfl, hb6⟩) | (go_at_call 18; refine (bits_with.calls _ _ _ _ _ _ _ _ _ _ (bits_with.is _ _ _ _ _)).mono ?_; rintro e w7 ⟨rfl, hb7⟩; have hZ := blk_below (blk_below (blk_below (blk_drew HZ.out) hb5) hb6) hb7; have c0 := blk_cell hZ 0; have c1 := blk_cell hZ 1; have c2 := blk_cell hZ 2; have c3 := blk_cell hZ 3; have f0 := blk_frozen hZ 0; have f1 := blk_frozen hZ 1; have f2 := blk_frozen hZ 2; have f3 := blk_frozen hZ 3; clear hZ)))
  go_wp2_with fail
  have hb9 : Below w.heap.size w w7 := ((hb3.out.drew.trans (hb5.mono hb3.out.size)).trans (hb6.mono (hb3.out.drew.trans (hb5.mono hb3.out.size)).size)).trans (hb7.mono ((hb3.out.drew.trans (hb5.mono hb3.out.size)).trans (hb6.mono (hb3.out.drew.trans (hb5.mono hb3.out.size)).size)).size)
  refine bodyPost_ret (v := .tuple #[.agg #[.int .i64 4, .int .i64 0, .int .i64 0, .string (s ++ rr)], .int .i64 0, .int .i64 0]) (by simp [results, Tryd.results6, go_sem, c0, c1, c2, c3]) rfl ⟨by rw [HOUT.out], ?_⟩
  repeat (first | exact hb9 | refine Below.setCell ?_ (by simp; omega) _)
set_option maxRecDepth 100000 in
set_option maxHeartbeats 8000000 in
theorem fit_d5 (s : ByteArray) (t : S25) (w : World) (h : validB 5 0 0 s = true) (h2 : validT t.f0 t.f1 t.f2 t.f3 t.f4 t.f5 = true) (hk : t.f0 = 5) (hle : (s.size : Int) ≤ t.f3) (hy : t.f4 = false) (out : ByteArray) (hout : s ++ ⟨(Lib.repeatL [48] (t.f3.toNat - s.size)).toArray⟩ = out) :
    Calls Tryd.prog 6 #[.agg #[.int .i64 5, .int .i64 0, .int .i64 0, .string s], .agg #[.int .i64 t.f0, .int .i64 t.f1, .int .i64 t.f2, .int .i64 t.f3, .bool t.f4, .string t.f5]] w fun e w' =>
      e = .returned (.tuple #[.agg #[.int .i64 5, .int .i64 0, .int .i64 0, .string out], .int .i64 0, .int .i64 0]) ∧ Below w.heap.size w w' := by
  have hvs : s.size ≤ 250 := (okV_parts (v := ⟨5, 0, 0, s⟩) h).2.2.2.1
  have ht0 : 0 ≤ t.f3 ∧ t.f3 ≤ 250 := by simp [validT] at h2; omega
  obtain ⟨ht1, ht2⟩ := ht0
  obtain ⟨rr, hrr⟩ : ∃ rr : ByteArray, (⟨(Lib.repeatL [48] (t.f3.toNat - s.size)).toArray⟩ : ByteArray) = rr := ⟨_, rfl⟩
  have hrep : strings_Repeat.f ⟨#[48]⟩ (t.f3 - s.size) = some rr := by
    unfold strings_Repeat.f
    have e : (t.f3 - (s.size : Int)).toNat = t.f3.toNat - s.size := by omega
    have e2 : (⟨#[48]⟩ : ByteArray).size = 1 := rfl
    rw [if_pos ⟨by omega, by omega, by rw [e2]; omega⟩, e]
    exact congrArg some hrr
  have hrsz : s.size + rr.size ≤ 9223372036854775807 := by
    have : rr.size = t.f3.toNat - s.size := by
      rw [← hrr]; show (Lib.repeatL [48] (t.f3.toNat - s.size)).toArray.size = _
      rw [List.size_toArray, Lib.repeatL_length]; simp
    omega
  rw [hrr] at hout
  have H := Lib.hid h
  have H2 := Lib.hid h2
  have HREP := Lib.hid hrep
  have HOUT := Lib.hid hout
  have HY := Lib.hid hy
  have HK := Lib.hid hk
  clear h h2 hrr hrep hout hy hk
  have hlt : ¬ t.f3 < (s.size : Int) := by omega
  have hmm := fmethod5
  have hcc : ∀ w : World, (convert 5 9 (.int .u8 48)).run Tryd.prog w = .ok (.string ⟨#[48]⟩) w := fun _ => by kernel_rfl
  go_enter Tryd.func6, Tryd.ntmps6
  go_wp2_with fail
  refine (valid_is ⟨5, 0, 0, s⟩ _ _ H.out).mono ?_
  rintro e w' ⟨rfl, hb1⟩
  have hb : Below w.heap.size w w' := ((((Below.refl _ _).alloc (Nat.le_refl _) _).alloc (by simp) _).alloc (by simp; omega) _).trans (hb1.mono (by simp; omega))
  have hV : w'.heap[w.heap.size]? = some (.cells #[.int .i64 5, .int .i64 0, .int .i64 0, .string s] 23 (0, 0)) := blk_below (blk_alloc (blk_alloc (blk_at_n (by simp)) _) _) hb1
  have hT : w'.heap[w.heap.size + 1]? = some (.cells #[.int .i64 t.f0, .int .i64 t.f1, .int .i64 t.f2, .int .i64 t.f3, .bool t.f4, .string t.f5] 25 (0, 0)) := blk_below (blk_alloc (blk_at_n (by simp)) _) hb1
  have hZ : w'.heap[w.heap.size + 1 + 1]? = some (.cells #[.int .i64 0, .int .i64 0, .int .i64 0, .string ⟨#[]⟩] 23 (0, 0)) := blk_below (blk_at_n (by simp)) hb1
  have HZ := Aside0.mk hZ
  have HT := Aside0.mk hT
  have HV := Aside0.mk hV
  have t0 := (blk_cell hT 0).trans rfl
  have t1 := (blk_cell hT 1).trans rfl
  have t2 := (blk_cell hT 2).trans rfl
  have t3 := (blk_cell hT 3).trans rfl
  have t4 := (blk_cell hT 4).trans rfl
  have t5 := (blk_cell hT 5).trans rfl
  clear hT hZ hV hb1
  go_wp2_with fail
  refine (validT_is t _ _ H2.out).mono ?_
  rintro e w2 ⟨rfl, hb2⟩
  have hZ := blk_below HZ.out hb2
  have hT := blk_below HT.out hb2
  have hV := blk_below HV.out hb2
  have hb3 := Aside0.mk (hb.trans (hb2.mono hb.size))
  clear hb2 hb t0 t1 t2 t3 t4 t5 HZ HV HT
  have HZ := Aside0.mk hZ
  have t0 : w2.cell? ⟨w.heap.size + 1, 0, none⟩ = some (.int .i64 5) := by rw [← HK.out]; exact (blk_cell hT 0).trans rfl
  have t3 : w2.cell? ⟨w.heap.size + 1, 3, none⟩ = some (.int .i64 t.f3) := (blk_cell hT 3).trans rfl
  have t4 : w2.cell? ⟨w.heap.size + 1, 4, none⟩ = some (.bool false) := by rw [← HY.out]; exact (blk_cell hT 4).trans rfl
  have v0 : w2.cell? ⟨w.heap.size, 0, none⟩ = some (.int .i64 5) := (blk_cell hV 0).trans rfl
  have v1 : w2.cell? ⟨w.heap.size, 1, none⟩ = some (.int .i64 0) := (blk_cell hV 1).trans rfl
  have v2 : w2.cell? ⟨w.heap.size, 2, none⟩ = some (.int .i64 0) := (blk_cell hV 2).trans rfl
  have v3 : w2.cell? ⟨w.heap.size, 3, none⟩ = some (.string s) := (blk_cell hV 3).trans rfl
  clear hT hV hZ
  have hw64 : IntKind.i64.wrap (t.f3 - (s.size : Int)) = t.f3 - (s.size : Int) := IntWalk.i64_in _ (by omega)
  go_wp2_with fail
  have hcat2 : ¬ (9223372036854775807 < s.size + rr.size) := by omega
  go_region_held3 (fun w' => w'.cell? ⟨w.heap.size, 0, none⟩ = some (.int .i64 5) ∧ w'.cell? ⟨w.heap.size, 1, none⟩ = some (.int .i64 0) ∧ w'.cell? ⟨w.heap.size, 2, none⟩ = some (.int .i64 0) ∧ w'.cell? ⟨w.heap.size, 3, none⟩ = some (.string s) ∧ w'.cell? ⟨w.heap.size + 1, 3, none⟩ = some (.int .i64 t.f3)) (((refine ⟨?_, ?_, ?_, ?_, ?_⟩) <;> (first | (simp [go_sem, *]; done) | (refine pw_cell_below (by assumption) ?_; first | assumption | (simp [go_sem, *]; done)))))
    ((first | (go_at_call 20; refine (of_5 _).mono ?_; rintro e w4 ⟨rfl, rfl⟩) | (go_at_call 83; refine (filler5 _).mono ?_; rintro e w5 ⟨rfl, hb5⟩) | (go_at_call 19; refine (strings_Repeat.calls _ _ _ _ HREP.out).mono ?_; rintro e w6 ⟨rfl, hb6⟩) | (go_at_call 18; refine (bits_with.calls _ _ _ _ _ _ _ _ _ _ (bits_with.is _ _ _ _ _)).mono ?_; rintro e w7 ⟨rfl, hb7⟩; have hZ := blk_below (blk_below (blk_below (blk_drew HZ.out) hb5) hb6) hb7; have c0 := blk_cell hZ 0; have c1 := blk_cell hZ 1; have c2 := blk_cell hZ 2; have c3 := blk_cell hZ 3; have f0 := blk_frozen hZ 0; have f1 := blk_frozen hZ 1; have f2 := blk_frozen hZ 2; have f3 := blk_frozen hZ 3; clear hZ)))
  go_wp2_with fail
  have hb9 : Below w.heap.size w w7 := ((hb3.out.drew.trans (hb5.mono hb3.out.size)).trans (hb6.mono (hb3.out.drew.trans (hb5.mono hb3.out.size)).size)).trans (hb7.mono ((hb3.out.drew.trans (hb5.mono hb3.out.size)).trans (hb6.mono (hb3.out.drew.trans (hb5.mono hb3.out.size)).size)).size)
  refine bodyPost_ret (v := .tuple #[.agg #[.int .i64 5, .int .i64 0, .int .i64 0, .string (s ++ rr)], .int .i64 0, .int .i64 0]) (by simp [results, Tryd.results6, go_sem, c0, c1, c2, c3]) rfl ⟨by rw [HOUT.out], ?_⟩
  repeat (first | exact hb9 | refine Below.setCell ?_ (by simp; omega) _)
theorem bits_Fit.calls (a0_0 a0_1 a0_2 : Int) (a0_3 : ByteArray) (a1_0 a1_1 a1_2 a1_3 : Int) (a1_4 : Bool) (a1_5 : ByteArray) (r1 r2 r3 : Int) (r4 : ByteArray) (r5 r6 : Int) (w : World)
    (h : bits_Fit.f a0_0 a0_1 a0_2 a0_3 a1_0 a1_1 a1_2 a1_3 a1_4 a1_5 = some (r1, r2, r3, r4, r5, r6)) :
    Calls Tryd.prog 6 #[.agg #[.int .i64 a0_0, .int .i64 a0_1, .int .i64 a0_2, .string a0_3], .agg #[.int .i64 a1_0, .int .i64 a1_1, .int .i64 a1_2, .int .i64 a1_3, .bool a1_4, .string a1_5]] w fun e w' =>
      e = .returned (.tuple #[.agg #[.int .i64 r1, .int .i64 r2, .int .i64 r3, .string r4], .int .i64 r5, .int .i64 r6]) ∧ Below w.heap.size w w' := by
  unfold bits_Fit.f at h
  cases hv : validB a0_0 a0_1 a0_2 a0_3 with
  | false =>
    rw [if_neg (by rw [hv]; decide)] at h
    simp only [Option.some.injEq, Prod.mk.injEq] at h
    obtain ⟨rfl, rfl, rfl, rfl, rfl, rfl⟩ := h
    exact fit_a ⟨a0_0, a0_1, a0_2, a0_3⟩ ⟨a1_0, a1_1, a1_2, a1_3, a1_4, a1_5⟩ w hv
  | true =>
    rw [if_pos hv] at h
    cases ht : validT a1_0 a1_1 a1_2 a1_3 a1_4 a1_5 with
    | false =>
      rw [if_neg (by rw [ht]; decide)] at h
      simp only [Option.some.injEq, Prod.mk.injEq] at h
      obtain ⟨rfl, rfl, rfl, rfl, rfl, rfl⟩ := h
      exact fit_b ⟨a0_0, a0_1, a0_2, a0_3⟩ ⟨a1_0, a1_1, a1_2, a1_3, a1_4, a1_5⟩ w hv ht
    | true =>
      rw [if_pos ht] at h
      by_cases hno : (a0_0 = a1_0 ∧ ¬ a1_3 < (a0_3.size : Int) ∧ a1_4 = false)
      · obtain ⟨h1, h2, h3⟩ := hno
        rw [if_pos h1, if_neg h2, if_neg (by rw [h3]; decide)] at h
        simp only [Option.some.injEq, Prod.mk.injEq] at h
        obtain ⟨rfl, rfl, rfl, rfl, rfl, rfl⟩ := h
        obtain ⟨k4, k1, k2, _⟩ := okV_parts (v := ⟨a0_0, a0_1, a0_2, a0_3⟩) hv
        simp only at k4 k1 k2
        subst k1; subst k2
        rcases k4 with rfl | rfl
        · exact fit_d4 a0_3 ⟨a1_0, a1_1, a1_2, a1_3, a1_4, a1_5⟩ w hv ht h1.symm (by simpa using h2) h3 _ rfl
        · exact fit_d5 a0_3 ⟨a1_0, a1_1, a1_2, a1_3, a1_4, a1_5⟩ w hv ht h1.symm (by simpa using h2) h3 _ rfl
      · have hr : fitRes ⟨a0_0, a0_1, a0_2, a0_3⟩ ⟨a1_0, a1_1, a1_2, a1_3, a1_4, a1_5⟩ = (r1, r2, r3, r4, r5, r6) := by
          have h2 : some (fitRes ⟨a0_0, a0_1, a0_2, a0_3⟩ ⟨a1_0, a1_1, a1_2, a1_3, a1_4, a1_5⟩) = some (r1, r2, r3, r4, r5, r6) := by
            rw [← h]
            unfold fitRes
            simp only
            by_cases h1 : a0_0 = a1_0
            · rw [if_pos h1, if_pos h1]
              by_cases h2 : a1_3 < (a0_3.size : Int)
              · rw [if_pos h2, if_pos h2]
              · rw [if_neg h2, if_neg h2]
                by_cases h3 : a1_4 = true
                · rw [if_pos h3, if_pos h3]
                · rw [if_neg h3, if_neg h3]
            · rw [if_neg h1, if_neg h1]
          exact Option.some.inj h2
        exact fit_c ⟨a0_0, a0_1, a0_2, a0_3⟩ ⟨a1_0, a1_1, a1_2, a1_3, a1_4, a1_5⟩ w hv ht hno (r1, r2, r3, r4, r5, r6) hr
end Go.Proofs.YtnelblndidciiaaDoor.P

-- from the text Hn
namespace Go.Proofs.YtnelblndidciiaaDoor.P
open Go.RowKit Go.Proofs.YtnelblndidciiaaDoorW.PrintWords Go.Proofs.YtnelblndidciiaaDoorW.PrintLast Go.Proofs.YtnelblndidciiaaDoorW.PrintMore
set_option linter.unusedVariables false
set_option linter.unusedSimpArgs false
def revL (s : ByteArray) (m : Nat) : List Int := (List.range m).foldl (fun l j => l.set j (bt s ((s.size - 1 - j : Nat) : Int))) (bytesOf s)
theorem revL_succ (s : ByteArray) (m : Nat) : revL s (m + 1) = (revL s m).set m (bt s ((s.size - 1 - m : Nat) : Int)) := by
  unfold revL; rw [List.range_succ, List.foldl_append]; rfl
theorem revL_len (s : ByteArray) (m : Nat) : (revL s m).length = s.size := by
  induction m with
  | zero => exact bytesOf_len s
  | succ m ih => rw [revL_succ, List.length_set]; exact ih
theorem revL_get (s : ByteArray) (m : Nat) (h : m ≤ s.size) (j : Nat) (hj : j < m) : (revL s m).getD j 0 = bt s ((s.size - 1 - j : Nat) : Int) := by
  induction m with
  | zero => omega
  | succ m ih =>
    rw [revL_succ]
    by_cases e : j = m
    · subst e
      rw [List.getD_eq_getElem?_getD, List.getElem?_set_self (by rw [revL_len]; omega)]; rfl
    · rw [List.getD_eq_getElem?_getD, List.getElem?_set_ne (by omega), ← List.getD_eq_getElem?_getD, ih (by omega) (by omega)]
def revB (s : ByteArray) : ByteArray := strOfNums (revL s s.size)
set_option maxRecDepth 100000 in
set_option maxHeartbeats 4000000 in
theorem rev_bad (s : S23) (w : World) (h : okV s = false) :
    Calls Tryd.prog 14 #[.agg #[.int .i64 s.f0, .int .i64 s.f1, .int .i64 s.f2, .string s.f3]] w fun e w' => e = .returned (.tuple #[.agg #[.int .i64 0, .int .i64 0, .int .i64 0, .string (⟨#[]⟩ : ByteArray)], .int .i64 1]) ∧ Below w.heap.size w w' := by
  have HV := Aside0.mk (fun W => bits_Valid.calls s.f0 s.f1 s.f2 s.f3 (okV s) W rfl)
  rw [h] at HV
  clear h
  go_enter Tryd.func14, Tryd.ntmps14
  go_wp2_with fail
  refine (HV.out _).mono ?_
  rintro e w' ⟨rfl, hb1⟩
  have hbW := ((Below.refl w.heap.size w).alloc (Nat.le_refl _) (.cells #[.int .i64 s.f0, .int .i64 s.f1, .int .i64 s.f2, .string s.f3] 23 (0, 0))).alloc (show w.heap.size ≤ _ by simp) (.cells #[.int .i64 0, .int .i64 0, .int .i64 0, .string (⟨#[]⟩ : ByteArray)] 23 (0, 0))
  have HB := Aside0.mk (hbW.trans (hb1.mono hbW.size))
  have HZ := Aside0.mk (blk_below (blk_at_n (W := w.alloc (.cells #[.int .i64 s.f0, .int .i64 s.f1, .int .i64 s.f2, .string s.f3] 23 (0, 0))) (o := (.cells #[.int .i64 0, .int .i64 0, .int .i64 0, .string (⟨#[]⟩ : ByteArray)] 23 (0, 0))) (n := w.heap.size + 1) (by simp)) hb1)
  clear hb1 hbW
  have c0 := (blk_cell HZ.out 0).trans rfl
  have c1 := (blk_cell HZ.out 1).trans rfl
  have c2 := (blk_cell HZ.out 2).trans rfl
  have c3 := (blk_cell HZ.out 3).trans rfl
  have f0 := blk_frozen HZ.out 0
  have f1 := blk_frozen HZ.out 1
  have f2 := blk_frozen HZ.out 2
  have f3 := blk_frozen HZ.out 3
  go_wp2_with fail
  have hO := (blk_put (cs := #[.int .i64 0, .int .i64 0, .int .i64 0, .string (⟨#[]⟩ : ByteArray)]) (blk_put (cs := #[.int .i64 0, .int .i64 0, .int .i64 0, .string (⟨#[]⟩ : ByteArray)]) (blk_put (cs := #[.int .i64 0, .int .i64 0, .int .i64 0, .string (⟨#[]⟩ : ByteArray)]) (blk_put (cs := #[.int .i64 0, .int .i64 0, .int .i64 0, .string (⟨#[]⟩ : ByteArray)]) HZ.out 0 (.int .i64 0) rfl) 1 (.int .i64 0) rfl) 2 (.int .i64 0) rfl) 3 (.string (⟨#[]⟩ : ByteArray)) rfl)
  have hB := (Below.setCell (Below.setCell (Below.setCell (Below.setCell HB.out (p := ⟨w.heap.size + 1, 0, none⟩) (by first | (simp; done) | (simp; omega)) (.int .i64 0)) (p := ⟨w.heap.size + 1, 1, none⟩) (by first | (simp; done) | (simp; omega)) (.int .i64 0)) (p := ⟨w.heap.size + 1, 2, none⟩) (by first | (simp; done) | (simp; omega)) (.int .i64 0)) (p := ⟨w.heap.size + 1, 3, none⟩) (by first | (simp; done) | (simp; omega)) (.string (⟨#[]⟩ : ByteArray)))
  clear c0 f0 c1 f1 c2 f2 c3 f3
  generalize ((((w'.setCell ⟨w.heap.size + 1, 0, none⟩ (.int .i64 0)).setCell ⟨w.heap.size + 1, 1, none⟩ (.int .i64 0)).setCell ⟨w.heap.size + 1, 2, none⟩ (.int .i64 0)).setCell ⟨w.heap.size + 1, 3, none⟩ (.string (⟨#[]⟩ : ByteArray))) = W at *
  have o0 := (blk_cell hO 0).trans rfl
  have o1 := (blk_cell hO 1).trans rfl
  have o2 := (blk_cell hO 2).trans rfl
  have o3 := (blk_cell hO 3).trans rfl
  refine bodyPost_ret (v := .tuple #[.agg #[.int .i64 0, .int .i64 0, .int .i64 0, .string (⟨#[]⟩ : ByteArray)], .int .i64 1]) (by simp [results, Tryd.results14, go_sem, o0, o1, o2, o3]) rfl ⟨rfl, ?_⟩
  first | exact hB | exact Below.drew hB
set_option maxRecDepth 100000 in
set_option maxHeartbeats 4000000 in
theorem rev_does (s : S23) (w : World) (h : okV s = true) :
    Calls Tryd.prog 14 #[.agg #[.int .i64 s.f0, .int .i64 s.f1, .int .i64 s.f2, .string s.f3]] w fun e w' => e = .returned (.tuple #[.agg #[.int .i64 s.f0, .int .i64 0, .int .i64 0, .string (revB s.f3)], .int .i64 0]) ∧ Below w.heap.size w w' := by
  have hs := (okV_parts h).2.2.2.1
  have HV := Aside0.mk (fun W => bits_Valid.calls s.f0 s.f1 s.f2 s.f3 (okV s) W rfl)
  rw [h] at HV
  clear h
  have hconv := fun (W : World) => Lib.run_convert_string_bytes (P := Tryd.prog) W 9 50 5 s.f3 Tryd.underlying9 Tryd.underlying50 Tryd.underlying5
  go_enter Tryd.func14, Tryd.ntmps14
  go_wp2_with fail
  refine (HV.out _).mono ?_
  rintro e W0 ⟨rfl, hb1⟩
  have hbW := ((Below.refl w.heap.size w).alloc (Nat.le_refl _) (.cells #[.int .i64 s.f0, .int .i64 s.f1, .int .i64 s.f2, .string s.f3] 23 (0, 0))).alloc (show w.heap.size ≤ _ by simp) (.cells #[.int .i64 0, .int .i64 0, .int .i64 0, .string (⟨#[]⟩ : ByteArray)] 23 (0, 0))
  have HBW := Aside0.mk (hbW.trans (hb1.mono hbW.size))
  have hS := Aside0.mk (blk_below (blk_alloc (blk_new w (.cells #[.int .i64 s.f0, .int .i64 s.f1, .int .i64 s.f2, .string s.f3] 23 (0, 0))) (.cells #[.int .i64 0, .int .i64 0, .int .i64 0, .string (⟨#[]⟩ : ByteArray)] 23 (0, 0))) hb1)
  have hZ := Aside0.mk (blk_below (blk_at_n (W := w.alloc (.cells #[.int .i64 s.f0, .int .i64 s.f1, .int .i64 s.f2, .string s.f3] 23 (0, 0))) (o := (.cells #[.int .i64 0, .int .i64 0, .int .i64 0, .string (⟨#[]⟩ : ByteArray)] 23 (0, 0))) (n := w.heap.size + 1) (by simp)) hb1)
  have HW2 : Aside0 (w.heap.size + 1 < W0.heap.size) := ⟨by have := hb1.size; simp at this; omega⟩
  clear hb1 hbW
  have s0 := (blk_cell hS.out 0).trans rfl
  have s1 := (blk_cell hS.out 1).trans rfl
  have s2 := (blk_cell hS.out 2).trans rfl
  have s3 := (blk_cell hS.out 3).trans rfl
  go_wp2_with fail
  clear s0 s1 s2 s3
  go_loopw [15] (fun p wr => ∃ m : Nat, m ≤ s.f3.size ∧ p = .int .i64 (m : Int) ∧ Aside0 (Below w.heap.size w wr) ∧ Aside0 (wr.heap[w.heap.size]? = some (.cells #[.int .i64 s.f0, .int .i64 s.f1, .int .i64 s.f2, .string s.f3] 23 (0, 0))) ∧ Aside0 (wr.heap[w.heap.size + 1]? = some (.cells #[.int .i64 0, .int .i64 0, .int .i64 0, .string (⟨#[]⟩ : ByteArray)] 23 (0, 0))) ∧ BRow wr W0.heap.size 5 (revL s.f3 m)) (fun p _ => ((s.f3.size : Int) - intOf p).toNat)
  case atStart =>
    exact ⟨0, Nat.zero_le _, rfl, ⟨below_bytes 5 _ HBW.out⟩, ⟨blk_below hS.out (below_bytes_self _ _ _)⟩, ⟨blk_below hZ.out (below_bytes_self _ _ _)⟩, BRow.make _ _ _⟩
  case round =>
    obtain ⟨m, hm, rfl, HB, KS, KZ, HR⟩ := hrel
    by_cases hlt : m < s.f3.size
    · have hcell := HR.cell (j := m) (by rw [revL_len]; exact hlt)
      have hbd : 0 ≤ (m : Int) ∧ (m : Int) < (s.f3.size : Int) := ⟨by omega, by omega⟩
      have hw1 : wrap64 ((s.f3.size : Int) - 1) = (s.f3.size : Int) - 1 := by unfold wrap64; omega
      have hw2 : wrap64 ((s.f3.size : Int) - 1 - (m : Int)) = ((s.f3.size - 1 - m : Nat) : Int) := by unfold wrap64; omega
      have s3 : wr.cell? ⟨w.heap.size, 3, none⟩ = some (.string s.f3) := (blk_cell KS.out 3).trans rfl
      have hfree := HR.free (j := m) (by rw [revL_len]; exact hlt)
      have hg1 : w.heap.size ≠ W0.heap.size := by have := HW2.out; omega
      have hg2 : w.heap.size + 1 ≠ W0.heap.size := by have := HW2.out; omega
      have hlt2 : s.f3.size - 1 - m < s.f3.size := by omega
      have hset := HR.set m (bt s.f3 ((s.f3.size - 1 - m : Nat) : Int))
      rw [← revL_succ, btN s.f3 _ hlt2] at hset
      have Hset := Aside0.mk hset
      clear hset
      go_wp2_with fail
      go_roundw
      case rel =>
        exact ⟨m + 1, by omega, by congr 1, ⟨HB.out.setCell (by have := HW2.out; show _ ≤ W0.heap.size; omega) _⟩, ⟨blk_far KS.out hg1 _⟩, ⟨blk_far KZ.out hg2 _⟩, Hset.out⟩
      case measure => simp [intOf]; omega
    · obtain rfl : m = s.f3.size := by omega
      have s0 := (blk_cell KS.out 0).trans rfl
      have s1 := (blk_cell KS.out 1).trans rfl
      have s2 := (blk_cell KS.out 2).trans rfl
      have s3 := (blk_cell KS.out 3).trans rfl
      have hcv : ∀ c : Nat, (convert 50 9 (.slice (some ⟨W0.heap.size, 0, none⟩) s.f3.size c)).run Tryd.prog wr = .ok (.string (revB s.f3)) wr := fun c => by
        have := HR.string (P := Tryd.prog) (src := 50) (dst := 9) (c := c) (by rw [revL_len]; omega) Tryd.underlying50 Tryd.underlying5 Tryd.underlying9
        rw [revL_len] at this; exact this
      clear HR
      go_wp2_with (go_at_call 18; refine (bits_with.calls _ _ _ _ _ _ _ _ _ _ (bits_with.is _ _ _ _ _)).mono ?_)
      rintro e w2 ⟨rfl, hb6⟩
      have HZ := Aside0.mk (blk_below KZ.out hb6)
      have HB := Aside0.mk (HB.out.trans (hb6.mono HB.out.size))
      clear s0 s1 s2 s3 hb6 hcv
      have c0 := (blk_cell HZ.out 0).trans rfl
      have c1 := (blk_cell HZ.out 1).trans rfl
      have c2 := (blk_cell HZ.out 2).trans rfl
      have c3 := (blk_cell HZ.out 3).trans rfl
      have f0 := blk_frozen HZ.out 0
      have f1 := blk_frozen HZ.out 1
      have f2 := blk_frozen HZ.out 2
      have f3 := blk_frozen HZ.out 3
      go_wp2_with fail
      have hO := (blk_put (cs := #[.int .i64 s.f0, .int .i64 0, .int .i64 0, .string (⟨#[]⟩ : ByteArray)]) (blk_put (cs := #[.int .i64 s.f0, .int .i64 0, .int .i64 0, .string (⟨#[]⟩ : ByteArray)]) (blk_put (cs := #[.int .i64 s.f0, .int .i64 0, .int .i64 0, .string (⟨#[]⟩ : ByteArray)]) (blk_put (cs := #[.int .i64 0, .int .i64 0, .int .i64 0, .string (⟨#[]⟩ : ByteArray)]) HZ.out 0 (.int .i64 s.f0) rfl) 1 (.int .i64 0) rfl) 2 (.int .i64 0) rfl) 3 (.string (revB s.f3)) rfl)
      have hB := (Below.setCell (Below.setCell (Below.setCell (Below.setCell HB.out (p := ⟨w.heap.size + 1, 0, none⟩) (by first | (simp; done) | (simp; omega)) (.int .i64 s.f0)) (p := ⟨w.heap.size + 1, 1, none⟩) (by first | (simp; done) | (simp; omega)) (.int .i64 0)) (p := ⟨w.heap.size + 1, 2, none⟩) (by first | (simp; done) | (simp; omega)) (.int .i64 0)) (p := ⟨w.heap.size + 1, 3, none⟩) (by first | (simp; done) | (simp; omega)) (.string (revB s.f3)))
      clear c0 f0 c1 f1 c2 f2 c3 f3
      generalize ((((w2.setCell ⟨w.heap.size + 1, 0, none⟩ (.int .i64 s.f0)).setCell ⟨w.heap.size + 1, 1, none⟩ (.int .i64 0)).setCell ⟨w.heap.size + 1, 2, none⟩ (.int .i64 0)).setCell ⟨w.heap.size + 1, 3, none⟩ (.string (revB s.f3))) = W at *
      have o0 := (blk_cell hO 0).trans rfl
      have o1 := (blk_cell hO 1).trans rfl
      have o2 := (blk_cell hO 2).trans rfl
      have o3 := (blk_cell hO 3).trans rfl
      refine bodyPost_ret (v := .tuple #[.agg #[.int .i64 s.f0, .int .i64 0, .int .i64 0, .string (revB s.f3)], .int .i64 0]) (by simp [results, Tryd.results14, go_sem, o0, o1, o2, o3]) rfl ⟨rfl, ?_⟩
      first | exact hB | exact Below.drew hB
def bits_Reverse.f (a0_0 a0_1 a0_2 : Int) (a0_3 : ByteArray) : Option (Int × Int × Int × ByteArray × Int) :=
  if okV ⟨a0_0, a0_1, a0_2, a0_3⟩ = true then some (a0_0, 0, 0, revB a0_3, 0) else some (0, 0, 0, ⟨#[]⟩, 1)
theorem bits_Reverse.calls (a0_0 a0_1 a0_2 : Int) (a0_3 : ByteArray) (r1 r2 r3 : Int) (r4 : ByteArray) (r5 : Int) (w : World) (h : bits_Reverse.f a0_0 a0_1 a0_2 a0_3 = some (r1, r2, r3, r4, r5)) :
    Calls Tryd.prog 14 #[.agg #[.int .i64 a0_0, .int .i64 a0_1, .int .i64 a0_2, .string a0_3]] w fun e w' => e = .returned (.tuple #[.agg #[.int .i64 r1, .int .i64 r2, .int .i64 r3, .string r4], .int .i64 r5]) ∧ Below w.heap.size w w' := by
  unfold bits_Reverse.f at h
  by_cases hl : okV ⟨a0_0, a0_1, a0_2, a0_3⟩ = true
  · rw [if_pos hl] at h
    simp only [Option.some.injEq, Prod.mk.injEq] at h
    obtain ⟨rfl, rfl, rfl, rfl, rfl⟩ := h
    exact rev_does ⟨a0_0, a0_1, a0_2, a0_3⟩ w hl
  · rw [if_neg hl] at h
    simp only [Option.some.injEq, Prod.mk.injEq] at h
    obtain ⟨rfl, rfl, rfl, rfl, rfl⟩ := h
    exact rev_bad ⟨a0_0, a0_1, a0_2, a0_3⟩ w (by simpa using hl)
end Go.Proofs.YtnelblndidciiaaDoor.P
