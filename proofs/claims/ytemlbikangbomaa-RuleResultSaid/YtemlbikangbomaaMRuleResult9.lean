/- Part 9 of the proof of the law RuleResult: functions, contracts and plain laws; merged by this session's program. -/
import Derived.Test.YtemlbikangbomaaMRuleResult1
import Derived.Test.YtemlbikangbomaaMRuleResult2
import Derived.Test.YtemlbikangbomaaMRuleResult3
import Derived.Test.YtemlbikangbomaaMRuleResult4
import Derived.Test.YtemlbikangbomaaMRuleResult5
import Derived.Test.YtemlbikangbomaaMRuleResult7
import Derived.Test.YtemlbikangbomaaMRuleResult8
-- from the text B18
namespace Go.Proofs.Ytemlbikangbomaa.P
open Go.RowKit Go.Proofs.YtemlbikangbomaaW.PrintWords Go.Proofs.YtemlbikangbomaaW.PrintLast Go.Proofs.YtemlbikangbomaaW.PrintMore
attribute [local go_sem] max2_int min2_int max_two min_two max_three min_three max_four min_four   -- for this text's walks alone
set_option linter.unusedVariables false
set_option linter.unusedSimpArgs false
def rule_Assignable.f (a0_0 : Int) (a0_1 : Int) (a0_2 : Int) (a0_3 : Int) (a0_4 : Bool) (a0_5 : ByteArray) (a1_0 : Int) (a1_1 : Int) (a1_2 : Int) (a1_3 : Int) (a1_4 : Bool) (a1_5 : ByteArray) : Option (Bool × Int) := (digit_Valid.f a0_0 a0_1 a0_2 a0_3 a0_4 a0_5).bind fun t103 => (if t103 = true then ((digit_Valid.f a1_0 a1_1 a1_2 a1_3 a1_4 a1_5).bind fun t104 => (if t104 = true then (if a0_0 ≤ 6 then (if a1_0 ≤ 6 then (some (true, 0)) else (some ((a0_0 == a1_0), 0))) else (some ((a0_0 == a1_0), 0))) else (some (false, 13)))) else (some (false, 13)))
set_option maxHeartbeats 8000000 in
set_option maxRecDepth 100000 in
theorem rule_Assignable.calls (a0_0 : Int) (a0_1 : Int) (a0_2 : Int) (a0_3 : Int) (a0_4 : Bool) (a0_5 : ByteArray) (a1_0 : Int) (a1_1 : Int) (a1_2 : Int) (a1_3 : Int) (a1_4 : Bool) (a1_5 : ByteArray) (r1 : Bool) (r2 : Int) (w : World) (h : rule_Assignable.f a0_0 a0_1 a0_2 a0_3 a0_4 a0_5 a1_0 a1_1 a1_2 a1_3 a1_4 a1_5 = some (r1, r2)) :
    Calls Try.prog 18 #[.agg #[.int .i64 a0_0, .int .i64 a0_1, .int .i64 a0_2, .int .i64 a0_3, .bool a0_4, .string a0_5], .agg #[.int .i64 a1_0, .int .i64 a1_1, .int .i64 a1_2, .int .i64 a1_3, .bool a1_4, .string a1_5]] w fun e w' => e = .returned (.tuple #[.bool r1, .int .i64 r2]) ∧ Below w.heap.size w w' := by
  have hu25 := Try.underlying25
  have HB := Aside0.mk (Below.refl w.heap.size w)
  have H : ((digit_Valid.f a0_0 a0_1 a0_2 a0_3 a0_4 a0_5).bind fun t103 => (if t103 = true then ((digit_Valid.f a1_0 a1_1 a1_2 a1_3 a1_4 a1_5).bind fun t104 => (if t104 = true then (if a0_0 ≤ 6 then (if a1_0 ≤ 6 then (some (true, 0)) else (some ((a0_0 == a1_0), 0))) else (some ((a0_0 == a1_0), 0))) else (some (false, 13)))) else (some (false, 13)))) = some (r1, r2) := h
  clear h
  replace H := Option.bind_eq_some_iff.mp H
  obtain ⟨t103, A30, H⟩ := H
  replace H : (if t103 = true then ((digit_Valid.f a1_0 a1_1 a1_2 a1_3 a1_4 a1_5).bind fun t104 => (if t104 = true then (if a0_0 ≤ 6 then (if a1_0 ≤ 6 then (some (true, 0)) else (some ((a0_0 == a1_0), 0))) else (some ((a0_0 == a1_0), 0))) else (some (false, 13)))) else (some (false, 13))) = some (r1, r2) := H
  have A3 := Aside0.mk A30
  clear A30
  by_cases c4 : t103 = true
  · subst c4
    have H1 : ((digit_Valid.f a1_0 a1_1 a1_2 a1_3 a1_4 a1_5).bind fun t104 => (if t104 = true then (if a0_0 ≤ 6 then (if a1_0 ≤ 6 then (some (true, 0)) else (some ((a0_0 == a1_0), 0))) else (some ((a0_0 == a1_0), 0))) else (some (false, 13)))) = some (r1, r2) := by rw [if_pos rfl] at H; exact H
    clear H
    have H := H1
    clear H1
    replace H := Option.bind_eq_some_iff.mp H
    obtain ⟨t104, A50, H⟩ := H
    replace H : (if t104 = true then (if a0_0 ≤ 6 then (if a1_0 ≤ 6 then (some (true, 0)) else (some ((a0_0 == a1_0), 0))) else (some ((a0_0 == a1_0), 0))) else (some (false, 13))) = some (r1, r2) := H
    have A5 := Aside0.mk A50
    clear A50
    by_cases c6 : t104 = true
    · subst c6
      have H1 : (if a0_0 ≤ 6 then (if a1_0 ≤ 6 then (some (true, 0)) else (some ((a0_0 == a1_0), 0))) else (some ((a0_0 == a1_0), 0))) = some (r1, r2) := by rw [if_pos rfl] at H; exact H
      clear H
      have H := H1
      clear H1
      by_cases c7 : a0_0 ≤ 6
      · rw [if_pos c7] at H
        have c7b0 : decide (a0_0 ≤ 6) = true := decide_eq_true c7
        clear c7
        by_cases c8 : a1_0 ≤ 6
        · rw [if_pos c8] at H
          have c8b0 : decide (a1_0 ≤ 6) = true := decide_eq_true c8
          clear c8
          simp only [Option.some.injEq, Prod.mk.injEq] at H
          obtain ⟨rfl, rfl⟩ := H
          go_enter Try.func18, Try.ntmps18
          go_wp2_with (first | ((with_reducible refine gate_dst (N := 2) rfl ?_); refine box_event ?hg (N := 2) ?hd (cs := #[.int .i64 a0_0, .int .i64 a0_1, .int .i64 a0_2, .int .i64 a0_3, .bool a0_4, .string a0_5]) (t := 25) ?hr ?_; (case hd => rfl); (case hg => rfl); (case hr => first | (go_simp; done) | (go_simp; rfl)); intro gb101 hg w9 hbox hb; have n0_ := Aside0.mk (below_step (by repeat (first | (with_reducible first | exact HB.out | apply below_alloc | apply pw_below_drewN | apply below_drew1) | exact HB.out)) hb); have n1_ := Aside0.mk (hbox); have n2_ := Aside0.mk ((by rw [hg]; exact (below_size (by repeat (first | (with_reducible first | exact HB.out | apply below_alloc | apply pw_below_drewN | apply below_drew1) | exact HB.out))) : w.heap.size ≤ gb101)); have n3_ := n2_; clear HB; have HB := n0_; have BK101 := n1_; have GW101 := n2_; have GE101 := n3_; clear n0_ n1_ n2_ n3_; clear hb hbox hg) | ((with_reducible refine gate_dst (N := 3) rfl ?_); refine box_event ?hg (N := 3) ?hd (cs := #[.int .i64 a1_0, .int .i64 a1_1, .int .i64 a1_2, .int .i64 a1_3, .bool a1_4, .string a1_5]) (t := 25) ?hr ?_; (case hd => rfl); (case hg => rfl); (case hr => first | (go_simp; done) | (go_simp; rfl)); intro gb102 hg w10 hbox hb; have n0_ := Aside0.mk (blk_below (g := gb101) (o := .cells #[.int .i64 a0_0, .int .i64 a0_1, .int .i64 a0_2, .int .i64 a0_3, .bool a0_4, .string a0_5] 25 (0, 0)) (by (with_reducible repeat (first | refine blk_drewN ?_ _ | refine blk_drew ?_ | refine blk_alloc ?_ _)); exact BK101.out) hb); have n1_ := Aside0.mk (below_step (by repeat (first | (with_reducible first | exact HB.out | apply below_alloc | apply pw_below_drewN | apply below_drew1 | refine below_set ?_ GE101.out) | exact HB.out)) hb); have n2_ := Aside0.mk (hbox); have n3_ := Aside0.mk ((by rw [hg]; exact (below_size (by repeat (first | (with_reducible first | exact HB.out | apply below_alloc | apply pw_below_drewN | apply below_drew1 | refine below_set ?_ GE101.out) | exact HB.out))) : w.heap.size ≤ gb102)); have n4_ := n3_; have n5_ := Aside0.mk ((by rw [hg]; exact Nat.ne_of_lt (blk_lt (g := gb101) (o := .cells #[.int .i64 a0_0, .int .i64 a0_1, .int .i64 a0_2, .int .i64 a0_3, .bool a0_4, .string a0_5] 25 (0, 0)) (by (with_reducible repeat (first | refine blk_drewN ?_ _ | refine blk_drew ?_ | refine blk_alloc ?_ _)); exact BK101.out)) : gb101 ≠ gb102)); have n6_ := Aside0.mk ((by rw [hg]; exact Nat.ne_of_gt (blk_lt (g := gb101) (o := .cells #[.int .i64 a0_0, .int .i64 a0_1, .int .i64 a0_2, .int .i64 a0_3, .bool a0_4, .string a0_5] 25 (0, 0)) (by (with_reducible repeat (first | refine blk_drewN ?_ _ | refine blk_drew ?_ | refine blk_alloc ?_ _)); exact BK101.out)) : gb102 ≠ gb101)); clear BK101; clear HB; have BK101 := n0_; have HB := n1_; have BK102 := n2_; have GW102 := n3_; have GE102 := n4_; have NB101_102 := n5_; have NB102_101 := n6_; clear n0_ n1_ n2_ n3_ n4_ n5_ n6_; clear hb hbox hg; have hnb11 := NB101_102.out; have hnc11 := NB102_101.out; obtain ⟨hcz12_0, hcz12_1, hcz12_2, hcz12_3, hcz12_4, hcz12_5⟩ := blk_six BK101.out; obtain ⟨hfz12_0, hfz12_1, hfz12_2, hfz12_3, hfz12_4, hfz12_5⟩ := blk_six_free BK101.out) | ((with_reducible refine gate_callee (f := 58) rfl ?_); refine goesL_ (some 7) rfl rfl Try.func58 (by kernel_rfl) rfl #[.agg #[.int .i64 a0_0, .int .i64 a0_1, .int .i64 a0_2, .int .i64 a0_3, .bool a0_4, .string a0_5]] rfl (by (try simp only [List.map_toArray, List.map_cons, List.map_nil]); first | done | rfl | (simp only [List.length_drop, List.length_take]; rfl)) ?_; (with_reducible refine (digit_Valid.calls a0_0 a0_1 a0_2 a0_3 a0_4 a0_5 true _ A3.out).mono ?_); rintro e w13 ⟨rfl, hb⟩; refine ⟨_, rfl, ?_⟩; have n0_ := Aside0.mk (blk_below (g := gb101) (o := .cells #[.int .i64 a0_0, .int .i64 a0_1, .int .i64 a0_2, .int .i64 a0_3, .bool a0_4, .string a0_5] 25 (0, 0)) (by (with_reducible repeat (first | refine blk_drewN ?_ _ | refine blk_drew ?_ | refine blk_alloc ?_ _)); exact BK101.out) hb); have n1_ := Aside0.mk (blk_below (g := gb102) (o := .cells #[.int .i64 a1_0, .int .i64 a1_1, .int .i64 a1_2, .int .i64 a1_3, .bool a1_4, .string a1_5] 25 (0, 0)) (by (with_reducible repeat (first | refine blk_drewN ?_ _ | refine blk_drew ?_ | refine blk_alloc ?_ _)); exact BK102.out) hb); have n2_ := Aside0.mk (below_step (by repeat (first | (with_reducible first | exact HB.out | apply below_alloc | apply pw_below_drewN | apply below_drew1 | refine below_set ?_ GE101.out | refine below_set ?_ GE102.out) | exact HB.out)) hb); clear BK101; clear BK102; clear HB; have BK101 := n0_; have BK102 := n1_; have HB := n2_; clear n0_ n1_ n2_; (try clear hb); (try clear hb2); (try clear hk); (try clear hi); obtain ⟨hcz14_0, hcz14_1, hcz14_2, hcz14_3, hcz14_4, hcz14_5⟩ := blk_six BK102.out; obtain ⟨hfz14_0, hfz14_1, hfz14_2, hfz14_3, hfz14_4, hfz14_5⟩ := blk_six_free BK102.out) | (go_at_call 58; (with_reducible refine (digit_Valid.calls a1_0 a1_1 a1_2 a1_3 a1_4 a1_5 true _ A5.out).mono ?_); rintro e w15 ⟨rfl, hb⟩; have n0_ := Aside0.mk (blk_below (g := gb101) (o := .cells #[.int .i64 a0_0, .int .i64 a0_1, .int .i64 a0_2, .int .i64 a0_3, .bool a0_4, .string a0_5] 25 (0, 0)) (by (with_reducible repeat (first | refine blk_drewN ?_ _ | refine blk_drew ?_ | refine blk_alloc ?_ _)); exact BK101.out) hb); have n1_ := Aside0.mk (blk_below (g := gb102) (o := .cells #[.int .i64 a1_0, .int .i64 a1_1, .int .i64 a1_2, .int .i64 a1_3, .bool a1_4, .string a1_5] 25 (0, 0)) (by (with_reducible repeat (first | refine blk_drewN ?_ _ | refine blk_drew ?_ | refine blk_alloc ?_ _)); exact BK102.out) hb); have n2_ := Aside0.mk (below_step (by repeat (first | (with_reducible first | exact HB.out | apply below_alloc | apply pw_below_drewN | apply below_drew1 | refine below_set ?_ GE101.out | refine below_set ?_ GE102.out) | exact HB.out)) hb); clear BK101; clear BK102; clear HB; have BK101 := n0_; have BK102 := n1_; have HB := n2_; clear n0_ n1_ n2_; (try clear hb); (try clear hb2); (try clear hk); (try clear hi); obtain ⟨hcz16_0, hcz16_1, hcz16_2, hcz16_3, hcz16_4, hcz16_5⟩ := blk_six BK101.out; obtain ⟨hfz16_0, hfz16_1, hfz16_2, hfz16_3, hfz16_4, hfz16_5⟩ := blk_six_free BK101.out; obtain ⟨hcz17_0, hcz17_1, hcz17_2, hcz17_3, hcz17_4, hcz17_5⟩ := blk_six BK102.out; obtain ⟨hfz17_0, hfz17_1, hfz17_2, hfz17_3, hfz17_4, hfz17_5⟩ := blk_six_free BK102.out))
          go_ret2
          exact ⟨by first | rfl | (simp [errW_none, errW_some] <;> rfl) | (simp [*, errW_none, errW_some] <;> rfl), by repeat (first | (with_reducible first | exact HB.out | apply below_alloc | apply pw_below_drewN | apply below_drew1 | refine below_set ?_ GE101.out | refine below_set ?_ GE102.out) | exact HB.out)⟩
        · rw [if_neg c8] at H
          have c8b0 : decide (a1_0 ≤ 6) = false := decide_eq_false c8
          clear c8
          simp only [Option.some.injEq, Prod.mk.injEq] at H
          obtain ⟨rfl, rfl⟩ := H
          go_enter Try.func18, Try.ntmps18
          go_wp2_with (first | ((with_reducible refine gate_dst (N := 2) rfl ?_); refine box_event ?hg (N := 2) ?hd (cs := #[.int .i64 a0_0, .int .i64 a0_1, .int .i64 a0_2, .int .i64 a0_3, .bool a0_4, .string a0_5]) (t := 25) ?hr ?_; (case hd => rfl); (case hg => rfl); (case hr => first | (go_simp; done) | (go_simp; rfl)); intro gb101 hg w18 hbox hb; have n0_ := Aside0.mk (below_step (by repeat (first | (with_reducible first | exact HB.out | apply below_alloc | apply pw_below_drewN | apply below_drew1) | exact HB.out)) hb); have n1_ := Aside0.mk (hbox); have n2_ := Aside0.mk ((by rw [hg]; exact (below_size (by repeat (first | (with_reducible first | exact HB.out | apply below_alloc | apply pw_below_drewN | apply below_drew1) | exact HB.out))) : w.heap.size ≤ gb101)); have n3_ := n2_; clear HB; have HB := n0_; have BK101 := n1_; have GW101 := n2_; have GE101 := n3_; clear n0_ n1_ n2_ n3_; clear hb hbox hg) | ((with_reducible refine gate_dst (N := 3) rfl ?_); refine box_event ?hg (N := 3) ?hd (cs := #[.int .i64 a1_0, .int .i64 a1_1, .int .i64 a1_2, .int .i64 a1_3, .bool a1_4, .string a1_5]) (t := 25) ?hr ?_; (case hd => rfl); (case hg => rfl); (case hr => first | (go_simp; done) | (go_simp; rfl)); intro gb102 hg w19 hbox hb; have n0_ := Aside0.mk (blk_below (g := gb101) (o := .cells #[.int .i64 a0_0, .int .i64 a0_1, .int .i64 a0_2, .int .i64 a0_3, .bool a0_4, .string a0_5] 25 (0, 0)) (by (with_reducible repeat (first | refine blk_drewN ?_ _ | refine blk_drew ?_ | refine blk_alloc ?_ _)); exact BK101.out) hb); have n1_ := Aside0.mk (below_step (by repeat (first | (with_reducible first | exact HB.out | apply below_alloc | apply pw_below_drewN | apply below_drew1 | refine below_set ?_ GE101.out) | exact HB.out)) hb); have n2_ := Aside0.mk (hbox); have n3_ := Aside0.mk ((by rw [hg]; exact (below_size (by repeat (first | (with_reducible first | exact HB.out | apply below_alloc | apply pw_below_drewN | apply below_drew1 | refine below_set ?_ GE101.out) | exact HB.out))) : w.heap.size ≤ gb102)); have n4_ := n3_; have n5_ := Aside0.mk ((by rw [hg]; exact Nat.ne_of_lt (blk_lt (g := gb101) (o := .cells #[.int .i64 a0_0, .int .i64 a0_1, .int .i64 a0_2, .int .i64 a0_3, .bool a0_4, .string a0_5] 25 (0, 0)) (by (with_reducible repeat (first | refine blk_drewN ?_ _ | refine blk_drew ?_ | refine blk_alloc ?_ _)); exact BK101.out)) : gb101 ≠ gb102)); have n6_ := Aside0.mk ((by rw [hg]; exact Nat.ne_of_gt (blk_lt (g := gb101) (o := .cells #[.int .i64 a0_0, .int .i64 a0_1, .int .i64 a0_2, .int .i64 a0_3, .bool a0_4, .string a0_5] 25 (0, 0)) (by (with_reducible repeat (first | refine blk_drewN ?_ _ | refine blk_drew ?_ | refine blk_alloc ?_ _)); exact BK101.out)) : gb102 ≠ gb101)); clear BK101; clear HB; have BK101 := n0_; have HB := n1_; have BK102 := n2_; have GW102 := n3_; have GE102 := n4_; have NB101_102 := n5_; have NB102_101 := n6_; clear n0_ n1_ n2_ n3_ n4_ n5_ n6_; clear hb hbox hg; have hnb20 := NB101_102.out; have hnc20 := NB102_101.out; obtain ⟨hcz21_0, hcz21_1, hcz21_2, hcz21_3, hcz21_4, hcz21_5⟩ := blk_six BK101.out; obtain ⟨hfz21_0, hfz21_1, hfz21_2, hfz21_3, hfz21_4, hfz21_5⟩ := blk_six_free BK101.out) | ((with_reducible refine gate_callee (f := 58) rfl ?_); refine goesL_ (some 7) rfl rfl Try.func58 (by kernel_rfl) rfl #[.agg #[.int .i64 a0_0, .int .i64 a0_1, .int .i64 a0_2, .int .i64 a0_3, .bool a0_4, .string a0_5]] rfl (by (try simp only [List.map_toArray, List.map_cons, List.map_nil]); first | done | rfl | (simp only [List.length_drop, List.length_take]; rfl)) ?_; (with_reducible refine (digit_Valid.calls a0_0 a0_1 a0_2 a0_3 a0_4 a0_5 true _ A3.out).mono ?_); rintro e w22 ⟨rfl, hb⟩; refine ⟨_, rfl, ?_⟩; have n0_ := Aside0.mk (blk_below (g := gb101) (o := .cells #[.int .i64 a0_0, .int .i64 a0_1, .int .i64 a0_2, .int .i64 a0_3, .bool a0_4, .string a0_5] 25 (0, 0)) (by (with_reducible repeat (first | refine blk_drewN ?_ _ | refine blk_drew ?_ | refine blk_alloc ?_ _)); exact BK101.out) hb); have n1_ := Aside0.mk (blk_below (g := gb102) (o := .cells #[.int .i64 a1_0, .int .i64 a1_1, .int .i64 a1_2, .int .i64 a1_3, .bool a1_4, .string a1_5] 25 (0, 0)) (by (with_reducible repeat (first | refine blk_drewN ?_ _ | refine blk_drew ?_ | refine blk_alloc ?_ _)); exact BK102.out) hb); have n2_ := Aside0.mk (below_step (by repeat (first | (with_reducible first | exact HB.out | apply below_alloc | apply pw_below_drewN | apply below_drew1 | refine below_set ?_ GE101.out | refine below_set ?_ GE102.out) | exact HB.out)) hb); clear BK101; clear BK102; clear HB; have BK101 := n0_; have BK102 := n1_; have HB := n2_; clear n0_ n1_ n2_; (try clear hb); (try clear hb2); (try clear hk); (try clear hi); obtain ⟨hcz23_0, hcz23_1, hcz23_2, hcz23_3, hcz23_4, hcz23_5⟩ := blk_six BK102.out; obtain ⟨hfz23_0, hfz23_1, hfz23_2, hfz23_3, hfz23_4, hfz23_5⟩ := blk_six_free BK102.out) | (go_at_call 58; (with_reducible refine (digit_Valid.calls a1_0 a1_1 a1_2 a1_3 a1_4 a1_5 true _ A5.out).mono ?_); rintro e w24 ⟨rfl, hb⟩; have n0_ := Aside0.mk (blk_below (g := gb101) (o := .cells #[.int .i64 a0_0, .int .i64 a0_1, .int .i64 a0_2, .int .i64 a0_3, .bool a0_4, .string a0_5] 25 (0, 0)) (by (with_reducible repeat (first | refine blk_drewN ?_ _ | refine blk_drew ?_ | refine blk_alloc ?_ _)); exact BK101.out) hb); have n1_ := Aside0.mk (blk_below (g := gb102) (o := .cells #[.int .i64 a1_0, .int .i64 a1_1, .int .i64 a1_2, .int .i64 a1_3, .bool a1_4, .string a1_5] 25 (0, 0)) (by (with_reducible repeat (first | refine blk_drewN ?_ _ | refine blk_drew ?_ | refine blk_alloc ?_ _)); exact BK102.out) hb); have n2_ := Aside0.mk (below_step (by repeat (first | (with_reducible first | exact HB.out | apply below_alloc | apply pw_below_drewN | apply below_drew1 | refine below_set ?_ GE101.out | refine below_set ?_ GE102.out) | exact HB.out)) hb); clear BK101; clear BK102; clear HB; have BK101 := n0_; have BK102 := n1_; have HB := n2_; clear n0_ n1_ n2_; (try clear hb); (try clear hb2); (try clear hk); (try clear hi); obtain ⟨hcz25_0, hcz25_1, hcz25_2, hcz25_3, hcz25_4, hcz25_5⟩ := blk_six BK101.out; obtain ⟨hfz25_0, hfz25_1, hfz25_2, hfz25_3, hfz25_4, hfz25_5⟩ := blk_six_free BK101.out; obtain ⟨hcz26_0, hcz26_1, hcz26_2, hcz26_3, hcz26_4, hcz26_5⟩ := blk_six BK102.out; obtain ⟨hfz26_0, hfz26_1, hfz26_2, hfz26_3, hfz26_4, hfz26_5⟩ := blk_six_free BK102.out))
          go_ret2
          exact ⟨by first | rfl | (simp [errW_none, errW_some] <;> rfl) | (simp [*, errW_none, errW_some] <;> rfl), by repeat (first | (with_reducible first | exact HB.out | apply below_alloc | apply pw_below_drewN | apply below_drew1 | refine below_set ?_ GE101.out | refine below_set ?_ GE102.out) | exact HB.out)⟩
      · rw [if_neg c7] at H
        have c7b0 : decide (a0_0 ≤ 6) = false := decide_eq_false c7
        clear c7
        simp only [Option.some.injEq, Prod.mk.injEq] at H
        obtain ⟨rfl, rfl⟩ := H
        go_enter Try.func18, Try.ntmps18
        go_wp2_with (first | ((with_reducible refine gate_dst (N := 2) rfl ?_); refine box_event ?hg (N := 2) ?hd (cs := #[.int .i64 a0_0, .int .i64 a0_1, .int .i64 a0_2, .int .i64 a0_3, .bool a0_4, .string a0_5]) (t := 25) ?hr ?_; (case hd => rfl); (case hg => rfl); (case hr => first | (go_simp; done) | (go_simp; rfl)); intro gb101 hg w27 hbox hb; have n0_ := Aside0.mk (below_step (by repeat (first | (with_reducible first | exact HB.out | apply below_alloc | apply pw_below_drewN | apply below_drew1) | exact HB.out)) hb); have n1_ := Aside0.mk (hbox); have n2_ := Aside0.mk ((by rw [hg]; exact (below_size (by repeat (first | (with_reducible first | exact HB.out | apply below_alloc | apply pw_below_drewN | apply below_drew1) | exact HB.out))) : w.heap.size ≤ gb101)); have n3_ := n2_; clear HB; have HB := n0_; have BK101 := n1_; have GW101 := n2_; have GE101 := n3_; clear n0_ n1_ n2_ n3_; clear hb hbox hg) | ((with_reducible refine gate_dst (N := 3) rfl ?_); refine box_event ?hg (N := 3) ?hd (cs := #[.int .i64 a1_0, .int .i64 a1_1, .int .i64 a1_2, .int .i64 a1_3, .bool a1_4, .string a1_5]) (t := 25) ?hr ?_; (case hd => rfl); (case hg => rfl); (case hr => first | (go_simp; done) | (go_simp; rfl)); intro gb102 hg w28 hbox hb; have n0_ := Aside0.mk (blk_below (g := gb101) (o := .cells #[.int .i64 a0_0, .int .i64 a0_1, .int .i64 a0_2, .int .i64 a0_3, .bool a0_4, .string a0_5] 25 (0, 0)) (by (with_reducible repeat (first | refine blk_drewN ?_ _ | refine blk_drew ?_ | refine blk_alloc ?_ _)); exact BK101.out) hb); have n1_ := Aside0.mk (below_step (by repeat (first | (with_reducible first | exact HB.out | apply below_alloc | apply pw_below_drewN | apply below_drew1 | refine below_set ?_ GE101.out) | exact HB.out)) hb); have n2_ := Aside0.mk (hbox); have n3_ := Aside0.mk ((by rw [hg]; exact (below_size (by repeat (first | (with_reducible first | exact HB.out | apply below_alloc | apply pw_below_drewN | apply below_drew1 | refine below_set ?_ GE101.out) | exact HB.out))) : w.heap.size ≤ gb102)); have n4_ := n3_; have n5_ := Aside0.mk ((by rw [hg]; exact Nat.ne_of_lt (blk_lt (g := gb101) (o := .cells #[.int .i64 a0_0, .int .i64 a0_1, .int .i64 a0_2, .int .i64 a0_3, .bool a0_4, .string a0_5] 25 (0, 0)) (by (with_reducible repeat (first | refine blk_drewN ?_ _ | refine blk_drew ?_ | refine blk_alloc ?_ _)); exact BK101.out)) : gb101 ≠ gb102)); have n6_ := Aside0.mk ((by rw [hg]; exact Nat.ne_of_gt (blk_lt (g := gb101) (o := .cells #[.int .i64 a0_0, .int .i64 a0_1, .int .i64 a0_2, .int .i64 a0_3, .bool a0_4, .string a0_5] 25 (0, 0)) (by (with_reducible repeat (first | refine blk_drewN ?_ _ | refine blk_drew ?_ | refine blk_alloc ?_ _)); exact BK101.out)) : gb102 ≠ gb101)); clear BK101; clear HB; have BK101 := n0_; have HB := n1_; have BK102 := n2_; have GW102 := n3_; have GE102 := n4_; have NB101_102 := n5_; have NB102_101 := n6_; clear n0_ n1_ n2_ n3_ n4_ n5_ n6_; clear hb hbox hg; have hnb29 := NB101_102.out; have hnc29 := NB102_101.out; obtain ⟨hcz30_0, hcz30_1, hcz30_2, hcz30_3, hcz30_4, hcz30_5⟩ := blk_six BK101.out; obtain ⟨hfz30_0, hfz30_1, hfz30_2, hfz30_3, hfz30_4, hfz30_5⟩ := blk_six_free BK101.out) | ((with_reducible refine gate_callee (f := 58) rfl ?_); refine goesL_ (some 7) rfl rfl Try.func58 (by kernel_rfl) rfl #[.agg #[.int .i64 a0_0, .int .i64 a0_1, .int .i64 a0_2, .int .i64 a0_3, .bool a0_4, .string a0_5]] rfl (by (try simp only [List.map_toArray, List.map_cons, List.map_nil]); first | done | rfl | (simp only [List.length_drop, List.length_take]; rfl)) ?_; (with_reducible refine (digit_Valid.calls a0_0 a0_1 a0_2 a0_3 a0_4 a0_5 true _ A3.out).mono ?_); rintro e w31 ⟨rfl, hb⟩; refine ⟨_, rfl, ?_⟩; have n0_ := Aside0.mk (blk_below (g := gb101) (o := .cells #[.int .i64 a0_0, .int .i64 a0_1, .int .i64 a0_2, .int .i64 a0_3, .bool a0_4, .string a0_5] 25 (0, 0)) (by (with_reducible repeat (first | refine blk_drewN ?_ _ | refine blk_drew ?_ | refine blk_alloc ?_ _)); exact BK101.out) hb); have n1_ := Aside0.mk (blk_below (g := gb102) (o := .cells #[.int .i64 a1_0, .int .i64 a1_1, .int .i64 a1_2, .int .i64 a1_3, .bool a1_4, .string a1_5] 25 (0, 0)) (by (with_reducible repeat (first | refine blk_drewN ?_ _ | refine blk_drew ?_ | refine blk_alloc ?_ _)); exact BK102.out) hb); have n2_ := Aside0.mk (below_step (by repeat (first | (with_reducible first | exact HB.out | apply below_alloc | apply pw_below_drewN | apply below_drew1 | refine below_set ?_ GE101.out | refine below_set ?_ GE102.out) | exact HB.out)) hb); clear BK101; clear BK102; clear HB; have BK101 := n0_; have BK102 := n1_; have HB := n2_; clear n0_ n1_ n2_; (try clear hb); (try clear hb2); (try clear hk); (try clear hi); obtain ⟨hcz32_0, hcz32_1, hcz32_2, hcz32_3, hcz32_4, hcz32_5⟩ := blk_six BK102.out; obtain ⟨hfz32_0, hfz32_1, hfz32_2, hfz32_3, hfz32_4, hfz32_5⟩ := blk_six_free BK102.out) | (go_at_call 58; (with_reducible refine (digit_Valid.calls a1_0 a1_1 a1_2 a1_3 a1_4 a1_5 true _ A5.out).mono ?_); rintro e w33 ⟨rfl, hb⟩; have n0_ := Aside0.mk (blk_below (g := gb101) (o := .cells #[.int .i64 a0_0, .int .i64 a0_1, .int .i64 a0_2, .int .i64 a0_3, .bool a0_4, .string a0_5] 25 (0, 0)) (by (with_reducible repeat (first | refine blk_drewN ?_ _ | refine blk_drew ?_ | refine blk_alloc ?_ _)); exact BK101.out) hb); have n1_ := Aside0.mk (blk_below (g := gb102) (o := .cells #[.int .i64 a1_0, .int .i64 a1_1, .int .i64 a1_2, .int .i64 a1_3, .bool a1_4, .string a1_5] 25 (0, 0)) (by (with_reducible repeat (first | refine blk_drewN ?_ _ | refine blk_drew ?_ | refine blk_alloc ?_ _)); exact BK102.out) hb); have n2_ := Aside0.mk (below_step (by repeat (first | (with_reducible first | exact HB.out | apply below_alloc | apply pw_below_drewN | apply below_drew1 | refine below_set ?_ GE101.out | refine below_set ?_ GE102.out) | exact HB.out)) hb); clear BK101; clear BK102; clear HB; have BK101 := n0_; have BK102 := n1_; have HB := n2_; clear n0_ n1_ n2_; (try clear hb); (try clear hb2); (try clear hk); (try clear hi); obtain ⟨hcz34_0, hcz34_1, hcz34_2, hcz34_3, hcz34_4, hcz34_5⟩ := blk_six BK101.out; obtain ⟨hfz34_0, hfz34_1, hfz34_2, hfz34_3, hfz34_4, hfz34_5⟩ := blk_six_free BK101.out; obtain ⟨hcz35_0, hcz35_1, hcz35_2, hcz35_3, hcz35_4, hcz35_5⟩ := blk_six BK102.out; obtain ⟨hfz35_0, hfz35_1, hfz35_2, hfz35_3, hfz35_4, hfz35_5⟩ := blk_six_free BK102.out))
        go_ret2
        exact ⟨by first | rfl | (simp [errW_none, errW_some] <;> rfl) | (simp [*, errW_none, errW_some] <;> rfl), by repeat (first | (with_reducible first | exact HB.out | apply below_alloc | apply pw_below_drewN | apply below_drew1 | refine below_set ?_ GE101.out | refine below_set ?_ GE102.out) | exact HB.out)⟩
    · replace c6 := Bool.eq_false_iff.mpr c6
      subst c6
      have H1 : (some (false, 13)) = some (r1, r2) := by rw [if_neg (show ¬ (false = true) by decide)] at H; exact H
      clear H
      have H := H1
      clear H1
      simp only [Option.some.injEq, Prod.mk.injEq] at H
      obtain ⟨rfl, rfl⟩ := H
      go_enter Try.func18, Try.ntmps18
      go_wp2_with (first | ((with_reducible refine gate_dst (N := 2) rfl ?_); refine box_event ?hg (N := 2) ?hd (cs := #[.int .i64 a0_0, .int .i64 a0_1, .int .i64 a0_2, .int .i64 a0_3, .bool a0_4, .string a0_5]) (t := 25) ?hr ?_; (case hd => rfl); (case hg => rfl); (case hr => first | (go_simp; done) | (go_simp; rfl)); intro gb101 hg w36 hbox hb; have n0_ := Aside0.mk (below_step (by repeat (first | (with_reducible first | exact HB.out | apply below_alloc | apply pw_below_drewN | apply below_drew1) | exact HB.out)) hb); have n1_ := Aside0.mk (hbox); have n2_ := Aside0.mk ((by rw [hg]; exact (below_size (by repeat (first | (with_reducible first | exact HB.out | apply below_alloc | apply pw_below_drewN | apply below_drew1) | exact HB.out))) : w.heap.size ≤ gb101)); have n3_ := n2_; clear HB; have HB := n0_; have BK101 := n1_; have GW101 := n2_; have GE101 := n3_; clear n0_ n1_ n2_ n3_; clear hb hbox hg) | ((with_reducible refine gate_dst (N := 3) rfl ?_); refine box_event ?hg (N := 3) ?hd (cs := #[.int .i64 a1_0, .int .i64 a1_1, .int .i64 a1_2, .int .i64 a1_3, .bool a1_4, .string a1_5]) (t := 25) ?hr ?_; (case hd => rfl); (case hg => rfl); (case hr => first | (go_simp; done) | (go_simp; rfl)); intro gb102 hg w37 hbox hb; have n0_ := Aside0.mk (blk_below (g := gb101) (o := .cells #[.int .i64 a0_0, .int .i64 a0_1, .int .i64 a0_2, .int .i64 a0_3, .bool a0_4, .string a0_5] 25 (0, 0)) (by (with_reducible repeat (first | refine blk_drewN ?_ _ | refine blk_drew ?_ | refine blk_alloc ?_ _)); exact BK101.out) hb); have n1_ := Aside0.mk (below_step (by repeat (first | (with_reducible first | exact HB.out | apply below_alloc | apply pw_below_drewN | apply below_drew1 | refine below_set ?_ GE101.out) | exact HB.out)) hb); have n2_ := Aside0.mk (hbox); have n3_ := Aside0.mk ((by rw [hg]; exact (below_size (by repeat (first | (with_reducible first | exact HB.out | apply below_alloc | apply pw_below_drewN | apply below_drew1 | refine below_set ?_ GE101.out) | exact HB.out))) : w.heap.size ≤ gb102)); have n4_ := n3_; have n5_ := Aside0.mk ((by rw [hg]; exact Nat.ne_of_lt (blk_lt (g := gb101) (o := .cells #[.int .i64 a0_0, .int .i64 a0_1, .int .i64 a0_2, .int .i64 a0_3, .bool a0_4, .string a0_5] 25 (0, 0)) (by (with_reducible repeat (first | refine blk_drewN ?_ _ | refine blk_drew ?_ | refine blk_alloc ?_ _)); exact BK101.out)) : gb101 ≠ gb102)); have n6_ := Aside0.mk ((by rw [hg]; exact Nat.ne_of_gt (blk_lt (g := gb101) (o := .cells #[.int .i64 a0_0, .int .i64 a0_1, .int .i64 a0_2, .int .i64 a0_3, .bool a0_4, .string a0_5] 25 (0, 0)) (by (with_reducible repeat (first | refine blk_drewN ?_ _ | refine blk_drew ?_ | refine blk_alloc ?_ _)); exact BK101.out)) : gb102 ≠ gb101)); clear BK101; clear HB; have BK101 := n0_; have HB := n1_; have BK102 := n2_; have GW102 := n3_; have GE102 := n4_; have NB101_102 := n5_; have NB102_101 := n6_; clear n0_ n1_ n2_ n3_ n4_ n5_ n6_; clear hb hbox hg; have hnb38 := NB101_102.out; have hnc38 := NB102_101.out; obtain ⟨hcz39_0, hcz39_1, hcz39_2, hcz39_3, hcz39_4, hcz39_5⟩ := blk_six BK101.out; obtain ⟨hfz39_0, hfz39_1, hfz39_2, hfz39_3, hfz39_4, hfz39_5⟩ := blk_six_free BK101.out) | ((with_reducible refine gate_callee (f := 58) rfl ?_); refine goesL_ (some 7) rfl rfl Try.func58 (by kernel_rfl) rfl #[.agg #[.int .i64 a0_0, .int .i64 a0_1, .int .i64 a0_2, .int .i64 a0_3, .bool a0_4, .string a0_5]] rfl (by (try simp only [List.map_toArray, List.map_cons, List.map_nil]); first | done | rfl | (simp only [List.length_drop, List.length_take]; rfl)) ?_; (with_reducible refine (digit_Valid.calls a0_0 a0_1 a0_2 a0_3 a0_4 a0_5 true _ A3.out).mono ?_); rintro e w40 ⟨rfl, hb⟩; refine ⟨_, rfl, ?_⟩; have n0_ := Aside0.mk (blk_below (g := gb101) (o := .cells #[.int .i64 a0_0, .int .i64 a0_1, .int .i64 a0_2, .int .i64 a0_3, .bool a0_4, .string a0_5] 25 (0, 0)) (by (with_reducible repeat (first | refine blk_drewN ?_ _ | refine blk_drew ?_ | refine blk_alloc ?_ _)); exact BK101.out) hb); have n1_ := Aside0.mk (blk_below (g := gb102) (o := .cells #[.int .i64 a1_0, .int .i64 a1_1, .int .i64 a1_2, .int .i64 a1_3, .bool a1_4, .string a1_5] 25 (0, 0)) (by (with_reducible repeat (first | refine blk_drewN ?_ _ | refine blk_drew ?_ | refine blk_alloc ?_ _)); exact BK102.out) hb); have n2_ := Aside0.mk (below_step (by repeat (first | (with_reducible first | exact HB.out | apply below_alloc | apply pw_below_drewN | apply below_drew1 | refine below_set ?_ GE101.out | refine below_set ?_ GE102.out) | exact HB.out)) hb); clear BK101; clear BK102; clear HB; have BK101 := n0_; have BK102 := n1_; have HB := n2_; clear n0_ n1_ n2_; (try clear hb); (try clear hb2); (try clear hk); (try clear hi); obtain ⟨hcz41_0, hcz41_1, hcz41_2, hcz41_3, hcz41_4, hcz41_5⟩ := blk_six BK102.out; obtain ⟨hfz41_0, hfz41_1, hfz41_2, hfz41_3, hfz41_4, hfz41_5⟩ := blk_six_free BK102.out) | (go_at_call 58; (with_reducible refine (digit_Valid.calls a1_0 a1_1 a1_2 a1_3 a1_4 a1_5 false _ A5.out).mono ?_); rintro e w42 ⟨rfl, hb⟩; have n0_ := Aside0.mk (blk_below (g := gb101) (o := .cells #[.int .i64 a0_0, .int .i64 a0_1, .int .i64 a0_2, .int .i64 a0_3, .bool a0_4, .string a0_5] 25 (0, 0)) (by (with_reducible repeat (first | refine blk_drewN ?_ _ | refine blk_drew ?_ | refine blk_alloc ?_ _)); exact BK101.out) hb); have n1_ := Aside0.mk (blk_below (g := gb102) (o := .cells #[.int .i64 a1_0, .int .i64 a1_1, .int .i64 a1_2, .int .i64 a1_3, .bool a1_4, .string a1_5] 25 (0, 0)) (by (with_reducible repeat (first | refine blk_drewN ?_ _ | refine blk_drew ?_ | refine blk_alloc ?_ _)); exact BK102.out) hb); have n2_ := Aside0.mk (below_step (by repeat (first | (with_reducible first | exact HB.out | apply below_alloc | apply pw_below_drewN | apply below_drew1 | refine below_set ?_ GE101.out | refine below_set ?_ GE102.out) | exact HB.out)) hb); clear BK101; clear BK102; clear HB; have BK101 := n0_; have BK102 := n1_; have HB := n2_; clear n0_ n1_ n2_; (try clear hb); (try clear hb2); (try clear hk); (try clear hi)))
      go_ret2
      exact ⟨by first | rfl | (simp [errW_none, errW_some] <;> rfl) | (simp [*, errW_none, errW_some] <;> rfl), by repeat (first | (with_reducible first | exact HB.out | apply below_alloc | apply pw_below_drewN | apply below_drew1 | refine below_set ?_ GE101.out | refine below_set ?_ GE102.out) | exact HB.out)⟩
  · replace c4 := Bool.eq_false_iff.mpr c4
    subst c4
    have H1 : (some (false, 13)) = some (r1, r2) := by rw [if_neg (show ¬ (false = true) by decide)] at H; exact H
    clear H
    have H := H1
    clear H1
    simp only [Option.some.injEq, Prod.mk.injEq] at H
    obtain ⟨rfl, rfl⟩ := H
    go_enter Try.func18, Try.ntmps18
    go_wp2_with (first | ((with_reducible refine gate_dst (N := 2) rfl ?_); refine box_event ?hg (N := 2) ?hd (cs := #[.int .i64 a0_0, .int .i64 a0_1, .int .i64 a0_2, .int .i64 a0_3, .bool a0_4, .string a0_5]) (t := 25) ?hr ?_; (case hd => rfl); (case hg => rfl); (case hr => first | (go_simp; done) | (go_simp; rfl)); intro gb101 hg w43 hbox hb; have n0_ := Aside0.mk (below_step (by repeat (first | (with_reducible first | exact HB.out | apply below_alloc | apply pw_below_drewN | apply below_drew1) | exact HB.out)) hb); have n1_ := Aside0.mk (hbox); have n2_ := Aside0.mk ((by rw [hg]; exact (below_size (by repeat (first | (with_reducible first | exact HB.out | apply below_alloc | apply pw_below_drewN | apply below_drew1) | exact HB.out))) : w.heap.size ≤ gb101)); have n3_ := n2_; clear HB; have HB := n0_; have BK101 := n1_; have GW101 := n2_; have GE101 := n3_; clear n0_ n1_ n2_ n3_; clear hb hbox hg) | ((with_reducible refine gate_dst (N := 3) rfl ?_); refine box_event ?hg (N := 3) ?hd (cs := #[.int .i64 a1_0, .int .i64 a1_1, .int .i64 a1_2, .int .i64 a1_3, .bool a1_4, .string a1_5]) (t := 25) ?hr ?_; (case hd => rfl); (case hg => rfl); (case hr => first | (go_simp; done) | (go_simp; rfl)); intro gb102 hg w44 hbox hb; have n0_ := Aside0.mk (blk_below (g := gb101) (o := .cells #[.int .i64 a0_0, .int .i64 a0_1, .int .i64 a0_2, .int .i64 a0_3, .bool a0_4, .string a0_5] 25 (0, 0)) (by (with_reducible repeat (first | refine blk_drewN ?_ _ | refine blk_drew ?_ | refine blk_alloc ?_ _)); exact BK101.out) hb); have n1_ := Aside0.mk (below_step (by repeat (first | (with_reducible first | exact HB.out | apply below_alloc | apply pw_below_drewN | apply below_drew1 | refine below_set ?_ GE101.out) | exact HB.out)) hb); have n2_ := Aside0.mk (hbox); have n3_ := Aside0.mk ((by rw [hg]; exact (below_size (by repeat (first | (with_reducible first | exact HB.out | apply below_alloc | apply pw_below_drewN | apply below_drew1 | refine below_set ?_ GE101.out) | exact HB.out))) : w.heap.size ≤ gb102)); have n4_ := n3_; have n5_ := Aside0.mk ((by rw [hg]; exact Nat.ne_of_lt (blk_lt (g := gb101) (o := .cells #[.int .i64 a0_0, .int .i64 a0_1, .int .i64 a0_2, .int .i64 a0_3, .bool a0_4, .string a0_5] 25 (0, 0)) (by (with_reducible repeat (first | refine blk_drewN ?_ _ | refine blk_drew ?_ | refine blk_alloc ?_ _)); exact BK101.out)) : gb101 ≠ gb102)); have n6_ := Aside0.mk ((by rw [hg]; exact Nat.ne_of_gt (blk_lt (g := gb101) (o := .cells #[.int .i64 a0_0, .int .i64 a0_1, .int .i64 a0_2, .int .i64 a0_3, .bool a0_4, .string a0_5] 25 (0, 0)) (by (with_reducible repeat (first | refine blk_drewN ?_ _ | refine blk_drew ?_ | refine blk_alloc ?_ _)); exact BK101.out)) : gb102 ≠ gb101)); clear BK101; clear HB; have BK101 := n0_; have HB := n1_; have BK102 := n2_; have GW102 := n3_; have GE102 := n4_; have NB101_102 := n5_; have NB102_101 := n6_; clear n0_ n1_ n2_ n3_ n4_ n5_ n6_; clear hb hbox hg; have hnb45 := NB101_102.out; have hnc45 := NB102_101.out; obtain ⟨hcz46_0, hcz46_1, hcz46_2, hcz46_3, hcz46_4, hcz46_5⟩ := blk_six BK101.out; obtain ⟨hfz46_0, hfz46_1, hfz46_2, hfz46_3, hfz46_4, hfz46_5⟩ := blk_six_free BK101.out) | ((with_reducible refine gate_callee (f := 58) rfl ?_); refine goesL_ (some 7) rfl rfl Try.func58 (by kernel_rfl) rfl #[.agg #[.int .i64 a0_0, .int .i64 a0_1, .int .i64 a0_2, .int .i64 a0_3, .bool a0_4, .string a0_5]] rfl (by (try simp only [List.map_toArray, List.map_cons, List.map_nil]); first | done | rfl | (simp only [List.length_drop, List.length_take]; rfl)) ?_; (with_reducible refine (digit_Valid.calls a0_0 a0_1 a0_2 a0_3 a0_4 a0_5 false _ A3.out).mono ?_); rintro e w47 ⟨rfl, hb⟩; refine ⟨_, rfl, ?_⟩; have n0_ := Aside0.mk (blk_below (g := gb101) (o := .cells #[.int .i64 a0_0, .int .i64 a0_1, .int .i64 a0_2, .int .i64 a0_3, .bool a0_4, .string a0_5] 25 (0, 0)) (by (with_reducible repeat (first | refine blk_drewN ?_ _ | refine blk_drew ?_ | refine blk_alloc ?_ _)); exact BK101.out) hb); have n1_ := Aside0.mk (blk_below (g := gb102) (o := .cells #[.int .i64 a1_0, .int .i64 a1_1, .int .i64 a1_2, .int .i64 a1_3, .bool a1_4, .string a1_5] 25 (0, 0)) (by (with_reducible repeat (first | refine blk_drewN ?_ _ | refine blk_drew ?_ | refine blk_alloc ?_ _)); exact BK102.out) hb); have n2_ := Aside0.mk (below_step (by repeat (first | (with_reducible first | exact HB.out | apply below_alloc | apply pw_below_drewN | apply below_drew1 | refine below_set ?_ GE101.out | refine below_set ?_ GE102.out) | exact HB.out)) hb); clear BK101; clear BK102; clear HB; have BK101 := n0_; have BK102 := n1_; have HB := n2_; clear n0_ n1_ n2_; (try clear hb); (try clear hb2); (try clear hk); (try clear hi)))
    go_ret2
    exact ⟨by first | rfl | (simp [errW_none, errW_some] <;> rfl) | (simp [*, errW_none, errW_some] <;> rfl), by repeat (first | (with_reducible first | exact HB.out | apply below_alloc | apply pw_below_drewN | apply below_drew1 | refine below_set ?_ GE101.out | refine below_set ?_ GE102.out) | exact HB.out)⟩
end Go.Proofs.Ytemlbikangbomaa.P

-- from the text Hs
namespace Go.Proofs.Ytemlbikangbomaa.P
open Go.RowKit Go.Proofs.YtemlbikangbomaaW.PrintWords Go.Proofs.YtemlbikangbomaaW.PrintLast Go.Proofs.YtemlbikangbomaaW.PrintMore
set_option linter.unusedVariables false
set_option linter.unusedSimpArgs false
/-- Blocks below B stay, and all of the first world's but g1 and g2. -/
structure KB (B g1 g2 : Nat) (w w' : World) : Prop where mk ::
  low : Below B w w'
  kept : ∀ k, k < w.heap.size → k ≠ g1 → k ≠ g2 → w'.heap[k]? = w.heap[k]?
theorem KB.of {B g1 g2 : Nat} {w w' : World} (h : Below w.heap.size w w') (hB : B ≤ w.heap.size) : KB B g1 g2 w w' := ⟨h.mono hB, fun k hk _ _ => h.block k hk⟩
theorem KB.step {B g1 g2 : Nat} {w w1 w2 : World} (h : KB B g1 g2 w w1) (hB : B ≤ w.heap.size) (hb : Below w1.heap.size w1 w2) : KB B g1 g2 w w2 :=
  ⟨h.low.trans (hb.mono (Nat.le_trans hB h.low.size)), fun k hk h1 h2 => (hb.block k (Nat.lt_of_lt_of_le hk h.low.size)).trans (h.kept k hk h1 h2)⟩
theorem KB.set {B g1 g2 : Nat} {w w1 : World} (h : KB B g1 g2 w w1) {p : Addr} (hB : B ≤ p.block) (hp : p.block = g1 ∨ p.block = g2 ∨ w.heap.size ≤ p.block) (u : Value) : KB B g1 g2 w (w1.setCell p u) :=
  ⟨h.low.setCell hB u, fun k hk h1 h2 => (Below.heap_setCell w1 p u k (by omega)).trans (h.kept k hk h1 h2)⟩
theorem KB.alloc {B g1 g2 : Nat} {w w1 : World} (h : KB B g1 g2 w w1) (hB : B ≤ w.heap.size) (o : Obj) : KB B g1 g2 w (w1.alloc o) := h.step hB (below_alloc (Below.refl _ _) o)
theorem KB.drew {B g1 g2 : Nat} {w w1 : World} (h : KB B g1 g2 w w1) : KB B g1 g2 w w1.drew := ⟨h.low.drew, h.kept⟩
set_option maxRecDepth 100000 in
set_option maxHeartbeats 8000000 in
theorem res_raise (op : ByteArray) (a b : S25) (fa fb x y : S25) (most m : Int) (K : Nat) (hfa : rule_float.f a.f0 a.f1 a.f2 a.f3 a.f4 a.f5 = some (fa.f0, fa.f1, fa.f2, fa.f3, fa.f4, fa.f5)) (hfb : rule_float.f b.f0 b.f1 b.f2 b.f3 b.f4 b.f5 = some (fb.f0, fb.f1, fb.f2, fb.f3, fb.f4, fb.f5)) (ht : rule_together.f K fa.f0 fa.f1 fa.f2 fa.f3 fa.f4 fa.f5 fb.f0 fb.f1 fb.f2 fb.f3 fb.f4 fb.f5 = some (x.f0, x.f1, x.f2, x.f3, x.f4, x.f5, y.f0, y.f1, y.f2, y.f3, y.f4, y.f5, most)) (hv : validO [a, b] = 0) (hs : signO op = 4) (h3 : (x.f0 == 3) = true) (hm : mx x.f1 y.f1 = m) (B : Nat) (g1 g2 g3 : Nat) (w : World) (hne : g1 ≠ g2) (hB1 : B ≤ g1) (hB2 : B ≤ g2) (hg1 : w.heap[g1]? = some (.cells #[.int .i64 a.f0, .int .i64 a.f1, .int .i64 a.f2, .int .i64 a.f3, .bool a.f4, .string a.f5] 25 (0, 0))) (hg2 : w.heap[g2]? = some (.cells #[.int .i64 b.f0, .int .i64 b.f1, .int .i64 b.f2, .int .i64 b.f3, .bool b.f4, .string b.f5] 25 (0, 0))) (hg3 : w.heap[g3]? = some (.cells #[.string op] 9 (0, 0))) :
    Calls Try.prog 41 #[.pointer (some ⟨g1, 0, none⟩), .pointer (some ⟨g2, 0, none⟩), .pointer (some ⟨g3, 0, none⟩)] w fun r w' => r = .returned (.agg #[.int .i64 3, .int .i64 m, .int .i64 0, .int .i64 0, .bool false, .string ⟨#[]⟩]) ∧ Below B w w' ∧ (∀ k, k < w.heap.size → k ≠ g1 → k ≠ g2 → w'.heap[k]? = w.heap[k]?) := by
  have HV := Aside0.mk hv
  have HS := Aside0.mk hs
  clear hv hs
  have HT := Aside0.mk ht
  have HM := Aside0.mk hm
  have HFA := Aside0.mk hfa
  have HFB := Aside0.mk hfb
  clear ht hm hfa hfb
  have c0 := (blk_cell hg1 0).trans rfl
  have c1 := (blk_cell hg1 1).trans rfl
  have c2 := (blk_cell hg1 2).trans rfl
  have c3 := (blk_cell hg1 3).trans rfl
  have c4 := (blk_cell hg1 4).trans rfl
  have c5 := (blk_cell hg1 5).trans rfl
  have d0 := (blk_cell hg2 0).trans rfl
  have d1 := (blk_cell hg2 1).trans rfl
  have d2 := (blk_cell hg2 2).trans rfl
  have d3 := (blk_cell hg2 3).trans rfl
  have d4 := (blk_cell hg2 4).trans rfl
  have d5 := (blk_cell hg2 5).trans rfl
  have l1 := blk_lt hg1
  have l2 := blk_lt hg2
  have ne1 : g1 ≠ w.heap.size := by omega
  have ne2 : g2 ≠ w.heap.size := by omega
  have G1 := Aside0.mk hg1
  have G2 := Aside0.mk hg2
  have G3 := Aside0.mk hg3
  clear hg1 hg2 hg3
  go_enter Try.func41, Try.ntmps41
  go_wp2_with fail
  have hN := blk_new (w.alloc (.cells #[.int .i64 0, .int .i64 0, .int .i64 0, .int .i64 0, .bool false, .string (⟨#[]⟩ : ByteArray)] 25 (0, 0))) (.cells #[.int .i64 a.f0, .int .i64 a.f1, .int .i64 a.f2, .int .i64 a.f3, .bool a.f4, .string a.f5, .int .i64 b.f0, .int .i64 b.f1, .int .i64 b.f2, .int .i64 b.f3, .bool b.f4, .string b.f5] 25 (0, 0))
  rw [show (w.alloc (.cells #[.int .i64 0, .int .i64 0, .int .i64 0, .int .i64 0, .bool false, .string (⟨#[]⟩ : ByteArray)] 25 (0, 0))).heap.size = w.heap.size + 1 by simp] at hN
  have hO := blk_alloc (blk_new w (.cells #[.int .i64 0, .int .i64 0, .int .i64 0, .int .i64 0, .bool false, .string (⟨#[]⟩ : ByteArray)] 25 (0, 0))) (.cells #[.int .i64 a.f0, .int .i64 a.f1, .int .i64 a.f2, .int .i64 a.f3, .bool a.f4, .string a.f5, .int .i64 b.f0, .int .i64 b.f1, .int .i64 b.f2, .int .i64 b.f3, .bool b.f4, .string b.f5] 25 (0, 0))
  have hbW := ((Below.refl w.heap.size w).alloc (Nat.le_refl _) (.cells #[.int .i64 0, .int .i64 0, .int .i64 0, .int .i64 0, .bool false, .string (⟨#[]⟩ : ByteArray)] 25 (0, 0))).alloc (show w.heap.size ≤ _ by simp) (.cells #[.int .i64 a.f0, .int .i64 a.f1, .int .i64 a.f2, .int .i64 a.f3, .bool a.f4, .string a.f5, .int .i64 b.f0, .int .i64 b.f1, .int .i64 b.f2, .int .i64 b.f3, .bool b.f4, .string b.f5] 25 (0, 0))
  refine (valid_is (some ⟨w.heap.size + 1, 0, none⟩) 2 [a, b] _ (C25_two a b hN) (by simp) (by simp)).mono ?_
  rintro e w1 ⟨rfl, hb1⟩
  have HB := Aside0.mk (hbW.trans (hb1.mono hbW.size))
  have HO := Aside0.mk (blk_below hO hb1)
  clear hb1 hbW hN hO c0 c1 c2 c3 c4 c5 d0 d1 d2 d3 d4 d5
  rw [HV.out, endU, if_pos rfl]
  have m0 := (blk_cell (blk_below G3.out HB.out) 0).trans rfl
  go_wp2_with fail
  refine (sign_is op _).mono ?_
  rintro e w2 ⟨rfl, hb2⟩
  rw [HS.out]
  have HO := Aside0.mk (blk_below HO.out hb2)
  have HB := Aside0.mk (HB.out.trans (hb2.mono HB.out.size))
  clear hb2 m0
  rw [endS, if_pos (by decide)]
  have c0 := (blk_cell (blk_below G1.out HB.out) 0).trans rfl
  have c1 := (blk_cell (blk_below G1.out HB.out) 1).trans rfl
  have c2 := (blk_cell (blk_below G1.out HB.out) 2).trans rfl
  have c3 := (blk_cell (blk_below G1.out HB.out) 3).trans rfl
  have c4 := (blk_cell (blk_below G1.out HB.out) 4).trans rfl
  have c5 := (blk_cell (blk_below G1.out HB.out) 5).trans rfl
  have d0 := (blk_cell (blk_below G2.out HB.out) 0).trans rfl
  have d1 := (blk_cell (blk_below G2.out HB.out) 1).trans rfl
  have d2 := (blk_cell (blk_below G2.out HB.out) 2).trans rfl
  have d3 := (blk_cell (blk_below G2.out HB.out) 3).trans rfl
  have d4 := (blk_cell (blk_below G2.out HB.out) 4).trans rfl
  have d5 := (blk_cell (blk_below G2.out HB.out) 5).trans rfl
  go_wp2_with fail
  have HBw := Aside0.mk (show B ≤ w.heap.size by omega)
  have P1 := Aside0.mk (blk_drew (blk_below G1.out HB.out))
  have P2 := Aside0.mk (blk_drew (blk_below G2.out HB.out))
  have HO := Aside0.mk (blk_drew HO.out)
  have K0 := Aside0.mk (KB.drew (KB.of (g1 := g1) (g2 := g2) HB.out HBw.out))
  clear c0 c1 c2 c3 c4 c5 d0 d1 d2 d3 d4 d5 HB
  refine start_ (n := 6) (S := fun w' => w'.cell? ⟨g1, 0, none⟩ = some (.int .i64 a.f0) ∧ w'.cell? ⟨g1, 1, none⟩ = some (.int .i64 a.f1) ∧ w'.cell? ⟨g1, 2, none⟩ = some (.int .i64 a.f2) ∧ w'.cell? ⟨g1, 3, none⟩ = some (.int .i64 a.f3) ∧ w'.cell? ⟨g1, 4, none⟩ = some (.bool a.f4) ∧ w'.cell? ⟨g1, 5, none⟩ = some (.string a.f5) ∧ w'.cell? ⟨g2, 0, none⟩ = some (.int .i64 b.f0) ∧ w'.cell? ⟨g2, 1, none⟩ = some (.int .i64 b.f1) ∧ w'.cell? ⟨g2, 2, none⟩ = some (.int .i64 b.f2) ∧ w'.cell? ⟨g2, 3, none⟩ = some (.int .i64 b.f3) ∧ w'.cell? ⟨g2, 4, none⟩ = some (.bool b.f4) ∧ w'.cell? ⟨g2, 5, none⟩ = some (.string b.f5)) (ds := [4, 5]) #[false, false, false, false, false, false] (by kernel_rfl) rfl rfl ⟨(blk_cell P1.out 0).trans rfl, (blk_cell P1.out 1).trans rfl, (blk_cell P1.out 2).trans rfl, (blk_cell P1.out 3).trans rfl, (blk_cell P1.out 4).trans rfl, (blk_cell P1.out 5).trans rfl, (blk_cell P2.out 0).trans rfl, (blk_cell P2.out 1).trans rfl, (blk_cell P2.out 2).trans rfl, (blk_cell P2.out 3).trans rfl, (blk_cell P2.out 4).trans rfl, (blk_cell P2.out 5).trans rfl⟩ (fun hHeld => ?_)
  generalize w2.drew = w3 at P1 P2 HO K0 hHeld ⊢
  refine take_ (i := 0) (N := some 18) (v := ?_) (a' := ?_) #[true, false, false, false, false, false] rfl rfl (by kernel_rfl) (fun _ _ _ h => h) (Or.inl ⟨by rfl, ?_⟩) hHeld ?_ ?_
  rotate_left
  · rintro w' ⟨s0, s1, s2, s3, s4, s5, s6, s7, s8, s9, s10, s11⟩
    go_simp
    with_reducible rfl
  rotate_left
  · simp only [Act.put, List.setIfInBounds_toArray, List.set_cons_zero, List.set_cons_succ, i64_w, i32_w]
    rfl
  refine take_ (i := 2) (N := some 20) (v := ?_) (a' := ?_) #[true, false, true, false, false, false] rfl rfl (by kernel_rfl) (fun _ _ _ h => h) (Or.inl ⟨by rfl, ?_⟩) hHeld ?_ ?_
  rotate_left
  · rintro w' ⟨s0, s1, s2, s3, s4, s5, s6, s7, s8, s9, s10, s11⟩
    go_simp
    with_reducible rfl
  rotate_left
  · simp only [Act.put, List.setIfInBounds_toArray, List.set_cons_zero, List.set_cons_succ, i64_w, i32_w]
    rfl
  refine one_ (i := 1) (N := some 19) #[true, true, true, false, false, false] rfl rfl (by kernel_rfl) (by decide) (fun K' hK => ?_)
  refine goes_ Try.func44 (by kernel_rfl) rfl #[.agg #[.int .i64 a.f0, .int .i64 a.f1, .int .i64 a.f2, .int .i64 a.f3, .bool a.f4, .string a.f5]] (by rfl) rfl rfl (by (try simp only [List.map_toArray, List.map_cons, List.map_nil]); first | done | rfl | (simp only [List.length_drop, List.length_take]; rfl)) ?_
  with_reducible refine (rule_float.calls a.f0 a.f1 a.f2 a.f3 a.f4 a.f5 fa.f0 fa.f1 fa.f2 fa.f3 fa.f4 fa.f5 _ HFA.out).mono ?_
  rintro e w4 ⟨rfl, hb⟩
  refine ⟨_, rfl, ?_⟩
  have P1 := Aside0.mk (blk_below P1.out hb)
  have P2 := Aside0.mk (blk_below P2.out hb)
  have HO := Aside0.mk (blk_below HO.out hb)
  have K0 := Aside0.mk (K0.out.step HBw.out hb)
  clear hb
  refine hK.out _ _ ⟨(blk_cell P1.out 0).trans rfl, (blk_cell P1.out 1).trans rfl, (blk_cell P1.out 2).trans rfl, (blk_cell P1.out 3).trans rfl, (blk_cell P1.out 4).trans rfl, (blk_cell P1.out 5).trans rfl, (blk_cell P2.out 0).trans rfl, (blk_cell P2.out 1).trans rfl, (blk_cell P2.out 2).trans rfl, (blk_cell P2.out 3).trans rfl, (blk_cell P2.out 4).trans rfl, (blk_cell P2.out 5).trans rfl⟩ (fun hHeld => ?_)
  clear hK K'
  refine norm_ (a' := ?_) ?_ ?_
  rotate_left
  · show Act.put _ (some 19) _ = _
    simp only [Act.put, List.setIfInBounds_toArray, List.set_cons_zero, List.set_cons_succ, i64_w, i32_w]
    rfl
  refine one_ (i := 3) (N := some 21) #[true, true, true, true, false, false] rfl rfl (by kernel_rfl) (by decide) (fun K' hK => ?_)
  refine goes_ Try.func44 (by kernel_rfl) rfl #[.agg #[.int .i64 b.f0, .int .i64 b.f1, .int .i64 b.f2, .int .i64 b.f3, .bool b.f4, .string b.f5]] (by rfl) rfl rfl (by (try simp only [List.map_toArray, List.map_cons, List.map_nil]); first | done | rfl | (simp only [List.length_drop, List.length_take]; rfl)) ?_
  with_reducible refine (rule_float.calls b.f0 b.f1 b.f2 b.f3 b.f4 b.f5 fb.f0 fb.f1 fb.f2 fb.f3 fb.f4 fb.f5 _ HFB.out).mono ?_
  rintro e w5 ⟨rfl, hb⟩
  refine ⟨_, rfl, ?_⟩
  have P1 := Aside0.mk (blk_below P1.out hb)
  have P2 := Aside0.mk (blk_below P2.out hb)
  have HO := Aside0.mk (blk_below HO.out hb)
  have K0 := Aside0.mk (K0.out.step HBw.out hb)
  clear hb
  refine hK.out _ _ ⟨(blk_cell P1.out 0).trans rfl, (blk_cell P1.out 1).trans rfl, (blk_cell P1.out 2).trans rfl, (blk_cell P1.out 3).trans rfl, (blk_cell P1.out 4).trans rfl, (blk_cell P1.out 5).trans rfl, (blk_cell P2.out 0).trans rfl, (blk_cell P2.out 1).trans rfl, (blk_cell P2.out 2).trans rfl, (blk_cell P2.out 3).trans rfl, (blk_cell P2.out 4).trans rfl, (blk_cell P2.out 5).trans rfl⟩ (fun hHeld => ?_)
  clear hK K'
  refine norm_ (a' := ?_) ?_ ?_
  rotate_left
  · show Act.put _ (some 21) _ = _
    simp only [Act.put, List.setIfInBounds_toArray, List.set_cons_zero, List.set_cons_succ, i64_w, i32_w]
    rfl
  clear hHeld
  refine last_ (i := 4) (N := none) #[true, true, true, true, true, false] rfl rfl (by kernel_rfl) (by decide) (fun K' hK => ?_)
  have z0 := (blk_cell P1.out 0).trans rfl
  have z1 := (blk_cell P1.out 1).trans rfl
  have z2 := (blk_cell P1.out 2).trans rfl
  have z3 := (blk_cell P1.out 3).trans rfl
  have z4 := (blk_cell P1.out 4).trans rfl
  have z5 := (blk_cell P1.out 5).trans rfl
  have y0 := blk_frozen P1.out 0
  have y1 := blk_frozen P1.out 1
  have y2 := blk_frozen P1.out 2
  have y3 := blk_frozen P1.out 3
  have y4 := blk_frozen P1.out 4
  have y5 := blk_frozen P1.out 5
  refine skip_ (w1 := ?_) (by rfl) rfl ?_ ?_
  rotate_left
  · go_simp
    rfl
  refine hK.out _ _ ?_
  clear hK K'
  have hp := (blk_put (cs := #[.int .i64 fa.f0, .int .i64 fa.f1, .int .i64 fa.f2, .int .i64 fa.f3, .bool fa.f4, .string a.f5]) (blk_put (cs := #[.int .i64 fa.f0, .int .i64 fa.f1, .int .i64 fa.f2, .int .i64 fa.f3, .bool a.f4, .string a.f5]) (blk_put (cs := #[.int .i64 fa.f0, .int .i64 fa.f1, .int .i64 fa.f2, .int .i64 a.f3, .bool a.f4, .string a.f5]) (blk_put (cs := #[.int .i64 fa.f0, .int .i64 fa.f1, .int .i64 a.f2, .int .i64 a.f3, .bool a.f4, .string a.f5]) (blk_put (cs := #[.int .i64 fa.f0, .int .i64 a.f1, .int .i64 a.f2, .int .i64 a.f3, .bool a.f4, .string a.f5]) (blk_put (cs := #[.int .i64 a.f0, .int .i64 a.f1, .int .i64 a.f2, .int .i64 a.f3, .bool a.f4, .string a.f5]) P1.out 0 (.int .i64 fa.f0) rfl) 1 (.int .i64 fa.f1) rfl) 2 (.int .i64 fa.f2) rfl) 3 (.int .i64 fa.f3) rfl) 4 (.bool fa.f4) rfl) 5 (.string fa.f5) rfl)
  have hq := (blk_far (blk_far (blk_far (blk_far (blk_far (blk_far P2.out (p := ⟨g1, 0, none⟩) (by simpa using hne.symm) (.int .i64 fa.f0)) (p := ⟨g1, 1, none⟩) (by simpa using hne.symm) (.int .i64 fa.f1)) (p := ⟨g1, 2, none⟩) (by simpa using hne.symm) (.int .i64 fa.f2)) (p := ⟨g1, 3, none⟩) (by simpa using hne.symm) (.int .i64 fa.f3)) (p := ⟨g1, 4, none⟩) (by simpa using hne.symm) (.bool fa.f4)) (p := ⟨g1, 5, none⟩) (by simpa using hne.symm) (.string fa.f5))
  have ho := (blk_far (blk_far (blk_far (blk_far (blk_far (blk_far HO.out (p := ⟨g1, 0, none⟩) (by simpa using ne1.symm) (.int .i64 fa.f0)) (p := ⟨g1, 1, none⟩) (by simpa using ne1.symm) (.int .i64 fa.f1)) (p := ⟨g1, 2, none⟩) (by simpa using ne1.symm) (.int .i64 fa.f2)) (p := ⟨g1, 3, none⟩) (by simpa using ne1.symm) (.int .i64 fa.f3)) (p := ⟨g1, 4, none⟩) (by simpa using ne1.symm) (.bool fa.f4)) (p := ⟨g1, 5, none⟩) (by simpa using ne1.symm) (.string fa.f5))
  have hk := (KB.set (KB.set (KB.set (KB.set (KB.set (KB.set K0.out (p := ⟨g1, 0, none⟩) (by simpa using hB1) (.inl rfl) (.int .i64 fa.f0)) (p := ⟨g1, 1, none⟩) (by simpa using hB1) (.inl rfl) (.int .i64 fa.f1)) (p := ⟨g1, 2, none⟩) (by simpa using hB1) (.inl rfl) (.int .i64 fa.f2)) (p := ⟨g1, 3, none⟩) (by simpa using hB1) (.inl rfl) (.int .i64 fa.f3)) (p := ⟨g1, 4, none⟩) (by simpa using hB1) (.inl rfl) (.bool fa.f4)) (p := ⟨g1, 5, none⟩) (by simpa using hB1) (.inl rfl) (.string fa.f5))
  clear z0 z1 z2 z3 z4 z5 y0 y1 y2 y3 y4 y5
  generalize ((((((w5.setCell ⟨g1, 0, none⟩ (.int .i64 fa.f0)).setCell ⟨g1, 1, none⟩ (.int .i64 fa.f1)).setCell ⟨g1, 2, none⟩ (.int .i64 fa.f2)).setCell ⟨g1, 3, none⟩ (.int .i64 fa.f3)).setCell ⟨g1, 4, none⟩ (.bool fa.f4)).setCell ⟨g1, 5, none⟩ (.string fa.f5)) = w6 at *
  have P1 := Aside0.mk hp
  have P2 := Aside0.mk hq
  have HO := Aside0.mk ho
  have K0 := Aside0.mk hk
  clear hp hq ho hk
  refine last_ (i := 5) (N := none) #[true, true, true, true, true, true] rfl rfl (by kernel_rfl) (by decide) (fun K' hK => ?_)
  have z0 := (blk_cell P2.out 0).trans rfl
  have z1 := (blk_cell P2.out 1).trans rfl
  have z2 := (blk_cell P2.out 2).trans rfl
  have z3 := (blk_cell P2.out 3).trans rfl
  have z4 := (blk_cell P2.out 4).trans rfl
  have z5 := (blk_cell P2.out 5).trans rfl
  have y0 := blk_frozen P2.out 0
  have y1 := blk_frozen P2.out 1
  have y2 := blk_frozen P2.out 2
  have y3 := blk_frozen P2.out 3
  have y4 := blk_frozen P2.out 4
  have y5 := blk_frozen P2.out 5
  refine skip_ (w1 := ?_) (by rfl) rfl ?_ ?_
  rotate_left
  · go_simp
    rfl
  refine hK.out _ _ ?_
  clear hK K'
  have hp := (blk_put (cs := #[.int .i64 fb.f0, .int .i64 fb.f1, .int .i64 fb.f2, .int .i64 fb.f3, .bool fb.f4, .string b.f5]) (blk_put (cs := #[.int .i64 fb.f0, .int .i64 fb.f1, .int .i64 fb.f2, .int .i64 fb.f3, .bool b.f4, .string b.f5]) (blk_put (cs := #[.int .i64 fb.f0, .int .i64 fb.f1, .int .i64 fb.f2, .int .i64 b.f3, .bool b.f4, .string b.f5]) (blk_put (cs := #[.int .i64 fb.f0, .int .i64 fb.f1, .int .i64 b.f2, .int .i64 b.f3, .bool b.f4, .string b.f5]) (blk_put (cs := #[.int .i64 fb.f0, .int .i64 b.f1, .int .i64 b.f2, .int .i64 b.f3, .bool b.f4, .string b.f5]) (blk_put (cs := #[.int .i64 b.f0, .int .i64 b.f1, .int .i64 b.f2, .int .i64 b.f3, .bool b.f4, .string b.f5]) P2.out 0 (.int .i64 fb.f0) rfl) 1 (.int .i64 fb.f1) rfl) 2 (.int .i64 fb.f2) rfl) 3 (.int .i64 fb.f3) rfl) 4 (.bool fb.f4) rfl) 5 (.string fb.f5) rfl)
  have hq := (blk_far (blk_far (blk_far (blk_far (blk_far (blk_far P1.out (p := ⟨g2, 0, none⟩) (by simpa using hne) (.int .i64 fb.f0)) (p := ⟨g2, 1, none⟩) (by simpa using hne) (.int .i64 fb.f1)) (p := ⟨g2, 2, none⟩) (by simpa using hne) (.int .i64 fb.f2)) (p := ⟨g2, 3, none⟩) (by simpa using hne) (.int .i64 fb.f3)) (p := ⟨g2, 4, none⟩) (by simpa using hne) (.bool fb.f4)) (p := ⟨g2, 5, none⟩) (by simpa using hne) (.string fb.f5))
  have ho := (blk_far (blk_far (blk_far (blk_far (blk_far (blk_far HO.out (p := ⟨g2, 0, none⟩) (by simpa using ne2.symm) (.int .i64 fb.f0)) (p := ⟨g2, 1, none⟩) (by simpa using ne2.symm) (.int .i64 fb.f1)) (p := ⟨g2, 2, none⟩) (by simpa using ne2.symm) (.int .i64 fb.f2)) (p := ⟨g2, 3, none⟩) (by simpa using ne2.symm) (.int .i64 fb.f3)) (p := ⟨g2, 4, none⟩) (by simpa using ne2.symm) (.bool fb.f4)) (p := ⟨g2, 5, none⟩) (by simpa using ne2.symm) (.string fb.f5))
  have hk := (KB.set (KB.set (KB.set (KB.set (KB.set (KB.set K0.out (p := ⟨g2, 0, none⟩) (by simpa using hB2) (.inr (.inl rfl)) (.int .i64 fb.f0)) (p := ⟨g2, 1, none⟩) (by simpa using hB2) (.inr (.inl rfl)) (.int .i64 fb.f1)) (p := ⟨g2, 2, none⟩) (by simpa using hB2) (.inr (.inl rfl)) (.int .i64 fb.f2)) (p := ⟨g2, 3, none⟩) (by simpa using hB2) (.inr (.inl rfl)) (.int .i64 fb.f3)) (p := ⟨g2, 4, none⟩) (by simpa using hB2) (.inr (.inl rfl)) (.bool fb.f4)) (p := ⟨g2, 5, none⟩) (by simpa using hB2) (.inr (.inl rfl)) (.string fb.f5))
  clear z0 z1 z2 z3 z4 z5 y0 y1 y2 y3 y4 y5
  generalize ((((((w6.setCell ⟨g2, 0, none⟩ (.int .i64 fb.f0)).setCell ⟨g2, 1, none⟩ (.int .i64 fb.f1)).setCell ⟨g2, 2, none⟩ (.int .i64 fb.f2)).setCell ⟨g2, 3, none⟩ (.int .i64 fb.f3)).setCell ⟨g2, 4, none⟩ (.bool fb.f4)).setCell ⟨g2, 5, none⟩ (.string fb.f5)) = w7 at *
  have P2 := Aside0.mk hp
  have P1 := Aside0.mk hq
  have HO := Aside0.mk ho
  have K0 := Aside0.mk hk
  clear hp hq ho hk
  refine done_ (by kernel_rfl) ?_
  have HSz := Aside0.mk K0.out.low.size
  have c0 := (blk_cell P1.out 0).trans rfl
  have c1 := (blk_cell P1.out 1).trans rfl
  have c2 := (blk_cell P1.out 2).trans rfl
  have c3 := (blk_cell P1.out 3).trans rfl
  have c4 := (blk_cell P1.out 4).trans rfl
  have c5 := (blk_cell P1.out 5).trans rfl
  have d0 := (blk_cell P2.out 0).trans rfl
  have d1 := (blk_cell P2.out 1).trans rfl
  have d2 := (blk_cell P2.out 2).trans rfl
  have d3 := (blk_cell P2.out 3).trans rfl
  have d4 := (blk_cell P2.out 4).trans rfl
  have d5 := (blk_cell P2.out 5).trans rfl
  go_wp2_with fail
  refine (rule_together.calls _ _ _ _ _ _ _ _ _ _ _ _ _ _ _ _ _ _ _ _ _ _ _ _ _ _ _ HT.out).mono ?_
  rintro e w8 ⟨rfl, hb3⟩
  have HO := Aside0.mk (blk_below HO.out hb3)
  have K0 := Aside0.mk (K0.out.step HBw.out hb3)
  have HSz := Aside0.mk K0.out.low.size
  clear hb3 c0 c1 c2 c3 c4 c5 d0 d1 d2 d3 d4 d5
  have o0 := (blk_cell HO.out 0).trans rfl
  have o1 := (blk_cell HO.out 1).trans rfl
  have o2 := (blk_cell HO.out 2).trans rfl
  have o3 := (blk_cell HO.out 3).trans rfl
  have o4 := (blk_cell HO.out 4).trans rfl
  have o5 := (blk_cell HO.out 5).trans rfl
  have f0 := blk_frozen HO.out 0
  have f1 := blk_frozen HO.out 1
  have f2 := blk_frozen HO.out 2
  have f3 := blk_frozen HO.out 3
  have f4 := blk_frozen HO.out 4
  have f5 := blk_frozen HO.out 5
  have hmm : (if x.f1 < y.f1 then y.f1 else x.f1) = m := HM.out
  have lO := blk_lt HO.out
  have e1 : w.heap.size ≠ w8.heap.size := by omega
  have e2 : w.heap.size ≠ w8.heap.size + 1 := by omega
  have e3 : w8.heap.size ≠ w.heap.size := by omega
  have e4 : w8.heap.size + 1 ≠ w.heap.size := by omega
  have lZ := HSz.out
  go_wp2_with fail
  have hO := blk_alloc (blk_alloc (blk_put (cs := #[.int .i64 3, .int .i64 m, .int .i64 0, .int .i64 0, .bool false, .string (⟨#[]⟩ : ByteArray)]) (blk_put (cs := #[.int .i64 3, .int .i64 m, .int .i64 0, .int .i64 0, .bool false, .string (⟨#[]⟩ : ByteArray)]) (blk_put (cs := #[.int .i64 3, .int .i64 m, .int .i64 0, .int .i64 0, .bool false, .string (⟨#[]⟩ : ByteArray)]) (blk_put (cs := #[.int .i64 3, .int .i64 m, .int .i64 0, .int .i64 0, .bool false, .string (⟨#[]⟩ : ByteArray)]) (blk_put (cs := #[.int .i64 3, .int .i64 0, .int .i64 0, .int .i64 0, .bool false, .string (⟨#[]⟩ : ByteArray)]) (blk_put (cs := #[.int .i64 0, .int .i64 0, .int .i64 0, .int .i64 0, .bool false, .string (⟨#[]⟩ : ByteArray)]) HO.out 0 (.int .i64 3) rfl) 1 (.int .i64 m) rfl) 2 (.int .i64 0) rfl) 3 (.int .i64 0) rfl) 4 (.bool false) rfl) 5 (.string (⟨#[]⟩ : ByteArray)) rfl) (.cells #[.int .i64 x.f0, .int .i64 x.f1, .int .i64 x.f2, .int .i64 x.f3, .bool x.f4, .string x.f5] 25 (0, 0))) (.cells #[.int .i64 y.f0, .int .i64 y.f1, .int .i64 y.f2, .int .i64 y.f3, .bool y.f4, .string y.f5] 25 (0, 0))
  have hB := KB.alloc (KB.alloc (KB.set (KB.set (KB.set (KB.set (KB.set (KB.set K0.out (p := ⟨w.heap.size, 0, none⟩) HBw.out (.inr (.inr (Nat.le_refl _))) (.int .i64 3)) (p := ⟨w.heap.size, 1, none⟩) HBw.out (.inr (.inr (Nat.le_refl _))) (.int .i64 m)) (p := ⟨w.heap.size, 2, none⟩) HBw.out (.inr (.inr (Nat.le_refl _))) (.int .i64 0)) (p := ⟨w.heap.size, 3, none⟩) HBw.out (.inr (.inr (Nat.le_refl _))) (.int .i64 0)) (p := ⟨w.heap.size, 4, none⟩) HBw.out (.inr (.inr (Nat.le_refl _))) (.bool false)) (p := ⟨w.heap.size, 5, none⟩) HBw.out (.inr (.inr (Nat.le_refl _))) (.string (⟨#[]⟩ : ByteArray))) HBw.out (.cells #[.int .i64 x.f0, .int .i64 x.f1, .int .i64 x.f2, .int .i64 x.f3, .bool x.f4, .string x.f5] 25 (0, 0))) HBw.out (.cells #[.int .i64 y.f0, .int .i64 y.f1, .int .i64 y.f2, .int .i64 y.f3, .bool y.f4, .string y.f5] 25 (0, 0))
  clear o0 o1 o2 o3 o4 o5 f0 f1 f2 f3 f4 f5 e1 e2 e3 e4 lO hmm
  generalize (((((((((w8.setCell ⟨w.heap.size, 0, none⟩ (.int .i64 3)).setCell ⟨w.heap.size, 1, none⟩ (.int .i64 m)).setCell ⟨w.heap.size, 2, none⟩ (.int .i64 0)).setCell ⟨w.heap.size, 3, none⟩ (.int .i64 0)).setCell ⟨w.heap.size, 4, none⟩ (.bool false)).setCell ⟨w.heap.size, 5, none⟩ (.string (⟨#[]⟩ : ByteArray)))).alloc (.cells #[.int .i64 x.f0, .int .i64 x.f1, .int .i64 x.f2, .int .i64 x.f3, .bool x.f4, .string x.f5] 25 (0, 0))).alloc (.cells #[.int .i64 y.f0, .int .i64 y.f1, .int .i64 y.f2, .int .i64 y.f3, .bool y.f4, .string y.f5] 25 (0, 0))) = W at *
  have o0 := (blk_cell hO 0).trans rfl
  have o1 := (blk_cell hO 1).trans rfl
  have o2 := (blk_cell hO 2).trans rfl
  have o3 := (blk_cell hO 3).trans rfl
  have o4 := (blk_cell hO 4).trans rfl
  have o5 := (blk_cell hO 5).trans rfl
  refine bodyPost_ret (v := .agg #[.int .i64 3, .int .i64 m, .int .i64 0, .int .i64 0, .bool false, .string (⟨#[]⟩ : ByteArray)]) (by simp [results, Try.results41, go_sem, o0, o1, o2, o3, o4, o5]) rfl ⟨rfl, ?_⟩
  exact ⟨hB.low, hB.kept⟩
end Go.Proofs.Ytemlbikangbomaa.P

-- from the text Ht
namespace Go.Proofs.Ytemlbikangbomaa.P
open Go.RowKit Go.Proofs.YtemlbikangbomaaW.PrintWords Go.Proofs.YtemlbikangbomaaW.PrintLast Go.Proofs.YtemlbikangbomaaW.PrintMore
set_option linter.unusedVariables false
set_option linter.unusedSimpArgs false
theorem KB.trans {B g1 g2 : Nat} {w w1 w2 : World} (h : KB B g1 g2 w w1) (h2 : KB B g1 g2 w1 w2) : KB B g1 g2 w w2 :=
  ⟨h.low.trans h2.low, fun k hk n1 n2 => (h2.kept k (Nat.lt_of_lt_of_le hk h.low.size) n1 n2).trans (h.kept k hk n1 n2)⟩
set_option maxRecDepth 100000 in
set_option maxHeartbeats 2000000 in
theorem safe_keep (fn : FuncId) (cap : Array Value) (t : S25) (w : World) (B g1 g2 : Nat) (hB0 : B ≤ w.heap.size) (hg1 : g1 < w.heap.size) (hg2 : g2 < w.heap.size)
    (hent : ∀ w, (callFunc fn cap).run Try.prog w = .ok (.enter fn cap) w) (hF : ∀ w', Below w.heap.size w w' → Calls Try.prog fn cap w' fun r w'' => r = .returned (ty25 t) ∧ KB B g1 g2 w' w'') :
    Calls Try.prog 40 #[.func (.func fn) #[] cap] w fun r w' => r = .returned (.tuple #[ty25 t, .int .i64 0]) ∧ KB B g1 g2 w w' := by
  have hmf : ∀ (fn : Fn) (first cap : Array Value) (w : World), (Instr.makeFunc fn first cap).run Try.prog w = .ok (.func fn first cap) w := fun _ _ _ _ => rfl
  have HF := Aside0.mk hF
  have HB0 := Aside0.mk hB0
  have HG := Aside0.mk (And.intro hg1 hg2)
  clear hF hB0 hg1 hg2
  unfold ty25 at *
  go_enter_defers Try.func40, Try.ntmps40
  go_wp2_with fail
  have hO := blk_alloc (blk_new w (.cells #[.int .i64 0, .int .i64 0, .int .i64 0, .int .i64 0, .bool false, .string (⟨#[]⟩ : ByteArray)] 25 (0, 0))) (.cells #[.int .i64 0] 28 (0, 0))
  have hE := blk_new (w.alloc (.cells #[.int .i64 0, .int .i64 0, .int .i64 0, .int .i64 0, .bool false, .string (⟨#[]⟩ : ByteArray)] 25 (0, 0))) (.cells #[.int .i64 0] 28 (0, 0))
  rw [show (w.alloc (.cells #[.int .i64 0, .int .i64 0, .int .i64 0, .int .i64 0, .bool false, .string (⟨#[]⟩ : ByteArray)] 25 (0, 0))).heap.size = w.heap.size + 1 by simp] at hE
  have hbW := ((Below.refl w.heap.size w).alloc (Nat.le_refl _) (.cells #[.int .i64 0, .int .i64 0, .int .i64 0, .int .i64 0, .bool false, .string (⟨#[]⟩ : ByteArray)] 25 (0, 0))).alloc (show w.heap.size ≤ _ by simp) (.cells #[.int .i64 0] 28 (0, 0))
  refine (HF.out _ hbW).mono ?_
  rintro e w1 ⟨rfl, hb1⟩
  have HO := Aside0.mk ((hb1.kept _ (blk_lt hO) (by have := HG.out.1; omega) (by have := HG.out.2; omega)).trans hO)
  have HE := Aside0.mk ((hb1.kept _ (blk_lt hE) (by have := HG.out.1; omega) (by have := HG.out.2; omega)).trans hE)
  have HB := Aside0.mk ((KB.of (g1 := g1) (g2 := g2) hbW HB0.out).trans hb1)
  clear hO hE hbW hb1 HF
  have o0 := (blk_cell HO.out 0).trans rfl
  have o1 := (blk_cell HO.out 1).trans rfl
  have o2 := (blk_cell HO.out 2).trans rfl
  have o3 := (blk_cell HO.out 3).trans rfl
  have o4 := (blk_cell HO.out 4).trans rfl
  have o5 := (blk_cell HO.out 5).trans rfl
  have e0 := (blk_cell HE.out 0).trans rfl
  have f0 := blk_frozen HO.out 0
  have f1 := blk_frozen HO.out 1
  have f2 := blk_frozen HO.out 2
  have f3 := blk_frozen HO.out 3
  have f4 := blk_frozen HO.out 4
  have f5 := blk_frozen HO.out 5
  have g0 := blk_frozen HE.out 0
  go_wp2_with fail
  have hO := blk_far (blk_put (cs := #[.int .i64 t.f0, .int .i64 t.f1, .int .i64 t.f2, .int .i64 t.f3, .bool t.f4, .string (⟨#[]⟩ : ByteArray)]) (blk_put (cs := #[.int .i64 t.f0, .int .i64 t.f1, .int .i64 t.f2, .int .i64 t.f3, .bool false, .string (⟨#[]⟩ : ByteArray)]) (blk_put (cs := #[.int .i64 t.f0, .int .i64 t.f1, .int .i64 t.f2, .int .i64 0, .bool false, .string (⟨#[]⟩ : ByteArray)]) (blk_put (cs := #[.int .i64 t.f0, .int .i64 t.f1, .int .i64 0, .int .i64 0, .bool false, .string (⟨#[]⟩ : ByteArray)]) (blk_put (cs := #[.int .i64 t.f0, .int .i64 0, .int .i64 0, .int .i64 0, .bool false, .string (⟨#[]⟩ : ByteArray)]) (blk_put (cs := #[.int .i64 0, .int .i64 0, .int .i64 0, .int .i64 0, .bool false, .string (⟨#[]⟩ : ByteArray)]) (HO.out) 0 (.int .i64 t.f0) rfl) 1 (.int .i64 t.f1) rfl) 2 (.int .i64 t.f2) rfl) 3 (.int .i64 t.f3) rfl) 4 (.bool t.f4) rfl) 5 (.string t.f5) rfl) (p := ⟨w.heap.size + 1, 0, none⟩) (by simp) (.int .i64 0)
  have hE := blk_put (cs := #[.int .i64 0]) (blk_far (blk_far (blk_far (blk_far (blk_far (blk_far (HE.out) (p := ⟨w.heap.size, 0, none⟩) (by simp) (.int .i64 t.f0)) (p := ⟨w.heap.size, 1, none⟩) (by simp) (.int .i64 t.f1)) (p := ⟨w.heap.size, 2, none⟩) (by simp) (.int .i64 t.f2)) (p := ⟨w.heap.size, 3, none⟩) (by simp) (.int .i64 t.f3)) (p := ⟨w.heap.size, 4, none⟩) (by simp) (.bool t.f4)) (p := ⟨w.heap.size, 5, none⟩) (by simp) (.string t.f5)) 0 (.int .i64 0) rfl
  have hB := (KB.set (KB.set (KB.set (KB.set (KB.set (KB.set (KB.set (HB.out) (p := ⟨w.heap.size, 0, none⟩) HB0.out (.inr (.inr (Nat.le_refl _))) (.int .i64 t.f0)) (p := ⟨w.heap.size, 1, none⟩) HB0.out (.inr (.inr (Nat.le_refl _))) (.int .i64 t.f1)) (p := ⟨w.heap.size, 2, none⟩) HB0.out (.inr (.inr (Nat.le_refl _))) (.int .i64 t.f2)) (p := ⟨w.heap.size, 3, none⟩) HB0.out (.inr (.inr (Nat.le_refl _))) (.int .i64 t.f3)) (p := ⟨w.heap.size, 4, none⟩) HB0.out (.inr (.inr (Nat.le_refl _))) (.bool t.f4)) (p := ⟨w.heap.size, 5, none⟩) HB0.out (.inr (.inr (Nat.le_refl _))) (.string t.f5)) (p := ⟨w.heap.size + 1, 0, none⟩) (Nat.le_succ_of_le HB0.out) (.inr (.inr (Nat.le_succ _))) (.int .i64 0))
  clear o0 o1 o2 o3 o4 o5 e0 f0 f1 f2 f3 f4 f5 g0
  generalize (((((((w1.setCell ⟨w.heap.size, 0, none⟩ (.int .i64 t.f0)).setCell ⟨w.heap.size, 1, none⟩ (.int .i64 t.f1)).setCell ⟨w.heap.size, 2, none⟩ (.int .i64 t.f2)).setCell ⟨w.heap.size, 3, none⟩ (.int .i64 t.f3)).setCell ⟨w.heap.size, 4, none⟩ (.bool t.f4)).setCell ⟨w.heap.size, 5, none⟩ (.string t.f5)).setCell ⟨w.heap.size + 1, 0, none⟩ (.int .i64 0)) = W at *
  have o0 := (blk_cell hO 0).trans rfl
  have o1 := (blk_cell hO 1).trans rfl
  have o2 := (blk_cell hO 2).trans rfl
  have o3 := (blk_cell hO 3).trans rfl
  have o4 := (blk_cell hO 4).trans rfl
  have o5 := (blk_cell hO 5).trans rfl
  have e0 := (blk_cell hE 0).trans rfl
  refine leaves_cons (f := 72) (args := #[.pointer (some ⟨w.heap.size, 0, none⟩), .pointer (some ⟨w.heap.size + 1, 0, none⟩)]) (by simp) (by simp [go_sem]) ?_
  refine (catch_idle _ _ _).mono ?_
  rintro e u' w'' ⟨rfl, rfl, rfl⟩
  simp [Leaves, settle, results, Try.results40, go_sem, o0, o1, o2, o3, o4, o5, e0]
  exact hB
set_option maxRecDepth 100000 in
set_option maxHeartbeats 4000000 in
theorem Result_keep (op : ByteArray) (a b u : S25) (w : World)
    (hF : ∀ (g1 g2 g3 : Nat) (w' : World), Below w.heap.size w w' → g1 ≠ g2 → w.heap.size ≤ g1 → w.heap.size ≤ g2 → w'.heap[g1]? = some (.cells #[.int .i64 a.f0, .int .i64 a.f1, .int .i64 a.f2, .int .i64 a.f3, .bool a.f4, .string a.f5] 25 (0, 0)) → w'.heap[g2]? = some (.cells #[.int .i64 b.f0, .int .i64 b.f1, .int .i64 b.f2, .int .i64 b.f3, .bool b.f4, .string b.f5] 25 (0, 0)) → w'.heap[g3]? = some (.cells #[.string op] 9 (0, 0)) →
      Calls Try.prog 41 #[.pointer (some ⟨g1, 0, none⟩), .pointer (some ⟨g2, 0, none⟩), .pointer (some ⟨g3, 0, none⟩)] w' fun r w'' => r = .returned (ty25 u) ∧ KB w.heap.size g1 g2 w' w'') :
    Calls Try.prog 9 #[.string op, .agg #[.int .i64 a.f0, .int .i64 a.f1, .int .i64 a.f2, .int .i64 a.f3, .bool a.f4, .string a.f5], .agg #[.int .i64 b.f0, .int .i64 b.f1, .int .i64 b.f2, .int .i64 b.f3, .bool b.f4, .string b.f5]] w fun r w' => r = .returned (.tuple #[.agg #[.int .i64 u.f0, .int .i64 u.f1, .int .i64 u.f2, .int .i64 u.f3, .bool u.f4, .string u.f5], .int .i64 0]) ∧ Below w.heap.size w w' := by
  have hmf : ∀ (fn : Fn) (first cap : Array Value) (w : World), (Instr.makeFunc fn first cap).run Try.prog w = .ok (.func fn first cap) w := fun _ _ _ _ => rfl
  have HF := Aside0.mk hF
  clear hF
  go_enter Try.func9, Try.ntmps9
  go_wp2_with fail
  have hP := blk_new w (.cells #[.string op] 9 (0, 0))
  replace hP := blk_alloc hP (.cells #[.int .i64 a.f0, .int .i64 a.f1, .int .i64 a.f2, .int .i64 a.f3, .bool a.f4, .string a.f5] 25 (0, 0))
  replace hP := blk_alloc hP (.cells #[.int .i64 b.f0, .int .i64 b.f1, .int .i64 b.f2, .int .i64 b.f3, .bool b.f4, .string b.f5] 25 (0, 0))
  replace hP := blk_alloc hP (.cells #[.int .i64 0, .int .i64 0, .int .i64 0, .int .i64 0, .bool false, .string (⟨#[]⟩ : ByteArray)] 25 (0, 0))
  have hA := blk_new (w.alloc (.cells #[.string op] 9 (0, 0))) (.cells #[.int .i64 a.f0, .int .i64 a.f1, .int .i64 a.f2, .int .i64 a.f3, .bool a.f4, .string a.f5] 25 (0, 0))
  rw [show (w.alloc (.cells #[.string op] 9 (0, 0))).heap.size = w.heap.size + 1 by simp] at hA
  replace hA := blk_alloc hA (.cells #[.int .i64 b.f0, .int .i64 b.f1, .int .i64 b.f2, .int .i64 b.f3, .bool b.f4, .string b.f5] 25 (0, 0))
  replace hA := blk_alloc hA (.cells #[.int .i64 0, .int .i64 0, .int .i64 0, .int .i64 0, .bool false, .string (⟨#[]⟩ : ByteArray)] 25 (0, 0))
  have hBb := blk_new ((w.alloc (.cells #[.string op] 9 (0, 0))).alloc (.cells #[.int .i64 a.f0, .int .i64 a.f1, .int .i64 a.f2, .int .i64 a.f3, .bool a.f4, .string a.f5] 25 (0, 0))) (.cells #[.int .i64 b.f0, .int .i64 b.f1, .int .i64 b.f2, .int .i64 b.f3, .bool b.f4, .string b.f5] 25 (0, 0))
  rw [show ((w.alloc (.cells #[.string op] 9 (0, 0))).alloc (.cells #[.int .i64 a.f0, .int .i64 a.f1, .int .i64 a.f2, .int .i64 a.f3, .bool a.f4, .string a.f5] 25 (0, 0))).heap.size = w.heap.size + 1 + 1 by simp] at hBb
  replace hBb := blk_alloc hBb (.cells #[.int .i64 0, .int .i64 0, .int .i64 0, .int .i64 0, .bool false, .string (⟨#[]⟩ : ByteArray)] 25 (0, 0))
  have hO := blk_new (((w.alloc (.cells #[.string op] 9 (0, 0))).alloc (.cells #[.int .i64 a.f0, .int .i64 a.f1, .int .i64 a.f2, .int .i64 a.f3, .bool a.f4, .string a.f5] 25 (0, 0))).alloc (.cells #[.int .i64 b.f0, .int .i64 b.f1, .int .i64 b.f2, .int .i64 b.f3, .bool b.f4, .string b.f5] 25 (0, 0))) (.cells #[.int .i64 0, .int .i64 0, .int .i64 0, .int .i64 0, .bool false, .string (⟨#[]⟩ : ByteArray)] 25 (0, 0))
  rw [show (((w.alloc (.cells #[.string op] 9 (0, 0))).alloc (.cells #[.int .i64 a.f0, .int .i64 a.f1, .int .i64 a.f2, .int .i64 a.f3, .bool a.f4, .string a.f5] 25 (0, 0))).alloc (.cells #[.int .i64 b.f0, .int .i64 b.f1, .int .i64 b.f2, .int .i64 b.f3, .bool b.f4, .string b.f5] 25 (0, 0))).heap.size = w.heap.size + 1 + 1 + 1 by simp] at hO
  have hbW := (((((Below.refl w.heap.size w).alloc (show w.heap.size ≤ _ by first | exact Nat.le_refl _ | (simp; done) | (simp; omega)) (.cells #[.string op] 9 (0, 0))).alloc (show w.heap.size ≤ _ by first | exact Nat.le_refl _ | (simp; done) | (simp; omega)) (.cells #[.int .i64 a.f0, .int .i64 a.f1, .int .i64 a.f2, .int .i64 a.f3, .bool a.f4, .string a.f5] 25 (0, 0))).alloc (show w.heap.size ≤ _ by first | exact Nat.le_refl _ | (simp; done) | (simp; omega)) (.cells #[.int .i64 b.f0, .int .i64 b.f1, .int .i64 b.f2, .int .i64 b.f3, .bool b.f4, .string b.f5] 25 (0, 0))).alloc (show w.heap.size ≤ _ by first | exact Nat.le_refl _ | (simp; done) | (simp; omega)) (.cells #[.int .i64 0, .int .i64 0, .int .i64 0, .int .i64 0, .bool false, .string (⟨#[]⟩ : ByteArray)] 25 (0, 0)))
  refine (safe_keep 41 _ u _ w.heap.size (w.heap.size + 1) (w.heap.size + 1 + 1) hbW.size (blk_lt hA) (blk_lt hBb) (fun _ => by kernel_rfl) (fun w' hb' => HF.out _ _ _ w' (hbW.trans (hb'.mono hbW.size)) (by omega) (by omega) (by omega) (blk_below hA hb') (blk_below hBb hb') (blk_below hP hb'))).mono ?_
  rintro _ w2 ⟨rfl, hb2⟩
  have HB := Aside0.mk (hbW.trans hb2.low)
  have HO := Aside0.mk ((hb2.kept _ (blk_lt hO) (by omega) (by omega)).trans hO)
  clear hb2 hP hA hBb hO hbW HF
  unfold ty25
  have o0 := (blk_cell HO.out 0).trans rfl
  have o1 := (blk_cell HO.out 1).trans rfl
  have o2 := (blk_cell HO.out 2).trans rfl
  have o3 := (blk_cell HO.out 3).trans rfl
  have o4 := (blk_cell HO.out 4).trans rfl
  have o5 := (blk_cell HO.out 5).trans rfl
  have f0 := blk_frozen HO.out 0
  have f1 := blk_frozen HO.out 1
  have f2 := blk_frozen HO.out 2
  have f3 := blk_frozen HO.out 3
  have f4 := blk_frozen HO.out 4
  have f5 := blk_frozen HO.out 5
  go_wp2_with fail
  have hO := blk_put (cs := #[.int .i64 u.f0, .int .i64 u.f1, .int .i64 u.f2, .int .i64 u.f3, .bool u.f4, .string (⟨#[]⟩ : ByteArray)]) (blk_put (cs := #[.int .i64 u.f0, .int .i64 u.f1, .int .i64 u.f2, .int .i64 u.f3, .bool false, .string (⟨#[]⟩ : ByteArray)]) (blk_put (cs := #[.int .i64 u.f0, .int .i64 u.f1, .int .i64 u.f2, .int .i64 0, .bool false, .string (⟨#[]⟩ : ByteArray)]) (blk_put (cs := #[.int .i64 u.f0, .int .i64 u.f1, .int .i64 0, .int .i64 0, .bool false, .string (⟨#[]⟩ : ByteArray)]) (blk_put (cs := #[.int .i64 u.f0, .int .i64 0, .int .i64 0, .int .i64 0, .bool false, .string (⟨#[]⟩ : ByteArray)]) (blk_put (cs := #[.int .i64 0, .int .i64 0, .int .i64 0, .int .i64 0, .bool false, .string (⟨#[]⟩ : ByteArray)]) (HO.out) 0 (.int .i64 u.f0) rfl) 1 (.int .i64 u.f1) rfl) 2 (.int .i64 u.f2) rfl) 3 (.int .i64 u.f3) rfl) 4 (.bool u.f4) rfl) 5 (.string u.f5) rfl
  have hB := Below.setCell (Below.setCell (Below.setCell (Below.setCell (Below.setCell (Below.setCell (HB.out) (p := ⟨w.heap.size + 1 + 1 + 1, 0, none⟩) (by first | (simp; done) | (simp; omega)) (.int .i64 u.f0)) (p := ⟨w.heap.size + 1 + 1 + 1, 1, none⟩) (by first | (simp; done) | (simp; omega)) (.int .i64 u.f1)) (p := ⟨w.heap.size + 1 + 1 + 1, 2, none⟩) (by first | (simp; done) | (simp; omega)) (.int .i64 u.f2)) (p := ⟨w.heap.size + 1 + 1 + 1, 3, none⟩) (by first | (simp; done) | (simp; omega)) (.int .i64 u.f3)) (p := ⟨w.heap.size + 1 + 1 + 1, 4, none⟩) (by first | (simp; done) | (simp; omega)) (.bool u.f4)) (p := ⟨w.heap.size + 1 + 1 + 1, 5, none⟩) (by first | (simp; done) | (simp; omega)) (.string u.f5)
  clear o0 o1 o2 o3 o4 o5 f0 f1 f2 f3 f4 f5
  generalize ((((((w2.setCell ⟨w.heap.size + 1 + 1 + 1, 0, none⟩ (.int .i64 u.f0)).setCell ⟨w.heap.size + 1 + 1 + 1, 1, none⟩ (.int .i64 u.f1)).setCell ⟨w.heap.size + 1 + 1 + 1, 2, none⟩ (.int .i64 u.f2)).setCell ⟨w.heap.size + 1 + 1 + 1, 3, none⟩ (.int .i64 u.f3)).setCell ⟨w.heap.size + 1 + 1 + 1, 4, none⟩ (.bool u.f4)).setCell ⟨w.heap.size + 1 + 1 + 1, 5, none⟩ (.string u.f5)) = W at *
  have o0 := (blk_cell hO 0).trans rfl
  have o1 := (blk_cell hO 1).trans rfl
  have o2 := (blk_cell hO 2).trans rfl
  have o3 := (blk_cell hO 3).trans rfl
  have o4 := (blk_cell hO 4).trans rfl
  have o5 := (blk_cell hO 5).trans rfl
  refine bodyPost_ret (v := .tuple #[.agg #[.int .i64 u.f0, .int .i64 u.f1, .int .i64 u.f2, .int .i64 u.f3, .bool u.f4, .string u.f5], .int .i64 0]) (by simp [results, Try.results9, go_sem, o0, o1, o2, o3, o4, o5]) rfl ⟨rfl, ?_⟩
  first | exact hB | exact Below.drew hB
/-- rule.Result at "**". -/
def raiseO (k : Nat) (a b : S25) : Option (Int × Int × Int × Int × Bool × ByteArray × Int) :=
  (rule_float.f a.f0 a.f1 a.f2 a.f3 a.f4 a.f5).bind fun fa => (rule_float.f b.f0 b.f1 b.f2 b.f3 b.f4 b.f5).bind fun fb =>
    (rule_together.f k fa.1 fa.2.1 fa.2.2.1 fa.2.2.2.1 fa.2.2.2.2.1 fa.2.2.2.2.2 fb.1 fb.2.1 fb.2.2.1 fb.2.2.2.1 fb.2.2.2.2.1 fb.2.2.2.2.2).bind fun z =>
      if z.1 = 3 then some (3, mx z.2.1 z.2.2.2.2.2.2.2.1, 0, 0, false, (⟨#[]⟩ : ByteArray), 0) else none
def rule_ResultA.f (k : Nat) (a0 : ByteArray) (a1_0 : Int) (a1_1 : Int) (a1_2 : Int) (a1_3 : Int) (a1_4 : Bool) (a1_5 : ByteArray) (a2_0 : Int) (a2_1 : Int) (a2_2 : Int) (a2_3 : Int) (a2_4 : Bool) (a2_5 : ByteArray) : Option (Int × Int × Int × Int × Bool × ByteArray × Int) :=
  if validO [⟨a1_0, a1_1, a1_2, a1_3, a1_4, a1_5⟩, ⟨a2_0, a2_1, a2_2, a2_3, a2_4, a2_5⟩] = 0 ∧ signO a0 = 4 then raiseO k ⟨a1_0, a1_1, a1_2, a1_3, a1_4, a1_5⟩ ⟨a2_0, a2_1, a2_2, a2_3, a2_4, a2_5⟩
  else rule_Result.f k a0 a1_0 a1_1 a1_2 a1_3 a1_4 a1_5 a2_0 a2_1 a2_2 a2_3 a2_4 a2_5
theorem rule_ResultA.calls (k : Nat) (a0 : ByteArray) (a1_0 : Int) (a1_1 : Int) (a1_2 : Int) (a1_3 : Int) (a1_4 : Bool) (a1_5 : ByteArray) (a2_0 : Int) (a2_1 : Int) (a2_2 : Int) (a2_3 : Int) (a2_4 : Bool) (a2_5 : ByteArray) (r1 r2 r3 r4 : Int) (r5 : Bool) (r6 : ByteArray) (r7 : Int) (w : World) (h : rule_ResultA.f k a0 a1_0 a1_1 a1_2 a1_3 a1_4 a1_5 a2_0 a2_1 a2_2 a2_3 a2_4 a2_5 = some (r1, r2, r3, r4, r5, r6, r7)) :
    Calls Try.prog 9 #[.string a0, .agg #[.int .i64 a1_0, .int .i64 a1_1, .int .i64 a1_2, .int .i64 a1_3, .bool a1_4, .string a1_5], .agg #[.int .i64 a2_0, .int .i64 a2_1, .int .i64 a2_2, .int .i64 a2_3, .bool a2_4, .string a2_5]] w fun e w' => e = .returned (.tuple #[.agg #[.int .i64 r1, .int .i64 r2, .int .i64 r3, .int .i64 r4, .bool r5, .string r6], .int .i64 r7]) ∧ Below w.heap.size w w' := by
  unfold rule_ResultA.f at h
  by_cases hc : validO [⟨a1_0, a1_1, a1_2, a1_3, a1_4, a1_5⟩, ⟨a2_0, a2_1, a2_2, a2_3, a2_4, a2_5⟩] = 0 ∧ signO a0 = 4
  · rw [if_pos hc] at h
    unfold raiseO at h
    obtain ⟨⟨f0, f1, f2, f3, f4, f5⟩, hfa, h⟩ := Option.bind_eq_some_iff.1 h
    obtain ⟨⟨g0, g1, g2, g3, g4, g5⟩, hfb, h⟩ := Option.bind_eq_some_iff.1 h
    obtain ⟨⟨x0, x1, x2, x3, x4, x5, y0, y1, y2, y3, y4, y5, most⟩, ht, h⟩ := Option.bind_eq_some_iff.1 h
    by_cases h3 : x0 = 3
    · simp only [if_pos h3, Option.some.injEq, Prod.mk.injEq] at h
      obtain ⟨rfl, rfl, rfl, rfl, rfl, rfl, rfl⟩ := h
      exact Result_keep a0 ⟨a1_0, a1_1, a1_2, a1_3, a1_4, a1_5⟩ ⟨a2_0, a2_1, a2_2, a2_3, a2_4, a2_5⟩ ⟨3, mx x1 y1, 0, 0, false, ⟨#[]⟩⟩ w fun q1 q2 q3 w1 hb hne hq1 hq2 h1 h2 h3' =>
        (res_raise a0 _ _ ⟨f0, f1, f2, f3, f4, f5⟩ ⟨g0, g1, g2, g3, g4, g5⟩ ⟨x0, x1, x2, x3, x4, x5⟩ ⟨y0, y1, y2, y3, y4, y5⟩ most (mx x1 y1) k hfa hfb ht hc.1 hc.2 (beq_iff_eq.2 h3) rfl w.heap.size q1 q2 q3 w1 hne hq1 hq2 h1 h2 h3').mono fun r w2 hh => ⟨hh.1, ⟨hh.2.1, hh.2.2⟩⟩
    · simp only [if_neg h3] at h
      exact absurd h (by simp)
  · rw [if_neg hc] at h
    exact rule_Result.calls k a0 a1_0 a1_1 a1_2 a1_3 a1_4 a1_5 a2_0 a2_1 a2_2 a2_3 a2_4 a2_5 r1 r2 r3 r4 r5 r6 r7 w h
end Go.Proofs.Ytemlbikangbomaa.P

-- from the text G4
namespace Go.Proofs.Ytemlbikangbomaa.P
open Go.RowKit Go.Proofs.YtemlbikangbomaaW.PrintWords Go.Proofs.YtemlbikangbomaaW.PrintLast Go.Proofs.YtemlbikangbomaaW.PrintMore
attribute [local go_sem] max2_int min2_int max_two min_two max_three min_three max_four min_four   -- for this text's walks alone
set_option linter.unusedVariables false
set_option linter.unusedSimpArgs false
attribute [local go_sem high] eqA25
mutual
def ironbarklaw02_RuleResult.j0 : Nat → ByteArray → Bool → Int → Int → Int → Int → Bool → ByteArray → Int → Int → Int → Int → Bool → ByteArray → Option (Bool)
 | 0, _, _, _, _, _, _, _, _, _, _, _, _, _, _ => none
 | k + 1, x0, x24, x102000, x102001, x102002, x102003, x102004, x102005, x103000, x103001, x103002, x103003, x103004, x103005 => if x24 = true then ((ironbarklaw02_awake.f k).bind fun t107 => (some t107)) else ((rule_ResultA.f k x0 x102000 x102001 x102002 x102003 x102004 x102005 x103000 x103001 x103002 x103003 x103004 x103005).bind fun bt108 => ((ironbarkref02_Result.f k x0 x102000 x102001 x102002 x102003 x102004 x102005 x103000 x103001 x103002 x103003 x103004 x103005).bind fun bt116 => ((rule_Assignable.f x102000 x102001 x102002 x102003 x102004 x102005 x103000 x103001 x103002 x103003 x103004 x103005).bind fun bt124 => ((ironbarkref02_Assignable.f k x102000 x102001 x102002 x102003 x102004 x102005 x103000 x103001 x103002 x103003 x103004 x103005).bind fun bt126 => (if (!(bt108.1 == bt116.1) || (!(bt108.2.1 == bt116.2.1) || (!(bt108.2.2.1 == bt116.2.2.1) || (!(bt108.2.2.2.1 == bt116.2.2.2.1) || (!(bt108.2.2.2.2.1 == bt116.2.2.2.2.1) || (!(bt108.2.2.2.2.2.1.toList == bt116.2.2.2.2.2.1.toList))))))) = true then (ironbarklaw02_RuleResult.j1 k x0 bt116.2.2.2.2.2.2 true x102000 x102001 x102002 x102003 x102004 x102005 x103000 x103001 x103002 x103003 x103004 x103005 bt116.1 bt116.2.1 bt116.2.2.1 bt116.2.2.2.1 bt116.2.2.2.2.1 bt116.2.2.2.2.2.1) else (if bt108.2.2.2.2.2.2 = bt116.2.2.2.2.2.2 then (if (bt124.1 != bt126.1) = true then (ironbarklaw02_RuleResult.j1 k x0 bt116.2.2.2.2.2.2 true x102000 x102001 x102002 x102003 x102004 x102005 x103000 x103001 x103002 x103003 x103004 x103005 bt116.1 bt116.2.1 bt116.2.2.1 bt116.2.2.2.1 bt116.2.2.2.2.1 bt116.2.2.2.2.2.1) else (if bt124.2 = bt126.2 then (if bt108.2.2.2.2.2.2 = 0 then ((ironbarkref01_Valid.f k bt108.1 bt108.2.1 bt108.2.2.1 bt108.2.2.2.1 bt108.2.2.2.2.1 bt108.2.2.2.2.2.1).bind fun t128 => (ironbarklaw02_RuleResult.j1 k x0 bt116.2.2.2.2.2.2 (!t128) x102000 x102001 x102002 x102003 x102004 x102005 x103000 x103001 x103002 x103003 x103004 x103005 bt116.1 bt116.2.1 bt116.2.2.1 bt116.2.2.2.1 bt116.2.2.2.2.1 bt116.2.2.2.2.2.1)) else (ironbarklaw02_RuleResult.j1 k x0 bt116.2.2.2.2.2.2 false x102000 x102001 x102002 x102003 x102004 x102005 x103000 x103001 x103002 x103003 x103004 x103005 bt116.1 bt116.2.1 bt116.2.2.1 bt116.2.2.2.1 bt116.2.2.2.2.1 bt116.2.2.2.2.2.1)) else (ironbarklaw02_RuleResult.j1 k x0 bt116.2.2.2.2.2.2 true x102000 x102001 x102002 x102003 x102004 x102005 x103000 x103001 x103002 x103003 x103004 x103005 bt116.1 bt116.2.1 bt116.2.2.1 bt116.2.2.2.1 bt116.2.2.2.2.1 bt116.2.2.2.2.2.1))) else (ironbarklaw02_RuleResult.j1 k x0 bt116.2.2.2.2.2.2 true x102000 x102001 x102002 x102003 x102004 x102005 x103000 x103001 x103002 x103003 x103004 x103005 bt116.1 bt116.2.1 bt116.2.2.1 bt116.2.2.2.1 bt116.2.2.2.2.1 bt116.2.2.2.2.2.1)))))))
def ironbarklaw02_RuleResult.j1 : Nat → ByteArray → Int → Bool → Int → Int → Int → Int → Bool → ByteArray → Int → Int → Int → Int → Bool → ByteArray → Int → Int → Int → Int → Bool → ByteArray → Option (Bool)
 | 0, _, _, _, _, _, _, _, _, _, _, _, _, _, _, _, _, _, _, _, _, _ => none
 | k + 1, x0, x10, x78, x102000, x102001, x102002, x102003, x102004, x102005, x103000, x103001, x103002, x103003, x103004, x103005, x124000, x124001, x124002, x124003, x124004, x124005 => if x78 = true then (some false) else (if x0.toList = ([43] : List UInt8) then (ironbarklaw02_RuleResult.j2 k x0 x10 false x102000 x102001 x102002 x102003 x102004 x102005 x103000 x103001 x103002 x103003 x103004 x103005 x124000 x124001 x124002 x124003 x124004 x124005) else (ironbarklaw02_RuleResult.j2 k x0 x10 (x0.toList != ([42] : List UInt8)) x102000 x102001 x102002 x102003 x102004 x102005 x103000 x103001 x103002 x103003 x103004 x103005 x124000 x124001 x124002 x124003 x124004 x124005))
def ironbarklaw02_RuleResult.j2 : Nat → ByteArray → Int → Bool → Int → Int → Int → Int → Bool → ByteArray → Int → Int → Int → Int → Bool → ByteArray → Int → Int → Int → Int → Bool → ByteArray → Option (Bool)
 | 0, _, _, _, _, _, _, _, _, _, _, _, _, _, _, _, _, _, _, _, _, _ => none
 | k + 1, x0, x10, x84, x102000, x102001, x102002, x102003, x102004, x102005, x103000, x103001, x103002, x103003, x103004, x103005, x124000, x124001, x124002, x124003, x124004, x124005 => if x84 = true then ((ironbarklaw02_awake.f k).bind fun t129 => (some t129)) else ((rule_ResultA.f k x0 x103000 x103001 x103002 x103003 x103004 x103005 x102000 x102001 x102002 x102003 x102004 x102005).bind fun bt130 => (if ((bt130.2.2.2.2.2.2 != 0) == (x10 != 0)) = true then (if bt130.2.2.2.2.2.2 = 0 then (if (bt130.1 == x124000 && (bt130.2.1 == x124001 && (bt130.2.2.1 == x124002 && (bt130.2.2.2.1 == x124003 && (bt130.2.2.2.2.1 == x124004 && (bt130.2.2.2.2.2.1.toList == x124005.toList)))))) = true then ((ironbarklaw02_awake.f k).bind fun t137 => (some t137)) else (some false)) else ((ironbarklaw02_awake.f k).bind fun t138 => (some t138))) else (some false)))
end
def ironbarklaw02_RuleResult.f (k : Nat) (a0 : ByteArray) (a1_0 : Int) (a1_1 : Int) (a1_2 : Int) (a1_3 : Int) (a1_4 : Bool) (a1_5 : ByteArray) (a2_0 : Int) (a2_1 : Int) (a2_2 : Int) (a2_3 : Int) (a2_4 : Bool) (a2_5 : ByteArray) : Option (Bool) := (ironbarklaw02_light.f k (([(⟨a1_0, a1_1, a1_2, a1_3, a1_4, a1_5⟩ : S25), (⟨a2_0, a2_1, a2_2, a2_3, a2_4, a2_5⟩ : S25)] : List (S25)))).bind fun t106 => (if t106 = true then (ironbarklaw02_RuleResult.j0 k a0 (decide ((a0.size : Int) > 100)) a1_0 a1_1 a1_2 a1_3 a1_4 a1_5 a2_0 a2_1 a2_2 a2_3 a2_4 a2_5) else (ironbarklaw02_RuleResult.j0 k a0 true a1_0 a1_1 a1_2 a1_3 a1_4 a1_5 a2_0 a2_1 a2_2 a2_3 a2_4 a2_5))
set_option maxHeartbeats 8000000 in
set_option maxRecDepth 100000 in
theorem ironbarklaw02_RuleResult.calls (k : Nat) (a0 : ByteArray) (a1_0 : Int) (a1_1 : Int) (a1_2 : Int) (a1_3 : Int) (a1_4 : Bool) (a1_5 : ByteArray) (a2_0 : Int) (a2_1 : Int) (a2_2 : Int) (a2_3 : Int) (a2_4 : Bool) (a2_5 : ByteArray) (r : Bool) (w : World) (h : ironbarklaw02_RuleResult.f k a0 a1_0 a1_1 a1_2 a1_3 a1_4 a1_5 a2_0 a2_1 a2_2 a2_3 a2_4 a2_5 = some r) (hrt_ : Aside0 (r = true)) :
  Calls Try.prog 4 #[.string a0, .agg #[.int .i64 a1_0, .int .i64 a1_1, .int .i64 a1_2, .int .i64 a1_3, .bool a1_4, .string a1_5], .agg #[.int .i64 a2_0, .int .i64 a2_1, .int .i64 a2_2, .int .i64 a2_3, .bool a2_4, .string a2_5]] w fun e w' => e = .returned (.bool r) ∧ Below w.heap.size w w' := by
 have hu25 := Try.underlying25
 have HB := Aside0.mk (Below.refl w.heap.size w)
 have H : ((ironbarklaw02_light.f k (([(⟨a1_0, a1_1, a1_2, a1_3, a1_4, a1_5⟩ : S25), (⟨a2_0, a2_1, a2_2, a2_3, a2_4, a2_5⟩ : S25)] : List (S25)))).bind fun t106 => (if t106 = true then (ironbarklaw02_RuleResult.j0 k a0 (decide ((a0.size : Int) > 100)) a1_0 a1_1 a1_2 a1_3 a1_4 a1_5 a2_0 a2_1 a2_2 a2_3 a2_4 a2_5) else (ironbarklaw02_RuleResult.j0 k a0 true a1_0 a1_1 a1_2 a1_3 a1_4 a1_5 a2_0 a2_1 a2_2 a2_3 a2_4 a2_5))) = some r := h
 clear h
 have HC4 := Aside0.mk H
 clear H
 go_enter Try.func4, Try.ntmps4
 go_upto_region 1 with (first | ((with_reducible refine gate_dst (N := 4) rfl ?_); (try (refine gate_guard (by rfl) ?_; dsimp only)); refine box_event ?hg (N := 4) ?hd (cs := #[.int .i64 a1_0, .int .i64 a1_1, .int .i64 a1_2, .int .i64 a1_3, .bool a1_4, .string a1_5]) (t := 25) ?hr ?_; (case hd => rfl); (case hg => rfl); (case hr => first | (go_simp; done) | (go_simp; rfl)); intro gb101 hg w5 hbox hb; have n0_ := Aside0.mk (below_step (by repeat (first | (with_reducible first | exact HB.out | apply below_alloc | apply pw_below_drewN | apply below_drew1) | exact HB.out)) hb); have n1_ := Aside0.mk (hbox); have n2_ := Aside0.mk ((by rw [hg]; exact (below_size (by repeat (first | (with_reducible first | exact HB.out | apply below_alloc | apply pw_below_drewN | apply below_drew1) | exact HB.out))) : w.heap.size ≤ gb101)); have n3_ := n2_; clear HB; have HB := n0_; have BK101 := n1_; have GW101 := n2_; have GE101 := n3_; clear n0_ n1_ n2_ n3_; clear hb hbox hg) | ((with_reducible refine gate_dst (N := 5) rfl ?_); (try (refine gate_guard (by rfl) ?_; dsimp only)); refine box_event ?hg (N := 5) ?hd (cs := #[.int .i64 a2_0, .int .i64 a2_1, .int .i64 a2_2, .int .i64 a2_3, .bool a2_4, .string a2_5]) (t := 25) ?hr ?_; (case hd => rfl); (case hg => rfl); (case hr => first | (go_simp; done) | (go_simp; rfl)); intro gb102 hg w6 hbox hb; have n0_ := Aside0.mk (blk_below (g := gb101) (o := .cells #[.int .i64 a1_0, .int .i64 a1_1, .int .i64 a1_2, .int .i64 a1_3, .bool a1_4, .string a1_5] 25 (0, 0)) (by (with_reducible repeat (first | refine blk_drewN ?_ _ | refine blk_drew ?_ | refine blk_alloc ?_ _)); exact BK101.out) hb); have n1_ := Aside0.mk (below_step (by repeat (first | (with_reducible first | exact HB.out | apply below_alloc | apply pw_below_drewN | apply below_drew1 | refine below_set ?_ GE101.out) | exact HB.out)) hb); have n2_ := Aside0.mk (hbox); have n3_ := Aside0.mk ((by rw [hg]; exact (below_size (by repeat (first | (with_reducible first | exact HB.out | apply below_alloc | apply pw_below_drewN | apply below_drew1 | refine below_set ?_ GE101.out) | exact HB.out))) : w.heap.size ≤ gb102)); have n4_ := n3_; have n5_ := Aside0.mk ((by rw [hg]; exact Nat.ne_of_lt (blk_lt (g := gb101) (o := .cells #[.int .i64 a1_0, .int .i64 a1_1, .int .i64 a1_2, .int .i64 a1_3, .bool a1_4, .string a1_5] 25 (0, 0)) (by (with_reducible repeat (first | refine blk_drewN ?_ _ | refine blk_drew ?_ | refine blk_alloc ?_ _)); exact BK101.out)) : gb101 ≠ gb102)); have n6_ := Aside0.mk ((by rw [hg]; exact Nat.ne_of_gt (blk_lt (g := gb101) (o := .cells #[.int .i64 a1_0, .int .i64 a1_1, .int .i64 a1_2, .int .i64 a1_3, .bool a1_4, .string a1_5] 25 (0, 0)) (by (with_reducible repeat (first | refine blk_drewN ?_ _ | refine blk_drew ?_ | refine blk_alloc ?_ _)); exact BK101.out)) : gb102 ≠ gb101)); clear BK101; clear HB; have BK101 := n0_; have HB := n1_; have BK102 := n2_; have GW102 := n3_; have GE102 := n4_; have NB101_102 := n5_; have NB102_101 := n6_; clear n0_ n1_ n2_ n3_ n4_ n5_ n6_; clear hb hbox hg))
 (try simp only [Act.put, List.setIfInBounds_toArray, List.set_cons_zero, List.set_cons_succ])
 go_cut [24] (fun v24 wc => ∃ (kq : Nat) (x24_3 : Bool), v24 = .bool x24_3 ∧ Aside0 (ironbarklaw02_RuleResult.j0 kq a0 x24_3 a1_0 a1_1 a1_2 a1_3 a1_4 a1_5 a2_0 a2_1 a2_2 a2_3 a2_4 a2_5 = some r) ∧ Aside0 (kq ≤ k) ∧ Aside0 (wc.heap[gb101]? = some (.cells #[.int .i64 a1_0, .int .i64 a1_1, .int .i64 a1_2, .int .i64 a1_3, .bool a1_4, .string a1_5] 25 (0, 0))) ∧ Aside0 (wc.heap[gb102]? = some (.cells #[.int .i64 a2_0, .int .i64 a2_1, .int .i64 a2_2, .int .i64 a2_3, .bool a2_4, .string a2_5] 25 (0, 0))) ∧ Aside0 (Below w.heap.size w wc))
 case first =>
  have H := HC4.out
  clear HC4
  obtain ⟨y103, hy103⟩ : ∃ y_ : List (S25), y_ = (([(⟨a1_0, a1_1, a1_2, a1_3, a1_4, a1_5⟩ : S25), (⟨a2_0, a2_1, a2_2, a2_3, a2_4, a2_5⟩ : S25)] : List (S25))) := ⟨_, rfl⟩
  replace H : ((ironbarklaw02_light.f k y103).bind fun t106 => (if t106 = true then (ironbarklaw02_RuleResult.j0 k a0 (decide ((a0.size : Int) > 100)) a1_0 a1_1 a1_2 a1_3 a1_4 a1_5 a2_0 a2_1 a2_2 a2_3 a2_4 a2_5) else (ironbarklaw02_RuleResult.j0 k a0 true a1_0 a1_1 a1_2 a1_3 a1_4 a1_5 a2_0 a2_1 a2_2 a2_3 a2_4 a2_5))) = some r := by first | (rw [hy103]; with_reducible exact H) | (have H2_ := (Option.bind_some _ _).symm.trans H; rw [hy103]; with_reducible exact H2_) | (have H2_ := (Option.bind_some _ _).symm.trans H; with_reducible exact H2_) | with_reducible exact H | (rw [hy103]; exact H) | exact H
  have Ny103 := Aside0.mk hy103
  clear hy103
  replace H := Option.bind_eq_some_iff.mp H
  obtain ⟨t106, A70, H⟩ := H
  replace H : (if t106 = true then (ironbarklaw02_RuleResult.j0 k a0 (decide ((a0.size : Int) > 100)) a1_0 a1_1 a1_2 a1_3 a1_4 a1_5 a2_0 a2_1 a2_2 a2_3 a2_4 a2_5) else (ironbarklaw02_RuleResult.j0 k a0 true a1_0 a1_1 a1_2 a1_3 a1_4 a1_5 a2_0 a2_1 a2_2 a2_3 a2_4 a2_5)) = some r := H
  have A7 := Aside0.mk A70
  clear A70
  by_cases c8 : t106 = true
  ·subst c8
   have H1 : (ironbarklaw02_RuleResult.j0 k a0 (decide ((a0.size : Int) > 100)) a1_0 a1_1 a1_2 a1_3 a1_4 a1_5 a2_0 a2_1 a2_2 a2_3 a2_4 a2_5) = some r := by rw [if_pos rfl] at H; exact H
   clear H
   have H := H1
   clear H1
   have H' := Aside0.mk H
   clear H
   have hnb9 := NB101_102.out
   have hnc9 := NB102_101.out
   have hcz10_0 : w6.cell? ⟨gb101, 0, none⟩ = some (.int .i64 a1_0) := (blk_cell BK101.out 0).trans rfl
   have hcz10_1 : w6.cell? ⟨gb101, 1, none⟩ = some (.int .i64 a1_1) := (blk_cell BK101.out 1).trans rfl
   have hcz10_2 : w6.cell? ⟨gb101, 2, none⟩ = some (.int .i64 a1_2) := (blk_cell BK101.out 2).trans rfl
   have hcz10_3 : w6.cell? ⟨gb101, 3, none⟩ = some (.int .i64 a1_3) := (blk_cell BK101.out 3).trans rfl
   have hcz10_4 : w6.cell? ⟨gb101, 4, none⟩ = some (.bool a1_4) := (blk_cell BK101.out 4).trans rfl
   have hcz10_5 : w6.cell? ⟨gb101, 5, none⟩ = some (.string a1_5) := (blk_cell BK101.out 5).trans rfl
   have hfz10_0 := blk_frozen BK101.out 0
   have hfz10_1 := blk_frozen BK101.out 1
   have hfz10_2 := blk_frozen BK101.out 2
   have hfz10_3 := blk_frozen BK101.out 3
   have hfz10_4 := blk_frozen BK101.out 4
   have hfz10_5 := blk_frozen BK101.out 5
   have hcz11_0 : w6.cell? ⟨gb102, 0, none⟩ = some (.int .i64 a2_0) := (blk_cell BK102.out 0).trans rfl
   have hcz11_1 : w6.cell? ⟨gb102, 1, none⟩ = some (.int .i64 a2_1) := (blk_cell BK102.out 1).trans rfl
   have hcz11_2 : w6.cell? ⟨gb102, 2, none⟩ = some (.int .i64 a2_2) := (blk_cell BK102.out 2).trans rfl
   have hcz11_3 : w6.cell? ⟨gb102, 3, none⟩ = some (.int .i64 a2_3) := (blk_cell BK102.out 3).trans rfl
   have hcz11_4 : w6.cell? ⟨gb102, 4, none⟩ = some (.bool a2_4) := (blk_cell BK102.out 4).trans rfl
   have hcz11_5 : w6.cell? ⟨gb102, 5, none⟩ = some (.string a2_5) := (blk_cell BK102.out 5).trans rfl
   have hfz11_0 := blk_frozen BK102.out 0
   have hfz11_1 := blk_frozen BK102.out 1
   have hfz11_2 := blk_frozen BK102.out 2
   have hfz11_3 := blk_frozen BK102.out 3
   have hfz11_4 := blk_frozen BK102.out 4
   have hfz11_5 := blk_frozen BK102.out 5
   go_wp2_with (first | ((with_reducible refine gate_dst (N := 17) rfl ?_); (try (refine gate_guard (by rfl) ?_; dsimp only)); refine Kd.R_lit k25 _ 25 ?hg (N := 17) ?hd (xs := ([(⟨a1_0, a1_1, a1_2, a1_3, a1_4, a1_5⟩ : S25), (⟨a2_0, a2_1, a2_2, a2_3, a2_4, a2_5⟩ : S25)] : List (S25))) (inner := [.int .i64 a1_0, .int .i64 a1_1, .int .i64 a1_2, .int .i64 a1_3, .bool a1_4, .string a1_5, .int .i64 a2_0, .int .i64 a2_1, .int .i64 a2_2, .int .i64 a2_3, .bool a2_4, .string a2_5]) (ok := fun _ => True) (okp := fun _ => True) ?hr ?hp (fun _ hk => hk) trivial (Below.refl _ _) (Nat.le_refl _) (by simp) ?_; (case hd => rfl); (case hg => rfl); (case hr => first | (go_simp; done) | (go_simp; rfl)); (case hp => exact (Reps.c6 (show Kd.M k25 _ _ _ (⟨a1_0, a1_1, a1_2, a1_3, a1_4, a1_5⟩ : S25) [.int .i64 a1_0, .int .i64 a1_1, .int .i64 a1_2, .int .i64 a1_3, .bool a1_4, .string a1_5] from (k25_mkM _ _ _ (⟨a1_0, a1_1, a1_2, a1_3, a1_4, a1_5⟩ : S25) )) (Reps.c6 (show Kd.M k25 _ _ _ (⟨a2_0, a2_1, a2_2, a2_3, a2_4, a2_5⟩ : S25) [.int .i64 a2_0, .int .i64 a2_1, .int .i64 a2_2, .int .i64 a2_3, .bool a2_4, .string a2_5] from (k25_mkM _ _ _ (⟨a2_0, a2_1, a2_2, a2_3, a2_4, a2_5⟩ : S25) )) (Reps.none _ _)))); intro v104 w12 ho13 hb hg_ hnew_; clear hg_ hnew_; (first | rw [← Ny103.out] at ho13 | (simp only [Int.reduceToNat] at ho13; rw [← Ny103.out] at ho13)); have n0_ := Aside0.mk (Kd.R_lower (Kd.R_newB (Kd.R_newB ho13 (g := gb101) (o := .cells #[.int .i64 a1_0, .int .i64 a1_1, .int .i64 a1_2, .int .i64 a1_3, .bool a1_4, .string a1_5] 25 (0, 0)) (by (with_reducible repeat (first | refine blk_drewN ?_ _ | refine blk_drew ?_ | refine blk_alloc ?_ _)); exact BK101.out)) (g := gb102) (o := .cells #[.int .i64 a2_0, .int .i64 a2_1, .int .i64 a2_2, .int .i64 a2_3, .bool a2_4, .string a2_5] 25 (0, 0)) (by (with_reducible repeat (first | refine blk_drewN ?_ _ | refine blk_drew ?_ | refine blk_alloc ?_ _)); exact BK102.out)) (below_size (by repeat (first | (with_reducible first | exact HB.out | apply below_alloc | apply pw_below_drewN | apply below_drew1 | refine below_set ?_ GE101.out | refine below_set ?_ GE102.out) | exact HB.out)))); have n1_ := Aside0.mk (blk_below (g := gb101) (o := .cells #[.int .i64 a1_0, .int .i64 a1_1, .int .i64 a1_2, .int .i64 a1_3, .bool a1_4, .string a1_5] 25 (0, 0)) (by (with_reducible repeat (first | refine blk_drewN ?_ _ | refine blk_drew ?_ | refine blk_alloc ?_ _)); exact BK101.out) hb); have n2_ := Aside0.mk (blk_below (g := gb102) (o := .cells #[.int .i64 a2_0, .int .i64 a2_1, .int .i64 a2_2, .int .i64 a2_3, .bool a2_4, .string a2_5] 25 (0, 0)) (by (with_reducible repeat (first | refine blk_drewN ?_ _ | refine blk_drew ?_ | refine blk_alloc ?_ _)); exact BK102.out) hb); have n3_ := Aside0.mk (below_step (by repeat (first | (with_reducible first | exact HB.out | apply below_alloc | apply pw_below_drewN | apply below_drew1 | refine below_set ?_ GE101.out | refine below_set ?_ GE102.out) | exact HB.out)) hb); clear BK101; clear BK102; clear HB; have HO105 := n0_; have BK101 := n1_; have BK102 := n2_; have HB := n3_; clear n0_ n1_ n2_ n3_; clear hb ho13; obtain ⟨Ao14, co14, eo14⟩ := Kd.R_slice HO105.out; subst eo14) | ((with_reducible refine gate_callee (f := 16) rfl ?_); refine goesL_ (some 18) rfl rfl Try.func16 (by kernel_rfl) rfl #[.slice Ao14 y103.length co14] rfl (by (try simp only [List.map_toArray, List.map_cons, List.map_nil]); first | done | rfl | (simp only [List.length_drop, List.length_take]; rfl)) ?_; (with_reducible refine (ironbarklaw02_light.calls k _ _ y103 true _ ?side1 ?side2 A7.out).mono ?_); (case side1 => repeat (first | exact (Kd.R_reads' HO105.out).2.2 | (with_reducible refine Kd.C_alloc ?_ _) | (with_reducible refine Kd.C_drewN ?_ _) | (with_reducible refine Kd.C_drew ?_))); (case side2 => exact (Kd.R_reads' HO105.out).2.1); rintro e w' ⟨rfl, ⟨nd, rfl⟩⟩; refine ⟨_, rfl, ?_⟩))
   go_meet
   case rel => exact ⟨_, (decide ((a0.size : Int) > 100)), (by first | rfl | (simp; done) | (generalize ByteArray.toList _ = l_; cases l_ <;> rfl) | (simp [*]; done)), H', ⟨by first | omega | exact Nat.le_refl _⟩, ⟨by (with_reducible repeat (first | refine blk_drewN ?_ _ | refine blk_drew ?_ | refine blk_alloc ?_ _)); exact BK101.out⟩, ⟨by (with_reducible repeat (first | refine blk_drewN ?_ _ | refine blk_drew ?_ | refine blk_alloc ?_ _)); exact BK102.out⟩, ⟨by repeat (first | (with_reducible first | exact HB.out | apply below_alloc | apply pw_below_drewN | apply below_drew1 | refine below_set ?_ GE101.out | refine below_set ?_ GE102.out) | exact HB.out)⟩⟩
  ·replace c8 := Bool.eq_false_iff.mpr c8
   subst c8
   have H1 : (ironbarklaw02_RuleResult.j0 k a0 true a1_0 a1_1 a1_2 a1_3 a1_4 a1_5 a2_0 a2_1 a2_2 a2_3 a2_4 a2_5) = some r := by rw [if_neg (show ¬ (false = true) by decide)] at H; exact H
   clear H
   have H := H1
   clear H1
   have H' := Aside0.mk H
   clear H
   have hnb15 := NB101_102.out
   have hnc15 := NB102_101.out
   have hcz16_0 : w6.cell? ⟨gb101, 0, none⟩ = some (.int .i64 a1_0) := (blk_cell BK101.out 0).trans rfl
   have hcz16_1 : w6.cell? ⟨gb101, 1, none⟩ = some (.int .i64 a1_1) := (blk_cell BK101.out 1).trans rfl
   have hcz16_2 : w6.cell? ⟨gb101, 2, none⟩ = some (.int .i64 a1_2) := (blk_cell BK101.out 2).trans rfl
   have hcz16_3 : w6.cell? ⟨gb101, 3, none⟩ = some (.int .i64 a1_3) := (blk_cell BK101.out 3).trans rfl
   have hcz16_4 : w6.cell? ⟨gb101, 4, none⟩ = some (.bool a1_4) := (blk_cell BK101.out 4).trans rfl
   have hcz16_5 : w6.cell? ⟨gb101, 5, none⟩ = some (.string a1_5) := (blk_cell BK101.out 5).trans rfl
   have hfz16_0 := blk_frozen BK101.out 0
   have hfz16_1 := blk_frozen BK101.out 1
   have hfz16_2 := blk_frozen BK101.out 2
   have hfz16_3 := blk_frozen BK101.out 3
   have hfz16_4 := blk_frozen BK101.out 4
   have hfz16_5 := blk_frozen BK101.out 5
   have hcz17_0 : w6.cell? ⟨gb102, 0, none⟩ = some (.int .i64 a2_0) := (blk_cell BK102.out 0).trans rfl
   have hcz17_1 : w6.cell? ⟨gb102, 1, none⟩ = some (.int .i64 a2_1) := (blk_cell BK102.out 1).trans rfl
   have hcz17_2 : w6.cell? ⟨gb102, 2, none⟩ = some (.int .i64 a2_2) := (blk_cell BK102.out 2).trans rfl
   have hcz17_3 : w6.cell? ⟨gb102, 3, none⟩ = some (.int .i64 a2_3) := (blk_cell BK102.out 3).trans rfl
   have hcz17_4 : w6.cell? ⟨gb102, 4, none⟩ = some (.bool a2_4) := (blk_cell BK102.out 4).trans rfl
   have hcz17_5 : w6.cell? ⟨gb102, 5, none⟩ = some (.string a2_5) := (blk_cell BK102.out 5).trans rfl
   have hfz17_0 := blk_frozen BK102.out 0
   have hfz17_1 := blk_frozen BK102.out 1
   have hfz17_2 := blk_frozen BK102.out 2
   have hfz17_3 := blk_frozen BK102.out 3
   have hfz17_4 := blk_frozen BK102.out 4
   have hfz17_5 := blk_frozen BK102.out 5
   go_wp2_with (first | ((with_reducible refine gate_dst (N := 17) rfl ?_); (try (refine gate_guard (by rfl) ?_; dsimp only)); refine Kd.R_lit k25 _ 25 ?hg (N := 17) ?hd (xs := ([(⟨a1_0, a1_1, a1_2, a1_3, a1_4, a1_5⟩ : S25), (⟨a2_0, a2_1, a2_2, a2_3, a2_4, a2_5⟩ : S25)] : List (S25))) (inner := [.int .i64 a1_0, .int .i64 a1_1, .int .i64 a1_2, .int .i64 a1_3, .bool a1_4, .string a1_5, .int .i64 a2_0, .int .i64 a2_1, .int .i64 a2_2, .int .i64 a2_3, .bool a2_4, .string a2_5]) (ok := fun _ => True) (okp := fun _ => True) ?hr ?hp (fun _ hk => hk) trivial (Below.refl _ _) (Nat.le_refl _) (by simp) ?_; (case hd => rfl); (case hg => rfl); (case hr => first | (go_simp; done) | (go_simp; rfl)); (case hp => exact (Reps.c6 (show Kd.M k25 _ _ _ (⟨a1_0, a1_1, a1_2, a1_3, a1_4, a1_5⟩ : S25) [.int .i64 a1_0, .int .i64 a1_1, .int .i64 a1_2, .int .i64 a1_3, .bool a1_4, .string a1_5] from (k25_mkM _ _ _ (⟨a1_0, a1_1, a1_2, a1_3, a1_4, a1_5⟩ : S25) )) (Reps.c6 (show Kd.M k25 _ _ _ (⟨a2_0, a2_1, a2_2, a2_3, a2_4, a2_5⟩ : S25) [.int .i64 a2_0, .int .i64 a2_1, .int .i64 a2_2, .int .i64 a2_3, .bool a2_4, .string a2_5] from (k25_mkM _ _ _ (⟨a2_0, a2_1, a2_2, a2_3, a2_4, a2_5⟩ : S25) )) (Reps.none _ _)))); intro v104 w18 ho19 hb hg_ hnew_; clear hg_ hnew_; (first | rw [← Ny103.out] at ho19 | (simp only [Int.reduceToNat] at ho19; rw [← Ny103.out] at ho19)); have n0_ := Aside0.mk (Kd.R_lower (Kd.R_newB (Kd.R_newB ho19 (g := gb101) (o := .cells #[.int .i64 a1_0, .int .i64 a1_1, .int .i64 a1_2, .int .i64 a1_3, .bool a1_4, .string a1_5] 25 (0, 0)) (by (with_reducible repeat (first | refine blk_drewN ?_ _ | refine blk_drew ?_ | refine blk_alloc ?_ _)); exact BK101.out)) (g := gb102) (o := .cells #[.int .i64 a2_0, .int .i64 a2_1, .int .i64 a2_2, .int .i64 a2_3, .bool a2_4, .string a2_5] 25 (0, 0)) (by (with_reducible repeat (first | refine blk_drewN ?_ _ | refine blk_drew ?_ | refine blk_alloc ?_ _)); exact BK102.out)) (below_size (by repeat (first | (with_reducible first | exact HB.out | apply below_alloc | apply pw_below_drewN | apply below_drew1 | refine below_set ?_ GE101.out | refine below_set ?_ GE102.out) | exact HB.out)))); have n1_ := Aside0.mk (blk_below (g := gb101) (o := .cells #[.int .i64 a1_0, .int .i64 a1_1, .int .i64 a1_2, .int .i64 a1_3, .bool a1_4, .string a1_5] 25 (0, 0)) (by (with_reducible repeat (first | refine blk_drewN ?_ _ | refine blk_drew ?_ | refine blk_alloc ?_ _)); exact BK101.out) hb); have n2_ := Aside0.mk (blk_below (g := gb102) (o := .cells #[.int .i64 a2_0, .int .i64 a2_1, .int .i64 a2_2, .int .i64 a2_3, .bool a2_4, .string a2_5] 25 (0, 0)) (by (with_reducible repeat (first | refine blk_drewN ?_ _ | refine blk_drew ?_ | refine blk_alloc ?_ _)); exact BK102.out) hb); have n3_ := Aside0.mk (below_step (by repeat (first | (with_reducible first | exact HB.out | apply below_alloc | apply pw_below_drewN | apply below_drew1 | refine below_set ?_ GE101.out | refine below_set ?_ GE102.out) | exact HB.out)) hb); clear BK101; clear BK102; clear HB; have HO105 := n0_; have BK101 := n1_; have BK102 := n2_; have HB := n3_; clear n0_ n1_ n2_ n3_; clear hb ho19; obtain ⟨Ao20, co20, eo20⟩ := Kd.R_slice HO105.out; subst eo20) | ((with_reducible refine gate_callee (f := 16) rfl ?_); refine goesL_ (some 18) rfl rfl Try.func16 (by kernel_rfl) rfl #[.slice Ao20 y103.length co20] rfl (by (try simp only [List.map_toArray, List.map_cons, List.map_nil]); first | done | rfl | (simp only [List.length_drop, List.length_take]; rfl)) ?_; (with_reducible refine (ironbarklaw02_light.calls k _ _ y103 false _ ?side1 ?side2 A7.out).mono ?_); (case side1 => repeat (first | exact (Kd.R_reads' HO105.out).2.2 | (with_reducible refine Kd.C_alloc ?_ _) | (with_reducible refine Kd.C_drewN ?_ _) | (with_reducible refine Kd.C_drew ?_))); (case side2 => exact (Kd.R_reads' HO105.out).2.1); rintro e w' ⟨rfl, ⟨nd, rfl⟩⟩; refine ⟨_, rfl, ?_⟩))
   go_meet
   case rel => exact ⟨_, (true), (by first | rfl | (simp; done) | (generalize ByteArray.toList _ = l_; cases l_ <;> rfl) | (simp [*]; done)), H', ⟨by first | omega | exact Nat.le_refl _⟩, ⟨by (with_reducible repeat (first | refine blk_drewN ?_ _ | refine blk_drew ?_ | refine blk_alloc ?_ _)); exact BK101.out⟩, ⟨by (with_reducible repeat (first | refine blk_drewN ?_ _ | refine blk_drew ?_ | refine blk_alloc ?_ _)); exact BK102.out⟩, ⟨by repeat (first | (with_reducible first | exact HB.out | apply below_alloc | apply pw_below_drewN | apply below_drew1 | refine below_set ?_ GE101.out | refine below_set ?_ GE102.out) | exact HB.out)⟩⟩
 case rest =>
  clear HC4
  try clear c1
  try clear p2
  try clear c4
  try clear c6
  try clear c8
  try clear c9
  try clear c15
  try clear c16
  try clear hcz10_0
  try clear hcz10_1
  try clear hcz10_2
  try clear hcz10_3
  try clear hcz10_4
  try clear hcz10_5
  try clear hcz11_0
  try clear hcz11_1
  try clear hcz11_2
  try clear hcz11_3
  try clear hcz11_4
  try clear hcz11_5
  try clear hcz16_0
  try clear hcz16_1
  try clear hcz16_2
  try clear hcz16_3
  try clear hcz16_4
  try clear hcz16_5
  try clear hcz17_0
  try clear hcz17_1
  try clear hcz17_2
  try clear hcz17_3
  try clear hcz17_4
  try clear hcz17_5
  try clear hfz10_0
  try clear hfz10_1
  try clear hfz10_2
  try clear hfz10_3
  try clear hfz10_4
  try clear hfz10_5
  try clear hfz11_0
  try clear hfz11_1
  try clear hfz11_2
  try clear hfz11_3
  try clear hfz11_4
  try clear hfz11_5
  try clear hfz16_0
  try clear hfz16_1
  try clear hfz16_2
  try clear hfz16_3
  try clear hfz16_4
  try clear hfz16_5
  try clear hfz17_0
  try clear hfz17_1
  try clear hfz17_2
  try clear hfz17_3
  try clear hfz17_4
  try clear hfz17_5
  obtain ⟨kq, x24_3, rfl, HA, HJ3, BK101, BK102, HB⟩ := hcut
  cases kq with
  | zero => exact absurd HA.out (by simp [ironbarklaw02_RuleResult.j0])
  | succ kj3 =>
   have H := HA.out
   clear HA
   simp only [ironbarklaw02_RuleResult.j0] at H
   by_cases c21 : x24_3 = true
   ·subst c21
    have H1 : ((ironbarklaw02_awake.f kj3).bind fun t107 => (some t107)) = some r := by rw [if_pos rfl] at H; exact H
    clear H
    have H := H1
    clear H1
    replace H := Option.bind_eq_some_iff.mp H
    obtain ⟨t107, A220, H⟩ := H
    replace H : (some t107) = some r := H
    have A22 := Aside0.mk A220
    clear A220
    obtain rfl := Option.some.inj H
    go_wp2_with (first | ((with_reducible refine gate_callee (f := 8) rfl ?_); refine goesL_ (some 25) rfl rfl Try.func8 (by kernel_rfl) rfl #[] rfl (by (try simp only [List.map_toArray, List.map_cons, List.map_nil]); first | done | rfl | (simp only [List.length_drop, List.length_take]; rfl)) ?_; (with_reducible refine (ironbarklaw02_awake.calls kj3  t107 _ A22.out).mono ?_); rintro e w23 ⟨rfl, hb⟩; refine ⟨_, rfl, ?_⟩; have n0_ := Aside0.mk (blk_below (g := gb101) (o := .cells #[.int .i64 a1_0, .int .i64 a1_1, .int .i64 a1_2, .int .i64 a1_3, .bool a1_4, .string a1_5] 25 (0, 0)) (by (with_reducible repeat (first | refine blk_drewN ?_ _ | refine blk_drew ?_ | refine blk_alloc ?_ _)); exact BK101.out) hb); have n1_ := Aside0.mk (blk_below (g := gb102) (o := .cells #[.int .i64 a2_0, .int .i64 a2_1, .int .i64 a2_2, .int .i64 a2_3, .bool a2_4, .string a2_5] 25 (0, 0)) (by (with_reducible repeat (first | refine blk_drewN ?_ _ | refine blk_drew ?_ | refine blk_alloc ?_ _)); exact BK102.out) hb); have n2_ := Aside0.mk (below_step (by repeat (first | (with_reducible first | exact HB.out | apply below_alloc | apply pw_below_drewN | apply below_drew1 | refine below_set ?_ GE101.out | refine below_set ?_ GE102.out) | exact HB.out)) hb); clear BK101; clear BK102; clear HB; have BK101 := n0_; have BK102 := n1_; have HB := n2_; clear n0_ n1_ n2_; (try clear hb); (try clear hb2); (try clear hk); (try clear hi)))
    go_ret
    exact ⟨by first | rfl | (simp [errW_none, errW_some] <;> rfl) | (simp [*, errW_none, errW_some] <;> rfl), by repeat (first | (with_reducible first | exact HB.out | apply below_alloc | apply pw_below_drewN | apply below_drew1 | refine below_set ?_ GE101.out | refine below_set ?_ GE102.out) | exact HB.out)⟩
   ·replace c21 := Bool.eq_false_iff.mpr c21
    subst c21
    have H1 : ((rule_ResultA.f kj3 a0 a1_0 a1_1 a1_2 a1_3 a1_4 a1_5 a2_0 a2_1 a2_2 a2_3 a2_4 a2_5).bind fun bt108 => ((ironbarkref02_Result.f kj3 a0 a1_0 a1_1 a1_2 a1_3 a1_4 a1_5 a2_0 a2_1 a2_2 a2_3 a2_4 a2_5).bind fun bt116 => ((rule_Assignable.f a1_0 a1_1 a1_2 a1_3 a1_4 a1_5 a2_0 a2_1 a2_2 a2_3 a2_4 a2_5).bind fun bt124 => ((ironbarkref02_Assignable.f kj3 a1_0 a1_1 a1_2 a1_3 a1_4 a1_5 a2_0 a2_1 a2_2 a2_3 a2_4 a2_5).bind fun bt126 => (if (!(bt108.1 == bt116.1) || (!(bt108.2.1 == bt116.2.1) || (!(bt108.2.2.1 == bt116.2.2.1) || (!(bt108.2.2.2.1 == bt116.2.2.2.1) || (!(bt108.2.2.2.2.1 == bt116.2.2.2.2.1) || (!(bt108.2.2.2.2.2.1.toList == bt116.2.2.2.2.2.1.toList))))))) = true then (ironbarklaw02_RuleResult.j1 kj3 a0 bt116.2.2.2.2.2.2 true a1_0 a1_1 a1_2 a1_3 a1_4 a1_5 a2_0 a2_1 a2_2 a2_3 a2_4 a2_5 bt116.1 bt116.2.1 bt116.2.2.1 bt116.2.2.2.1 bt116.2.2.2.2.1 bt116.2.2.2.2.2.1) else (if bt108.2.2.2.2.2.2 = bt116.2.2.2.2.2.2 then (if (bt124.1 != bt126.1) = true then (ironbarklaw02_RuleResult.j1 kj3 a0 bt116.2.2.2.2.2.2 true a1_0 a1_1 a1_2 a1_3 a1_4 a1_5 a2_0 a2_1 a2_2 a2_3 a2_4 a2_5 bt116.1 bt116.2.1 bt116.2.2.1 bt116.2.2.2.1 bt116.2.2.2.2.1 bt116.2.2.2.2.2.1) else (if bt124.2 = bt126.2 then (if bt108.2.2.2.2.2.2 = 0 then ((ironbarkref01_Valid.f kj3 bt108.1 bt108.2.1 bt108.2.2.1 bt108.2.2.2.1 bt108.2.2.2.2.1 bt108.2.2.2.2.2.1).bind fun t128 => (ironbarklaw02_RuleResult.j1 kj3 a0 bt116.2.2.2.2.2.2 (!t128) a1_0 a1_1 a1_2 a1_3 a1_4 a1_5 a2_0 a2_1 a2_2 a2_3 a2_4 a2_5 bt116.1 bt116.2.1 bt116.2.2.1 bt116.2.2.2.1 bt116.2.2.2.2.1 bt116.2.2.2.2.2.1)) else (ironbarklaw02_RuleResult.j1 kj3 a0 bt116.2.2.2.2.2.2 false a1_0 a1_1 a1_2 a1_3 a1_4 a1_5 a2_0 a2_1 a2_2 a2_3 a2_4 a2_5 bt116.1 bt116.2.1 bt116.2.2.1 bt116.2.2.2.1 bt116.2.2.2.2.1 bt116.2.2.2.2.2.1)) else (ironbarklaw02_RuleResult.j1 kj3 a0 bt116.2.2.2.2.2.2 true a1_0 a1_1 a1_2 a1_3 a1_4 a1_5 a2_0 a2_1 a2_2 a2_3 a2_4 a2_5 bt116.1 bt116.2.1 bt116.2.2.1 bt116.2.2.2.1 bt116.2.2.2.2.1 bt116.2.2.2.2.2.1))) else (ironbarklaw02_RuleResult.j1 kj3 a0 bt116.2.2.2.2.2.2 true a1_0 a1_1 a1_2 a1_3 a1_4 a1_5 a2_0 a2_1 a2_2 a2_3 a2_4 a2_5 bt116.1 bt116.2.1 bt116.2.2.1 bt116.2.2.2.1 bt116.2.2.2.2.1 bt116.2.2.2.2.2.1))))))) = some r := by rw [if_neg (show ¬ (false = true) by decide)] at H; exact H
    clear H
    have H := H1
    clear H1
    replace H := Option.bind_eq_some_iff.mp H
    obtain ⟨⟨t108, t109, t110, t111, t112, t113, t114⟩, A240, H⟩ := H
    replace H : ((ironbarkref02_Result.f kj3 a0 a1_0 a1_1 a1_2 a1_3 a1_4 a1_5 a2_0 a2_1 a2_2 a2_3 a2_4 a2_5).bind fun bt116 => ((rule_Assignable.f a1_0 a1_1 a1_2 a1_3 a1_4 a1_5 a2_0 a2_1 a2_2 a2_3 a2_4 a2_5).bind fun bt124 => ((ironbarkref02_Assignable.f kj3 a1_0 a1_1 a1_2 a1_3 a1_4 a1_5 a2_0 a2_1 a2_2 a2_3 a2_4 a2_5).bind fun bt126 => (if (!(t108 == bt116.1) || (!(t109 == bt116.2.1) || (!(t110 == bt116.2.2.1) || (!(t111 == bt116.2.2.2.1) || (!(t112 == bt116.2.2.2.2.1) || (!(t113.toList == bt116.2.2.2.2.2.1.toList))))))) = true then (ironbarklaw02_RuleResult.j1 kj3 a0 bt116.2.2.2.2.2.2 true a1_0 a1_1 a1_2 a1_3 a1_4 a1_5 a2_0 a2_1 a2_2 a2_3 a2_4 a2_5 bt116.1 bt116.2.1 bt116.2.2.1 bt116.2.2.2.1 bt116.2.2.2.2.1 bt116.2.2.2.2.2.1) else (if t114 = bt116.2.2.2.2.2.2 then (if (bt124.1 != bt126.1) = true then (ironbarklaw02_RuleResult.j1 kj3 a0 bt116.2.2.2.2.2.2 true a1_0 a1_1 a1_2 a1_3 a1_4 a1_5 a2_0 a2_1 a2_2 a2_3 a2_4 a2_5 bt116.1 bt116.2.1 bt116.2.2.1 bt116.2.2.2.1 bt116.2.2.2.2.1 bt116.2.2.2.2.2.1) else (if bt124.2 = bt126.2 then (if t114 = 0 then ((ironbarkref01_Valid.f kj3 t108 t109 t110 t111 t112 t113).bind fun t128 => (ironbarklaw02_RuleResult.j1 kj3 a0 bt116.2.2.2.2.2.2 (!t128) a1_0 a1_1 a1_2 a1_3 a1_4 a1_5 a2_0 a2_1 a2_2 a2_3 a2_4 a2_5 bt116.1 bt116.2.1 bt116.2.2.1 bt116.2.2.2.1 bt116.2.2.2.2.1 bt116.2.2.2.2.2.1)) else (ironbarklaw02_RuleResult.j1 kj3 a0 bt116.2.2.2.2.2.2 false a1_0 a1_1 a1_2 a1_3 a1_4 a1_5 a2_0 a2_1 a2_2 a2_3 a2_4 a2_5 bt116.1 bt116.2.1 bt116.2.2.1 bt116.2.2.2.1 bt116.2.2.2.2.1 bt116.2.2.2.2.2.1)) else (ironbarklaw02_RuleResult.j1 kj3 a0 bt116.2.2.2.2.2.2 true a1_0 a1_1 a1_2 a1_3 a1_4 a1_5 a2_0 a2_1 a2_2 a2_3 a2_4 a2_5 bt116.1 bt116.2.1 bt116.2.2.1 bt116.2.2.2.1 bt116.2.2.2.2.1 bt116.2.2.2.2.2.1))) else (ironbarklaw02_RuleResult.j1 kj3 a0 bt116.2.2.2.2.2.2 true a1_0 a1_1 a1_2 a1_3 a1_4 a1_5 a2_0 a2_1 a2_2 a2_3 a2_4 a2_5 bt116.1 bt116.2.1 bt116.2.2.1 bt116.2.2.2.1 bt116.2.2.2.2.1 bt116.2.2.2.2.2.1)))))) = some r := H
    have A24 := Aside0.mk A240
    clear A240
    replace H := Option.bind_eq_some_iff.mp H
    obtain ⟨⟨t116, t117, t118, t119, t120, t121, t122⟩, A250, H⟩ := H
    replace H : ((rule_Assignable.f a1_0 a1_1 a1_2 a1_3 a1_4 a1_5 a2_0 a2_1 a2_2 a2_3 a2_4 a2_5).bind fun bt124 => ((ironbarkref02_Assignable.f kj3 a1_0 a1_1 a1_2 a1_3 a1_4 a1_5 a2_0 a2_1 a2_2 a2_3 a2_4 a2_5).bind fun bt126 => (if (!(t108 == t116) || (!(t109 == t117) || (!(t110 == t118) || (!(t111 == t119) || (!(t112 == t120) || (!(t113.toList == t121.toList))))))) = true then (ironbarklaw02_RuleResult.j1 kj3 a0 t122 true a1_0 a1_1 a1_2 a1_3 a1_4 a1_5 a2_0 a2_1 a2_2 a2_3 a2_4 a2_5 t116 t117 t118 t119 t120 t121) else (if t114 = t122 then (if (bt124.1 != bt126.1) = true then (ironbarklaw02_RuleResult.j1 kj3 a0 t122 true a1_0 a1_1 a1_2 a1_3 a1_4 a1_5 a2_0 a2_1 a2_2 a2_3 a2_4 a2_5 t116 t117 t118 t119 t120 t121) else (if bt124.2 = bt126.2 then (if t114 = 0 then ((ironbarkref01_Valid.f kj3 t108 t109 t110 t111 t112 t113).bind fun t128 => (ironbarklaw02_RuleResult.j1 kj3 a0 t122 (!t128) a1_0 a1_1 a1_2 a1_3 a1_4 a1_5 a2_0 a2_1 a2_2 a2_3 a2_4 a2_5 t116 t117 t118 t119 t120 t121)) else (ironbarklaw02_RuleResult.j1 kj3 a0 t122 false a1_0 a1_1 a1_2 a1_3 a1_4 a1_5 a2_0 a2_1 a2_2 a2_3 a2_4 a2_5 t116 t117 t118 t119 t120 t121)) else (ironbarklaw02_RuleResult.j1 kj3 a0 t122 true a1_0 a1_1 a1_2 a1_3 a1_4 a1_5 a2_0 a2_1 a2_2 a2_3 a2_4 a2_5 t116 t117 t118 t119 t120 t121))) else (ironbarklaw02_RuleResult.j1 kj3 a0 t122 true a1_0 a1_1 a1_2 a1_3 a1_4 a1_5 a2_0 a2_1 a2_2 a2_3 a2_4 a2_5 t116 t117 t118 t119 t120 t121))))) = some r := H
    have A25 := Aside0.mk A250
    clear A250
    replace H := Option.bind_eq_some_iff.mp H
    obtain ⟨⟨t124, t125⟩, A260, H⟩ := H
    replace H : ((ironbarkref02_Assignable.f kj3 a1_0 a1_1 a1_2 a1_3 a1_4 a1_5 a2_0 a2_1 a2_2 a2_3 a2_4 a2_5).bind fun bt126 => (if (!(t108 == t116) || (!(t109 == t117) || (!(t110 == t118) || (!(t111 == t119) || (!(t112 == t120) || (!(t113.toList == t121.toList))))))) = true then (ironbarklaw02_RuleResult.j1 kj3 a0 t122 true a1_0 a1_1 a1_2 a1_3 a1_4 a1_5 a2_0 a2_1 a2_2 a2_3 a2_4 a2_5 t116 t117 t118 t119 t120 t121) else (if t114 = t122 then (if (t124 != bt126.1) = true then (ironbarklaw02_RuleResult.j1 kj3 a0 t122 true a1_0 a1_1 a1_2 a1_3 a1_4 a1_5 a2_0 a2_1 a2_2 a2_3 a2_4 a2_5 t116 t117 t118 t119 t120 t121) else (if t125 = bt126.2 then (if t114 = 0 then ((ironbarkref01_Valid.f kj3 t108 t109 t110 t111 t112 t113).bind fun t128 => (ironbarklaw02_RuleResult.j1 kj3 a0 t122 (!t128) a1_0 a1_1 a1_2 a1_3 a1_4 a1_5 a2_0 a2_1 a2_2 a2_3 a2_4 a2_5 t116 t117 t118 t119 t120 t121)) else (ironbarklaw02_RuleResult.j1 kj3 a0 t122 false a1_0 a1_1 a1_2 a1_3 a1_4 a1_5 a2_0 a2_1 a2_2 a2_3 a2_4 a2_5 t116 t117 t118 t119 t120 t121)) else (ironbarklaw02_RuleResult.j1 kj3 a0 t122 true a1_0 a1_1 a1_2 a1_3 a1_4 a1_5 a2_0 a2_1 a2_2 a2_3 a2_4 a2_5 t116 t117 t118 t119 t120 t121))) else (ironbarklaw02_RuleResult.j1 kj3 a0 t122 true a1_0 a1_1 a1_2 a1_3 a1_4 a1_5 a2_0 a2_1 a2_2 a2_3 a2_4 a2_5 t116 t117 t118 t119 t120 t121)))) = some r := H
    have A26 := Aside0.mk A260
    clear A260
    replace H := Option.bind_eq_some_iff.mp H
    obtain ⟨⟨t126, t127⟩, A270, H⟩ := H
    replace H : (if (!(t108 == t116) || (!(t109 == t117) || (!(t110 == t118) || (!(t111 == t119) || (!(t112 == t120) || (!(t113.toList == t121.toList))))))) = true then (ironbarklaw02_RuleResult.j1 kj3 a0 t122 true a1_0 a1_1 a1_2 a1_3 a1_4 a1_5 a2_0 a2_1 a2_2 a2_3 a2_4 a2_5 t116 t117 t118 t119 t120 t121) else (if t114 = t122 then (if (t124 != t126) = true then (ironbarklaw02_RuleResult.j1 kj3 a0 t122 true a1_0 a1_1 a1_2 a1_3 a1_4 a1_5 a2_0 a2_1 a2_2 a2_3 a2_4 a2_5 t116 t117 t118 t119 t120 t121) else (if t125 = t127 then (if t114 = 0 then ((ironbarkref01_Valid.f kj3 t108 t109 t110 t111 t112 t113).bind fun t128 => (ironbarklaw02_RuleResult.j1 kj3 a0 t122 (!t128) a1_0 a1_1 a1_2 a1_3 a1_4 a1_5 a2_0 a2_1 a2_2 a2_3 a2_4 a2_5 t116 t117 t118 t119 t120 t121)) else (ironbarklaw02_RuleResult.j1 kj3 a0 t122 false a1_0 a1_1 a1_2 a1_3 a1_4 a1_5 a2_0 a2_1 a2_2 a2_3 a2_4 a2_5 t116 t117 t118 t119 t120 t121)) else (ironbarklaw02_RuleResult.j1 kj3 a0 t122 true a1_0 a1_1 a1_2 a1_3 a1_4 a1_5 a2_0 a2_1 a2_2 a2_3 a2_4 a2_5 t116 t117 t118 t119 t120 t121))) else (ironbarklaw02_RuleResult.j1 kj3 a0 t122 true a1_0 a1_1 a1_2 a1_3 a1_4 a1_5 a2_0 a2_1 a2_2 a2_3 a2_4 a2_5 t116 t117 t118 t119 t120 t121))) = some r := H
    have A27 := Aside0.mk A270
    clear A270
    have HC28 := Aside0.mk H
    clear H
    have hnb29 := NB101_102.out
    have hnc29 := NB102_101.out
    have hcz30_0 : wc.cell? ⟨gb101, 0, none⟩ = some (.int .i64 a1_0) := (blk_cell BK101.out 0).trans rfl
    have hcz30_1 : wc.cell? ⟨gb101, 1, none⟩ = some (.int .i64 a1_1) := (blk_cell BK101.out 1).trans rfl
    have hcz30_2 : wc.cell? ⟨gb101, 2, none⟩ = some (.int .i64 a1_2) := (blk_cell BK101.out 2).trans rfl
    have hcz30_3 : wc.cell? ⟨gb101, 3, none⟩ = some (.int .i64 a1_3) := (blk_cell BK101.out 3).trans rfl
    have hcz30_4 : wc.cell? ⟨gb101, 4, none⟩ = some (.bool a1_4) := (blk_cell BK101.out 4).trans rfl
    have hcz30_5 : wc.cell? ⟨gb101, 5, none⟩ = some (.string a1_5) := (blk_cell BK101.out 5).trans rfl
    have hfz30_0 := blk_frozen BK101.out 0
    have hfz30_1 := blk_frozen BK101.out 1
    have hfz30_2 := blk_frozen BK101.out 2
    have hfz30_3 := blk_frozen BK101.out 3
    have hfz30_4 := blk_frozen BK101.out 4
    have hfz30_5 := blk_frozen BK101.out 5
    have hcz31_0 : wc.cell? ⟨gb102, 0, none⟩ = some (.int .i64 a2_0) := (blk_cell BK102.out 0).trans rfl
    have hcz31_1 : wc.cell? ⟨gb102, 1, none⟩ = some (.int .i64 a2_1) := (blk_cell BK102.out 1).trans rfl
    have hcz31_2 : wc.cell? ⟨gb102, 2, none⟩ = some (.int .i64 a2_2) := (blk_cell BK102.out 2).trans rfl
    have hcz31_3 : wc.cell? ⟨gb102, 3, none⟩ = some (.int .i64 a2_3) := (blk_cell BK102.out 3).trans rfl
    have hcz31_4 : wc.cell? ⟨gb102, 4, none⟩ = some (.bool a2_4) := (blk_cell BK102.out 4).trans rfl
    have hcz31_5 : wc.cell? ⟨gb102, 5, none⟩ = some (.string a2_5) := (blk_cell BK102.out 5).trans rfl
    have hfz31_0 := blk_frozen BK102.out 0
    have hfz31_1 := blk_frozen BK102.out 1
    have hfz31_2 := blk_frozen BK102.out 2
    have hfz31_3 := blk_frozen BK102.out 3
    have hfz31_4 := blk_frozen BK102.out 4
    have hfz31_5 := blk_frozen BK102.out 5
    go_upto_region 7 with (first | ((with_reducible refine gate_callee (f := 9) rfl ?_); refine goesL_ (some 30) rfl rfl Try.func9 (by kernel_rfl) rfl #[.string a0, .agg #[.int .i64 a1_0, .int .i64 a1_1, .int .i64 a1_2, .int .i64 a1_3, .bool a1_4, .string a1_5], .agg #[.int .i64 a2_0, .int .i64 a2_1, .int .i64 a2_2, .int .i64 a2_3, .bool a2_4, .string a2_5]] rfl (by (try simp only [List.map_toArray, List.map_cons, List.map_nil]); first | done | rfl | (simp only [List.length_drop, List.length_take]; rfl)) ?_; (with_reducible refine (rule_ResultA.calls kj3 a0 a1_0 a1_1 a1_2 a1_3 a1_4 a1_5 a2_0 a2_1 a2_2 a2_3 a2_4 a2_5 t108 t109 t110 t111 t112 t113 t114 _ A24.out).mono ?_); rintro e w32 ⟨rfl, hb⟩; refine ⟨_, rfl, ?_⟩; have n0_ := Aside0.mk (blk_below (g := gb101) (o := .cells #[.int .i64 a1_0, .int .i64 a1_1, .int .i64 a1_2, .int .i64 a1_3, .bool a1_4, .string a1_5] 25 (0, 0)) (by (with_reducible repeat (first | refine blk_drewN ?_ _ | refine blk_drew ?_ | refine blk_alloc ?_ _)); exact BK101.out) hb); have n1_ := Aside0.mk (blk_below (g := gb102) (o := .cells #[.int .i64 a2_0, .int .i64 a2_1, .int .i64 a2_2, .int .i64 a2_3, .bool a2_4, .string a2_5] 25 (0, 0)) (by (with_reducible repeat (first | refine blk_drewN ?_ _ | refine blk_drew ?_ | refine blk_alloc ?_ _)); exact BK102.out) hb); have n2_ := Aside0.mk (below_step (by repeat (first | (with_reducible first | exact HB.out | apply below_alloc | apply pw_below_drewN | apply below_drew1 | refine below_set ?_ GE101.out | refine below_set ?_ GE102.out) | exact HB.out)) hb); clear BK101; clear BK102; clear HB; have BK101 := n0_; have BK102 := n1_; have HB := n2_; clear n0_ n1_ n2_; (try clear hb); (try clear hb2); (try clear hk); (try clear hi)) | ((with_reducible refine gate_dst (N := 7) rfl ?_); (try (refine gate_guard (by rfl) ?_; dsimp only)); refine box_event ?hg (N := 7) ?hd (cs := #[.int .i64 0, .int .i64 0, .int .i64 0, .int .i64 0, .bool false, .string (⟨#[]⟩ : ByteArray)]) (t := 25) ?hr ?_; (case hd => rfl); (case hg => rfl); (case hr => first | (go_simp; done) | (go_simp; rfl)); intro gb115 hg w33 hbox hb; have n0_ := Aside0.mk (blk_below (g := gb101) (o := .cells #[.int .i64 a1_0, .int .i64 a1_1, .int .i64 a1_2, .int .i64 a1_3, .bool a1_4, .string a1_5] 25 (0, 0)) (by (with_reducible repeat (first | refine blk_drewN ?_ _ | refine blk_drew ?_ | refine blk_alloc ?_ _)); exact BK101.out) hb); have n1_ := Aside0.mk (blk_below (g := gb102) (o := .cells #[.int .i64 a2_0, .int .i64 a2_1, .int .i64 a2_2, .int .i64 a2_3, .bool a2_4, .string a2_5] 25 (0, 0)) (by (with_reducible repeat (first | refine blk_drewN ?_ _ | refine blk_drew ?_ | refine blk_alloc ?_ _)); exact BK102.out) hb); have n2_ := Aside0.mk (below_step (by repeat (first | (with_reducible first | exact HB.out | apply below_alloc | apply pw_below_drewN | apply below_drew1 | refine below_set ?_ GE101.out | refine below_set ?_ GE102.out) | exact HB.out)) hb); have n3_ := Aside0.mk (hbox); have n4_ := Aside0.mk ((by rw [hg]; exact (below_size (by repeat (first | (with_reducible first | exact HB.out | apply below_alloc | apply pw_below_drewN | apply below_drew1 | refine below_set ?_ GE101.out | refine below_set ?_ GE102.out) | exact HB.out))) : w.heap.size ≤ gb115)); have n5_ := n4_; have n6_ := Aside0.mk ((by rw [hg]; exact Nat.ne_of_lt (blk_lt (g := gb101) (o := .cells #[.int .i64 a1_0, .int .i64 a1_1, .int .i64 a1_2, .int .i64 a1_3, .bool a1_4, .string a1_5] 25 (0, 0)) (by (with_reducible repeat (first | refine blk_drewN ?_ _ | refine blk_drew ?_ | refine blk_alloc ?_ _)); exact BK101.out)) : gb101 ≠ gb115)); have n7_ := Aside0.mk ((by rw [hg]; exact Nat.ne_of_gt (blk_lt (g := gb101) (o := .cells #[.int .i64 a1_0, .int .i64 a1_1, .int .i64 a1_2, .int .i64 a1_3, .bool a1_4, .string a1_5] 25 (0, 0)) (by (with_reducible repeat (first | refine blk_drewN ?_ _ | refine blk_drew ?_ | refine blk_alloc ?_ _)); exact BK101.out)) : gb115 ≠ gb101)); have n8_ := Aside0.mk ((by rw [hg]; exact Nat.ne_of_lt (blk_lt (g := gb102) (o := .cells #[.int .i64 a2_0, .int .i64 a2_1, .int .i64 a2_2, .int .i64 a2_3, .bool a2_4, .string a2_5] 25 (0, 0)) (by (with_reducible repeat (first | refine blk_drewN ?_ _ | refine blk_drew ?_ | refine blk_alloc ?_ _)); exact BK102.out)) : gb102 ≠ gb115)); have n9_ := Aside0.mk ((by rw [hg]; exact Nat.ne_of_gt (blk_lt (g := gb102) (o := .cells #[.int .i64 a2_0, .int .i64 a2_1, .int .i64 a2_2, .int .i64 a2_3, .bool a2_4, .string a2_5] 25 (0, 0)) (by (with_reducible repeat (first | refine blk_drewN ?_ _ | refine blk_drew ?_ | refine blk_alloc ?_ _)); exact BK102.out)) : gb115 ≠ gb102)); clear BK101; clear BK102; clear HB; have BK101 := n0_; have BK102 := n1_; have HB := n2_; have BK115 := n3_; have GW115 := n4_; have GE115 := n5_; have NB101_115 := n6_; have NB115_101 := n7_; have NB102_115 := n8_; have NB115_102 := n9_; clear n0_ n1_ n2_ n3_ n4_ n5_ n6_ n7_ n8_ n9_; clear hb hbox hg; have hnb34 := NB115_101.out; have hnc34 := NB101_115.out; have hnb35 := NB115_102.out; have hnc35 := NB102_115.out; obtain ⟨hcz36_0, hcz36_1, hcz36_2, hcz36_3, hcz36_4, hcz36_5⟩ := blk_six BK115.out; obtain ⟨hfz36_0, hfz36_1, hfz36_2, hfz36_3, hfz36_4, hfz36_5⟩ := blk_six_free BK115.out; obtain ⟨hcz37_0, hcz37_1, hcz37_2, hcz37_3, hcz37_4, hcz37_5⟩ := blk_six BK101.out; obtain ⟨hfz37_0, hfz37_1, hfz37_2, hfz37_3, hfz37_4, hfz37_5⟩ := blk_six_free BK101.out; obtain ⟨hcz38_0, hcz38_1, hcz38_2, hcz38_3, hcz38_4, hcz38_5⟩ := blk_six BK102.out; obtain ⟨hfz38_0, hfz38_1, hfz38_2, hfz38_3, hfz38_4, hfz38_5⟩ := blk_six_free BK102.out) | ((with_reducible refine gate_callee (f := 17) rfl ?_); refine goesL_ (some 37) rfl rfl Try.func17 (by kernel_rfl) rfl #[.string a0, .agg #[.int .i64 a1_0, .int .i64 a1_1, .int .i64 a1_2, .int .i64 a1_3, .bool a1_4, .string a1_5], .agg #[.int .i64 a2_0, .int .i64 a2_1, .int .i64 a2_2, .int .i64 a2_3, .bool a2_4, .string a2_5]] rfl (by (try simp only [List.map_toArray, List.map_cons, List.map_nil]); first | done | rfl | (simp only [List.length_drop, List.length_take]; rfl)) ?_; (with_reducible refine (ironbarkref02_Result.calls kj3 a0 a1_0 a1_1 a1_2 a1_3 a1_4 a1_5 a2_0 a2_1 a2_2 a2_3 a2_4 a2_5 t116 t117 t118 t119 t120 t121 t122 _ A25.out).mono ?_); rintro e w39 ⟨rfl, hb⟩; refine ⟨_, rfl, ?_⟩; have n0_ := Aside0.mk (blk_below (g := gb101) (o := .cells #[.int .i64 a1_0, .int .i64 a1_1, .int .i64 a1_2, .int .i64 a1_3, .bool a1_4, .string a1_5] 25 (0, 0)) (by (with_reducible repeat (first | refine blk_drewN ?_ _ | refine blk_drew ?_ | refine blk_alloc ?_ _)); refine blk_far ?_ NB101_115.out _; (with_reducible repeat (first | refine blk_drewN ?_ _ | refine blk_drew ?_ | refine blk_alloc ?_ _)); refine blk_far ?_ NB101_115.out _; (with_reducible repeat (first | refine blk_drewN ?_ _ | refine blk_drew ?_ | refine blk_alloc ?_ _)); refine blk_far ?_ NB101_115.out _; (with_reducible repeat (first | refine blk_drewN ?_ _ | refine blk_drew ?_ | refine blk_alloc ?_ _)); refine blk_far ?_ NB101_115.out _; (with_reducible repeat (first | refine blk_drewN ?_ _ | refine blk_drew ?_ | refine blk_alloc ?_ _)); refine blk_far ?_ NB101_115.out _; (with_reducible repeat (first | refine blk_drewN ?_ _ | refine blk_drew ?_ | refine blk_alloc ?_ _)); refine blk_far ?_ NB101_115.out _; (with_reducible repeat (first | refine blk_drewN ?_ _ | refine blk_drew ?_ | refine blk_alloc ?_ _)); exact BK101.out) hb); have n1_ := Aside0.mk (blk_below (g := gb102) (o := .cells #[.int .i64 a2_0, .int .i64 a2_1, .int .i64 a2_2, .int .i64 a2_3, .bool a2_4, .string a2_5] 25 (0, 0)) (by (with_reducible repeat (first | refine blk_drewN ?_ _ | refine blk_drew ?_ | refine blk_alloc ?_ _)); refine blk_far ?_ NB102_115.out _; (with_reducible repeat (first | refine blk_drewN ?_ _ | refine blk_drew ?_ | refine blk_alloc ?_ _)); refine blk_far ?_ NB102_115.out _; (with_reducible repeat (first | refine blk_drewN ?_ _ | refine blk_drew ?_ | refine blk_alloc ?_ _)); refine blk_far ?_ NB102_115.out _; (with_reducible repeat (first | refine blk_drewN ?_ _ | refine blk_drew ?_ | refine blk_alloc ?_ _)); refine blk_far ?_ NB102_115.out _; (with_reducible repeat (first | refine blk_drewN ?_ _ | refine blk_drew ?_ | refine blk_alloc ?_ _)); refine blk_far ?_ NB102_115.out _; (with_reducible repeat (first | refine blk_drewN ?_ _ | refine blk_drew ?_ | refine blk_alloc ?_ _)); refine blk_far ?_ NB102_115.out _; (with_reducible repeat (first | refine blk_drewN ?_ _ | refine blk_drew ?_ | refine blk_alloc ?_ _)); exact BK102.out) hb); have n2_ := Aside0.mk (blk_below (g := gb115) (o := .cells #[.int .i64 t108, .int .i64 t109, .int .i64 t110, .int .i64 t111, .bool t112, .string t113] 25 (0, 0)) (by (with_reducible repeat (first | refine blk_drewN ?_ _ | refine blk_drew ?_ | refine blk_alloc ?_ _)); refine blk_put (cs := #[.int .i64 t108, .int .i64 t109, .int .i64 t110, .int .i64 t111, .bool t112, .string (⟨#[]⟩ : ByteArray)]) ?_ 5 _ rfl; (with_reducible repeat (first | refine blk_drewN ?_ _ | refine blk_drew ?_ | refine blk_alloc ?_ _)); refine blk_put (cs := #[.int .i64 t108, .int .i64 t109, .int .i64 t110, .int .i64 t111, .bool false, .string (⟨#[]⟩ : ByteArray)]) ?_ 4 _ rfl; (with_reducible repeat (first | refine blk_drewN ?_ _ | refine blk_drew ?_ | refine blk_alloc ?_ _)); refine blk_put (cs := #[.int .i64 t108, .int .i64 t109, .int .i64 t110, .int .i64 0, .bool false, .string (⟨#[]⟩ : ByteArray)]) ?_ 3 _ rfl; (with_reducible repeat (first | refine blk_drewN ?_ _ | refine blk_drew ?_ | refine blk_alloc ?_ _)); refine blk_put (cs := #[.int .i64 t108, .int .i64 t109, .int .i64 0, .int .i64 0, .bool false, .string (⟨#[]⟩ : ByteArray)]) ?_ 2 _ rfl; (with_reducible repeat (first | refine blk_drewN ?_ _ | refine blk_drew ?_ | refine blk_alloc ?_ _)); refine blk_put (cs := #[.int .i64 t108, .int .i64 0, .int .i64 0, .int .i64 0, .bool false, .string (⟨#[]⟩ : ByteArray)]) ?_ 1 _ rfl; (with_reducible repeat (first | refine blk_drewN ?_ _ | refine blk_drew ?_ | refine blk_alloc ?_ _)); refine blk_put (cs := #[.int .i64 0, .int .i64 0, .int .i64 0, .int .i64 0, .bool false, .string (⟨#[]⟩ : ByteArray)]) ?_ 0 _ rfl; (with_reducible repeat (first | refine blk_drewN ?_ _ | refine blk_drew ?_ | refine blk_alloc ?_ _)); exact BK115.out) hb); have n3_ := Aside0.mk (below_step (by repeat (first | (with_reducible first | exact HB.out | apply below_alloc | apply pw_below_drewN | apply below_drew1 | refine below_set ?_ GE101.out | refine below_set ?_ GE102.out | refine below_set ?_ GE115.out) | exact HB.out)) hb); clear BK101; clear BK102; clear BK115; clear HB; have BK101 := n0_; have BK102 := n1_; have BK115 := n2_; have HB := n3_; clear n0_ n1_ n2_ n3_; (try clear hb); (try clear hb2); (try clear hk); (try clear hi)) | ((with_reducible refine gate_dst (N := 9) rfl ?_); (try (refine gate_guard (by rfl) ?_; dsimp only)); refine box_event ?hg (N := 9) ?hd (cs := #[.int .i64 0, .int .i64 0, .int .i64 0, .int .i64 0, .bool false, .string (⟨#[]⟩ : ByteArray)]) (t := 25) ?hr ?_; (case hd => rfl); (case hg => rfl); (case hr => first | (go_simp; done) | (go_simp; rfl)); intro gb123 hg w40 hbox hb; have n0_ := Aside0.mk (blk_below (g := gb101) (o := .cells #[.int .i64 a1_0, .int .i64 a1_1, .int .i64 a1_2, .int .i64 a1_3, .bool a1_4, .string a1_5] 25 (0, 0)) (by (with_reducible repeat (first | refine blk_drewN ?_ _ | refine blk_drew ?_ | refine blk_alloc ?_ _)); exact BK101.out) hb); have n1_ := Aside0.mk (blk_below (g := gb102) (o := .cells #[.int .i64 a2_0, .int .i64 a2_1, .int .i64 a2_2, .int .i64 a2_3, .bool a2_4, .string a2_5] 25 (0, 0)) (by (with_reducible repeat (first | refine blk_drewN ?_ _ | refine blk_drew ?_ | refine blk_alloc ?_ _)); exact BK102.out) hb); have n2_ := Aside0.mk (blk_below (g := gb115) (o := .cells #[.int .i64 t108, .int .i64 t109, .int .i64 t110, .int .i64 t111, .bool t112, .string t113] 25 (0, 0)) (by (with_reducible repeat (first | refine blk_drewN ?_ _ | refine blk_drew ?_ | refine blk_alloc ?_ _)); exact BK115.out) hb); have n3_ := Aside0.mk (below_step (by repeat (first | (with_reducible first | exact HB.out | apply below_alloc | apply pw_below_drewN | apply below_drew1 | refine below_set ?_ GE101.out | refine below_set ?_ GE102.out | refine below_set ?_ GE115.out) | exact HB.out)) hb); have n4_ := Aside0.mk (hbox); have n5_ := Aside0.mk ((by rw [hg]; exact (below_size (by repeat (first | (with_reducible first | exact HB.out | apply below_alloc | apply pw_below_drewN | apply below_drew1 | refine below_set ?_ GE101.out | refine below_set ?_ GE102.out | refine below_set ?_ GE115.out) | exact HB.out))) : w.heap.size ≤ gb123)); have n6_ := n5_; have n7_ := Aside0.mk ((by rw [hg]; exact Nat.ne_of_lt (blk_lt (g := gb101) (o := .cells #[.int .i64 a1_0, .int .i64 a1_1, .int .i64 a1_2, .int .i64 a1_3, .bool a1_4, .string a1_5] 25 (0, 0)) (by (with_reducible repeat (first | refine blk_drewN ?_ _ | refine blk_drew ?_ | refine blk_alloc ?_ _)); exact BK101.out)) : gb101 ≠ gb123)); have n8_ := Aside0.mk ((by rw [hg]; exact Nat.ne_of_gt (blk_lt (g := gb101) (o := .cells #[.int .i64 a1_0, .int .i64 a1_1, .int .i64 a1_2, .int .i64 a1_3, .bool a1_4, .string a1_5] 25 (0, 0)) (by (with_reducible repeat (first | refine blk_drewN ?_ _ | refine blk_drew ?_ | refine blk_alloc ?_ _)); exact BK101.out)) : gb123 ≠ gb101)); have n9_ := Aside0.mk ((by rw [hg]; exact Nat.ne_of_lt (blk_lt (g := gb102) (o := .cells #[.int .i64 a2_0, .int .i64 a2_1, .int .i64 a2_2, .int .i64 a2_3, .bool a2_4, .string a2_5] 25 (0, 0)) (by (with_reducible repeat (first | refine blk_drewN ?_ _ | refine blk_drew ?_ | refine blk_alloc ?_ _)); exact BK102.out)) : gb102 ≠ gb123)); have n10_ := Aside0.mk ((by rw [hg]; exact Nat.ne_of_gt (blk_lt (g := gb102) (o := .cells #[.int .i64 a2_0, .int .i64 a2_1, .int .i64 a2_2, .int .i64 a2_3, .bool a2_4, .string a2_5] 25 (0, 0)) (by (with_reducible repeat (first | refine blk_drewN ?_ _ | refine blk_drew ?_ | refine blk_alloc ?_ _)); exact BK102.out)) : gb123 ≠ gb102)); have n11_ := Aside0.mk ((by rw [hg]; exact Nat.ne_of_lt (blk_lt (g := gb115) (o := .cells #[.int .i64 t108, .int .i64 t109, .int .i64 t110, .int .i64 t111, .bool t112, .string t113] 25 (0, 0)) (by (with_reducible repeat (first | refine blk_drewN ?_ _ | refine blk_drew ?_ | refine blk_alloc ?_ _)); exact BK115.out)) : gb115 ≠ gb123)); have n12_ := Aside0.mk ((by rw [hg]; exact Nat.ne_of_gt (blk_lt (g := gb115) (o := .cells #[.int .i64 t108, .int .i64 t109, .int .i64 t110, .int .i64 t111, .bool t112, .string t113] 25 (0, 0)) (by (with_reducible repeat (first | refine blk_drewN ?_ _ | refine blk_drew ?_ | refine blk_alloc ?_ _)); exact BK115.out)) : gb123 ≠ gb115)); clear BK101; clear BK102; clear BK115; clear HB; have BK101 := n0_; have BK102 := n1_; have BK115 := n2_; have HB := n3_; have BK123 := n4_; have GW123 := n5_; have GE123 := n6_; have NB101_123 := n7_; have NB123_101 := n8_; have NB102_123 := n9_; have NB123_102 := n10_; have NB115_123 := n11_; have NB123_115 := n12_; clear n0_ n1_ n2_ n3_ n4_ n5_ n6_ n7_ n8_ n9_ n10_ n11_ n12_; clear hb hbox hg; have hnb41 := NB123_101.out; have hnc41 := NB101_123.out; have hnb42 := NB123_102.out; have hnc42 := NB102_123.out; have hnb43 := NB123_115.out; have hnc43 := NB115_123.out; obtain ⟨hcz44_0, hcz44_1, hcz44_2, hcz44_3, hcz44_4, hcz44_5⟩ := blk_six BK123.out; obtain ⟨hfz44_0, hfz44_1, hfz44_2, hfz44_3, hfz44_4, hfz44_5⟩ := blk_six_free BK123.out; obtain ⟨hcz45_0, hcz45_1, hcz45_2, hcz45_3, hcz45_4, hcz45_5⟩ := blk_six BK101.out; obtain ⟨hfz45_0, hfz45_1, hfz45_2, hfz45_3, hfz45_4, hfz45_5⟩ := blk_six_free BK101.out; obtain ⟨hcz46_0, hcz46_1, hcz46_2, hcz46_3, hcz46_4, hcz46_5⟩ := blk_six BK102.out; obtain ⟨hfz46_0, hfz46_1, hfz46_2, hfz46_3, hfz46_4, hfz46_5⟩ := blk_six_free BK102.out) | ((with_reducible refine gate_callee (f := 18) rfl ?_); refine goesL_ (some 43) rfl rfl Try.func18 (by kernel_rfl) rfl #[.agg #[.int .i64 a1_0, .int .i64 a1_1, .int .i64 a1_2, .int .i64 a1_3, .bool a1_4, .string a1_5], .agg #[.int .i64 a2_0, .int .i64 a2_1, .int .i64 a2_2, .int .i64 a2_3, .bool a2_4, .string a2_5]] rfl (by (try simp only [List.map_toArray, List.map_cons, List.map_nil]); first | done | rfl | (simp only [List.length_drop, List.length_take]; rfl)) ?_; (with_reducible refine (rule_Assignable.calls a1_0 a1_1 a1_2 a1_3 a1_4 a1_5 a2_0 a2_1 a2_2 a2_3 a2_4 a2_5 t124 t125 _ A26.out).mono ?_); rintro e w47 ⟨rfl, hb⟩; refine ⟨_, rfl, ?_⟩; have n0_ := Aside0.mk (blk_below (g := gb101) (o := .cells #[.int .i64 a1_0, .int .i64 a1_1, .int .i64 a1_2, .int .i64 a1_3, .bool a1_4, .string a1_5] 25 (0, 0)) (by (with_reducible repeat (first | refine blk_drewN ?_ _ | refine blk_drew ?_ | refine blk_alloc ?_ _)); refine blk_far ?_ NB101_123.out _; (with_reducible repeat (first | refine blk_drewN ?_ _ | refine blk_drew ?_ | refine blk_alloc ?_ _)); refine blk_far ?_ NB101_123.out _; (with_reducible repeat (first | refine blk_drewN ?_ _ | refine blk_drew ?_ | refine blk_alloc ?_ _)); refine blk_far ?_ NB101_123.out _; (with_reducible repeat (first | refine blk_drewN ?_ _ | refine blk_drew ?_ | refine blk_alloc ?_ _)); refine blk_far ?_ NB101_123.out _; (with_reducible repeat (first | refine blk_drewN ?_ _ | refine blk_drew ?_ | refine blk_alloc ?_ _)); refine blk_far ?_ NB101_123.out _; (with_reducible repeat (first | refine blk_drewN ?_ _ | refine blk_drew ?_ | refine blk_alloc ?_ _)); refine blk_far ?_ NB101_123.out _; (with_reducible repeat (first | refine blk_drewN ?_ _ | refine blk_drew ?_ | refine blk_alloc ?_ _)); exact BK101.out) hb); have n1_ := Aside0.mk (blk_below (g := gb102) (o := .cells #[.int .i64 a2_0, .int .i64 a2_1, .int .i64 a2_2, .int .i64 a2_3, .bool a2_4, .string a2_5] 25 (0, 0)) (by (with_reducible repeat (first | refine blk_drewN ?_ _ | refine blk_drew ?_ | refine blk_alloc ?_ _)); refine blk_far ?_ NB102_123.out _; (with_reducible repeat (first | refine blk_drewN ?_ _ | refine blk_drew ?_ | refine blk_alloc ?_ _)); refine blk_far ?_ NB102_123.out _; (with_reducible repeat (first | refine blk_drewN ?_ _ | refine blk_drew ?_ | refine blk_alloc ?_ _)); refine blk_far ?_ NB102_123.out _; (with_reducible repeat (first | refine blk_drewN ?_ _ | refine blk_drew ?_ | refine blk_alloc ?_ _)); refine blk_far ?_ NB102_123.out _; (with_reducible repeat (first | refine blk_drewN ?_ _ | refine blk_drew ?_ | refine blk_alloc ?_ _)); refine blk_far ?_ NB102_123.out _; (with_reducible repeat (first | refine blk_drewN ?_ _ | refine blk_drew ?_ | refine blk_alloc ?_ _)); refine blk_far ?_ NB102_123.out _; (with_reducible repeat (first | refine blk_drewN ?_ _ | refine blk_drew ?_ | refine blk_alloc ?_ _)); exact BK102.out) hb); have n2_ := Aside0.mk (blk_below (g := gb115) (o := .cells #[.int .i64 t108, .int .i64 t109, .int .i64 t110, .int .i64 t111, .bool t112, .string t113] 25 (0, 0)) (by (with_reducible repeat (first | refine blk_drewN ?_ _ | refine blk_drew ?_ | refine blk_alloc ?_ _)); refine blk_far ?_ NB115_123.out _; (with_reducible repeat (first | refine blk_drewN ?_ _ | refine blk_drew ?_ | refine blk_alloc ?_ _)); refine blk_far ?_ NB115_123.out _; (with_reducible repeat (first | refine blk_drewN ?_ _ | refine blk_drew ?_ | refine blk_alloc ?_ _)); refine blk_far ?_ NB115_123.out _; (with_reducible repeat (first | refine blk_drewN ?_ _ | refine blk_drew ?_ | refine blk_alloc ?_ _)); refine blk_far ?_ NB115_123.out _; (with_reducible repeat (first | refine blk_drewN ?_ _ | refine blk_drew ?_ | refine blk_alloc ?_ _)); refine blk_far ?_ NB115_123.out _; (with_reducible repeat (first | refine blk_drewN ?_ _ | refine blk_drew ?_ | refine blk_alloc ?_ _)); refine blk_far ?_ NB115_123.out _; (with_reducible repeat (first | refine blk_drewN ?_ _ | refine blk_drew ?_ | refine blk_alloc ?_ _)); exact BK115.out) hb); have n3_ := Aside0.mk (blk_below (g := gb123) (o := .cells #[.int .i64 t116, .int .i64 t117, .int .i64 t118, .int .i64 t119, .bool t120, .string t121] 25 (0, 0)) (by (with_reducible repeat (first | refine blk_drewN ?_ _ | refine blk_drew ?_ | refine blk_alloc ?_ _)); refine blk_put (cs := #[.int .i64 t116, .int .i64 t117, .int .i64 t118, .int .i64 t119, .bool t120, .string (⟨#[]⟩ : ByteArray)]) ?_ 5 _ rfl; (with_reducible repeat (first | refine blk_drewN ?_ _ | refine blk_drew ?_ | refine blk_alloc ?_ _)); refine blk_put (cs := #[.int .i64 t116, .int .i64 t117, .int .i64 t118, .int .i64 t119, .bool false, .string (⟨#[]⟩ : ByteArray)]) ?_ 4 _ rfl; (with_reducible repeat (first | refine blk_drewN ?_ _ | refine blk_drew ?_ | refine blk_alloc ?_ _)); refine blk_put (cs := #[.int .i64 t116, .int .i64 t117, .int .i64 t118, .int .i64 0, .bool false, .string (⟨#[]⟩ : ByteArray)]) ?_ 3 _ rfl; (with_reducible repeat (first | refine blk_drewN ?_ _ | refine blk_drew ?_ | refine blk_alloc ?_ _)); refine blk_put (cs := #[.int .i64 t116, .int .i64 t117, .int .i64 0, .int .i64 0, .bool false, .string (⟨#[]⟩ : ByteArray)]) ?_ 2 _ rfl; (with_reducible repeat (first | refine blk_drewN ?_ _ | refine blk_drew ?_ | refine blk_alloc ?_ _)); refine blk_put (cs := #[.int .i64 t116, .int .i64 0, .int .i64 0, .int .i64 0, .bool false, .string (⟨#[]⟩ : ByteArray)]) ?_ 1 _ rfl; (with_reducible repeat (first | refine blk_drewN ?_ _ | refine blk_drew ?_ | refine blk_alloc ?_ _)); refine blk_put (cs := #[.int .i64 0, .int .i64 0, .int .i64 0, .int .i64 0, .bool false, .string (⟨#[]⟩ : ByteArray)]) ?_ 0 _ rfl; (with_reducible repeat (first | refine blk_drewN ?_ _ | refine blk_drew ?_ | refine blk_alloc ?_ _)); exact BK123.out) hb); have n4_ := Aside0.mk (below_step (by repeat (first | (with_reducible first | exact HB.out | apply below_alloc | apply pw_below_drewN | apply below_drew1 | refine below_set ?_ GE101.out | refine below_set ?_ GE102.out | refine below_set ?_ GE115.out | refine below_set ?_ GE123.out) | exact HB.out)) hb); clear BK101; clear BK102; clear BK115; clear BK123; clear HB; have BK101 := n0_; have BK102 := n1_; have BK115 := n2_; have BK123 := n3_; have HB := n4_; clear n0_ n1_ n2_ n3_ n4_; (try clear hb); (try clear hb2); (try clear hk); (try clear hi); obtain ⟨hcz48_0, hcz48_1, hcz48_2, hcz48_3, hcz48_4, hcz48_5⟩ := blk_six BK101.out; obtain ⟨hfz48_0, hfz48_1, hfz48_2, hfz48_3, hfz48_4, hfz48_5⟩ := blk_six_free BK101.out; obtain ⟨hcz49_0, hcz49_1, hcz49_2, hcz49_3, hcz49_4, hcz49_5⟩ := blk_six BK102.out; obtain ⟨hfz49_0, hfz49_1, hfz49_2, hfz49_3, hfz49_4, hfz49_5⟩ := blk_six_free BK102.out) | ((with_reducible refine gate_callee (f := 19) rfl ?_); refine goesL_ (some 49) rfl rfl Try.func19 (by kernel_rfl) rfl #[.agg #[.int .i64 a1_0, .int .i64 a1_1, .int .i64 a1_2, .int .i64 a1_3, .bool a1_4, .string a1_5], .agg #[.int .i64 a2_0, .int .i64 a2_1, .int .i64 a2_2, .int .i64 a2_3, .bool a2_4, .string a2_5]] rfl (by (try simp only [List.map_toArray, List.map_cons, List.map_nil]); first | done | rfl | (simp only [List.length_drop, List.length_take]; rfl)) ?_; (with_reducible refine (ironbarkref02_Assignable.calls kj3 a1_0 a1_1 a1_2 a1_3 a1_4 a1_5 a2_0 a2_1 a2_2 a2_3 a2_4 a2_5 t126 t127 _ A27.out).mono ?_); rintro e w50 ⟨rfl, hb⟩; refine ⟨_, rfl, ?_⟩; have n0_ := Aside0.mk (blk_below (g := gb101) (o := .cells #[.int .i64 a1_0, .int .i64 a1_1, .int .i64 a1_2, .int .i64 a1_3, .bool a1_4, .string a1_5] 25 (0, 0)) (by (with_reducible repeat (first | refine blk_drewN ?_ _ | refine blk_drew ?_ | refine blk_alloc ?_ _)); exact BK101.out) hb); have n1_ := Aside0.mk (blk_below (g := gb102) (o := .cells #[.int .i64 a2_0, .int .i64 a2_1, .int .i64 a2_2, .int .i64 a2_3, .bool a2_4, .string a2_5] 25 (0, 0)) (by (with_reducible repeat (first | refine blk_drewN ?_ _ | refine blk_drew ?_ | refine blk_alloc ?_ _)); exact BK102.out) hb); have n2_ := Aside0.mk (blk_below (g := gb115) (o := .cells #[.int .i64 t108, .int .i64 t109, .int .i64 t110, .int .i64 t111, .bool t112, .string t113] 25 (0, 0)) (by (with_reducible repeat (first | refine blk_drewN ?_ _ | refine blk_drew ?_ | refine blk_alloc ?_ _)); exact BK115.out) hb); have n3_ := Aside0.mk (blk_below (g := gb123) (o := .cells #[.int .i64 t116, .int .i64 t117, .int .i64 t118, .int .i64 t119, .bool t120, .string t121] 25 (0, 0)) (by (with_reducible repeat (first | refine blk_drewN ?_ _ | refine blk_drew ?_ | refine blk_alloc ?_ _)); exact BK123.out) hb); have n4_ := Aside0.mk (below_step (by repeat (first | (with_reducible first | exact HB.out | apply below_alloc | apply pw_below_drewN | apply below_drew1 | refine below_set ?_ GE101.out | refine below_set ?_ GE102.out | refine below_set ?_ GE115.out | refine below_set ?_ GE123.out) | exact HB.out)) hb); clear BK101; clear BK102; clear BK115; clear BK123; clear HB; have BK101 := n0_; have BK102 := n1_; have BK115 := n2_; have BK123 := n3_; have HB := n4_; clear n0_ n1_ n2_ n3_ n4_; (try clear hb); (try clear hb2); (try clear hk); (try clear hi)))
    (try simp only [Act.put, List.setIfInBounds_toArray, List.set_cons_zero, List.set_cons_succ])
    go_cut [78] (fun v78 wc => ∃ (kq : Nat) (x78_27 : Bool), v78 = .bool x78_27 ∧ Aside0 (ironbarklaw02_RuleResult.j1 kq a0 t122 x78_27 a1_0 a1_1 a1_2 a1_3 a1_4 a1_5 a2_0 a2_1 a2_2 a2_3 a2_4 a2_5 t116 t117 t118 t119 t120 t121 = some r) ∧ Aside0 (kq ≤ kj3) ∧ Aside0 (wc.heap[gb101]? = some (.cells #[.int .i64 a1_0, .int .i64 a1_1, .int .i64 a1_2, .int .i64 a1_3, .bool a1_4, .string a1_5] 25 (0, 0))) ∧ Aside0 (wc.heap[gb102]? = some (.cells #[.int .i64 a2_0, .int .i64 a2_1, .int .i64 a2_2, .int .i64 a2_3, .bool a2_4, .string a2_5] 25 (0, 0))) ∧ Aside0 (wc.heap[gb115]? = some (.cells #[.int .i64 t108, .int .i64 t109, .int .i64 t110, .int .i64 t111, .bool t112, .string t113] 25 (0, 0))) ∧ Aside0 (wc.heap[gb123]? = some (.cells #[.int .i64 t116, .int .i64 t117, .int .i64 t118, .int .i64 t119, .bool t120, .string t121] 25 (0, 0))) ∧ Aside0 (Below w.heap.size w wc))
    case first =>
     have H := HC28.out
     clear HC28
     by_cases c51 : (!(t108 == t116) || (!(t109 == t117) || (!(t110 == t118) || (!(t111 == t119) || (!(t112 == t120) || (!(t113.toList == t121.toList))))))) = true
     ·rw [if_pos c51] at H
      have c51b0 : (!(t108 == t116) || (!(t109 == t117) || (!(t110 == t118) || (!(t111 == t119) || (!(t112 == t120) || (!(t113.toList == t121.toList))))))) = true := c51
      clear c51
      (first | rw [c51b0] | (simp only [i64_w, i32_w]; rw [c51b0]) | skip)
      have H' := Aside0.mk H
      clear H
      have hnb52 := NB115_101.out
      have hnc52 := NB101_115.out
      have hnb53 := NB115_102.out
      have hnc53 := NB102_115.out
      have hnb54 := NB115_123.out
      have hnc54 := NB123_115.out
      have hcz55_0 : w50.cell? ⟨gb115, 0, none⟩ = some (.int .i64 t108) := (blk_cell BK115.out 0).trans rfl
      have hcz55_1 : w50.cell? ⟨gb115, 1, none⟩ = some (.int .i64 t109) := (blk_cell BK115.out 1).trans rfl
      have hcz55_2 : w50.cell? ⟨gb115, 2, none⟩ = some (.int .i64 t110) := (blk_cell BK115.out 2).trans rfl
      have hcz55_3 : w50.cell? ⟨gb115, 3, none⟩ = some (.int .i64 t111) := (blk_cell BK115.out 3).trans rfl
      have hcz55_4 : w50.cell? ⟨gb115, 4, none⟩ = some (.bool t112) := (blk_cell BK115.out 4).trans rfl
      have hcz55_5 : w50.cell? ⟨gb115, 5, none⟩ = some (.string t113) := (blk_cell BK115.out 5).trans rfl
      have hfz55_0 := blk_frozen BK115.out 0
      have hfz55_1 := blk_frozen BK115.out 1
      have hfz55_2 := blk_frozen BK115.out 2
      have hfz55_3 := blk_frozen BK115.out 3
      have hfz55_4 := blk_frozen BK115.out 4
      have hfz55_5 := blk_frozen BK115.out 5
      have hnb56 := NB123_101.out
      have hnc56 := NB101_123.out
      have hnb57 := NB123_102.out
      have hnc57 := NB102_123.out
      have hcz58_0 : w50.cell? ⟨gb123, 0, none⟩ = some (.int .i64 t116) := (blk_cell BK123.out 0).trans rfl
      have hcz58_1 : w50.cell? ⟨gb123, 1, none⟩ = some (.int .i64 t117) := (blk_cell BK123.out 1).trans rfl
      have hcz58_2 : w50.cell? ⟨gb123, 2, none⟩ = some (.int .i64 t118) := (blk_cell BK123.out 2).trans rfl
      have hcz58_3 : w50.cell? ⟨gb123, 3, none⟩ = some (.int .i64 t119) := (blk_cell BK123.out 3).trans rfl
      have hcz58_4 : w50.cell? ⟨gb123, 4, none⟩ = some (.bool t120) := (blk_cell BK123.out 4).trans rfl
      have hcz58_5 : w50.cell? ⟨gb123, 5, none⟩ = some (.string t121) := (blk_cell BK123.out 5).trans rfl
      have hfz58_0 := blk_frozen BK123.out 0
      have hfz58_1 := blk_frozen BK123.out 1
      have hfz58_2 := blk_frozen BK123.out 2
      have hfz58_3 := blk_frozen BK123.out 3
      have hfz58_4 := blk_frozen BK123.out 4
      have hfz58_5 := blk_frozen BK123.out 5
      go_wp2
      go_meet
      case rel => exact ⟨_, (true), (by first | rfl | (simp; done) | (generalize ByteArray.toList _ = l_; cases l_ <;> rfl) | (simp [*]; done)), H', ⟨by have := HJ3.out; first | omega | exact Nat.le_refl _⟩, ⟨by (with_reducible repeat (first | refine blk_drewN ?_ _ | refine blk_drew ?_ | refine blk_alloc ?_ _)); exact BK101.out⟩, ⟨by (with_reducible repeat (first | refine blk_drewN ?_ _ | refine blk_drew ?_ | refine blk_alloc ?_ _)); exact BK102.out⟩, ⟨by (with_reducible repeat (first | refine blk_drewN ?_ _ | refine blk_drew ?_ | refine blk_alloc ?_ _)); exact BK115.out⟩, ⟨by (with_reducible repeat (first | refine blk_drewN ?_ _ | refine blk_drew ?_ | refine blk_alloc ?_ _)); exact BK123.out⟩, ⟨by repeat (first | (with_reducible first | exact HB.out | apply below_alloc | apply pw_below_drewN | apply below_drew1 | refine below_set ?_ GE101.out | refine below_set ?_ GE102.out | refine below_set ?_ GE115.out | refine below_set ?_ GE123.out) | exact HB.out)⟩⟩
     ·rw [if_neg c51] at H
      have c51b0 : (!(t108 == t116) || (!(t109 == t117) || (!(t110 == t118) || (!(t111 == t119) || (!(t112 == t120) || (!(t113.toList == t121.toList))))))) = false := by simpa using c51
      clear c51
      (first | rw [c51b0] | (simp only [i64_w, i32_w]; rw [c51b0]) | skip)
      by_cases c59 : t114 = t122
      ·rw [if_pos c59] at H
       have c59b0 : (t114 == t122) = true := beq_iff_eq.mpr c59
       have c59b1 : (t114 != t122) = false := bne_eq_false_iff_eq.mpr c59
       clear c59
       by_cases c60 : (t124 != t126) = true
       ·rw [if_pos c60] at H
        have c60b0 : (t124 != t126) = true := c60
        (try (have c60b1 : decide (t124 = t126) = false := by simpa using c60))
        (try (have c60b2 : (t124 == t126) = false := by simpa using c60))
        (try (have c60b3 : ¬ (t124 = t126) := by simpa using c60))
        clear c60
        have H' := Aside0.mk H
        clear H
        have hnb61 := NB115_101.out
        have hnc61 := NB101_115.out
        have hnb62 := NB115_102.out
        have hnc62 := NB102_115.out
        have hnb63 := NB115_123.out
        have hnc63 := NB123_115.out
        have hcz64_0 : w50.cell? ⟨gb115, 0, none⟩ = some (.int .i64 t108) := (blk_cell BK115.out 0).trans rfl
        have hcz64_1 : w50.cell? ⟨gb115, 1, none⟩ = some (.int .i64 t109) := (blk_cell BK115.out 1).trans rfl
        have hcz64_2 : w50.cell? ⟨gb115, 2, none⟩ = some (.int .i64 t110) := (blk_cell BK115.out 2).trans rfl
        have hcz64_3 : w50.cell? ⟨gb115, 3, none⟩ = some (.int .i64 t111) := (blk_cell BK115.out 3).trans rfl
        have hcz64_4 : w50.cell? ⟨gb115, 4, none⟩ = some (.bool t112) := (blk_cell BK115.out 4).trans rfl
        have hcz64_5 : w50.cell? ⟨gb115, 5, none⟩ = some (.string t113) := (blk_cell BK115.out 5).trans rfl
        have hfz64_0 := blk_frozen BK115.out 0
        have hfz64_1 := blk_frozen BK115.out 1
        have hfz64_2 := blk_frozen BK115.out 2
        have hfz64_3 := blk_frozen BK115.out 3
        have hfz64_4 := blk_frozen BK115.out 4
        have hfz64_5 := blk_frozen BK115.out 5
        have hnb65 := NB123_101.out
        have hnc65 := NB101_123.out
        have hnb66 := NB123_102.out
        have hnc66 := NB102_123.out
        have hcz67_0 : w50.cell? ⟨gb123, 0, none⟩ = some (.int .i64 t116) := (blk_cell BK123.out 0).trans rfl
        have hcz67_1 : w50.cell? ⟨gb123, 1, none⟩ = some (.int .i64 t117) := (blk_cell BK123.out 1).trans rfl
        have hcz67_2 : w50.cell? ⟨gb123, 2, none⟩ = some (.int .i64 t118) := (blk_cell BK123.out 2).trans rfl
        have hcz67_3 : w50.cell? ⟨gb123, 3, none⟩ = some (.int .i64 t119) := (blk_cell BK123.out 3).trans rfl
        have hcz67_4 : w50.cell? ⟨gb123, 4, none⟩ = some (.bool t120) := (blk_cell BK123.out 4).trans rfl
        have hcz67_5 : w50.cell? ⟨gb123, 5, none⟩ = some (.string t121) := (blk_cell BK123.out 5).trans rfl
        have hfz67_0 := blk_frozen BK123.out 0
        have hfz67_1 := blk_frozen BK123.out 1
        have hfz67_2 := blk_frozen BK123.out 2
        have hfz67_3 := blk_frozen BK123.out 3
        have hfz67_4 := blk_frozen BK123.out 4
        have hfz67_5 := blk_frozen BK123.out 5
        go_wp2
        go_meet
        case rel => exact ⟨_, (true), (by first | rfl | (simp; done) | (generalize ByteArray.toList _ = l_; cases l_ <;> rfl) | (simp [*]; done)), H', ⟨by have := HJ3.out; first | omega | exact Nat.le_refl _⟩, ⟨by (with_reducible repeat (first | refine blk_drewN ?_ _ | refine blk_drew ?_ | refine blk_alloc ?_ _)); exact BK101.out⟩, ⟨by (with_reducible repeat (first | refine blk_drewN ?_ _ | refine blk_drew ?_ | refine blk_alloc ?_ _)); exact BK102.out⟩, ⟨by (with_reducible repeat (first | refine blk_drewN ?_ _ | refine blk_drew ?_ | refine blk_alloc ?_ _)); exact BK115.out⟩, ⟨by (with_reducible repeat (first | refine blk_drewN ?_ _ | refine blk_drew ?_ | refine blk_alloc ?_ _)); exact BK123.out⟩, ⟨by repeat (first | (with_reducible first | exact HB.out | apply below_alloc | apply pw_below_drewN | apply below_drew1 | refine below_set ?_ GE101.out | refine below_set ?_ GE102.out | refine below_set ?_ GE115.out | refine below_set ?_ GE123.out) | exact HB.out)⟩⟩
       ·rw [if_neg c60] at H
        have c60b0 : (t124 != t126) = false := by simpa using c60
        (try (have c60b1 : decide (t124 = t126) = true := by simpa using c60))
        (try (have c60b2 : (t124 == t126) = true := by simpa using c60))
        clear c60
        by_cases c68 : t125 = t127
        ·rw [if_pos c68] at H
         have c68b0 : (t125 == t127) = true := beq_iff_eq.mpr c68
         have c68b1 : (t125 != t127) = false := bne_eq_false_iff_eq.mpr c68
         clear c68
         by_cases c69 : t114 = 0
         ·rw [if_pos c69] at H
          have c69b0 : (t114 == 0) = true := beq_iff_eq.mpr c69
          have c69b1 : (t114 != 0) = false := bne_eq_false_iff_eq.mpr c69
          clear c69
          replace H := Option.bind_eq_some_iff.mp H
          obtain ⟨t128, A700, H⟩ := H
          replace H : (ironbarklaw02_RuleResult.j1 kj3 a0 t122 (!t128) a1_0 a1_1 a1_2 a1_3 a1_4 a1_5 a2_0 a2_1 a2_2 a2_3 a2_4 a2_5 t116 t117 t118 t119 t120 t121) = some r := H
          have A70 := Aside0.mk A700
          clear A700
          have H' := Aside0.mk H
          clear H
          have hnb71 := NB115_101.out
          have hnc71 := NB101_115.out
          have hnb72 := NB115_102.out
          have hnc72 := NB102_115.out
          have hnb73 := NB115_123.out
          have hnc73 := NB123_115.out
          have hcz74_0 : w50.cell? ⟨gb115, 0, none⟩ = some (.int .i64 t108) := (blk_cell BK115.out 0).trans rfl
          have hcz74_1 : w50.cell? ⟨gb115, 1, none⟩ = some (.int .i64 t109) := (blk_cell BK115.out 1).trans rfl
          have hcz74_2 : w50.cell? ⟨gb115, 2, none⟩ = some (.int .i64 t110) := (blk_cell BK115.out 2).trans rfl
          have hcz74_3 : w50.cell? ⟨gb115, 3, none⟩ = some (.int .i64 t111) := (blk_cell BK115.out 3).trans rfl
          have hcz74_4 : w50.cell? ⟨gb115, 4, none⟩ = some (.bool t112) := (blk_cell BK115.out 4).trans rfl
          have hcz74_5 : w50.cell? ⟨gb115, 5, none⟩ = some (.string t113) := (blk_cell BK115.out 5).trans rfl
          have hfz74_0 := blk_frozen BK115.out 0
          have hfz74_1 := blk_frozen BK115.out 1
          have hfz74_2 := blk_frozen BK115.out 2
          have hfz74_3 := blk_frozen BK115.out 3
          have hfz74_4 := blk_frozen BK115.out 4
          have hfz74_5 := blk_frozen BK115.out 5
          have hnb75 := NB123_101.out
          have hnc75 := NB101_123.out
          have hnb76 := NB123_102.out
          have hnc76 := NB102_123.out
          have hcz77_0 : w50.cell? ⟨gb123, 0, none⟩ = some (.int .i64 t116) := (blk_cell BK123.out 0).trans rfl
          have hcz77_1 : w50.cell? ⟨gb123, 1, none⟩ = some (.int .i64 t117) := (blk_cell BK123.out 1).trans rfl
          have hcz77_2 : w50.cell? ⟨gb123, 2, none⟩ = some (.int .i64 t118) := (blk_cell BK123.out 2).trans rfl
          have hcz77_3 : w50.cell? ⟨gb123, 3, none⟩ = some (.int .i64 t119) := (blk_cell BK123.out 3).trans rfl
          have hcz77_4 : w50.cell? ⟨gb123, 4, none⟩ = some (.bool t120) := (blk_cell BK123.out 4).trans rfl
          have hcz77_5 : w50.cell? ⟨gb123, 5, none⟩ = some (.string t121) := (blk_cell BK123.out 5).trans rfl
          have hfz77_0 := blk_frozen BK123.out 0
          have hfz77_1 := blk_frozen BK123.out 1
          have hfz77_2 := blk_frozen BK123.out 2
          have hfz77_3 := blk_frozen BK123.out 3
          have hfz77_4 := blk_frozen BK123.out 4
          have hfz77_5 := blk_frozen BK123.out 5
          go_wp2_with (first | (go_at_call 20; (with_reducible refine (ironbarkref01_Valid.calls kj3 t108 t109 t110 t111 t112 t113 t128 _ A70.out).mono ?_); rintro e w78 ⟨rfl, hb⟩; have n0_ := Aside0.mk (blk_below (g := gb101) (o := .cells #[.int .i64 a1_0, .int .i64 a1_1, .int .i64 a1_2, .int .i64 a1_3, .bool a1_4, .string a1_5] 25 (0, 0)) (by (with_reducible repeat (first | refine blk_drewN ?_ _ | refine blk_drew ?_ | refine blk_alloc ?_ _)); exact BK101.out) hb); have n1_ := Aside0.mk (blk_below (g := gb102) (o := .cells #[.int .i64 a2_0, .int .i64 a2_1, .int .i64 a2_2, .int .i64 a2_3, .bool a2_4, .string a2_5] 25 (0, 0)) (by (with_reducible repeat (first | refine blk_drewN ?_ _ | refine blk_drew ?_ | refine blk_alloc ?_ _)); exact BK102.out) hb); have n2_ := Aside0.mk (blk_below (g := gb115) (o := .cells #[.int .i64 t108, .int .i64 t109, .int .i64 t110, .int .i64 t111, .bool t112, .string t113] 25 (0, 0)) (by (with_reducible repeat (first | refine blk_drewN ?_ _ | refine blk_drew ?_ | refine blk_alloc ?_ _)); exact BK115.out) hb); have n3_ := Aside0.mk (blk_below (g := gb123) (o := .cells #[.int .i64 t116, .int .i64 t117, .int .i64 t118, .int .i64 t119, .bool t120, .string t121] 25 (0, 0)) (by (with_reducible repeat (first | refine blk_drewN ?_ _ | refine blk_drew ?_ | refine blk_alloc ?_ _)); exact BK123.out) hb); have n4_ := Aside0.mk (below_step (by repeat (first | (with_reducible first | exact HB.out | apply below_alloc | apply pw_below_drewN | apply below_drew1 | refine below_set ?_ GE101.out | refine below_set ?_ GE102.out | refine below_set ?_ GE115.out | refine below_set ?_ GE123.out) | exact HB.out)) hb); clear BK101; clear BK102; clear BK115; clear BK123; clear HB; have BK101 := n0_; have BK102 := n1_; have BK115 := n2_; have BK123 := n3_; have HB := n4_; clear n0_ n1_ n2_ n3_ n4_; (try clear hb); (try clear hb2); (try clear hk); (try clear hi)))
          go_meet
          case rel => exact ⟨_, (!t128), (by first | rfl | (simp; done) | (generalize ByteArray.toList _ = l_; cases l_ <;> rfl) | (simp [*]; done)), H', ⟨by have := HJ3.out; first | omega | exact Nat.le_refl _⟩, ⟨by (with_reducible repeat (first | refine blk_drewN ?_ _ | refine blk_drew ?_ | refine blk_alloc ?_ _)); exact BK101.out⟩, ⟨by (with_reducible repeat (first | refine blk_drewN ?_ _ | refine blk_drew ?_ | refine blk_alloc ?_ _)); exact BK102.out⟩, ⟨by (with_reducible repeat (first | refine blk_drewN ?_ _ | refine blk_drew ?_ | refine blk_alloc ?_ _)); exact BK115.out⟩, ⟨by (with_reducible repeat (first | refine blk_drewN ?_ _ | refine blk_drew ?_ | refine blk_alloc ?_ _)); exact BK123.out⟩, ⟨by repeat (first | (with_reducible first | exact HB.out | apply below_alloc | apply pw_below_drewN | apply below_drew1 | refine below_set ?_ GE101.out | refine below_set ?_ GE102.out | refine below_set ?_ GE115.out | refine below_set ?_ GE123.out) | exact HB.out)⟩⟩
         ·rw [if_neg c69] at H
          have c69b0 : (t114 == 0) = false := beq_eq_false_iff_ne.mpr c69
          have c69b1 : (t114 != 0) = true := bne_iff_ne.mpr c69
          have H' := Aside0.mk H
          clear H
          have hnb79 := NB115_101.out
          have hnc79 := NB101_115.out
          have hnb80 := NB115_102.out
          have hnc80 := NB102_115.out
          have hnb81 := NB115_123.out
          have hnc81 := NB123_115.out
          have hcz82_0 : w50.cell? ⟨gb115, 0, none⟩ = some (.int .i64 t108) := (blk_cell BK115.out 0).trans rfl
          have hcz82_1 : w50.cell? ⟨gb115, 1, none⟩ = some (.int .i64 t109) := (blk_cell BK115.out 1).trans rfl
          have hcz82_2 : w50.cell? ⟨gb115, 2, none⟩ = some (.int .i64 t110) := (blk_cell BK115.out 2).trans rfl
          have hcz82_3 : w50.cell? ⟨gb115, 3, none⟩ = some (.int .i64 t111) := (blk_cell BK115.out 3).trans rfl
          have hcz82_4 : w50.cell? ⟨gb115, 4, none⟩ = some (.bool t112) := (blk_cell BK115.out 4).trans rfl
          have hcz82_5 : w50.cell? ⟨gb115, 5, none⟩ = some (.string t113) := (blk_cell BK115.out 5).trans rfl
          have hfz82_0 := blk_frozen BK115.out 0
          have hfz82_1 := blk_frozen BK115.out 1
          have hfz82_2 := blk_frozen BK115.out 2
          have hfz82_3 := blk_frozen BK115.out 3
          have hfz82_4 := blk_frozen BK115.out 4
          have hfz82_5 := blk_frozen BK115.out 5
          have hnb83 := NB123_101.out
          have hnc83 := NB101_123.out
          have hnb84 := NB123_102.out
          have hnc84 := NB102_123.out
          have hcz85_0 : w50.cell? ⟨gb123, 0, none⟩ = some (.int .i64 t116) := (blk_cell BK123.out 0).trans rfl
          have hcz85_1 : w50.cell? ⟨gb123, 1, none⟩ = some (.int .i64 t117) := (blk_cell BK123.out 1).trans rfl
          have hcz85_2 : w50.cell? ⟨gb123, 2, none⟩ = some (.int .i64 t118) := (blk_cell BK123.out 2).trans rfl
          have hcz85_3 : w50.cell? ⟨gb123, 3, none⟩ = some (.int .i64 t119) := (blk_cell BK123.out 3).trans rfl
          have hcz85_4 : w50.cell? ⟨gb123, 4, none⟩ = some (.bool t120) := (blk_cell BK123.out 4).trans rfl
          have hcz85_5 : w50.cell? ⟨gb123, 5, none⟩ = some (.string t121) := (blk_cell BK123.out 5).trans rfl
          have hfz85_0 := blk_frozen BK123.out 0
          have hfz85_1 := blk_frozen BK123.out 1
          have hfz85_2 := blk_frozen BK123.out 2
          have hfz85_3 := blk_frozen BK123.out 3
          have hfz85_4 := blk_frozen BK123.out 4
          have hfz85_5 := blk_frozen BK123.out 5
          go_wp2
          go_meet
          case rel => exact ⟨_, (false), (by first | rfl | (simp; done) | (generalize ByteArray.toList _ = l_; cases l_ <;> rfl) | (simp [*]; done)), H', ⟨by have := HJ3.out; first | omega | exact Nat.le_refl _⟩, ⟨by (with_reducible repeat (first | refine blk_drewN ?_ _ | refine blk_drew ?_ | refine blk_alloc ?_ _)); exact BK101.out⟩, ⟨by (with_reducible repeat (first | refine blk_drewN ?_ _ | refine blk_drew ?_ | refine blk_alloc ?_ _)); exact BK102.out⟩, ⟨by (with_reducible repeat (first | refine blk_drewN ?_ _ | refine blk_drew ?_ | refine blk_alloc ?_ _)); exact BK115.out⟩, ⟨by (with_reducible repeat (first | refine blk_drewN ?_ _ | refine blk_drew ?_ | refine blk_alloc ?_ _)); exact BK123.out⟩, ⟨by repeat (first | (with_reducible first | exact HB.out | apply below_alloc | apply pw_below_drewN | apply below_drew1 | refine below_set ?_ GE101.out | refine below_set ?_ GE102.out | refine below_set ?_ GE115.out | refine below_set ?_ GE123.out) | exact HB.out)⟩⟩
        ·rw [if_neg c68] at H
         have c68b0 : (t125 == t127) = false := beq_eq_false_iff_ne.mpr c68
         have c68b1 : (t125 != t127) = true := bne_iff_ne.mpr c68
         have H' := Aside0.mk H
         clear H
         have hnb86 := NB115_101.out
         have hnc86 := NB101_115.out
         have hnb87 := NB115_102.out
         have hnc87 := NB102_115.out
         have hnb88 := NB115_123.out
         have hnc88 := NB123_115.out
         have hcz89_0 : w50.cell? ⟨gb115, 0, none⟩ = some (.int .i64 t108) := (blk_cell BK115.out 0).trans rfl
         have hcz89_1 : w50.cell? ⟨gb115, 1, none⟩ = some (.int .i64 t109) := (blk_cell BK115.out 1).trans rfl
         have hcz89_2 : w50.cell? ⟨gb115, 2, none⟩ = some (.int .i64 t110) := (blk_cell BK115.out 2).trans rfl
         have hcz89_3 : w50.cell? ⟨gb115, 3, none⟩ = some (.int .i64 t111) := (blk_cell BK115.out 3).trans rfl
         have hcz89_4 : w50.cell? ⟨gb115, 4, none⟩ = some (.bool t112) := (blk_cell BK115.out 4).trans rfl
         have hcz89_5 : w50.cell? ⟨gb115, 5, none⟩ = some (.string t113) := (blk_cell BK115.out 5).trans rfl
         have hfz89_0 := blk_frozen BK115.out 0
         have hfz89_1 := blk_frozen BK115.out 1
         have hfz89_2 := blk_frozen BK115.out 2
         have hfz89_3 := blk_frozen BK115.out 3
         have hfz89_4 := blk_frozen BK115.out 4
         have hfz89_5 := blk_frozen BK115.out 5
         have hnb90 := NB123_101.out
         have hnc90 := NB101_123.out
         have hnb91 := NB123_102.out
         have hnc91 := NB102_123.out
         have hcz92_0 : w50.cell? ⟨gb123, 0, none⟩ = some (.int .i64 t116) := (blk_cell BK123.out 0).trans rfl
         have hcz92_1 : w50.cell? ⟨gb123, 1, none⟩ = some (.int .i64 t117) := (blk_cell BK123.out 1).trans rfl
         have hcz92_2 : w50.cell? ⟨gb123, 2, none⟩ = some (.int .i64 t118) := (blk_cell BK123.out 2).trans rfl
         have hcz92_3 : w50.cell? ⟨gb123, 3, none⟩ = some (.int .i64 t119) := (blk_cell BK123.out 3).trans rfl
         have hcz92_4 : w50.cell? ⟨gb123, 4, none⟩ = some (.bool t120) := (blk_cell BK123.out 4).trans rfl
         have hcz92_5 : w50.cell? ⟨gb123, 5, none⟩ = some (.string t121) := (blk_cell BK123.out 5).trans rfl
         have hfz92_0 := blk_frozen BK123.out 0
         have hfz92_1 := blk_frozen BK123.out 1
         have hfz92_2 := blk_frozen BK123.out 2
         have hfz92_3 := blk_frozen BK123.out 3
         have hfz92_4 := blk_frozen BK123.out 4
         have hfz92_5 := blk_frozen BK123.out 5
         go_wp2
         go_meet
         case rel => exact ⟨_, (true), (by first | rfl | (simp; done) | (generalize ByteArray.toList _ = l_; cases l_ <;> rfl) | (simp [*]; done)), H', ⟨by have := HJ3.out; first | omega | exact Nat.le_refl _⟩, ⟨by (with_reducible repeat (first | refine blk_drewN ?_ _ | refine blk_drew ?_ | refine blk_alloc ?_ _)); exact BK101.out⟩, ⟨by (with_reducible repeat (first | refine blk_drewN ?_ _ | refine blk_drew ?_ | refine blk_alloc ?_ _)); exact BK102.out⟩, ⟨by (with_reducible repeat (first | refine blk_drewN ?_ _ | refine blk_drew ?_ | refine blk_alloc ?_ _)); exact BK115.out⟩, ⟨by (with_reducible repeat (first | refine blk_drewN ?_ _ | refine blk_drew ?_ | refine blk_alloc ?_ _)); exact BK123.out⟩, ⟨by repeat (first | (with_reducible first | exact HB.out | apply below_alloc | apply pw_below_drewN | apply below_drew1 | refine below_set ?_ GE101.out | refine below_set ?_ GE102.out | refine below_set ?_ GE115.out | refine below_set ?_ GE123.out) | exact HB.out)⟩⟩
      ·rw [if_neg c59] at H
       have c59b0 : (t114 == t122) = false := beq_eq_false_iff_ne.mpr c59
       have c59b1 : (t114 != t122) = true := bne_iff_ne.mpr c59
       have H' := Aside0.mk H
       clear H
       have hnb93 := NB115_101.out
       have hnc93 := NB101_115.out
       have hnb94 := NB115_102.out
       have hnc94 := NB102_115.out
       have hnb95 := NB115_123.out
       have hnc95 := NB123_115.out
       have hcz96_0 : w50.cell? ⟨gb115, 0, none⟩ = some (.int .i64 t108) := (blk_cell BK115.out 0).trans rfl
       have hcz96_1 : w50.cell? ⟨gb115, 1, none⟩ = some (.int .i64 t109) := (blk_cell BK115.out 1).trans rfl
       have hcz96_2 : w50.cell? ⟨gb115, 2, none⟩ = some (.int .i64 t110) := (blk_cell BK115.out 2).trans rfl
       have hcz96_3 : w50.cell? ⟨gb115, 3, none⟩ = some (.int .i64 t111) := (blk_cell BK115.out 3).trans rfl
       have hcz96_4 : w50.cell? ⟨gb115, 4, none⟩ = some (.bool t112) := (blk_cell BK115.out 4).trans rfl
       have hcz96_5 : w50.cell? ⟨gb115, 5, none⟩ = some (.string t113) := (blk_cell BK115.out 5).trans rfl
       have hfz96_0 := blk_frozen BK115.out 0
       have hfz96_1 := blk_frozen BK115.out 1
       have hfz96_2 := blk_frozen BK115.out 2
       have hfz96_3 := blk_frozen BK115.out 3
       have hfz96_4 := blk_frozen BK115.out 4
       have hfz96_5 := blk_frozen BK115.out 5
       have hnb97 := NB123_101.out
       have hnc97 := NB101_123.out
       have hnb98 := NB123_102.out
       have hnc98 := NB102_123.out
       have hcz99_0 : w50.cell? ⟨gb123, 0, none⟩ = some (.int .i64 t116) := (blk_cell BK123.out 0).trans rfl
       have hcz99_1 : w50.cell? ⟨gb123, 1, none⟩ = some (.int .i64 t117) := (blk_cell BK123.out 1).trans rfl
       have hcz99_2 : w50.cell? ⟨gb123, 2, none⟩ = some (.int .i64 t118) := (blk_cell BK123.out 2).trans rfl
       have hcz99_3 : w50.cell? ⟨gb123, 3, none⟩ = some (.int .i64 t119) := (blk_cell BK123.out 3).trans rfl
       have hcz99_4 : w50.cell? ⟨gb123, 4, none⟩ = some (.bool t120) := (blk_cell BK123.out 4).trans rfl
       have hcz99_5 : w50.cell? ⟨gb123, 5, none⟩ = some (.string t121) := (blk_cell BK123.out 5).trans rfl
       have hfz99_0 := blk_frozen BK123.out 0
       have hfz99_1 := blk_frozen BK123.out 1
       have hfz99_2 := blk_frozen BK123.out 2
       have hfz99_3 := blk_frozen BK123.out 3
       have hfz99_4 := blk_frozen BK123.out 4
       have hfz99_5 := blk_frozen BK123.out 5
       go_wp2
       go_meet
       case rel => exact ⟨_, (true), (by first | rfl | (simp; done) | (generalize ByteArray.toList _ = l_; cases l_ <;> rfl) | (simp [*]; done)), H', ⟨by have := HJ3.out; first | omega | exact Nat.le_refl _⟩, ⟨by (with_reducible repeat (first | refine blk_drewN ?_ _ | refine blk_drew ?_ | refine blk_alloc ?_ _)); exact BK101.out⟩, ⟨by (with_reducible repeat (first | refine blk_drewN ?_ _ | refine blk_drew ?_ | refine blk_alloc ?_ _)); exact BK102.out⟩, ⟨by (with_reducible repeat (first | refine blk_drewN ?_ _ | refine blk_drew ?_ | refine blk_alloc ?_ _)); exact BK115.out⟩, ⟨by (with_reducible repeat (first | refine blk_drewN ?_ _ | refine blk_drew ?_ | refine blk_alloc ?_ _)); exact BK123.out⟩, ⟨by repeat (first | (with_reducible first | exact HB.out | apply below_alloc | apply pw_below_drewN | apply below_drew1 | refine below_set ?_ GE101.out | refine below_set ?_ GE102.out | refine below_set ?_ GE115.out | refine below_set ?_ GE123.out) | exact HB.out)⟩⟩
    case rest =>
     clear HC28
     try clear c1
     try clear c2
     try clear p2
     try clear c3
     try clear c4
     try clear c5
     try clear c6
     try clear c7
     try clear c8
     try clear c9
     try clear c15
     try clear c16
     try clear c17
     try clear c18
     try clear c19
     try clear c21
     try clear c29
     try clear c34
     try clear c35
     try clear c41
     try clear c42
     try clear c43
     try clear c51
     try clear c51b0
     try clear c52
     try clear c53
     try clear c54
     try clear c56
     try clear c57
     try clear c59
     try clear c59b0
     try clear c59b1
     try clear c60
     try clear c60b0
     try clear c60b1
     try clear c60b2
     try clear c61
     try clear c62
     try clear c63
     try clear c65
     try clear c66
     try clear c68
     try clear c68b0
     try clear c68b1
     try clear c69
     try clear c69b0
     try clear c69b1
     try clear c71
     try clear c72
     try clear c73
     try clear c75
     try clear c76
     try clear c79
     try clear c80
     try clear c81
     try clear c83
     try clear c84
     try clear c86
     try clear c87
     try clear c88
     try clear c90
     try clear c91
     try clear c93
     try clear c94
     try clear c95
     try clear c97
     try clear c98
     try clear hcz10_0
     try clear hcz10_1
     try clear hcz10_2
     try clear hcz10_3
     try clear hcz10_4
     try clear hcz10_5
     try clear hcz11_0
     try clear hcz11_1
     try clear hcz11_2
     try clear hcz11_3
     try clear hcz11_4
     try clear hcz11_5
     try clear hcz16_0
     try clear hcz16_1
     try clear hcz16_2
     try clear hcz16_3
     try clear hcz16_4
     try clear hcz16_5
     try clear hcz17_0
     try clear hcz17_1
     try clear hcz17_2
     try clear hcz17_3
     try clear hcz17_4
     try clear hcz17_5
     try clear hcz30_0
     try clear hcz30_1
     try clear hcz30_2
     try clear hcz30_3
     try clear hcz30_4
     try clear hcz30_5
     try clear hcz31_0
     try clear hcz31_1
     try clear hcz31_2
     try clear hcz31_3
     try clear hcz31_4
     try clear hcz31_5
     try clear hcz36_0
     try clear hcz36_1
     try clear hcz36_2
     try clear hcz36_3
     try clear hcz36_4
     try clear hcz36_5
     try clear hcz37_0
     try clear hcz37_1
     try clear hcz37_2
     try clear hcz37_3
     try clear hcz37_4
     try clear hcz37_5
     try clear hcz38_0
     try clear hcz38_1
     try clear hcz38_2
     try clear hcz38_3
     try clear hcz38_4
     try clear hcz38_5
     try clear hcz44_0
     try clear hcz44_1
     try clear hcz44_2
     try clear hcz44_3
     try clear hcz44_4
     try clear hcz44_5
     try clear hcz45_0
     try clear hcz45_1
     try clear hcz45_2
     try clear hcz45_3
     try clear hcz45_4
     try clear hcz45_5
     try clear hcz46_0
     try clear hcz46_1
     try clear hcz46_2
     try clear hcz46_3
     try clear hcz46_4
     try clear hcz46_5
     try clear hcz48_0
     try clear hcz48_1
     try clear hcz48_2
     try clear hcz48_3
     try clear hcz48_4
     try clear hcz48_5
     try clear hcz49_0
     try clear hcz49_1
     try clear hcz49_2
     try clear hcz49_3
     try clear hcz49_4
     try clear hcz49_5
     try clear hcz55_0
     try clear hcz55_1
     try clear hcz55_2
     try clear hcz55_3
     try clear hcz55_4
     try clear hcz55_5
     try clear hcz58_0
     try clear hcz58_1
     try clear hcz58_2
     try clear hcz58_3
     try clear hcz58_4
     try clear hcz58_5
     try clear hcz64_0
     try clear hcz64_1
     try clear hcz64_2
     try clear hcz64_3
     try clear hcz64_4
     try clear hcz64_5
     try clear hcz67_0
     try clear hcz67_1
     try clear hcz67_2
     try clear hcz67_3
     try clear hcz67_4
     try clear hcz67_5
     try clear hcz74_0
     try clear hcz74_1
     try clear hcz74_2
     try clear hcz74_3
     try clear hcz74_4
     try clear hcz74_5
     try clear hcz77_0
     try clear hcz77_1
     try clear hcz77_2
     try clear hcz77_3
     try clear hcz77_4
     try clear hcz77_5
     try clear hcz82_0
     try clear hcz82_1
     try clear hcz82_2
     try clear hcz82_3
     try clear hcz82_4
     try clear hcz82_5
     try clear hcz85_0
     try clear hcz85_1
     try clear hcz85_2
     try clear hcz85_3
     try clear hcz85_4
     try clear hcz85_5
     try clear hcz89_0
     try clear hcz89_1
     try clear hcz89_2
     try clear hcz89_3
     try clear hcz89_4
     try clear hcz89_5
     try clear hcz92_0
     try clear hcz92_1
     try clear hcz92_2
     try clear hcz92_3
     try clear hcz92_4
     try clear hcz92_5
     try clear hcz96_0
     try clear hcz96_1
     try clear hcz96_2
     try clear hcz96_3
     try clear hcz96_4
     try clear hcz96_5
     try clear hcz99_0
     try clear hcz99_1
     try clear hcz99_2
     try clear hcz99_3
     try clear hcz99_4
     try clear hcz99_5
     try clear hfz10_0
     try clear hfz10_1
     try clear hfz10_2
     try clear hfz10_3
     try clear hfz10_4
     try clear hfz10_5
     try clear hfz11_0
     try clear hfz11_1
     try clear hfz11_2
     try clear hfz11_3
     try clear hfz11_4
     try clear hfz11_5
     try clear hfz16_0
     try clear hfz16_1
     try clear hfz16_2
     try clear hfz16_3
     try clear hfz16_4
     try clear hfz16_5
     try clear hfz17_0
     try clear hfz17_1
     try clear hfz17_2
     try clear hfz17_3
     try clear hfz17_4
     try clear hfz17_5
     try clear hfz30_0
     try clear hfz30_1
     try clear hfz30_2
     try clear hfz30_3
     try clear hfz30_4
     try clear hfz30_5
     try clear hfz31_0
     try clear hfz31_1
     try clear hfz31_2
     try clear hfz31_3
     try clear hfz31_4
     try clear hfz31_5
     try clear hfz36_0
     try clear hfz36_1
     try clear hfz36_2
     try clear hfz36_3
     try clear hfz36_4
     try clear hfz36_5
     try clear hfz37_0
     try clear hfz37_1
     try clear hfz37_2
     try clear hfz37_3
     try clear hfz37_4
     try clear hfz37_5
     try clear hfz38_0
     try clear hfz38_1
     try clear hfz38_2
     try clear hfz38_3
     try clear hfz38_4
     try clear hfz38_5
     try clear hfz44_0
     try clear hfz44_1
     try clear hfz44_2
     try clear hfz44_3
     try clear hfz44_4
     try clear hfz44_5
     try clear hfz45_0
     try clear hfz45_1
     try clear hfz45_2
     try clear hfz45_3
     try clear hfz45_4
     try clear hfz45_5
     try clear hfz46_0
     try clear hfz46_1
     try clear hfz46_2
     try clear hfz46_3
     try clear hfz46_4
     try clear hfz46_5
     try clear hfz48_0
     try clear hfz48_1
     try clear hfz48_2
     try clear hfz48_3
     try clear hfz48_4
     try clear hfz48_5
     try clear hfz49_0
     try clear hfz49_1
     try clear hfz49_2
     try clear hfz49_3
     try clear hfz49_4
     try clear hfz49_5
     try clear hfz55_0
     try clear hfz55_1
     try clear hfz55_2
     try clear hfz55_3
     try clear hfz55_4
     try clear hfz55_5
     try clear hfz58_0
     try clear hfz58_1
     try clear hfz58_2
     try clear hfz58_3
     try clear hfz58_4
     try clear hfz58_5
     try clear hfz64_0
     try clear hfz64_1
     try clear hfz64_2
     try clear hfz64_3
     try clear hfz64_4
     try clear hfz64_5
     try clear hfz67_0
     try clear hfz67_1
     try clear hfz67_2
     try clear hfz67_3
     try clear hfz67_4
     try clear hfz67_5
     try clear hfz74_0
     try clear hfz74_1
     try clear hfz74_2
     try clear hfz74_3
     try clear hfz74_4
     try clear hfz74_5
     try clear hfz77_0
     try clear hfz77_1
     try clear hfz77_2
     try clear hfz77_3
     try clear hfz77_4
     try clear hfz77_5
     try clear hfz82_0
     try clear hfz82_1
     try clear hfz82_2
     try clear hfz82_3
     try clear hfz82_4
     try clear hfz82_5
     try clear hfz85_0
     try clear hfz85_1
     try clear hfz85_2
     try clear hfz85_3
     try clear hfz85_4
     try clear hfz85_5
     try clear hfz89_0
     try clear hfz89_1
     try clear hfz89_2
     try clear hfz89_3
     try clear hfz89_4
     try clear hfz89_5
     try clear hfz92_0
     try clear hfz92_1
     try clear hfz92_2
     try clear hfz92_3
     try clear hfz92_4
     try clear hfz92_5
     try clear hfz96_0
     try clear hfz96_1
     try clear hfz96_2
     try clear hfz96_3
     try clear hfz96_4
     try clear hfz96_5
     try clear hfz99_0
     try clear hfz99_1
     try clear hfz99_2
     try clear hfz99_3
     try clear hfz99_4
     try clear hfz99_5
     try clear p2
     obtain ⟨kq, x78_27, rfl, HA, HJ27, BK101, BK102, BK115, BK123, HB⟩ := hcut
     cases kq with
     | zero => exact absurd HA.out (by simp [ironbarklaw02_RuleResult.j1])
     | succ kj27 =>
      have H := HA.out
      clear HA
      simp only [ironbarklaw02_RuleResult.j1] at H
      by_cases c100 : x78_27 = true
      ·subst c100
       have H1 : (some false) = some r := by rw [if_pos rfl] at H; exact H
       clear H
       have H := H1
       clear H1
       exact absurd ((Option.some.inj H).trans hrt_.out) (by decide)
      ·replace c100 := Bool.eq_false_iff.mpr c100
       subst c100
       have H1 : (if a0.toList = ([43] : List UInt8) then (ironbarklaw02_RuleResult.j2 kj27 a0 t122 false a1_0 a1_1 a1_2 a1_3 a1_4 a1_5 a2_0 a2_1 a2_2 a2_3 a2_4 a2_5 t116 t117 t118 t119 t120 t121) else (ironbarklaw02_RuleResult.j2 kj27 a0 t122 (a0.toList != ([42] : List UInt8)) a1_0 a1_1 a1_2 a1_3 a1_4 a1_5 a2_0 a2_1 a2_2 a2_3 a2_4 a2_5 t116 t117 t118 t119 t120 t121)) = some r := by rw [if_neg (show ¬ (false = true) by decide)] at H; exact H
       clear H
       have H := H1
       clear H1
       have HC101 := Aside0.mk H
       clear H
       go_upto_region 9 with (fail)
       go_cut [84] (fun v84 wc => ∃ (kq : Nat) (x84_100 : Bool), v84 = .bool x84_100 ∧ Aside0 (ironbarklaw02_RuleResult.j2 kq a0 t122 x84_100 a1_0 a1_1 a1_2 a1_3 a1_4 a1_5 a2_0 a2_1 a2_2 a2_3 a2_4 a2_5 t116 t117 t118 t119 t120 t121 = some r) ∧ Aside0 (kq ≤ kj27) ∧ Aside0 (wc.heap[gb101]? = some (.cells #[.int .i64 a1_0, .int .i64 a1_1, .int .i64 a1_2, .int .i64 a1_3, .bool a1_4, .string a1_5] 25 (0, 0))) ∧ Aside0 (wc.heap[gb102]? = some (.cells #[.int .i64 a2_0, .int .i64 a2_1, .int .i64 a2_2, .int .i64 a2_3, .bool a2_4, .string a2_5] 25 (0, 0))) ∧ Aside0 (wc.heap[gb115]? = some (.cells #[.int .i64 t108, .int .i64 t109, .int .i64 t110, .int .i64 t111, .bool t112, .string t113] 25 (0, 0))) ∧ Aside0 (wc.heap[gb123]? = some (.cells #[.int .i64 t116, .int .i64 t117, .int .i64 t118, .int .i64 t119, .bool t120, .string t121] 25 (0, 0))) ∧ Aside0 (Below w.heap.size w wc))
       case first =>
        have H := HC101.out
        clear HC101
        by_cases c102 : a0.toList = ([43] : List UInt8)
        ·rw [if_pos c102] at H
         have c102b0 : (a0.toList == ([43] : List UInt8)) = true := beq_iff_eq.mpr c102
         have c102b1 : (a0.toList != ([43] : List UInt8)) = false := bne_eq_false_iff_eq.mpr c102
         clear c102
         (first | rw [c102b0] | (simp only [i64_w, i32_w]; rw [c102b0]) | skip)
         have H' := Aside0.mk H
         clear H
         go_wp2
         go_meet
         case rel => exact ⟨_, (false), (by first | rfl | (simp; done) | (generalize ByteArray.toList _ = l_; cases l_ <;> rfl) | (simp [*]; done)), H', ⟨by have := HJ3.out; have := HJ27.out; first | omega | exact Nat.le_refl _⟩, ⟨by (with_reducible repeat (first | refine blk_drewN ?_ _ | refine blk_drew ?_ | refine blk_alloc ?_ _)); exact BK101.out⟩, ⟨by (with_reducible repeat (first | refine blk_drewN ?_ _ | refine blk_drew ?_ | refine blk_alloc ?_ _)); exact BK102.out⟩, ⟨by (with_reducible repeat (first | refine blk_drewN ?_ _ | refine blk_drew ?_ | refine blk_alloc ?_ _)); exact BK115.out⟩, ⟨by (with_reducible repeat (first | refine blk_drewN ?_ _ | refine blk_drew ?_ | refine blk_alloc ?_ _)); exact BK123.out⟩, ⟨by repeat (first | (with_reducible first | exact HB.out | apply below_alloc | apply pw_below_drewN | apply below_drew1 | refine below_set ?_ GE101.out | refine below_set ?_ GE102.out | refine below_set ?_ GE115.out | refine below_set ?_ GE123.out) | exact HB.out)⟩⟩
        ·rw [if_neg c102] at H
         have c102b0 : (a0.toList == ([43] : List UInt8)) = false := beq_eq_false_iff_ne.mpr c102
         have c102b1 : (a0.toList != ([43] : List UInt8)) = true := bne_iff_ne.mpr c102
         (first | rw [c102b0] | (simp only [i64_w, i32_w]; rw [c102b0]) | skip)
         have H' := Aside0.mk H
         clear H
         go_wp2
         go_meet
         case rel => exact ⟨_, ((a0.toList != ([42] : List UInt8))), (by first | rfl | (simp; done) | (generalize ByteArray.toList _ = l_; cases l_ <;> rfl) | (simp [*]; done)), H', ⟨by have := HJ3.out; have := HJ27.out; first | omega | exact Nat.le_refl _⟩, ⟨by (with_reducible repeat (first | refine blk_drewN ?_ _ | refine blk_drew ?_ | refine blk_alloc ?_ _)); exact BK101.out⟩, ⟨by (with_reducible repeat (first | refine blk_drewN ?_ _ | refine blk_drew ?_ | refine blk_alloc ?_ _)); exact BK102.out⟩, ⟨by (with_reducible repeat (first | refine blk_drewN ?_ _ | refine blk_drew ?_ | refine blk_alloc ?_ _)); exact BK115.out⟩, ⟨by (with_reducible repeat (first | refine blk_drewN ?_ _ | refine blk_drew ?_ | refine blk_alloc ?_ _)); exact BK123.out⟩, ⟨by repeat (first | (with_reducible first | exact HB.out | apply below_alloc | apply pw_below_drewN | apply below_drew1 | refine below_set ?_ GE101.out | refine below_set ?_ GE102.out | refine below_set ?_ GE115.out | refine below_set ?_ GE123.out) | exact HB.out)⟩⟩
       case rest =>
        clear HC101
        try clear c1
        try clear c2
        try clear p2
        try clear c3
        try clear c4
        try clear c5
        try clear c6
        try clear c7
        try clear c8
        try clear c9
        try clear c10
        try clear c15
        try clear c16
        try clear c17
        try clear c18
        try clear c19
        try clear c21
        try clear c29
        try clear c34
        try clear c35
        try clear c41
        try clear c42
        try clear c43
        try clear c51
        try clear c51b0
        try clear c52
        try clear c53
        try clear c54
        try clear c56
        try clear c57
        try clear c59
        try clear c59b0
        try clear c59b1
        try clear c60
        try clear c60b0
        try clear c60b1
        try clear c60b2
        try clear c61
        try clear c62
        try clear c63
        try clear c65
        try clear c66
        try clear c68
        try clear c68b0
        try clear c68b1
        try clear c69
        try clear c69b0
        try clear c69b1
        try clear c71
        try clear c72
        try clear c73
        try clear c75
        try clear c76
        try clear c79
        try clear c80
        try clear c81
        try clear c83
        try clear c84
        try clear c86
        try clear c87
        try clear c88
        try clear c90
        try clear c91
        try clear c93
        try clear c94
        try clear c95
        try clear c97
        try clear c98
        try clear c100
        try clear c102
        try clear c102b0
        try clear c102b1
        try clear hcz10_0
        try clear hcz10_1
        try clear hcz10_2
        try clear hcz10_3
        try clear hcz10_4
        try clear hcz10_5
        try clear hcz11_0
        try clear hcz11_1
        try clear hcz11_2
        try clear hcz11_3
        try clear hcz11_4
        try clear hcz11_5
        try clear hcz16_0
        try clear hcz16_1
        try clear hcz16_2
        try clear hcz16_3
        try clear hcz16_4
        try clear hcz16_5
        try clear hcz17_0
        try clear hcz17_1
        try clear hcz17_2
        try clear hcz17_3
        try clear hcz17_4
        try clear hcz17_5
        try clear hcz30_0
        try clear hcz30_1
        try clear hcz30_2
        try clear hcz30_3
        try clear hcz30_4
        try clear hcz30_5
        try clear hcz31_0
        try clear hcz31_1
        try clear hcz31_2
        try clear hcz31_3
        try clear hcz31_4
        try clear hcz31_5
        try clear hcz36_0
        try clear hcz36_1
        try clear hcz36_2
        try clear hcz36_3
        try clear hcz36_4
        try clear hcz36_5
        try clear hcz37_0
        try clear hcz37_1
        try clear hcz37_2
        try clear hcz37_3
        try clear hcz37_4
        try clear hcz37_5
        try clear hcz38_0
        try clear hcz38_1
        try clear hcz38_2
        try clear hcz38_3
        try clear hcz38_4
        try clear hcz38_5
        try clear hcz44_0
        try clear hcz44_1
        try clear hcz44_2
        try clear hcz44_3
        try clear hcz44_4
        try clear hcz44_5
        try clear hcz45_0
        try clear hcz45_1
        try clear hcz45_2
        try clear hcz45_3
        try clear hcz45_4
        try clear hcz45_5
        try clear hcz46_0
        try clear hcz46_1
        try clear hcz46_2
        try clear hcz46_3
        try clear hcz46_4
        try clear hcz46_5
        try clear hcz48_0
        try clear hcz48_1
        try clear hcz48_2
        try clear hcz48_3
        try clear hcz48_4
        try clear hcz48_5
        try clear hcz49_0
        try clear hcz49_1
        try clear hcz49_2
        try clear hcz49_3
        try clear hcz49_4
        try clear hcz49_5
        try clear hcz55_0
        try clear hcz55_1
        try clear hcz55_2
        try clear hcz55_3
        try clear hcz55_4
        try clear hcz55_5
        try clear hcz58_0
        try clear hcz58_1
        try clear hcz58_2
        try clear hcz58_3
        try clear hcz58_4
        try clear hcz58_5
        try clear hcz64_0
        try clear hcz64_1
        try clear hcz64_2
        try clear hcz64_3
        try clear hcz64_4
        try clear hcz64_5
        try clear hcz67_0
        try clear hcz67_1
        try clear hcz67_2
        try clear hcz67_3
        try clear hcz67_4
        try clear hcz67_5
        try clear hcz74_0
        try clear hcz74_1
        try clear hcz74_2
        try clear hcz74_3
        try clear hcz74_4
        try clear hcz74_5
        try clear hcz77_0
        try clear hcz77_1
        try clear hcz77_2
        try clear hcz77_3
        try clear hcz77_4
        try clear hcz77_5
        try clear hcz82_0
        try clear hcz82_1
        try clear hcz82_2
        try clear hcz82_3
        try clear hcz82_4
        try clear hcz82_5
        try clear hcz85_0
        try clear hcz85_1
        try clear hcz85_2
        try clear hcz85_3
        try clear hcz85_4
        try clear hcz85_5
        try clear hcz89_0
        try clear hcz89_1
        try clear hcz89_2
        try clear hcz89_3
        try clear hcz89_4
        try clear hcz89_5
        try clear hcz92_0
        try clear hcz92_1
        try clear hcz92_2
        try clear hcz92_3
        try clear hcz92_4
        try clear hcz92_5
        try clear hcz96_0
        try clear hcz96_1
        try clear hcz96_2
        try clear hcz96_3
        try clear hcz96_4
        try clear hcz96_5
        try clear hcz99_0
        try clear hcz99_1
        try clear hcz99_2
        try clear hcz99_3
        try clear hcz99_4
        try clear hcz99_5
        try clear hfz10_0
        try clear hfz10_1
        try clear hfz10_2
        try clear hfz10_3
        try clear hfz10_4
        try clear hfz10_5
        try clear hfz11_0
        try clear hfz11_1
        try clear hfz11_2
        try clear hfz11_3
        try clear hfz11_4
        try clear hfz11_5
        try clear hfz16_0
        try clear hfz16_1
        try clear hfz16_2
        try clear hfz16_3
        try clear hfz16_4
        try clear hfz16_5
        try clear hfz17_0
        try clear hfz17_1
        try clear hfz17_2
        try clear hfz17_3
        try clear hfz17_4
        try clear hfz17_5
        try clear hfz30_0
        try clear hfz30_1
        try clear hfz30_2
        try clear hfz30_3
        try clear hfz30_4
        try clear hfz30_5
        try clear hfz31_0
        try clear hfz31_1
        try clear hfz31_2
        try clear hfz31_3
        try clear hfz31_4
        try clear hfz31_5
        try clear hfz36_0
        try clear hfz36_1
        try clear hfz36_2
        try clear hfz36_3
        try clear hfz36_4
        try clear hfz36_5
        try clear hfz37_0
        try clear hfz37_1
        try clear hfz37_2
        try clear hfz37_3
        try clear hfz37_4
        try clear hfz37_5
        try clear hfz38_0
        try clear hfz38_1
        try clear hfz38_2
        try clear hfz38_3
        try clear hfz38_4
        try clear hfz38_5
        try clear hfz44_0
        try clear hfz44_1
        try clear hfz44_2
        try clear hfz44_3
        try clear hfz44_4
        try clear hfz44_5
        try clear hfz45_0
        try clear hfz45_1
        try clear hfz45_2
        try clear hfz45_3
        try clear hfz45_4
        try clear hfz45_5
        try clear hfz46_0
        try clear hfz46_1
        try clear hfz46_2
        try clear hfz46_3
        try clear hfz46_4
        try clear hfz46_5
        try clear hfz48_0
        try clear hfz48_1
        try clear hfz48_2
        try clear hfz48_3
        try clear hfz48_4
        try clear hfz48_5
        try clear hfz49_0
        try clear hfz49_1
        try clear hfz49_2
        try clear hfz49_3
        try clear hfz49_4
        try clear hfz49_5
        try clear hfz55_0
        try clear hfz55_1
        try clear hfz55_2
        try clear hfz55_3
        try clear hfz55_4
        try clear hfz55_5
        try clear hfz58_0
        try clear hfz58_1
        try clear hfz58_2
        try clear hfz58_3
        try clear hfz58_4
        try clear hfz58_5
        try clear hfz64_0
        try clear hfz64_1
        try clear hfz64_2
        try clear hfz64_3
        try clear hfz64_4
        try clear hfz64_5
        try clear hfz67_0
        try clear hfz67_1
        try clear hfz67_2
        try clear hfz67_3
        try clear hfz67_4
        try clear hfz67_5
        try clear hfz74_0
        try clear hfz74_1
        try clear hfz74_2
        try clear hfz74_3
        try clear hfz74_4
        try clear hfz74_5
        try clear hfz77_0
        try clear hfz77_1
        try clear hfz77_2
        try clear hfz77_3
        try clear hfz77_4
        try clear hfz77_5
        try clear hfz82_0
        try clear hfz82_1
        try clear hfz82_2
        try clear hfz82_3
        try clear hfz82_4
        try clear hfz82_5
        try clear hfz85_0
        try clear hfz85_1
        try clear hfz85_2
        try clear hfz85_3
        try clear hfz85_4
        try clear hfz85_5
        try clear hfz89_0
        try clear hfz89_1
        try clear hfz89_2
        try clear hfz89_3
        try clear hfz89_4
        try clear hfz89_5
        try clear hfz92_0
        try clear hfz92_1
        try clear hfz92_2
        try clear hfz92_3
        try clear hfz92_4
        try clear hfz92_5
        try clear hfz96_0
        try clear hfz96_1
        try clear hfz96_2
        try clear hfz96_3
        try clear hfz96_4
        try clear hfz96_5
        try clear hfz99_0
        try clear hfz99_1
        try clear hfz99_2
        try clear hfz99_3
        try clear hfz99_4
        try clear hfz99_5
        try clear p2
        obtain ⟨kq, x84_100, rfl, HA, HJ100, BK101, BK102, BK115, BK123, HB⟩ := hcut
        cases kq with
        | zero => exact absurd HA.out (by simp [ironbarklaw02_RuleResult.j2])
        | succ kj100 =>
         have H := HA.out
         clear HA
         simp only [ironbarklaw02_RuleResult.j2] at H
         by_cases c103 : x84_100 = true
         ·subst c103
          have H1 : ((ironbarklaw02_awake.f kj100).bind fun t129 => (some t129)) = some r := by rw [if_pos rfl] at H; exact H
          clear H
          have H := H1
          clear H1
          replace H := Option.bind_eq_some_iff.mp H
          obtain ⟨t129, A1040, H⟩ := H
          replace H : (some t129) = some r := H
          have A104 := Aside0.mk A1040
          clear A1040
          obtain rfl := Option.some.inj H
          go_wp2_with (first | ((with_reducible refine gate_callee (f := 8) rfl ?_); refine goesL_ (some 85) rfl rfl Try.func8 (by kernel_rfl) rfl #[] rfl (by (try simp only [List.map_toArray, List.map_cons, List.map_nil]); first | done | rfl | (simp only [List.length_drop, List.length_take]; rfl)) ?_; (with_reducible refine (ironbarklaw02_awake.calls kj100  t129 _ A104.out).mono ?_); rintro e w105 ⟨rfl, hb⟩; refine ⟨_, rfl, ?_⟩; have n0_ := Aside0.mk (blk_below (g := gb101) (o := .cells #[.int .i64 a1_0, .int .i64 a1_1, .int .i64 a1_2, .int .i64 a1_3, .bool a1_4, .string a1_5] 25 (0, 0)) (by (with_reducible repeat (first | refine blk_drewN ?_ _ | refine blk_drew ?_ | refine blk_alloc ?_ _)); exact BK101.out) hb); have n1_ := Aside0.mk (blk_below (g := gb102) (o := .cells #[.int .i64 a2_0, .int .i64 a2_1, .int .i64 a2_2, .int .i64 a2_3, .bool a2_4, .string a2_5] 25 (0, 0)) (by (with_reducible repeat (first | refine blk_drewN ?_ _ | refine blk_drew ?_ | refine blk_alloc ?_ _)); exact BK102.out) hb); have n2_ := Aside0.mk (blk_below (g := gb115) (o := .cells #[.int .i64 t108, .int .i64 t109, .int .i64 t110, .int .i64 t111, .bool t112, .string t113] 25 (0, 0)) (by (with_reducible repeat (first | refine blk_drewN ?_ _ | refine blk_drew ?_ | refine blk_alloc ?_ _)); exact BK115.out) hb); have n3_ := Aside0.mk (blk_below (g := gb123) (o := .cells #[.int .i64 t116, .int .i64 t117, .int .i64 t118, .int .i64 t119, .bool t120, .string t121] 25 (0, 0)) (by (with_reducible repeat (first | refine blk_drewN ?_ _ | refine blk_drew ?_ | refine blk_alloc ?_ _)); exact BK123.out) hb); have n4_ := Aside0.mk (below_step (by repeat (first | (with_reducible first | exact HB.out | apply below_alloc | apply pw_below_drewN | apply below_drew1 | refine below_set ?_ GE101.out | refine below_set ?_ GE102.out | refine below_set ?_ GE115.out | refine below_set ?_ GE123.out) | exact HB.out)) hb); clear BK101; clear BK102; clear BK115; clear BK123; clear HB; have BK101 := n0_; have BK102 := n1_; have BK115 := n2_; have BK123 := n3_; have HB := n4_; clear n0_ n1_ n2_ n3_ n4_; (try clear hb); (try clear hb2); (try clear hk); (try clear hi)))
          go_ret
          exact ⟨by first | rfl | (simp [errW_none, errW_some] <;> rfl) | (simp [*, errW_none, errW_some] <;> rfl), by repeat (first | (with_reducible first | exact HB.out | apply below_alloc | apply pw_below_drewN | apply below_drew1 | refine below_set ?_ GE101.out | refine below_set ?_ GE102.out | refine below_set ?_ GE115.out | refine below_set ?_ GE123.out) | exact HB.out)⟩
         ·replace c103 := Bool.eq_false_iff.mpr c103
          subst c103
          have H1 : ((rule_ResultA.f kj100 a0 a2_0 a2_1 a2_2 a2_3 a2_4 a2_5 a1_0 a1_1 a1_2 a1_3 a1_4 a1_5).bind fun bt130 => (if ((bt130.2.2.2.2.2.2 != 0) == (t122 != 0)) = true then (if bt130.2.2.2.2.2.2 = 0 then (if (bt130.1 == t116 && (bt130.2.1 == t117 && (bt130.2.2.1 == t118 && (bt130.2.2.2.1 == t119 && (bt130.2.2.2.2.1 == t120 && (bt130.2.2.2.2.2.1.toList == t121.toList)))))) = true then ((ironbarklaw02_awake.f kj100).bind fun t137 => (some t137)) else (some false)) else ((ironbarklaw02_awake.f kj100).bind fun t138 => (some t138))) else (some false))) = some r := by rw [if_neg (show ¬ (false = true) by decide)] at H; exact H
          clear H
          have H := H1
          clear H1
          replace H := Option.bind_eq_some_iff.mp H
          obtain ⟨⟨t130, t131, t132, t133, t134, t135, t136⟩, A1060, H⟩ := H
          replace H : (if ((t136 != 0) == (t122 != 0)) = true then (if t136 = 0 then (if (t130 == t116 && (t131 == t117 && (t132 == t118 && (t133 == t119 && (t134 == t120 && (t135.toList == t121.toList)))))) = true then ((ironbarklaw02_awake.f kj100).bind fun t137 => (some t137)) else (some false)) else ((ironbarklaw02_awake.f kj100).bind fun t138 => (some t138))) else (some false)) = some r := H
          have A106 := Aside0.mk A1060
          clear A1060
          by_cases c107 : ((t136 != 0) == (t122 != 0)) = true
          ·rw [if_pos c107] at H
           have c107b0 : ((t136 != 0) == (t122 != 0)) = true := c107
           (try (have c107b1 : decide ((t136 != 0) = (t122 != 0)) = true := by simpa using c107))
           (try (have c107b2 : ((t136 != 0) == (t122 != 0)) = true := by simpa using c107))
           clear c107
           by_cases c108 : t136 = 0
           ·rw [if_pos c108] at H
            have c108b0 : (t136 == 0) = true := beq_iff_eq.mpr c108
            have c108b1 : (t136 != 0) = false := bne_eq_false_iff_eq.mpr c108
            have c108b9 : (t122 != 0) = false := by have h_ := c107b0; rw [c108b1] at h_; simpa using h_
            have c108b8 : t122 = 0 := bne_eq_false_iff_eq.mp c108b9
            have c108b7 : (t122 == 0) = true := beq_iff_eq.2 c108b8
            clear c108
            by_cases c109 : (t130 == t116 && (t131 == t117 && (t132 == t118 && (t133 == t119 && (t134 == t120 && (t135.toList == t121.toList)))))) = true
            ·rw [if_pos c109] at H
             have c109b0 : (t130 == t116 && (t131 == t117 && (t132 == t118 && (t133 == t119 && (t134 == t120 && (t135.toList == t121.toList)))))) = true := c109
             (try (have c109b1 : decide (t130 = t116 && (t131 == t117 && (t132 == t118 && (t133 == t119 && (t134 == t120 && (t135.toList == t121.toList)))))) = true := by simpa using c109))
             (try (have c109b2 : (t130 == t116 && (t131 == t117 && (t132 == t118 && (t133 == t119 && (t134 == t120 && (t135.toList == t121.toList)))))) = true := by simpa using c109))
             clear c109
             replace H := Option.bind_eq_some_iff.mp H
             obtain ⟨t137, A1100, H⟩ := H
             replace H : (some t137) = some r := H
             have A110 := Aside0.mk A1100
             clear A1100
             obtain rfl := Option.some.inj H
             have hnb111 := NB102_101.out
             have hnc111 := NB101_102.out
             have hnb112 := NB102_115.out
             have hnc112 := NB115_102.out
             have hnb113 := NB102_123.out
             have hnc113 := NB123_102.out
             have hcz114_0 : wc.cell? ⟨gb102, 0, none⟩ = some (.int .i64 a2_0) := (blk_cell BK102.out 0).trans rfl
             have hcz114_1 : wc.cell? ⟨gb102, 1, none⟩ = some (.int .i64 a2_1) := (blk_cell BK102.out 1).trans rfl
             have hcz114_2 : wc.cell? ⟨gb102, 2, none⟩ = some (.int .i64 a2_2) := (blk_cell BK102.out 2).trans rfl
             have hcz114_3 : wc.cell? ⟨gb102, 3, none⟩ = some (.int .i64 a2_3) := (blk_cell BK102.out 3).trans rfl
             have hcz114_4 : wc.cell? ⟨gb102, 4, none⟩ = some (.bool a2_4) := (blk_cell BK102.out 4).trans rfl
             have hcz114_5 : wc.cell? ⟨gb102, 5, none⟩ = some (.string a2_5) := (blk_cell BK102.out 5).trans rfl
             have hfz114_0 := blk_frozen BK102.out 0
             have hfz114_1 := blk_frozen BK102.out 1
             have hfz114_2 := blk_frozen BK102.out 2
             have hfz114_3 := blk_frozen BK102.out 3
             have hfz114_4 := blk_frozen BK102.out 4
             have hfz114_5 := blk_frozen BK102.out 5
             have hnb115 := NB101_115.out
             have hnc115 := NB115_101.out
             have hnb116 := NB101_123.out
             have hnc116 := NB123_101.out
             have hcz117_0 : wc.cell? ⟨gb101, 0, none⟩ = some (.int .i64 a1_0) := (blk_cell BK101.out 0).trans rfl
             have hcz117_1 : wc.cell? ⟨gb101, 1, none⟩ = some (.int .i64 a1_1) := (blk_cell BK101.out 1).trans rfl
             have hcz117_2 : wc.cell? ⟨gb101, 2, none⟩ = some (.int .i64 a1_2) := (blk_cell BK101.out 2).trans rfl
             have hcz117_3 : wc.cell? ⟨gb101, 3, none⟩ = some (.int .i64 a1_3) := (blk_cell BK101.out 3).trans rfl
             have hcz117_4 : wc.cell? ⟨gb101, 4, none⟩ = some (.bool a1_4) := (blk_cell BK101.out 4).trans rfl
             have hcz117_5 : wc.cell? ⟨gb101, 5, none⟩ = some (.string a1_5) := (blk_cell BK101.out 5).trans rfl
             have hfz117_0 := blk_frozen BK101.out 0
             have hfz117_1 := blk_frozen BK101.out 1
             have hfz117_2 := blk_frozen BK101.out 2
             have hfz117_3 := blk_frozen BK101.out 3
             have hfz117_4 := blk_frozen BK101.out 4
             have hfz117_5 := blk_frozen BK101.out 5
             go_wp2_with (first | ((with_reducible refine gate_callee (f := 9) rfl ?_); refine goesL_ (some 90) rfl rfl Try.func9 (by kernel_rfl) rfl #[.string a0, .agg #[.int .i64 a2_0, .int .i64 a2_1, .int .i64 a2_2, .int .i64 a2_3, .bool a2_4, .string a2_5], .agg #[.int .i64 a1_0, .int .i64 a1_1, .int .i64 a1_2, .int .i64 a1_3, .bool a1_4, .string a1_5]] rfl (by (try simp only [List.map_toArray, List.map_cons, List.map_nil]); first | done | rfl | (simp only [List.length_drop, List.length_take]; rfl)) ?_; (with_reducible refine (rule_ResultA.calls kj100 a0 a2_0 a2_1 a2_2 a2_3 a2_4 a2_5 a1_0 a1_1 a1_2 a1_3 a1_4 a1_5 t130 t131 t132 t133 t134 t135 t136 _ A106.out).mono ?_); rintro e w118 ⟨rfl, hb⟩; refine ⟨_, rfl, ?_⟩; have n0_ := Aside0.mk (blk_below (g := gb101) (o := .cells #[.int .i64 a1_0, .int .i64 a1_1, .int .i64 a1_2, .int .i64 a1_3, .bool a1_4, .string a1_5] 25 (0, 0)) (by (with_reducible repeat (first | refine blk_drewN ?_ _ | refine blk_drew ?_ | refine blk_alloc ?_ _)); exact BK101.out) hb); have n1_ := Aside0.mk (blk_below (g := gb102) (o := .cells #[.int .i64 a2_0, .int .i64 a2_1, .int .i64 a2_2, .int .i64 a2_3, .bool a2_4, .string a2_5] 25 (0, 0)) (by (with_reducible repeat (first | refine blk_drewN ?_ _ | refine blk_drew ?_ | refine blk_alloc ?_ _)); exact BK102.out) hb); have n2_ := Aside0.mk (blk_below (g := gb115) (o := .cells #[.int .i64 t108, .int .i64 t109, .int .i64 t110, .int .i64 t111, .bool t112, .string t113] 25 (0, 0)) (by (with_reducible repeat (first | refine blk_drewN ?_ _ | refine blk_drew ?_ | refine blk_alloc ?_ _)); exact BK115.out) hb); have n3_ := Aside0.mk (blk_below (g := gb123) (o := .cells #[.int .i64 t116, .int .i64 t117, .int .i64 t118, .int .i64 t119, .bool t120, .string t121] 25 (0, 0)) (by (with_reducible repeat (first | refine blk_drewN ?_ _ | refine blk_drew ?_ | refine blk_alloc ?_ _)); exact BK123.out) hb); have n4_ := Aside0.mk (below_step (by repeat (first | (with_reducible first | exact HB.out | apply below_alloc | apply pw_below_drewN | apply below_drew1 | refine below_set ?_ GE101.out | refine below_set ?_ GE102.out | refine below_set ?_ GE115.out | refine below_set ?_ GE123.out) | exact HB.out)) hb); clear BK101; clear BK102; clear BK115; clear BK123; clear HB; have BK101 := n0_; have BK102 := n1_; have BK115 := n2_; have BK123 := n3_; have HB := n4_; clear n0_ n1_ n2_ n3_ n4_; (try clear hb); (try clear hb2); (try clear hk); (try clear hi); have hnb119 := NB115_123.out; have hnc119 := NB123_115.out; obtain ⟨hcz120_0, hcz120_1, hcz120_2, hcz120_3, hcz120_4, hcz120_5⟩ := blk_six BK115.out; obtain ⟨hfz120_0, hfz120_1, hfz120_2, hfz120_3, hfz120_4, hfz120_5⟩ := blk_six_free BK115.out; obtain ⟨hcz121_0, hcz121_1, hcz121_2, hcz121_3, hcz121_4, hcz121_5⟩ := blk_six BK123.out; obtain ⟨hfz121_0, hfz121_1, hfz121_2, hfz121_3, hfz121_4, hfz121_5⟩ := blk_six_free BK123.out) | (go_at_call 8; (with_reducible refine (ironbarklaw02_awake.calls kj100  t137 _ A110.out).mono ?_); rintro e w122 ⟨rfl, hb⟩; have n0_ := Aside0.mk (blk_below (g := gb101) (o := .cells #[.int .i64 a1_0, .int .i64 a1_1, .int .i64 a1_2, .int .i64 a1_3, .bool a1_4, .string a1_5] 25 (0, 0)) (by (with_reducible repeat (first | refine blk_drewN ?_ _ | refine blk_drew ?_ | refine blk_alloc ?_ _)); refine blk_far ?_ NB101_115.out _; (with_reducible repeat (first | refine blk_drewN ?_ _ | refine blk_drew ?_ | refine blk_alloc ?_ _)); refine blk_far ?_ NB101_115.out _; (with_reducible repeat (first | refine blk_drewN ?_ _ | refine blk_drew ?_ | refine blk_alloc ?_ _)); refine blk_far ?_ NB101_115.out _; (with_reducible repeat (first | refine blk_drewN ?_ _ | refine blk_drew ?_ | refine blk_alloc ?_ _)); refine blk_far ?_ NB101_115.out _; (with_reducible repeat (first | refine blk_drewN ?_ _ | refine blk_drew ?_ | refine blk_alloc ?_ _)); refine blk_far ?_ NB101_115.out _; (with_reducible repeat (first | refine blk_drewN ?_ _ | refine blk_drew ?_ | refine blk_alloc ?_ _)); refine blk_far ?_ NB101_115.out _; (with_reducible repeat (first | refine blk_drewN ?_ _ | refine blk_drew ?_ | refine blk_alloc ?_ _)); exact BK101.out) hb); have n1_ := Aside0.mk (blk_below (g := gb102) (o := .cells #[.int .i64 a2_0, .int .i64 a2_1, .int .i64 a2_2, .int .i64 a2_3, .bool a2_4, .string a2_5] 25 (0, 0)) (by (with_reducible repeat (first | refine blk_drewN ?_ _ | refine blk_drew ?_ | refine blk_alloc ?_ _)); refine blk_far ?_ NB102_115.out _; (with_reducible repeat (first | refine blk_drewN ?_ _ | refine blk_drew ?_ | refine blk_alloc ?_ _)); refine blk_far ?_ NB102_115.out _; (with_reducible repeat (first | refine blk_drewN ?_ _ | refine blk_drew ?_ | refine blk_alloc ?_ _)); refine blk_far ?_ NB102_115.out _; (with_reducible repeat (first | refine blk_drewN ?_ _ | refine blk_drew ?_ | refine blk_alloc ?_ _)); refine blk_far ?_ NB102_115.out _; (with_reducible repeat (first | refine blk_drewN ?_ _ | refine blk_drew ?_ | refine blk_alloc ?_ _)); refine blk_far ?_ NB102_115.out _; (with_reducible repeat (first | refine blk_drewN ?_ _ | refine blk_drew ?_ | refine blk_alloc ?_ _)); refine blk_far ?_ NB102_115.out _; (with_reducible repeat (first | refine blk_drewN ?_ _ | refine blk_drew ?_ | refine blk_alloc ?_ _)); exact BK102.out) hb); have n2_ := Aside0.mk (blk_below (g := gb115) (o := .cells #[.int .i64 t130, .int .i64 t131, .int .i64 t132, .int .i64 t133, .bool t134, .string t135] 25 (0, 0)) (by (with_reducible repeat (first | refine blk_drewN ?_ _ | refine blk_drew ?_ | refine blk_alloc ?_ _)); refine blk_put (cs := #[.int .i64 t130, .int .i64 t131, .int .i64 t132, .int .i64 t133, .bool t134, .string t113]) ?_ 5 _ rfl; (with_reducible repeat (first | refine blk_drewN ?_ _ | refine blk_drew ?_ | refine blk_alloc ?_ _)); refine blk_put (cs := #[.int .i64 t130, .int .i64 t131, .int .i64 t132, .int .i64 t133, .bool t112, .string t113]) ?_ 4 _ rfl; (with_reducible repeat (first | refine blk_drewN ?_ _ | refine blk_drew ?_ | refine blk_alloc ?_ _)); refine blk_put (cs := #[.int .i64 t130, .int .i64 t131, .int .i64 t132, .int .i64 t111, .bool t112, .string t113]) ?_ 3 _ rfl; (with_reducible repeat (first | refine blk_drewN ?_ _ | refine blk_drew ?_ | refine blk_alloc ?_ _)); refine blk_put (cs := #[.int .i64 t130, .int .i64 t131, .int .i64 t110, .int .i64 t111, .bool t112, .string t113]) ?_ 2 _ rfl; (with_reducible repeat (first | refine blk_drewN ?_ _ | refine blk_drew ?_ | refine blk_alloc ?_ _)); refine blk_put (cs := #[.int .i64 t130, .int .i64 t109, .int .i64 t110, .int .i64 t111, .bool t112, .string t113]) ?_ 1 _ rfl; (with_reducible repeat (first | refine blk_drewN ?_ _ | refine blk_drew ?_ | refine blk_alloc ?_ _)); refine blk_put (cs := #[.int .i64 t108, .int .i64 t109, .int .i64 t110, .int .i64 t111, .bool t112, .string t113]) ?_ 0 _ rfl; (with_reducible repeat (first | refine blk_drewN ?_ _ | refine blk_drew ?_ | refine blk_alloc ?_ _)); exact BK115.out) hb); have n3_ := Aside0.mk (blk_below (g := gb123) (o := .cells #[.int .i64 t116, .int .i64 t117, .int .i64 t118, .int .i64 t119, .bool t120, .string t121] 25 (0, 0)) (by (with_reducible repeat (first | refine blk_drewN ?_ _ | refine blk_drew ?_ | refine blk_alloc ?_ _)); refine blk_far ?_ NB123_115.out _; (with_reducible repeat (first | refine blk_drewN ?_ _ | refine blk_drew ?_ | refine blk_alloc ?_ _)); refine blk_far ?_ NB123_115.out _; (with_reducible repeat (first | refine blk_drewN ?_ _ | refine blk_drew ?_ | refine blk_alloc ?_ _)); refine blk_far ?_ NB123_115.out _; (with_reducible repeat (first | refine blk_drewN ?_ _ | refine blk_drew ?_ | refine blk_alloc ?_ _)); refine blk_far ?_ NB123_115.out _; (with_reducible repeat (first | refine blk_drewN ?_ _ | refine blk_drew ?_ | refine blk_alloc ?_ _)); refine blk_far ?_ NB123_115.out _; (with_reducible repeat (first | refine blk_drewN ?_ _ | refine blk_drew ?_ | refine blk_alloc ?_ _)); refine blk_far ?_ NB123_115.out _; (with_reducible repeat (first | refine blk_drewN ?_ _ | refine blk_drew ?_ | refine blk_alloc ?_ _)); exact BK123.out) hb); have n4_ := Aside0.mk (below_step (by repeat (first | (with_reducible first | exact HB.out | apply below_alloc | apply pw_below_drewN | apply below_drew1 | refine below_set ?_ GE101.out | refine below_set ?_ GE102.out | refine below_set ?_ GE115.out | refine below_set ?_ GE123.out) | exact HB.out)) hb); clear BK101; clear BK102; clear BK115; clear BK123; clear HB; have BK101 := n0_; have BK102 := n1_; have BK115 := n2_; have BK123 := n3_; have HB := n4_; clear n0_ n1_ n2_ n3_ n4_; (try clear hb); (try clear hb2); (try clear hk); (try clear hi)))
             go_ret
             exact ⟨by first | rfl | (simp [errW_none, errW_some] <;> rfl) | (simp [*, errW_none, errW_some] <;> rfl), by repeat (first | (with_reducible first | exact HB.out | apply below_alloc | apply pw_below_drewN | apply below_drew1 | refine below_set ?_ GE101.out | refine below_set ?_ GE102.out | refine below_set ?_ GE115.out | refine below_set ?_ GE123.out) | exact HB.out)⟩
            ·rw [if_neg c109] at H
             have c109b0 : (t130 == t116 && (t131 == t117 && (t132 == t118 && (t133 == t119 && (t134 == t120 && (t135.toList == t121.toList)))))) = false := by simpa using c109
             (try (have c109b1 : decide (t130 = t116 && (t131 == t117 && (t132 == t118 && (t133 == t119 && (t134 == t120 && (t135.toList == t121.toList)))))) = false := by simpa using c109))
             (try (have c109b2 : (t130 == t116 && (t131 == t117 && (t132 == t118 && (t133 == t119 && (t134 == t120 && (t135.toList == t121.toList)))))) = false := by simpa using c109))
             (try (have c109b3 : ¬ (t130 = t116 && (t131 == t117 && (t132 == t118 && (t133 == t119 && (t134 == t120 && (t135.toList == t121.toList)))))) := by simpa using c109))
             clear c109
             exact absurd ((Option.some.inj H).trans hrt_.out) (by decide)
           ·rw [if_neg c108] at H
            have c108b0 : (t136 == 0) = false := beq_eq_false_iff_ne.mpr c108
            have c108b1 : (t136 != 0) = true := bne_iff_ne.mpr c108
            have c108b9 : (t122 != 0) = true := by have h_ := c107b0; rw [c108b1] at h_; simpa using h_
            have c108b8 : ¬ t122 = 0 := bne_iff_ne.1 c108b9
            have c108b7 : (t122 == 0) = false := beq_eq_false_iff_ne.2 c108b8
            replace H := Option.bind_eq_some_iff.mp H
            obtain ⟨t138, A1230, H⟩ := H
            replace H : (some t138) = some r := H
            have A123 := Aside0.mk A1230
            clear A1230
            obtain rfl := Option.some.inj H
            have hnb124 := NB102_101.out
            have hnc124 := NB101_102.out
            have hnb125 := NB102_115.out
            have hnc125 := NB115_102.out
            have hnb126 := NB102_123.out
            have hnc126 := NB123_102.out
            have hcz127_0 : wc.cell? ⟨gb102, 0, none⟩ = some (.int .i64 a2_0) := (blk_cell BK102.out 0).trans rfl
            have hcz127_1 : wc.cell? ⟨gb102, 1, none⟩ = some (.int .i64 a2_1) := (blk_cell BK102.out 1).trans rfl
            have hcz127_2 : wc.cell? ⟨gb102, 2, none⟩ = some (.int .i64 a2_2) := (blk_cell BK102.out 2).trans rfl
            have hcz127_3 : wc.cell? ⟨gb102, 3, none⟩ = some (.int .i64 a2_3) := (blk_cell BK102.out 3).trans rfl
            have hcz127_4 : wc.cell? ⟨gb102, 4, none⟩ = some (.bool a2_4) := (blk_cell BK102.out 4).trans rfl
            have hcz127_5 : wc.cell? ⟨gb102, 5, none⟩ = some (.string a2_5) := (blk_cell BK102.out 5).trans rfl
            have hfz127_0 := blk_frozen BK102.out 0
            have hfz127_1 := blk_frozen BK102.out 1
            have hfz127_2 := blk_frozen BK102.out 2
            have hfz127_3 := blk_frozen BK102.out 3
            have hfz127_4 := blk_frozen BK102.out 4
            have hfz127_5 := blk_frozen BK102.out 5
            have hnb128 := NB101_115.out
            have hnc128 := NB115_101.out
            have hnb129 := NB101_123.out
            have hnc129 := NB123_101.out
            have hcz130_0 : wc.cell? ⟨gb101, 0, none⟩ = some (.int .i64 a1_0) := (blk_cell BK101.out 0).trans rfl
            have hcz130_1 : wc.cell? ⟨gb101, 1, none⟩ = some (.int .i64 a1_1) := (blk_cell BK101.out 1).trans rfl
            have hcz130_2 : wc.cell? ⟨gb101, 2, none⟩ = some (.int .i64 a1_2) := (blk_cell BK101.out 2).trans rfl
            have hcz130_3 : wc.cell? ⟨gb101, 3, none⟩ = some (.int .i64 a1_3) := (blk_cell BK101.out 3).trans rfl
            have hcz130_4 : wc.cell? ⟨gb101, 4, none⟩ = some (.bool a1_4) := (blk_cell BK101.out 4).trans rfl
            have hcz130_5 : wc.cell? ⟨gb101, 5, none⟩ = some (.string a1_5) := (blk_cell BK101.out 5).trans rfl
            have hfz130_0 := blk_frozen BK101.out 0
            have hfz130_1 := blk_frozen BK101.out 1
            have hfz130_2 := blk_frozen BK101.out 2
            have hfz130_3 := blk_frozen BK101.out 3
            have hfz130_4 := blk_frozen BK101.out 4
            have hfz130_5 := blk_frozen BK101.out 5
            go_wp2_with (first | ((with_reducible refine gate_callee (f := 9) rfl ?_); refine goesL_ (some 90) rfl rfl Try.func9 (by kernel_rfl) rfl #[.string a0, .agg #[.int .i64 a2_0, .int .i64 a2_1, .int .i64 a2_2, .int .i64 a2_3, .bool a2_4, .string a2_5], .agg #[.int .i64 a1_0, .int .i64 a1_1, .int .i64 a1_2, .int .i64 a1_3, .bool a1_4, .string a1_5]] rfl (by (try simp only [List.map_toArray, List.map_cons, List.map_nil]); first | done | rfl | (simp only [List.length_drop, List.length_take]; rfl)) ?_; (with_reducible refine (rule_ResultA.calls kj100 a0 a2_0 a2_1 a2_2 a2_3 a2_4 a2_5 a1_0 a1_1 a1_2 a1_3 a1_4 a1_5 t130 t131 t132 t133 t134 t135 t136 _ A106.out).mono ?_); rintro e w131 ⟨rfl, hb⟩; refine ⟨_, rfl, ?_⟩; have n0_ := Aside0.mk (blk_below (g := gb101) (o := .cells #[.int .i64 a1_0, .int .i64 a1_1, .int .i64 a1_2, .int .i64 a1_3, .bool a1_4, .string a1_5] 25 (0, 0)) (by (with_reducible repeat (first | refine blk_drewN ?_ _ | refine blk_drew ?_ | refine blk_alloc ?_ _)); exact BK101.out) hb); have n1_ := Aside0.mk (blk_below (g := gb102) (o := .cells #[.int .i64 a2_0, .int .i64 a2_1, .int .i64 a2_2, .int .i64 a2_3, .bool a2_4, .string a2_5] 25 (0, 0)) (by (with_reducible repeat (first | refine blk_drewN ?_ _ | refine blk_drew ?_ | refine blk_alloc ?_ _)); exact BK102.out) hb); have n2_ := Aside0.mk (blk_below (g := gb115) (o := .cells #[.int .i64 t108, .int .i64 t109, .int .i64 t110, .int .i64 t111, .bool t112, .string t113] 25 (0, 0)) (by (with_reducible repeat (first | refine blk_drewN ?_ _ | refine blk_drew ?_ | refine blk_alloc ?_ _)); exact BK115.out) hb); have n3_ := Aside0.mk (blk_below (g := gb123) (o := .cells #[.int .i64 t116, .int .i64 t117, .int .i64 t118, .int .i64 t119, .bool t120, .string t121] 25 (0, 0)) (by (with_reducible repeat (first | refine blk_drewN ?_ _ | refine blk_drew ?_ | refine blk_alloc ?_ _)); exact BK123.out) hb); have n4_ := Aside0.mk (below_step (by repeat (first | (with_reducible first | exact HB.out | apply below_alloc | apply pw_below_drewN | apply below_drew1 | refine below_set ?_ GE101.out | refine below_set ?_ GE102.out | refine below_set ?_ GE115.out | refine below_set ?_ GE123.out) | exact HB.out)) hb); clear BK101; clear BK102; clear BK115; clear BK123; clear HB; have BK101 := n0_; have BK102 := n1_; have BK115 := n2_; have BK123 := n3_; have HB := n4_; clear n0_ n1_ n2_ n3_ n4_; (try clear hb); (try clear hb2); (try clear hk); (try clear hi); have hnb132 := NB115_123.out; have hnc132 := NB123_115.out; obtain ⟨hcz133_0, hcz133_1, hcz133_2, hcz133_3, hcz133_4, hcz133_5⟩ := blk_six BK115.out; obtain ⟨hfz133_0, hfz133_1, hfz133_2, hfz133_3, hfz133_4, hfz133_5⟩ := blk_six_free BK115.out) | (go_at_call 8; (with_reducible refine (ironbarklaw02_awake.calls kj100  t138 _ A123.out).mono ?_); rintro e w134 ⟨rfl, hb⟩; have n0_ := Aside0.mk (blk_below (g := gb101) (o := .cells #[.int .i64 a1_0, .int .i64 a1_1, .int .i64 a1_2, .int .i64 a1_3, .bool a1_4, .string a1_5] 25 (0, 0)) (by (with_reducible repeat (first | refine blk_drewN ?_ _ | refine blk_drew ?_ | refine blk_alloc ?_ _)); refine blk_far ?_ NB101_115.out _; (with_reducible repeat (first | refine blk_drewN ?_ _ | refine blk_drew ?_ | refine blk_alloc ?_ _)); refine blk_far ?_ NB101_115.out _; (with_reducible repeat (first | refine blk_drewN ?_ _ | refine blk_drew ?_ | refine blk_alloc ?_ _)); refine blk_far ?_ NB101_115.out _; (with_reducible repeat (first | refine blk_drewN ?_ _ | refine blk_drew ?_ | refine blk_alloc ?_ _)); refine blk_far ?_ NB101_115.out _; (with_reducible repeat (first | refine blk_drewN ?_ _ | refine blk_drew ?_ | refine blk_alloc ?_ _)); refine blk_far ?_ NB101_115.out _; (with_reducible repeat (first | refine blk_drewN ?_ _ | refine blk_drew ?_ | refine blk_alloc ?_ _)); refine blk_far ?_ NB101_115.out _; (with_reducible repeat (first | refine blk_drewN ?_ _ | refine blk_drew ?_ | refine blk_alloc ?_ _)); exact BK101.out) hb); have n1_ := Aside0.mk (blk_below (g := gb102) (o := .cells #[.int .i64 a2_0, .int .i64 a2_1, .int .i64 a2_2, .int .i64 a2_3, .bool a2_4, .string a2_5] 25 (0, 0)) (by (with_reducible repeat (first | refine blk_drewN ?_ _ | refine blk_drew ?_ | refine blk_alloc ?_ _)); refine blk_far ?_ NB102_115.out _; (with_reducible repeat (first | refine blk_drewN ?_ _ | refine blk_drew ?_ | refine blk_alloc ?_ _)); refine blk_far ?_ NB102_115.out _; (with_reducible repeat (first | refine blk_drewN ?_ _ | refine blk_drew ?_ | refine blk_alloc ?_ _)); refine blk_far ?_ NB102_115.out _; (with_reducible repeat (first | refine blk_drewN ?_ _ | refine blk_drew ?_ | refine blk_alloc ?_ _)); refine blk_far ?_ NB102_115.out _; (with_reducible repeat (first | refine blk_drewN ?_ _ | refine blk_drew ?_ | refine blk_alloc ?_ _)); refine blk_far ?_ NB102_115.out _; (with_reducible repeat (first | refine blk_drewN ?_ _ | refine blk_drew ?_ | refine blk_alloc ?_ _)); refine blk_far ?_ NB102_115.out _; (with_reducible repeat (first | refine blk_drewN ?_ _ | refine blk_drew ?_ | refine blk_alloc ?_ _)); exact BK102.out) hb); have n2_ := Aside0.mk (blk_below (g := gb115) (o := .cells #[.int .i64 t130, .int .i64 t131, .int .i64 t132, .int .i64 t133, .bool t134, .string t135] 25 (0, 0)) (by (with_reducible repeat (first | refine blk_drewN ?_ _ | refine blk_drew ?_ | refine blk_alloc ?_ _)); refine blk_put (cs := #[.int .i64 t130, .int .i64 t131, .int .i64 t132, .int .i64 t133, .bool t134, .string t113]) ?_ 5 _ rfl; (with_reducible repeat (first | refine blk_drewN ?_ _ | refine blk_drew ?_ | refine blk_alloc ?_ _)); refine blk_put (cs := #[.int .i64 t130, .int .i64 t131, .int .i64 t132, .int .i64 t133, .bool t112, .string t113]) ?_ 4 _ rfl; (with_reducible repeat (first | refine blk_drewN ?_ _ | refine blk_drew ?_ | refine blk_alloc ?_ _)); refine blk_put (cs := #[.int .i64 t130, .int .i64 t131, .int .i64 t132, .int .i64 t111, .bool t112, .string t113]) ?_ 3 _ rfl; (with_reducible repeat (first | refine blk_drewN ?_ _ | refine blk_drew ?_ | refine blk_alloc ?_ _)); refine blk_put (cs := #[.int .i64 t130, .int .i64 t131, .int .i64 t110, .int .i64 t111, .bool t112, .string t113]) ?_ 2 _ rfl; (with_reducible repeat (first | refine blk_drewN ?_ _ | refine blk_drew ?_ | refine blk_alloc ?_ _)); refine blk_put (cs := #[.int .i64 t130, .int .i64 t109, .int .i64 t110, .int .i64 t111, .bool t112, .string t113]) ?_ 1 _ rfl; (with_reducible repeat (first | refine blk_drewN ?_ _ | refine blk_drew ?_ | refine blk_alloc ?_ _)); refine blk_put (cs := #[.int .i64 t108, .int .i64 t109, .int .i64 t110, .int .i64 t111, .bool t112, .string t113]) ?_ 0 _ rfl; (with_reducible repeat (first | refine blk_drewN ?_ _ | refine blk_drew ?_ | refine blk_alloc ?_ _)); exact BK115.out) hb); have n3_ := Aside0.mk (blk_below (g := gb123) (o := .cells #[.int .i64 t116, .int .i64 t117, .int .i64 t118, .int .i64 t119, .bool t120, .string t121] 25 (0, 0)) (by (with_reducible repeat (first | refine blk_drewN ?_ _ | refine blk_drew ?_ | refine blk_alloc ?_ _)); refine blk_far ?_ NB123_115.out _; (with_reducible repeat (first | refine blk_drewN ?_ _ | refine blk_drew ?_ | refine blk_alloc ?_ _)); refine blk_far ?_ NB123_115.out _; (with_reducible repeat (first | refine blk_drewN ?_ _ | refine blk_drew ?_ | refine blk_alloc ?_ _)); refine blk_far ?_ NB123_115.out _; (with_reducible repeat (first | refine blk_drewN ?_ _ | refine blk_drew ?_ | refine blk_alloc ?_ _)); refine blk_far ?_ NB123_115.out _; (with_reducible repeat (first | refine blk_drewN ?_ _ | refine blk_drew ?_ | refine blk_alloc ?_ _)); refine blk_far ?_ NB123_115.out _; (with_reducible repeat (first | refine blk_drewN ?_ _ | refine blk_drew ?_ | refine blk_alloc ?_ _)); refine blk_far ?_ NB123_115.out _; (with_reducible repeat (first | refine blk_drewN ?_ _ | refine blk_drew ?_ | refine blk_alloc ?_ _)); exact BK123.out) hb); have n4_ := Aside0.mk (below_step (by repeat (first | (with_reducible first | exact HB.out | apply below_alloc | apply pw_below_drewN | apply below_drew1 | refine below_set ?_ GE101.out | refine below_set ?_ GE102.out | refine below_set ?_ GE115.out | refine below_set ?_ GE123.out) | exact HB.out)) hb); clear BK101; clear BK102; clear BK115; clear BK123; clear HB; have BK101 := n0_; have BK102 := n1_; have BK115 := n2_; have BK123 := n3_; have HB := n4_; clear n0_ n1_ n2_ n3_ n4_; (try clear hb); (try clear hb2); (try clear hk); (try clear hi)))
            go_ret
            exact ⟨by first | rfl | (simp [errW_none, errW_some] <;> rfl) | (simp [*, errW_none, errW_some] <;> rfl), by repeat (first | (with_reducible first | exact HB.out | apply below_alloc | apply pw_below_drewN | apply below_drew1 | refine below_set ?_ GE101.out | refine below_set ?_ GE102.out | refine below_set ?_ GE115.out | refine below_set ?_ GE123.out) | exact HB.out)⟩
          ·rw [if_neg c107] at H
           have c107b0 : ((t136 != 0) == (t122 != 0)) = false := by simpa using c107
           (try (have c107b1 : decide ((t136 != 0) = (t122 != 0)) = false := by simpa using c107))
           (try (have c107b2 : ((t136 != 0) == (t122 != 0)) = false := by simpa using c107))
           (try (have c107b3 : ¬ ((t136 != 0) = (t122 != 0)) := by simpa using c107))
           clear c107
           exact absurd ((Option.some.inj H).trans hrt_.out) (by decide)
end Go.Proofs.Ytemlbikangbomaa.P

-- from the text Pr
namespace Go.Proofs.Ytemlbikangbomaa.P
open Go.RowKit Go.Proofs.YtemlbikangbomaaW.PrintWords Go.Proofs.YtemlbikangbomaaW.PrintLast Go.Proofs.YtemlbikangbomaaW.PrintMore
set_option linter.unusedVariables false
set_option linter.unusedSimpArgs false
theorem tl_inj (s t : ByteArray) (h : s.toList = t.toList) : s = t := by
  rw [ByteArray.toList_eq, ByteArray.toList_eq] at h
  have h3 := Array.toList_inj.1 h
  cases s; cases t; exact congrArg ByteArray.mk h3
theorem sign_cases (op : ByteArray) : op = nm 0 ∨ op = nm 1 ∨ op = nm 2 ∨ op = nm 3 ∨ op = nm 4 ∨ (signO op = 5 ∧ op ≠ nm 0 ∧ op ≠ nm 1 ∧ op ≠ nm 2 ∧ op ≠ nm 3 ∧ op ≠ nm 4) := by
  by_cases h0 : op = nm 0
  · exact .inl h0
  by_cases h1 : op = nm 1
  · exact .inr (.inl h1)
  by_cases h2 : op = nm 2
  · exact .inr (.inr (.inl h2))
  by_cases h3 : op = nm 3
  · exact .inr (.inr (.inr (.inl h3)))
  by_cases h4 : op = nm 4
  · exact .inr (.inr (.inr (.inr (.inl h4))))
  refine .inr (.inr (.inr (.inr (.inr ⟨?_, h0, h1, h2, h3, h4⟩))))
  unfold signO
  rw [if_neg (fun h => h0 h.symm), if_neg (fun h => h1 h.symm), if_neg (fun h => h2 h.symm), if_neg (fun h => h3 h.symm), if_neg (fun h => h4 h.symm)]
theorem l0 : (nm 0).toList = [43] := by decide +kernel
theorem l1 : (nm 1).toList = [45] := by decide +kernel
theorem l2 : (nm 2).toList = [42] := by decide +kernel
theorem l3 : (nm 3).toList = [47] := by decide +kernel
theorem l4 : (nm 4).toList = [42, 42] := by decide +kernel
theorem s0 : signO (nm 0) = 0 := by decide +kernel
theorem s1 : signO (nm 1) = 1 := by decide +kernel
theorem s2 : signO (nm 2) = 2 := by decide +kernel
theorem s3 : signO (nm 3) = 3 := by decide +kernel
theorem s4 : signO (nm 4) = 4 := by decide +kernel
def lim (x : S25) : Int := if x.f0 = 1 then 31 else 15
def mulS (x y : S25) : S25 := if x.f0 = 3 then nn 3 (mx x.f1 y.f1) 0 else nn x.f0 (mn (lim x) (x.f1 + y.f1 + 1)) (mn 31 (x.f2 + y.f2))
def divS (x y : S25) : S25 := if x.f0 = 3 then nn 3 (mx x.f1 y.f1) 0 else nn x.f0 (lim x) (mx 0 (mn 31 (lim x - x.f1 + x.f2 - y.f2)))
def powS (a b : S25) : S25 := nn 3 (mx (floP a.f0 a.f1) (floP b.f0 b.f1)) 0
def resO (op : ByteArray) (a b : S25) : S25 × Int :=
  if validO [a, b] = 0 then
    (if signO op = 5 then (z25, 5) else if signO op = 4 then (powS a b, 0) else if signO op = 2 then (mulS (brO a b).1 (brO a b).2, 0) else if signO op = 3 then (divS (brO a b).1 (brO a b).2, 0) else (sumS (brO a b).1 (brO a b).2 1, 0))
  else (z25, validO [a, b])
theorem okT_two (a b : S25) (h : validO [a, b] = 0) : okT a ∧ okT b := ⟨validO_all _ h a (by simp), validO_all _ h b (by simp)⟩
theorem limit_is (x : S25) : ironbarkref02_limit.f x.f0 x.f1 x.f2 x.f3 x.f4 x.f5 = some (lim x) := by
  unfold ironbarkref02_limit.f lim
  split <;> rfl
theorem mul_wrap (x y : S25) (m : Int) (h : pairOk x y m) : wrap64 ((wrap64 (x.f1 + y.f1)) + 1) = x.f1 + y.f1 + 1 ∧ wrap64 (x.f2 + y.f2) = x.f2 + y.f2 := by
  obtain ⟨⟨-, hx1, hx2, -⟩, ⟨-, hy1, hy2, -⟩, -, -⟩ := h
  rw [wrapS (x.f1 + y.f1) (by omega) (by omega), wrapS (x.f1 + y.f1 + 1) (by omega) (by omega), wrapS (x.f2 + y.f2) (by omega) (by omega)]
  exact ⟨rfl, rfl⟩
theorem lim_range (x : S25) : 15 ≤ lim x ∧ lim x ≤ 31 := by unfold lim; split <;> omega
theorem div_wrap (x y : S25) (m : Int) (h : pairOk x y m) : wrap64 ((wrap64 ((wrap64 (lim x - x.f1)) + x.f2)) - y.f2) = lim x - x.f1 + x.f2 - y.f2 := by
  obtain ⟨⟨-, hx1, hx2, -⟩, ⟨-, hy1, hy2, -⟩, -, -⟩ := h
  have := lim_range x
  rw [wrapS (lim x - x.f1) (by omega) (by omega), wrapS (lim x - x.f1 + x.f2) (by omega) (by omega), wrapS (lim x - x.f1 + x.f2 - y.f2) (by omega) (by omega)]
theorem mulS_ok (x y : S25) (m : Int) (h : pairOk x y m) : okT (mulS x y) := by
  obtain ⟨⟨-, hx1, hx2, hx3⟩, ⟨-, hy1, hy2, hy3⟩, hk, -⟩ := h
  unfold mulS lim
  by_cases h3 : x.f0 = 3
  · rw [if_pos h3]
    refine ⟨rfl, ?_⟩
    show okN 3 (mx x.f1 y.f1) 0
    have : 1 ≤ mx x.f1 y.f1 ∧ mx x.f1 y.f1 ≤ 15 := by unfold mx; split <;> omega
    exact ⟨⟨this.1, by omega⟩, ⟨by omega, by omega⟩, Or.inr (Or.inr ⟨rfl, this.2, rfl⟩)⟩
  · rw [if_neg h3]
    refine ⟨rfl, ?_⟩
    show okN x.f0 (mn (if x.f0 = 1 then 31 else 15) (x.f1 + y.f1 + 1)) (mn 31 (x.f2 + y.f2))
    have hq : 0 ≤ mn 31 (x.f2 + y.f2) ∧ mn 31 (x.f2 + y.f2) ≤ 31 := by unfold mn; split <;> omega
    refine ⟨?_, hq, ?_⟩
    · unfold mn; constructor <;> repeat' split
      all_goals omega
    · by_cases h1 : x.f0 = 1
      · exact Or.inl h1
      · refine Or.inr (Or.inl ⟨by omega, ?_⟩)
        rw [if_neg h1]; unfold mn; split <;> omega
theorem clamp (z : Int) : 0 ≤ mx 0 (mn 31 z) ∧ mx 0 (mn 31 z) ≤ 31 := by
  unfold mx mn
  constructor <;> repeat' split
  all_goals omega
theorem divS_ok (x y : S25) (m : Int) (h : pairOk x y m) : okT (divS x y) := by
  obtain ⟨⟨-, hx1, hx2, hx3⟩, ⟨-, hy1, hy2, hy3⟩, hk, -⟩ := h
  unfold divS
  by_cases h3 : x.f0 = 3
  · rw [if_pos h3]
    refine ⟨rfl, ?_⟩
    show okN 3 (mx x.f1 y.f1) 0
    have : 1 ≤ mx x.f1 y.f1 ∧ mx x.f1 y.f1 ≤ 15 := by unfold mx; split <;> omega
    exact ⟨⟨this.1, by omega⟩, ⟨by omega, by omega⟩, Or.inr (Or.inr ⟨rfl, this.2, rfl⟩)⟩
  · rw [if_neg h3]
    refine ⟨rfl, ?_⟩
    show okN x.f0 (lim x) (mx 0 (mn 31 (lim x - x.f1 + x.f2 - y.f2)))
    have hl := lim_range x
    generalize lim x - x.f1 + x.f2 - y.f2 = z
    have hq : 0 ≤ mx 0 (mn 31 z) ∧ mx 0 (mn 31 z) ≤ 31 := clamp z
    refine ⟨⟨by omega, by omega⟩, hq, ?_⟩
    by_cases h1 : x.f0 = 1
    · exact Or.inl h1
    · exact Or.inr (Or.inl ⟨by omega, by unfold lim; rw [if_neg h1]; omega⟩)
theorem powS_ok (a b : S25) (ha : okT a) (hb : okT b) : okT (powS a b) := by
  have h1 := (FL_ok a ha).2
  have h2 := (FL_ok b hb).2
  obtain ⟨p1, -, p3⟩ := h1
  obtain ⟨q1, -, q3⟩ := h2
  refine ⟨rfl, ?_⟩
  show okN 3 (mx (floP a.f0 a.f1) (floP b.f0 b.f1)) 0
  have e1 : 1 ≤ floP a.f0 a.f1 ∧ floP a.f0 a.f1 ≤ 15 := ⟨p1.1, by rcases p3 with h | h | h <;> first | exact h.2.1 | exact h.2 | (exact absurd h (by show ¬ (3 : Int) = 1; decide)) | (exact absurd h.1 (by show ¬ (3 : Int) = 2; decide))⟩
  have e2 : 1 ≤ floP b.f0 b.f1 ∧ floP b.f0 b.f1 ≤ 15 := ⟨q1.1, by rcases q3 with h | h | h <;> first | exact h.2.1 | exact h.2 | (exact absurd h (by show ¬ (3 : Int) = 1; decide)) | (exact absurd h.1 (by show ¬ (3 : Int) = 2; decide))⟩
  have : 1 ≤ mx (floP a.f0 a.f1) (floP b.f0 b.f1) ∧ mx (floP a.f0 a.f1) (floP b.f0 b.f1) ≤ 15 := by unfold mx; split <;> omega
  exact ⟨⟨this.1, by omega⟩, ⟨by omega, by omega⟩, Or.inr (Or.inr ⟨rfl, this.2, rfl⟩)⟩
theorem resO_ok (op : ByteArray) (a b : S25) (h : (resO op a b).2 = 0) : okT (resO op a b).1 := by
  unfold resO at h ⊢
  by_cases hv : validO [a, b] = 0
  · obtain ⟨ha, hb⟩ := okT_two a b hv
    have hp := brO_ok a b ha hb
    rw [if_pos hv] at h ⊢
    by_cases h5 : signO op = 5
    · rw [if_pos h5] at h; cases h
    rw [if_neg h5]
    by_cases h4 : signO op = 4
    · rw [if_pos h4]; exact powS_ok a b ha hb
    rw [if_neg h4]
    by_cases h2 : signO op = 2
    · rw [if_pos h2]; exact mulS_ok _ _ _ hp
    rw [if_neg h2]
    by_cases h3 : signO op = 3
    · rw [if_pos h3]; exact divS_ok _ _ _ hp
    rw [if_neg h3]; exact sumS_ok _ _ _ 1 hp (by omega) (by omega)
  · rw [if_neg hv] at h; exact absurd h hv
theorem FL_FL (t : S25) : FL (FL t) = FL t := rfl
theorem res_ev (op : ByteArray) (a b : S25) : Ev (fun k => rule_ResultA.f k op a.f0 a.f1 a.f2 a.f3 a.f4 a.f5 b.f0 b.f1 b.f2 b.f3 b.f4 b.f5) (r7 (resO op a b).1 (resO op a b).2) := by
  unfold rule_ResultA.f resO
  by_cases hv : validO [a, b] = 0
  · obtain ⟨ha, hb⟩ := okT_two a b hv
    have hp := brO_ok a b ha hb
    by_cases h4 : signO op = 4
    · simp only [if_pos (show validO [a, b] = 0 ∧ signO op = 4 from ⟨hv, h4⟩)]
      rw [if_pos hv, if_neg (by omega), if_pos h4]
      unfold raiseO
      rw [flo_is a ha, flo_is b hb]
      simp only [Option.bind_some]
      have ht := together_ev (FL a) (FL b) (FL_ok a ha) (FL_ok b hb)
      have hbr : brO (FL a) (FL b) = (FL a, FL b) := by unfold brO; rw [if_pos (show (FL a).f0 = 3 ∨ (FL b).f0 = 3 from Or.inl rfl)]; rfl
      rw [hbr] at ht
      refine Ev.bind ht ?_
      exact Ev.congr (fun k => if_pos rfl) (Ev.now _)
    · simp only [if_neg (show ¬ (validO [a, b] = 0 ∧ signO op = 4) from fun h => h4 h.2)]
      unfold rule_Result.f
      simp only [if_pos hv, if_neg h4]
      by_cases h5 : signO op = 5
      · simp only [if_pos h5]; exact Ev.now _
      simp only [if_neg h5]
      have ht := together_ev a b ha hb
      have hr := signO_range op
      generalize brO a b = z at *
      obtain ⟨x, y⟩ := z
      generalize brM a b = m at *
      simp only at hp ht ⊢
      have hm : m = lim x := hp.2.2.2
      refine Ev.bind ht ?_
      simp only
      by_cases h3 : x.f0 = 3
      · simp only [if_pos h3]
        have : (if signO op = 2 then (mulS x y, (0 : Int)) else if signO op = 3 then (divS x y, 0) else (sumS x y 1, 0)) = (nn 3 (mx x.f1 y.f1) 0, 0) := by
          unfold mulS divS sumS
          rw [if_pos h3, if_pos h3, if_pos h3]
          split <;> (try split) <;> rfl
        rw [this]; exact Ev.now _
      · simp only [if_neg h3]
        unfold ruleRow
        by_cases h2 : signO op = 2
        · rw [if_pos h2, if_pos h2]
          unfold rule_rows_2.f mulS
          rw [(mul_wrap x y m hp).1, (mul_wrap x y m hp).2, if_neg h3, hm]; exact Ev.now _
        · rw [if_neg h2, if_neg h2]
          by_cases h33 : signO op = 3
          · rw [if_pos h33, if_pos h33]
            unfold rule_rows_3.f divS
            rw [hm, div_wrap x y m hp, if_neg h3]; exact Ev.now _
          · rw [if_neg h33, if_neg h33]
            unfold rule_rows_1.f sumS
            rw [sum_wrap x y m 1 hp (by omega) (by omega), if_neg h3, hm]; exact Ev.now _
  · simp only [if_neg (show ¬ (validO [a, b] = 0 ∧ signO op = 4) from fun h => hv h.1)]
    unfold rule_Result.f
    simp only [if_neg hv]; exact Ev.now _
theorem rj1_ev (op : ByteArray) (a b x y : S25) (m : Int) (hp : pairOk x y m) (hop : op = nm 2 ∨ op = nm 3) : Ev (fun k => ironbarkref02_Result.j1 k op true x.f0 x.f1 x.f2 x.f3 x.f4 x.f5 y.f0 y.f1 y.f2 y.f3 y.f4 y.f5) (r7 (if op = nm 2 then mulS x y else divS x y) 0) := by
  refine Ev.step (f := fun _ => some _) (fun k => ?_) (Ev.now _)
  simp only [ironbarkref02_Result.j1]
  rw [if_pos trivial]
  by_cases h3 : x.f0 = 3
  · rw [if_pos h3]
    unfold mulS divS
    rw [if_pos h3, if_pos h3]
    split <;> rfl
  · rw [if_neg h3]
    have hlim := limit_is x
    by_cases h2 : op = nm 2
    · rw [if_pos (by rw [h2, l2]), if_pos h2, hlim, Option.bind_some, (mul_wrap x y m hp).1, (mul_wrap x y m hp).2]
      unfold mulS; rw [if_neg h3]; rfl
    · have hn : ¬ op.toList = [42] := fun h => h2 (toList_inj (h.trans l2.symm))
      rw [if_neg hn, if_neg h2, hlim, Option.bind_some, Option.bind_some, div_wrap x y m hp]
      unfold divS; rw [if_neg h3]; rfl
theorem rres_j0 (op : ByteArray) (a b : S25) (c : Bool) (hv : validO [a, b] = 0) (hc : c = true ↔ (op = nm 0 ∨ op = nm 1)) (x y : S25) (hz : brO a b = (x, y)) : Ev (fun k => ironbarkref02_Result.j0 k op op c a.f0 a.f1 a.f2 a.f3 a.f4 a.f5 b.f0 b.f1 b.f2 b.f3 b.f4 b.f5 x.f0 x.f1 x.f2 x.f3 x.f4 x.f5 y.f0 y.f1 y.f2 y.f3 y.f4 y.f5) (r7 (resO op a b).1 (resO op a b).2) := by
  obtain ⟨ha, hb⟩ := okT_two a b hv
  have hp := brO_ok a b ha hb
  have hsum := sum_ev a b 1 ha hb (by omega) (by omega)
  unfold resO
  rw [if_pos hv]
  rw [hz] at hp hsum ⊢
  simp only at hp hsum ⊢
  cases c with
  | true =>
    have h01 := hc.1 rfl
    have hs : signO op = 0 ∨ signO op = 1 := h01.elim (fun h => .inl (by rw [h]; exact s0)) (fun h => .inr (by rw [h]; exact s1))
    rw [if_neg (by omega), if_neg (by omega), if_neg (by omega), if_neg (by omega)]
    refine Ev.step (f := fun k => (ironbarkref02_sum.f k a.f0 a.f1 a.f2 a.f3 a.f4 a.f5 b.f0 b.f1 b.f2 b.f3 b.f4 b.f5 1).bind fun bt122 => some (bt122.1, bt122.2.1, bt122.2.2.1, bt122.2.2.2.1, bt122.2.2.2.2.1, bt122.2.2.2.2.2, (0 : Int))) (fun k => ?_) (Ev.bind hsum (Ev.now _))
    simp only [ironbarkref02_Result.j0]
    rw [if_pos trivial]
  | false =>
    have h0 : op ≠ nm 0 := fun h => absurd (hc.2 (.inl h)) (by decide)
    have h1 : op ≠ nm 1 := fun h => absurd (hc.2 (.inr h)) (by decide)
    rcases sign_cases op with h | h | h | h | h | h
    · exact absurd h h0
    · exact absurd h h1
    · have hj := rj1_ev op a b x y _ hp (.inl h)
      rw [if_pos h] at hj
      have hs : signO op = 2 := by rw [h]; exact s2
      rw [if_neg (by omega), if_neg (by omega), if_pos hs]
      refine Ev.step (fun k => ?_) hj
      simp only [ironbarkref02_Result.j0]
      have ht : op.toList = [42] := by rw [h]; exact l2
      rw [if_neg (by decide), ht, if_neg (by decide), if_pos rfl]; rfl
    · have hj := rj1_ev op a b x y _ hp (.inr h)
      rw [if_neg (by rw [h]; decide +kernel)] at hj
      have hs : signO op = 3 := by rw [h]; exact s3
      rw [if_neg (by omega), if_neg (by omega), if_neg (by omega), if_pos hs]
      refine Ev.step (fun k => ?_) hj
      simp only [ironbarkref02_Result.j0]
      have ht : op.toList = [47] := by rw [h]; exact l3
      rw [if_neg (by decide), ht, if_neg (by decide), if_neg (by decide)]; rfl
    · have hs : signO op = 4 := by rw [h]; exact s4
      rw [if_neg (by omega), if_pos hs]
      refine Ev.step (f := fun _ => some _) (fun k => ?_) (Ev.now _)
      simp only [ironbarkref02_Result.j0]
      have ht : op.toList = [42, 42] := by rw [h]; exact l4
      rw [if_neg (by decide), ht, if_pos rfl, rflo_is a ha, rflo_is b hb]; rfl
    · have h2 : ¬ op.toList = [42] := fun e => h.2.2.2.1 (toList_inj (e.trans l2.symm))
      have h3 : ¬ op.toList = [47] := fun e => h.2.2.2.2.1 (toList_inj (e.trans l3.symm))
      have h4 : ¬ op.toList = [42, 42] := fun e => h.2.2.2.2.2 (toList_inj (e.trans l4.symm))
      rw [if_pos h.1]
      refine Ev.step (f := fun k => ironbarkref02_Result.j1 k op false x.f0 x.f1 x.f2 x.f3 x.f4 x.f5 y.f0 y.f1 y.f2 y.f3 y.f4 y.f5) (fun k => ?_) (Ev.step (f := fun _ => some (r7 z25 5)) (fun k => ?_) (Ev.now _))
      · simp only [ironbarkref02_Result.j0]
        rw [if_neg (by decide), if_neg h4, if_neg h2, beq_eq_false_iff_ne.2 h3]
      · simp only [ironbarkref02_Result.j1]
        rw [if_neg (by decide)]; rfl
theorem rres_ev (op : ByteArray) (a b : S25) : Ev (fun k => ironbarkref02_Result.f k op a.f0 a.f1 a.f2 a.f3 a.f4 a.f5 b.f0 b.f1 b.f2 b.f3 b.f4 b.f5) (r7 (resO op a b).1 (resO op a b).2) := by
  unfold ironbarkref02_Result.f
  refine Ev.bind (asked_ev [a, b] (by simp)) ?_
  by_cases hv : validO [a, b] = 0
  · obtain ⟨ha, hb⟩ := okT_two a b hv
    simp only [if_pos hv]
    obtain ⟨x, y, hz⟩ : ∃ x y, brO a b = (x, y) := ⟨_, _, rfl⟩
    refine Ev.bind (brought_ev a b ha hb) ?_
    rw [hz]
    simp only
    by_cases h0 : op.toList = [43]
    · simp only [if_pos h0]
      exact rres_j0 op a b _ hv (by rw [beq_iff_eq]; exact ⟨fun h => .inl (toList_inj (h.trans l0.symm)), fun _ => h0⟩) _ _ hz
    · simp only [if_neg h0]
      refine rres_j0 op a b _ hv ?_ _ _ hz
      rw [beq_iff_eq]
      constructor
      · exact fun h => .inr (toList_inj (h.trans l1.symm))
      · rintro (h | h)
        · exact absurd (by rw [h]; exact l0) h0
        · rw [h]; exact l1
  · simp only [if_neg hv]
    unfold resO
    rw [if_neg hv]; exact Ev.now _
theorem assign_same (a b : S25) : ∃ r, rule_Assignable.f a.f0 a.f1 a.f2 a.f3 a.f4 a.f5 b.f0 b.f1 b.f2 b.f3 b.f4 b.f5 = some r ∧ Ev (fun k => ironbarkref02_Assignable.f k a.f0 a.f1 a.f2 a.f3 a.f4 a.f5 b.f0 b.f1 b.f2 b.f3 b.f4 b.f5) r := by
  unfold rule_Assignable.f ironbarkref02_Assignable.f
  have h1 := rValid_ev a
  have h2 := rValid_ev b
  have e1 : digit_Valid.f a.f0 a.f1 a.f2 a.f3 a.f4 a.f5 = some (tyB a) := rfl
  have e2 : digit_Valid.f b.f0 b.f1 b.f2 b.f3 b.f4 b.f5 = some (tyB b) := rfl
  rw [e1, e2, Option.bind_some]
  cases ha : tyB a with
  | false => rw [ha] at h1; exact ⟨_, if_neg (by decide), Ev.bind h1 (Ev.congr (fun k => if_neg (by decide)) (Ev.now _))⟩
  | true =>
    rw [ha] at h1
    simp only [if_true, Option.bind_some]
    cases hb : tyB b with
    | false => rw [hb] at h2; exact ⟨_, if_neg (by decide), Ev.bind h1 (Ev.congr (fun k => if_pos rfl) (Ev.bind h2 (Ev.congr (fun k => if_neg (by decide)) (Ev.now _))))⟩
    | true =>
      rw [hb] at h2
      simp only [if_true]
      by_cases h3 : a.f0 ≤ 6
      · rw [if_pos h3]
        by_cases h4 : b.f0 ≤ 6
        · rw [if_pos h4]
          refine ⟨_, rfl, Ev.bind h1 ?_⟩
          refine Ev.congr (fun k => if_pos rfl) (Ev.bind h2 ?_)
          exact Ev.congr (fun k => if_pos rfl) (Ev.now _)
        · rw [if_neg h4]
          refine ⟨_, rfl, Ev.bind h1 ?_⟩
          refine Ev.congr (fun k => if_pos rfl) (Ev.bind h2 ?_)
          exact Ev.congr (fun k => if_pos rfl) (Ev.now _)
      · rw [if_neg h3]
        refine ⟨_, rfl, Ev.bind h1 ?_⟩
        refine Ev.congr (fun k => if_pos rfl) (Ev.bind h2 ?_)
        exact Ev.congr (fun k => if_pos rfl) (Ev.now _)
theorem mulS_comm (x y : S25) (h : x.f0 = y.f0) : mulS x y = mulS y x := by
  unfold mulS lim
  rw [mx_comm y.f1, h, Int.add_comm y.f1, Int.add_comm y.f2]
theorem validO_turn (a b : S25) (h : validO [a, b] = 0) : validO [b, a] = 0 := by
  obtain ⟨ha, hb⟩ := okT_two a b h
  refine all_validO _ fun t ht => ?_
  simp only [List.mem_cons, List.not_mem_nil, or_false] at ht
  rcases ht with rfl | rfl
  · exact hb
  · exact ha
theorem resO_turn (op : ByteArray) (a b : S25) (hop : op = nm 0 ∨ op = nm 2) : ((resO op b a).2 != 0) = ((resO op a b).2 != 0) ∧ ((resO op b a).2 = 0 → (resO op b a).1 = (resO op a b).1) := by
  have hs : signO op = 0 ∨ signO op = 2 := hop.elim (fun h => .inl (by rw [h]; exact s0)) (fun h => .inr (by rw [h]; exact s2))
  by_cases hv : validO [a, b] = 0
  · have hv2 := validO_turn a b hv
    obtain ⟨ha, hb⟩ := okT_two a b hv
    have hp := brO_ok a b ha hb
    unfold resO
    rw [if_pos hv, if_pos hv2, if_neg (show ¬ signO op = 5 by omega), if_neg (show ¬ signO op = 5 by omega), if_neg (show ¬ signO op = 4 by omega), if_neg (show ¬ signO op = 4 by omega), brO_comm a b]
    generalize brO a b = z at *
    obtain ⟨x, y⟩ := z
    simp only at hp ⊢
    by_cases h2 : signO op = 2
    · rw [if_pos h2, if_pos h2]
      exact ⟨rfl, fun _ => mulS_comm y x hp.2.2.1.symm⟩
    · rw [if_neg h2, if_neg h2, if_neg (show ¬ signO op = 3 by omega), if_neg (show ¬ signO op = 3 by omega)]
      exact ⟨rfl, fun _ => sumS_comm y x 1 hp.2.2.1.symm⟩
  · have hv2 : ¬ validO [b, a] = 0 := fun h => hv (validO_turn b a h)
    unfold resO
    rw [if_neg hv, if_neg hv2]
    exact ⟨by rw [bne_iff_ne.2 hv, bne_iff_ne.2 hv2], fun h => absurd h hv2⟩
theorem rj2_awake (op : ByteArray) (e : Int) (a b u : S25) : Ev (fun k => ironbarklaw02_RuleResult.j2 k op e true a.f0 a.f1 a.f2 a.f3 a.f4 a.f5 b.f0 b.f1 b.f2 b.f3 b.f4 b.f5 u.f0 u.f1 u.f2 u.f3 u.f4 u.f5) true := by
  refine Ev.step (f := fun k => (ironbarklaw02_awake.f k).bind fun t => some t) (fun k => ?_) (Ev.bind awake_ev (Ev.now _))
  simp only [ironbarklaw02_RuleResult.j2]
  rw [if_pos trivial]
theorem rj2_turn (op : ByteArray) (a b : S25) (hop : op = nm 0 ∨ op = nm 2) : Ev (fun k => ironbarklaw02_RuleResult.j2 k op (resO op a b).2 false a.f0 a.f1 a.f2 a.f3 a.f4 a.f5 b.f0 b.f1 b.f2 b.f3 b.f4 b.f5 (resO op a b).1.f0 (resO op a b).1.f1 (resO op a b).1.f2 (resO op a b).1.f3 (resO op a b).1.f4 (resO op a b).1.f5) true := by
  have ht := resO_turn op a b hop
  have hr := res_ev op b a
  generalize resO op b a = p at *
  generalize resO op a b = q at *
  refine Ev.step (f := fun k => (rule_ResultA.f k op b.f0 b.f1 b.f2 b.f3 b.f4 b.f5 a.f0 a.f1 a.f2 a.f3 a.f4 a.f5).bind fun bt130 => (if ((bt130.2.2.2.2.2.2 != 0) == (q.2 != 0)) = true then (if bt130.2.2.2.2.2.2 = 0 then (if (bt130.1 == q.1.f0 && (bt130.2.1 == q.1.f1 && (bt130.2.2.1 == q.1.f2 && (bt130.2.2.2.1 == q.1.f3 && (bt130.2.2.2.2.1 == q.1.f4 && (bt130.2.2.2.2.2.1.toList == q.1.f5.toList)))))) = true then ((ironbarklaw02_awake.f k).bind fun t137 => (some t137)) else (some false)) else ((ironbarklaw02_awake.f k).bind fun t138 => (some t138))) else (some false))) (fun k => ?_) ?_
  · simp only [ironbarklaw02_RuleResult.j2]
    rw [if_neg (by decide)]
  · refine Ev.bind hr ?_
    refine Ev.congr (fun k => if_pos (by show ((p.2 != 0) == (q.2 != 0)) = true; rw [ht.1]; simp)) ?_
    show Ev (fun k => if p.2 = 0 then _ else _) true
    refine ev_ite (fun he => ?_) fun he => Ev.bind awake_ev (Ev.now _)
    refine Ev.congr (fun k => if_pos (by rw [← ht.2 he]; simp [r7])) ?_
    exact Ev.bind awake_ev (Ev.now _)
theorem rj1_true (op : ByteArray) (a b : S25) : Ev (fun k => ironbarklaw02_RuleResult.j1 k op (resO op a b).2 false a.f0 a.f1 a.f2 a.f3 a.f4 a.f5 b.f0 b.f1 b.f2 b.f3 b.f4 b.f5 (resO op a b).1.f0 (resO op a b).1.f1 (resO op a b).1.f2 (resO op a b).1.f3 (resO op a b).1.f4 (resO op a b).1.f5) true := by
  by_cases h0 : op.toList = [43]
  · refine Ev.step (fun k => ?_) (rj2_turn op a b (.inl (toList_inj (h0.trans l0.symm))))
    simp only [ironbarklaw02_RuleResult.j1]
    rw [if_neg (by decide), if_pos h0]
  · by_cases h2 : op.toList = [42]
    · refine Ev.step (fun k => ?_) (rj2_turn op a b (.inr (toList_inj (h2.trans l2.symm))))
      simp only [ironbarklaw02_RuleResult.j1]
      rw [if_neg (by decide), if_neg h0, h2, bne_self_eq_false]
    · refine Ev.step (fun k => ?_) (rj2_awake op (resO op a b).2 a b (resO op a b).1)
      simp only [ironbarklaw02_RuleResult.j1]
      rw [if_neg (by decide), if_neg h0, bne_iff_ne.2 h2]
theorem rj0_awake (op : ByteArray) (a b : S25) : Ev (fun k => ironbarklaw02_RuleResult.j0 k op true a.f0 a.f1 a.f2 a.f3 a.f4 a.f5 b.f0 b.f1 b.f2 b.f3 b.f4 b.f5) true := by
  refine Ev.step (f := fun k => (ironbarklaw02_awake.f k).bind fun t => some t) (fun k => ?_) (Ev.bind awake_ev (Ev.now _))
  simp only [ironbarklaw02_RuleResult.j0]
  rw [if_pos trivial]
theorem rj0_law (op : ByteArray) (a b : S25) : Ev (fun k => ironbarklaw02_RuleResult.j0 k op false a.f0 a.f1 a.f2 a.f3 a.f4 a.f5 b.f0 b.f1 b.f2 b.f3 b.f4 b.f5) true := by
  have h1 := res_ev op a b
  have h2 := rres_ev op a b
  obtain ⟨r, h3, h4⟩ := assign_same a b
  have hj := rj1_true op a b
  have hv := resO_ok op a b
  generalize resO op a b = z at *
  obtain ⟨u, e⟩ := z
  simp only at h1 h2 hj hv
  refine Ev.step (f := ?f) (fun k => ?_) ?_
  case f => exact fun k => ((rule_ResultA.f k op a.f0 a.f1 a.f2 a.f3 a.f4 a.f5 b.f0 b.f1 b.f2 b.f3 b.f4 b.f5).bind fun bt108 => ((ironbarkref02_Result.f k op a.f0 a.f1 a.f2 a.f3 a.f4 a.f5 b.f0 b.f1 b.f2 b.f3 b.f4 b.f5).bind fun bt116 => ((rule_Assignable.f a.f0 a.f1 a.f2 a.f3 a.f4 a.f5 b.f0 b.f1 b.f2 b.f3 b.f4 b.f5).bind fun bt124 => ((ironbarkref02_Assignable.f k a.f0 a.f1 a.f2 a.f3 a.f4 a.f5 b.f0 b.f1 b.f2 b.f3 b.f4 b.f5).bind fun bt126 => (if (!(bt108.1 == bt116.1) || (!(bt108.2.1 == bt116.2.1) || (!(bt108.2.2.1 == bt116.2.2.1) || (!(bt108.2.2.2.1 == bt116.2.2.2.1) || (!(bt108.2.2.2.2.1 == bt116.2.2.2.2.1) || (!(bt108.2.2.2.2.2.1.toList == bt116.2.2.2.2.2.1.toList))))))) = true then (ironbarklaw02_RuleResult.j1 k op bt116.2.2.2.2.2.2 true a.f0 a.f1 a.f2 a.f3 a.f4 a.f5 b.f0 b.f1 b.f2 b.f3 b.f4 b.f5 bt116.1 bt116.2.1 bt116.2.2.1 bt116.2.2.2.1 bt116.2.2.2.2.1 bt116.2.2.2.2.2.1) else (if bt108.2.2.2.2.2.2 = bt116.2.2.2.2.2.2 then (if (bt124.1 != bt126.1) = true then (ironbarklaw02_RuleResult.j1 k op bt116.2.2.2.2.2.2 true a.f0 a.f1 a.f2 a.f3 a.f4 a.f5 b.f0 b.f1 b.f2 b.f3 b.f4 b.f5 bt116.1 bt116.2.1 bt116.2.2.1 bt116.2.2.2.1 bt116.2.2.2.2.1 bt116.2.2.2.2.2.1) else (if bt124.2 = bt126.2 then (if bt108.2.2.2.2.2.2 = 0 then ((ironbarkref01_Valid.f k bt108.1 bt108.2.1 bt108.2.2.1 bt108.2.2.2.1 bt108.2.2.2.2.1 bt108.2.2.2.2.2.1).bind fun t128 => (ironbarklaw02_RuleResult.j1 k op bt116.2.2.2.2.2.2 (!t128) a.f0 a.f1 a.f2 a.f3 a.f4 a.f5 b.f0 b.f1 b.f2 b.f3 b.f4 b.f5 bt116.1 bt116.2.1 bt116.2.2.1 bt116.2.2.2.1 bt116.2.2.2.2.1 bt116.2.2.2.2.2.1)) else (ironbarklaw02_RuleResult.j1 k op bt116.2.2.2.2.2.2 false a.f0 a.f1 a.f2 a.f3 a.f4 a.f5 b.f0 b.f1 b.f2 b.f3 b.f4 b.f5 bt116.1 bt116.2.1 bt116.2.2.1 bt116.2.2.2.1 bt116.2.2.2.2.1 bt116.2.2.2.2.2.1)) else (ironbarklaw02_RuleResult.j1 k op bt116.2.2.2.2.2.2 true a.f0 a.f1 a.f2 a.f3 a.f4 a.f5 b.f0 b.f1 b.f2 b.f3 b.f4 b.f5 bt116.1 bt116.2.1 bt116.2.2.1 bt116.2.2.2.1 bt116.2.2.2.2.1 bt116.2.2.2.2.2.1))) else (ironbarklaw02_RuleResult.j1 k op bt116.2.2.2.2.2.2 true a.f0 a.f1 a.f2 a.f3 a.f4 a.f5 b.f0 b.f1 b.f2 b.f3 b.f4 b.f5 bt116.1 bt116.2.1 bt116.2.2.1 bt116.2.2.2.1 bt116.2.2.2.2.1 bt116.2.2.2.2.2.1)))))))
  · simp only [ironbarklaw02_RuleResult.j0]
    rw [if_neg (by decide)]
  · refine Ev.bind h1 (Ev.bind h2 ?_)
    rw [h3]
    simp only [Option.bind_some]
    refine Ev.bind h4 ?_
    refine Ev.congr (fun k => (if_neg (by simp [r7])).trans ((if_pos trivial).trans ((if_neg (by simp)).trans (if_pos rfl)))) ?_
    simp only [r7]
    refine ev_ite (fun he => ?_) fun he => hj
    have a := rValid_ev u; rw [(tyB_ok u (hv he)).1] at a
    exact Ev.bind a hj
theorem result_ev (op : ByteArray) (a b : S25) : Ev (fun k => ironbarklaw02_RuleResult.f k op a.f0 a.f1 a.f2 a.f3 a.f4 a.f5 b.f0 b.f1 b.f2 b.f3 b.f4 b.f5) true := by
  unfold ironbarklaw02_RuleResult.f
  obtain ⟨c, hc⟩ := light_ev [a, b] (by simp) 2 0 rfl
  refine Ev.bind (g := fun k => ironbarklaw02_light.f k [a, b]) (a := c) hc ?_
  cases c with
  | false => exact Ev.congr (fun k => if_neg (by decide)) (rj0_awake op a b)
  | true =>
    refine Ev.congr (fun k => if_pos rfl) ?_
    by_cases h : (op.size : Int) > 100
    · rw [decide_eq_true h]; exact rj0_awake op a b
    · rw [decide_eq_false h]; exact rj0_law op a b
theorem RuleResult_walk (op : ByteArray) (a b : S25) (w : World) (_ : op.size ≤ maxLen) (_ : Wf25 a) (_ : Wf25 b) :
    Calls Try.prog 4 #[.string op, .agg #[.int .i64 a.f0, .int .i64 a.f1, .int .i64 a.f2, .int .i64 a.f3, .bool a.f4, .string a.f5], .agg #[.int .i64 b.f0, .int .i64 b.f1, .int .i64 b.f2, .int .i64 b.f3, .bool b.f4, .string b.f5]] w fun e w' => e = .returned (.bool true) ∧ Below w.heap.size w w' := by
  obtain ⟨k, hk⟩ := (result_ev op a b).rounds
  exact ironbarklaw02_RuleResult.calls k op _ _ _ _ _ _ _ _ _ _ _ _ true w hk ⟨rfl⟩
end Go.Proofs.Ytemlbikangbomaa.P
