/- Part 9 of the proof of the law BitsBools: functions, contracts and plain laws; merged by this session's program. -/
import Derived.Test.YtnelblndidciiaaMBitsBools1
import Derived.Test.YtnelblndidciiaaMBitsBools2
import Derived.Test.YtnelblndidciiaaMBitsBools3
import Derived.Test.YtnelblndidciiaaMBitsBools5
import Derived.Test.YtnelblndidciiaaMBitsBools6
import Derived.Test.YtnelblndidciiaaMBitsBools7
import Derived.Test.YtnelblndidciiaaMBitsBools8
-- from the text F5
namespace Go.Proofs.Ytnelblndidciiaa.P
open Go.RowKit Go.Proofs.YtnelblndidciiaaW.PrintWords Go.Proofs.YtnelblndidciiaaW.PrintLast Go.Proofs.YtnelblndidciiaaW.PrintMore
attribute [local go_sem] max2_int min2_int max_two min_two max_three min_three max_four min_four   -- for this text's walks alone
set_option linter.unusedVariables false
set_option linter.unusedSimpArgs false
attribute [local go_sem high] eqA23
set_option maxHeartbeats 8000000 in
set_option maxRecDepth 100000 in
theorem ironbarklaw05_BitsBools.calls (k : Nat) (a0_0 : Int) (a0_1 : Int) (a0_2 : Int) (a0_3 : ByteArray) (a1_0 : Int) (a1_1 : Int) (a1_2 : Int) (a1_3 : ByteArray) (a2 : ByteArray) (r : Bool) (w : World) (h : ironbarklaw05_BitsBools.f k a0_0 a0_1 a0_2 a0_3 a1_0 a1_1 a1_2 a1_3 a2 = some r) (hrt_ : Aside0 (r = true)) :
  Calls Try.prog 5 #[.agg #[.int .i64 a0_0, .int .i64 a0_1, .int .i64 a0_2, .string a0_3], .agg #[.int .i64 a1_0, .int .i64 a1_1, .int .i64 a1_2, .string a1_3], .string a2] w fun e w' => e = .returned (.bool r) ∧ Below w.heap.size w w' := by
 have hu23 := Try.underlying23
 have HB := Aside0.mk (Below.refl w.heap.size w)
 have H : ((ironbarklaw05_lightT.f (([(⟨a0_0, a0_1, a0_2, a0_3⟩ : S23), (⟨a1_0, a1_1, a1_2, a1_3⟩ : S23)] : List (S23)))).bind fun t106 => (if t106 = true then (ironbarklaw05_BitsBools.j0 k a2 (decide ((a2.size : Int) > 100)) a0_0 a0_1 a0_2 a0_3 a1_0 a1_1 a1_2 a1_3) else (ironbarklaw05_BitsBools.j0 k a2 true a0_0 a0_1 a0_2 a0_3 a1_0 a1_1 a1_2 a1_3))) = some r := h
 clear h
 have HC4 := Aside0.mk H
 clear H
 go_enter Try.func5, Try.ntmps5
 go_upto_region 1 with (first | ((with_reducible refine gate_dst (N := 3) rfl ?_); (try (refine gate_guard (by rfl) ?_; dsimp only)); refine box_event ?hg (N := 3) ?hd (cs := #[.int .i64 a0_0, .int .i64 a0_1, .int .i64 a0_2, .string a0_3]) (t := 23) ?hr ?_; (case hd => rfl); (case hg => rfl); (case hr => first | (go_simp; done) | (go_simp; rfl)); intro gb101 hg w5 hbox hb; have n0_ := Aside0.mk (below_step (by repeat (first | (with_reducible first | exact HB.out | apply below_alloc | apply pw_below_drewN | apply below_drew1) | exact HB.out)) hb); have n1_ := Aside0.mk (hbox); have n2_ := Aside0.mk ((by rw [hg]; exact (below_size (by repeat (first | (with_reducible first | exact HB.out | apply below_alloc | apply pw_below_drewN | apply below_drew1) | exact HB.out))) : w.heap.size ≤ gb101)); have n3_ := n2_; clear HB; have HB := n0_; have BK101 := n1_; have GW101 := n2_; have GE101 := n3_; clear n0_ n1_ n2_ n3_; clear hb hbox hg) | ((with_reducible refine gate_dst (N := 4) rfl ?_); (try (refine gate_guard (by rfl) ?_; dsimp only)); refine box_event ?hg (N := 4) ?hd (cs := #[.int .i64 a1_0, .int .i64 a1_1, .int .i64 a1_2, .string a1_3]) (t := 23) ?hr ?_; (case hd => rfl); (case hg => rfl); (case hr => first | (go_simp; done) | (go_simp; rfl)); intro gb102 hg w6 hbox hb; have n0_ := Aside0.mk (blk_below (g := gb101) (o := .cells #[.int .i64 a0_0, .int .i64 a0_1, .int .i64 a0_2, .string a0_3] 23 (0, 0)) (by (with_reducible repeat first | refine zn ?_ _ | refine zd ?_ | refine za ?_ _); exact BK101.out) hb); have n1_ := Aside0.mk (below_step (by repeat (first | (with_reducible first | exact HB.out | apply below_alloc | apply pw_below_drewN | apply below_drew1 | refine below_set ?_ GE101.out) | exact HB.out)) hb); have n2_ := Aside0.mk (hbox); have n3_ := Aside0.mk ((by rw [hg]; exact (below_size (by repeat (first | (with_reducible first | exact HB.out | apply below_alloc | apply pw_below_drewN | apply below_drew1 | refine below_set ?_ GE101.out) | exact HB.out))) : w.heap.size ≤ gb102)); have n4_ := n3_; have n5_ := Aside0.mk ((by rw [hg]; exact Nat.ne_of_lt (blk_lt (g := gb101) (o := .cells #[.int .i64 a0_0, .int .i64 a0_1, .int .i64 a0_2, .string a0_3] 23 (0, 0)) (by (with_reducible repeat first | refine zn ?_ _ | refine zd ?_ | refine za ?_ _); exact BK101.out)) : gb101 ≠ gb102)); have n6_ := Aside0.mk ((by rw [hg]; exact Nat.ne_of_gt (blk_lt (g := gb101) (o := .cells #[.int .i64 a0_0, .int .i64 a0_1, .int .i64 a0_2, .string a0_3] 23 (0, 0)) (by (with_reducible repeat first | refine zn ?_ _ | refine zd ?_ | refine za ?_ _); exact BK101.out)) : gb102 ≠ gb101)); clear BK101; clear HB; have BK101 := n0_; have HB := n1_; have BK102 := n2_; have GW102 := n3_; have GE102 := n4_; have NB101_102 := n5_; have NB102_101 := n6_; clear n0_ n1_ n2_ n3_ n4_ n5_ n6_; clear hb hbox hg))
 (try simp only [Act.put, List.setIfInBounds_toArray, List.set_cons_zero, List.set_cons_succ])
 go_cut [31] (fun v31 wc => ∃ (kq : Nat) (x31_3 : Bool), v31 = .bool x31_3 ∧ Aside0 (ironbarklaw05_BitsBools.j0 kq a2 x31_3 a0_0 a0_1 a0_2 a0_3 a1_0 a1_1 a1_2 a1_3 = some r) ∧ Aside0 (kq ≤ k) ∧ Aside0 (wc.heap[gb101]? = some (.cells #[.int .i64 a0_0, .int .i64 a0_1, .int .i64 a0_2, .string a0_3] 23 (0, 0))) ∧ Aside0 (wc.heap[gb102]? = some (.cells #[.int .i64 a1_0, .int .i64 a1_1, .int .i64 a1_2, .string a1_3] 23 (0, 0))) ∧ Aside0 (Below w.heap.size w wc))
 case first =>
  have H := HC4.out
  clear HC4
  obtain ⟨y103, hy103⟩ : ∃ y_ : List (S23), y_ = (([(⟨a0_0, a0_1, a0_2, a0_3⟩ : S23), (⟨a1_0, a1_1, a1_2, a1_3⟩ : S23)] : List (S23))) := ⟨_, rfl⟩
  replace H : ((ironbarklaw05_lightT.f y103).bind fun t106 => (if t106 = true then (ironbarklaw05_BitsBools.j0 k a2 (decide ((a2.size : Int) > 100)) a0_0 a0_1 a0_2 a0_3 a1_0 a1_1 a1_2 a1_3) else (ironbarklaw05_BitsBools.j0 k a2 true a0_0 a0_1 a0_2 a0_3 a1_0 a1_1 a1_2 a1_3))) = some r := by first | (rw [hy103]; with_reducible exact H) | (have H2_ := (Option.bind_some _ _).symm.trans H; rw [hy103]; with_reducible exact H2_) | (have H2_ := (Option.bind_some _ _).symm.trans H; with_reducible exact H2_) | with_reducible exact H | (rw [hy103]; exact H) | exact H
  have Ny103 := Aside0.mk hy103
  clear hy103
  replace H := Option.bind_eq_some_iff.mp H
  obtain ⟨t106, A70, H⟩ := H
  replace H : (if t106 = true then (ironbarklaw05_BitsBools.j0 k a2 (decide ((a2.size : Int) > 100)) a0_0 a0_1 a0_2 a0_3 a1_0 a1_1 a1_2 a1_3) else (ironbarklaw05_BitsBools.j0 k a2 true a0_0 a0_1 a0_2 a0_3 a1_0 a1_1 a1_2 a1_3)) = some r := H
  have A7 := Aside0.mk A70
  clear A70
  by_cases c8 : t106 = true
  ·subst c8
   have H1 : (ironbarklaw05_BitsBools.j0 k a2 (decide ((a2.size : Int) > 100)) a0_0 a0_1 a0_2 a0_3 a1_0 a1_1 a1_2 a1_3) = some r := by rw [if_pos rfl] at H; exact H
   clear H
   have H := H1
   clear H1
   have H' := Aside0.mk H
   clear H
   have hnb9 := NB101_102.out
   have hnc9 := NB102_101.out
   obtain ⟨hcz10_0, hcz10_1, hcz10_2, hcz10_3⟩ := blk_quad BK101.out
   obtain ⟨hfz10_0, hfz10_1, hfz10_2, hfz10_3⟩ := blk_quad_free BK101.out
   obtain ⟨hcz11_0, hcz11_1, hcz11_2, hcz11_3⟩ := blk_quad BK102.out
   obtain ⟨hfz11_0, hfz11_1, hfz11_2, hfz11_3⟩ := blk_quad_free BK102.out
   go_wp2_with (first | ((with_reducible refine gate_dst (N := 24) rfl ?_); (try (refine gate_guard (by rfl) ?_; dsimp only)); refine Kd.R_lit k23 _ 23 ?hg (N := 24) ?hd (xs := ([(⟨a0_0, a0_1, a0_2, a0_3⟩ : S23), (⟨a1_0, a1_1, a1_2, a1_3⟩ : S23)] : List (S23))) (inner := [.int .i64 a0_0, .int .i64 a0_1, .int .i64 a0_2, .string a0_3, .int .i64 a1_0, .int .i64 a1_1, .int .i64 a1_2, .string a1_3]) (ok := fun _ => True) (okp := fun _ => True) ?hr ?hp (fun _ hk => hk) trivial (Below.refl _ _) (Nat.le_refl _) (by simp) ?_; (case hd => rfl); (case hg => rfl); (case hr => first | (go_simp; done) | (go_simp; rfl)); (case hp => exact (Reps.c4 (show Kd.M k23 _ _ _ (⟨a0_0, a0_1, a0_2, a0_3⟩ : S23) [.int .i64 a0_0, .int .i64 a0_1, .int .i64 a0_2, .string a0_3] from (k23_mkM _ _ _ (⟨a0_0, a0_1, a0_2, a0_3⟩ : S23) )) (Reps.c4 (show Kd.M k23 _ _ _ (⟨a1_0, a1_1, a1_2, a1_3⟩ : S23) [.int .i64 a1_0, .int .i64 a1_1, .int .i64 a1_2, .string a1_3] from (k23_mkM _ _ _ (⟨a1_0, a1_1, a1_2, a1_3⟩ : S23) )) (Reps.none _ _)))); intro v104 w12 ho13 hb hg_ hnew_; clear hg_ hnew_; (first | rw [← Ny103.out] at ho13 | (simp only [Int.reduceToNat] at ho13; rw [← Ny103.out] at ho13)); have n0_ := Aside0.mk (Kd.R_lower (Kd.R_newB (Kd.R_newB ho13 (g := gb101) (o := .cells #[.int .i64 a0_0, .int .i64 a0_1, .int .i64 a0_2, .string a0_3] 23 (0, 0)) (by (with_reducible repeat first | refine zn ?_ _ | refine zd ?_ | refine za ?_ _); exact BK101.out)) (g := gb102) (o := .cells #[.int .i64 a1_0, .int .i64 a1_1, .int .i64 a1_2, .string a1_3] 23 (0, 0)) (by (with_reducible repeat first | refine zn ?_ _ | refine zd ?_ | refine za ?_ _); exact BK102.out)) (below_size (by repeat (first | (with_reducible first | exact HB.out | apply below_alloc | apply pw_below_drewN | apply below_drew1 | refine below_set ?_ GE101.out | refine below_set ?_ GE102.out) | exact HB.out)))); have n1_ := Aside0.mk (blk_below (g := gb101) (o := .cells #[.int .i64 a0_0, .int .i64 a0_1, .int .i64 a0_2, .string a0_3] 23 (0, 0)) (by (with_reducible repeat first | refine zn ?_ _ | refine zd ?_ | refine za ?_ _); exact BK101.out) hb); have n2_ := Aside0.mk (blk_below (g := gb102) (o := .cells #[.int .i64 a1_0, .int .i64 a1_1, .int .i64 a1_2, .string a1_3] 23 (0, 0)) (by (with_reducible repeat first | refine zn ?_ _ | refine zd ?_ | refine za ?_ _); exact BK102.out) hb); have n3_ := Aside0.mk (below_step (by repeat (first | (with_reducible first | exact HB.out | apply below_alloc | apply pw_below_drewN | apply below_drew1 | refine below_set ?_ GE101.out | refine below_set ?_ GE102.out) | exact HB.out)) hb); clear BK101; clear BK102; clear HB; have HO105 := n0_; have BK101 := n1_; have BK102 := n2_; have HB := n3_; clear n0_ n1_ n2_ n3_; clear hb ho13; obtain ⟨Ao14, co14, eo14⟩ := Kd.R_slice HO105.out; subst eo14) | ((with_reducible refine gate_callee (f := 8) rfl ?_); refine goesL_ (some 25) rfl rfl Try.func8 (by kernel_rfl) rfl #[.slice Ao14 y103.length co14] rfl (by (try simp only [List.map_toArray, List.map_cons, List.map_nil]); first | done | rfl | (simp only [List.length_drop, List.length_take]; rfl)) ?_; (with_reducible refine (ironbarklaw05_lightT.calls _ _ y103 true _ ?side1 ?side2 A7.out).mono ?_); (case side1 => repeat (first | exact (Kd.R_reads' HO105.out).2.2 | (with_reducible refine Kd.C_alloc ?_ _) | (with_reducible refine Kd.C_drewN ?_ _) | (with_reducible refine Kd.C_drew ?_))); (case side2 => exact (Kd.R_reads' HO105.out).2.1); rintro e w' ⟨rfl, ⟨nd, rfl⟩⟩; refine ⟨_, rfl, ?_⟩))
   go_meet
   case rel => exact ⟨_, (decide ((a2.size : Int) > 100)), (by first | rfl | (simp; done) | (generalize ByteArray.toList _ = l_; cases l_ <;> rfl) | (simp [*]; done)), H', ⟨by first | omega | exact Nat.le_refl _⟩, ⟨by (with_reducible repeat first | refine zn ?_ _ | refine zd ?_ | refine za ?_ _); exact BK101.out⟩, ⟨by (with_reducible repeat first | refine zn ?_ _ | refine zd ?_ | refine za ?_ _); exact BK102.out⟩, ⟨by repeat (first | (with_reducible first | exact HB.out | apply below_alloc | apply pw_below_drewN | apply below_drew1 | refine below_set ?_ GE101.out | refine below_set ?_ GE102.out) | exact HB.out)⟩⟩
  ·replace c8 := Bool.eq_false_iff.mpr c8
   subst c8
   have H1 : (ironbarklaw05_BitsBools.j0 k a2 true a0_0 a0_1 a0_2 a0_3 a1_0 a1_1 a1_2 a1_3) = some r := by rw [if_neg (show ¬ (false = true) by decide)] at H; exact H
   clear H
   have H := H1
   clear H1
   have H' := Aside0.mk H
   clear H
   have hnb15 := NB101_102.out
   have hnc15 := NB102_101.out
   obtain ⟨hcz16_0, hcz16_1, hcz16_2, hcz16_3⟩ := blk_quad BK101.out
   obtain ⟨hfz16_0, hfz16_1, hfz16_2, hfz16_3⟩ := blk_quad_free BK101.out
   obtain ⟨hcz17_0, hcz17_1, hcz17_2, hcz17_3⟩ := blk_quad BK102.out
   obtain ⟨hfz17_0, hfz17_1, hfz17_2, hfz17_3⟩ := blk_quad_free BK102.out
   go_wp2_with (first | ((with_reducible refine gate_dst (N := 24) rfl ?_); (try (refine gate_guard (by rfl) ?_; dsimp only)); refine Kd.R_lit k23 _ 23 ?hg (N := 24) ?hd (xs := ([(⟨a0_0, a0_1, a0_2, a0_3⟩ : S23), (⟨a1_0, a1_1, a1_2, a1_3⟩ : S23)] : List (S23))) (inner := [.int .i64 a0_0, .int .i64 a0_1, .int .i64 a0_2, .string a0_3, .int .i64 a1_0, .int .i64 a1_1, .int .i64 a1_2, .string a1_3]) (ok := fun _ => True) (okp := fun _ => True) ?hr ?hp (fun _ hk => hk) trivial (Below.refl _ _) (Nat.le_refl _) (by simp) ?_; (case hd => rfl); (case hg => rfl); (case hr => first | (go_simp; done) | (go_simp; rfl)); (case hp => exact (Reps.c4 (show Kd.M k23 _ _ _ (⟨a0_0, a0_1, a0_2, a0_3⟩ : S23) [.int .i64 a0_0, .int .i64 a0_1, .int .i64 a0_2, .string a0_3] from (k23_mkM _ _ _ (⟨a0_0, a0_1, a0_2, a0_3⟩ : S23) )) (Reps.c4 (show Kd.M k23 _ _ _ (⟨a1_0, a1_1, a1_2, a1_3⟩ : S23) [.int .i64 a1_0, .int .i64 a1_1, .int .i64 a1_2, .string a1_3] from (k23_mkM _ _ _ (⟨a1_0, a1_1, a1_2, a1_3⟩ : S23) )) (Reps.none _ _)))); intro v104 w18 ho19 hb hg_ hnew_; clear hg_ hnew_; (first | rw [← Ny103.out] at ho19 | (simp only [Int.reduceToNat] at ho19; rw [← Ny103.out] at ho19)); have n0_ := Aside0.mk (Kd.R_lower (Kd.R_newB (Kd.R_newB ho19 (g := gb101) (o := .cells #[.int .i64 a0_0, .int .i64 a0_1, .int .i64 a0_2, .string a0_3] 23 (0, 0)) (by (with_reducible repeat first | refine zn ?_ _ | refine zd ?_ | refine za ?_ _); exact BK101.out)) (g := gb102) (o := .cells #[.int .i64 a1_0, .int .i64 a1_1, .int .i64 a1_2, .string a1_3] 23 (0, 0)) (by (with_reducible repeat first | refine zn ?_ _ | refine zd ?_ | refine za ?_ _); exact BK102.out)) (below_size (by repeat (first | (with_reducible first | exact HB.out | apply below_alloc | apply pw_below_drewN | apply below_drew1 | refine below_set ?_ GE101.out | refine below_set ?_ GE102.out) | exact HB.out)))); have n1_ := Aside0.mk (blk_below (g := gb101) (o := .cells #[.int .i64 a0_0, .int .i64 a0_1, .int .i64 a0_2, .string a0_3] 23 (0, 0)) (by (with_reducible repeat first | refine zn ?_ _ | refine zd ?_ | refine za ?_ _); exact BK101.out) hb); have n2_ := Aside0.mk (blk_below (g := gb102) (o := .cells #[.int .i64 a1_0, .int .i64 a1_1, .int .i64 a1_2, .string a1_3] 23 (0, 0)) (by (with_reducible repeat first | refine zn ?_ _ | refine zd ?_ | refine za ?_ _); exact BK102.out) hb); have n3_ := Aside0.mk (below_step (by repeat (first | (with_reducible first | exact HB.out | apply below_alloc | apply pw_below_drewN | apply below_drew1 | refine below_set ?_ GE101.out | refine below_set ?_ GE102.out) | exact HB.out)) hb); clear BK101; clear BK102; clear HB; have HO105 := n0_; have BK101 := n1_; have BK102 := n2_; have HB := n3_; clear n0_ n1_ n2_ n3_; clear hb ho19; obtain ⟨Ao20, co20, eo20⟩ := Kd.R_slice HO105.out; subst eo20) | ((with_reducible refine gate_callee (f := 8) rfl ?_); refine goesL_ (some 25) rfl rfl Try.func8 (by kernel_rfl) rfl #[.slice Ao20 y103.length co20] rfl (by (try simp only [List.map_toArray, List.map_cons, List.map_nil]); first | done | rfl | (simp only [List.length_drop, List.length_take]; rfl)) ?_; (with_reducible refine (ironbarklaw05_lightT.calls _ _ y103 false _ ?side1 ?side2 A7.out).mono ?_); (case side1 => repeat (first | exact (Kd.R_reads' HO105.out).2.2 | (with_reducible refine Kd.C_alloc ?_ _) | (with_reducible refine Kd.C_drewN ?_ _) | (with_reducible refine Kd.C_drew ?_))); (case side2 => exact (Kd.R_reads' HO105.out).2.1); rintro e w' ⟨rfl, ⟨nd, rfl⟩⟩; refine ⟨_, rfl, ?_⟩))
   go_meet
   case rel => exact ⟨_, (true), (by first | rfl | (simp; done) | (generalize ByteArray.toList _ = l_; cases l_ <;> rfl) | (simp [*]; done)), H', ⟨by first | omega | exact Nat.le_refl _⟩, ⟨by (with_reducible repeat first | refine zn ?_ _ | refine zd ?_ | refine za ?_ _); exact BK101.out⟩, ⟨by (with_reducible repeat first | refine zn ?_ _ | refine zd ?_ | refine za ?_ _); exact BK102.out⟩, ⟨by repeat (first | (with_reducible first | exact HB.out | apply below_alloc | apply pw_below_drewN | apply below_drew1 | refine below_set ?_ GE101.out | refine below_set ?_ GE102.out) | exact HB.out)⟩⟩
 case rest => as_aux_lemma =>
  clear HC4
  try clear c1
  try clear p2
  try clear c4
  try clear c5
  try clear c8
  try clear c9
  try clear c15
  try clear hcz10_0 hcz10_1 hcz10_2 hcz10_3
  try clear hcz11_0 hcz11_1 hcz11_2 hcz11_3
  try clear hcz16_0 hcz16_1 hcz16_2 hcz16_3
  try clear hcz17_0 hcz17_1 hcz17_2 hcz17_3
  try clear hfz10_0 hfz10_1 hfz10_2 hfz10_3
  try clear hfz11_0 hfz11_1 hfz11_2 hfz11_3
  try clear hfz16_0 hfz16_1 hfz16_2 hfz16_3
  try clear hfz17_0 hfz17_1 hfz17_2 hfz17_3
  obtain ⟨kq, x31_3, rfl, HA, HJ3, BK101, BK102, HB⟩ := hcut
  cases kq with
  | zero => exact absurd HA.out (by simp [ironbarklaw05_BitsBools.j0])
  | succ kj3 =>
   have H := HA.out
   clear HA
   simp only [ironbarklaw05_BitsBools.j0] at H
   by_cases c21 : x31_3 = true
   ·subst c21
    have H1 : ((ironbarklaw05_awake.f).bind fun t107 => (some t107)) = some r := by rw [if_pos rfl] at H; exact H
    clear H
    have H := H1
    clear H1
    replace H := Option.bind_eq_some_iff.mp H
    obtain ⟨t107, A220, H⟩ := H
    replace H : (some t107) = some r := H
    have A22 := Aside0.mk A220
    clear A220
    obtain rfl := Option.some.inj H
    go_wp2_with (first | ((with_reducible refine gate_callee (f := 9) rfl ?_); refine goesL_ (some 32) rfl rfl Try.func9 (by kernel_rfl) rfl #[] rfl (by (try simp only [List.map_toArray, List.map_cons, List.map_nil]); first | done | rfl | (simp only [List.length_drop, List.length_take]; rfl)) ?_; (with_reducible refine (ironbarklaw05_awake.calls  t107 _ A22.out).mono ?_); rintro e w23 ⟨rfl, hb⟩; refine ⟨_, rfl, ?_⟩; have n0_ := Aside0.mk (blk_below (g := gb101) (o := .cells #[.int .i64 a0_0, .int .i64 a0_1, .int .i64 a0_2, .string a0_3] 23 (0, 0)) (by (with_reducible repeat first | refine zn ?_ _ | refine zd ?_ | refine za ?_ _); exact BK101.out) hb); have n1_ := Aside0.mk (blk_below (g := gb102) (o := .cells #[.int .i64 a1_0, .int .i64 a1_1, .int .i64 a1_2, .string a1_3] 23 (0, 0)) (by (with_reducible repeat first | refine zn ?_ _ | refine zd ?_ | refine za ?_ _); exact BK102.out) hb); have n2_ := Aside0.mk (below_step (by repeat (first | (with_reducible first | exact HB.out | apply below_alloc | apply pw_below_drewN | apply below_drew1 | refine below_set ?_ GE101.out | refine below_set ?_ GE102.out) | exact HB.out)) hb); clear BK101; clear BK102; clear HB; have BK101 := n0_; have BK102 := n1_; have HB := n2_; clear n0_ n1_ n2_; (try clear hb); (try clear hb2); (try clear hk); (try clear hi)))
    go_ret
    exact ⟨by first | rfl | (simp [errW_none, errW_some] <;> rfl) | (simp [*, errW_none, errW_some] <;> rfl), by repeat (first | (with_reducible first | exact HB.out | apply below_alloc | apply pw_below_drewN | apply below_drew1 | refine below_set ?_ GE101.out | refine below_set ?_ GE102.out) | exact HB.out)⟩
   ·replace c21 := Bool.eq_false_iff.mpr c21
    subst c21
    have H1 : ((bits_Bool.f kj3 a0_0 a0_1 a0_2 a0_3 a1_0 a1_1 a1_2 a1_3 a2).bind fun bt108 => ((ironbarkref05_Bool.f kj3 a0_0 a0_1 a0_2 a0_3 a1_0 a1_1 a1_2 a1_3 a2).bind fun bt114 => (if (!(bt108.1 == bt114.1) || (!(bt108.2.1 == bt114.2.1) || (!(bt108.2.2.1 == bt114.2.2.1) || (!(bt108.2.2.2.1.toList == bt114.2.2.2.1.toList))))) = true then (ironbarklaw05_BitsBools.j1 kj3 true a0_0 a0_1 a0_2 a0_3 a1_0 a1_1 a1_2 a1_3) else (ironbarklaw05_BitsBools.j1 kj3 (bt108.2.2.2.2 != bt114.2.2.2.2) a0_0 a0_1 a0_2 a0_3 a1_0 a1_1 a1_2 a1_3)))) = some r := by rw [if_neg (show ¬ (false = true) by decide)] at H; exact H
    clear H
    have H := H1
    clear H1
    replace H := Option.bind_eq_some_iff.mp H
    obtain ⟨⟨t108, t109, t110, t111, t112⟩, A240, H⟩ := H
    replace H : ((ironbarkref05_Bool.f kj3 a0_0 a0_1 a0_2 a0_3 a1_0 a1_1 a1_2 a1_3 a2).bind fun bt114 => (if (!(t108 == bt114.1) || (!(t109 == bt114.2.1) || (!(t110 == bt114.2.2.1) || (!(t111.toList == bt114.2.2.2.1.toList))))) = true then (ironbarklaw05_BitsBools.j1 kj3 true a0_0 a0_1 a0_2 a0_3 a1_0 a1_1 a1_2 a1_3) else (ironbarklaw05_BitsBools.j1 kj3 (t112 != bt114.2.2.2.2) a0_0 a0_1 a0_2 a0_3 a1_0 a1_1 a1_2 a1_3))) = some r := H
    have A24 := Aside0.mk A240
    clear A240
    replace H := Option.bind_eq_some_iff.mp H
    obtain ⟨⟨t114, t115, t116, t117, t118⟩, A250, H⟩ := H
    replace H : (if (!(t108 == t114) || (!(t109 == t115) || (!(t110 == t116) || (!(t111.toList == t117.toList))))) = true then (ironbarklaw05_BitsBools.j1 kj3 true a0_0 a0_1 a0_2 a0_3 a1_0 a1_1 a1_2 a1_3) else (ironbarklaw05_BitsBools.j1 kj3 (t112 != t118) a0_0 a0_1 a0_2 a0_3 a1_0 a1_1 a1_2 a1_3)) = some r := H
    have A25 := Aside0.mk A250
    clear A250
    have HC26 := Aside0.mk H
    clear H
    have hnb27 := NB101_102.out
    have hnc27 := NB102_101.out
    obtain ⟨hcz28_0, hcz28_1, hcz28_2, hcz28_3⟩ := blk_quad BK101.out
    obtain ⟨hfz28_0, hfz28_1, hfz28_2, hfz28_3⟩ := blk_quad_free BK101.out
    obtain ⟨hcz29_0, hcz29_1, hcz29_2, hcz29_3⟩ := blk_quad BK102.out
    obtain ⟨hfz29_0, hfz29_1, hfz29_2, hfz29_3⟩ := blk_quad_free BK102.out
    go_upto_region 5 with (first | ((with_reducible refine gate_callee (f := 21) rfl ?_); refine goesL_ (some 37) rfl rfl Try.func21 (by kernel_rfl) rfl #[.agg #[.int .i64 a0_0, .int .i64 a0_1, .int .i64 a0_2, .string a0_3], .agg #[.int .i64 a1_0, .int .i64 a1_1, .int .i64 a1_2, .string a1_3], .string a2] rfl (by (try simp only [List.map_toArray, List.map_cons, List.map_nil]); first | done | rfl | (simp only [List.length_drop, List.length_take]; rfl)) ?_; (with_reducible refine (bits_Bool.calls kj3 a0_0 a0_1 a0_2 a0_3 a1_0 a1_1 a1_2 a1_3 a2 t108 t109 t110 t111 t112 _ A24.out).mono ?_); rintro e w30 ⟨rfl, hb⟩; refine ⟨_, rfl, ?_⟩; have n0_ := Aside0.mk (blk_below (g := gb101) (o := .cells #[.int .i64 a0_0, .int .i64 a0_1, .int .i64 a0_2, .string a0_3] 23 (0, 0)) (by (with_reducible repeat first | refine zn ?_ _ | refine zd ?_ | refine za ?_ _); exact BK101.out) hb); have n1_ := Aside0.mk (blk_below (g := gb102) (o := .cells #[.int .i64 a1_0, .int .i64 a1_1, .int .i64 a1_2, .string a1_3] 23 (0, 0)) (by (with_reducible repeat first | refine zn ?_ _ | refine zd ?_ | refine za ?_ _); exact BK102.out) hb); have n2_ := Aside0.mk (below_step (by repeat (first | (with_reducible first | exact HB.out | apply below_alloc | apply pw_below_drewN | apply below_drew1 | refine below_set ?_ GE101.out | refine below_set ?_ GE102.out) | exact HB.out)) hb); clear BK101; clear BK102; clear HB; have BK101 := n0_; have BK102 := n1_; have HB := n2_; clear n0_ n1_ n2_; (try clear hb); (try clear hb2); (try clear hk); (try clear hi)) | ((with_reducible refine gate_dst (N := 7) rfl ?_); (try (refine gate_guard (by rfl) ?_; dsimp only)); refine box_event ?hg (N := 7) ?hd (cs := #[.int .i64 0, .int .i64 0, .int .i64 0, .string (⟨#[]⟩ : ByteArray)]) (t := 23) ?hr ?_; (case hd => rfl); (case hg => rfl); (case hr => first | (go_simp; done) | (go_simp; rfl)); intro gb113 hg w31 hbox hb; have n0_ := Aside0.mk (blk_below (g := gb101) (o := .cells #[.int .i64 a0_0, .int .i64 a0_1, .int .i64 a0_2, .string a0_3] 23 (0, 0)) (by (with_reducible repeat first | refine zn ?_ _ | refine zd ?_ | refine za ?_ _); exact BK101.out) hb); have n1_ := Aside0.mk (blk_below (g := gb102) (o := .cells #[.int .i64 a1_0, .int .i64 a1_1, .int .i64 a1_2, .string a1_3] 23 (0, 0)) (by (with_reducible repeat first | refine zn ?_ _ | refine zd ?_ | refine za ?_ _); exact BK102.out) hb); have n2_ := Aside0.mk (below_step (by repeat (first | (with_reducible first | exact HB.out | apply below_alloc | apply pw_below_drewN | apply below_drew1 | refine below_set ?_ GE101.out | refine below_set ?_ GE102.out) | exact HB.out)) hb); have n3_ := Aside0.mk (hbox); have n4_ := Aside0.mk ((by rw [hg]; exact (below_size (by repeat (first | (with_reducible first | exact HB.out | apply below_alloc | apply pw_below_drewN | apply below_drew1 | refine below_set ?_ GE101.out | refine below_set ?_ GE102.out) | exact HB.out))) : w.heap.size ≤ gb113)); have n5_ := n4_; have n6_ := Aside0.mk ((by rw [hg]; exact Nat.ne_of_lt (blk_lt (g := gb101) (o := .cells #[.int .i64 a0_0, .int .i64 a0_1, .int .i64 a0_2, .string a0_3] 23 (0, 0)) (by (with_reducible repeat first | refine zn ?_ _ | refine zd ?_ | refine za ?_ _); exact BK101.out)) : gb101 ≠ gb113)); have n7_ := Aside0.mk ((by rw [hg]; exact Nat.ne_of_gt (blk_lt (g := gb101) (o := .cells #[.int .i64 a0_0, .int .i64 a0_1, .int .i64 a0_2, .string a0_3] 23 (0, 0)) (by (with_reducible repeat first | refine zn ?_ _ | refine zd ?_ | refine za ?_ _); exact BK101.out)) : gb113 ≠ gb101)); have n8_ := Aside0.mk ((by rw [hg]; exact Nat.ne_of_lt (blk_lt (g := gb102) (o := .cells #[.int .i64 a1_0, .int .i64 a1_1, .int .i64 a1_2, .string a1_3] 23 (0, 0)) (by (with_reducible repeat first | refine zn ?_ _ | refine zd ?_ | refine za ?_ _); exact BK102.out)) : gb102 ≠ gb113)); have n9_ := Aside0.mk ((by rw [hg]; exact Nat.ne_of_gt (blk_lt (g := gb102) (o := .cells #[.int .i64 a1_0, .int .i64 a1_1, .int .i64 a1_2, .string a1_3] 23 (0, 0)) (by (with_reducible repeat first | refine zn ?_ _ | refine zd ?_ | refine za ?_ _); exact BK102.out)) : gb113 ≠ gb102)); clear BK101; clear BK102; clear HB; have BK101 := n0_; have BK102 := n1_; have HB := n2_; have BK113 := n3_; have GW113 := n4_; have GE113 := n5_; have NB101_113 := n6_; have NB113_101 := n7_; have NB102_113 := n8_; have NB113_102 := n9_; clear n0_ n1_ n2_ n3_ n4_ n5_ n6_ n7_ n8_ n9_; clear hb hbox hg; have hnb32 := NB113_101.out; have hnc32 := NB101_113.out; have hnb33 := NB113_102.out; have hnc33 := NB102_113.out; obtain ⟨hcz34_0, hcz34_1, hcz34_2, hcz34_3⟩ := blk_quad BK113.out; obtain ⟨hfz34_0, hfz34_1, hfz34_2, hfz34_3⟩ := blk_quad_free BK113.out; obtain ⟨hcz35_0, hcz35_1, hcz35_2, hcz35_3⟩ := blk_quad BK101.out; obtain ⟨hfz35_0, hfz35_1, hfz35_2, hfz35_3⟩ := blk_quad_free BK101.out; obtain ⟨hcz36_0, hcz36_1, hcz36_2, hcz36_3⟩ := blk_quad BK102.out; obtain ⟨hfz36_0, hfz36_1, hfz36_2, hfz36_3⟩ := blk_quad_free BK102.out) | ((with_reducible refine gate_callee (f := 22) rfl ?_); refine goesL_ (some 44) rfl rfl Try.func22 (by kernel_rfl) rfl #[.agg #[.int .i64 a0_0, .int .i64 a0_1, .int .i64 a0_2, .string a0_3], .agg #[.int .i64 a1_0, .int .i64 a1_1, .int .i64 a1_2, .string a1_3], .string a2] rfl (by (try simp only [List.map_toArray, List.map_cons, List.map_nil]); first | done | rfl | (simp only [List.length_drop, List.length_take]; rfl)) ?_; (with_reducible refine (ironbarkref05_Bool.calls kj3 a0_0 a0_1 a0_2 a0_3 a1_0 a1_1 a1_2 a1_3 a2 t114 t115 t116 t117 t118 _ A25.out).mono ?_); rintro e w37 ⟨rfl, hb⟩; refine ⟨_, rfl, ?_⟩; have n0_ := Aside0.mk (blk_below (g := gb101) (o := .cells #[.int .i64 a0_0, .int .i64 a0_1, .int .i64 a0_2, .string a0_3] 23 (0, 0)) (by (with_reducible repeat first | refine zn ?_ _ | refine zd ?_ | refine za ?_ _); refine blk_far ?_ NB101_113.out _; (with_reducible repeat first | refine zn ?_ _ | refine zd ?_ | refine za ?_ _); refine blk_far ?_ NB101_113.out _; (with_reducible repeat first | refine zn ?_ _ | refine zd ?_ | refine za ?_ _); refine blk_far ?_ NB101_113.out _; (with_reducible repeat first | refine zn ?_ _ | refine zd ?_ | refine za ?_ _); refine blk_far ?_ NB101_113.out _; (with_reducible repeat first | refine zn ?_ _ | refine zd ?_ | refine za ?_ _); exact BK101.out) hb); have n1_ := Aside0.mk (blk_below (g := gb102) (o := .cells #[.int .i64 a1_0, .int .i64 a1_1, .int .i64 a1_2, .string a1_3] 23 (0, 0)) (by (with_reducible repeat first | refine zn ?_ _ | refine zd ?_ | refine za ?_ _); refine blk_far ?_ NB102_113.out _; (with_reducible repeat first | refine zn ?_ _ | refine zd ?_ | refine za ?_ _); refine blk_far ?_ NB102_113.out _; (with_reducible repeat first | refine zn ?_ _ | refine zd ?_ | refine za ?_ _); refine blk_far ?_ NB102_113.out _; (with_reducible repeat first | refine zn ?_ _ | refine zd ?_ | refine za ?_ _); refine blk_far ?_ NB102_113.out _; (with_reducible repeat first | refine zn ?_ _ | refine zd ?_ | refine za ?_ _); exact BK102.out) hb); have n2_ := Aside0.mk (blk_below (g := gb113) (o := .cells #[.int .i64 t108, .int .i64 t109, .int .i64 t110, .string t111] 23 (0, 0)) (by (with_reducible repeat first | refine zn ?_ _ | refine zd ?_ | refine za ?_ _); refine blk_put (cs := #[.int .i64 t108, .int .i64 t109, .int .i64 t110, .string (⟨#[]⟩ : ByteArray)]) ?_ 3 _ rfl; (with_reducible repeat first | refine zn ?_ _ | refine zd ?_ | refine za ?_ _); refine blk_put (cs := #[.int .i64 t108, .int .i64 t109, .int .i64 0, .string (⟨#[]⟩ : ByteArray)]) ?_ 2 _ rfl; (with_reducible repeat first | refine zn ?_ _ | refine zd ?_ | refine za ?_ _); refine blk_put (cs := #[.int .i64 t108, .int .i64 0, .int .i64 0, .string (⟨#[]⟩ : ByteArray)]) ?_ 1 _ rfl; (with_reducible repeat first | refine zn ?_ _ | refine zd ?_ | refine za ?_ _); refine blk_put (cs := #[.int .i64 0, .int .i64 0, .int .i64 0, .string (⟨#[]⟩ : ByteArray)]) ?_ 0 _ rfl; (with_reducible repeat first | refine zn ?_ _ | refine zd ?_ | refine za ?_ _); exact BK113.out) hb); have n3_ := Aside0.mk (below_step (by repeat (first | (with_reducible first | exact HB.out | apply below_alloc | apply pw_below_drewN | apply below_drew1 | refine below_set ?_ GE101.out | refine below_set ?_ GE102.out | refine below_set ?_ GE113.out) | exact HB.out)) hb); clear BK101; clear BK102; clear BK113; clear HB; have BK101 := n0_; have BK102 := n1_; have BK113 := n2_; have HB := n3_; clear n0_ n1_ n2_ n3_; (try clear hb); (try clear hb2); (try clear hk); (try clear hi)) | ((with_reducible refine gate_dst (N := 9) rfl ?_); (try (refine gate_guard (by rfl) ?_; dsimp only)); refine box_event ?hg (N := 9) ?hd (cs := #[.int .i64 0, .int .i64 0, .int .i64 0, .string (⟨#[]⟩ : ByteArray)]) (t := 23) ?hr ?_; (case hd => rfl); (case hg => rfl); (case hr => first | (go_simp; done) | (go_simp; rfl)); intro gb119 hg w38 hbox hb; have n0_ := Aside0.mk (blk_below (g := gb101) (o := .cells #[.int .i64 a0_0, .int .i64 a0_1, .int .i64 a0_2, .string a0_3] 23 (0, 0)) (by (with_reducible repeat first | refine zn ?_ _ | refine zd ?_ | refine za ?_ _); exact BK101.out) hb); have n1_ := Aside0.mk (blk_below (g := gb102) (o := .cells #[.int .i64 a1_0, .int .i64 a1_1, .int .i64 a1_2, .string a1_3] 23 (0, 0)) (by (with_reducible repeat first | refine zn ?_ _ | refine zd ?_ | refine za ?_ _); exact BK102.out) hb); have n2_ := Aside0.mk (blk_below (g := gb113) (o := .cells #[.int .i64 t108, .int .i64 t109, .int .i64 t110, .string t111] 23 (0, 0)) (by (with_reducible repeat first | refine zn ?_ _ | refine zd ?_ | refine za ?_ _); exact BK113.out) hb); have n3_ := Aside0.mk (below_step (by repeat (first | (with_reducible first | exact HB.out | apply below_alloc | apply pw_below_drewN | apply below_drew1 | refine below_set ?_ GE101.out | refine below_set ?_ GE102.out | refine below_set ?_ GE113.out) | exact HB.out)) hb); have n4_ := Aside0.mk (hbox); have n5_ := Aside0.mk ((by rw [hg]; exact (below_size (by repeat (first | (with_reducible first | exact HB.out | apply below_alloc | apply pw_below_drewN | apply below_drew1 | refine below_set ?_ GE101.out | refine below_set ?_ GE102.out | refine below_set ?_ GE113.out) | exact HB.out))) : w.heap.size ≤ gb119)); have n6_ := n5_; have n7_ := Aside0.mk ((by rw [hg]; exact Nat.ne_of_lt (blk_lt (g := gb101) (o := .cells #[.int .i64 a0_0, .int .i64 a0_1, .int .i64 a0_2, .string a0_3] 23 (0, 0)) (by (with_reducible repeat first | refine zn ?_ _ | refine zd ?_ | refine za ?_ _); exact BK101.out)) : gb101 ≠ gb119)); have n8_ := Aside0.mk ((by rw [hg]; exact Nat.ne_of_gt (blk_lt (g := gb101) (o := .cells #[.int .i64 a0_0, .int .i64 a0_1, .int .i64 a0_2, .string a0_3] 23 (0, 0)) (by (with_reducible repeat first | refine zn ?_ _ | refine zd ?_ | refine za ?_ _); exact BK101.out)) : gb119 ≠ gb101)); have n9_ := Aside0.mk ((by rw [hg]; exact Nat.ne_of_lt (blk_lt (g := gb102) (o := .cells #[.int .i64 a1_0, .int .i64 a1_1, .int .i64 a1_2, .string a1_3] 23 (0, 0)) (by (with_reducible repeat first | refine zn ?_ _ | refine zd ?_ | refine za ?_ _); exact BK102.out)) : gb102 ≠ gb119)); have n10_ := Aside0.mk ((by rw [hg]; exact Nat.ne_of_gt (blk_lt (g := gb102) (o := .cells #[.int .i64 a1_0, .int .i64 a1_1, .int .i64 a1_2, .string a1_3] 23 (0, 0)) (by (with_reducible repeat first | refine zn ?_ _ | refine zd ?_ | refine za ?_ _); exact BK102.out)) : gb119 ≠ gb102)); have n11_ := Aside0.mk ((by rw [hg]; exact Nat.ne_of_lt (blk_lt (g := gb113) (o := .cells #[.int .i64 t108, .int .i64 t109, .int .i64 t110, .string t111] 23 (0, 0)) (by (with_reducible repeat first | refine zn ?_ _ | refine zd ?_ | refine za ?_ _); exact BK113.out)) : gb113 ≠ gb119)); have n12_ := Aside0.mk ((by rw [hg]; exact Nat.ne_of_gt (blk_lt (g := gb113) (o := .cells #[.int .i64 t108, .int .i64 t109, .int .i64 t110, .string t111] 23 (0, 0)) (by (with_reducible repeat first | refine zn ?_ _ | refine zd ?_ | refine za ?_ _); exact BK113.out)) : gb119 ≠ gb113)); clear BK101; clear BK102; clear BK113; clear HB; have BK101 := n0_; have BK102 := n1_; have BK113 := n2_; have HB := n3_; have BK119 := n4_; have GW119 := n5_; have GE119 := n6_; have NB101_119 := n7_; have NB119_101 := n8_; have NB102_119 := n9_; have NB119_102 := n10_; have NB113_119 := n11_; have NB119_113 := n12_; clear n0_ n1_ n2_ n3_ n4_ n5_ n6_ n7_ n8_ n9_ n10_ n11_ n12_; clear hb hbox hg; have hnb39 := NB119_101.out; have hnc39 := NB101_119.out; have hnb40 := NB119_102.out; have hnc40 := NB102_119.out; have hnb41 := NB119_113.out; have hnc41 := NB113_119.out; obtain ⟨hcz42_0, hcz42_1, hcz42_2, hcz42_3⟩ := blk_quad BK119.out; obtain ⟨hfz42_0, hfz42_1, hfz42_2, hfz42_3⟩ := blk_quad_free BK119.out))
    (try simp only [Act.put, List.setIfInBounds_toArray, List.set_cons_zero, List.set_cons_succ])
    go_cut [54] (fun v54 wc => ∃ (kq : Nat) (x54_25 : Bool), v54 = .bool x54_25 ∧ Aside0 (ironbarklaw05_BitsBools.j1 kq x54_25 a0_0 a0_1 a0_2 a0_3 a1_0 a1_1 a1_2 a1_3 = some r) ∧ Aside0 (kq ≤ kj3) ∧ Aside0 (wc.heap[gb101]? = some (.cells #[.int .i64 a0_0, .int .i64 a0_1, .int .i64 a0_2, .string a0_3] 23 (0, 0))) ∧ Aside0 (wc.heap[gb102]? = some (.cells #[.int .i64 a1_0, .int .i64 a1_1, .int .i64 a1_2, .string a1_3] 23 (0, 0))) ∧ Aside0 (wc.heap[gb113]? = some (.cells #[.int .i64 t108, .int .i64 t109, .int .i64 t110, .string t111] 23 (0, 0))) ∧ Aside0 (wc.heap[gb119]? = some (.cells #[.int .i64 t114, .int .i64 t115, .int .i64 t116, .string t117] 23 (0, 0))) ∧ Aside0 (Below w.heap.size w wc))
    case first =>
     have H := HC26.out
     clear HC26
     by_cases c43 : (!(t108 == t114) || (!(t109 == t115) || (!(t110 == t116) || (!(t111.toList == t117.toList))))) = true
     ·rw [if_pos c43] at H
      have c43b0 : (!(t108 == t114) || (!(t109 == t115) || (!(t110 == t116) || (!(t111.toList == t117.toList))))) = true := c43
      clear c43
      (first | rw [c43b0] | (simp only [i64_w, i32_w]; rw [c43b0]) | skip)
      exact absurd (H.trans (congrArg some hrt_.out)) (ironbarklaw05_BitsBools.j1_no _ _ _ _ _ _ _ _ _ )
     ·rw [if_neg c43] at H
      have c43b0 : (!(t108 == t114) || (!(t109 == t115) || (!(t110 == t116) || (!(t111.toList == t117.toList))))) = false := by simpa using c43
      clear c43
      (first | rw [c43b0] | (simp only [i64_w, i32_w]; rw [c43b0]) | skip)
      have H' := Aside0.mk H
      clear H
      have hnb51 := NB113_101.out
      have hnc51 := NB101_113.out
      have hnb52 := NB113_102.out
      have hnc52 := NB102_113.out
      have hnb53 := NB113_119.out
      have hnc53 := NB119_113.out
      obtain ⟨hcz54_0, hcz54_1, hcz54_2, hcz54_3⟩ := blk_quad BK113.out
      obtain ⟨hfz54_0, hfz54_1, hfz54_2, hfz54_3⟩ := blk_quad_free BK113.out
      have hnb55 := NB119_101.out
      have hnc55 := NB101_119.out
      have hnb56 := NB119_102.out
      have hnc56 := NB102_119.out
      obtain ⟨hcz57_0, hcz57_1, hcz57_2, hcz57_3⟩ := blk_quad BK119.out
      obtain ⟨hfz57_0, hfz57_1, hfz57_2, hfz57_3⟩ := blk_quad_free BK119.out
      go_wp2
      go_meet
      case rel => exact ⟨_, ((t112 != t118)), (by first | rfl | (simp; done) | (generalize ByteArray.toList _ = l_; cases l_ <;> rfl) | (simp [*]; done)), H', ⟨by have := HJ3.out; first | omega | exact Nat.le_refl _⟩, ⟨by (with_reducible repeat first | refine zn ?_ _ | refine zd ?_ | refine za ?_ _); refine blk_far ?_ NB101_119.out _; (with_reducible repeat first | refine zn ?_ _ | refine zd ?_ | refine za ?_ _); refine blk_far ?_ NB101_119.out _; (with_reducible repeat first | refine zn ?_ _ | refine zd ?_ | refine za ?_ _); refine blk_far ?_ NB101_119.out _; (with_reducible repeat first | refine zn ?_ _ | refine zd ?_ | refine za ?_ _); refine blk_far ?_ NB101_119.out _; (with_reducible repeat first | refine zn ?_ _ | refine zd ?_ | refine za ?_ _); exact BK101.out⟩, ⟨by (with_reducible repeat first | refine zn ?_ _ | refine zd ?_ | refine za ?_ _); refine blk_far ?_ NB102_119.out _; (with_reducible repeat first | refine zn ?_ _ | refine zd ?_ | refine za ?_ _); refine blk_far ?_ NB102_119.out _; (with_reducible repeat first | refine zn ?_ _ | refine zd ?_ | refine za ?_ _); refine blk_far ?_ NB102_119.out _; (with_reducible repeat first | refine zn ?_ _ | refine zd ?_ | refine za ?_ _); refine blk_far ?_ NB102_119.out _; (with_reducible repeat first | refine zn ?_ _ | refine zd ?_ | refine za ?_ _); exact BK102.out⟩, ⟨by (with_reducible repeat first | refine zn ?_ _ | refine zd ?_ | refine za ?_ _); refine blk_far ?_ NB113_119.out _; (with_reducible repeat first | refine zn ?_ _ | refine zd ?_ | refine za ?_ _); refine blk_far ?_ NB113_119.out _; (with_reducible repeat first | refine zn ?_ _ | refine zd ?_ | refine za ?_ _); refine blk_far ?_ NB113_119.out _; (with_reducible repeat first | refine zn ?_ _ | refine zd ?_ | refine za ?_ _); refine blk_far ?_ NB113_119.out _; (with_reducible repeat first | refine zn ?_ _ | refine zd ?_ | refine za ?_ _); exact BK113.out⟩, ⟨by (with_reducible repeat first | refine zn ?_ _ | refine zd ?_ | refine za ?_ _); refine blk_put (cs := #[.int .i64 t114, .int .i64 t115, .int .i64 t116, .string (⟨#[]⟩ : ByteArray)]) ?_ 3 _ rfl; (with_reducible repeat first | refine zn ?_ _ | refine zd ?_ | refine za ?_ _); refine blk_put (cs := #[.int .i64 t114, .int .i64 t115, .int .i64 0, .string (⟨#[]⟩ : ByteArray)]) ?_ 2 _ rfl; (with_reducible repeat first | refine zn ?_ _ | refine zd ?_ | refine za ?_ _); refine blk_put (cs := #[.int .i64 t114, .int .i64 0, .int .i64 0, .string (⟨#[]⟩ : ByteArray)]) ?_ 1 _ rfl; (with_reducible repeat first | refine zn ?_ _ | refine zd ?_ | refine za ?_ _); refine blk_put (cs := #[.int .i64 0, .int .i64 0, .int .i64 0, .string (⟨#[]⟩ : ByteArray)]) ?_ 0 _ rfl; (with_reducible repeat first | refine zn ?_ _ | refine zd ?_ | refine za ?_ _); exact BK119.out⟩, ⟨by repeat (first | (with_reducible first | exact HB.out | apply below_alloc | apply pw_below_drewN | apply below_drew1 | refine below_set ?_ GE101.out | refine below_set ?_ GE102.out | refine below_set ?_ GE113.out | refine below_set ?_ GE119.out) | exact HB.out)⟩⟩
    case rest => as_aux_lemma =>
     clear HC26
     try clear c1
     try clear c2
     try clear p2
     try clear c3
     try clear c4
     try clear c5
     try clear c8
     try clear c9
     try clear c15
     try clear c21
     try clear c22
     try clear c27
     try clear c32
     try clear c33
     try clear c39
     try clear c40
     try clear c41
     try clear c43
     try clear c43b0
     try clear c44
     try clear c45
     try clear c46
     try clear c48
     try clear c49
     try clear c51
     try clear c52
     try clear c53
     try clear c55
     try clear c56
     try clear hcz10_0 hcz10_1 hcz10_2 hcz10_3
     try clear hcz11_0 hcz11_1 hcz11_2 hcz11_3
     try clear hcz16_0 hcz16_1 hcz16_2 hcz16_3
     try clear hcz17_0 hcz17_1 hcz17_2 hcz17_3
     try clear hcz28_0 hcz28_1 hcz28_2 hcz28_3
     try clear hcz29_0 hcz29_1 hcz29_2 hcz29_3
     try clear hcz34_0 hcz34_1 hcz34_2 hcz34_3
     try clear hcz35_0 hcz35_1 hcz35_2 hcz35_3
     try clear hcz36_0 hcz36_1 hcz36_2 hcz36_3
     try clear hcz42_0 hcz42_1 hcz42_2 hcz42_3
     try clear hcz47_0 hcz47_1 hcz47_2 hcz47_3
     try clear hcz50_0 hcz50_1 hcz50_2 hcz50_3
     try clear hcz54_0 hcz54_1 hcz54_2 hcz54_3
     try clear hcz57_0 hcz57_1 hcz57_2 hcz57_3
     try clear hfz10_0 hfz10_1 hfz10_2 hfz10_3
     try clear hfz11_0 hfz11_1 hfz11_2 hfz11_3
     try clear hfz16_0 hfz16_1 hfz16_2 hfz16_3
     try clear hfz17_0 hfz17_1 hfz17_2 hfz17_3
     try clear hfz28_0 hfz28_1 hfz28_2 hfz28_3
     try clear hfz29_0 hfz29_1 hfz29_2 hfz29_3
     try clear hfz34_0 hfz34_1 hfz34_2 hfz34_3
     try clear hfz35_0 hfz35_1 hfz35_2 hfz35_3
     try clear hfz36_0 hfz36_1 hfz36_2 hfz36_3
     try clear hfz42_0 hfz42_1 hfz42_2 hfz42_3
     try clear hfz47_0 hfz47_1 hfz47_2 hfz47_3
     try clear hfz50_0 hfz50_1 hfz50_2 hfz50_3
     try clear hfz54_0 hfz54_1 hfz54_2 hfz54_3
     try clear hfz57_0 hfz57_1 hfz57_2 hfz57_3
     try clear p2
     obtain ⟨kq, x54_25, rfl, HA, HJ25, BK101, BK102, BK113, BK119, HB⟩ := hcut
     cases kq with
     | zero => exact absurd HA.out (by simp [ironbarklaw05_BitsBools.j1])
     | succ kj25 =>
      have H := HA.out
      clear HA
      simp only [ironbarklaw05_BitsBools.j1] at H
      by_cases c58 : x54_25 = true
      ·subst c58
       have H1 : (some false) = some r := by rw [if_pos rfl] at H; exact H
       clear H
       have H := H1
       clear H1
       exact absurd ((Option.some.inj H).trans hrt_.out) (by decide)
      ·replace c58 := Bool.eq_false_iff.mpr c58
       subst c58
       have H1 : ((bits_Or.f kj25 a0_0 a0_1 a0_2 a0_3 a1_0 a1_1 a1_2 a1_3).bind fun bt120 => ((ironbarkref05_Or.f kj25 a0_0 a0_1 a0_2 a0_3 a1_0 a1_1 a1_2 a1_3).bind fun bt125 => (if (!(bt120.1 == bt125.1) || (!(bt120.2.1 == bt125.2.1) || (!(bt120.2.2.1 == bt125.2.2.1) || (!(bt120.2.2.2.1.toList == bt125.2.2.2.1.toList))))) = true then (ironbarklaw05_BitsBools.j2 kj25 true a0_0 a0_1 a0_2 a0_3 a1_0 a1_1 a1_2 a1_3) else (ironbarklaw05_BitsBools.j2 kj25 (bt120.2.2.2.2 != bt125.2.2.2.2) a0_0 a0_1 a0_2 a0_3 a1_0 a1_1 a1_2 a1_3)))) = some r := by rw [if_neg (show ¬ (false = true) by decide)] at H; exact H
       clear H
       have H := H1
       clear H1
       replace H := Option.bind_eq_some_iff.mp H
       obtain ⟨⟨t120, t121, t122, t123, t124⟩, A590, H⟩ := H
       replace H : ((ironbarkref05_Or.f kj25 a0_0 a0_1 a0_2 a0_3 a1_0 a1_1 a1_2 a1_3).bind fun bt125 => (if (!(t120 == bt125.1) || (!(t121 == bt125.2.1) || (!(t122 == bt125.2.2.1) || (!(t123.toList == bt125.2.2.2.1.toList))))) = true then (ironbarklaw05_BitsBools.j2 kj25 true a0_0 a0_1 a0_2 a0_3 a1_0 a1_1 a1_2 a1_3) else (ironbarklaw05_BitsBools.j2 kj25 (t124 != bt125.2.2.2.2) a0_0 a0_1 a0_2 a0_3 a1_0 a1_1 a1_2 a1_3))) = some r := H
       have A59 := Aside0.mk A590
       clear A590
       replace H := Option.bind_eq_some_iff.mp H
       obtain ⟨⟨t125, t126, t127, t128, t129⟩, A600, H⟩ := H
       replace H : (if (!(t120 == t125) || (!(t121 == t126) || (!(t122 == t127) || (!(t123.toList == t128.toList))))) = true then (ironbarklaw05_BitsBools.j2 kj25 true a0_0 a0_1 a0_2 a0_3 a1_0 a1_1 a1_2 a1_3) else (ironbarklaw05_BitsBools.j2 kj25 (t124 != t129) a0_0 a0_1 a0_2 a0_3 a1_0 a1_1 a1_2 a1_3)) = some r := H
       have A60 := Aside0.mk A600
       clear A600
       have HC61 := Aside0.mk H
       clear H
       have hnb62 := NB101_102.out
       have hnc62 := NB102_101.out
       have hnb63 := NB101_113.out
       have hnc63 := NB113_101.out
       have hnb64 := NB101_119.out
       have hnc64 := NB119_101.out
       obtain ⟨hcz65_0, hcz65_1, hcz65_2, hcz65_3⟩ := blk_quad BK101.out
       obtain ⟨hfz65_0, hfz65_1, hfz65_2, hfz65_3⟩ := blk_quad_free BK101.out
       have hnb66 := NB102_113.out
       have hnc66 := NB113_102.out
       have hnb67 := NB102_119.out
       have hnc67 := NB119_102.out
       obtain ⟨hcz68_0, hcz68_1, hcz68_2, hcz68_3⟩ := blk_quad BK102.out
       obtain ⟨hfz68_0, hfz68_1, hfz68_2, hfz68_3⟩ := blk_quad_free BK102.out
       go_upto_region 9 with (first | ((with_reducible refine gate_callee (f := 23) rfl ?_); refine goesL_ (some 58) rfl rfl Try.func23 (by kernel_rfl) rfl #[.agg #[.int .i64 a0_0, .int .i64 a0_1, .int .i64 a0_2, .string a0_3], .agg #[.int .i64 a1_0, .int .i64 a1_1, .int .i64 a1_2, .string a1_3]] rfl (by (try simp only [List.map_toArray, List.map_cons, List.map_nil]); first | done | rfl | (simp only [List.length_drop, List.length_take]; rfl)) ?_; (with_reducible refine (bits_Or.calls kj25 a0_0 a0_1 a0_2 a0_3 a1_0 a1_1 a1_2 a1_3 t120 t121 t122 t123 t124 _ A59.out).mono ?_); rintro e w69 ⟨rfl, hb⟩; refine ⟨_, rfl, ?_⟩; have n0_ := Aside0.mk (blk_below (g := gb101) (o := .cells #[.int .i64 a0_0, .int .i64 a0_1, .int .i64 a0_2, .string a0_3] 23 (0, 0)) (by (with_reducible repeat first | refine zn ?_ _ | refine zd ?_ | refine za ?_ _); exact BK101.out) hb); have n1_ := Aside0.mk (blk_below (g := gb102) (o := .cells #[.int .i64 a1_0, .int .i64 a1_1, .int .i64 a1_2, .string a1_3] 23 (0, 0)) (by (with_reducible repeat first | refine zn ?_ _ | refine zd ?_ | refine za ?_ _); exact BK102.out) hb); have n2_ := Aside0.mk (blk_below (g := gb113) (o := .cells #[.int .i64 t108, .int .i64 t109, .int .i64 t110, .string t111] 23 (0, 0)) (by (with_reducible repeat first | refine zn ?_ _ | refine zd ?_ | refine za ?_ _); exact BK113.out) hb); have n3_ := Aside0.mk (blk_below (g := gb119) (o := .cells #[.int .i64 t114, .int .i64 t115, .int .i64 t116, .string t117] 23 (0, 0)) (by (with_reducible repeat first | refine zn ?_ _ | refine zd ?_ | refine za ?_ _); exact BK119.out) hb); have n4_ := Aside0.mk (below_step (by repeat (first | (with_reducible first | exact HB.out | apply below_alloc | apply pw_below_drewN | apply below_drew1 | refine below_set ?_ GE101.out | refine below_set ?_ GE102.out | refine below_set ?_ GE113.out | refine below_set ?_ GE119.out) | exact HB.out)) hb); clear BK101; clear BK102; clear BK113; clear BK119; clear HB; have BK101 := n0_; have BK102 := n1_; have BK113 := n2_; have BK119 := n3_; have HB := n4_; clear n0_ n1_ n2_ n3_ n4_; (try clear hb); (try clear hb2); (try clear hk); (try clear hi); have hnb70 := NB113_119.out; have hnc70 := NB119_113.out; obtain ⟨hcz71_0, hcz71_1, hcz71_2, hcz71_3⟩ := blk_quad BK113.out; obtain ⟨hfz71_0, hfz71_1, hfz71_2, hfz71_3⟩ := blk_quad_free BK113.out; obtain ⟨hcz72_0, hcz72_1, hcz72_2, hcz72_3⟩ := blk_quad BK101.out; obtain ⟨hfz72_0, hfz72_1, hfz72_2, hfz72_3⟩ := blk_quad_free BK101.out; obtain ⟨hcz73_0, hcz73_1, hcz73_2, hcz73_3⟩ := blk_quad BK102.out; obtain ⟨hfz73_0, hfz73_1, hfz73_2, hfz73_3⟩ := blk_quad_free BK102.out) | ((with_reducible refine gate_callee (f := 24) rfl ?_); refine goesL_ (some 64) rfl rfl Try.func24 (by kernel_rfl) rfl #[.agg #[.int .i64 a0_0, .int .i64 a0_1, .int .i64 a0_2, .string a0_3], .agg #[.int .i64 a1_0, .int .i64 a1_1, .int .i64 a1_2, .string a1_3]] rfl (by (try simp only [List.map_toArray, List.map_cons, List.map_nil]); first | done | rfl | (simp only [List.length_drop, List.length_take]; rfl)) ?_; (with_reducible refine (ironbarkref05_Or.calls kj25 a0_0 a0_1 a0_2 a0_3 a1_0 a1_1 a1_2 a1_3 t125 t126 t127 t128 t129 _ A60.out).mono ?_); rintro e w74 ⟨rfl, hb⟩; refine ⟨_, rfl, ?_⟩; have n0_ := Aside0.mk (blk_below (g := gb101) (o := .cells #[.int .i64 a0_0, .int .i64 a0_1, .int .i64 a0_2, .string a0_3] 23 (0, 0)) (by (with_reducible repeat first | refine zn ?_ _ | refine zd ?_ | refine za ?_ _); refine blk_far ?_ NB101_113.out _; (with_reducible repeat first | refine zn ?_ _ | refine zd ?_ | refine za ?_ _); refine blk_far ?_ NB101_113.out _; (with_reducible repeat first | refine zn ?_ _ | refine zd ?_ | refine za ?_ _); refine blk_far ?_ NB101_113.out _; (with_reducible repeat first | refine zn ?_ _ | refine zd ?_ | refine za ?_ _); refine blk_far ?_ NB101_113.out _; (with_reducible repeat first | refine zn ?_ _ | refine zd ?_ | refine za ?_ _); exact BK101.out) hb); have n1_ := Aside0.mk (blk_below (g := gb102) (o := .cells #[.int .i64 a1_0, .int .i64 a1_1, .int .i64 a1_2, .string a1_3] 23 (0, 0)) (by (with_reducible repeat first | refine zn ?_ _ | refine zd ?_ | refine za ?_ _); refine blk_far ?_ NB102_113.out _; (with_reducible repeat first | refine zn ?_ _ | refine zd ?_ | refine za ?_ _); refine blk_far ?_ NB102_113.out _; (with_reducible repeat first | refine zn ?_ _ | refine zd ?_ | refine za ?_ _); refine blk_far ?_ NB102_113.out _; (with_reducible repeat first | refine zn ?_ _ | refine zd ?_ | refine za ?_ _); refine blk_far ?_ NB102_113.out _; (with_reducible repeat first | refine zn ?_ _ | refine zd ?_ | refine za ?_ _); exact BK102.out) hb); have n2_ := Aside0.mk (blk_below (g := gb113) (o := .cells #[.int .i64 t120, .int .i64 t121, .int .i64 t122, .string t123] 23 (0, 0)) (by (with_reducible repeat first | refine zn ?_ _ | refine zd ?_ | refine za ?_ _); refine blk_put (cs := #[.int .i64 t120, .int .i64 t121, .int .i64 t122, .string t111]) ?_ 3 _ rfl; (with_reducible repeat first | refine zn ?_ _ | refine zd ?_ | refine za ?_ _); refine blk_put (cs := #[.int .i64 t120, .int .i64 t121, .int .i64 t110, .string t111]) ?_ 2 _ rfl; (with_reducible repeat first | refine zn ?_ _ | refine zd ?_ | refine za ?_ _); refine blk_put (cs := #[.int .i64 t120, .int .i64 t109, .int .i64 t110, .string t111]) ?_ 1 _ rfl; (with_reducible repeat first | refine zn ?_ _ | refine zd ?_ | refine za ?_ _); refine blk_put (cs := #[.int .i64 t108, .int .i64 t109, .int .i64 t110, .string t111]) ?_ 0 _ rfl; (with_reducible repeat first | refine zn ?_ _ | refine zd ?_ | refine za ?_ _); exact BK113.out) hb); have n3_ := Aside0.mk (blk_below (g := gb119) (o := .cells #[.int .i64 t114, .int .i64 t115, .int .i64 t116, .string t117] 23 (0, 0)) (by (with_reducible repeat first | refine zn ?_ _ | refine zd ?_ | refine za ?_ _); refine blk_far ?_ NB119_113.out _; (with_reducible repeat first | refine zn ?_ _ | refine zd ?_ | refine za ?_ _); refine blk_far ?_ NB119_113.out _; (with_reducible repeat first | refine zn ?_ _ | refine zd ?_ | refine za ?_ _); refine blk_far ?_ NB119_113.out _; (with_reducible repeat first | refine zn ?_ _ | refine zd ?_ | refine za ?_ _); refine blk_far ?_ NB119_113.out _; (with_reducible repeat first | refine zn ?_ _ | refine zd ?_ | refine za ?_ _); exact BK119.out) hb); have n4_ := Aside0.mk (below_step (by repeat (first | (with_reducible first | exact HB.out | apply below_alloc | apply pw_below_drewN | apply below_drew1 | refine below_set ?_ GE101.out | refine below_set ?_ GE102.out | refine below_set ?_ GE113.out | refine below_set ?_ GE119.out) | exact HB.out)) hb); clear BK101; clear BK102; clear BK113; clear BK119; clear HB; have BK101 := n0_; have BK102 := n1_; have BK113 := n2_; have BK119 := n3_; have HB := n4_; clear n0_ n1_ n2_ n3_ n4_; (try clear hb); (try clear hb2); (try clear hk); (try clear hi); obtain ⟨hcz75_0, hcz75_1, hcz75_2, hcz75_3⟩ := blk_quad BK119.out; obtain ⟨hfz75_0, hfz75_1, hfz75_2, hfz75_3⟩ := blk_quad_free BK119.out))
       (try simp only [Act.put, List.setIfInBounds_toArray, List.set_cons_zero, List.set_cons_succ])
       go_cut [74] (fun v74 wc => ∃ (kq : Nat) (x74_60 : Bool), v74 = .bool x74_60 ∧ Aside0 (ironbarklaw05_BitsBools.j2 kq x74_60 a0_0 a0_1 a0_2 a0_3 a1_0 a1_1 a1_2 a1_3 = some r) ∧ Aside0 (kq ≤ kj25) ∧ Aside0 (wc.heap[gb101]? = some (.cells #[.int .i64 a0_0, .int .i64 a0_1, .int .i64 a0_2, .string a0_3] 23 (0, 0))) ∧ Aside0 (wc.heap[gb102]? = some (.cells #[.int .i64 a1_0, .int .i64 a1_1, .int .i64 a1_2, .string a1_3] 23 (0, 0))) ∧ Aside0 (wc.heap[gb113]? = some (.cells #[.int .i64 t120, .int .i64 t121, .int .i64 t122, .string t123] 23 (0, 0))) ∧ Aside0 (wc.heap[gb119]? = some (.cells #[.int .i64 t125, .int .i64 t126, .int .i64 t127, .string t128] 23 (0, 0))) ∧ Aside0 (Below w.heap.size w wc))
       case first =>
        have H := HC61.out
        clear HC61
        by_cases c76 : (!(t120 == t125) || (!(t121 == t126) || (!(t122 == t127) || (!(t123.toList == t128.toList))))) = true
        ·rw [if_pos c76] at H
         have c76b0 : (!(t120 == t125) || (!(t121 == t126) || (!(t122 == t127) || (!(t123.toList == t128.toList))))) = true := c76
         clear c76
         (first | rw [c76b0] | (simp only [i64_w, i32_w]; rw [c76b0]) | skip)
         exact absurd (H.trans (congrArg some hrt_.out)) (ironbarklaw05_BitsBools.j2_no _ _ _ _ _ _ _ _ _ )
        ·rw [if_neg c76] at H
         have c76b0 : (!(t120 == t125) || (!(t121 == t126) || (!(t122 == t127) || (!(t123.toList == t128.toList))))) = false := by simpa using c76
         clear c76
         (first | rw [c76b0] | (simp only [i64_w, i32_w]; rw [c76b0]) | skip)
         have H' := Aside0.mk H
         clear H
         have hnb84 := NB113_101.out
         have hnc84 := NB101_113.out
         have hnb85 := NB113_102.out
         have hnc85 := NB102_113.out
         have hnb86 := NB113_119.out
         have hnc86 := NB119_113.out
         obtain ⟨hcz87_0, hcz87_1, hcz87_2, hcz87_3⟩ := blk_quad BK113.out
         obtain ⟨hfz87_0, hfz87_1, hfz87_2, hfz87_3⟩ := blk_quad_free BK113.out
         have hnb88 := NB119_101.out
         have hnc88 := NB101_119.out
         have hnb89 := NB119_102.out
         have hnc89 := NB102_119.out
         obtain ⟨hcz90_0, hcz90_1, hcz90_2, hcz90_3⟩ := blk_quad BK119.out
         obtain ⟨hfz90_0, hfz90_1, hfz90_2, hfz90_3⟩ := blk_quad_free BK119.out
         go_wp2
         go_meet
         case rel => exact ⟨_, ((t124 != t129)), (by first | rfl | (simp; done) | (generalize ByteArray.toList _ = l_; cases l_ <;> rfl) | (simp [*]; done)), H', ⟨by have := HJ3.out; have := HJ25.out; first | omega | exact Nat.le_refl _⟩, ⟨by (with_reducible repeat first | refine zn ?_ _ | refine zd ?_ | refine za ?_ _); refine blk_far ?_ NB101_119.out _; (with_reducible repeat first | refine zn ?_ _ | refine zd ?_ | refine za ?_ _); refine blk_far ?_ NB101_119.out _; (with_reducible repeat first | refine zn ?_ _ | refine zd ?_ | refine za ?_ _); refine blk_far ?_ NB101_119.out _; (with_reducible repeat first | refine zn ?_ _ | refine zd ?_ | refine za ?_ _); refine blk_far ?_ NB101_119.out _; (with_reducible repeat first | refine zn ?_ _ | refine zd ?_ | refine za ?_ _); exact BK101.out⟩, ⟨by (with_reducible repeat first | refine zn ?_ _ | refine zd ?_ | refine za ?_ _); refine blk_far ?_ NB102_119.out _; (with_reducible repeat first | refine zn ?_ _ | refine zd ?_ | refine za ?_ _); refine blk_far ?_ NB102_119.out _; (with_reducible repeat first | refine zn ?_ _ | refine zd ?_ | refine za ?_ _); refine blk_far ?_ NB102_119.out _; (with_reducible repeat first | refine zn ?_ _ | refine zd ?_ | refine za ?_ _); refine blk_far ?_ NB102_119.out _; (with_reducible repeat first | refine zn ?_ _ | refine zd ?_ | refine za ?_ _); exact BK102.out⟩, ⟨by (with_reducible repeat first | refine zn ?_ _ | refine zd ?_ | refine za ?_ _); refine blk_far ?_ NB113_119.out _; (with_reducible repeat first | refine zn ?_ _ | refine zd ?_ | refine za ?_ _); refine blk_far ?_ NB113_119.out _; (with_reducible repeat first | refine zn ?_ _ | refine zd ?_ | refine za ?_ _); refine blk_far ?_ NB113_119.out _; (with_reducible repeat first | refine zn ?_ _ | refine zd ?_ | refine za ?_ _); refine blk_far ?_ NB113_119.out _; (with_reducible repeat first | refine zn ?_ _ | refine zd ?_ | refine za ?_ _); exact BK113.out⟩, ⟨by (with_reducible repeat first | refine zn ?_ _ | refine zd ?_ | refine za ?_ _); refine blk_put (cs := #[.int .i64 t125, .int .i64 t126, .int .i64 t127, .string t117]) ?_ 3 _ rfl; (with_reducible repeat first | refine zn ?_ _ | refine zd ?_ | refine za ?_ _); refine blk_put (cs := #[.int .i64 t125, .int .i64 t126, .int .i64 t116, .string t117]) ?_ 2 _ rfl; (with_reducible repeat first | refine zn ?_ _ | refine zd ?_ | refine za ?_ _); refine blk_put (cs := #[.int .i64 t125, .int .i64 t115, .int .i64 t116, .string t117]) ?_ 1 _ rfl; (with_reducible repeat first | refine zn ?_ _ | refine zd ?_ | refine za ?_ _); refine blk_put (cs := #[.int .i64 t114, .int .i64 t115, .int .i64 t116, .string t117]) ?_ 0 _ rfl; (with_reducible repeat first | refine zn ?_ _ | refine zd ?_ | refine za ?_ _); exact BK119.out⟩, ⟨by repeat (first | (with_reducible first | exact HB.out | apply below_alloc | apply pw_below_drewN | apply below_drew1 | refine below_set ?_ GE101.out | refine below_set ?_ GE102.out | refine below_set ?_ GE113.out | refine below_set ?_ GE119.out) | exact HB.out)⟩⟩
       case rest => as_aux_lemma =>
        clear HC61
        try clear c1
        try clear c2
        try clear p2
        try clear c3
        try clear c4
        try clear c5
        try clear c6
        try clear c7
        try clear c8
        try clear c9
        try clear c15
        try clear c21
        try clear c22
        try clear c23
        try clear c24
        try clear c27
        try clear c32
        try clear c33
        try clear c39
        try clear c40
        try clear c41
        try clear c43
        try clear c43b0
        try clear c44
        try clear c45
        try clear c46
        try clear c48
        try clear c49
        try clear c51
        try clear c52
        try clear c53
        try clear c55
        try clear c56
        try clear c58
        try clear c62
        try clear c63
        try clear c64
        try clear c66
        try clear c67
        try clear c70
        try clear c76
        try clear c76b0
        try clear c77
        try clear c78
        try clear c79
        try clear c81
        try clear c82
        try clear c84
        try clear c85
        try clear c86
        try clear c88
        try clear c89
        try clear hcz10_0 hcz10_1 hcz10_2 hcz10_3
        try clear hcz11_0 hcz11_1 hcz11_2 hcz11_3
        try clear hcz16_0 hcz16_1 hcz16_2 hcz16_3
        try clear hcz17_0 hcz17_1 hcz17_2 hcz17_3
        try clear hcz28_0 hcz28_1 hcz28_2 hcz28_3
        try clear hcz29_0 hcz29_1 hcz29_2 hcz29_3
        try clear hcz34_0 hcz34_1 hcz34_2 hcz34_3
        try clear hcz35_0 hcz35_1 hcz35_2 hcz35_3
        try clear hcz36_0 hcz36_1 hcz36_2 hcz36_3
        try clear hcz42_0 hcz42_1 hcz42_2 hcz42_3
        try clear hcz47_0 hcz47_1 hcz47_2 hcz47_3
        try clear hcz50_0 hcz50_1 hcz50_2 hcz50_3
        try clear hcz54_0 hcz54_1 hcz54_2 hcz54_3
        try clear hcz57_0 hcz57_1 hcz57_2 hcz57_3
        try clear hcz65_0 hcz65_1 hcz65_2 hcz65_3
        try clear hcz68_0 hcz68_1 hcz68_2 hcz68_3
        try clear hcz71_0 hcz71_1 hcz71_2 hcz71_3
        try clear hcz72_0 hcz72_1 hcz72_2 hcz72_3
        try clear hcz73_0 hcz73_1 hcz73_2 hcz73_3
        try clear hcz75_0 hcz75_1 hcz75_2 hcz75_3
        try clear hcz80_0 hcz80_1 hcz80_2 hcz80_3
        try clear hcz83_0 hcz83_1 hcz83_2 hcz83_3
        try clear hcz87_0 hcz87_1 hcz87_2 hcz87_3
        try clear hcz90_0 hcz90_1 hcz90_2 hcz90_3
        try clear hfz10_0 hfz10_1 hfz10_2 hfz10_3
        try clear hfz11_0 hfz11_1 hfz11_2 hfz11_3
        try clear hfz16_0 hfz16_1 hfz16_2 hfz16_3
        try clear hfz17_0 hfz17_1 hfz17_2 hfz17_3
        try clear hfz28_0 hfz28_1 hfz28_2 hfz28_3
        try clear hfz29_0 hfz29_1 hfz29_2 hfz29_3
        try clear hfz34_0 hfz34_1 hfz34_2 hfz34_3
        try clear hfz35_0 hfz35_1 hfz35_2 hfz35_3
        try clear hfz36_0 hfz36_1 hfz36_2 hfz36_3
        try clear hfz42_0 hfz42_1 hfz42_2 hfz42_3
        try clear hfz47_0 hfz47_1 hfz47_2 hfz47_3
        try clear hfz50_0 hfz50_1 hfz50_2 hfz50_3
        try clear hfz54_0 hfz54_1 hfz54_2 hfz54_3
        try clear hfz57_0 hfz57_1 hfz57_2 hfz57_3
        try clear hfz65_0 hfz65_1 hfz65_2 hfz65_3
        try clear hfz68_0 hfz68_1 hfz68_2 hfz68_3
        try clear hfz71_0 hfz71_1 hfz71_2 hfz71_3
        try clear hfz72_0 hfz72_1 hfz72_2 hfz72_3
        try clear hfz73_0 hfz73_1 hfz73_2 hfz73_3
        try clear hfz75_0 hfz75_1 hfz75_2 hfz75_3
        try clear hfz80_0 hfz80_1 hfz80_2 hfz80_3
        try clear hfz83_0 hfz83_1 hfz83_2 hfz83_3
        try clear hfz87_0 hfz87_1 hfz87_2 hfz87_3
        try clear hfz90_0 hfz90_1 hfz90_2 hfz90_3
        try clear p2
        obtain ⟨kq, x74_60, rfl, HA, HJ60, BK101, BK102, BK113, BK119, HB⟩ := hcut
        cases kq with
        | zero => exact absurd HA.out (by simp [ironbarklaw05_BitsBools.j2])
        | succ kj60 =>
         have H := HA.out
         clear HA
         simp only [ironbarklaw05_BitsBools.j2] at H
         by_cases c91 : x74_60 = true
         ·subst c91
          have H1 : (some false) = some r := by rw [if_pos rfl] at H; exact H
          clear H
          have H := H1
          clear H1
          exact absurd ((Option.some.inj H).trans hrt_.out) (by decide)
         ·replace c91 := Bool.eq_false_iff.mpr c91
          subst c91
          have H1 : ((bits_Xor.f kj60 a0_0 a0_1 a0_2 a0_3 a1_0 a1_1 a1_2 a1_3).bind fun bt130 => ((ironbarkref05_Xor.f kj60 a0_0 a0_1 a0_2 a0_3 a1_0 a1_1 a1_2 a1_3).bind fun bt135 => (if (!(bt130.1 == bt135.1) || (!(bt130.2.1 == bt135.2.1) || (!(bt130.2.2.1 == bt135.2.2.1) || (!(bt130.2.2.2.1.toList == bt135.2.2.2.1.toList))))) = true then (ironbarklaw05_BitsBools.j3 kj60 true a0_0 a0_1 a0_2 a0_3 a1_0 a1_1 a1_2 a1_3) else (ironbarklaw05_BitsBools.j3 kj60 (bt130.2.2.2.2 != bt135.2.2.2.2) a0_0 a0_1 a0_2 a0_3 a1_0 a1_1 a1_2 a1_3)))) = some r := by rw [if_neg (show ¬ (false = true) by decide)] at H; exact H
          clear H
          have H := H1
          clear H1
          replace H := Option.bind_eq_some_iff.mp H
          obtain ⟨⟨t130, t131, t132, t133, t134⟩, A920, H⟩ := H
          replace H : ((ironbarkref05_Xor.f kj60 a0_0 a0_1 a0_2 a0_3 a1_0 a1_1 a1_2 a1_3).bind fun bt135 => (if (!(t130 == bt135.1) || (!(t131 == bt135.2.1) || (!(t132 == bt135.2.2.1) || (!(t133.toList == bt135.2.2.2.1.toList))))) = true then (ironbarklaw05_BitsBools.j3 kj60 true a0_0 a0_1 a0_2 a0_3 a1_0 a1_1 a1_2 a1_3) else (ironbarklaw05_BitsBools.j3 kj60 (t134 != bt135.2.2.2.2) a0_0 a0_1 a0_2 a0_3 a1_0 a1_1 a1_2 a1_3))) = some r := H
          have A92 := Aside0.mk A920
          clear A920
          replace H := Option.bind_eq_some_iff.mp H
          obtain ⟨⟨t135, t136, t137, t138, t139⟩, A930, H⟩ := H
          replace H : (if (!(t130 == t135) || (!(t131 == t136) || (!(t132 == t137) || (!(t133.toList == t138.toList))))) = true then (ironbarklaw05_BitsBools.j3 kj60 true a0_0 a0_1 a0_2 a0_3 a1_0 a1_1 a1_2 a1_3) else (ironbarklaw05_BitsBools.j3 kj60 (t134 != t139) a0_0 a0_1 a0_2 a0_3 a1_0 a1_1 a1_2 a1_3)) = some r := H
          have A93 := Aside0.mk A930
          clear A930
          have HC94 := Aside0.mk H
          clear H
          have hnb95 := NB101_102.out
          have hnc95 := NB102_101.out
          have hnb96 := NB101_113.out
          have hnc96 := NB113_101.out
          have hnb97 := NB101_119.out
          have hnc97 := NB119_101.out
          obtain ⟨hcz98_0, hcz98_1, hcz98_2, hcz98_3⟩ := blk_quad BK101.out
          obtain ⟨hfz98_0, hfz98_1, hfz98_2, hfz98_3⟩ := blk_quad_free BK101.out
          have hnb99 := NB102_113.out
          have hnc99 := NB113_102.out
          have hnb100 := NB102_119.out
          have hnc100 := NB119_102.out
          obtain ⟨hcz101_0, hcz101_1, hcz101_2, hcz101_3⟩ := blk_quad BK102.out
          obtain ⟨hfz101_0, hfz101_1, hfz101_2, hfz101_3⟩ := blk_quad_free BK102.out
          go_upto_region 13 with (first | ((with_reducible refine gate_callee (f := 25) rfl ?_); refine goesL_ (some 78) rfl rfl Try.func25 (by kernel_rfl) rfl #[.agg #[.int .i64 a0_0, .int .i64 a0_1, .int .i64 a0_2, .string a0_3], .agg #[.int .i64 a1_0, .int .i64 a1_1, .int .i64 a1_2, .string a1_3]] rfl (by (try simp only [List.map_toArray, List.map_cons, List.map_nil]); first | done | rfl | (simp only [List.length_drop, List.length_take]; rfl)) ?_; (with_reducible refine (bits_Xor.calls kj60 a0_0 a0_1 a0_2 a0_3 a1_0 a1_1 a1_2 a1_3 t130 t131 t132 t133 t134 _ A92.out).mono ?_); rintro e w102 ⟨rfl, hb⟩; refine ⟨_, rfl, ?_⟩; have n0_ := Aside0.mk (blk_below (g := gb101) (o := .cells #[.int .i64 a0_0, .int .i64 a0_1, .int .i64 a0_2, .string a0_3] 23 (0, 0)) (by (with_reducible repeat first | refine zn ?_ _ | refine zd ?_ | refine za ?_ _); exact BK101.out) hb); have n1_ := Aside0.mk (blk_below (g := gb102) (o := .cells #[.int .i64 a1_0, .int .i64 a1_1, .int .i64 a1_2, .string a1_3] 23 (0, 0)) (by (with_reducible repeat first | refine zn ?_ _ | refine zd ?_ | refine za ?_ _); exact BK102.out) hb); have n2_ := Aside0.mk (blk_below (g := gb113) (o := .cells #[.int .i64 t120, .int .i64 t121, .int .i64 t122, .string t123] 23 (0, 0)) (by (with_reducible repeat first | refine zn ?_ _ | refine zd ?_ | refine za ?_ _); exact BK113.out) hb); have n3_ := Aside0.mk (blk_below (g := gb119) (o := .cells #[.int .i64 t125, .int .i64 t126, .int .i64 t127, .string t128] 23 (0, 0)) (by (with_reducible repeat first | refine zn ?_ _ | refine zd ?_ | refine za ?_ _); exact BK119.out) hb); have n4_ := Aside0.mk (below_step (by repeat (first | (with_reducible first | exact HB.out | apply below_alloc | apply pw_below_drewN | apply below_drew1 | refine below_set ?_ GE101.out | refine below_set ?_ GE102.out | refine below_set ?_ GE113.out | refine below_set ?_ GE119.out) | exact HB.out)) hb); clear BK101; clear BK102; clear BK113; clear BK119; clear HB; have BK101 := n0_; have BK102 := n1_; have BK113 := n2_; have BK119 := n3_; have HB := n4_; clear n0_ n1_ n2_ n3_ n4_; (try clear hb); (try clear hb2); (try clear hk); (try clear hi); have hnb103 := NB113_119.out; have hnc103 := NB119_113.out; obtain ⟨hcz104_0, hcz104_1, hcz104_2, hcz104_3⟩ := blk_quad BK113.out; obtain ⟨hfz104_0, hfz104_1, hfz104_2, hfz104_3⟩ := blk_quad_free BK113.out; obtain ⟨hcz105_0, hcz105_1, hcz105_2, hcz105_3⟩ := blk_quad BK101.out; obtain ⟨hfz105_0, hfz105_1, hfz105_2, hfz105_3⟩ := blk_quad_free BK101.out; obtain ⟨hcz106_0, hcz106_1, hcz106_2, hcz106_3⟩ := blk_quad BK102.out; obtain ⟨hfz106_0, hfz106_1, hfz106_2, hfz106_3⟩ := blk_quad_free BK102.out) | ((with_reducible refine gate_callee (f := 26) rfl ?_); refine goesL_ (some 84) rfl rfl Try.func26 (by kernel_rfl) rfl #[.agg #[.int .i64 a0_0, .int .i64 a0_1, .int .i64 a0_2, .string a0_3], .agg #[.int .i64 a1_0, .int .i64 a1_1, .int .i64 a1_2, .string a1_3]] rfl (by (try simp only [List.map_toArray, List.map_cons, List.map_nil]); first | done | rfl | (simp only [List.length_drop, List.length_take]; rfl)) ?_; (with_reducible refine (ironbarkref05_Xor.calls kj60 a0_0 a0_1 a0_2 a0_3 a1_0 a1_1 a1_2 a1_3 t135 t136 t137 t138 t139 _ A93.out).mono ?_); rintro e w107 ⟨rfl, hb⟩; refine ⟨_, rfl, ?_⟩; have n0_ := Aside0.mk (blk_below (g := gb101) (o := .cells #[.int .i64 a0_0, .int .i64 a0_1, .int .i64 a0_2, .string a0_3] 23 (0, 0)) (by (with_reducible repeat first | refine zn ?_ _ | refine zd ?_ | refine za ?_ _); refine blk_far ?_ NB101_113.out _; (with_reducible repeat first | refine zn ?_ _ | refine zd ?_ | refine za ?_ _); refine blk_far ?_ NB101_113.out _; (with_reducible repeat first | refine zn ?_ _ | refine zd ?_ | refine za ?_ _); refine blk_far ?_ NB101_113.out _; (with_reducible repeat first | refine zn ?_ _ | refine zd ?_ | refine za ?_ _); refine blk_far ?_ NB101_113.out _; (with_reducible repeat first | refine zn ?_ _ | refine zd ?_ | refine za ?_ _); exact BK101.out) hb); have n1_ := Aside0.mk (blk_below (g := gb102) (o := .cells #[.int .i64 a1_0, .int .i64 a1_1, .int .i64 a1_2, .string a1_3] 23 (0, 0)) (by (with_reducible repeat first | refine zn ?_ _ | refine zd ?_ | refine za ?_ _); refine blk_far ?_ NB102_113.out _; (with_reducible repeat first | refine zn ?_ _ | refine zd ?_ | refine za ?_ _); refine blk_far ?_ NB102_113.out _; (with_reducible repeat first | refine zn ?_ _ | refine zd ?_ | refine za ?_ _); refine blk_far ?_ NB102_113.out _; (with_reducible repeat first | refine zn ?_ _ | refine zd ?_ | refine za ?_ _); refine blk_far ?_ NB102_113.out _; (with_reducible repeat first | refine zn ?_ _ | refine zd ?_ | refine za ?_ _); exact BK102.out) hb); have n2_ := Aside0.mk (blk_below (g := gb113) (o := .cells #[.int .i64 t130, .int .i64 t131, .int .i64 t132, .string t133] 23 (0, 0)) (by (with_reducible repeat first | refine zn ?_ _ | refine zd ?_ | refine za ?_ _); refine blk_put (cs := #[.int .i64 t130, .int .i64 t131, .int .i64 t132, .string t123]) ?_ 3 _ rfl; (with_reducible repeat first | refine zn ?_ _ | refine zd ?_ | refine za ?_ _); refine blk_put (cs := #[.int .i64 t130, .int .i64 t131, .int .i64 t122, .string t123]) ?_ 2 _ rfl; (with_reducible repeat first | refine zn ?_ _ | refine zd ?_ | refine za ?_ _); refine blk_put (cs := #[.int .i64 t130, .int .i64 t121, .int .i64 t122, .string t123]) ?_ 1 _ rfl; (with_reducible repeat first | refine zn ?_ _ | refine zd ?_ | refine za ?_ _); refine blk_put (cs := #[.int .i64 t120, .int .i64 t121, .int .i64 t122, .string t123]) ?_ 0 _ rfl; (with_reducible repeat first | refine zn ?_ _ | refine zd ?_ | refine za ?_ _); exact BK113.out) hb); have n3_ := Aside0.mk (blk_below (g := gb119) (o := .cells #[.int .i64 t125, .int .i64 t126, .int .i64 t127, .string t128] 23 (0, 0)) (by (with_reducible repeat first | refine zn ?_ _ | refine zd ?_ | refine za ?_ _); refine blk_far ?_ NB119_113.out _; (with_reducible repeat first | refine zn ?_ _ | refine zd ?_ | refine za ?_ _); refine blk_far ?_ NB119_113.out _; (with_reducible repeat first | refine zn ?_ _ | refine zd ?_ | refine za ?_ _); refine blk_far ?_ NB119_113.out _; (with_reducible repeat first | refine zn ?_ _ | refine zd ?_ | refine za ?_ _); refine blk_far ?_ NB119_113.out _; (with_reducible repeat first | refine zn ?_ _ | refine zd ?_ | refine za ?_ _); exact BK119.out) hb); have n4_ := Aside0.mk (below_step (by repeat (first | (with_reducible first | exact HB.out | apply below_alloc | apply pw_below_drewN | apply below_drew1 | refine below_set ?_ GE101.out | refine below_set ?_ GE102.out | refine below_set ?_ GE113.out | refine below_set ?_ GE119.out) | exact HB.out)) hb); clear BK101; clear BK102; clear BK113; clear BK119; clear HB; have BK101 := n0_; have BK102 := n1_; have BK113 := n2_; have BK119 := n3_; have HB := n4_; clear n0_ n1_ n2_ n3_ n4_; (try clear hb); (try clear hb2); (try clear hk); (try clear hi); obtain ⟨hcz108_0, hcz108_1, hcz108_2, hcz108_3⟩ := blk_quad BK119.out; obtain ⟨hfz108_0, hfz108_1, hfz108_2, hfz108_3⟩ := blk_quad_free BK119.out))
          (try simp only [Act.put, List.setIfInBounds_toArray, List.set_cons_zero, List.set_cons_succ])
          go_cut [94] (fun v94 wc => ∃ (kq : Nat) (x94_93 : Bool), v94 = .bool x94_93 ∧ Aside0 (ironbarklaw05_BitsBools.j3 kq x94_93 a0_0 a0_1 a0_2 a0_3 a1_0 a1_1 a1_2 a1_3 = some r) ∧ Aside0 (kq ≤ kj60) ∧ Aside0 (wc.heap[gb101]? = some (.cells #[.int .i64 a0_0, .int .i64 a0_1, .int .i64 a0_2, .string a0_3] 23 (0, 0))) ∧ Aside0 (wc.heap[gb102]? = some (.cells #[.int .i64 a1_0, .int .i64 a1_1, .int .i64 a1_2, .string a1_3] 23 (0, 0))) ∧ Aside0 (wc.heap[gb113]? = some (.cells #[.int .i64 t130, .int .i64 t131, .int .i64 t132, .string t133] 23 (0, 0))) ∧ Aside0 (wc.heap[gb119]? = some (.cells #[.int .i64 t135, .int .i64 t136, .int .i64 t137, .string t138] 23 (0, 0))) ∧ Aside0 (Below w.heap.size w wc))
          case first =>
           have H := HC94.out
           clear HC94
           by_cases c109 : (!(t130 == t135) || (!(t131 == t136) || (!(t132 == t137) || (!(t133.toList == t138.toList))))) = true
           ·rw [if_pos c109] at H
            have c109b0 : (!(t130 == t135) || (!(t131 == t136) || (!(t132 == t137) || (!(t133.toList == t138.toList))))) = true := c109
            clear c109
            (first | rw [c109b0] | (simp only [i64_w, i32_w]; rw [c109b0]) | skip)
            exact absurd (H.trans (congrArg some hrt_.out)) (ironbarklaw05_BitsBools.j3_no _ _ _ _ _ _ _ _ _ )
           ·rw [if_neg c109] at H
            have c109b0 : (!(t130 == t135) || (!(t131 == t136) || (!(t132 == t137) || (!(t133.toList == t138.toList))))) = false := by simpa using c109
            clear c109
            (first | rw [c109b0] | (simp only [i64_w, i32_w]; rw [c109b0]) | skip)
            have H' := Aside0.mk H
            clear H
            have hnb117 := NB113_101.out
            have hnc117 := NB101_113.out
            have hnb118 := NB113_102.out
            have hnc118 := NB102_113.out
            have hnb119 := NB113_119.out
            have hnc119 := NB119_113.out
            obtain ⟨hcz120_0, hcz120_1, hcz120_2, hcz120_3⟩ := blk_quad BK113.out
            obtain ⟨hfz120_0, hfz120_1, hfz120_2, hfz120_3⟩ := blk_quad_free BK113.out
            have hnb121 := NB119_101.out
            have hnc121 := NB101_119.out
            have hnb122 := NB119_102.out
            have hnc122 := NB102_119.out
            obtain ⟨hcz123_0, hcz123_1, hcz123_2, hcz123_3⟩ := blk_quad BK119.out
            obtain ⟨hfz123_0, hfz123_1, hfz123_2, hfz123_3⟩ := blk_quad_free BK119.out
            go_wp2
            go_meet
            case rel => exact ⟨_, ((t134 != t139)), (by first | rfl | (simp; done) | (generalize ByteArray.toList _ = l_; cases l_ <;> rfl) | (simp [*]; done)), H', ⟨by have := HJ3.out; have := HJ25.out; have := HJ60.out; first | omega | exact Nat.le_refl _⟩, ⟨by (with_reducible repeat first | refine zn ?_ _ | refine zd ?_ | refine za ?_ _); refine blk_far ?_ NB101_119.out _; (with_reducible repeat first | refine zn ?_ _ | refine zd ?_ | refine za ?_ _); refine blk_far ?_ NB101_119.out _; (with_reducible repeat first | refine zn ?_ _ | refine zd ?_ | refine za ?_ _); refine blk_far ?_ NB101_119.out _; (with_reducible repeat first | refine zn ?_ _ | refine zd ?_ | refine za ?_ _); refine blk_far ?_ NB101_119.out _; (with_reducible repeat first | refine zn ?_ _ | refine zd ?_ | refine za ?_ _); exact BK101.out⟩, ⟨by (with_reducible repeat first | refine zn ?_ _ | refine zd ?_ | refine za ?_ _); refine blk_far ?_ NB102_119.out _; (with_reducible repeat first | refine zn ?_ _ | refine zd ?_ | refine za ?_ _); refine blk_far ?_ NB102_119.out _; (with_reducible repeat first | refine zn ?_ _ | refine zd ?_ | refine za ?_ _); refine blk_far ?_ NB102_119.out _; (with_reducible repeat first | refine zn ?_ _ | refine zd ?_ | refine za ?_ _); refine blk_far ?_ NB102_119.out _; (with_reducible repeat first | refine zn ?_ _ | refine zd ?_ | refine za ?_ _); exact BK102.out⟩, ⟨by (with_reducible repeat first | refine zn ?_ _ | refine zd ?_ | refine za ?_ _); refine blk_far ?_ NB113_119.out _; (with_reducible repeat first | refine zn ?_ _ | refine zd ?_ | refine za ?_ _); refine blk_far ?_ NB113_119.out _; (with_reducible repeat first | refine zn ?_ _ | refine zd ?_ | refine za ?_ _); refine blk_far ?_ NB113_119.out _; (with_reducible repeat first | refine zn ?_ _ | refine zd ?_ | refine za ?_ _); refine blk_far ?_ NB113_119.out _; (with_reducible repeat first | refine zn ?_ _ | refine zd ?_ | refine za ?_ _); exact BK113.out⟩, ⟨by (with_reducible repeat first | refine zn ?_ _ | refine zd ?_ | refine za ?_ _); refine blk_put (cs := #[.int .i64 t135, .int .i64 t136, .int .i64 t137, .string t128]) ?_ 3 _ rfl; (with_reducible repeat first | refine zn ?_ _ | refine zd ?_ | refine za ?_ _); refine blk_put (cs := #[.int .i64 t135, .int .i64 t136, .int .i64 t127, .string t128]) ?_ 2 _ rfl; (with_reducible repeat first | refine zn ?_ _ | refine zd ?_ | refine za ?_ _); refine blk_put (cs := #[.int .i64 t135, .int .i64 t126, .int .i64 t127, .string t128]) ?_ 1 _ rfl; (with_reducible repeat first | refine zn ?_ _ | refine zd ?_ | refine za ?_ _); refine blk_put (cs := #[.int .i64 t125, .int .i64 t126, .int .i64 t127, .string t128]) ?_ 0 _ rfl; (with_reducible repeat first | refine zn ?_ _ | refine zd ?_ | refine za ?_ _); exact BK119.out⟩, ⟨by repeat (first | (with_reducible first | exact HB.out | apply below_alloc | apply pw_below_drewN | apply below_drew1 | refine below_set ?_ GE101.out | refine below_set ?_ GE102.out | refine below_set ?_ GE113.out | refine below_set ?_ GE119.out) | exact HB.out)⟩⟩
          case rest => as_aux_lemma =>
           clear HC94
           try clear c1
           try clear c2
           try clear p2
           try clear c3
           try clear c4
           try clear c5
           try clear c6
           try clear c7
           try clear c8
           try clear c9
           try clear c10
           try clear c11
           try clear c12
           try clear c15
           try clear c21
           try clear c22
           try clear c23
           try clear c24
           try clear c25
           try clear c26
           try clear c27
           try clear c32
           try clear c33
           try clear c39
           try clear c40
           try clear c41
           try clear c43
           try clear c43b0
           try clear c44
           try clear c45
           try clear c46
           try clear c48
           try clear c49
           try clear c51
           try clear c52
           try clear c53
           try clear c55
           try clear c56
           try clear c58
           try clear c62
           try clear c63
           try clear c64
           try clear c66
           try clear c67
           try clear c70
           try clear c76
           try clear c76b0
           try clear c77
           try clear c78
           try clear c79
           try clear c81
           try clear c82
           try clear c84
           try clear c85
           try clear c86
           try clear c88
           try clear c89
           try clear c91
           try clear c95
           try clear c96
           try clear c97
           try clear c99
           try clear c100
           try clear c103
           try clear c109
           try clear c109b0
           try clear c110
           try clear c111
           try clear c112
           try clear c114
           try clear c115
           try clear c117
           try clear c118
           try clear c119
           try clear c121
           try clear c122
           try clear hcz101_0 hcz101_1 hcz101_2 hcz101_3
           try clear hcz104_0 hcz104_1 hcz104_2 hcz104_3
           try clear hcz105_0 hcz105_1 hcz105_2 hcz105_3
           try clear hcz106_0 hcz106_1 hcz106_2 hcz106_3
           try clear hcz108_0 hcz108_1 hcz108_2 hcz108_3
           try clear hcz10_0 hcz10_1 hcz10_2 hcz10_3
           try clear hcz113_0 hcz113_1 hcz113_2 hcz113_3
           try clear hcz116_0 hcz116_1 hcz116_2 hcz116_3
           try clear hcz11_0 hcz11_1 hcz11_2 hcz11_3
           try clear hcz120_0 hcz120_1 hcz120_2 hcz120_3
           try clear hcz123_0 hcz123_1 hcz123_2 hcz123_3
           try clear hcz16_0 hcz16_1 hcz16_2 hcz16_3
           try clear hcz17_0 hcz17_1 hcz17_2 hcz17_3
           try clear hcz28_0 hcz28_1 hcz28_2 hcz28_3
           try clear hcz29_0 hcz29_1 hcz29_2 hcz29_3
           try clear hcz34_0 hcz34_1 hcz34_2 hcz34_3
           try clear hcz35_0 hcz35_1 hcz35_2 hcz35_3
           try clear hcz36_0 hcz36_1 hcz36_2 hcz36_3
           try clear hcz42_0 hcz42_1 hcz42_2 hcz42_3
           try clear hcz47_0 hcz47_1 hcz47_2 hcz47_3
           try clear hcz50_0 hcz50_1 hcz50_2 hcz50_3
           try clear hcz54_0 hcz54_1 hcz54_2 hcz54_3
           try clear hcz57_0 hcz57_1 hcz57_2 hcz57_3
           try clear hcz65_0 hcz65_1 hcz65_2 hcz65_3
           try clear hcz68_0 hcz68_1 hcz68_2 hcz68_3
           try clear hcz71_0 hcz71_1 hcz71_2 hcz71_3
           try clear hcz72_0 hcz72_1 hcz72_2 hcz72_3
           try clear hcz73_0 hcz73_1 hcz73_2 hcz73_3
           try clear hcz75_0 hcz75_1 hcz75_2 hcz75_3
           try clear hcz80_0 hcz80_1 hcz80_2 hcz80_3
           try clear hcz83_0 hcz83_1 hcz83_2 hcz83_3
           try clear hcz87_0 hcz87_1 hcz87_2 hcz87_3
           try clear hcz90_0 hcz90_1 hcz90_2 hcz90_3
           try clear hcz98_0 hcz98_1 hcz98_2 hcz98_3
           try clear hfz101_0 hfz101_1 hfz101_2 hfz101_3
           try clear hfz104_0 hfz104_1 hfz104_2 hfz104_3
           try clear hfz105_0 hfz105_1 hfz105_2 hfz105_3
           try clear hfz106_0 hfz106_1 hfz106_2 hfz106_3
           try clear hfz108_0 hfz108_1 hfz108_2 hfz108_3
           try clear hfz10_0 hfz10_1 hfz10_2 hfz10_3
           try clear hfz113_0 hfz113_1 hfz113_2 hfz113_3
           try clear hfz116_0 hfz116_1 hfz116_2 hfz116_3
           try clear hfz11_0 hfz11_1 hfz11_2 hfz11_3
           try clear hfz120_0 hfz120_1 hfz120_2 hfz120_3
           try clear hfz123_0 hfz123_1 hfz123_2 hfz123_3
           try clear hfz16_0 hfz16_1 hfz16_2 hfz16_3
           try clear hfz17_0 hfz17_1 hfz17_2 hfz17_3
           try clear hfz28_0 hfz28_1 hfz28_2 hfz28_3
           try clear hfz29_0 hfz29_1 hfz29_2 hfz29_3
           try clear hfz34_0 hfz34_1 hfz34_2 hfz34_3
           try clear hfz35_0 hfz35_1 hfz35_2 hfz35_3
           try clear hfz36_0 hfz36_1 hfz36_2 hfz36_3
           try clear hfz42_0 hfz42_1 hfz42_2 hfz42_3
           try clear hfz47_0 hfz47_1 hfz47_2 hfz47_3
           try clear hfz50_0 hfz50_1 hfz50_2 hfz50_3
           try clear hfz54_0 hfz54_1 hfz54_2 hfz54_3
           try clear hfz57_0 hfz57_1 hfz57_2 hfz57_3
           try clear hfz65_0 hfz65_1 hfz65_2 hfz65_3
           try clear hfz68_0 hfz68_1 hfz68_2 hfz68_3
           try clear hfz71_0 hfz71_1 hfz71_2 hfz71_3
           try clear hfz72_0 hfz72_1 hfz72_2 hfz72_3
           try clear hfz73_0 hfz73_1 hfz73_2 hfz73_3
           try clear hfz75_0 hfz75_1 hfz75_2 hfz75_3
           try clear hfz80_0 hfz80_1 hfz80_2 hfz80_3
           try clear hfz83_0 hfz83_1 hfz83_2 hfz83_3
           try clear hfz87_0 hfz87_1 hfz87_2 hfz87_3
           try clear hfz90_0 hfz90_1 hfz90_2 hfz90_3
           try clear hfz98_0 hfz98_1 hfz98_2 hfz98_3
           try clear p2
           obtain ⟨kq, x94_93, rfl, HA, HJ93, BK101, BK102, BK113, BK119, HB⟩ := hcut
           cases kq with
           | zero => exact absurd HA.out (by simp [ironbarklaw05_BitsBools.j3])
           | succ kj93 =>
            have H := HA.out
            clear HA
            simp only [ironbarklaw05_BitsBools.j3] at H
            by_cases c124 : x94_93 = true
            ·subst c124
             have H1 : (some false) = some r := by rw [if_pos rfl] at H; exact H
             clear H
             have H := H1
             clear H1
             exact absurd ((Option.some.inj H).trans hrt_.out) (by decide)
            ·replace c124 := Bool.eq_false_iff.mpr c124
             subst c124
             have H1 : ((bits_Not.f a0_0 a0_1 a0_2 a0_3).bind fun bt140 => ((ironbarkref05_Not.f kj93 a0_0 a0_1 a0_2 a0_3).bind fun bt145 => ((bits_Some.f kj93 a0_0 a0_1 a0_2 a0_3).bind fun bt150 => ((ironbarkref05_Some.f a0_0 a0_1 a0_2 a0_3).bind fun bt152 => (if (!(bt140.1 == bt145.1) || (!(bt140.2.1 == bt145.2.1) || (!(bt140.2.2.1 == bt145.2.2.1) || (!(bt140.2.2.2.1.toList == bt145.2.2.2.1.toList))))) = true then (ironbarklaw05_BitsBools.j4 kj93 true a0_0 a0_1 a0_2 a0_3 a1_0 a1_1 a1_2 a1_3) else (if bt140.2.2.2.2 = bt145.2.2.2.2 then (if (bt150.1 != bt152.1) = true then (ironbarklaw05_BitsBools.j4 kj93 true a0_0 a0_1 a0_2 a0_3 a1_0 a1_1 a1_2 a1_3) else (ironbarklaw05_BitsBools.j4 kj93 (bt150.2 != bt152.2) a0_0 a0_1 a0_2 a0_3 a1_0 a1_1 a1_2 a1_3)) else (ironbarklaw05_BitsBools.j4 kj93 true a0_0 a0_1 a0_2 a0_3 a1_0 a1_1 a1_2 a1_3))))))) = some r := by rw [if_neg (show ¬ (false = true) by decide)] at H; exact H
             clear H
             have H := H1
             clear H1
             replace H := Option.bind_eq_some_iff.mp H
             obtain ⟨⟨t140, t141, t142, t143, t144⟩, A1250, H⟩ := H
             replace H : ((ironbarkref05_Not.f kj93 a0_0 a0_1 a0_2 a0_3).bind fun bt145 => ((bits_Some.f kj93 a0_0 a0_1 a0_2 a0_3).bind fun bt150 => ((ironbarkref05_Some.f a0_0 a0_1 a0_2 a0_3).bind fun bt152 => (if (!(t140 == bt145.1) || (!(t141 == bt145.2.1) || (!(t142 == bt145.2.2.1) || (!(t143.toList == bt145.2.2.2.1.toList))))) = true then (ironbarklaw05_BitsBools.j4 kj93 true a0_0 a0_1 a0_2 a0_3 a1_0 a1_1 a1_2 a1_3) else (if t144 = bt145.2.2.2.2 then (if (bt150.1 != bt152.1) = true then (ironbarklaw05_BitsBools.j4 kj93 true a0_0 a0_1 a0_2 a0_3 a1_0 a1_1 a1_2 a1_3) else (ironbarklaw05_BitsBools.j4 kj93 (bt150.2 != bt152.2) a0_0 a0_1 a0_2 a0_3 a1_0 a1_1 a1_2 a1_3)) else (ironbarklaw05_BitsBools.j4 kj93 true a0_0 a0_1 a0_2 a0_3 a1_0 a1_1 a1_2 a1_3)))))) = some r := H
             have A125 := Aside0.mk A1250
             clear A1250
             replace H := Option.bind_eq_some_iff.mp H
             obtain ⟨⟨t145, t146, t147, t148, t149⟩, A1260, H⟩ := H
             replace H : ((bits_Some.f kj93 a0_0 a0_1 a0_2 a0_3).bind fun bt150 => ((ironbarkref05_Some.f a0_0 a0_1 a0_2 a0_3).bind fun bt152 => (if (!(t140 == t145) || (!(t141 == t146) || (!(t142 == t147) || (!(t143.toList == t148.toList))))) = true then (ironbarklaw05_BitsBools.j4 kj93 true a0_0 a0_1 a0_2 a0_3 a1_0 a1_1 a1_2 a1_3) else (if t144 = t149 then (if (bt150.1 != bt152.1) = true then (ironbarklaw05_BitsBools.j4 kj93 true a0_0 a0_1 a0_2 a0_3 a1_0 a1_1 a1_2 a1_3) else (ironbarklaw05_BitsBools.j4 kj93 (bt150.2 != bt152.2) a0_0 a0_1 a0_2 a0_3 a1_0 a1_1 a1_2 a1_3)) else (ironbarklaw05_BitsBools.j4 kj93 true a0_0 a0_1 a0_2 a0_3 a1_0 a1_1 a1_2 a1_3))))) = some r := H
             have A126 := Aside0.mk A1260
             clear A1260
             replace H := Option.bind_eq_some_iff.mp H
             obtain ⟨⟨t150, t151⟩, A1270, H⟩ := H
             replace H : ((ironbarkref05_Some.f a0_0 a0_1 a0_2 a0_3).bind fun bt152 => (if (!(t140 == t145) || (!(t141 == t146) || (!(t142 == t147) || (!(t143.toList == t148.toList))))) = true then (ironbarklaw05_BitsBools.j4 kj93 true a0_0 a0_1 a0_2 a0_3 a1_0 a1_1 a1_2 a1_3) else (if t144 = t149 then (if (t150 != bt152.1) = true then (ironbarklaw05_BitsBools.j4 kj93 true a0_0 a0_1 a0_2 a0_3 a1_0 a1_1 a1_2 a1_3) else (ironbarklaw05_BitsBools.j4 kj93 (t151 != bt152.2) a0_0 a0_1 a0_2 a0_3 a1_0 a1_1 a1_2 a1_3)) else (ironbarklaw05_BitsBools.j4 kj93 true a0_0 a0_1 a0_2 a0_3 a1_0 a1_1 a1_2 a1_3)))) = some r := H
             have A127 := Aside0.mk A1270
             clear A1270
             replace H := Option.bind_eq_some_iff.mp H
             obtain ⟨⟨t152, t153⟩, A1280, H⟩ := H
             replace H : (if (!(t140 == t145) || (!(t141 == t146) || (!(t142 == t147) || (!(t143.toList == t148.toList))))) = true then (ironbarklaw05_BitsBools.j4 kj93 true a0_0 a0_1 a0_2 a0_3 a1_0 a1_1 a1_2 a1_3) else (if t144 = t149 then (if (t150 != t152) = true then (ironbarklaw05_BitsBools.j4 kj93 true a0_0 a0_1 a0_2 a0_3 a1_0 a1_1 a1_2 a1_3) else (ironbarklaw05_BitsBools.j4 kj93 (t151 != t153) a0_0 a0_1 a0_2 a0_3 a1_0 a1_1 a1_2 a1_3)) else (ironbarklaw05_BitsBools.j4 kj93 true a0_0 a0_1 a0_2 a0_3 a1_0 a1_1 a1_2 a1_3))) = some r := H
             have A128 := Aside0.mk A1280
             clear A1280
             have HC129 := Aside0.mk H
             clear H
             have hnb130 := NB101_102.out
             have hnc130 := NB102_101.out
             have hnb131 := NB101_113.out
             have hnc131 := NB113_101.out
             have hnb132 := NB101_119.out
             have hnc132 := NB119_101.out
             obtain ⟨hcz133_0, hcz133_1, hcz133_2, hcz133_3⟩ := blk_quad BK101.out
             obtain ⟨hfz133_0, hfz133_1, hfz133_2, hfz133_3⟩ := blk_quad_free BK101.out
             go_upto_region 19 with (first | ((with_reducible refine gate_callee (f := 27) rfl ?_); refine goesL_ (some 97) rfl rfl Try.func27 (by kernel_rfl) rfl #[.agg #[.int .i64 a0_0, .int .i64 a0_1, .int .i64 a0_2, .string a0_3]] rfl (by (try simp only [List.map_toArray, List.map_cons, List.map_nil]); first | done | rfl | (simp only [List.length_drop, List.length_take]; rfl)) ?_; (with_reducible refine (bits_Not.calls a0_0 a0_1 a0_2 a0_3 t140 t141 t142 t143 t144 _ A125.out).mono ?_); rintro e w134 ⟨rfl, hb⟩; refine ⟨_, rfl, ?_⟩; have n0_ := Aside0.mk (blk_below (g := gb101) (o := .cells #[.int .i64 a0_0, .int .i64 a0_1, .int .i64 a0_2, .string a0_3] 23 (0, 0)) (by (with_reducible repeat first | refine zn ?_ _ | refine zd ?_ | refine za ?_ _); exact BK101.out) hb); have n1_ := Aside0.mk (blk_below (g := gb102) (o := .cells #[.int .i64 a1_0, .int .i64 a1_1, .int .i64 a1_2, .string a1_3] 23 (0, 0)) (by (with_reducible repeat first | refine zn ?_ _ | refine zd ?_ | refine za ?_ _); exact BK102.out) hb); have n2_ := Aside0.mk (blk_below (g := gb113) (o := .cells #[.int .i64 t130, .int .i64 t131, .int .i64 t132, .string t133] 23 (0, 0)) (by (with_reducible repeat first | refine zn ?_ _ | refine zd ?_ | refine za ?_ _); exact BK113.out) hb); have n3_ := Aside0.mk (blk_below (g := gb119) (o := .cells #[.int .i64 t135, .int .i64 t136, .int .i64 t137, .string t138] 23 (0, 0)) (by (with_reducible repeat first | refine zn ?_ _ | refine zd ?_ | refine za ?_ _); exact BK119.out) hb); have n4_ := Aside0.mk (below_step (by repeat (first | (with_reducible first | exact HB.out | apply below_alloc | apply pw_below_drewN | apply below_drew1 | refine below_set ?_ GE101.out | refine below_set ?_ GE102.out | refine below_set ?_ GE113.out | refine below_set ?_ GE119.out) | exact HB.out)) hb); clear BK101; clear BK102; clear BK113; clear BK119; clear HB; have BK101 := n0_; have BK102 := n1_; have BK113 := n2_; have BK119 := n3_; have HB := n4_; clear n0_ n1_ n2_ n3_ n4_; (try clear hb); (try clear hb2); (try clear hk); (try clear hi); have hnb135 := NB113_102.out; have hnc135 := NB102_113.out; have hnb136 := NB113_119.out; have hnc136 := NB119_113.out; obtain ⟨hcz137_0, hcz137_1, hcz137_2, hcz137_3⟩ := blk_quad BK113.out; obtain ⟨hfz137_0, hfz137_1, hfz137_2, hfz137_3⟩ := blk_quad_free BK113.out; obtain ⟨hcz138_0, hcz138_1, hcz138_2, hcz138_3⟩ := blk_quad BK101.out; obtain ⟨hfz138_0, hfz138_1, hfz138_2, hfz138_3⟩ := blk_quad_free BK101.out) | ((with_reducible refine gate_callee (f := 28) rfl ?_); refine goesL_ (some 102) rfl rfl Try.func28 (by kernel_rfl) rfl #[.agg #[.int .i64 a0_0, .int .i64 a0_1, .int .i64 a0_2, .string a0_3]] rfl (by (try simp only [List.map_toArray, List.map_cons, List.map_nil]); first | done | rfl | (simp only [List.length_drop, List.length_take]; rfl)) ?_; (with_reducible refine (ironbarkref05_Not.calls kj93 a0_0 a0_1 a0_2 a0_3 t145 t146 t147 t148 t149 _ A126.out).mono ?_); rintro e w139 ⟨rfl, hb⟩; refine ⟨_, rfl, ?_⟩; have n0_ := Aside0.mk (blk_below (g := gb101) (o := .cells #[.int .i64 a0_0, .int .i64 a0_1, .int .i64 a0_2, .string a0_3] 23 (0, 0)) (by (with_reducible repeat first | refine zn ?_ _ | refine zd ?_ | refine za ?_ _); refine blk_far ?_ NB101_113.out _; (with_reducible repeat first | refine zn ?_ _ | refine zd ?_ | refine za ?_ _); refine blk_far ?_ NB101_113.out _; (with_reducible repeat first | refine zn ?_ _ | refine zd ?_ | refine za ?_ _); refine blk_far ?_ NB101_113.out _; (with_reducible repeat first | refine zn ?_ _ | refine zd ?_ | refine za ?_ _); refine blk_far ?_ NB101_113.out _; (with_reducible repeat first | refine zn ?_ _ | refine zd ?_ | refine za ?_ _); exact BK101.out) hb); have n1_ := Aside0.mk (blk_below (g := gb102) (o := .cells #[.int .i64 a1_0, .int .i64 a1_1, .int .i64 a1_2, .string a1_3] 23 (0, 0)) (by (with_reducible repeat first | refine zn ?_ _ | refine zd ?_ | refine za ?_ _); refine blk_far ?_ NB102_113.out _; (with_reducible repeat first | refine zn ?_ _ | refine zd ?_ | refine za ?_ _); refine blk_far ?_ NB102_113.out _; (with_reducible repeat first | refine zn ?_ _ | refine zd ?_ | refine za ?_ _); refine blk_far ?_ NB102_113.out _; (with_reducible repeat first | refine zn ?_ _ | refine zd ?_ | refine za ?_ _); refine blk_far ?_ NB102_113.out _; (with_reducible repeat first | refine zn ?_ _ | refine zd ?_ | refine za ?_ _); exact BK102.out) hb); have n2_ := Aside0.mk (blk_below (g := gb113) (o := .cells #[.int .i64 t140, .int .i64 t141, .int .i64 t142, .string t143] 23 (0, 0)) (by (with_reducible repeat first | refine zn ?_ _ | refine zd ?_ | refine za ?_ _); refine blk_put (cs := #[.int .i64 t140, .int .i64 t141, .int .i64 t142, .string t133]) ?_ 3 _ rfl; (with_reducible repeat first | refine zn ?_ _ | refine zd ?_ | refine za ?_ _); refine blk_put (cs := #[.int .i64 t140, .int .i64 t141, .int .i64 t132, .string t133]) ?_ 2 _ rfl; (with_reducible repeat first | refine zn ?_ _ | refine zd ?_ | refine za ?_ _); refine blk_put (cs := #[.int .i64 t140, .int .i64 t131, .int .i64 t132, .string t133]) ?_ 1 _ rfl; (with_reducible repeat first | refine zn ?_ _ | refine zd ?_ | refine za ?_ _); refine blk_put (cs := #[.int .i64 t130, .int .i64 t131, .int .i64 t132, .string t133]) ?_ 0 _ rfl; (with_reducible repeat first | refine zn ?_ _ | refine zd ?_ | refine za ?_ _); exact BK113.out) hb); have n3_ := Aside0.mk (blk_below (g := gb119) (o := .cells #[.int .i64 t135, .int .i64 t136, .int .i64 t137, .string t138] 23 (0, 0)) (by (with_reducible repeat first | refine zn ?_ _ | refine zd ?_ | refine za ?_ _); refine blk_far ?_ NB119_113.out _; (with_reducible repeat first | refine zn ?_ _ | refine zd ?_ | refine za ?_ _); refine blk_far ?_ NB119_113.out _; (with_reducible repeat first | refine zn ?_ _ | refine zd ?_ | refine za ?_ _); refine blk_far ?_ NB119_113.out _; (with_reducible repeat first | refine zn ?_ _ | refine zd ?_ | refine za ?_ _); refine blk_far ?_ NB119_113.out _; (with_reducible repeat first | refine zn ?_ _ | refine zd ?_ | refine za ?_ _); exact BK119.out) hb); have n4_ := Aside0.mk (below_step (by repeat (first | (with_reducible first | exact HB.out | apply below_alloc | apply pw_below_drewN | apply below_drew1 | refine below_set ?_ GE101.out | refine below_set ?_ GE102.out | refine below_set ?_ GE113.out | refine below_set ?_ GE119.out) | exact HB.out)) hb); clear BK101; clear BK102; clear BK113; clear BK119; clear HB; have BK101 := n0_; have BK102 := n1_; have BK113 := n2_; have BK119 := n3_; have HB := n4_; clear n0_ n1_ n2_ n3_ n4_; (try clear hb); (try clear hb2); (try clear hk); (try clear hi); have hnb140 := NB119_102.out; have hnc140 := NB102_119.out; obtain ⟨hcz141_0, hcz141_1, hcz141_2, hcz141_3⟩ := blk_quad BK119.out; obtain ⟨hfz141_0, hfz141_1, hfz141_2, hfz141_3⟩ := blk_quad_free BK119.out; obtain ⟨hcz142_0, hcz142_1, hcz142_2, hcz142_3⟩ := blk_quad BK101.out; obtain ⟨hfz142_0, hfz142_1, hfz142_2, hfz142_3⟩ := blk_quad_free BK101.out) | ((with_reducible refine gate_callee (f := 29) rfl ?_); refine goesL_ (some 107) rfl rfl Try.func29 (by kernel_rfl) rfl #[.agg #[.int .i64 a0_0, .int .i64 a0_1, .int .i64 a0_2, .string a0_3]] rfl (by (try simp only [List.map_toArray, List.map_cons, List.map_nil]); first | done | rfl | (simp only [List.length_drop, List.length_take]; rfl)) ?_; (with_reducible refine (bits_Some.calls kj93 a0_0 a0_1 a0_2 a0_3 t150 t151 _ A127.out).mono ?_); rintro e w143 ⟨rfl, hb⟩; refine ⟨_, rfl, ?_⟩; have n0_ := Aside0.mk (blk_below (g := gb101) (o := .cells #[.int .i64 a0_0, .int .i64 a0_1, .int .i64 a0_2, .string a0_3] 23 (0, 0)) (by (with_reducible repeat first | refine zn ?_ _ | refine zd ?_ | refine za ?_ _); refine blk_far ?_ NB101_119.out _; (with_reducible repeat first | refine zn ?_ _ | refine zd ?_ | refine za ?_ _); refine blk_far ?_ NB101_119.out _; (with_reducible repeat first | refine zn ?_ _ | refine zd ?_ | refine za ?_ _); refine blk_far ?_ NB101_119.out _; (with_reducible repeat first | refine zn ?_ _ | refine zd ?_ | refine za ?_ _); refine blk_far ?_ NB101_119.out _; (with_reducible repeat first | refine zn ?_ _ | refine zd ?_ | refine za ?_ _); exact BK101.out) hb); have n1_ := Aside0.mk (blk_below (g := gb102) (o := .cells #[.int .i64 a1_0, .int .i64 a1_1, .int .i64 a1_2, .string a1_3] 23 (0, 0)) (by (with_reducible repeat first | refine zn ?_ _ | refine zd ?_ | refine za ?_ _); refine blk_far ?_ NB102_119.out _; (with_reducible repeat first | refine zn ?_ _ | refine zd ?_ | refine za ?_ _); refine blk_far ?_ NB102_119.out _; (with_reducible repeat first | refine zn ?_ _ | refine zd ?_ | refine za ?_ _); refine blk_far ?_ NB102_119.out _; (with_reducible repeat first | refine zn ?_ _ | refine zd ?_ | refine za ?_ _); refine blk_far ?_ NB102_119.out _; (with_reducible repeat first | refine zn ?_ _ | refine zd ?_ | refine za ?_ _); exact BK102.out) hb); have n2_ := Aside0.mk (blk_below (g := gb113) (o := .cells #[.int .i64 t140, .int .i64 t141, .int .i64 t142, .string t143] 23 (0, 0)) (by (with_reducible repeat first | refine zn ?_ _ | refine zd ?_ | refine za ?_ _); refine blk_far ?_ NB113_119.out _; (with_reducible repeat first | refine zn ?_ _ | refine zd ?_ | refine za ?_ _); refine blk_far ?_ NB113_119.out _; (with_reducible repeat first | refine zn ?_ _ | refine zd ?_ | refine za ?_ _); refine blk_far ?_ NB113_119.out _; (with_reducible repeat first | refine zn ?_ _ | refine zd ?_ | refine za ?_ _); refine blk_far ?_ NB113_119.out _; (with_reducible repeat first | refine zn ?_ _ | refine zd ?_ | refine za ?_ _); exact BK113.out) hb); have n3_ := Aside0.mk (blk_below (g := gb119) (o := .cells #[.int .i64 t145, .int .i64 t146, .int .i64 t147, .string t148] 23 (0, 0)) (by (with_reducible repeat first | refine zn ?_ _ | refine zd ?_ | refine za ?_ _); refine blk_put (cs := #[.int .i64 t145, .int .i64 t146, .int .i64 t147, .string t138]) ?_ 3 _ rfl; (with_reducible repeat first | refine zn ?_ _ | refine zd ?_ | refine za ?_ _); refine blk_put (cs := #[.int .i64 t145, .int .i64 t146, .int .i64 t137, .string t138]) ?_ 2 _ rfl; (with_reducible repeat first | refine zn ?_ _ | refine zd ?_ | refine za ?_ _); refine blk_put (cs := #[.int .i64 t145, .int .i64 t136, .int .i64 t137, .string t138]) ?_ 1 _ rfl; (with_reducible repeat first | refine zn ?_ _ | refine zd ?_ | refine za ?_ _); refine blk_put (cs := #[.int .i64 t135, .int .i64 t136, .int .i64 t137, .string t138]) ?_ 0 _ rfl; (with_reducible repeat first | refine zn ?_ _ | refine zd ?_ | refine za ?_ _); exact BK119.out) hb); have n4_ := Aside0.mk (below_step (by repeat (first | (with_reducible first | exact HB.out | apply below_alloc | apply pw_below_drewN | apply below_drew1 | refine below_set ?_ GE101.out | refine below_set ?_ GE102.out | refine below_set ?_ GE113.out | refine below_set ?_ GE119.out) | exact HB.out)) hb); clear BK101; clear BK102; clear BK113; clear BK119; clear HB; have BK101 := n0_; have BK102 := n1_; have BK113 := n2_; have BK119 := n3_; have HB := n4_; clear n0_ n1_ n2_ n3_ n4_; (try clear hb); (try clear hb2); (try clear hk); (try clear hi); obtain ⟨hcz144_0, hcz144_1, hcz144_2, hcz144_3⟩ := blk_quad BK101.out; obtain ⟨hfz144_0, hfz144_1, hfz144_2, hfz144_3⟩ := blk_quad_free BK101.out) | ((with_reducible refine gate_callee (f := 30) rfl ?_); refine goesL_ (some 112) rfl rfl Try.func30 (by kernel_rfl) rfl #[.agg #[.int .i64 a0_0, .int .i64 a0_1, .int .i64 a0_2, .string a0_3]] rfl (by (try simp only [List.map_toArray, List.map_cons, List.map_nil]); first | done | rfl | (simp only [List.length_drop, List.length_take]; rfl)) ?_; (with_reducible refine (ironbarkref05_Some.calls a0_0 a0_1 a0_2 a0_3 t152 t153 _ A128.out).mono ?_); rintro e w145 ⟨rfl, hb⟩; refine ⟨_, rfl, ?_⟩; have n0_ := Aside0.mk (blk_below (g := gb101) (o := .cells #[.int .i64 a0_0, .int .i64 a0_1, .int .i64 a0_2, .string a0_3] 23 (0, 0)) (by (with_reducible repeat first | refine zn ?_ _ | refine zd ?_ | refine za ?_ _); exact BK101.out) hb); have n1_ := Aside0.mk (blk_below (g := gb102) (o := .cells #[.int .i64 a1_0, .int .i64 a1_1, .int .i64 a1_2, .string a1_3] 23 (0, 0)) (by (with_reducible repeat first | refine zn ?_ _ | refine zd ?_ | refine za ?_ _); exact BK102.out) hb); have n2_ := Aside0.mk (blk_below (g := gb113) (o := .cells #[.int .i64 t140, .int .i64 t141, .int .i64 t142, .string t143] 23 (0, 0)) (by (with_reducible repeat first | refine zn ?_ _ | refine zd ?_ | refine za ?_ _); exact BK113.out) hb); have n3_ := Aside0.mk (blk_below (g := gb119) (o := .cells #[.int .i64 t145, .int .i64 t146, .int .i64 t147, .string t148] 23 (0, 0)) (by (with_reducible repeat first | refine zn ?_ _ | refine zd ?_ | refine za ?_ _); exact BK119.out) hb); have n4_ := Aside0.mk (below_step (by repeat (first | (with_reducible first | exact HB.out | apply below_alloc | apply pw_below_drewN | apply below_drew1 | refine below_set ?_ GE101.out | refine below_set ?_ GE102.out | refine below_set ?_ GE113.out | refine below_set ?_ GE119.out) | exact HB.out)) hb); clear BK101; clear BK102; clear BK113; clear BK119; clear HB; have BK101 := n0_; have BK102 := n1_; have BK113 := n2_; have BK119 := n3_; have HB := n4_; clear n0_ n1_ n2_ n3_ n4_; (try clear hb); (try clear hb2); (try clear hk); (try clear hi)))
             (try simp only [Act.put, List.setIfInBounds_toArray, List.set_cons_zero, List.set_cons_succ])
             go_cut [132] (fun v132 wc => ∃ (kq : Nat) (x132_128 : Bool), v132 = .bool x132_128 ∧ Aside0 (ironbarklaw05_BitsBools.j4 kq x132_128 a0_0 a0_1 a0_2 a0_3 a1_0 a1_1 a1_2 a1_3 = some r) ∧ Aside0 (kq ≤ kj93) ∧ Aside0 (wc.heap[gb101]? = some (.cells #[.int .i64 a0_0, .int .i64 a0_1, .int .i64 a0_2, .string a0_3] 23 (0, 0))) ∧ Aside0 (wc.heap[gb102]? = some (.cells #[.int .i64 a1_0, .int .i64 a1_1, .int .i64 a1_2, .string a1_3] 23 (0, 0))) ∧ Aside0 (wc.heap[gb113]? = some (.cells #[.int .i64 t140, .int .i64 t141, .int .i64 t142, .string t143] 23 (0, 0))) ∧ Aside0 (wc.heap[gb119]? = some (.cells #[.int .i64 t145, .int .i64 t146, .int .i64 t147, .string t148] 23 (0, 0))) ∧ Aside0 (Below w.heap.size w wc))
             case first =>
              have H := HC129.out
              clear HC129
              by_cases c146 : (!(t140 == t145) || (!(t141 == t146) || (!(t142 == t147) || (!(t143.toList == t148.toList))))) = true
              ·rw [if_pos c146] at H
               have c146b0 : (!(t140 == t145) || (!(t141 == t146) || (!(t142 == t147) || (!(t143.toList == t148.toList))))) = true := c146
               clear c146
               (first | rw [c146b0] | (simp only [i64_w, i32_w]; rw [c146b0]) | skip)
               exact absurd (H.trans (congrArg some hrt_.out)) (ironbarklaw05_BitsBools.j4_no _ _ _ _ _ _ _ _ _ )
              ·rw [if_neg c146] at H
               have c146b0 : (!(t140 == t145) || (!(t141 == t146) || (!(t142 == t147) || (!(t143.toList == t148.toList))))) = false := by simpa using c146
               clear c146
               (first | rw [c146b0] | (simp only [i64_w, i32_w]; rw [c146b0]) | skip)
               by_cases c154 : t144 = t149
               ·rw [if_pos c154] at H
                have c154b0 : (t144 == t149) = true := beq_iff_eq.mpr c154
                have c154b1 : (t144 != t149) = false := bne_eq_false_iff_eq.mpr c154
                clear c154
                by_cases c155 : (t150 != t152) = true
                ·rw [if_pos c155] at H
                 have c155b0 : (t150 != t152) = true := c155
                 (try (have c155b1 : decide (t150 = t152) = false := by simpa using c155))
                 (try (have c155b2 : (t150 == t152) = false := by simpa using c155))
                 (try (have c155b3 : ¬ (t150 = t152) := by simpa using c155))
                 clear c155
                 exact absurd (H.trans (congrArg some hrt_.out)) (ironbarklaw05_BitsBools.j4_no _ _ _ _ _ _ _ _ _ )
                ·rw [if_neg c155] at H
                 have c155b0 : (t150 != t152) = false := by simpa using c155
                 (try (have c155b1 : decide (t150 = t152) = true := by simpa using c155))
                 (try (have c155b2 : (t150 == t152) = true := by simpa using c155))
                 clear c155
                 have H' := Aside0.mk H
                 clear H
                 have hnb163 := NB113_101.out
                 have hnc163 := NB101_113.out
                 have hnb164 := NB113_102.out
                 have hnc164 := NB102_113.out
                 have hnb165 := NB113_119.out
                 have hnc165 := NB119_113.out
                 obtain ⟨hcz166_0, hcz166_1, hcz166_2, hcz166_3⟩ := blk_quad BK113.out
                 obtain ⟨hfz166_0, hfz166_1, hfz166_2, hfz166_3⟩ := blk_quad_free BK113.out
                 have hnb167 := NB119_101.out
                 have hnc167 := NB101_119.out
                 have hnb168 := NB119_102.out
                 have hnc168 := NB102_119.out
                 obtain ⟨hcz169_0, hcz169_1, hcz169_2, hcz169_3⟩ := blk_quad BK119.out
                 obtain ⟨hfz169_0, hfz169_1, hfz169_2, hfz169_3⟩ := blk_quad_free BK119.out
                 go_wp2
                 go_meet
                 case rel => exact ⟨_, ((t151 != t153)), (by first | rfl | (simp; done) | (generalize ByteArray.toList _ = l_; cases l_ <;> rfl) | (simp [*]; done)), H', ⟨by have := HJ3.out; have := HJ25.out; have := HJ60.out; have := HJ93.out; first | omega | exact Nat.le_refl _⟩, ⟨by (with_reducible repeat first | refine zn ?_ _ | refine zd ?_ | refine za ?_ _); exact BK101.out⟩, ⟨by (with_reducible repeat first | refine zn ?_ _ | refine zd ?_ | refine za ?_ _); exact BK102.out⟩, ⟨by (with_reducible repeat first | refine zn ?_ _ | refine zd ?_ | refine za ?_ _); exact BK113.out⟩, ⟨by (with_reducible repeat first | refine zn ?_ _ | refine zd ?_ | refine za ?_ _); exact BK119.out⟩, ⟨by repeat (first | (with_reducible first | exact HB.out | apply below_alloc | apply pw_below_drewN | apply below_drew1 | refine below_set ?_ GE101.out | refine below_set ?_ GE102.out | refine below_set ?_ GE113.out | refine below_set ?_ GE119.out) | exact HB.out)⟩⟩
               ·rw [if_neg c154] at H
                have c154b0 : (t144 == t149) = false := beq_eq_false_iff_ne.mpr c154
                have c154b1 : (t144 != t149) = true := bne_iff_ne.mpr c154
                exact absurd (H.trans (congrArg some hrt_.out)) (ironbarklaw05_BitsBools.j4_no _ _ _ _ _ _ _ _ _ )
             case rest => as_aux_lemma =>
              clear HC129
              try clear c1
              try clear c2
              try clear p2
              try clear c3
              try clear c4
              try clear c5
              try clear c6
              try clear c7
              try clear c8
              try clear c9
              try clear c10
              try clear c11
              try clear c12
              try clear c13
              try clear c14
              try clear c15
              try clear c16
              try clear c17
              try clear c21
              try clear c22
              try clear c23
              try clear c24
              try clear c25
              try clear c26
              try clear c27
              try clear c28
              try clear c29
              try clear c30
              try clear c32
              try clear c33
              try clear c39
              try clear c40
              try clear c41
              try clear c43
              try clear c43b0
              try clear c44
              try clear c45
              try clear c46
              try clear c48
              try clear c49
              try clear c51
              try clear c52
              try clear c53
              try clear c55
              try clear c56
              try clear c58
              try clear c62
              try clear c63
              try clear c64
              try clear c66
              try clear c67
              try clear c70
              try clear c76
              try clear c76b0
              try clear c77
              try clear c78
              try clear c79
              try clear c81
              try clear c82
              try clear c84
              try clear c85
              try clear c86
              try clear c88
              try clear c89
              try clear c91
              try clear c95
              try clear c96
              try clear c97
              try clear c99
              try clear c100
              try clear c103
              try clear c109
              try clear c109b0
              try clear c110
              try clear c111
              try clear c112
              try clear c114
              try clear c115
              try clear c117
              try clear c118
              try clear c119
              try clear c121
              try clear c122
              try clear c124
              try clear c130
              try clear c131
              try clear c132
              try clear c135
              try clear c136
              try clear c140
              try clear c146
              try clear c146b0
              try clear c147
              try clear c148
              try clear c149
              try clear c151
              try clear c152
              try clear c154
              try clear c154b0
              try clear c154b1
              try clear c155
              try clear c155b0
              try clear c155b1
              try clear c155b2
              try clear c156
              try clear c157
              try clear c158
              try clear c160
              try clear c161
              try clear c163
              try clear c164
              try clear c165
              try clear c167
              try clear c168
              try clear c170
              try clear c171
              try clear c172
              try clear c174
              try clear c175
              try clear hcz101_0 hcz101_1 hcz101_2 hcz101_3
              try clear hcz104_0 hcz104_1 hcz104_2 hcz104_3
              try clear hcz105_0 hcz105_1 hcz105_2 hcz105_3
              try clear hcz106_0 hcz106_1 hcz106_2 hcz106_3
              try clear hcz108_0 hcz108_1 hcz108_2 hcz108_3
              try clear hcz10_0 hcz10_1 hcz10_2 hcz10_3
              try clear hcz113_0 hcz113_1 hcz113_2 hcz113_3
              try clear hcz116_0 hcz116_1 hcz116_2 hcz116_3
              try clear hcz11_0 hcz11_1 hcz11_2 hcz11_3
              try clear hcz120_0 hcz120_1 hcz120_2 hcz120_3
              try clear hcz123_0 hcz123_1 hcz123_2 hcz123_3
              try clear hcz133_0 hcz133_1 hcz133_2 hcz133_3
              try clear hcz137_0 hcz137_1 hcz137_2 hcz137_3
              try clear hcz138_0 hcz138_1 hcz138_2 hcz138_3
              try clear hcz141_0 hcz141_1 hcz141_2 hcz141_3
              try clear hcz142_0 hcz142_1 hcz142_2 hcz142_3
              try clear hcz144_0 hcz144_1 hcz144_2 hcz144_3
              try clear hcz150_0 hcz150_1 hcz150_2 hcz150_3
              try clear hcz153_0 hcz153_1 hcz153_2 hcz153_3
              try clear hcz159_0 hcz159_1 hcz159_2 hcz159_3
              try clear hcz162_0 hcz162_1 hcz162_2 hcz162_3
              try clear hcz166_0 hcz166_1 hcz166_2 hcz166_3
              try clear hcz169_0 hcz169_1 hcz169_2 hcz169_3
              try clear hcz16_0 hcz16_1 hcz16_2 hcz16_3
              try clear hcz173_0 hcz173_1 hcz173_2 hcz173_3
              try clear hcz176_0 hcz176_1 hcz176_2 hcz176_3
              try clear hcz17_0 hcz17_1 hcz17_2 hcz17_3
              try clear hcz28_0 hcz28_1 hcz28_2 hcz28_3
              try clear hcz29_0 hcz29_1 hcz29_2 hcz29_3
              try clear hcz34_0 hcz34_1 hcz34_2 hcz34_3
              try clear hcz35_0 hcz35_1 hcz35_2 hcz35_3
              try clear hcz36_0 hcz36_1 hcz36_2 hcz36_3
              try clear hcz42_0 hcz42_1 hcz42_2 hcz42_3
              try clear hcz47_0 hcz47_1 hcz47_2 hcz47_3
              try clear hcz50_0 hcz50_1 hcz50_2 hcz50_3
              try clear hcz54_0 hcz54_1 hcz54_2 hcz54_3
              try clear hcz57_0 hcz57_1 hcz57_2 hcz57_3
              try clear hcz65_0 hcz65_1 hcz65_2 hcz65_3
              try clear hcz68_0 hcz68_1 hcz68_2 hcz68_3
              try clear hcz71_0 hcz71_1 hcz71_2 hcz71_3
              try clear hcz72_0 hcz72_1 hcz72_2 hcz72_3
              try clear hcz73_0 hcz73_1 hcz73_2 hcz73_3
              try clear hcz75_0 hcz75_1 hcz75_2 hcz75_3
              try clear hcz80_0 hcz80_1 hcz80_2 hcz80_3
              try clear hcz83_0 hcz83_1 hcz83_2 hcz83_3
              try clear hcz87_0 hcz87_1 hcz87_2 hcz87_3
              try clear hcz90_0 hcz90_1 hcz90_2 hcz90_3
              try clear hcz98_0 hcz98_1 hcz98_2 hcz98_3
              try clear hfz101_0 hfz101_1 hfz101_2 hfz101_3
              try clear hfz104_0 hfz104_1 hfz104_2 hfz104_3
              try clear hfz105_0 hfz105_1 hfz105_2 hfz105_3
              try clear hfz106_0 hfz106_1 hfz106_2 hfz106_3
              try clear hfz108_0 hfz108_1 hfz108_2 hfz108_3
              try clear hfz10_0 hfz10_1 hfz10_2 hfz10_3
              try clear hfz113_0 hfz113_1 hfz113_2 hfz113_3
              try clear hfz116_0 hfz116_1 hfz116_2 hfz116_3
              try clear hfz11_0 hfz11_1 hfz11_2 hfz11_3
              try clear hfz120_0 hfz120_1 hfz120_2 hfz120_3
              try clear hfz123_0 hfz123_1 hfz123_2 hfz123_3
              try clear hfz133_0 hfz133_1 hfz133_2 hfz133_3
              try clear hfz137_0 hfz137_1 hfz137_2 hfz137_3
              try clear hfz138_0 hfz138_1 hfz138_2 hfz138_3
              try clear hfz141_0 hfz141_1 hfz141_2 hfz141_3
              try clear hfz142_0 hfz142_1 hfz142_2 hfz142_3
              try clear hfz144_0 hfz144_1 hfz144_2 hfz144_3
              try clear hfz150_0 hfz150_1 hfz150_2 hfz150_3
              try clear hfz153_0 hfz153_1 hfz153_2 hfz153_3
              try clear hfz159_0 hfz159_1 hfz159_2 hfz159_3
              try clear hfz162_0 hfz162_1 hfz162_2 hfz162_3
              try clear hfz166_0 hfz166_1 hfz166_2 hfz166_3
              try clear hfz169_0 hfz169_1 hfz169_2 hfz169_3
              try clear hfz16_0 hfz16_1 hfz16_2 hfz16_3
              try clear hfz173_0 hfz173_1 hfz173_2 hfz173_3
              try clear hfz176_0 hfz176_1 hfz176_2 hfz176_3
              try clear hfz17_0 hfz17_1 hfz17_2 hfz17_3
              try clear hfz28_0 hfz28_1 hfz28_2 hfz28_3
              try clear hfz29_0 hfz29_1 hfz29_2 hfz29_3
              try clear hfz34_0 hfz34_1 hfz34_2 hfz34_3
              try clear hfz35_0 hfz35_1 hfz35_2 hfz35_3
              try clear hfz36_0 hfz36_1 hfz36_2 hfz36_3
              try clear hfz42_0 hfz42_1 hfz42_2 hfz42_3
              try clear hfz47_0 hfz47_1 hfz47_2 hfz47_3
              try clear hfz50_0 hfz50_1 hfz50_2 hfz50_3
              try clear hfz54_0 hfz54_1 hfz54_2 hfz54_3
              try clear hfz57_0 hfz57_1 hfz57_2 hfz57_3
              try clear hfz65_0 hfz65_1 hfz65_2 hfz65_3
              try clear hfz68_0 hfz68_1 hfz68_2 hfz68_3
              try clear hfz71_0 hfz71_1 hfz71_2 hfz71_3
              try clear hfz72_0 hfz72_1 hfz72_2 hfz72_3
              try clear hfz73_0 hfz73_1 hfz73_2 hfz73_3
              try clear hfz75_0 hfz75_1 hfz75_2 hfz75_3
              try clear hfz80_0 hfz80_1 hfz80_2 hfz80_3
              try clear hfz83_0 hfz83_1 hfz83_2 hfz83_3
              try clear hfz87_0 hfz87_1 hfz87_2 hfz87_3
              try clear hfz90_0 hfz90_1 hfz90_2 hfz90_3
              try clear hfz98_0 hfz98_1 hfz98_2 hfz98_3
              try clear p2
              obtain ⟨kq, x132_128, rfl, HA, HJ128, BK101, BK102, BK113, BK119, HB⟩ := hcut
              cases kq with
              | zero => exact absurd HA.out (by simp [ironbarklaw05_BitsBools.j4])
              | succ kj128 =>
               have H := HA.out
               clear HA
               simp only [ironbarklaw05_BitsBools.j4] at H
               by_cases c177 : x132_128 = true
               ·subst c177
                have H1 : (some false) = some r := by rw [if_pos rfl] at H; exact H
                clear H
                have H := H1
                clear H1
                exact absurd ((Option.some.inj H).trans hrt_.out) (by decide)
               ·replace c177 := Bool.eq_false_iff.mpr c177
                subst c177
                have H1 : ((bits_Every.f kj128 a0_0 a0_1 a0_2 a0_3).bind fun bt154 => ((ironbarkref05_Every.f a0_0 a0_1 a0_2 a0_3).bind fun bt156 => (if (bt154.1 != bt156.1) = true then (ironbarklaw05_BitsBools.j5 kj128 true a0_0 a0_1 a0_2 a0_3 a1_0 a1_1 a1_2 a1_3) else (ironbarklaw05_BitsBools.j5 kj128 (bt154.2 != bt156.2) a0_0 a0_1 a0_2 a0_3 a1_0 a1_1 a1_2 a1_3)))) = some r := by rw [if_neg (show ¬ (false = true) by decide)] at H; exact H
                clear H
                have H := H1
                clear H1
                replace H := Option.bind_eq_some_iff.mp H
                obtain ⟨⟨t154, t155⟩, A1780, H⟩ := H
                replace H : ((ironbarkref05_Every.f a0_0 a0_1 a0_2 a0_3).bind fun bt156 => (if (t154 != bt156.1) = true then (ironbarklaw05_BitsBools.j5 kj128 true a0_0 a0_1 a0_2 a0_3 a1_0 a1_1 a1_2 a1_3) else (ironbarklaw05_BitsBools.j5 kj128 (t155 != bt156.2) a0_0 a0_1 a0_2 a0_3 a1_0 a1_1 a1_2 a1_3))) = some r := H
                have A178 := Aside0.mk A1780
                clear A1780
                replace H := Option.bind_eq_some_iff.mp H
                obtain ⟨⟨t156, t157⟩, A1790, H⟩ := H
                replace H : (if (t154 != t156) = true then (ironbarklaw05_BitsBools.j5 kj128 true a0_0 a0_1 a0_2 a0_3 a1_0 a1_1 a1_2 a1_3) else (ironbarklaw05_BitsBools.j5 kj128 (t155 != t157) a0_0 a0_1 a0_2 a0_3 a1_0 a1_1 a1_2 a1_3)) = some r := H
                have A179 := Aside0.mk A1790
                clear A1790
                have HC180 := Aside0.mk H
                clear H
                have hnb181 := NB101_102.out
                have hnc181 := NB102_101.out
                have hnb182 := NB101_113.out
                have hnc182 := NB113_101.out
                have hnb183 := NB101_119.out
                have hnc183 := NB119_101.out
                obtain ⟨hcz184_0, hcz184_1, hcz184_2, hcz184_3⟩ := blk_quad BK101.out
                obtain ⟨hfz184_0, hfz184_1, hfz184_2, hfz184_3⟩ := blk_quad_free BK101.out
                go_upto_region 23 with (first | ((with_reducible refine gate_callee (f := 31) rfl ?_); refine goesL_ (some 135) rfl rfl Try.func31 (by kernel_rfl) rfl #[.agg #[.int .i64 a0_0, .int .i64 a0_1, .int .i64 a0_2, .string a0_3]] rfl (by (try simp only [List.map_toArray, List.map_cons, List.map_nil]); first | done | rfl | (simp only [List.length_drop, List.length_take]; rfl)) ?_; (with_reducible refine (bits_Every.calls kj128 a0_0 a0_1 a0_2 a0_3 t154 t155 _ A178.out).mono ?_); rintro e w185 ⟨rfl, hb⟩; refine ⟨_, rfl, ?_⟩; have n0_ := Aside0.mk (blk_below (g := gb101) (o := .cells #[.int .i64 a0_0, .int .i64 a0_1, .int .i64 a0_2, .string a0_3] 23 (0, 0)) (by (with_reducible repeat first | refine zn ?_ _ | refine zd ?_ | refine za ?_ _); exact BK101.out) hb); have n1_ := Aside0.mk (blk_below (g := gb102) (o := .cells #[.int .i64 a1_0, .int .i64 a1_1, .int .i64 a1_2, .string a1_3] 23 (0, 0)) (by (with_reducible repeat first | refine zn ?_ _ | refine zd ?_ | refine za ?_ _); exact BK102.out) hb); have n2_ := Aside0.mk (blk_below (g := gb113) (o := .cells #[.int .i64 t140, .int .i64 t141, .int .i64 t142, .string t143] 23 (0, 0)) (by (with_reducible repeat first | refine zn ?_ _ | refine zd ?_ | refine za ?_ _); exact BK113.out) hb); have n3_ := Aside0.mk (blk_below (g := gb119) (o := .cells #[.int .i64 t145, .int .i64 t146, .int .i64 t147, .string t148] 23 (0, 0)) (by (with_reducible repeat first | refine zn ?_ _ | refine zd ?_ | refine za ?_ _); exact BK119.out) hb); have n4_ := Aside0.mk (below_step (by repeat (first | (with_reducible first | exact HB.out | apply below_alloc | apply pw_below_drewN | apply below_drew1 | refine below_set ?_ GE101.out | refine below_set ?_ GE102.out | refine below_set ?_ GE113.out | refine below_set ?_ GE119.out) | exact HB.out)) hb); clear BK101; clear BK102; clear BK113; clear BK119; clear HB; have BK101 := n0_; have BK102 := n1_; have BK113 := n2_; have BK119 := n3_; have HB := n4_; clear n0_ n1_ n2_ n3_ n4_; (try clear hb); (try clear hb2); (try clear hk); (try clear hi); obtain ⟨hcz186_0, hcz186_1, hcz186_2, hcz186_3⟩ := blk_quad BK101.out; obtain ⟨hfz186_0, hfz186_1, hfz186_2, hfz186_3⟩ := blk_quad_free BK101.out) | ((with_reducible refine gate_callee (f := 32) rfl ?_); refine goesL_ (some 140) rfl rfl Try.func32 (by kernel_rfl) rfl #[.agg #[.int .i64 a0_0, .int .i64 a0_1, .int .i64 a0_2, .string a0_3]] rfl (by (try simp only [List.map_toArray, List.map_cons, List.map_nil]); first | done | rfl | (simp only [List.length_drop, List.length_take]; rfl)) ?_; (with_reducible refine (ironbarkref05_Every.calls a0_0 a0_1 a0_2 a0_3 t156 t157 _ A179.out).mono ?_); rintro e w187 ⟨rfl, hb⟩; refine ⟨_, rfl, ?_⟩; have n0_ := Aside0.mk (blk_below (g := gb101) (o := .cells #[.int .i64 a0_0, .int .i64 a0_1, .int .i64 a0_2, .string a0_3] 23 (0, 0)) (by (with_reducible repeat first | refine zn ?_ _ | refine zd ?_ | refine za ?_ _); exact BK101.out) hb); have n1_ := Aside0.mk (blk_below (g := gb102) (o := .cells #[.int .i64 a1_0, .int .i64 a1_1, .int .i64 a1_2, .string a1_3] 23 (0, 0)) (by (with_reducible repeat first | refine zn ?_ _ | refine zd ?_ | refine za ?_ _); exact BK102.out) hb); have n2_ := Aside0.mk (blk_below (g := gb113) (o := .cells #[.int .i64 t140, .int .i64 t141, .int .i64 t142, .string t143] 23 (0, 0)) (by (with_reducible repeat first | refine zn ?_ _ | refine zd ?_ | refine za ?_ _); exact BK113.out) hb); have n3_ := Aside0.mk (blk_below (g := gb119) (o := .cells #[.int .i64 t145, .int .i64 t146, .int .i64 t147, .string t148] 23 (0, 0)) (by (with_reducible repeat first | refine zn ?_ _ | refine zd ?_ | refine za ?_ _); exact BK119.out) hb); have n4_ := Aside0.mk (below_step (by repeat (first | (with_reducible first | exact HB.out | apply below_alloc | apply pw_below_drewN | apply below_drew1 | refine below_set ?_ GE101.out | refine below_set ?_ GE102.out | refine below_set ?_ GE113.out | refine below_set ?_ GE119.out) | exact HB.out)) hb); clear BK101; clear BK102; clear BK113; clear BK119; clear HB; have BK101 := n0_; have BK102 := n1_; have BK113 := n2_; have BK119 := n3_; have HB := n4_; clear n0_ n1_ n2_ n3_ n4_; (try clear hb); (try clear hb2); (try clear hk); (try clear hi)))
                (try simp only [Act.put, List.setIfInBounds_toArray, List.set_cons_zero, List.set_cons_succ])
                go_cut [150] (fun v150 wc => ∃ (kq : Nat) (x150_179 : Bool), v150 = .bool x150_179 ∧ Aside0 (ironbarklaw05_BitsBools.j5 kq x150_179 a0_0 a0_1 a0_2 a0_3 a1_0 a1_1 a1_2 a1_3 = some r) ∧ Aside0 (kq ≤ kj128) ∧ Aside0 (wc.heap[gb101]? = some (.cells #[.int .i64 a0_0, .int .i64 a0_1, .int .i64 a0_2, .string a0_3] 23 (0, 0))) ∧ Aside0 (wc.heap[gb102]? = some (.cells #[.int .i64 a1_0, .int .i64 a1_1, .int .i64 a1_2, .string a1_3] 23 (0, 0))) ∧ Aside0 (wc.heap[gb113]? = some (.cells #[.int .i64 t140, .int .i64 t141, .int .i64 t142, .string t143] 23 (0, 0))) ∧ Aside0 (wc.heap[gb119]? = some (.cells #[.int .i64 t145, .int .i64 t146, .int .i64 t147, .string t148] 23 (0, 0))) ∧ Aside0 (Below w.heap.size w wc))
                case first =>
                 have H := HC180.out
                 clear HC180
                 by_cases c188 : (t154 != t156) = true
                 ·rw [if_pos c188] at H
                  have c188b0 : (t154 != t156) = true := c188
                  (try (have c188b1 : decide (t154 = t156) = false := by simpa using c188))
                  (try (have c188b2 : (t154 == t156) = false := by simpa using c188))
                  (try (have c188b3 : ¬ (t154 = t156) := by simpa using c188))
                  clear c188
                  (first | rw [c188b0] | (simp only [i64_w, i32_w]; rw [c188b0]) | skip)
                  exact absurd (H.trans (congrArg some hrt_.out)) (ironbarklaw05_BitsBools.j5_no _ _ _ _ _ _ _ _ _ )
                 ·rw [if_neg c188] at H
                  have c188b0 : (t154 != t156) = false := by simpa using c188
                  (try (have c188b1 : decide (t154 = t156) = true := by simpa using c188))
                  (try (have c188b2 : (t154 == t156) = true := by simpa using c188))
                  clear c188
                  (first | rw [c188b0] | (simp only [i64_w, i32_w]; rw [c188b0]) | skip)
                  have H' := Aside0.mk H
                  clear H
                  go_wp2
                  go_meet
                  case rel => exact ⟨_, ((t155 != t157)), (by first | rfl | (simp; done) | (generalize ByteArray.toList _ = l_; cases l_ <;> rfl) | (simp [*]; done)), H', ⟨by have := HJ3.out; have := HJ25.out; have := HJ60.out; have := HJ93.out; have := HJ128.out; first | omega | exact Nat.le_refl _⟩, ⟨by (with_reducible repeat first | refine zn ?_ _ | refine zd ?_ | refine za ?_ _); exact BK101.out⟩, ⟨by (with_reducible repeat first | refine zn ?_ _ | refine zd ?_ | refine za ?_ _); exact BK102.out⟩, ⟨by (with_reducible repeat first | refine zn ?_ _ | refine zd ?_ | refine za ?_ _); exact BK113.out⟩, ⟨by (with_reducible repeat first | refine zn ?_ _ | refine zd ?_ | refine za ?_ _); exact BK119.out⟩, ⟨by repeat (first | (with_reducible first | exact HB.out | apply below_alloc | apply pw_below_drewN | apply below_drew1 | refine below_set ?_ GE101.out | refine below_set ?_ GE102.out | refine below_set ?_ GE113.out | refine below_set ?_ GE119.out) | exact HB.out)⟩⟩
                case rest => as_aux_lemma =>
                 clear HC180
                 try clear c1
                 try clear c2
                 try clear p2
                 try clear c3
                 try clear c4
                 try clear c5
                 try clear c6
                 try clear c7
                 try clear c8
                 try clear c9
                 try clear c10
                 try clear c11
                 try clear c12
                 try clear c13
                 try clear c14
                 try clear c15
                 try clear c16
                 try clear c17
                 try clear c18
                 try clear c21
                 try clear c22
                 try clear c23
                 try clear c24
                 try clear c25
                 try clear c26
                 try clear c27
                 try clear c28
                 try clear c29
                 try clear c30
                 try clear c31
                 try clear c32
                 try clear c33
                 try clear c39
                 try clear c40
                 try clear c41
                 try clear c43
                 try clear c43b0
                 try clear c44
                 try clear c45
                 try clear c46
                 try clear c48
                 try clear c49
                 try clear c51
                 try clear c52
                 try clear c53
                 try clear c55
                 try clear c56
                 try clear c58
                 try clear c62
                 try clear c63
                 try clear c64
                 try clear c66
                 try clear c67
                 try clear c70
                 try clear c76
                 try clear c76b0
                 try clear c77
                 try clear c78
                 try clear c79
                 try clear c81
                 try clear c82
                 try clear c84
                 try clear c85
                 try clear c86
                 try clear c88
                 try clear c89
                 try clear c91
                 try clear c95
                 try clear c96
                 try clear c97
                 try clear c99
                 try clear c100
                 try clear c103
                 try clear c109
                 try clear c109b0
                 try clear c110
                 try clear c111
                 try clear c112
                 try clear c114
                 try clear c115
                 try clear c117
                 try clear c118
                 try clear c119
                 try clear c121
                 try clear c122
                 try clear c124
                 try clear c130
                 try clear c131
                 try clear c132
                 try clear c135
                 try clear c136
                 try clear c140
                 try clear c146
                 try clear c146b0
                 try clear c147
                 try clear c148
                 try clear c149
                 try clear c151
                 try clear c152
                 try clear c154
                 try clear c154b0
                 try clear c154b1
                 try clear c155
                 try clear c155b0
                 try clear c155b1
                 try clear c155b2
                 try clear c156
                 try clear c157
                 try clear c158
                 try clear c160
                 try clear c161
                 try clear c163
                 try clear c164
                 try clear c165
                 try clear c167
                 try clear c168
                 try clear c170
                 try clear c171
                 try clear c172
                 try clear c174
                 try clear c175
                 try clear c177
                 try clear c181
                 try clear c182
                 try clear c183
                 try clear c188
                 try clear c188b0
                 try clear c188b1
                 try clear c188b2
                 try clear hcz101_0 hcz101_1 hcz101_2 hcz101_3
                 try clear hcz104_0 hcz104_1 hcz104_2 hcz104_3
                 try clear hcz105_0 hcz105_1 hcz105_2 hcz105_3
                 try clear hcz106_0 hcz106_1 hcz106_2 hcz106_3
                 try clear hcz108_0 hcz108_1 hcz108_2 hcz108_3
                 try clear hcz10_0 hcz10_1 hcz10_2 hcz10_3
                 try clear hcz113_0 hcz113_1 hcz113_2 hcz113_3
                 try clear hcz116_0 hcz116_1 hcz116_2 hcz116_3
                 try clear hcz11_0 hcz11_1 hcz11_2 hcz11_3
                 try clear hcz120_0 hcz120_1 hcz120_2 hcz120_3
                 try clear hcz123_0 hcz123_1 hcz123_2 hcz123_3
                 try clear hcz133_0 hcz133_1 hcz133_2 hcz133_3
                 try clear hcz137_0 hcz137_1 hcz137_2 hcz137_3
                 try clear hcz138_0 hcz138_1 hcz138_2 hcz138_3
                 try clear hcz141_0 hcz141_1 hcz141_2 hcz141_3
                 try clear hcz142_0 hcz142_1 hcz142_2 hcz142_3
                 try clear hcz144_0 hcz144_1 hcz144_2 hcz144_3
                 try clear hcz150_0 hcz150_1 hcz150_2 hcz150_3
                 try clear hcz153_0 hcz153_1 hcz153_2 hcz153_3
                 try clear hcz159_0 hcz159_1 hcz159_2 hcz159_3
                 try clear hcz162_0 hcz162_1 hcz162_2 hcz162_3
                 try clear hcz166_0 hcz166_1 hcz166_2 hcz166_3
                 try clear hcz169_0 hcz169_1 hcz169_2 hcz169_3
                 try clear hcz16_0 hcz16_1 hcz16_2 hcz16_3
                 try clear hcz173_0 hcz173_1 hcz173_2 hcz173_3
                 try clear hcz176_0 hcz176_1 hcz176_2 hcz176_3
                 try clear hcz17_0 hcz17_1 hcz17_2 hcz17_3
                 try clear hcz184_0 hcz184_1 hcz184_2 hcz184_3
                 try clear hcz186_0 hcz186_1 hcz186_2 hcz186_3
                 try clear hcz28_0 hcz28_1 hcz28_2 hcz28_3
                 try clear hcz29_0 hcz29_1 hcz29_2 hcz29_3
                 try clear hcz34_0 hcz34_1 hcz34_2 hcz34_3
                 try clear hcz35_0 hcz35_1 hcz35_2 hcz35_3
                 try clear hcz36_0 hcz36_1 hcz36_2 hcz36_3
                 try clear hcz42_0 hcz42_1 hcz42_2 hcz42_3
                 try clear hcz47_0 hcz47_1 hcz47_2 hcz47_3
                 try clear hcz50_0 hcz50_1 hcz50_2 hcz50_3
                 try clear hcz54_0 hcz54_1 hcz54_2 hcz54_3
                 try clear hcz57_0 hcz57_1 hcz57_2 hcz57_3
                 try clear hcz65_0 hcz65_1 hcz65_2 hcz65_3
                 try clear hcz68_0 hcz68_1 hcz68_2 hcz68_3
                 try clear hcz71_0 hcz71_1 hcz71_2 hcz71_3
                 try clear hcz72_0 hcz72_1 hcz72_2 hcz72_3
                 try clear hcz73_0 hcz73_1 hcz73_2 hcz73_3
                 try clear hcz75_0 hcz75_1 hcz75_2 hcz75_3
                 try clear hcz80_0 hcz80_1 hcz80_2 hcz80_3
                 try clear hcz83_0 hcz83_1 hcz83_2 hcz83_3
                 try clear hcz87_0 hcz87_1 hcz87_2 hcz87_3
                 try clear hcz90_0 hcz90_1 hcz90_2 hcz90_3
                 try clear hcz98_0 hcz98_1 hcz98_2 hcz98_3
                 try clear hfz101_0 hfz101_1 hfz101_2 hfz101_3
                 try clear hfz104_0 hfz104_1 hfz104_2 hfz104_3
                 try clear hfz105_0 hfz105_1 hfz105_2 hfz105_3
                 try clear hfz106_0 hfz106_1 hfz106_2 hfz106_3
                 try clear hfz108_0 hfz108_1 hfz108_2 hfz108_3
                 try clear hfz10_0 hfz10_1 hfz10_2 hfz10_3
                 try clear hfz113_0 hfz113_1 hfz113_2 hfz113_3
                 try clear hfz116_0 hfz116_1 hfz116_2 hfz116_3
                 try clear hfz11_0 hfz11_1 hfz11_2 hfz11_3
                 try clear hfz120_0 hfz120_1 hfz120_2 hfz120_3
                 try clear hfz123_0 hfz123_1 hfz123_2 hfz123_3
                 try clear hfz133_0 hfz133_1 hfz133_2 hfz133_3
                 try clear hfz137_0 hfz137_1 hfz137_2 hfz137_3
                 try clear hfz138_0 hfz138_1 hfz138_2 hfz138_3
                 try clear hfz141_0 hfz141_1 hfz141_2 hfz141_3
                 try clear hfz142_0 hfz142_1 hfz142_2 hfz142_3
                 try clear hfz144_0 hfz144_1 hfz144_2 hfz144_3
                 try clear hfz150_0 hfz150_1 hfz150_2 hfz150_3
                 try clear hfz153_0 hfz153_1 hfz153_2 hfz153_3
                 try clear hfz159_0 hfz159_1 hfz159_2 hfz159_3
                 try clear hfz162_0 hfz162_1 hfz162_2 hfz162_3
                 try clear hfz166_0 hfz166_1 hfz166_2 hfz166_3
                 try clear hfz169_0 hfz169_1 hfz169_2 hfz169_3
                 try clear hfz16_0 hfz16_1 hfz16_2 hfz16_3
                 try clear hfz173_0 hfz173_1 hfz173_2 hfz173_3
                 try clear hfz176_0 hfz176_1 hfz176_2 hfz176_3
                 try clear hfz17_0 hfz17_1 hfz17_2 hfz17_3
                 try clear hfz184_0 hfz184_1 hfz184_2 hfz184_3
                 try clear hfz186_0 hfz186_1 hfz186_2 hfz186_3
                 try clear hfz28_0 hfz28_1 hfz28_2 hfz28_3
                 try clear hfz29_0 hfz29_1 hfz29_2 hfz29_3
                 try clear hfz34_0 hfz34_1 hfz34_2 hfz34_3
                 try clear hfz35_0 hfz35_1 hfz35_2 hfz35_3
                 try clear hfz36_0 hfz36_1 hfz36_2 hfz36_3
                 try clear hfz42_0 hfz42_1 hfz42_2 hfz42_3
                 try clear hfz47_0 hfz47_1 hfz47_2 hfz47_3
                 try clear hfz50_0 hfz50_1 hfz50_2 hfz50_3
                 try clear hfz54_0 hfz54_1 hfz54_2 hfz54_3
                 try clear hfz57_0 hfz57_1 hfz57_2 hfz57_3
                 try clear hfz65_0 hfz65_1 hfz65_2 hfz65_3
                 try clear hfz68_0 hfz68_1 hfz68_2 hfz68_3
                 try clear hfz71_0 hfz71_1 hfz71_2 hfz71_3
                 try clear hfz72_0 hfz72_1 hfz72_2 hfz72_3
                 try clear hfz73_0 hfz73_1 hfz73_2 hfz73_3
                 try clear hfz75_0 hfz75_1 hfz75_2 hfz75_3
                 try clear hfz80_0 hfz80_1 hfz80_2 hfz80_3
                 try clear hfz83_0 hfz83_1 hfz83_2 hfz83_3
                 try clear hfz87_0 hfz87_1 hfz87_2 hfz87_3
                 try clear hfz90_0 hfz90_1 hfz90_2 hfz90_3
                 try clear hfz98_0 hfz98_1 hfz98_2 hfz98_3
                 try clear p2
                 obtain ⟨kq, x150_179, rfl, HA, HJ179, BK101, BK102, BK113, BK119, HB⟩ := hcut
                 cases kq with
                 | zero => exact absurd HA.out (by simp [ironbarklaw05_BitsBools.j5])
                 | succ kj179 =>
                  have H := HA.out
                  clear HA
                  simp only [ironbarklaw05_BitsBools.j5] at H
                  by_cases c189 : x150_179 = true
                  ·subst c189
                   have H1 : (some false) = some r := by rw [if_pos rfl] at H; exact H
                   clear H
                   have H := H1
                   clear H1
                   exact absurd ((Option.some.inj H).trans hrt_.out) (by decide)
                  ·replace c189 := Bool.eq_false_iff.mpr c189
                   subst c189
                   have H1 : ((bits_And.f kj179 a0_0 a0_1 a0_2 a0_3 a1_0 a1_1 a1_2 a1_3).bind fun bt158 => ((ironbarkref05_And.f kj179 a0_0 a0_1 a0_2 a0_3 a1_0 a1_1 a1_2 a1_3).bind fun bt163 => (if (!(bt158.1 == bt163.1) || (!(bt158.2.1 == bt163.2.1) || (!(bt158.2.2.1 == bt163.2.2.1) || (!(bt158.2.2.2.1.toList == bt163.2.2.2.1.toList))))) = true then (ironbarklaw05_BitsBools.j6 kj179 bt158.2.2.2.2 true a0_0 a0_1 a0_2 a0_3 a1_0 a1_1 a1_2 a1_3 bt158.1 bt158.2.1 bt158.2.2.1 bt158.2.2.2.1) else (ironbarklaw05_BitsBools.j6 kj179 bt158.2.2.2.2 (bt158.2.2.2.2 != bt163.2.2.2.2) a0_0 a0_1 a0_2 a0_3 a1_0 a1_1 a1_2 a1_3 bt158.1 bt158.2.1 bt158.2.2.1 bt158.2.2.2.1)))) = some r := by rw [if_neg (show ¬ (false = true) by decide)] at H; exact H
                   clear H
                   have H := H1
                   clear H1
                   replace H := Option.bind_eq_some_iff.mp H
                   obtain ⟨⟨t158, t159, t160, t161, t162⟩, A1900, H⟩ := H
                   replace H : ((ironbarkref05_And.f kj179 a0_0 a0_1 a0_2 a0_3 a1_0 a1_1 a1_2 a1_3).bind fun bt163 => (if (!(t158 == bt163.1) || (!(t159 == bt163.2.1) || (!(t160 == bt163.2.2.1) || (!(t161.toList == bt163.2.2.2.1.toList))))) = true then (ironbarklaw05_BitsBools.j6 kj179 t162 true a0_0 a0_1 a0_2 a0_3 a1_0 a1_1 a1_2 a1_3 t158 t159 t160 t161) else (ironbarklaw05_BitsBools.j6 kj179 t162 (t162 != bt163.2.2.2.2) a0_0 a0_1 a0_2 a0_3 a1_0 a1_1 a1_2 a1_3 t158 t159 t160 t161))) = some r := H
                   have A190 := Aside0.mk A1900
                   clear A1900
                   replace H := Option.bind_eq_some_iff.mp H
                   obtain ⟨⟨t163, t164, t165, t166, t167⟩, A1910, H⟩ := H
                   replace H : (if (!(t158 == t163) || (!(t159 == t164) || (!(t160 == t165) || (!(t161.toList == t166.toList))))) = true then (ironbarklaw05_BitsBools.j6 kj179 t162 true a0_0 a0_1 a0_2 a0_3 a1_0 a1_1 a1_2 a1_3 t158 t159 t160 t161) else (ironbarklaw05_BitsBools.j6 kj179 t162 (t162 != t167) a0_0 a0_1 a0_2 a0_3 a1_0 a1_1 a1_2 a1_3 t158 t159 t160 t161)) = some r := H
                   have A191 := Aside0.mk A1910
                   clear A1910
                   have HC192 := Aside0.mk H
                   clear H
                   have hnb193 := NB101_102.out
                   have hnc193 := NB102_101.out
                   have hnb194 := NB101_113.out
                   have hnc194 := NB113_101.out
                   have hnb195 := NB101_119.out
                   have hnc195 := NB119_101.out
                   obtain ⟨hcz196_0, hcz196_1, hcz196_2, hcz196_3⟩ := blk_quad BK101.out
                   obtain ⟨hfz196_0, hfz196_1, hfz196_2, hfz196_3⟩ := blk_quad_free BK101.out
                   have hnb197 := NB102_113.out
                   have hnc197 := NB113_102.out
                   have hnb198 := NB102_119.out
                   have hnc198 := NB119_102.out
                   obtain ⟨hcz199_0, hcz199_1, hcz199_2, hcz199_3⟩ := blk_quad BK102.out
                   obtain ⟨hfz199_0, hfz199_1, hfz199_2, hfz199_3⟩ := blk_quad_free BK102.out
                   go_upto_region 27 with (first | ((with_reducible refine gate_callee (f := 33) rfl ?_); refine goesL_ (some 154) rfl rfl Try.func33 (by kernel_rfl) rfl #[.agg #[.int .i64 a0_0, .int .i64 a0_1, .int .i64 a0_2, .string a0_3], .agg #[.int .i64 a1_0, .int .i64 a1_1, .int .i64 a1_2, .string a1_3]] rfl (by (try simp only [List.map_toArray, List.map_cons, List.map_nil]); first | done | rfl | (simp only [List.length_drop, List.length_take]; rfl)) ?_; (with_reducible refine (bits_And.calls kj179 a0_0 a0_1 a0_2 a0_3 a1_0 a1_1 a1_2 a1_3 t158 t159 t160 t161 t162 _ A190.out).mono ?_); rintro e w200 ⟨rfl, hb⟩; refine ⟨_, rfl, ?_⟩; have n0_ := Aside0.mk (blk_below (g := gb101) (o := .cells #[.int .i64 a0_0, .int .i64 a0_1, .int .i64 a0_2, .string a0_3] 23 (0, 0)) (by (with_reducible repeat first | refine zn ?_ _ | refine zd ?_ | refine za ?_ _); exact BK101.out) hb); have n1_ := Aside0.mk (blk_below (g := gb102) (o := .cells #[.int .i64 a1_0, .int .i64 a1_1, .int .i64 a1_2, .string a1_3] 23 (0, 0)) (by (with_reducible repeat first | refine zn ?_ _ | refine zd ?_ | refine za ?_ _); exact BK102.out) hb); have n2_ := Aside0.mk (blk_below (g := gb113) (o := .cells #[.int .i64 t140, .int .i64 t141, .int .i64 t142, .string t143] 23 (0, 0)) (by (with_reducible repeat first | refine zn ?_ _ | refine zd ?_ | refine za ?_ _); exact BK113.out) hb); have n3_ := Aside0.mk (blk_below (g := gb119) (o := .cells #[.int .i64 t145, .int .i64 t146, .int .i64 t147, .string t148] 23 (0, 0)) (by (with_reducible repeat first | refine zn ?_ _ | refine zd ?_ | refine za ?_ _); exact BK119.out) hb); have n4_ := Aside0.mk (below_step (by repeat (first | (with_reducible first | exact HB.out | apply below_alloc | apply pw_below_drewN | apply below_drew1 | refine below_set ?_ GE101.out | refine below_set ?_ GE102.out | refine below_set ?_ GE113.out | refine below_set ?_ GE119.out) | exact HB.out)) hb); clear BK101; clear BK102; clear BK113; clear BK119; clear HB; have BK101 := n0_; have BK102 := n1_; have BK113 := n2_; have BK119 := n3_; have HB := n4_; clear n0_ n1_ n2_ n3_ n4_; (try clear hb); (try clear hb2); (try clear hk); (try clear hi); have hnb201 := NB113_119.out; have hnc201 := NB119_113.out; obtain ⟨hcz202_0, hcz202_1, hcz202_2, hcz202_3⟩ := blk_quad BK113.out; obtain ⟨hfz202_0, hfz202_1, hfz202_2, hfz202_3⟩ := blk_quad_free BK113.out; obtain ⟨hcz203_0, hcz203_1, hcz203_2, hcz203_3⟩ := blk_quad BK101.out; obtain ⟨hfz203_0, hfz203_1, hfz203_2, hfz203_3⟩ := blk_quad_free BK101.out; obtain ⟨hcz204_0, hcz204_1, hcz204_2, hcz204_3⟩ := blk_quad BK102.out; obtain ⟨hfz204_0, hfz204_1, hfz204_2, hfz204_3⟩ := blk_quad_free BK102.out) | ((with_reducible refine gate_callee (f := 34) rfl ?_); refine goesL_ (some 160) rfl rfl Try.func34 (by kernel_rfl) rfl #[.agg #[.int .i64 a0_0, .int .i64 a0_1, .int .i64 a0_2, .string a0_3], .agg #[.int .i64 a1_0, .int .i64 a1_1, .int .i64 a1_2, .string a1_3]] rfl (by (try simp only [List.map_toArray, List.map_cons, List.map_nil]); first | done | rfl | (simp only [List.length_drop, List.length_take]; rfl)) ?_; (with_reducible refine (ironbarkref05_And.calls kj179 a0_0 a0_1 a0_2 a0_3 a1_0 a1_1 a1_2 a1_3 t163 t164 t165 t166 t167 _ A191.out).mono ?_); rintro e w205 ⟨rfl, hb⟩; refine ⟨_, rfl, ?_⟩; have n0_ := Aside0.mk (blk_below (g := gb101) (o := .cells #[.int .i64 a0_0, .int .i64 a0_1, .int .i64 a0_2, .string a0_3] 23 (0, 0)) (by (with_reducible repeat first | refine zn ?_ _ | refine zd ?_ | refine za ?_ _); refine blk_far ?_ NB101_113.out _; (with_reducible repeat first | refine zn ?_ _ | refine zd ?_ | refine za ?_ _); refine blk_far ?_ NB101_113.out _; (with_reducible repeat first | refine zn ?_ _ | refine zd ?_ | refine za ?_ _); refine blk_far ?_ NB101_113.out _; (with_reducible repeat first | refine zn ?_ _ | refine zd ?_ | refine za ?_ _); refine blk_far ?_ NB101_113.out _; (with_reducible repeat first | refine zn ?_ _ | refine zd ?_ | refine za ?_ _); exact BK101.out) hb); have n1_ := Aside0.mk (blk_below (g := gb102) (o := .cells #[.int .i64 a1_0, .int .i64 a1_1, .int .i64 a1_2, .string a1_3] 23 (0, 0)) (by (with_reducible repeat first | refine zn ?_ _ | refine zd ?_ | refine za ?_ _); refine blk_far ?_ NB102_113.out _; (with_reducible repeat first | refine zn ?_ _ | refine zd ?_ | refine za ?_ _); refine blk_far ?_ NB102_113.out _; (with_reducible repeat first | refine zn ?_ _ | refine zd ?_ | refine za ?_ _); refine blk_far ?_ NB102_113.out _; (with_reducible repeat first | refine zn ?_ _ | refine zd ?_ | refine za ?_ _); refine blk_far ?_ NB102_113.out _; (with_reducible repeat first | refine zn ?_ _ | refine zd ?_ | refine za ?_ _); exact BK102.out) hb); have n2_ := Aside0.mk (blk_below (g := gb113) (o := .cells #[.int .i64 t158, .int .i64 t159, .int .i64 t160, .string t161] 23 (0, 0)) (by (with_reducible repeat first | refine zn ?_ _ | refine zd ?_ | refine za ?_ _); refine blk_put (cs := #[.int .i64 t158, .int .i64 t159, .int .i64 t160, .string t143]) ?_ 3 _ rfl; (with_reducible repeat first | refine zn ?_ _ | refine zd ?_ | refine za ?_ _); refine blk_put (cs := #[.int .i64 t158, .int .i64 t159, .int .i64 t142, .string t143]) ?_ 2 _ rfl; (with_reducible repeat first | refine zn ?_ _ | refine zd ?_ | refine za ?_ _); refine blk_put (cs := #[.int .i64 t158, .int .i64 t141, .int .i64 t142, .string t143]) ?_ 1 _ rfl; (with_reducible repeat first | refine zn ?_ _ | refine zd ?_ | refine za ?_ _); refine blk_put (cs := #[.int .i64 t140, .int .i64 t141, .int .i64 t142, .string t143]) ?_ 0 _ rfl; (with_reducible repeat first | refine zn ?_ _ | refine zd ?_ | refine za ?_ _); exact BK113.out) hb); have n3_ := Aside0.mk (blk_below (g := gb119) (o := .cells #[.int .i64 t145, .int .i64 t146, .int .i64 t147, .string t148] 23 (0, 0)) (by (with_reducible repeat first | refine zn ?_ _ | refine zd ?_ | refine za ?_ _); refine blk_far ?_ NB119_113.out _; (with_reducible repeat first | refine zn ?_ _ | refine zd ?_ | refine za ?_ _); refine blk_far ?_ NB119_113.out _; (with_reducible repeat first | refine zn ?_ _ | refine zd ?_ | refine za ?_ _); refine blk_far ?_ NB119_113.out _; (with_reducible repeat first | refine zn ?_ _ | refine zd ?_ | refine za ?_ _); refine blk_far ?_ NB119_113.out _; (with_reducible repeat first | refine zn ?_ _ | refine zd ?_ | refine za ?_ _); exact BK119.out) hb); have n4_ := Aside0.mk (below_step (by repeat (first | (with_reducible first | exact HB.out | apply below_alloc | apply pw_below_drewN | apply below_drew1 | refine below_set ?_ GE101.out | refine below_set ?_ GE102.out | refine below_set ?_ GE113.out | refine below_set ?_ GE119.out) | exact HB.out)) hb); clear BK101; clear BK102; clear BK113; clear BK119; clear HB; have BK101 := n0_; have BK102 := n1_; have BK113 := n2_; have BK119 := n3_; have HB := n4_; clear n0_ n1_ n2_ n3_ n4_; (try clear hb); (try clear hb2); (try clear hk); (try clear hi); obtain ⟨hcz206_0, hcz206_1, hcz206_2, hcz206_3⟩ := blk_quad BK119.out; obtain ⟨hfz206_0, hfz206_1, hfz206_2, hfz206_3⟩ := blk_quad_free BK119.out))
                   (try simp only [Act.put, List.setIfInBounds_toArray, List.set_cons_zero, List.set_cons_succ])
                   go_cut [170] (fun v170 wc => ∃ (kq : Nat) (x170_191 : Bool), v170 = .bool x170_191 ∧ Aside0 (ironbarklaw05_BitsBools.j6 kq t162 x170_191 a0_0 a0_1 a0_2 a0_3 a1_0 a1_1 a1_2 a1_3 t158 t159 t160 t161 = some r) ∧ Aside0 (kq ≤ kj179) ∧ Aside0 (wc.heap[gb101]? = some (.cells #[.int .i64 a0_0, .int .i64 a0_1, .int .i64 a0_2, .string a0_3] 23 (0, 0))) ∧ Aside0 (wc.heap[gb102]? = some (.cells #[.int .i64 a1_0, .int .i64 a1_1, .int .i64 a1_2, .string a1_3] 23 (0, 0))) ∧ Aside0 (wc.heap[gb113]? = some (.cells #[.int .i64 t158, .int .i64 t159, .int .i64 t160, .string t161] 23 (0, 0))) ∧ Aside0 (wc.heap[gb119]? = some (.cells #[.int .i64 t163, .int .i64 t164, .int .i64 t165, .string t166] 23 (0, 0))) ∧ Aside0 (Below w.heap.size w wc))
                   case first =>
                    have H := HC192.out
                    clear HC192
                    by_cases c207 : (!(t158 == t163) || (!(t159 == t164) || (!(t160 == t165) || (!(t161.toList == t166.toList))))) = true
                    ·rw [if_pos c207] at H
                     have c207b0 : (!(t158 == t163) || (!(t159 == t164) || (!(t160 == t165) || (!(t161.toList == t166.toList))))) = true := c207
                     clear c207
                     (first | rw [c207b0] | (simp only [i64_w, i32_w]; rw [c207b0]) | skip)
                     exact absurd (H.trans (congrArg some hrt_.out)) (ironbarklaw05_BitsBools.j6_no _ _ _ _ _ _ _ _ _ _ _ _ _ _ )
                    ·rw [if_neg c207] at H
                     have c207b0 : (!(t158 == t163) || (!(t159 == t164) || (!(t160 == t165) || (!(t161.toList == t166.toList))))) = false := by simpa using c207
                     clear c207
                     (first | rw [c207b0] | (simp only [i64_w, i32_w]; rw [c207b0]) | skip)
                     have H' := Aside0.mk H
                     clear H
                     have hnb215 := NB113_101.out
                     have hnc215 := NB101_113.out
                     have hnb216 := NB113_102.out
                     have hnc216 := NB102_113.out
                     have hnb217 := NB113_119.out
                     have hnc217 := NB119_113.out
                     obtain ⟨hcz218_0, hcz218_1, hcz218_2, hcz218_3⟩ := blk_quad BK113.out
                     obtain ⟨hfz218_0, hfz218_1, hfz218_2, hfz218_3⟩ := blk_quad_free BK113.out
                     have hnb219 := NB119_101.out
                     have hnc219 := NB101_119.out
                     have hnb220 := NB119_102.out
                     have hnc220 := NB102_119.out
                     obtain ⟨hcz221_0, hcz221_1, hcz221_2, hcz221_3⟩ := blk_quad BK119.out
                     obtain ⟨hfz221_0, hfz221_1, hfz221_2, hfz221_3⟩ := blk_quad_free BK119.out
                     go_wp2
                     go_meet
                     case rel => exact ⟨_, ((t162 != t167)), (by first | rfl | (simp; done) | (generalize ByteArray.toList _ = l_; cases l_ <;> rfl) | (simp [*]; done)), H', ⟨by have := HJ3.out; have := HJ25.out; have := HJ60.out; have := HJ93.out; have := HJ128.out; have := HJ179.out; first | omega | exact Nat.le_refl _⟩, ⟨by (with_reducible repeat first | refine zn ?_ _ | refine zd ?_ | refine za ?_ _); refine blk_far ?_ NB101_119.out _; (with_reducible repeat first | refine zn ?_ _ | refine zd ?_ | refine za ?_ _); refine blk_far ?_ NB101_119.out _; (with_reducible repeat first | refine zn ?_ _ | refine zd ?_ | refine za ?_ _); refine blk_far ?_ NB101_119.out _; (with_reducible repeat first | refine zn ?_ _ | refine zd ?_ | refine za ?_ _); refine blk_far ?_ NB101_119.out _; (with_reducible repeat first | refine zn ?_ _ | refine zd ?_ | refine za ?_ _); exact BK101.out⟩, ⟨by (with_reducible repeat first | refine zn ?_ _ | refine zd ?_ | refine za ?_ _); refine blk_far ?_ NB102_119.out _; (with_reducible repeat first | refine zn ?_ _ | refine zd ?_ | refine za ?_ _); refine blk_far ?_ NB102_119.out _; (with_reducible repeat first | refine zn ?_ _ | refine zd ?_ | refine za ?_ _); refine blk_far ?_ NB102_119.out _; (with_reducible repeat first | refine zn ?_ _ | refine zd ?_ | refine za ?_ _); refine blk_far ?_ NB102_119.out _; (with_reducible repeat first | refine zn ?_ _ | refine zd ?_ | refine za ?_ _); exact BK102.out⟩, ⟨by (with_reducible repeat first | refine zn ?_ _ | refine zd ?_ | refine za ?_ _); refine blk_far ?_ NB113_119.out _; (with_reducible repeat first | refine zn ?_ _ | refine zd ?_ | refine za ?_ _); refine blk_far ?_ NB113_119.out _; (with_reducible repeat first | refine zn ?_ _ | refine zd ?_ | refine za ?_ _); refine blk_far ?_ NB113_119.out _; (with_reducible repeat first | refine zn ?_ _ | refine zd ?_ | refine za ?_ _); refine blk_far ?_ NB113_119.out _; (with_reducible repeat first | refine zn ?_ _ | refine zd ?_ | refine za ?_ _); exact BK113.out⟩, ⟨by (with_reducible repeat first | refine zn ?_ _ | refine zd ?_ | refine za ?_ _); refine blk_put (cs := #[.int .i64 t163, .int .i64 t164, .int .i64 t165, .string t148]) ?_ 3 _ rfl; (with_reducible repeat first | refine zn ?_ _ | refine zd ?_ | refine za ?_ _); refine blk_put (cs := #[.int .i64 t163, .int .i64 t164, .int .i64 t147, .string t148]) ?_ 2 _ rfl; (with_reducible repeat first | refine zn ?_ _ | refine zd ?_ | refine za ?_ _); refine blk_put (cs := #[.int .i64 t163, .int .i64 t146, .int .i64 t147, .string t148]) ?_ 1 _ rfl; (with_reducible repeat first | refine zn ?_ _ | refine zd ?_ | refine za ?_ _); refine blk_put (cs := #[.int .i64 t145, .int .i64 t146, .int .i64 t147, .string t148]) ?_ 0 _ rfl; (with_reducible repeat first | refine zn ?_ _ | refine zd ?_ | refine za ?_ _); exact BK119.out⟩, ⟨by repeat (first | (with_reducible first | exact HB.out | apply below_alloc | apply pw_below_drewN | apply below_drew1 | refine below_set ?_ GE101.out | refine below_set ?_ GE102.out | refine below_set ?_ GE113.out | refine below_set ?_ GE119.out) | exact HB.out)⟩⟩
                   case rest => as_aux_lemma =>
                    clear HC192
                    try clear c1
                    try clear c2
                    try clear p2
                    try clear c3
                    try clear c9
                    try clear c10
                    try clear c11
                    try clear c12
                    try clear c13
                    try clear c14
                    try clear c15
                    try clear c16
                    try clear c17
                    try clear c18
                    try clear c19
                    try clear c20
                    try clear c21
                    try clear c22
                    try clear c33
                    try clear c34
                    try clear c95
                    try clear c96
                    try clear c97
                    try clear c99
                    try clear c100
                    try clear c103
                    try clear c109
                    try clear c109b0
                    try clear c110
                    try clear c111
                    try clear c112
                    try clear c114
                    try clear c115
                    try clear c117
                    try clear c118
                    try clear c119
                    try clear c121
                    try clear c122
                    try clear c124
                    try clear c130
                    try clear c131
                    try clear c132
                    try clear c135
                    try clear c136
                    try clear c140
                    try clear c146
                    try clear c146b0
                    try clear c147
                    try clear c148
                    try clear c149
                    try clear c151
                    try clear c152
                    try clear c154
                    try clear c154b0
                    try clear c154b1
                    try clear c155
                    try clear c155b0
                    try clear c155b1
                    try clear c155b2
                    try clear c156
                    try clear c157
                    try clear c158
                    try clear c160
                    try clear c161
                    try clear c163
                    try clear c164
                    try clear c165
                    try clear c167
                    try clear c168
                    try clear c170
                    try clear c171
                    try clear c172
                    try clear c174
                    try clear c175
                    try clear c177
                    try clear c181
                    try clear c182
                    try clear c183
                    try clear c188
                    try clear c188b0
                    try clear c188b1
                    try clear c188b2
                    try clear c189
                    try clear c193
                    try clear c194
                    try clear c195
                    try clear c197
                    try clear c198
                    try clear c201
                    try clear c207
                    try clear c207b0
                    try clear c208
                    try clear c209
                    try clear c210
                    try clear c212
                    try clear c213
                    try clear c215
                    try clear c216
                    try clear c217
                    try clear c219
                    try clear c220
                    try clear hcz101_0 hcz101_1 hcz101_2 hcz101_3
                    try clear hcz104_0 hcz104_1 hcz104_2 hcz104_3
                    try clear hcz105_0 hcz105_1 hcz105_2 hcz105_3
                    try clear hcz106_0 hcz106_1 hcz106_2 hcz106_3
                    try clear hcz108_0 hcz108_1 hcz108_2 hcz108_3
                    try clear hcz10_0 hcz10_1 hcz10_2 hcz10_3
                    try clear hcz113_0 hcz113_1 hcz113_2 hcz113_3
                    try clear hcz116_0 hcz116_1 hcz116_2 hcz116_3
                    try clear hcz11_0 hcz11_1 hcz11_2 hcz11_3
                    try clear hcz120_0 hcz120_1 hcz120_2 hcz120_3
                    try clear hcz123_0 hcz123_1 hcz123_2 hcz123_3
                    try clear hcz133_0 hcz133_1 hcz133_2 hcz133_3
                    try clear hcz137_0 hcz137_1 hcz137_2 hcz137_3
                    try clear hcz138_0 hcz138_1 hcz138_2 hcz138_3
                    try clear hcz141_0 hcz141_1 hcz141_2 hcz141_3
                    try clear hcz142_0 hcz142_1 hcz142_2 hcz142_3
                    try clear hcz144_0 hcz144_1 hcz144_2 hcz144_3
                    try clear hcz150_0 hcz150_1 hcz150_2 hcz150_3
                    try clear hcz153_0 hcz153_1 hcz153_2 hcz153_3
                    try clear hcz159_0 hcz159_1 hcz159_2 hcz159_3
                    try clear hcz162_0 hcz162_1 hcz162_2 hcz162_3
                    try clear hcz166_0 hcz166_1 hcz166_2 hcz166_3
                    try clear hcz169_0 hcz169_1 hcz169_2 hcz169_3
                    try clear hcz16_0 hcz16_1 hcz16_2 hcz16_3
                    try clear hcz173_0 hcz173_1 hcz173_2 hcz173_3
                    try clear hcz176_0 hcz176_1 hcz176_2 hcz176_3
                    try clear hcz17_0 hcz17_1 hcz17_2 hcz17_3
                    try clear hcz184_0 hcz184_1 hcz184_2 hcz184_3
                    try clear hcz186_0 hcz186_1 hcz186_2 hcz186_3
                    try clear hcz196_0 hcz196_1 hcz196_2 hcz196_3
                    try clear hcz199_0 hcz199_1 hcz199_2 hcz199_3
                    try clear hcz202_0 hcz202_1 hcz202_2 hcz202_3
                    try clear hcz203_0 hcz203_1 hcz203_2 hcz203_3
                    try clear hcz204_0 hcz204_1 hcz204_2 hcz204_3
                    try clear hcz206_0 hcz206_1 hcz206_2 hcz206_3
                    try clear hcz211_0 hcz211_1 hcz211_2 hcz211_3
                    try clear hcz214_0 hcz214_1 hcz214_2 hcz214_3
                    try clear hcz218_0 hcz218_1 hcz218_2 hcz218_3
                    try clear hcz221_0 hcz221_1 hcz221_2 hcz221_3
                    try clear hcz28_0 hcz28_1 hcz28_2 hcz28_3
                    try clear hcz29_0 hcz29_1 hcz29_2 hcz29_3
                    try clear hcz34_0 hcz34_1 hcz34_2 hcz34_3
                    try clear hcz35_0 hcz35_1 hcz35_2 hcz35_3
                    try clear hcz36_0 hcz36_1 hcz36_2 hcz36_3
                    try clear hcz42_0 hcz42_1 hcz42_2 hcz42_3
                    try clear hcz47_0 hcz47_1 hcz47_2 hcz47_3
                    try clear hcz50_0 hcz50_1 hcz50_2 hcz50_3
                    try clear hcz54_0 hcz54_1 hcz54_2 hcz54_3
                    try clear hcz57_0 hcz57_1 hcz57_2 hcz57_3
                    try clear hcz65_0 hcz65_1 hcz65_2 hcz65_3
                    try clear hcz68_0 hcz68_1 hcz68_2 hcz68_3
                    try clear hcz71_0 hcz71_1 hcz71_2 hcz71_3
                    try clear hcz72_0 hcz72_1 hcz72_2 hcz72_3
                    try clear hcz73_0 hcz73_1 hcz73_2 hcz73_3
                    try clear hcz75_0 hcz75_1 hcz75_2 hcz75_3
                    try clear hcz80_0 hcz80_1 hcz80_2 hcz80_3
                    try clear hcz83_0 hcz83_1 hcz83_2 hcz83_3
                    try clear hcz87_0 hcz87_1 hcz87_2 hcz87_3
                    try clear hcz90_0 hcz90_1 hcz90_2 hcz90_3
                    try clear hcz98_0 hcz98_1 hcz98_2 hcz98_3
                    try clear hfz101_0 hfz101_1 hfz101_2 hfz101_3
                    try clear hfz104_0 hfz104_1 hfz104_2 hfz104_3
                    try clear hfz105_0 hfz105_1 hfz105_2 hfz105_3
                    try clear hfz106_0 hfz106_1 hfz106_2 hfz106_3
                    try clear hfz108_0 hfz108_1 hfz108_2 hfz108_3
                    try clear hfz10_0 hfz10_1 hfz10_2 hfz10_3
                    try clear hfz113_0 hfz113_1 hfz113_2 hfz113_3
                    try clear hfz116_0 hfz116_1 hfz116_2 hfz116_3
                    try clear hfz11_0 hfz11_1 hfz11_2 hfz11_3
                    try clear hfz120_0 hfz120_1 hfz120_2 hfz120_3
                    try clear hfz123_0 hfz123_1 hfz123_2 hfz123_3
                    try clear hfz133_0 hfz133_1 hfz133_2 hfz133_3
                    try clear hfz137_0 hfz137_1 hfz137_2 hfz137_3
                    try clear hfz138_0 hfz138_1 hfz138_2 hfz138_3
                    try clear hfz141_0 hfz141_1 hfz141_2 hfz141_3
                    try clear hfz142_0 hfz142_1 hfz142_2 hfz142_3
                    try clear hfz144_0 hfz144_1 hfz144_2 hfz144_3
                    try clear hfz150_0 hfz150_1 hfz150_2 hfz150_3
                    try clear hfz153_0 hfz153_1 hfz153_2 hfz153_3
                    try clear hfz159_0 hfz159_1 hfz159_2 hfz159_3
                    try clear hfz162_0 hfz162_1 hfz162_2 hfz162_3
                    try clear hfz166_0 hfz166_1 hfz166_2 hfz166_3
                    try clear hfz169_0 hfz169_1 hfz169_2 hfz169_3
                    try clear hfz16_0 hfz16_1 hfz16_2 hfz16_3
                    try clear hfz173_0 hfz173_1 hfz173_2 hfz173_3
                    try clear hfz176_0 hfz176_1 hfz176_2 hfz176_3
                    try clear hfz17_0 hfz17_1 hfz17_2 hfz17_3
                    try clear hfz184_0 hfz184_1 hfz184_2 hfz184_3
                    try clear hfz186_0 hfz186_1 hfz186_2 hfz186_3
                    try clear hfz196_0 hfz196_1 hfz196_2 hfz196_3
                    try clear hfz199_0 hfz199_1 hfz199_2 hfz199_3
                    try clear hfz202_0 hfz202_1 hfz202_2 hfz202_3
                    try clear hfz203_0 hfz203_1 hfz203_2 hfz203_3
                    try clear hfz204_0 hfz204_1 hfz204_2 hfz204_3
                    try clear hfz206_0 hfz206_1 hfz206_2 hfz206_3
                    try clear hfz211_0 hfz211_1 hfz211_2 hfz211_3
                    try clear hfz214_0 hfz214_1 hfz214_2 hfz214_3
                    try clear hfz218_0 hfz218_1 hfz218_2 hfz218_3
                    try clear hfz221_0 hfz221_1 hfz221_2 hfz221_3
                    try clear hfz28_0 hfz28_1 hfz28_2 hfz28_3
                    try clear hfz29_0 hfz29_1 hfz29_2 hfz29_3
                    try clear hfz34_0 hfz34_1 hfz34_2 hfz34_3
                    try clear hfz35_0 hfz35_1 hfz35_2 hfz35_3
                    try clear hfz36_0 hfz36_1 hfz36_2 hfz36_3
                    try clear hfz42_0 hfz42_1 hfz42_2 hfz42_3
                    try clear hfz47_0 hfz47_1 hfz47_2 hfz47_3
                    try clear hfz50_0 hfz50_1 hfz50_2 hfz50_3
                    try clear hfz54_0 hfz54_1 hfz54_2 hfz54_3
                    try clear hfz57_0 hfz57_1 hfz57_2 hfz57_3
                    try clear hfz65_0 hfz65_1 hfz65_2 hfz65_3
                    try clear hfz68_0 hfz68_1 hfz68_2 hfz68_3
                    try clear hfz71_0 hfz71_1 hfz71_2 hfz71_3
                    try clear hfz72_0 hfz72_1 hfz72_2 hfz72_3
                    try clear hfz73_0 hfz73_1 hfz73_2 hfz73_3
                    try clear hfz75_0 hfz75_1 hfz75_2 hfz75_3
                    try clear hfz80_0 hfz80_1 hfz80_2 hfz80_3
                    try clear hfz83_0 hfz83_1 hfz83_2 hfz83_3
                    try clear hfz87_0 hfz87_1 hfz87_2 hfz87_3
                    try clear hfz90_0 hfz90_1 hfz90_2 hfz90_3
                    try clear hfz98_0 hfz98_1 hfz98_2 hfz98_3
                    try clear p2
                    obtain ⟨kq, x170_191, rfl, HA, HJ191, BK101, BK102, BK113, BK119, HB⟩ := hcut
                    cases kq with
                    | zero => exact absurd HA.out (by simp [ironbarklaw05_BitsBools.j6])
                    | succ kj191 =>
                     have H := HA.out
                     clear HA
                     simp only [ironbarklaw05_BitsBools.j6] at H
                     by_cases c222 : x170_191 = true
                     ·subst c222
                      have H1 : (some false) = some r := by rw [if_pos rfl] at H; exact H
                      clear H
                      have H := H1
                      clear H1
                      exact absurd ((Option.some.inj H).trans hrt_.out) (by decide)
                     ·replace c222 := Bool.eq_false_iff.mpr c222
                      subst c222
                      have H1 : (if t162 = 0 then (ironbarklaw05_BitsBools.j7 kj191 ((a0_3.size : Int) != (a1_3.size : Int)) a0_0 a0_1 a0_2 a0_3 a1_0 a1_1 a1_2 a1_3 t158 t159 t160 t161) else (ironbarklaw05_BitsBools.j7 kj191 true a0_0 a0_1 a0_2 a0_3 a1_0 a1_1 a1_2 a1_3 t158 t159 t160 t161)) = some r := by rw [if_neg (show ¬ (false = true) by decide)] at H; exact H
                      clear H
                      have H := H1
                      clear H1
                      have HC223 := Aside0.mk H
                      clear H
                      go_upto_region 29 with (fail)
                      go_cut [181] (fun v181 wc => ∃ (kq : Nat) (x181_222 : Bool), v181 = .bool x181_222 ∧ Aside0 (ironbarklaw05_BitsBools.j7 kq x181_222 a0_0 a0_1 a0_2 a0_3 a1_0 a1_1 a1_2 a1_3 t158 t159 t160 t161 = some r) ∧ Aside0 (kq ≤ kj191) ∧ Aside0 (wc.heap[gb101]? = some (.cells #[.int .i64 a0_0, .int .i64 a0_1, .int .i64 a0_2, .string a0_3] 23 (0, 0))) ∧ Aside0 (wc.heap[gb102]? = some (.cells #[.int .i64 a1_0, .int .i64 a1_1, .int .i64 a1_2, .string a1_3] 23 (0, 0))) ∧ Aside0 (wc.heap[gb113]? = some (.cells #[.int .i64 t158, .int .i64 t159, .int .i64 t160, .string t161] 23 (0, 0))) ∧ Aside0 (wc.heap[gb119]? = some (.cells #[.int .i64 t163, .int .i64 t164, .int .i64 t165, .string t166] 23 (0, 0))) ∧ Aside0 (Below w.heap.size w wc))
                      case first =>
                       have H := HC223.out
                       clear HC223
                       by_cases c224 : t162 = 0
                       ·rw [if_pos c224] at H
                        have c224b0 : (t162 == 0) = true := beq_iff_eq.mpr c224
                        have c224b1 : (t162 != 0) = false := bne_eq_false_iff_eq.mpr c224
                        clear c224
                        (first | rw [c224b0] | (simp only [i64_w, i32_w]; rw [c224b0]) | skip)
                        have H' := Aside0.mk H
                        clear H
                        have hnb225 := NB101_102.out
                        have hnc225 := NB102_101.out
                        have hnb226 := NB101_113.out
                        have hnc226 := NB113_101.out
                        have hnb227 := NB101_119.out
                        have hnc227 := NB119_101.out
                        obtain ⟨hcz228_0, hcz228_1, hcz228_2, hcz228_3⟩ := blk_quad BK101.out
                        obtain ⟨hfz228_0, hfz228_1, hfz228_2, hfz228_3⟩ := blk_quad_free BK101.out
                        have hnb229 := NB102_113.out
                        have hnc229 := NB113_102.out
                        have hnb230 := NB102_119.out
                        have hnc230 := NB119_102.out
                        obtain ⟨hcz231_0, hcz231_1, hcz231_2, hcz231_3⟩ := blk_quad BK102.out
                        obtain ⟨hfz231_0, hfz231_1, hfz231_2, hfz231_3⟩ := blk_quad_free BK102.out
                        go_wp2
                        go_meet
                        case rel => exact ⟨_, (((a0_3.size : Int) != (a1_3.size : Int))), (by first | rfl | (simp; done) | (generalize ByteArray.toList _ = l_; cases l_ <;> rfl) | (simp [*]; done)), H', ⟨by have := HJ3.out; have := HJ25.out; have := HJ60.out; have := HJ93.out; have := HJ128.out; have := HJ179.out; have := HJ191.out; first | omega | exact Nat.le_refl _⟩, ⟨by (with_reducible repeat first | refine zn ?_ _ | refine zd ?_ | refine za ?_ _); exact BK101.out⟩, ⟨by (with_reducible repeat first | refine zn ?_ _ | refine zd ?_ | refine za ?_ _); exact BK102.out⟩, ⟨by (with_reducible repeat first | refine zn ?_ _ | refine zd ?_ | refine za ?_ _); exact BK113.out⟩, ⟨by (with_reducible repeat first | refine zn ?_ _ | refine zd ?_ | refine za ?_ _); exact BK119.out⟩, ⟨by repeat (first | (with_reducible first | exact HB.out | apply below_alloc | apply pw_below_drewN | apply below_drew1 | refine below_set ?_ GE101.out | refine below_set ?_ GE102.out | refine below_set ?_ GE113.out | refine below_set ?_ GE119.out) | exact HB.out)⟩⟩
                       ·rw [if_neg c224] at H
                        have c224b0 : (t162 == 0) = false := beq_eq_false_iff_ne.mpr c224
                        have c224b1 : (t162 != 0) = true := bne_iff_ne.mpr c224
                        (first | rw [c224b0] | (simp only [i64_w, i32_w]; rw [c224b0]) | skip)
                        have H' := Aside0.mk H
                        clear H
                        go_wp2
                        go_meet
                        case rel => exact ⟨_, (true), (by first | rfl | (simp; done) | (generalize ByteArray.toList _ = l_; cases l_ <;> rfl) | (simp [*]; done)), H', ⟨by have := HJ3.out; have := HJ25.out; have := HJ60.out; have := HJ93.out; have := HJ128.out; have := HJ179.out; have := HJ191.out; first | omega | exact Nat.le_refl _⟩, ⟨by (with_reducible repeat first | refine zn ?_ _ | refine zd ?_ | refine za ?_ _); exact BK101.out⟩, ⟨by (with_reducible repeat first | refine zn ?_ _ | refine zd ?_ | refine za ?_ _); exact BK102.out⟩, ⟨by (with_reducible repeat first | refine zn ?_ _ | refine zd ?_ | refine za ?_ _); exact BK113.out⟩, ⟨by (with_reducible repeat first | refine zn ?_ _ | refine zd ?_ | refine za ?_ _); exact BK119.out⟩, ⟨by repeat (first | (with_reducible first | exact HB.out | apply below_alloc | apply pw_below_drewN | apply below_drew1 | refine below_set ?_ GE101.out | refine below_set ?_ GE102.out | refine below_set ?_ GE113.out | refine below_set ?_ GE119.out) | exact HB.out)⟩⟩
                      case rest => as_aux_lemma =>
                       clear HC223
                       try clear c1
                       try clear c2
                       try clear p2
                       try clear c15
                       try clear c16
                       try clear c17
                       try clear c18
                       try clear c19
                       try clear c20
                       try clear c21
                       try clear c22
                       try clear c23
                       try clear c155
                       try clear c155b1
                       try clear c155b2
                       try clear c156
                       try clear c157
                       try clear c158
                       try clear c160
                       try clear c161
                       try clear c163
                       try clear c164
                       try clear c165
                       try clear c167
                       try clear c168
                       try clear c170
                       try clear c171
                       try clear c172
                       try clear c174
                       try clear c175
                       try clear c177
                       try clear c181
                       try clear c182
                       try clear c183
                       try clear c188
                       try clear c188b0
                       try clear c188b1
                       try clear c188b2
                       try clear c189
                       try clear c193
                       try clear c194
                       try clear c195
                       try clear c197
                       try clear c198
                       try clear c201
                       try clear c207
                       try clear c207b0
                       try clear c208
                       try clear c209
                       try clear c210
                       try clear c212
                       try clear c213
                       try clear c215
                       try clear c216
                       try clear c217
                       try clear c219
                       try clear c220
                       try clear c222
                       try clear c224
                       try clear c224b0
                       try clear c224b1
                       try clear c225
                       try clear c226
                       try clear c227
                       try clear c229
                       try clear c230
                       try clear hcz101_0 hcz101_1 hcz101_2 hcz101_3
                       try clear hcz104_0 hcz104_1 hcz104_2 hcz104_3
                       try clear hcz105_0 hcz105_1 hcz105_2 hcz105_3
                       try clear hcz106_0 hcz106_1 hcz106_2 hcz106_3
                       try clear hcz108_0 hcz108_1 hcz108_2 hcz108_3
                       try clear hcz10_0 hcz10_1 hcz10_2 hcz10_3
                       try clear hcz113_0 hcz113_1 hcz113_2 hcz113_3
                       try clear hcz116_0 hcz116_1 hcz116_2 hcz116_3
                       try clear hcz11_0 hcz11_1 hcz11_2 hcz11_3
                       try clear hcz120_0 hcz120_1 hcz120_2 hcz120_3
                       try clear hcz123_0 hcz123_1 hcz123_2 hcz123_3
                       try clear hcz133_0 hcz133_1 hcz133_2 hcz133_3
                       try clear hcz137_0 hcz137_1 hcz137_2 hcz137_3
                       try clear hcz138_0 hcz138_1 hcz138_2 hcz138_3
                       try clear hcz141_0 hcz141_1 hcz141_2 hcz141_3
                       try clear hcz142_0 hcz142_1 hcz142_2 hcz142_3
                       try clear hcz144_0 hcz144_1 hcz144_2 hcz144_3
                       try clear hcz150_0 hcz150_1 hcz150_2 hcz150_3
                       try clear hcz153_0 hcz153_1 hcz153_2 hcz153_3
                       try clear hcz159_0 hcz159_1 hcz159_2 hcz159_3
                       try clear hcz162_0 hcz162_1 hcz162_2 hcz162_3
                       try clear hcz166_0 hcz166_1 hcz166_2 hcz166_3
                       try clear hcz169_0 hcz169_1 hcz169_2 hcz169_3
                       try clear hcz16_0 hcz16_1 hcz16_2 hcz16_3
                       try clear hcz173_0 hcz173_1 hcz173_2 hcz173_3
                       try clear hcz176_0 hcz176_1 hcz176_2 hcz176_3
                       try clear hcz17_0 hcz17_1 hcz17_2 hcz17_3
                       try clear hcz184_0 hcz184_1 hcz184_2 hcz184_3
                       try clear hcz186_0 hcz186_1 hcz186_2 hcz186_3
                       try clear hcz196_0 hcz196_1 hcz196_2 hcz196_3
                       try clear hcz199_0 hcz199_1 hcz199_2 hcz199_3
                       try clear hcz202_0 hcz202_1 hcz202_2 hcz202_3
                       try clear hcz203_0 hcz203_1 hcz203_2 hcz203_3
                       try clear hcz204_0 hcz204_1 hcz204_2 hcz204_3
                       try clear hcz206_0 hcz206_1 hcz206_2 hcz206_3
                       try clear hcz211_0 hcz211_1 hcz211_2 hcz211_3
                       try clear hcz214_0 hcz214_1 hcz214_2 hcz214_3
                       try clear hcz218_0 hcz218_1 hcz218_2 hcz218_3
                       try clear hcz221_0 hcz221_1 hcz221_2 hcz221_3
                       try clear hcz228_0 hcz228_1 hcz228_2 hcz228_3
                       try clear hcz231_0 hcz231_1 hcz231_2 hcz231_3
                       try clear hcz28_0 hcz28_1 hcz28_2 hcz28_3
                       try clear hcz29_0 hcz29_1 hcz29_2 hcz29_3
                       try clear hcz34_0 hcz34_1 hcz34_2 hcz34_3
                       try clear hcz35_0 hcz35_1 hcz35_2 hcz35_3
                       try clear hcz36_0 hcz36_1 hcz36_2 hcz36_3
                       try clear hcz42_0 hcz42_1 hcz42_2 hcz42_3
                       try clear hcz47_0 hcz47_1 hcz47_2 hcz47_3
                       try clear hcz50_0 hcz50_1 hcz50_2 hcz50_3
                       try clear hcz54_0 hcz54_1 hcz54_2 hcz54_3
                       try clear hcz57_0 hcz57_1 hcz57_2 hcz57_3
                       try clear hcz65_0 hcz65_1 hcz65_2 hcz65_3
                       try clear hcz68_0 hcz68_1 hcz68_2 hcz68_3
                       try clear hcz71_0 hcz71_1 hcz71_2 hcz71_3
                       try clear hcz72_0 hcz72_1 hcz72_2 hcz72_3
                       try clear hcz73_0 hcz73_1 hcz73_2 hcz73_3
                       try clear hcz75_0 hcz75_1 hcz75_2 hcz75_3
                       try clear hcz80_0 hcz80_1 hcz80_2 hcz80_3
                       try clear hcz83_0 hcz83_1 hcz83_2 hcz83_3
                       try clear hcz87_0 hcz87_1 hcz87_2 hcz87_3
                       try clear hcz90_0 hcz90_1 hcz90_2 hcz90_3
                       try clear hcz98_0 hcz98_1 hcz98_2 hcz98_3
                       try clear hfz101_0 hfz101_1 hfz101_2 hfz101_3
                       try clear hfz104_0 hfz104_1 hfz104_2 hfz104_3
                       try clear hfz105_0 hfz105_1 hfz105_2 hfz105_3
                       try clear hfz106_0 hfz106_1 hfz106_2 hfz106_3
                       try clear hfz108_0 hfz108_1 hfz108_2 hfz108_3
                       try clear hfz10_0 hfz10_1 hfz10_2 hfz10_3
                       try clear hfz113_0 hfz113_1 hfz113_2 hfz113_3
                       try clear hfz116_0 hfz116_1 hfz116_2 hfz116_3
                       try clear hfz11_0 hfz11_1 hfz11_2 hfz11_3
                       try clear hfz120_0 hfz120_1 hfz120_2 hfz120_3
                       try clear hfz123_0 hfz123_1 hfz123_2 hfz123_3
                       try clear hfz133_0 hfz133_1 hfz133_2 hfz133_3
                       try clear hfz137_0 hfz137_1 hfz137_2 hfz137_3
                       try clear hfz138_0 hfz138_1 hfz138_2 hfz138_3
                       try clear hfz141_0 hfz141_1 hfz141_2 hfz141_3
                       try clear hfz142_0 hfz142_1 hfz142_2 hfz142_3
                       try clear hfz144_0 hfz144_1 hfz144_2 hfz144_3
                       try clear hfz150_0 hfz150_1 hfz150_2 hfz150_3
                       try clear hfz153_0 hfz153_1 hfz153_2 hfz153_3
                       try clear hfz159_0 hfz159_1 hfz159_2 hfz159_3
                       try clear hfz162_0 hfz162_1 hfz162_2 hfz162_3
                       try clear hfz166_0 hfz166_1 hfz166_2 hfz166_3
                       try clear hfz169_0 hfz169_1 hfz169_2 hfz169_3
                       try clear hfz16_0 hfz16_1 hfz16_2 hfz16_3
                       try clear hfz173_0 hfz173_1 hfz173_2 hfz173_3
                       try clear hfz176_0 hfz176_1 hfz176_2 hfz176_3
                       try clear hfz17_0 hfz17_1 hfz17_2 hfz17_3
                       try clear hfz184_0 hfz184_1 hfz184_2 hfz184_3
                       try clear hfz186_0 hfz186_1 hfz186_2 hfz186_3
                       try clear hfz196_0 hfz196_1 hfz196_2 hfz196_3
                       try clear hfz199_0 hfz199_1 hfz199_2 hfz199_3
                       try clear hfz202_0 hfz202_1 hfz202_2 hfz202_3
                       try clear hfz203_0 hfz203_1 hfz203_2 hfz203_3
                       try clear hfz204_0 hfz204_1 hfz204_2 hfz204_3
                       try clear hfz206_0 hfz206_1 hfz206_2 hfz206_3
                       try clear hfz211_0 hfz211_1 hfz211_2 hfz211_3
                       try clear hfz214_0 hfz214_1 hfz214_2 hfz214_3
                       try clear hfz218_0 hfz218_1 hfz218_2 hfz218_3
                       try clear hfz221_0 hfz221_1 hfz221_2 hfz221_3
                       try clear hfz228_0 hfz228_1 hfz228_2 hfz228_3
                       try clear hfz231_0 hfz231_1 hfz231_2 hfz231_3
                       try clear hfz28_0 hfz28_1 hfz28_2 hfz28_3
                       try clear hfz29_0 hfz29_1 hfz29_2 hfz29_3
                       try clear hfz34_0 hfz34_1 hfz34_2 hfz34_3
                       try clear hfz35_0 hfz35_1 hfz35_2 hfz35_3
                       try clear hfz36_0 hfz36_1 hfz36_2 hfz36_3
                       try clear hfz42_0 hfz42_1 hfz42_2 hfz42_3
                       try clear hfz47_0 hfz47_1 hfz47_2 hfz47_3
                       try clear hfz50_0 hfz50_1 hfz50_2 hfz50_3
                       try clear hfz54_0 hfz54_1 hfz54_2 hfz54_3
                       try clear hfz57_0 hfz57_1 hfz57_2 hfz57_3
                       try clear hfz65_0 hfz65_1 hfz65_2 hfz65_3
                       try clear hfz68_0 hfz68_1 hfz68_2 hfz68_3
                       try clear hfz71_0 hfz71_1 hfz71_2 hfz71_3
                       try clear hfz72_0 hfz72_1 hfz72_2 hfz72_3
                       try clear hfz73_0 hfz73_1 hfz73_2 hfz73_3
                       try clear hfz75_0 hfz75_1 hfz75_2 hfz75_3
                       try clear hfz80_0 hfz80_1 hfz80_2 hfz80_3
                       try clear hfz83_0 hfz83_1 hfz83_2 hfz83_3
                       try clear hfz87_0 hfz87_1 hfz87_2 hfz87_3
                       try clear hfz90_0 hfz90_1 hfz90_2 hfz90_3
                       try clear hfz98_0 hfz98_1 hfz98_2 hfz98_3
                       try clear p2
                       obtain ⟨kq, x181_222, rfl, HA, HJ222, BK101, BK102, BK113, BK119, HB⟩ := hcut
                       cases kq with
                       | zero => exact absurd HA.out (by simp [ironbarklaw05_BitsBools.j7])
                       | succ kj222 =>
                        have H := HA.out
                        clear HA
                        simp only [ironbarklaw05_BitsBools.j7] at H
                        by_cases c232 : x181_222 = true
                        ·subst c232
                         have H1 : ((ironbarklaw05_awake.f).bind fun t168 => (some t168)) = some r := by rw [if_pos rfl] at H; exact H
                         clear H
                         have H := H1
                         clear H1
                         replace H := Option.bind_eq_some_iff.mp H
                         obtain ⟨t168, A2330, H⟩ := H
                         replace H : (some t168) = some r := H
                         have A233 := Aside0.mk A2330
                         clear A2330
                         obtain rfl := Option.some.inj H
                         go_wp2_with (first | ((with_reducible refine gate_callee (f := 9) rfl ?_); refine goesL_ (some 182) rfl rfl Try.func9 (by kernel_rfl) rfl #[] rfl (by (try simp only [List.map_toArray, List.map_cons, List.map_nil]); first | done | rfl | (simp only [List.length_drop, List.length_take]; rfl)) ?_; (with_reducible refine (ironbarklaw05_awake.calls  t168 _ A233.out).mono ?_); rintro e w234 ⟨rfl, hb⟩; refine ⟨_, rfl, ?_⟩; have n0_ := Aside0.mk (blk_below (g := gb101) (o := .cells #[.int .i64 a0_0, .int .i64 a0_1, .int .i64 a0_2, .string a0_3] 23 (0, 0)) (by (with_reducible repeat first | refine zn ?_ _ | refine zd ?_ | refine za ?_ _); exact BK101.out) hb); have n1_ := Aside0.mk (blk_below (g := gb102) (o := .cells #[.int .i64 a1_0, .int .i64 a1_1, .int .i64 a1_2, .string a1_3] 23 (0, 0)) (by (with_reducible repeat first | refine zn ?_ _ | refine zd ?_ | refine za ?_ _); exact BK102.out) hb); have n2_ := Aside0.mk (blk_below (g := gb113) (o := .cells #[.int .i64 t158, .int .i64 t159, .int .i64 t160, .string t161] 23 (0, 0)) (by (with_reducible repeat first | refine zn ?_ _ | refine zd ?_ | refine za ?_ _); exact BK113.out) hb); have n3_ := Aside0.mk (blk_below (g := gb119) (o := .cells #[.int .i64 t163, .int .i64 t164, .int .i64 t165, .string t166] 23 (0, 0)) (by (with_reducible repeat first | refine zn ?_ _ | refine zd ?_ | refine za ?_ _); exact BK119.out) hb); have n4_ := Aside0.mk (below_step (by repeat (first | (with_reducible first | exact HB.out | apply below_alloc | apply pw_below_drewN | apply below_drew1 | refine below_set ?_ GE101.out | refine below_set ?_ GE102.out | refine below_set ?_ GE113.out | refine below_set ?_ GE119.out) | exact HB.out)) hb); clear BK101; clear BK102; clear BK113; clear BK119; clear HB; have BK101 := n0_; have BK102 := n1_; have BK113 := n2_; have BK119 := n3_; have HB := n4_; clear n0_ n1_ n2_ n3_ n4_; (try clear hb); (try clear hb2); (try clear hk); (try clear hi)))
                         go_ret
                         exact ⟨by first | rfl | (simp [errW_none, errW_some] <;> rfl) | (simp [*, errW_none, errW_some] <;> rfl), by repeat (first | (with_reducible first | exact HB.out | apply below_alloc | apply pw_below_drewN | apply below_drew1 | refine below_set ?_ GE101.out | refine below_set ?_ GE102.out | refine below_set ?_ GE113.out | refine below_set ?_ GE119.out) | exact HB.out)⟩
                        ·replace c232 := Bool.eq_false_iff.mpr c232
                         subst c232
                         have H1 : ((bits_Not.f t158 t159 t160 t161).bind fun bt169 => ((bits_Not.f a0_0 a0_1 a0_2 a0_3).bind fun bt175 => ((bits_Not.f a1_0 a1_1 a1_2 a1_3).bind fun bt181 => ((bits_Or.f kj222 bt175.1 bt175.2.1 bt175.2.2.1 bt175.2.2.2.1 bt181.1 bt181.2.1 bt181.2.2.1 bt181.2.2.2.1).bind fun bt187 => (if bt187.2.2.2.2 = 0 then (if (bt169.1 == bt187.1 && (bt169.2.1 == bt187.2.1 && (bt169.2.2.1 == bt187.2.2.1 && (bt169.2.2.2.1.toList == bt187.2.2.2.1.toList)))) = true then ((ironbarklaw05_awake.f).bind fun t193 => (some t193)) else (some false)) else (some false)))))) = some r := by rw [if_neg (show ¬ (false = true) by decide)] at H; exact H
                         clear H
                         have H := H1
                         clear H1
                         replace H := Option.bind_eq_some_iff.mp H
                         obtain ⟨⟨t169, t170, t171, t172, t173⟩, A2350, H⟩ := H
                         replace H : ((bits_Not.f a0_0 a0_1 a0_2 a0_3).bind fun bt175 => ((bits_Not.f a1_0 a1_1 a1_2 a1_3).bind fun bt181 => ((bits_Or.f kj222 bt175.1 bt175.2.1 bt175.2.2.1 bt175.2.2.2.1 bt181.1 bt181.2.1 bt181.2.2.1 bt181.2.2.2.1).bind fun bt187 => (if bt187.2.2.2.2 = 0 then (if (t169 == bt187.1 && (t170 == bt187.2.1 && (t171 == bt187.2.2.1 && (t172.toList == bt187.2.2.2.1.toList)))) = true then ((ironbarklaw05_awake.f).bind fun t193 => (some t193)) else (some false)) else (some false))))) = some r := H
                         have A235 := Aside0.mk A2350
                         clear A2350
                         replace H := Option.bind_eq_some_iff.mp H
                         obtain ⟨⟨t175, t176, t177, t178, t179⟩, A2360, H⟩ := H
                         replace H : ((bits_Not.f a1_0 a1_1 a1_2 a1_3).bind fun bt181 => ((bits_Or.f kj222 t175 t176 t177 t178 bt181.1 bt181.2.1 bt181.2.2.1 bt181.2.2.2.1).bind fun bt187 => (if bt187.2.2.2.2 = 0 then (if (t169 == bt187.1 && (t170 == bt187.2.1 && (t171 == bt187.2.2.1 && (t172.toList == bt187.2.2.2.1.toList)))) = true then ((ironbarklaw05_awake.f).bind fun t193 => (some t193)) else (some false)) else (some false)))) = some r := H
                         have A236 := Aside0.mk A2360
                         clear A2360
                         replace H := Option.bind_eq_some_iff.mp H
                         obtain ⟨⟨t181, t182, t183, t184, t185⟩, A2370, H⟩ := H
                         replace H : ((bits_Or.f kj222 t175 t176 t177 t178 t181 t182 t183 t184).bind fun bt187 => (if bt187.2.2.2.2 = 0 then (if (t169 == bt187.1 && (t170 == bt187.2.1 && (t171 == bt187.2.2.1 && (t172.toList == bt187.2.2.2.1.toList)))) = true then ((ironbarklaw05_awake.f).bind fun t193 => (some t193)) else (some false)) else (some false))) = some r := H
                         have A237 := Aside0.mk A2370
                         clear A2370
                         replace H := Option.bind_eq_some_iff.mp H
                         obtain ⟨⟨t187, t188, t189, t190, t191⟩, A2380, H⟩ := H
                         replace H : (if t191 = 0 then (if (t169 == t187 && (t170 == t188 && (t171 == t189 && (t172.toList == t190.toList)))) = true then ((ironbarklaw05_awake.f).bind fun t193 => (some t193)) else (some false)) else (some false)) = some r := H
                         have A238 := Aside0.mk A2380
                         clear A2380
                         by_cases c239 : t191 = 0
                         ·rw [if_pos c239] at H
                          have c239b0 : (t191 == 0) = true := beq_iff_eq.mpr c239
                          have c239b1 : (t191 != 0) = false := bne_eq_false_iff_eq.mpr c239
                          clear c239
                          by_cases c240 : (t169 == t187 && (t170 == t188 && (t171 == t189 && (t172.toList == t190.toList)))) = true
                          ·rw [if_pos c240] at H
                           have c240b0 : (t169 == t187 && (t170 == t188 && (t171 == t189 && (t172.toList == t190.toList)))) = true := c240
                           (try (have c240b1 : decide (t169 = t187 && (t170 == t188 && (t171 == t189 && (t172.toList == t190.toList)))) = true := by simpa using c240))
                           (try (have c240b2 : (t169 == t187 && (t170 == t188 && (t171 == t189 && (t172.toList == t190.toList)))) = true := by simpa using c240))
                           clear c240
                           replace H := Option.bind_eq_some_iff.mp H
                           obtain ⟨t193, A2410, H⟩ := H
                           replace H : (some t193) = some r := H
                           have A241 := Aside0.mk A2410
                           clear A2410
                           obtain rfl := Option.some.inj H
                           have hnb242 := NB113_101.out
                           have hnc242 := NB101_113.out
                           have hnb243 := NB113_102.out
                           have hnc243 := NB102_113.out
                           have hnb244 := NB113_119.out
                           have hnc244 := NB119_113.out
                           obtain ⟨hcz245_0, hcz245_1, hcz245_2, hcz245_3⟩ := blk_quad BK113.out
                           obtain ⟨hfz245_0, hfz245_1, hfz245_2, hfz245_3⟩ := blk_quad_free BK113.out
                           go_wp2_with (first | ((with_reducible refine gate_callee (f := 27) rfl ?_); refine goesL_ (some 185) rfl rfl Try.func27 (by kernel_rfl) rfl #[.agg #[.int .i64 t158, .int .i64 t159, .int .i64 t160, .string t161]] rfl (by (try simp only [List.map_toArray, List.map_cons, List.map_nil]); first | done | rfl | (simp only [List.length_drop, List.length_take]; rfl)) ?_; (with_reducible refine (bits_Not.calls t158 t159 t160 t161 t169 t170 t171 t172 t173 _ A235.out).mono ?_); rintro e w246 ⟨rfl, hb⟩; refine ⟨_, rfl, ?_⟩; have n0_ := Aside0.mk (blk_below (g := gb101) (o := .cells #[.int .i64 a0_0, .int .i64 a0_1, .int .i64 a0_2, .string a0_3] 23 (0, 0)) (by (with_reducible repeat first | refine zn ?_ _ | refine zd ?_ | refine za ?_ _); exact BK101.out) hb); have n1_ := Aside0.mk (blk_below (g := gb102) (o := .cells #[.int .i64 a1_0, .int .i64 a1_1, .int .i64 a1_2, .string a1_3] 23 (0, 0)) (by (with_reducible repeat first | refine zn ?_ _ | refine zd ?_ | refine za ?_ _); exact BK102.out) hb); have n2_ := Aside0.mk (blk_below (g := gb113) (o := .cells #[.int .i64 t158, .int .i64 t159, .int .i64 t160, .string t161] 23 (0, 0)) (by (with_reducible repeat first | refine zn ?_ _ | refine zd ?_ | refine za ?_ _); exact BK113.out) hb); have n3_ := Aside0.mk (blk_below (g := gb119) (o := .cells #[.int .i64 t163, .int .i64 t164, .int .i64 t165, .string t166] 23 (0, 0)) (by (with_reducible repeat first | refine zn ?_ _ | refine zd ?_ | refine za ?_ _); exact BK119.out) hb); have n4_ := Aside0.mk (below_step (by repeat (first | (with_reducible first | exact HB.out | apply below_alloc | apply pw_below_drewN | apply below_drew1 | refine below_set ?_ GE101.out | refine below_set ?_ GE102.out | refine below_set ?_ GE113.out | refine below_set ?_ GE119.out) | exact HB.out)) hb); clear BK101; clear BK102; clear BK113; clear BK119; clear HB; have BK101 := n0_; have BK102 := n1_; have BK113 := n2_; have BK119 := n3_; have HB := n4_; clear n0_ n1_ n2_ n3_ n4_; (try clear hb); (try clear hb2); (try clear hk); (try clear hi)) | ((with_reducible refine gate_dst (N := 15) rfl ?_); (try (refine gate_guard (by rfl) ?_; dsimp only)); refine box_event ?hg (N := 15) ?hd (cs := #[.int .i64 0, .int .i64 0, .int .i64 0, .string (⟨#[]⟩ : ByteArray)]) (t := 23) ?hr ?_; (case hd => rfl); (case hg => rfl); (case hr => first | (go_simp; done) | (go_simp; rfl)); intro gb174 hg w247 hbox hb; have n0_ := Aside0.mk (blk_below (g := gb101) (o := .cells #[.int .i64 a0_0, .int .i64 a0_1, .int .i64 a0_2, .string a0_3] 23 (0, 0)) (by (with_reducible repeat first | refine zn ?_ _ | refine zd ?_ | refine za ?_ _); exact BK101.out) hb); have n1_ := Aside0.mk (blk_below (g := gb102) (o := .cells #[.int .i64 a1_0, .int .i64 a1_1, .int .i64 a1_2, .string a1_3] 23 (0, 0)) (by (with_reducible repeat first | refine zn ?_ _ | refine zd ?_ | refine za ?_ _); exact BK102.out) hb); have n2_ := Aside0.mk (blk_below (g := gb113) (o := .cells #[.int .i64 t158, .int .i64 t159, .int .i64 t160, .string t161] 23 (0, 0)) (by (with_reducible repeat first | refine zn ?_ _ | refine zd ?_ | refine za ?_ _); exact BK113.out) hb); have n3_ := Aside0.mk (blk_below (g := gb119) (o := .cells #[.int .i64 t163, .int .i64 t164, .int .i64 t165, .string t166] 23 (0, 0)) (by (with_reducible repeat first | refine zn ?_ _ | refine zd ?_ | refine za ?_ _); exact BK119.out) hb); have n4_ := Aside0.mk (below_step (by repeat (first | (with_reducible first | exact HB.out | apply below_alloc | apply pw_below_drewN | apply below_drew1 | refine below_set ?_ GE101.out | refine below_set ?_ GE102.out | refine below_set ?_ GE113.out | refine below_set ?_ GE119.out) | exact HB.out)) hb); have n5_ := Aside0.mk (hbox); have n6_ := Aside0.mk ((by rw [hg]; exact (below_size (by repeat (first | (with_reducible first | exact HB.out | apply below_alloc | apply pw_below_drewN | apply below_drew1 | refine below_set ?_ GE101.out | refine below_set ?_ GE102.out | refine below_set ?_ GE113.out | refine below_set ?_ GE119.out) | exact HB.out))) : w.heap.size ≤ gb174)); have n7_ := n6_; have n8_ := Aside0.mk ((by rw [hg]; exact Nat.ne_of_lt (blk_lt (g := gb101) (o := .cells #[.int .i64 a0_0, .int .i64 a0_1, .int .i64 a0_2, .string a0_3] 23 (0, 0)) (by (with_reducible repeat first | refine zn ?_ _ | refine zd ?_ | refine za ?_ _); exact BK101.out)) : gb101 ≠ gb174)); have n9_ := Aside0.mk ((by rw [hg]; exact Nat.ne_of_gt (blk_lt (g := gb101) (o := .cells #[.int .i64 a0_0, .int .i64 a0_1, .int .i64 a0_2, .string a0_3] 23 (0, 0)) (by (with_reducible repeat first | refine zn ?_ _ | refine zd ?_ | refine za ?_ _); exact BK101.out)) : gb174 ≠ gb101)); have n10_ := Aside0.mk ((by rw [hg]; exact Nat.ne_of_lt (blk_lt (g := gb102) (o := .cells #[.int .i64 a1_0, .int .i64 a1_1, .int .i64 a1_2, .string a1_3] 23 (0, 0)) (by (with_reducible repeat first | refine zn ?_ _ | refine zd ?_ | refine za ?_ _); exact BK102.out)) : gb102 ≠ gb174)); have n11_ := Aside0.mk ((by rw [hg]; exact Nat.ne_of_gt (blk_lt (g := gb102) (o := .cells #[.int .i64 a1_0, .int .i64 a1_1, .int .i64 a1_2, .string a1_3] 23 (0, 0)) (by (with_reducible repeat first | refine zn ?_ _ | refine zd ?_ | refine za ?_ _); exact BK102.out)) : gb174 ≠ gb102)); have n12_ := Aside0.mk ((by rw [hg]; exact Nat.ne_of_lt (blk_lt (g := gb113) (o := .cells #[.int .i64 t158, .int .i64 t159, .int .i64 t160, .string t161] 23 (0, 0)) (by (with_reducible repeat first | refine zn ?_ _ | refine zd ?_ | refine za ?_ _); exact BK113.out)) : gb113 ≠ gb174)); have n13_ := Aside0.mk ((by rw [hg]; exact Nat.ne_of_gt (blk_lt (g := gb113) (o := .cells #[.int .i64 t158, .int .i64 t159, .int .i64 t160, .string t161] 23 (0, 0)) (by (with_reducible repeat first | refine zn ?_ _ | refine zd ?_ | refine za ?_ _); exact BK113.out)) : gb174 ≠ gb113)); have n14_ := Aside0.mk ((by rw [hg]; exact Nat.ne_of_lt (blk_lt (g := gb119) (o := .cells #[.int .i64 t163, .int .i64 t164, .int .i64 t165, .string t166] 23 (0, 0)) (by (with_reducible repeat first | refine zn ?_ _ | refine zd ?_ | refine za ?_ _); exact BK119.out)) : gb119 ≠ gb174)); have n15_ := Aside0.mk ((by rw [hg]; exact Nat.ne_of_gt (blk_lt (g := gb119) (o := .cells #[.int .i64 t163, .int .i64 t164, .int .i64 t165, .string t166] 23 (0, 0)) (by (with_reducible repeat first | refine zn ?_ _ | refine zd ?_ | refine za ?_ _); exact BK119.out)) : gb174 ≠ gb119)); clear BK101; clear BK102; clear BK113; clear BK119; clear HB; have BK101 := n0_; have BK102 := n1_; have BK113 := n2_; have BK119 := n3_; have HB := n4_; have BK174 := n5_; have GW174 := n6_; have GE174 := n7_; have NB101_174 := n8_; have NB174_101 := n9_; have NB102_174 := n10_; have NB174_102 := n11_; have NB113_174 := n12_; have NB174_113 := n13_; have NB119_174 := n14_; have NB174_119 := n15_; clear n0_ n1_ n2_ n3_ n4_ n5_ n6_ n7_ n8_ n9_ n10_ n11_ n12_ n13_ n14_ n15_; clear hb hbox hg; have hnb248 := NB174_101.out; have hnc248 := NB101_174.out; have hnb249 := NB174_102.out; have hnc249 := NB102_174.out; have hnb250 := NB174_113.out; have hnc250 := NB113_174.out; have hnb251 := NB174_119.out; have hnc251 := NB119_174.out; obtain ⟨hcz252_0, hcz252_1, hcz252_2, hcz252_3⟩ := blk_quad BK174.out; obtain ⟨hfz252_0, hfz252_1, hfz252_2, hfz252_3⟩ := blk_quad_free BK174.out; have hnb253 := NB101_102.out; have hnc253 := NB102_101.out; have hnb254 := NB101_119.out; have hnc254 := NB119_101.out; obtain ⟨hcz255_0, hcz255_1, hcz255_2, hcz255_3⟩ := blk_quad BK101.out; obtain ⟨hfz255_0, hfz255_1, hfz255_2, hfz255_3⟩ := blk_quad_free BK101.out) | ((with_reducible refine gate_callee (f := 27) rfl ?_); refine goesL_ (some 190) rfl rfl Try.func27 (by kernel_rfl) rfl #[.agg #[.int .i64 a0_0, .int .i64 a0_1, .int .i64 a0_2, .string a0_3]] rfl (by (try simp only [List.map_toArray, List.map_cons, List.map_nil]); first | done | rfl | (simp only [List.length_drop, List.length_take]; rfl)) ?_; (with_reducible refine (bits_Not.calls a0_0 a0_1 a0_2 a0_3 t175 t176 t177 t178 t179 _ A236.out).mono ?_); rintro e w256 ⟨rfl, hb⟩; refine ⟨_, rfl, ?_⟩; have n0_ := Aside0.mk (blk_below (g := gb101) (o := .cells #[.int .i64 a0_0, .int .i64 a0_1, .int .i64 a0_2, .string a0_3] 23 (0, 0)) (by (with_reducible repeat first | refine zn ?_ _ | refine zd ?_ | refine za ?_ _); refine blk_far ?_ NB101_174.out _; (with_reducible repeat first | refine zn ?_ _ | refine zd ?_ | refine za ?_ _); refine blk_far ?_ NB101_174.out _; (with_reducible repeat first | refine zn ?_ _ | refine zd ?_ | refine za ?_ _); refine blk_far ?_ NB101_174.out _; (with_reducible repeat first | refine zn ?_ _ | refine zd ?_ | refine za ?_ _); refine blk_far ?_ NB101_174.out _; (with_reducible repeat first | refine zn ?_ _ | refine zd ?_ | refine za ?_ _); exact BK101.out) hb); have n1_ := Aside0.mk (blk_below (g := gb102) (o := .cells #[.int .i64 a1_0, .int .i64 a1_1, .int .i64 a1_2, .string a1_3] 23 (0, 0)) (by (with_reducible repeat first | refine zn ?_ _ | refine zd ?_ | refine za ?_ _); refine blk_far ?_ NB102_174.out _; (with_reducible repeat first | refine zn ?_ _ | refine zd ?_ | refine za ?_ _); refine blk_far ?_ NB102_174.out _; (with_reducible repeat first | refine zn ?_ _ | refine zd ?_ | refine za ?_ _); refine blk_far ?_ NB102_174.out _; (with_reducible repeat first | refine zn ?_ _ | refine zd ?_ | refine za ?_ _); refine blk_far ?_ NB102_174.out _; (with_reducible repeat first | refine zn ?_ _ | refine zd ?_ | refine za ?_ _); exact BK102.out) hb); have n2_ := Aside0.mk (blk_below (g := gb113) (o := .cells #[.int .i64 t158, .int .i64 t159, .int .i64 t160, .string t161] 23 (0, 0)) (by (with_reducible repeat first | refine zn ?_ _ | refine zd ?_ | refine za ?_ _); refine blk_far ?_ NB113_174.out _; (with_reducible repeat first | refine zn ?_ _ | refine zd ?_ | refine za ?_ _); refine blk_far ?_ NB113_174.out _; (with_reducible repeat first | refine zn ?_ _ | refine zd ?_ | refine za ?_ _); refine blk_far ?_ NB113_174.out _; (with_reducible repeat first | refine zn ?_ _ | refine zd ?_ | refine za ?_ _); refine blk_far ?_ NB113_174.out _; (with_reducible repeat first | refine zn ?_ _ | refine zd ?_ | refine za ?_ _); exact BK113.out) hb); have n3_ := Aside0.mk (blk_below (g := gb119) (o := .cells #[.int .i64 t163, .int .i64 t164, .int .i64 t165, .string t166] 23 (0, 0)) (by (with_reducible repeat first | refine zn ?_ _ | refine zd ?_ | refine za ?_ _); refine blk_far ?_ NB119_174.out _; (with_reducible repeat first | refine zn ?_ _ | refine zd ?_ | refine za ?_ _); refine blk_far ?_ NB119_174.out _; (with_reducible repeat first | refine zn ?_ _ | refine zd ?_ | refine za ?_ _); refine blk_far ?_ NB119_174.out _; (with_reducible repeat first | refine zn ?_ _ | refine zd ?_ | refine za ?_ _); refine blk_far ?_ NB119_174.out _; (with_reducible repeat first | refine zn ?_ _ | refine zd ?_ | refine za ?_ _); exact BK119.out) hb); have n4_ := Aside0.mk (blk_below (g := gb174) (o := .cells #[.int .i64 t169, .int .i64 t170, .int .i64 t171, .string t172] 23 (0, 0)) (by (with_reducible repeat first | refine zn ?_ _ | refine zd ?_ | refine za ?_ _); refine blk_put (cs := #[.int .i64 t169, .int .i64 t170, .int .i64 t171, .string (⟨#[]⟩ : ByteArray)]) ?_ 3 _ rfl; (with_reducible repeat first | refine zn ?_ _ | refine zd ?_ | refine za ?_ _); refine blk_put (cs := #[.int .i64 t169, .int .i64 t170, .int .i64 0, .string (⟨#[]⟩ : ByteArray)]) ?_ 2 _ rfl; (with_reducible repeat first | refine zn ?_ _ | refine zd ?_ | refine za ?_ _); refine blk_put (cs := #[.int .i64 t169, .int .i64 0, .int .i64 0, .string (⟨#[]⟩ : ByteArray)]) ?_ 1 _ rfl; (with_reducible repeat first | refine zn ?_ _ | refine zd ?_ | refine za ?_ _); refine blk_put (cs := #[.int .i64 0, .int .i64 0, .int .i64 0, .string (⟨#[]⟩ : ByteArray)]) ?_ 0 _ rfl; (with_reducible repeat first | refine zn ?_ _ | refine zd ?_ | refine za ?_ _); exact BK174.out) hb); have n5_ := Aside0.mk (below_step (by repeat (first | (with_reducible first | exact HB.out | apply below_alloc | apply pw_below_drewN | apply below_drew1 | refine below_set ?_ GE101.out | refine below_set ?_ GE102.out | refine below_set ?_ GE113.out | refine below_set ?_ GE119.out | refine below_set ?_ GE174.out) | exact HB.out)) hb); clear BK101; clear BK102; clear BK113; clear BK119; clear BK174; clear HB; have BK101 := n0_; have BK102 := n1_; have BK113 := n2_; have BK119 := n3_; have BK174 := n4_; have HB := n5_; clear n0_ n1_ n2_ n3_ n4_ n5_; (try clear hb); (try clear hb2); (try clear hk); (try clear hi)) | ((with_reducible refine gate_dst (N := 17) rfl ?_); (try (refine gate_guard (by rfl) ?_; dsimp only)); refine box_event ?hg (N := 17) ?hd (cs := #[.int .i64 0, .int .i64 0, .int .i64 0, .string (⟨#[]⟩ : ByteArray)]) (t := 23) ?hr ?_; (case hd => rfl); (case hg => rfl); (case hr => first | (go_simp; done) | (go_simp; rfl)); intro gb180 hg w257 hbox hb; have n0_ := Aside0.mk (blk_below (g := gb101) (o := .cells #[.int .i64 a0_0, .int .i64 a0_1, .int .i64 a0_2, .string a0_3] 23 (0, 0)) (by (with_reducible repeat first | refine zn ?_ _ | refine zd ?_ | refine za ?_ _); exact BK101.out) hb); have n1_ := Aside0.mk (blk_below (g := gb102) (o := .cells #[.int .i64 a1_0, .int .i64 a1_1, .int .i64 a1_2, .string a1_3] 23 (0, 0)) (by (with_reducible repeat first | refine zn ?_ _ | refine zd ?_ | refine za ?_ _); exact BK102.out) hb); have n2_ := Aside0.mk (blk_below (g := gb113) (o := .cells #[.int .i64 t158, .int .i64 t159, .int .i64 t160, .string t161] 23 (0, 0)) (by (with_reducible repeat first | refine zn ?_ _ | refine zd ?_ | refine za ?_ _); exact BK113.out) hb); have n3_ := Aside0.mk (blk_below (g := gb119) (o := .cells #[.int .i64 t163, .int .i64 t164, .int .i64 t165, .string t166] 23 (0, 0)) (by (with_reducible repeat first | refine zn ?_ _ | refine zd ?_ | refine za ?_ _); exact BK119.out) hb); have n4_ := Aside0.mk (blk_below (g := gb174) (o := .cells #[.int .i64 t169, .int .i64 t170, .int .i64 t171, .string t172] 23 (0, 0)) (by (with_reducible repeat first | refine zn ?_ _ | refine zd ?_ | refine za ?_ _); exact BK174.out) hb); have n5_ := Aside0.mk (below_step (by repeat (first | (with_reducible first | exact HB.out | apply below_alloc | apply pw_below_drewN | apply below_drew1 | refine below_set ?_ GE101.out | refine below_set ?_ GE102.out | refine below_set ?_ GE113.out | refine below_set ?_ GE119.out | refine below_set ?_ GE174.out) | exact HB.out)) hb); have n6_ := Aside0.mk (hbox); have n7_ := Aside0.mk ((by rw [hg]; exact (below_size (by repeat (first | (with_reducible first | exact HB.out | apply below_alloc | apply pw_below_drewN | apply below_drew1 | refine below_set ?_ GE101.out | refine below_set ?_ GE102.out | refine below_set ?_ GE113.out | refine below_set ?_ GE119.out | refine below_set ?_ GE174.out) | exact HB.out))) : w.heap.size ≤ gb180)); have n8_ := n7_; have n9_ := Aside0.mk ((by rw [hg]; exact Nat.ne_of_lt (blk_lt (g := gb101) (o := .cells #[.int .i64 a0_0, .int .i64 a0_1, .int .i64 a0_2, .string a0_3] 23 (0, 0)) (by (with_reducible repeat first | refine zn ?_ _ | refine zd ?_ | refine za ?_ _); exact BK101.out)) : gb101 ≠ gb180)); have n10_ := Aside0.mk ((by rw [hg]; exact Nat.ne_of_gt (blk_lt (g := gb101) (o := .cells #[.int .i64 a0_0, .int .i64 a0_1, .int .i64 a0_2, .string a0_3] 23 (0, 0)) (by (with_reducible repeat first | refine zn ?_ _ | refine zd ?_ | refine za ?_ _); exact BK101.out)) : gb180 ≠ gb101)); have n11_ := Aside0.mk ((by rw [hg]; exact Nat.ne_of_lt (blk_lt (g := gb102) (o := .cells #[.int .i64 a1_0, .int .i64 a1_1, .int .i64 a1_2, .string a1_3] 23 (0, 0)) (by (with_reducible repeat first | refine zn ?_ _ | refine zd ?_ | refine za ?_ _); exact BK102.out)) : gb102 ≠ gb180)); have n12_ := Aside0.mk ((by rw [hg]; exact Nat.ne_of_gt (blk_lt (g := gb102) (o := .cells #[.int .i64 a1_0, .int .i64 a1_1, .int .i64 a1_2, .string a1_3] 23 (0, 0)) (by (with_reducible repeat first | refine zn ?_ _ | refine zd ?_ | refine za ?_ _); exact BK102.out)) : gb180 ≠ gb102)); have n13_ := Aside0.mk ((by rw [hg]; exact Nat.ne_of_lt (blk_lt (g := gb113) (o := .cells #[.int .i64 t158, .int .i64 t159, .int .i64 t160, .string t161] 23 (0, 0)) (by (with_reducible repeat first | refine zn ?_ _ | refine zd ?_ | refine za ?_ _); exact BK113.out)) : gb113 ≠ gb180)); have n14_ := Aside0.mk ((by rw [hg]; exact Nat.ne_of_gt (blk_lt (g := gb113) (o := .cells #[.int .i64 t158, .int .i64 t159, .int .i64 t160, .string t161] 23 (0, 0)) (by (with_reducible repeat first | refine zn ?_ _ | refine zd ?_ | refine za ?_ _); exact BK113.out)) : gb180 ≠ gb113)); have n15_ := Aside0.mk ((by rw [hg]; exact Nat.ne_of_lt (blk_lt (g := gb119) (o := .cells #[.int .i64 t163, .int .i64 t164, .int .i64 t165, .string t166] 23 (0, 0)) (by (with_reducible repeat first | refine zn ?_ _ | refine zd ?_ | refine za ?_ _); exact BK119.out)) : gb119 ≠ gb180)); have n16_ := Aside0.mk ((by rw [hg]; exact Nat.ne_of_gt (blk_lt (g := gb119) (o := .cells #[.int .i64 t163, .int .i64 t164, .int .i64 t165, .string t166] 23 (0, 0)) (by (with_reducible repeat first | refine zn ?_ _ | refine zd ?_ | refine za ?_ _); exact BK119.out)) : gb180 ≠ gb119)); have n17_ := Aside0.mk ((by rw [hg]; exact Nat.ne_of_lt (blk_lt (g := gb174) (o := .cells #[.int .i64 t169, .int .i64 t170, .int .i64 t171, .string t172] 23 (0, 0)) (by (with_reducible repeat first | refine zn ?_ _ | refine zd ?_ | refine za ?_ _); exact BK174.out)) : gb174 ≠ gb180)); have n18_ := Aside0.mk ((by rw [hg]; exact Nat.ne_of_gt (blk_lt (g := gb174) (o := .cells #[.int .i64 t169, .int .i64 t170, .int .i64 t171, .string t172] 23 (0, 0)) (by (with_reducible repeat first | refine zn ?_ _ | refine zd ?_ | refine za ?_ _); exact BK174.out)) : gb180 ≠ gb174)); clear BK101; clear BK102; clear BK113; clear BK119; clear BK174; clear HB; have BK101 := n0_; have BK102 := n1_; have BK113 := n2_; have BK119 := n3_; have BK174 := n4_; have HB := n5_; have BK180 := n6_; have GW180 := n7_; have GE180 := n8_; have NB101_180 := n9_; have NB180_101 := n10_; have NB102_180 := n11_; have NB180_102 := n12_; have NB113_180 := n13_; have NB180_113 := n14_; have NB119_180 := n15_; have NB180_119 := n16_; have NB174_180 := n17_; have NB180_174 := n18_; clear n0_ n1_ n2_ n3_ n4_ n5_ n6_ n7_ n8_ n9_ n10_ n11_ n12_ n13_ n14_ n15_ n16_ n17_ n18_; clear hb hbox hg; have hnb258 := NB180_101.out; have hnc258 := NB101_180.out; have hnb259 := NB180_102.out; have hnc259 := NB102_180.out; have hnb260 := NB180_113.out; have hnc260 := NB113_180.out; have hnb261 := NB180_119.out; have hnc261 := NB119_180.out; have hnb262 := NB180_174.out; have hnc262 := NB174_180.out; obtain ⟨hcz263_0, hcz263_1, hcz263_2, hcz263_3⟩ := blk_quad BK180.out; obtain ⟨hfz263_0, hfz263_1, hfz263_2, hfz263_3⟩ := blk_quad_free BK180.out; have hnb264 := NB102_119.out; have hnc264 := NB119_102.out; obtain ⟨hcz265_0, hcz265_1, hcz265_2, hcz265_3⟩ := blk_quad BK102.out; obtain ⟨hfz265_0, hfz265_1, hfz265_2, hfz265_3⟩ := blk_quad_free BK102.out) | ((with_reducible refine gate_callee (f := 27) rfl ?_); refine goesL_ (some 195) rfl rfl Try.func27 (by kernel_rfl) rfl #[.agg #[.int .i64 a1_0, .int .i64 a1_1, .int .i64 a1_2, .string a1_3]] rfl (by (try simp only [List.map_toArray, List.map_cons, List.map_nil]); first | done | rfl | (simp only [List.length_drop, List.length_take]; rfl)) ?_; (with_reducible refine (bits_Not.calls a1_0 a1_1 a1_2 a1_3 t181 t182 t183 t184 t185 _ A237.out).mono ?_); rintro e w266 ⟨rfl, hb⟩; refine ⟨_, rfl, ?_⟩; have n0_ := Aside0.mk (blk_below (g := gb101) (o := .cells #[.int .i64 a0_0, .int .i64 a0_1, .int .i64 a0_2, .string a0_3] 23 (0, 0)) (by (with_reducible repeat first | refine zn ?_ _ | refine zd ?_ | refine za ?_ _); refine blk_far ?_ NB101_180.out _; (with_reducible repeat first | refine zn ?_ _ | refine zd ?_ | refine za ?_ _); refine blk_far ?_ NB101_180.out _; (with_reducible repeat first | refine zn ?_ _ | refine zd ?_ | refine za ?_ _); refine blk_far ?_ NB101_180.out _; (with_reducible repeat first | refine zn ?_ _ | refine zd ?_ | refine za ?_ _); refine blk_far ?_ NB101_180.out _; (with_reducible repeat first | refine zn ?_ _ | refine zd ?_ | refine za ?_ _); exact BK101.out) hb); have n1_ := Aside0.mk (blk_below (g := gb102) (o := .cells #[.int .i64 a1_0, .int .i64 a1_1, .int .i64 a1_2, .string a1_3] 23 (0, 0)) (by (with_reducible repeat first | refine zn ?_ _ | refine zd ?_ | refine za ?_ _); refine blk_far ?_ NB102_180.out _; (with_reducible repeat first | refine zn ?_ _ | refine zd ?_ | refine za ?_ _); refine blk_far ?_ NB102_180.out _; (with_reducible repeat first | refine zn ?_ _ | refine zd ?_ | refine za ?_ _); refine blk_far ?_ NB102_180.out _; (with_reducible repeat first | refine zn ?_ _ | refine zd ?_ | refine za ?_ _); refine blk_far ?_ NB102_180.out _; (with_reducible repeat first | refine zn ?_ _ | refine zd ?_ | refine za ?_ _); exact BK102.out) hb); have n2_ := Aside0.mk (blk_below (g := gb113) (o := .cells #[.int .i64 t158, .int .i64 t159, .int .i64 t160, .string t161] 23 (0, 0)) (by (with_reducible repeat first | refine zn ?_ _ | refine zd ?_ | refine za ?_ _); refine blk_far ?_ NB113_180.out _; (with_reducible repeat first | refine zn ?_ _ | refine zd ?_ | refine za ?_ _); refine blk_far ?_ NB113_180.out _; (with_reducible repeat first | refine zn ?_ _ | refine zd ?_ | refine za ?_ _); refine blk_far ?_ NB113_180.out _; (with_reducible repeat first | refine zn ?_ _ | refine zd ?_ | refine za ?_ _); refine blk_far ?_ NB113_180.out _; (with_reducible repeat first | refine zn ?_ _ | refine zd ?_ | refine za ?_ _); exact BK113.out) hb); have n3_ := Aside0.mk (blk_below (g := gb119) (o := .cells #[.int .i64 t163, .int .i64 t164, .int .i64 t165, .string t166] 23 (0, 0)) (by (with_reducible repeat first | refine zn ?_ _ | refine zd ?_ | refine za ?_ _); refine blk_far ?_ NB119_180.out _; (with_reducible repeat first | refine zn ?_ _ | refine zd ?_ | refine za ?_ _); refine blk_far ?_ NB119_180.out _; (with_reducible repeat first | refine zn ?_ _ | refine zd ?_ | refine za ?_ _); refine blk_far ?_ NB119_180.out _; (with_reducible repeat first | refine zn ?_ _ | refine zd ?_ | refine za ?_ _); refine blk_far ?_ NB119_180.out _; (with_reducible repeat first | refine zn ?_ _ | refine zd ?_ | refine za ?_ _); exact BK119.out) hb); have n4_ := Aside0.mk (blk_below (g := gb174) (o := .cells #[.int .i64 t169, .int .i64 t170, .int .i64 t171, .string t172] 23 (0, 0)) (by (with_reducible repeat first | refine zn ?_ _ | refine zd ?_ | refine za ?_ _); refine blk_far ?_ NB174_180.out _; (with_reducible repeat first | refine zn ?_ _ | refine zd ?_ | refine za ?_ _); refine blk_far ?_ NB174_180.out _; (with_reducible repeat first | refine zn ?_ _ | refine zd ?_ | refine za ?_ _); refine blk_far ?_ NB174_180.out _; (with_reducible repeat first | refine zn ?_ _ | refine zd ?_ | refine za ?_ _); refine blk_far ?_ NB174_180.out _; (with_reducible repeat first | refine zn ?_ _ | refine zd ?_ | refine za ?_ _); exact BK174.out) hb); have n5_ := Aside0.mk (blk_below (g := gb180) (o := .cells #[.int .i64 t175, .int .i64 t176, .int .i64 t177, .string t178] 23 (0, 0)) (by (with_reducible repeat first | refine zn ?_ _ | refine zd ?_ | refine za ?_ _); refine blk_put (cs := #[.int .i64 t175, .int .i64 t176, .int .i64 t177, .string (⟨#[]⟩ : ByteArray)]) ?_ 3 _ rfl; (with_reducible repeat first | refine zn ?_ _ | refine zd ?_ | refine za ?_ _); refine blk_put (cs := #[.int .i64 t175, .int .i64 t176, .int .i64 0, .string (⟨#[]⟩ : ByteArray)]) ?_ 2 _ rfl; (with_reducible repeat first | refine zn ?_ _ | refine zd ?_ | refine za ?_ _); refine blk_put (cs := #[.int .i64 t175, .int .i64 0, .int .i64 0, .string (⟨#[]⟩ : ByteArray)]) ?_ 1 _ rfl; (with_reducible repeat first | refine zn ?_ _ | refine zd ?_ | refine za ?_ _); refine blk_put (cs := #[.int .i64 0, .int .i64 0, .int .i64 0, .string (⟨#[]⟩ : ByteArray)]) ?_ 0 _ rfl; (with_reducible repeat first | refine zn ?_ _ | refine zd ?_ | refine za ?_ _); exact BK180.out) hb); have n6_ := Aside0.mk (below_step (by repeat (first | (with_reducible first | exact HB.out | apply below_alloc | apply pw_below_drewN | apply below_drew1 | refine below_set ?_ GE101.out | refine below_set ?_ GE102.out | refine below_set ?_ GE113.out | refine below_set ?_ GE119.out | refine below_set ?_ GE174.out | refine below_set ?_ GE180.out) | exact HB.out)) hb); clear BK101; clear BK102; clear BK113; clear BK119; clear BK174; clear BK180; clear HB; have BK101 := n0_; have BK102 := n1_; have BK113 := n2_; have BK119 := n3_; have BK174 := n4_; have BK180 := n5_; have HB := n6_; clear n0_ n1_ n2_ n3_ n4_ n5_ n6_; (try clear hb); (try clear hb2); (try clear hk); (try clear hi)) | ((with_reducible refine gate_dst (N := 19) rfl ?_); (try (refine gate_guard (by rfl) ?_; dsimp only)); refine box_event ?hg (N := 19) ?hd (cs := #[.int .i64 0, .int .i64 0, .int .i64 0, .string (⟨#[]⟩ : ByteArray)]) (t := 23) ?hr ?_; (case hd => rfl); (case hg => rfl); (case hr => first | (go_simp; done) | (go_simp; rfl)); intro gb186 hg w267 hbox hb; have n0_ := Aside0.mk (blk_below (g := gb101) (o := .cells #[.int .i64 a0_0, .int .i64 a0_1, .int .i64 a0_2, .string a0_3] 23 (0, 0)) (by (with_reducible repeat first | refine zn ?_ _ | refine zd ?_ | refine za ?_ _); exact BK101.out) hb); have n1_ := Aside0.mk (blk_below (g := gb102) (o := .cells #[.int .i64 a1_0, .int .i64 a1_1, .int .i64 a1_2, .string a1_3] 23 (0, 0)) (by (with_reducible repeat first | refine zn ?_ _ | refine zd ?_ | refine za ?_ _); exact BK102.out) hb); have n2_ := Aside0.mk (blk_below (g := gb113) (o := .cells #[.int .i64 t158, .int .i64 t159, .int .i64 t160, .string t161] 23 (0, 0)) (by (with_reducible repeat first | refine zn ?_ _ | refine zd ?_ | refine za ?_ _); exact BK113.out) hb); have n3_ := Aside0.mk (blk_below (g := gb119) (o := .cells #[.int .i64 t163, .int .i64 t164, .int .i64 t165, .string t166] 23 (0, 0)) (by (with_reducible repeat first | refine zn ?_ _ | refine zd ?_ | refine za ?_ _); exact BK119.out) hb); have n4_ := Aside0.mk (blk_below (g := gb174) (o := .cells #[.int .i64 t169, .int .i64 t170, .int .i64 t171, .string t172] 23 (0, 0)) (by (with_reducible repeat first | refine zn ?_ _ | refine zd ?_ | refine za ?_ _); exact BK174.out) hb); have n5_ := Aside0.mk (blk_below (g := gb180) (o := .cells #[.int .i64 t175, .int .i64 t176, .int .i64 t177, .string t178] 23 (0, 0)) (by (with_reducible repeat first | refine zn ?_ _ | refine zd ?_ | refine za ?_ _); exact BK180.out) hb); have n6_ := Aside0.mk (below_step (by repeat (first | (with_reducible first | exact HB.out | apply below_alloc | apply pw_below_drewN | apply below_drew1 | refine below_set ?_ GE101.out | refine below_set ?_ GE102.out | refine below_set ?_ GE113.out | refine below_set ?_ GE119.out | refine below_set ?_ GE174.out | refine below_set ?_ GE180.out) | exact HB.out)) hb); have n7_ := Aside0.mk (hbox); have n8_ := Aside0.mk ((by rw [hg]; exact (below_size (by repeat (first | (with_reducible first | exact HB.out | apply below_alloc | apply pw_below_drewN | apply below_drew1 | refine below_set ?_ GE101.out | refine below_set ?_ GE102.out | refine below_set ?_ GE113.out | refine below_set ?_ GE119.out | refine below_set ?_ GE174.out | refine below_set ?_ GE180.out) | exact HB.out))) : w.heap.size ≤ gb186)); have n9_ := n8_; have n10_ := Aside0.mk ((by rw [hg]; exact Nat.ne_of_lt (blk_lt (g := gb101) (o := .cells #[.int .i64 a0_0, .int .i64 a0_1, .int .i64 a0_2, .string a0_3] 23 (0, 0)) (by (with_reducible repeat first | refine zn ?_ _ | refine zd ?_ | refine za ?_ _); exact BK101.out)) : gb101 ≠ gb186)); have n11_ := Aside0.mk ((by rw [hg]; exact Nat.ne_of_gt (blk_lt (g := gb101) (o := .cells #[.int .i64 a0_0, .int .i64 a0_1, .int .i64 a0_2, .string a0_3] 23 (0, 0)) (by (with_reducible repeat first | refine zn ?_ _ | refine zd ?_ | refine za ?_ _); exact BK101.out)) : gb186 ≠ gb101)); have n12_ := Aside0.mk ((by rw [hg]; exact Nat.ne_of_lt (blk_lt (g := gb102) (o := .cells #[.int .i64 a1_0, .int .i64 a1_1, .int .i64 a1_2, .string a1_3] 23 (0, 0)) (by (with_reducible repeat first | refine zn ?_ _ | refine zd ?_ | refine za ?_ _); exact BK102.out)) : gb102 ≠ gb186)); have n13_ := Aside0.mk ((by rw [hg]; exact Nat.ne_of_gt (blk_lt (g := gb102) (o := .cells #[.int .i64 a1_0, .int .i64 a1_1, .int .i64 a1_2, .string a1_3] 23 (0, 0)) (by (with_reducible repeat first | refine zn ?_ _ | refine zd ?_ | refine za ?_ _); exact BK102.out)) : gb186 ≠ gb102)); have n14_ := Aside0.mk ((by rw [hg]; exact Nat.ne_of_lt (blk_lt (g := gb113) (o := .cells #[.int .i64 t158, .int .i64 t159, .int .i64 t160, .string t161] 23 (0, 0)) (by (with_reducible repeat first | refine zn ?_ _ | refine zd ?_ | refine za ?_ _); exact BK113.out)) : gb113 ≠ gb186)); have n15_ := Aside0.mk ((by rw [hg]; exact Nat.ne_of_gt (blk_lt (g := gb113) (o := .cells #[.int .i64 t158, .int .i64 t159, .int .i64 t160, .string t161] 23 (0, 0)) (by (with_reducible repeat first | refine zn ?_ _ | refine zd ?_ | refine za ?_ _); exact BK113.out)) : gb186 ≠ gb113)); have n16_ := Aside0.mk ((by rw [hg]; exact Nat.ne_of_lt (blk_lt (g := gb119) (o := .cells #[.int .i64 t163, .int .i64 t164, .int .i64 t165, .string t166] 23 (0, 0)) (by (with_reducible repeat first | refine zn ?_ _ | refine zd ?_ | refine za ?_ _); exact BK119.out)) : gb119 ≠ gb186)); have n17_ := Aside0.mk ((by rw [hg]; exact Nat.ne_of_gt (blk_lt (g := gb119) (o := .cells #[.int .i64 t163, .int .i64 t164, .int .i64 t165, .string t166] 23 (0, 0)) (by (with_reducible repeat first | refine zn ?_ _ | refine zd ?_ | refine za ?_ _); exact BK119.out)) : gb186 ≠ gb119)); have n18_ := Aside0.mk ((by rw [hg]; exact Nat.ne_of_lt (blk_lt (g := gb174) (o := .cells #[.int .i64 t169, .int .i64 t170, .int .i64 t171, .string t172] 23 (0, 0)) (by (with_reducible repeat first | refine zn ?_ _ | refine zd ?_ | refine za ?_ _); exact BK174.out)) : gb174 ≠ gb186)); have n19_ := Aside0.mk ((by rw [hg]; exact Nat.ne_of_gt (blk_lt (g := gb174) (o := .cells #[.int .i64 t169, .int .i64 t170, .int .i64 t171, .string t172] 23 (0, 0)) (by (with_reducible repeat first | refine zn ?_ _ | refine zd ?_ | refine za ?_ _); exact BK174.out)) : gb186 ≠ gb174)); have n20_ := Aside0.mk ((by rw [hg]; exact Nat.ne_of_lt (blk_lt (g := gb180) (o := .cells #[.int .i64 t175, .int .i64 t176, .int .i64 t177, .string t178] 23 (0, 0)) (by (with_reducible repeat first | refine zn ?_ _ | refine zd ?_ | refine za ?_ _); exact BK180.out)) : gb180 ≠ gb186)); have n21_ := Aside0.mk ((by rw [hg]; exact Nat.ne_of_gt (blk_lt (g := gb180) (o := .cells #[.int .i64 t175, .int .i64 t176, .int .i64 t177, .string t178] 23 (0, 0)) (by (with_reducible repeat first | refine zn ?_ _ | refine zd ?_ | refine za ?_ _); exact BK180.out)) : gb186 ≠ gb180)); clear BK101; clear BK102; clear BK113; clear BK119; clear BK174; clear BK180; clear HB; have BK101 := n0_; have BK102 := n1_; have BK113 := n2_; have BK119 := n3_; have BK174 := n4_; have BK180 := n5_; have HB := n6_; have BK186 := n7_; have GW186 := n8_; have GE186 := n9_; have NB101_186 := n10_; have NB186_101 := n11_; have NB102_186 := n12_; have NB186_102 := n13_; have NB113_186 := n14_; have NB186_113 := n15_; have NB119_186 := n16_; have NB186_119 := n17_; have NB174_186 := n18_; have NB186_174 := n19_; have NB180_186 := n20_; have NB186_180 := n21_; clear n0_ n1_ n2_ n3_ n4_ n5_ n6_ n7_ n8_ n9_ n10_ n11_ n12_ n13_ n14_ n15_ n16_ n17_ n18_ n19_ n20_ n21_; clear hb hbox hg; have hnb268 := NB186_101.out; have hnc268 := NB101_186.out; have hnb269 := NB186_102.out; have hnc269 := NB102_186.out; have hnb270 := NB186_113.out; have hnc270 := NB113_186.out; have hnb271 := NB186_119.out; have hnc271 := NB119_186.out; have hnb272 := NB186_174.out; have hnc272 := NB174_186.out; have hnb273 := NB186_180.out; have hnc273 := NB180_186.out; obtain ⟨hcz274_0, hcz274_1, hcz274_2, hcz274_3⟩ := blk_quad BK186.out; obtain ⟨hfz274_0, hfz274_1, hfz274_2, hfz274_3⟩ := blk_quad_free BK186.out; obtain ⟨hcz275_0, hcz275_1, hcz275_2, hcz275_3⟩ := blk_quad BK180.out; obtain ⟨hfz275_0, hfz275_1, hfz275_2, hfz275_3⟩ := blk_quad_free BK180.out) | ((with_reducible refine gate_callee (f := 23) rfl ?_); refine goesL_ (some 201) rfl rfl Try.func23 (by kernel_rfl) rfl #[.agg #[.int .i64 t175, .int .i64 t176, .int .i64 t177, .string t178], .agg #[.int .i64 t181, .int .i64 t182, .int .i64 t183, .string t184]] rfl (by (try simp only [List.map_toArray, List.map_cons, List.map_nil]); first | done | rfl | (simp only [List.length_drop, List.length_take]; rfl)) ?_; (with_reducible refine (bits_Or.calls kj222 t175 t176 t177 t178 t181 t182 t183 t184 t187 t188 t189 t190 t191 _ A238.out).mono ?_); rintro e w276 ⟨rfl, hb⟩; refine ⟨_, rfl, ?_⟩; have n0_ := Aside0.mk (blk_below (g := gb101) (o := .cells #[.int .i64 a0_0, .int .i64 a0_1, .int .i64 a0_2, .string a0_3] 23 (0, 0)) (by (with_reducible repeat first | refine zn ?_ _ | refine zd ?_ | refine za ?_ _); refine blk_far ?_ NB101_186.out _; (with_reducible repeat first | refine zn ?_ _ | refine zd ?_ | refine za ?_ _); refine blk_far ?_ NB101_186.out _; (with_reducible repeat first | refine zn ?_ _ | refine zd ?_ | refine za ?_ _); refine blk_far ?_ NB101_186.out _; (with_reducible repeat first | refine zn ?_ _ | refine zd ?_ | refine za ?_ _); refine blk_far ?_ NB101_186.out _; (with_reducible repeat first | refine zn ?_ _ | refine zd ?_ | refine za ?_ _); exact BK101.out) hb); have n1_ := Aside0.mk (blk_below (g := gb102) (o := .cells #[.int .i64 a1_0, .int .i64 a1_1, .int .i64 a1_2, .string a1_3] 23 (0, 0)) (by (with_reducible repeat first | refine zn ?_ _ | refine zd ?_ | refine za ?_ _); refine blk_far ?_ NB102_186.out _; (with_reducible repeat first | refine zn ?_ _ | refine zd ?_ | refine za ?_ _); refine blk_far ?_ NB102_186.out _; (with_reducible repeat first | refine zn ?_ _ | refine zd ?_ | refine za ?_ _); refine blk_far ?_ NB102_186.out _; (with_reducible repeat first | refine zn ?_ _ | refine zd ?_ | refine za ?_ _); refine blk_far ?_ NB102_186.out _; (with_reducible repeat first | refine zn ?_ _ | refine zd ?_ | refine za ?_ _); exact BK102.out) hb); have n2_ := Aside0.mk (blk_below (g := gb113) (o := .cells #[.int .i64 t158, .int .i64 t159, .int .i64 t160, .string t161] 23 (0, 0)) (by (with_reducible repeat first | refine zn ?_ _ | refine zd ?_ | refine za ?_ _); refine blk_far ?_ NB113_186.out _; (with_reducible repeat first | refine zn ?_ _ | refine zd ?_ | refine za ?_ _); refine blk_far ?_ NB113_186.out _; (with_reducible repeat first | refine zn ?_ _ | refine zd ?_ | refine za ?_ _); refine blk_far ?_ NB113_186.out _; (with_reducible repeat first | refine zn ?_ _ | refine zd ?_ | refine za ?_ _); refine blk_far ?_ NB113_186.out _; (with_reducible repeat first | refine zn ?_ _ | refine zd ?_ | refine za ?_ _); exact BK113.out) hb); have n3_ := Aside0.mk (blk_below (g := gb119) (o := .cells #[.int .i64 t163, .int .i64 t164, .int .i64 t165, .string t166] 23 (0, 0)) (by (with_reducible repeat first | refine zn ?_ _ | refine zd ?_ | refine za ?_ _); refine blk_far ?_ NB119_186.out _; (with_reducible repeat first | refine zn ?_ _ | refine zd ?_ | refine za ?_ _); refine blk_far ?_ NB119_186.out _; (with_reducible repeat first | refine zn ?_ _ | refine zd ?_ | refine za ?_ _); refine blk_far ?_ NB119_186.out _; (with_reducible repeat first | refine zn ?_ _ | refine zd ?_ | refine za ?_ _); refine blk_far ?_ NB119_186.out _; (with_reducible repeat first | refine zn ?_ _ | refine zd ?_ | refine za ?_ _); exact BK119.out) hb); have n4_ := Aside0.mk (blk_below (g := gb174) (o := .cells #[.int .i64 t169, .int .i64 t170, .int .i64 t171, .string t172] 23 (0, 0)) (by (with_reducible repeat first | refine zn ?_ _ | refine zd ?_ | refine za ?_ _); refine blk_far ?_ NB174_186.out _; (with_reducible repeat first | refine zn ?_ _ | refine zd ?_ | refine za ?_ _); refine blk_far ?_ NB174_186.out _; (with_reducible repeat first | refine zn ?_ _ | refine zd ?_ | refine za ?_ _); refine blk_far ?_ NB174_186.out _; (with_reducible repeat first | refine zn ?_ _ | refine zd ?_ | refine za ?_ _); refine blk_far ?_ NB174_186.out _; (with_reducible repeat first | refine zn ?_ _ | refine zd ?_ | refine za ?_ _); exact BK174.out) hb); have n5_ := Aside0.mk (blk_below (g := gb180) (o := .cells #[.int .i64 t175, .int .i64 t176, .int .i64 t177, .string t178] 23 (0, 0)) (by (with_reducible repeat first | refine zn ?_ _ | refine zd ?_ | refine za ?_ _); refine blk_far ?_ NB180_186.out _; (with_reducible repeat first | refine zn ?_ _ | refine zd ?_ | refine za ?_ _); refine blk_far ?_ NB180_186.out _; (with_reducible repeat first | refine zn ?_ _ | refine zd ?_ | refine za ?_ _); refine blk_far ?_ NB180_186.out _; (with_reducible repeat first | refine zn ?_ _ | refine zd ?_ | refine za ?_ _); refine blk_far ?_ NB180_186.out _; (with_reducible repeat first | refine zn ?_ _ | refine zd ?_ | refine za ?_ _); exact BK180.out) hb); have n6_ := Aside0.mk (blk_below (g := gb186) (o := .cells #[.int .i64 t181, .int .i64 t182, .int .i64 t183, .string t184] 23 (0, 0)) (by (with_reducible repeat first | refine zn ?_ _ | refine zd ?_ | refine za ?_ _); refine blk_put (cs := #[.int .i64 t181, .int .i64 t182, .int .i64 t183, .string (⟨#[]⟩ : ByteArray)]) ?_ 3 _ rfl; (with_reducible repeat first | refine zn ?_ _ | refine zd ?_ | refine za ?_ _); refine blk_put (cs := #[.int .i64 t181, .int .i64 t182, .int .i64 0, .string (⟨#[]⟩ : ByteArray)]) ?_ 2 _ rfl; (with_reducible repeat first | refine zn ?_ _ | refine zd ?_ | refine za ?_ _); refine blk_put (cs := #[.int .i64 t181, .int .i64 0, .int .i64 0, .string (⟨#[]⟩ : ByteArray)]) ?_ 1 _ rfl; (with_reducible repeat first | refine zn ?_ _ | refine zd ?_ | refine za ?_ _); refine blk_put (cs := #[.int .i64 0, .int .i64 0, .int .i64 0, .string (⟨#[]⟩ : ByteArray)]) ?_ 0 _ rfl; (with_reducible repeat first | refine zn ?_ _ | refine zd ?_ | refine za ?_ _); exact BK186.out) hb); have n7_ := Aside0.mk (below_step (by repeat (first | (with_reducible first | exact HB.out | apply below_alloc | apply pw_below_drewN | apply below_drew1 | refine below_set ?_ GE101.out | refine below_set ?_ GE102.out | refine below_set ?_ GE113.out | refine below_set ?_ GE119.out | refine below_set ?_ GE174.out | refine below_set ?_ GE180.out | refine below_set ?_ GE186.out) | exact HB.out)) hb); clear BK101; clear BK102; clear BK113; clear BK119; clear BK174; clear BK180; clear BK186; clear HB; have BK101 := n0_; have BK102 := n1_; have BK113 := n2_; have BK119 := n3_; have BK174 := n4_; have BK180 := n5_; have BK186 := n6_; have HB := n7_; clear n0_ n1_ n2_ n3_ n4_ n5_ n6_ n7_; (try clear hb); (try clear hb2); (try clear hk); (try clear hi)) | ((with_reducible refine gate_dst (N := 21) rfl ?_); (try (refine gate_guard (by rfl) ?_; dsimp only)); refine box_event ?hg (N := 21) ?hd (cs := #[.int .i64 0, .int .i64 0, .int .i64 0, .string (⟨#[]⟩ : ByteArray)]) (t := 23) ?hr ?_; (case hd => rfl); (case hg => rfl); (case hr => first | (go_simp; done) | (go_simp; rfl)); intro gb192 hg w277 hbox hb; have n0_ := Aside0.mk (blk_below (g := gb101) (o := .cells #[.int .i64 a0_0, .int .i64 a0_1, .int .i64 a0_2, .string a0_3] 23 (0, 0)) (by (with_reducible repeat first | refine zn ?_ _ | refine zd ?_ | refine za ?_ _); exact BK101.out) hb); have n1_ := Aside0.mk (blk_below (g := gb102) (o := .cells #[.int .i64 a1_0, .int .i64 a1_1, .int .i64 a1_2, .string a1_3] 23 (0, 0)) (by (with_reducible repeat first | refine zn ?_ _ | refine zd ?_ | refine za ?_ _); exact BK102.out) hb); have n2_ := Aside0.mk (blk_below (g := gb113) (o := .cells #[.int .i64 t158, .int .i64 t159, .int .i64 t160, .string t161] 23 (0, 0)) (by (with_reducible repeat first | refine zn ?_ _ | refine zd ?_ | refine za ?_ _); exact BK113.out) hb); have n3_ := Aside0.mk (blk_below (g := gb119) (o := .cells #[.int .i64 t163, .int .i64 t164, .int .i64 t165, .string t166] 23 (0, 0)) (by (with_reducible repeat first | refine zn ?_ _ | refine zd ?_ | refine za ?_ _); exact BK119.out) hb); have n4_ := Aside0.mk (blk_below (g := gb174) (o := .cells #[.int .i64 t169, .int .i64 t170, .int .i64 t171, .string t172] 23 (0, 0)) (by (with_reducible repeat first | refine zn ?_ _ | refine zd ?_ | refine za ?_ _); exact BK174.out) hb); have n5_ := Aside0.mk (blk_below (g := gb180) (o := .cells #[.int .i64 t175, .int .i64 t176, .int .i64 t177, .string t178] 23 (0, 0)) (by (with_reducible repeat first | refine zn ?_ _ | refine zd ?_ | refine za ?_ _); exact BK180.out) hb); have n6_ := Aside0.mk (blk_below (g := gb186) (o := .cells #[.int .i64 t181, .int .i64 t182, .int .i64 t183, .string t184] 23 (0, 0)) (by (with_reducible repeat first | refine zn ?_ _ | refine zd ?_ | refine za ?_ _); exact BK186.out) hb); have n7_ := Aside0.mk (below_step (by repeat (first | (with_reducible first | exact HB.out | apply below_alloc | apply pw_below_drewN | apply below_drew1 | refine below_set ?_ GE101.out | refine below_set ?_ GE102.out | refine below_set ?_ GE113.out | refine below_set ?_ GE119.out | refine below_set ?_ GE174.out | refine below_set ?_ GE180.out | refine below_set ?_ GE186.out) | exact HB.out)) hb); have n8_ := Aside0.mk (hbox); have n9_ := Aside0.mk ((by rw [hg]; exact (below_size (by repeat (first | (with_reducible first | exact HB.out | apply below_alloc | apply pw_below_drewN | apply below_drew1 | refine below_set ?_ GE101.out | refine below_set ?_ GE102.out | refine below_set ?_ GE113.out | refine below_set ?_ GE119.out | refine below_set ?_ GE174.out | refine below_set ?_ GE180.out | refine below_set ?_ GE186.out) | exact HB.out))) : w.heap.size ≤ gb192)); have n10_ := n9_; have n11_ := Aside0.mk ((by rw [hg]; exact Nat.ne_of_lt (blk_lt (g := gb101) (o := .cells #[.int .i64 a0_0, .int .i64 a0_1, .int .i64 a0_2, .string a0_3] 23 (0, 0)) (by (with_reducible repeat first | refine zn ?_ _ | refine zd ?_ | refine za ?_ _); exact BK101.out)) : gb101 ≠ gb192)); have n12_ := Aside0.mk ((by rw [hg]; exact Nat.ne_of_gt (blk_lt (g := gb101) (o := .cells #[.int .i64 a0_0, .int .i64 a0_1, .int .i64 a0_2, .string a0_3] 23 (0, 0)) (by (with_reducible repeat first | refine zn ?_ _ | refine zd ?_ | refine za ?_ _); exact BK101.out)) : gb192 ≠ gb101)); have n13_ := Aside0.mk ((by rw [hg]; exact Nat.ne_of_lt (blk_lt (g := gb102) (o := .cells #[.int .i64 a1_0, .int .i64 a1_1, .int .i64 a1_2, .string a1_3] 23 (0, 0)) (by (with_reducible repeat first | refine zn ?_ _ | refine zd ?_ | refine za ?_ _); exact BK102.out)) : gb102 ≠ gb192)); have n14_ := Aside0.mk ((by rw [hg]; exact Nat.ne_of_gt (blk_lt (g := gb102) (o := .cells #[.int .i64 a1_0, .int .i64 a1_1, .int .i64 a1_2, .string a1_3] 23 (0, 0)) (by (with_reducible repeat first | refine zn ?_ _ | refine zd ?_ | refine za ?_ _); exact BK102.out)) : gb192 ≠ gb102)); have n15_ := Aside0.mk ((by rw [hg]; exact Nat.ne_of_lt (blk_lt (g := gb113) (o := .cells #[.int .i64 t158, .int .i64 t159, .int .i64 t160, .string t161] 23 (0, 0)) (by (with_reducible repeat first | refine zn ?_ _ | refine zd ?_ | refine za ?_ _); exact BK113.out)) : gb113 ≠ gb192)); have n16_ := Aside0.mk ((by rw [hg]; exact Nat.ne_of_gt (blk_lt (g := gb113) (o := .cells #[.int .i64 t158, .int .i64 t159, .int .i64 t160, .string t161] 23 (0, 0)) (by (with_reducible repeat first | refine zn ?_ _ | refine zd ?_ | refine za ?_ _); exact BK113.out)) : gb192 ≠ gb113)); have n17_ := Aside0.mk ((by rw [hg]; exact Nat.ne_of_lt (blk_lt (g := gb119) (o := .cells #[.int .i64 t163, .int .i64 t164, .int .i64 t165, .string t166] 23 (0, 0)) (by (with_reducible repeat first | refine zn ?_ _ | refine zd ?_ | refine za ?_ _); exact BK119.out)) : gb119 ≠ gb192)); have n18_ := Aside0.mk ((by rw [hg]; exact Nat.ne_of_gt (blk_lt (g := gb119) (o := .cells #[.int .i64 t163, .int .i64 t164, .int .i64 t165, .string t166] 23 (0, 0)) (by (with_reducible repeat first | refine zn ?_ _ | refine zd ?_ | refine za ?_ _); exact BK119.out)) : gb192 ≠ gb119)); have n19_ := Aside0.mk ((by rw [hg]; exact Nat.ne_of_lt (blk_lt (g := gb174) (o := .cells #[.int .i64 t169, .int .i64 t170, .int .i64 t171, .string t172] 23 (0, 0)) (by (with_reducible repeat first | refine zn ?_ _ | refine zd ?_ | refine za ?_ _); exact BK174.out)) : gb174 ≠ gb192)); have n20_ := Aside0.mk ((by rw [hg]; exact Nat.ne_of_gt (blk_lt (g := gb174) (o := .cells #[.int .i64 t169, .int .i64 t170, .int .i64 t171, .string t172] 23 (0, 0)) (by (with_reducible repeat first | refine zn ?_ _ | refine zd ?_ | refine za ?_ _); exact BK174.out)) : gb192 ≠ gb174)); have n21_ := Aside0.mk ((by rw [hg]; exact Nat.ne_of_lt (blk_lt (g := gb180) (o := .cells #[.int .i64 t175, .int .i64 t176, .int .i64 t177, .string t178] 23 (0, 0)) (by (with_reducible repeat first | refine zn ?_ _ | refine zd ?_ | refine za ?_ _); exact BK180.out)) : gb180 ≠ gb192)); have n22_ := Aside0.mk ((by rw [hg]; exact Nat.ne_of_gt (blk_lt (g := gb180) (o := .cells #[.int .i64 t175, .int .i64 t176, .int .i64 t177, .string t178] 23 (0, 0)) (by (with_reducible repeat first | refine zn ?_ _ | refine zd ?_ | refine za ?_ _); exact BK180.out)) : gb192 ≠ gb180)); have n23_ := Aside0.mk ((by rw [hg]; exact Nat.ne_of_lt (blk_lt (g := gb186) (o := .cells #[.int .i64 t181, .int .i64 t182, .int .i64 t183, .string t184] 23 (0, 0)) (by (with_reducible repeat first | refine zn ?_ _ | refine zd ?_ | refine za ?_ _); exact BK186.out)) : gb186 ≠ gb192)); have n24_ := Aside0.mk ((by rw [hg]; exact Nat.ne_of_gt (blk_lt (g := gb186) (o := .cells #[.int .i64 t181, .int .i64 t182, .int .i64 t183, .string t184] 23 (0, 0)) (by (with_reducible repeat first | refine zn ?_ _ | refine zd ?_ | refine za ?_ _); exact BK186.out)) : gb192 ≠ gb186)); clear BK101; clear BK102; clear BK113; clear BK119; clear BK174; clear BK180; clear BK186; clear HB; have BK101 := n0_; have BK102 := n1_; have BK113 := n2_; have BK119 := n3_; have BK174 := n4_; have BK180 := n5_; have BK186 := n6_; have HB := n7_; have BK192 := n8_; have GW192 := n9_; have GE192 := n10_; have NB101_192 := n11_; have NB192_101 := n12_; have NB102_192 := n13_; have NB192_102 := n14_; have NB113_192 := n15_; have NB192_113 := n16_; have NB119_192 := n17_; have NB192_119 := n18_; have NB174_192 := n19_; have NB192_174 := n20_; have NB180_192 := n21_; have NB192_180 := n22_; have NB186_192 := n23_; have NB192_186 := n24_; clear n0_ n1_ n2_ n3_ n4_ n5_ n6_ n7_ n8_ n9_ n10_ n11_ n12_ n13_ n14_ n15_ n16_ n17_ n18_ n19_ n20_ n21_ n22_ n23_ n24_; clear hb hbox hg; have hnb278 := NB192_101.out; have hnc278 := NB101_192.out; have hnb279 := NB192_102.out; have hnc279 := NB102_192.out; have hnb280 := NB192_113.out; have hnc280 := NB113_192.out; have hnb281 := NB192_119.out; have hnc281 := NB119_192.out; have hnb282 := NB192_174.out; have hnc282 := NB174_192.out; have hnb283 := NB192_180.out; have hnc283 := NB180_192.out; have hnb284 := NB192_186.out; have hnc284 := NB186_192.out; obtain ⟨hcz285_0, hcz285_1, hcz285_2, hcz285_3⟩ := blk_quad BK192.out; obtain ⟨hfz285_0, hfz285_1, hfz285_2, hfz285_3⟩ := blk_quad_free BK192.out; obtain ⟨hcz286_0, hcz286_1, hcz286_2, hcz286_3⟩ := blk_quad BK174.out; obtain ⟨hfz286_0, hfz286_1, hfz286_2, hfz286_3⟩ := blk_quad_free BK174.out) | (go_at_call 9; (with_reducible refine (ironbarklaw05_awake.calls  t193 _ A241.out).mono ?_); rintro e w287 ⟨rfl, hb⟩; have n0_ := Aside0.mk (blk_below (g := gb101) (o := .cells #[.int .i64 a0_0, .int .i64 a0_1, .int .i64 a0_2, .string a0_3] 23 (0, 0)) (by (with_reducible repeat first | refine zn ?_ _ | refine zd ?_ | refine za ?_ _); refine blk_far ?_ NB101_192.out _; (with_reducible repeat first | refine zn ?_ _ | refine zd ?_ | refine za ?_ _); refine blk_far ?_ NB101_192.out _; (with_reducible repeat first | refine zn ?_ _ | refine zd ?_ | refine za ?_ _); refine blk_far ?_ NB101_192.out _; (with_reducible repeat first | refine zn ?_ _ | refine zd ?_ | refine za ?_ _); refine blk_far ?_ NB101_192.out _; (with_reducible repeat first | refine zn ?_ _ | refine zd ?_ | refine za ?_ _); exact BK101.out) hb); have n1_ := Aside0.mk (blk_below (g := gb102) (o := .cells #[.int .i64 a1_0, .int .i64 a1_1, .int .i64 a1_2, .string a1_3] 23 (0, 0)) (by (with_reducible repeat first | refine zn ?_ _ | refine zd ?_ | refine za ?_ _); refine blk_far ?_ NB102_192.out _; (with_reducible repeat first | refine zn ?_ _ | refine zd ?_ | refine za ?_ _); refine blk_far ?_ NB102_192.out _; (with_reducible repeat first | refine zn ?_ _ | refine zd ?_ | refine za ?_ _); refine blk_far ?_ NB102_192.out _; (with_reducible repeat first | refine zn ?_ _ | refine zd ?_ | refine za ?_ _); refine blk_far ?_ NB102_192.out _; (with_reducible repeat first | refine zn ?_ _ | refine zd ?_ | refine za ?_ _); exact BK102.out) hb); have n2_ := Aside0.mk (blk_below (g := gb113) (o := .cells #[.int .i64 t158, .int .i64 t159, .int .i64 t160, .string t161] 23 (0, 0)) (by (with_reducible repeat first | refine zn ?_ _ | refine zd ?_ | refine za ?_ _); refine blk_far ?_ NB113_192.out _; (with_reducible repeat first | refine zn ?_ _ | refine zd ?_ | refine za ?_ _); refine blk_far ?_ NB113_192.out _; (with_reducible repeat first | refine zn ?_ _ | refine zd ?_ | refine za ?_ _); refine blk_far ?_ NB113_192.out _; (with_reducible repeat first | refine zn ?_ _ | refine zd ?_ | refine za ?_ _); refine blk_far ?_ NB113_192.out _; (with_reducible repeat first | refine zn ?_ _ | refine zd ?_ | refine za ?_ _); exact BK113.out) hb); have n3_ := Aside0.mk (blk_below (g := gb119) (o := .cells #[.int .i64 t163, .int .i64 t164, .int .i64 t165, .string t166] 23 (0, 0)) (by (with_reducible repeat first | refine zn ?_ _ | refine zd ?_ | refine za ?_ _); refine blk_far ?_ NB119_192.out _; (with_reducible repeat first | refine zn ?_ _ | refine zd ?_ | refine za ?_ _); refine blk_far ?_ NB119_192.out _; (with_reducible repeat first | refine zn ?_ _ | refine zd ?_ | refine za ?_ _); refine blk_far ?_ NB119_192.out _; (with_reducible repeat first | refine zn ?_ _ | refine zd ?_ | refine za ?_ _); refine blk_far ?_ NB119_192.out _; (with_reducible repeat first | refine zn ?_ _ | refine zd ?_ | refine za ?_ _); exact BK119.out) hb); have n4_ := Aside0.mk (blk_below (g := gb174) (o := .cells #[.int .i64 t169, .int .i64 t170, .int .i64 t171, .string t172] 23 (0, 0)) (by (with_reducible repeat first | refine zn ?_ _ | refine zd ?_ | refine za ?_ _); refine blk_far ?_ NB174_192.out _; (with_reducible repeat first | refine zn ?_ _ | refine zd ?_ | refine za ?_ _); refine blk_far ?_ NB174_192.out _; (with_reducible repeat first | refine zn ?_ _ | refine zd ?_ | refine za ?_ _); refine blk_far ?_ NB174_192.out _; (with_reducible repeat first | refine zn ?_ _ | refine zd ?_ | refine za ?_ _); refine blk_far ?_ NB174_192.out _; (with_reducible repeat first | refine zn ?_ _ | refine zd ?_ | refine za ?_ _); exact BK174.out) hb); have n5_ := Aside0.mk (blk_below (g := gb180) (o := .cells #[.int .i64 t175, .int .i64 t176, .int .i64 t177, .string t178] 23 (0, 0)) (by (with_reducible repeat first | refine zn ?_ _ | refine zd ?_ | refine za ?_ _); refine blk_far ?_ NB180_192.out _; (with_reducible repeat first | refine zn ?_ _ | refine zd ?_ | refine za ?_ _); refine blk_far ?_ NB180_192.out _; (with_reducible repeat first | refine zn ?_ _ | refine zd ?_ | refine za ?_ _); refine blk_far ?_ NB180_192.out _; (with_reducible repeat first | refine zn ?_ _ | refine zd ?_ | refine za ?_ _); refine blk_far ?_ NB180_192.out _; (with_reducible repeat first | refine zn ?_ _ | refine zd ?_ | refine za ?_ _); exact BK180.out) hb); have n6_ := Aside0.mk (blk_below (g := gb186) (o := .cells #[.int .i64 t181, .int .i64 t182, .int .i64 t183, .string t184] 23 (0, 0)) (by (with_reducible repeat first | refine zn ?_ _ | refine zd ?_ | refine za ?_ _); refine blk_far ?_ NB186_192.out _; (with_reducible repeat first | refine zn ?_ _ | refine zd ?_ | refine za ?_ _); refine blk_far ?_ NB186_192.out _; (with_reducible repeat first | refine zn ?_ _ | refine zd ?_ | refine za ?_ _); refine blk_far ?_ NB186_192.out _; (with_reducible repeat first | refine zn ?_ _ | refine zd ?_ | refine za ?_ _); refine blk_far ?_ NB186_192.out _; (with_reducible repeat first | refine zn ?_ _ | refine zd ?_ | refine za ?_ _); exact BK186.out) hb); have n7_ := Aside0.mk (blk_below (g := gb192) (o := .cells #[.int .i64 t187, .int .i64 t188, .int .i64 t189, .string t190] 23 (0, 0)) (by (with_reducible repeat first | refine zn ?_ _ | refine zd ?_ | refine za ?_ _); refine blk_put (cs := #[.int .i64 t187, .int .i64 t188, .int .i64 t189, .string (⟨#[]⟩ : ByteArray)]) ?_ 3 _ rfl; (with_reducible repeat first | refine zn ?_ _ | refine zd ?_ | refine za ?_ _); refine blk_put (cs := #[.int .i64 t187, .int .i64 t188, .int .i64 0, .string (⟨#[]⟩ : ByteArray)]) ?_ 2 _ rfl; (with_reducible repeat first | refine zn ?_ _ | refine zd ?_ | refine za ?_ _); refine blk_put (cs := #[.int .i64 t187, .int .i64 0, .int .i64 0, .string (⟨#[]⟩ : ByteArray)]) ?_ 1 _ rfl; (with_reducible repeat first | refine zn ?_ _ | refine zd ?_ | refine za ?_ _); refine blk_put (cs := #[.int .i64 0, .int .i64 0, .int .i64 0, .string (⟨#[]⟩ : ByteArray)]) ?_ 0 _ rfl; (with_reducible repeat first | refine zn ?_ _ | refine zd ?_ | refine za ?_ _); exact BK192.out) hb); have n8_ := Aside0.mk (below_step (by repeat (first | (with_reducible first | exact HB.out | apply below_alloc | apply pw_below_drewN | apply below_drew1 | refine below_set ?_ GE101.out | refine below_set ?_ GE102.out | refine below_set ?_ GE113.out | refine below_set ?_ GE119.out | refine below_set ?_ GE174.out | refine below_set ?_ GE180.out | refine below_set ?_ GE186.out | refine below_set ?_ GE192.out) | exact HB.out)) hb); clear BK101; clear BK102; clear BK113; clear BK119; clear BK174; clear BK180; clear BK186; clear BK192; clear HB; have BK101 := n0_; have BK102 := n1_; have BK113 := n2_; have BK119 := n3_; have BK174 := n4_; have BK180 := n5_; have BK186 := n6_; have BK192 := n7_; have HB := n8_; clear n0_ n1_ n2_ n3_ n4_ n5_ n6_ n7_ n8_; (try clear hb); (try clear hb2); (try clear hk); (try clear hi)))
                           go_ret
                           exact ⟨by first | rfl | (simp [errW_none, errW_some] <;> rfl) | (simp [*, errW_none, errW_some] <;> rfl), by repeat (first | (with_reducible first | exact HB.out | apply below_alloc | apply pw_below_drewN | apply below_drew1 | refine below_set ?_ GE101.out | refine below_set ?_ GE102.out | refine below_set ?_ GE113.out | refine below_set ?_ GE119.out | refine below_set ?_ GE174.out | refine below_set ?_ GE180.out | refine below_set ?_ GE186.out | refine below_set ?_ GE192.out) | exact HB.out)⟩
                          ·rw [if_neg c240] at H
                           have c240b0 : (t169 == t187 && (t170 == t188 && (t171 == t189 && (t172.toList == t190.toList)))) = false := by simpa using c240
                           (try (have c240b1 : decide (t169 = t187 && (t170 == t188 && (t171 == t189 && (t172.toList == t190.toList)))) = false := by simpa using c240))
                           (try (have c240b2 : (t169 == t187 && (t170 == t188 && (t171 == t189 && (t172.toList == t190.toList)))) = false := by simpa using c240))
                           (try (have c240b3 : ¬ (t169 = t187 && (t170 == t188 && (t171 == t189 && (t172.toList == t190.toList)))) := by simpa using c240))
                           clear c240
                           exact absurd ((Option.some.inj H).trans hrt_.out) (by decide)
                         ·rw [if_neg c239] at H
                          have c239b0 : (t191 == 0) = false := beq_eq_false_iff_ne.mpr c239
                          have c239b1 : (t191 != 0) = true := bne_iff_ne.mpr c239
                          exact absurd ((Option.some.inj H).trans hrt_.out) (by decide)
end Go.Proofs.Ytnelblndidciiaa.P

-- from the text Pb
namespace Go.Proofs.Ytnelblndidciiaa.P
open Go.RowKit Go.Proofs.YtnelblndidciiaaW.PrintWords Go.Proofs.YtnelblndidciiaaW.PrintLast Go.Proofs.YtnelblndidciiaaW.PrintMore
set_option linter.unusedVariables false
set_option linter.unusedSimpArgs false
/-- What stands at an index, the filler behind the end. -/
def atB (v : S23) (i : Nat) : Int := if i < v.f3.size then bt v.f3 (i : Int) else 48
def lenB (a b : S23) : Nat := max a.f3.size b.f3.size
def isB (v : S23) : Prop := okV v = true ∧ v.f0 = 5
theorem atB_is (v : S23) (hv : isB v) (i : Nat) : bits_at.f v.f0 v.f1 v.f2 v.f3 (i : Int) = some (atB v i) := by
  unfold bits_at.f atB
  by_cases h : i < v.f3.size
  · rw [if_pos (by omega), if_pos (by omega), if_pos h]
  · rw [if_neg (by omega), if_pos (.inr hv.2), if_neg h, hv.2]; rfl
theorem atB_bit (v : S23) (hv : isB v) (i : Nat) : atB v i = 48 ∨ atB v i = 49 := by
  unfold atB
  split
  · rename_i h
    have h5 := (okV_parts hv.1).2.2.2.2
    rw [hv.2] at h5
    exact okS_bit v.f3 h5 i h
  · exact .inl rfl
theorem lenB_le (a b : S23) (ha : isB a) (hb : isB b) : lenB a b ≤ 250 := by
  have h1 := (okV_parts ha.1).2.2.2.1
  have h2 := (okV_parts hb.1).2.2.2.1
  unfold lenB; omega
def combG (a b : S23) (t : ByteArray) (j : Nat) : Int := bt t (2 * (atB a j - 48) + (atB b j - 48))
def combB (a b : S23) (t : ByteArray) : ByteArray := strOfNums ((List.range (lenB a b)).map (combG a b t))
theorem combB_size (a b : S23) (t : ByteArray) : (combB a b t).size = lenB a b := by unfold combB; rw [str_size]; simp
theorem combB_bt (a b : S23) (t : ByteArray) (j : Nat) (h : j < lenB a b) : bt (combB a b t) (j : Int) = combG a b t j := by
  have e : ((List.range (lenB a b)).map (combG a b t)).getD j 0 = combG a b t j := by simp [List.getD_eq_getElem?_getD, h]
  unfold combB
  have hr := bt_range t (2 * (atB a j - 48) + (atB b j - 48))
  rw [str_bt _ j (by simpa using h) (by rw [e]; exact hr.1) (by rw [e]; exact hr.2), e]
theorem idx_mod (x y : Int) (hx : x = 48 ∨ x = 49) (hy : y = 48 ∨ y = 49) : ((((((2 * ((x - 48) % 256)) % 256) + y) % 256) - 48) % 256) = 2 * (x - 48) + (y - 48) ∧ ((2 * ((x - 48) % 256)) + ((y - 48) % 256)) = 2 * (x - 48) + (y - 48) ∧ 0 ≤ 2 * (x - 48) + (y - 48) ∧ 2 * (x - 48) + (y - 48) < 4 := by
  rcases hx with rfl | rfl <;> rcases hy with rfl | rfl <;> decide
theorem lenB_mx (a b : S23) : mx (a.f3.size : Int) (b.f3.size : Int) = (lenB a b : Int) := by unfold mx lenB; split <;> omega
theorem wS (i n : Nat) (h : i < n) (h2 : n ≤ 250) : wrap64 ((i : Int) + 1) = ((i + 1 : Nat) : Int) := by unfold wrap64; omega
theorem comb_l0 (a b : S23) (t : ByteArray) (ha : isB a) (hb : isB b) (ht : t.size = 4) (n : Nat) (hn : n ≤ 250) (hnl : n = lenB a b) : ∀ d i (l : List Int), i + d = n → l.length = n → (∀ j, j < i → l.getD j 0 = combG a b t j) →
    Ev (fun k => bits_combine.l0 k t l (n : Int) (i : Int) a.f0 a.f1 a.f2 a.f3 b.f0 b.f1 b.f2 b.f3) (a.f0, 0, 0, combB a b t) := by
  intro d
  induction d with
  | zero =>
    intro i l hi hl hp
    have e : l = (List.range (lenB a b)).map (combG a b t) := by
      apply List.ext_getElem (by simp [hl, hnl])
      intro j h1 h2
      have := hp j (by omega)
      rw [List.getD_eq_getElem?_getD, List.getElem?_eq_getElem h1] at this
      simpa using this
    refine Ev.step (f := fun _ => some (a.f0, 0, 0, combB a b t)) (fun k => ?_) (Ev.now _)
    simp only [bits_combine.l0, bits_with.f, Option.bind_some]
    rw [if_neg (by omega), e]; rfl
  | succ d ih =>
    intro i l hi hl hp
    have hlt : i < n := by omega
    obtain ⟨m1, -, m2, m3⟩ := idx_mod _ _ (atB_bit a ha i) (atB_bit b hb i)
    have hnext := ih (i + 1) (l.set i (combG a b t i)) (by omega) (by rw [List.length_set]; exact hl) (fun j hj => by
      by_cases e : j = i
      · subst e; rw [List.getD_eq_getElem?_getD, List.getElem?_set_self (by omega)]; rfl
      · rw [List.getD_eq_getElem?_getD, List.getElem?_set_ne (by omega), ← List.getD_eq_getElem?_getD]; exact hp j (by omega))
    have hw := wS i n hlt hn
    have ha1 := atB_is a ha i
    have hb1 := atB_is b hb i
    have q1 : (i : Int) < (n : Int) := Int.ofNat_lt.mpr hlt
    have q2 : 2 * (atB a i - 48) + (atB b i - 48) < (t.size : Int) := by rw [ht]; exact m3
    have q3 : (0 : Int) ≤ (i : Int) := Int.natCast_nonneg _
    have q4 : (i : Int) < (l.length : Int) := by rw [hl]; exact q1
    have q5 : (i : Int).toNat = i := Int.toNat_natCast _
    clear hp hi ih
    unfold combG at hnext
    refine Ev.step (fun k => ?_) hnext
    clear hnext
    simp only [bits_combine.l0]
    rw [if_pos q1, ha1, Option.bind_some, hb1, Option.bind_some]
    simp only [m1, hw, q5, if_pos m2, if_pos q2, if_pos q3, if_pos q4]
theorem comb_ev (a b : S23) (t : ByteArray) (ha : isB a) (hb : isB b) (ht : t.size = 4) : Ev (fun k => combO k a b t) ⟨a.f0, 0, 0, combB a b t⟩ := by
  unfold combO
  refine Ev.bind (a := (a.f0, 0, 0, combB a b t)) ?_ (Ev.now _)
  unfold bits_combine.f
  have hn := lenB_le a b ha hb
  have q : (0 : Int) ≤ (lenB a b : Int) := Int.natCast_nonneg _
  have q2 : lenB a b ≤ 281474976710656 := Nat.le_trans hn (by decide)
  simp only [lenB_mx, Int.toNat_natCast, if_pos q, if_pos q2, Option.bind_some]
  have := comb_l0 a b t ha hb ht (lenB a b) hn rfl (lenB a b) 0 (List.replicate (lenB a b) 0) (by omega) (by simp) (fun j hj => absurd hj (Nat.not_lt_zero j))
  simp only [List.length_replicate]
  exact this
theorem strings_two (a b : S23) : stringsI [a, b] 5 = logicalI [a, b] := by
  unfold stringsI logicalI
  have : ([a, b].all fun v => v.f0 == ([a, b].getD 0 z23).f0 && ((5 : Int) == 0 || v.f0 == 5)) = [a, b].all fun v => v.f0 == 5 := by
    simp only [List.all_cons, List.all_nil, List.getD_cons_zero, Bool.and_true]
    by_cases h1 : a.f0 = 5
    · by_cases h2 : b.f0 = 5 <;> simp [h1, h2]
    · have : (a.f0 == 5) = false := by simpa using h1
      simp [this]
  rw [this]
theorem strings_one (a : S23) : stringsI [a] 5 = logicalI [a] := by
  unfold stringsI logicalI
  have : ([a].all fun v => v.f0 == ([a].getD 0 z23).f0 && ((5 : Int) == 0 || v.f0 == 5)) = [a].all fun v => v.f0 == 5 := by
    simp
  rw [this]
theorem filled_bt (v : S23) (n i : Nat) (h : i < n) : bt (filledS v.f3 5 (n : Int)) (i : Int) = atB v i := by
  rw [bt_filledS _ _ _ _ (by omega)]; rfl
theorem rbool_l0 (a b : S23) (t : ByteArray) (ha : isB a) (hb : isB b) (ht : t.size = 4) (n : Nat) (hn : n ≤ 250) (hnl : n = lenB a b) : ∀ d i, i + d = n →
    Ev (fun k => ironbarkref05_Bool.l0 k t (n : Int) (filledS a.f3 5 (n : Int)) (filledS b.f3 5 (n : Int)) ((combB a b t).extract 0 i) (i : Int)) (5, 0, 0, combB a b t, 0) := by
  intro d
  induction d with
  | zero =>
    intro i hi
    refine Ev.step (f := fun _ => some (5, 0, 0, combB a b t, 0)) (fun k => ?_) (Ev.now _)
    simp only [ironbarkref05_Bool.l0, ironbarkref05_made.f, Option.bind_some]
    rw [if_neg (by omega), ext_all _ _ (by rw [combB_size]; omega)]
  | succ d ih =>
    intro i hi
    have hlt : i < n := by omega
    obtain ⟨-, m1, m2, m3⟩ := idx_mod _ _ (atB_bit a ha i) (atB_bit b hb i)
    have hih := ih (i + 1) ((Nat.succ_add_eq_add_succ i d).trans hi)
    clear ih
    have e1 := filled_bt a n i hlt
    have e2 := filled_bt b n i hlt
    have z1 : (filledS a.f3 5 (n : Int)).size = n := by rw [filledS_size]; exact Int.toNat_natCast n
    have z2 : (filledS b.f3 5 (n : Int)).size = n := by rw [filledS_size]; exact Int.toNat_natCast n
    have hc := combB_bt a b t i (hnl ▸ hlt)
    have hBs : (combB a b t).size = n := (combB_size a b t).trans hnl.symm
    unfold combG at hc
    obtain ⟨m, hm⟩ := Int.eq_ofNat_of_zero_le m2
    rw [hm] at hc m3
    have hm4 : m < t.size := by rw [ht]; exact Int.ofNat_lt.mp m3
    have o1 := (one_byte t m hm4).1
    have hsn := ext_snoc (combB a b t) 0 i (t.extract m (m + 1)) (Nat.zero_le i) (hBs.symm ▸ hlt) o1 ((one_byte t m hm4).2.trans hc.symm)
    have hacc := acc_size (combB a b t) i (hBs.symm ▸ Nat.le_of_lt hlt)
    have q1 : (i : Int) < (n : Int) := Int.ofNat_lt.mpr hlt
    have q3 : (0 : Int) ≤ (i : Int) := Int.natCast_nonneg _
    have q5 : (m : Int) + 1 ≤ (t.size : Int) := Int.add_one_le_of_lt (Int.ofNat_lt.mpr hm4)
    have q6 : (0 : Int) ≤ (m : Int) := Int.natCast_nonneg _
    have q9 : (m : Int) ≤ (m : Int) + 1 := by omega
    have q7 : (m : Int).toNat = m := Int.toNat_natCast _
    have q8 := w_t m
    have q10 : i + 1 ≤ 9223372036854775807 := by omega
    have hw := wS i n hlt hn
    refine Ev.step (fun k => ?_) hih
    clear hih hc m2 m3
    simp only [ironbarkref05_Bool.l0]
    rw [if_pos q1, if_pos q3]
    simp only [z1, z2, if_pos q1, e1, e2, m1, hm, if_pos q6, if_pos q9, if_pos q5, q7, q8, hsn, o1, hacc, if_pos q10, hw]
theorem bitsR_l0 (t : ByteArray) (hl : t.size ≤ 250) : ∀ d i, i + d = t.size → Ev (fun k => ironbarkref01_Bits.l0 k t (i : Int)) (okFrom 5 t i) := by
  intro d
  induction d with
  | zero =>
    intro i hi
    rw [okFrom_end 5 t i (by omega)]
    refine Ev.step (f := fun _ => some true) (fun k => ?_) (Ev.now _)
    simp only [ironbarkref01_Bits.l0]
    rw [if_neg (by omega)]
  | succ d ih =>
    intro i hi
    have hlt : i < t.size := by omega
    have hnext := ih (i + 1) (by omega)
    have hw := wS i t.size hlt hl
    rw [okFrom_step 5 t i hlt]
    have hk : okc 5 (bt t (i : Int)) = (decide (bt t (i : Int) = 48) || decide (bt t (i : Int) = 49)) := by
      unfold okc; rw [if_neg (by decide)]; rfl
    rw [hk]
    by_cases h48 : bt t (i : Int) = 48
    · rw [decide_eq_true h48, Bool.true_or, Bool.true_and]
      refine Ev.step (fun k => ?_) hnext
      simp only [ironbarkref01_Bits.l0]
      rw [if_pos (by omega), if_pos (by omega), if_pos h48, hw]
    · rw [decide_eq_false h48, Bool.false_or]
      by_cases h49 : bt t (i : Int) = 49
      · rw [decide_eq_true h49, Bool.true_and]
        refine Ev.step (fun k => ?_) hnext
        simp only [ironbarkref01_Bits.l0]
        rw [if_pos (by omega), if_pos (by omega), if_neg h48, if_pos h49, hw]
      · rw [decide_eq_false h49, Bool.false_and]
        refine Ev.step (f := fun _ => some false) (fun k => ?_) (Ev.now _)
        simp only [ironbarkref01_Bits.l0]
        rw [if_pos (by omega), if_pos (by omega), if_neg h48, if_neg h49]
theorem okFrom_0 (t : ByteArray) : okFrom 5 t 0 = okS 5 t := rfl
abbrev R5 := Int × Int × Int × ByteArray × Int
def boolR (a b : S23) (t : ByteArray) : R5 :=
  if logicalI [a, b] = 0 then (if t.size = 4 ∧ okS 5 t = true then (5, 0, 0, combB a b t, 0) else (0, 0, 0, ⟨#[]⟩, 7)) else (0, 0, 0, ⟨#[]⟩, logicalI [a, b])
theorem isB_two (a b : S23) (h : logicalI [a, b] = 0) : isB a ∧ isB b := by
  obtain ⟨h1, h2, h3, h4⟩ := logicalI_two h
  exact ⟨⟨h1, h3⟩, ⟨h2, h4⟩⟩
theorem bool_ev (a b : S23) (t : ByteArray) : Ev (fun k => bits_Bool.f k a.f0 a.f1 a.f2 a.f3 b.f0 b.f1 b.f2 b.f3 t) (boolR a b t) := by
  unfold bits_Bool.f boolR
  by_cases hl : logicalI [a, b] = 0
  · obtain ⟨ha, hb⟩ := isB_two a b hl
    simp only [if_pos hl]
    by_cases h4 : t.size = 4 ∧ okS 5 t = true
    · simp only [if_pos h4]
      refine Ev.bind (comb_ev a b t ha hb h4.1) ?_
      rw [← ha.2]; exact Ev.now _
    · simp only [if_neg h4]; exact Ev.now _
  · simp only [if_neg hl]; exact Ev.now _
theorem apply_ev (n : Int) (a b : S23) (hn : n = 0 ∨ n = 1 ∨ n = 2) : Ev (fun k => bits_apply.f k n a.f0 a.f1 a.f2 a.f3 b.f0 b.f1 b.f2 b.f3) (boolR a b (tabO n)) := by
  have ht : (tabO n).size = 4 ∧ okS 5 (tabO n) = true := by
    rcases hn with rfl | rfl | rfl <;> decide +kernel
  unfold bits_apply.f boolR
  by_cases hl : logicalI [a, b] = 0
  · obtain ⟨ha, hb⟩ := isB_two a b hl
    simp only [if_pos hl, if_pos hn, if_pos ht]
    refine Ev.bind (comb_ev a b (tabO n) ha hb ht.1) ?_
    rw [← ha.2]; exact Ev.now _
  · simp only [if_neg hl]; exact Ev.now _
theorem rbool_j0 (a b : S23) (t : ByteArray) : Ev (fun k => ironbarkref05_Bool.j0 k t true a.f0 a.f1 a.f2 a.f3 b.f0 b.f1 b.f2 b.f3) (0, 0, 0, ⟨#[]⟩, 7) := by
  refine Ev.step (f := fun _ => some (0, 0, 0, ⟨#[]⟩, 7)) (fun k => ?_) (Ev.now _)
  simp only [ironbarkref05_Bool.j0]
  rw [if_pos trivial]
theorem rbool_ev (a b : S23) (t : ByteArray) : Ev (fun k => ironbarkref05_Bool.f k a.f0 a.f1 a.f2 a.f3 b.f0 b.f1 b.f2 b.f3 t) (boolR a b t) := by
  unfold ironbarkref05_Bool.f boolR
  simp only [ironbarkref05_stringsT.f, Option.bind_some, strings_two]
  by_cases hl : logicalI [a, b] = 0
  · obtain ⟨ha, hb⟩ := isB_two a b hl
    rw [if_pos hl]
    refine Ev.congr (fun k => if_pos hl) ?_
    by_cases h4 : t.size = 4
    · refine Ev.congr (fun k => if_pos (by omega)) ?_
      have hbits : Ev (fun k => ironbarkref01_Bits.f k t) (okS 5 t) := bitsR_l0 t (by omega) t.size 0 (by omega)
      refine Ev.bind hbits ?_
      cases ho : okS 5 t with
      | false => rw [if_neg (fun h => by cases h.2)]; exact rbool_j0 a b t
      | true =>
        rw [if_pos ⟨h4, rfl⟩]
        have hn := lenB_le a b ha hb
        have hl0 := rbool_l0 a b t ha hb h4 (lenB a b) hn rfl (lenB a b) 0 (by omega)
        rw [ext_empty _ _ _ (Nat.le_refl 0)] at hl0
        refine Ev.step (fun k => ?_) hl0
        simp only [ironbarkref05_Bool.j0, ironbarkref05_FilledT.f]
        rw [if_neg (by decide), lenB_mx, if_pos (by omega), Option.bind_some, if_pos (by omega), Option.bind_some]; rfl
    · rw [if_neg (fun h => h4 h.1)]
      refine Ev.congr (fun k => if_neg (by omega)) (rbool_j0 a b t)
  · rw [if_neg hl]
    exact Ev.congr (f := fun _ => some (0, 0, 0, ⟨#[]⟩, logicalI [a, b])) (fun k => if_neg hl) (Ev.now _)
def notR (a : S23) : R5 := if logicalI [a] = 0 then (5, 0, 0, eachB notG a.f3, 0) else (0, 0, 0, ⟨#[]⟩, logicalI [a])
theorem not_is (a : S23) : bits_Not.f a.f0 a.f1 a.f2 a.f3 = some (notR a) := by
  unfold bits_Not.f notR
  by_cases h : logicalI [a] = 0
  · rw [if_pos h, if_pos h]; exact congrArg (fun x => some (x, (0 : Int), (0 : Int), eachB notG a.f3, (0 : Int))) (logicalI_one h).2
  · rw [if_neg h, if_neg h]
theorem eachB_size (g : Int → Int) (s : ByteArray) : (eachB g s).size = s.size := by unfold eachB; rw [str_size, eachL_len]
theorem eachB_bt (g : Int → Int) (s : ByteArray) (j : Nat) (h : j < s.size) (h0 : 0 ≤ g (bt s (j : Int))) (h1 : g (bt s (j : Int)) ≤ 255) : bt (eachB g s) (j : Int) = g (bt s (j : Int)) := by
  have e : (eachL g s s.size).getD j 0 = g (bt s (j : Int)) := by rw [eachL_get g s s.size (Nat.le_refl _) j h, if_pos h]
  unfold eachB
  rw [str_bt _ j (by rw [eachL_len]; exact h) (by rw [e]; exact h0) (by rw [e]; exact h1), e]
theorem isB_bit (a : S23) (ha : isB a) (j : Nat) (h : j < a.f3.size) : bt a.f3 (j : Int) = 48 ∨ bt a.f3 (j : Int) = 49 := by
  have h5 := (okV_parts ha.1).2.2.2.2
  rw [ha.2] at h5
  exact okS_bit a.f3 h5 j h
theorem notB_bt (a : S23) (ha : isB a) (j : Nat) (h : j < a.f3.size) : bt (eachB notG a.f3) (j : Int) = 97 - bt a.f3 (j : Int) := by
  have hb := isB_bit a ha j h
  exact eachB_bt notG a.f3 j h (by unfold notG; omega) (by unfold notG; omega)
def tNot : ByteArray := ⟨#[49, 48, 48, 48]⟩
theorem tNot_bt : bt tNot 0 = 49 ∧ bt tNot 3 = 48 := by decide +kernel
theorem not_comb (a : S23) (ha : isB a) : combB a a tNot = eachB notG a.f3 := by
  have hl : lenB a a = a.f3.size := by unfold lenB; omega
  apply bytes_ext
  · rw [combB_size, eachB_size, hl]
  · intro j hj
    rw [combB_size, hl] at hj
    rw [combB_bt a a tNot j (by omega), notB_bt a ha j hj]
    unfold combG atB
    rw [if_pos hj]
    rcases isB_bit a ha j hj with h | h
    · rw [h]; exact tNot_bt.1
    · rw [h]; exact tNot_bt.2
theorem logical_same (a : S23) : logicalI [a, a] = logicalI [a] := by
  unfold logicalI
  have e1 : [a, a].all okV = [a].all okV := by simp
  have e2 : ([a, a].all fun v => v.f0 == 5) = [a].all fun v => v.f0 == 5 := by simp
  rw [e1, e2]
theorem rnot_ev (a : S23) : Ev (fun k => ironbarkref05_Not.f k a.f0 a.f1 a.f2 a.f3) (notR a) := by
  unfold ironbarkref05_Not.f
  have h := rbool_ev a a tNot
  have e : boolR a a tNot = notR a := by
    unfold boolR notR
    rw [logical_same]
    by_cases hl : logicalI [a] = 0
    · rw [if_pos hl, if_pos hl, if_pos (by decide +kernel), not_comb a (logicalI_one hl)]
    · rw [if_neg hl, if_neg hl]
  rw [e] at h
  exact Ev.bind h (Ev.now _)
def allFrom (s : ByteArray) (c : Int) (i : Nat) : Bool := (s.data.toList.drop i).all fun b => decide ((b.toNat : Int) = c)
theorem allFrom_step (s : ByteArray) (c : Int) (i : Nat) (h : i < s.size) : allFrom s c i = (decide (bt s (i : Int) = c) && allFrom s c (i + 1)) := by
  unfold allFrom
  rw [List.drop_eq_getElem_cons (by simpa using h), List.all_cons, btN s i h]; rfl
theorem all_l0 (a : S23) (c : Int) (hs : a.f3.size ≤ 250) : ∀ d i, i + d = a.f3.size → Ev (fun k => bits_all.l0 k c (a.f3.size : Int) (i : Int) a.f0 a.f1 a.f2 a.f3) (allFrom a.f3 c i, 0) := by
  intro d
  induction d with
  | zero =>
    intro i hi
    have e : allFrom a.f3 c i = true := by unfold allFrom; rw [List.drop_of_length_le (by show a.f3.size ≤ i; omega)]; rfl
    rw [e]
    refine Ev.step (f := fun _ => some (true, 0)) (fun k => ?_) (Ev.now _)
    simp only [bits_all.l0]
    rw [if_neg (by omega)]
  | succ d ih =>
    intro i hi
    have hlt : i < a.f3.size := by omega
    have hw := wS i a.f3.size hlt hs
    rw [allFrom_step a.f3 c i hlt]
    by_cases h : bt a.f3 (i : Int) = c
    · rw [decide_eq_true h, Bool.true_and]
      refine Ev.step (fun k => ?_) (ih (i + 1) (by omega))
      simp only [bits_all.l0]
      rw [if_pos (by omega), if_pos (by omega), if_pos (by omega), if_pos h, hw]
    · rw [decide_eq_false h, Bool.false_and]
      refine Ev.step (f := fun _ => some (false, 0)) (fun k => ?_) (Ev.now _)
      simp only [bits_all.l0]
      rw [if_pos (by omega), if_pos (by omega), if_pos (by omega), if_neg h]
def allR (a : S23) (c : Int) : Bool × Int := if logicalI [a] = 0 then (allFrom a.f3 c 0, 0) else (false, logicalI [a])
theorem all_ev (a : S23) (c : Int) : Ev (fun k => bits_all.f k a.f0 a.f1 a.f2 a.f3 c) (allR a c) := by
  unfold bits_all.f allR
  simp only [bits_logicalT.f, Option.bind_some]
  by_cases hl : logicalI [a] = 0
  · rw [if_pos hl]
    refine Ev.congr (fun k => if_pos hl) ?_
    exact all_l0 a c (okV_parts (logicalI_one hl).1).2.2.2.1 a.f3.size 0 (by omega)
  · rw [if_neg hl]
    exact Ev.congr (f := fun _ => some (false, logicalI [a])) (fun k => if_neg hl) (Ev.now _)
theorem inL_zero (c : Int) : ∀ l : List UInt8, inL c l = 0 ↔ ∀ b ∈ l, (b.toNat : Int) ≠ c
  | [] => by simp [inL]
  | b :: l => by
    have ih := inL_zero c l
    have hr := inL_range c l
    unfold inL addI
    by_cases h : (b.toNat : Int) = c
    · rw [if_pos h]; simp [h]
    · rw [if_neg h]
      by_cases hz : inL c l = 0
      · rw [if_pos hz]; simp [h]; exact ih.1 hz
      · rw [if_neg hz]
        constructor
        · intro h2; omega
        · intro h2; exact absurd (ih.2 fun x hx => h2 x (List.mem_cons_of_mem _ hx)) hz
theorem bit_list (a : S23) (ha : isB a) : ∀ b ∈ a.f3.data.toList, (b.toNat : Int) = 48 ∨ (b.toNat : Int) = 49 := by
  intro b hb
  obtain ⟨j, hj, rfl⟩ := List.getElem_of_mem hb
  have := isB_bit a ha j hj
  rwa [btN a.f3 j hj] at this
theorem some_eq (a : S23) (ha : isB a) : (!allFrom a.f3 48 0) = decide (inI a.f3 49 > 0) := by
  have hr := inL_range 49 a.f3.data.toList
  have hb := bit_list a ha
  have hz := inL_zero 49 a.f3.data.toList
  unfold allFrom inI
  rw [List.drop_zero]
  by_cases h : inL 49 a.f3.data.toList = 0
  · rw [decide_eq_false (by omega), List.all_eq_true.2 fun b hm => decide_eq_true ((hb b hm).resolve_right (hz.1 h b hm))]; rfl
  · rw [decide_eq_true (by omega)]
    have : (a.f3.data.toList.all fun b => decide ((b.toNat : Int) = 48)) = false := by
      cases e : a.f3.data.toList.all fun b => decide ((b.toNat : Int) = 48) with
      | false => rfl
      | true =>
        refine absurd (hz.2 fun b hm => ?_) h
        have := of_decide_eq_true (List.all_eq_true.1 e b hm)
        omega
    rw [this]; rfl
theorem every_eq (a : S23) (ha : isB a) : allFrom a.f3 49 0 = (inI a.f3 48 == 0) := by
  have hb := bit_list a ha
  have hz := inL_zero 48 a.f3.data.toList
  unfold allFrom inI
  rw [List.drop_zero]
  by_cases h : inL 48 a.f3.data.toList = 0
  · rw [h, List.all_eq_true.2 fun b hm => decide_eq_true ((hb b hm).resolve_left (hz.1 h b hm))]; rfl
  · rw [beq_eq_false_iff_ne.2 h]
    cases e : a.f3.data.toList.all fun b => decide ((b.toNat : Int) = 49) with
    | false => rfl
    | true =>
      refine absurd (hz.2 fun b hm => ?_) h
      have := of_decide_eq_true (List.all_eq_true.1 e b hm)
      omega
def someR (a : S23) : Bool × Int := if logicalI [a] = 0 then (!allFrom a.f3 48 0, 0) else (false, logicalI [a])
theorem some_ev (a : S23) : Ev (fun k => bits_Some.f k a.f0 a.f1 a.f2 a.f3) (someR a) := by
  unfold bits_Some.f someR
  refine Ev.bind (all_ev a 48) ?_
  unfold allR
  by_cases hl : logicalI [a] = 0
  · simp only [if_pos hl]; exact Ev.now _
  · simp only [if_neg hl]; exact Ev.now _
theorem rsome_is (a : S23) : ironbarkref05_Some.f a.f0 a.f1 a.f2 a.f3 = some (someR a) := by
  unfold ironbarkref05_Some.f someR
  simp only [ironbarkref05_stringsT.f, Option.bind_some, strings_one, ironbarkref05_inT.f]
  by_cases hl : logicalI [a] = 0
  · have hs := (okV_parts (logicalI_one hl).1).2.2.2.1
    rw [if_pos hl, if_pos hl, if_pos (by omega), Option.bind_some, some_eq a (logicalI_one hl)]
  · rw [if_neg hl, if_neg hl]
theorem every_ev (a : S23) : Ev (fun k => bits_Every.f k a.f0 a.f1 a.f2 a.f3) (allR a 49) := by
  unfold bits_Every.f
  exact Ev.bind (all_ev a 49) (Ev.now _)
theorem revery_is (a : S23) : ironbarkref05_Every.f a.f0 a.f1 a.f2 a.f3 = some (allR a 49) := by
  unfold ironbarkref05_Every.f allR
  simp only [ironbarkref05_stringsT.f, Option.bind_some, strings_one, ironbarkref05_inT.f]
  by_cases hl : logicalI [a] = 0
  · have hs := (okV_parts (logicalI_one hl).1).2.2.2.1
    rw [if_pos hl, if_pos hl, if_pos (by omega), Option.bind_some, every_eq a (logicalI_one hl)]
  · rw [if_neg hl, if_neg hl]
theorem ok_of_bits (s : ByteArray) (h : ∀ j : Nat, j < s.size → bt s (j : Int) = 48 ∨ bt s (j : Int) = 49) : okS 5 s = true := by
  rw [okS_iff]
  intro k hk
  rw [← btN s k hk]
  rcases h k hk with e | e <;> rw [e] <;> rfl
theorem isB_mk (s : ByteArray) (hs : s.size ≤ 250) (h : ∀ j : Nat, j < s.size → bt s (j : Int) = 48 ∨ bt s (j : Int) = 49) : isB ⟨5, 0, 0, s⟩ := by
  refine ⟨?_, rfl⟩
  unfold okV validB
  simp only [ok_of_bits s h]
  rw [decide_eq_true hs]
  rfl
theorem logical_1 (a : S23) (h : isB a) : logicalI [a] = 0 := by simp [logicalI, h.1, h.2]
theorem logical_2 (a b : S23) (h : isB a) (g : isB b) : logicalI [a, b] = 0 := by simp [logicalI, h.1, h.2, g.1, g.2]
theorem t0_bt : bt t0 0 = 48 ∧ bt t0 1 = 48 ∧ bt t0 2 = 48 ∧ bt t0 3 = 49 := by decide +kernel
theorem t1_bt : bt t1 0 = 48 ∧ bt t1 1 = 49 ∧ bt t1 2 = 49 ∧ bt t1 3 = 49 := by decide +kernel
theorem comb0 (a b : S23) (ha : isB a) (hb : isB b) (j : Nat) : combG a b t0 j = 48 ∨ combG a b t0 j = 49 := by
  unfold combG
  obtain ⟨x0, x1, x2, x3⟩ := t0_bt
  rcases atB_bit a ha j with e | e <;> rcases atB_bit b hb j with f | f <;> rw [e, f]
  · exact .inl x0
  · exact .inl x1
  · exact .inl x2
  · exact .inr x3
theorem and_isB (a b : S23) (ha : isB a) (hb : isB b) : isB ⟨5, 0, 0, combB a b t0⟩ := by
  refine isB_mk _ (by rw [combB_size]; exact lenB_le a b ha hb) ?_
  intro j hj
  rw [combB_size] at hj
  rw [combB_bt a b t0 j hj]
  exact comb0 a b ha hb j
theorem not_isB (a : S23) (ha : isB a) : isB ⟨5, 0, 0, eachB notG a.f3⟩ := by
  refine isB_mk _ (by rw [eachB_size]; exact (okV_parts ha.1).2.2.2.1) ?_
  intro j hj
  rw [eachB_size] at hj
  rw [notB_bt a ha j hj]
  rcases isB_bit a ha j hj with e | e <;> rw [e]
  · exact .inr rfl
  · exact .inl rfl
theorem atB_not (a : S23) (ha : isB a) (j : Nat) (h : j < a.f3.size) : atB ⟨5, 0, 0, eachB notG a.f3⟩ j = 97 - atB a j := by
  unfold atB
  rw [if_pos h, if_pos (by rw [eachB_size]; exact h), notB_bt a ha j h]
theorem morgan (a b : S23) (ha : isB a) (hb : isB b) (hs : a.f3.size = b.f3.size) :
    eachB notG (combB a b t0) = combB ⟨5, 0, 0, eachB notG a.f3⟩ ⟨5, 0, 0, eachB notG b.f3⟩ t1 := by
  have hl : lenB a b = a.f3.size := by unfold lenB; omega
  have hl2 : lenB ⟨5, 0, 0, eachB notG a.f3⟩ ⟨5, 0, 0, eachB notG b.f3⟩ = a.f3.size := by unfold lenB; simp only [eachB_size]; omega
  apply bytes_ext
  · rw [eachB_size, combB_size, combB_size, hl, hl2]
  · intro j hj
    rw [eachB_size, combB_size, hl] at hj
    rw [combB_bt _ _ t1 j (hl2.symm ▸ hj)]
    have hc := comb0 a b ha hb j
    have e := combB_bt a b t0 j (hl.symm ▸ hj)
    rw [← e] at hc
    rw [eachB_bt notG (combB a b t0) j (by rw [combB_size, hl]; exact hj) (by unfold notG; omega) (by unfold notG; omega), e]
    show 97 - combG a b t0 j = _
    unfold combG
    rw [atB_not a ha j hj, atB_not b hb j (hs ▸ hj)]
    obtain ⟨x0, x1, x2, x3⟩ := t0_bt
    obtain ⟨y0, y1, y2, y3⟩ := t1_bt
    rcases atB_bit a ha j with e | e <;> rcases atB_bit b hb j with f | f <;> rw [e, f]
    · show 97 - bt t0 0 = bt t1 3; rw [x0, y3]; rfl
    · show 97 - bt t0 1 = bt t1 2; rw [x1, y2]; rfl
    · show 97 - bt t0 2 = bt t1 1; rw [x2, y1]; rfl
    · show 97 - bt t0 3 = bt t1 0; rw [x3, y0]; rfl
theorem and_ev (a b : S23) : Ev (fun k => bits_And.f k a.f0 a.f1 a.f2 a.f3 b.f0 b.f1 b.f2 b.f3) (boolR a b t0) := Ev.bind (apply_ev 0 a b (.inl rfl)) (Ev.now _)
theorem or_ev (a b : S23) : Ev (fun k => bits_Or.f k a.f0 a.f1 a.f2 a.f3 b.f0 b.f1 b.f2 b.f3) (boolR a b t1) := Ev.bind (apply_ev 1 a b (.inr (.inl rfl))) (Ev.now _)
theorem xor_ev (a b : S23) : Ev (fun k => bits_Xor.f k a.f0 a.f1 a.f2 a.f3 b.f0 b.f1 b.f2 b.f3) (boolR a b t2) := Ev.bind (apply_ev 2 a b (.inr (.inr rfl))) (Ev.now _)
theorem rand_ev (a b : S23) : Ev (fun k => ironbarkref05_And.f k a.f0 a.f1 a.f2 a.f3 b.f0 b.f1 b.f2 b.f3) (boolR a b t0) := Ev.bind (rbool_ev a b t0) (Ev.now _)
theorem ror_ev (a b : S23) : Ev (fun k => ironbarkref05_Or.f k a.f0 a.f1 a.f2 a.f3 b.f0 b.f1 b.f2 b.f3) (boolR a b t1) := Ev.bind (rbool_ev a b t1) (Ev.now _)
theorem rxor_ev (a b : S23) : Ev (fun k => ironbarkref05_Xor.f k a.f0 a.f1 a.f2 a.f3 b.f0 b.f1 b.f2 b.f3) (boolR a b t2) := Ev.bind (rbool_ev a b t2) (Ev.now _)
theorem awake_trueB : ironbarklaw05_awake.f = some true := by decide +kernel
theorem bools_j7t (x1 x2 x3 : Int) (s1 : ByteArray) (y1 y2 y3 : Int) (s2 : ByteArray) (z1 z2 z3 : Int) (s3 : ByteArray) : Ev (fun k => ironbarklaw05_BitsBools.j7 k true x1 x2 x3 s1 y1 y2 y3 s2 z1 z2 z3 s3) true := by
  refine Ev.step (f := fun _ => some true) (fun k => ?_) (Ev.now _)
  simp only [ironbarklaw05_BitsBools.j7, awake_trueB, Option.bind_some]
  rw [if_pos trivial]
theorem bools_j7 (a b : S23) (h : logicalI [a, b] = 0) (x : Bool) (hx : x = false → a.f3.size = b.f3.size) : Ev (fun k => ironbarklaw05_BitsBools.j7 k x a.f0 a.f1 a.f2 a.f3 b.f0 b.f1 b.f2 b.f3 5 0 0 (combB a b t0)) true := by
  cases x with
  | true =>
    refine Ev.step (f := fun _ => some true) (fun k => ?_) (Ev.now _)
    simp only [ironbarklaw05_BitsBools.j7, awake_trueB, Option.bind_some]
    rw [if_pos trivial]
  | false =>
    obtain ⟨ha, hb⟩ := isB_two a b h
    have hm := morgan a b ha hb (hx rfl)
    have n1 := not_is ⟨5, 0, 0, combB a b t0⟩
    rw [show notR ⟨5, 0, 0, combB a b t0⟩ = (5, 0, 0, eachB notG (combB a b t0), 0) from if_pos (logical_1 _ (and_isB a b ha hb)), hm] at n1
    have n2 := not_is a
    rw [show notR a = (5, 0, 0, eachB notG a.f3, 0) from if_pos (logical_1 _ ha)] at n2
    have n3 := not_is b
    rw [show notR b = (5, 0, 0, eachB notG b.f3, 0) from if_pos (logical_1 _ hb)] at n3
    have o := or_ev ⟨5, 0, 0, eachB notG a.f3⟩ ⟨5, 0, 0, eachB notG b.f3⟩
    rw [show boolR ⟨5, 0, 0, eachB notG a.f3⟩ ⟨5, 0, 0, eachB notG b.f3⟩ t1 = (5, 0, 0, combB ⟨5, 0, 0, eachB notG a.f3⟩ ⟨5, 0, 0, eachB notG b.f3⟩ t1, 0) from
      (if_pos (logical_2 _ _ (not_isB a ha) (not_isB b hb))).trans (if_pos ⟨by decide, by decide +kernel⟩)] at o
    generalize combB ⟨5, 0, 0, eachB notG a.f3⟩ ⟨5, 0, 0, eachB notG b.f3⟩ t1 = C at *
    refine Ev.step (fun k => ?_) (Ev.bind o (f := fun _ v => some (if v.2.2.2.2 = 0 then (if ((5 : Int) == v.1 && ((0 : Int) == v.2.1 && ((0 : Int) == v.2.2.1 && (C.toList == v.2.2.2.1.toList)))) = true then true else false) else false)) ?_)
    · simp only [ironbarklaw05_BitsBools.j7]
      rw [if_neg (by decide), n1, Option.bind_some, n2, Option.bind_some, n3, Option.bind_some, awake_trueB]
      congr 1
      funext v
      by_cases e5 : v.2.2.2.2 = 0
      · rw [if_pos e5, if_pos e5]
        by_cases e6 : ((5 : Int) == v.1 && ((0 : Int) == v.2.1 && ((0 : Int) == v.2.2.1 && (C.toList == v.2.2.2.1.toList)))) = true
        · exact (if_pos e6).trans (congrArg some (if_pos e6).symm)
        · exact (if_neg e6).trans (congrArg some (if_neg e6).symm)
      · rw [if_neg e5, if_neg e5]
    · simp only [beq_self_eq_true, Bool.and_self, if_true]; exact Ev.now _
theorem bools_j6 (a b : S23) : Ev (fun k => ironbarklaw05_BitsBools.j6 k (boolR a b t0).2.2.2.2 false a.f0 a.f1 a.f2 a.f3 b.f0 b.f1 b.f2 b.f3 (boolR a b t0).1 (boolR a b t0).2.1 (boolR a b t0).2.2.1 (boolR a b t0).2.2.2.1) true := by
  unfold boolR
  by_cases h : logicalI [a, b] = 0
  · rw [if_pos h, if_pos (show t0.size = 4 ∧ okS 5 t0 = true from ⟨by decide, by decide +kernel⟩)]
    refine Ev.step (fun k => ?_) (bools_j7 a b h ((a.f3.size : Int) != (b.f3.size : Int)) (fun e => ?_))
    · simp only [ironbarklaw05_BitsBools.j6]
      rw [if_neg (by decide), if_pos trivial]
    · have : (a.f3.size : Int) = (b.f3.size : Int) := by simpa using e
      exact Int.ofNat_inj.mp this
  · rw [if_neg h]
    refine Ev.step (fun k => ?_) (bools_j7t a.f0 a.f1 a.f2 a.f3 b.f0 b.f1 b.f2 b.f3 0 0 0 ⟨#[]⟩)
    simp only [ironbarklaw05_BitsBools.j6]
    rw [if_neg (by decide), if_neg h]
/-- Two that are told alike. -/
theorem same5 (r : R5) : (!(r.1 == r.1) || (!(r.2.1 == r.2.1) || (!(r.2.2.1 == r.2.2.1) || (!(r.2.2.2.1.toList == r.2.2.2.1.toList))))) = false := by simp
theorem bools_j5 (a b : S23) : Ev (fun k => ironbarklaw05_BitsBools.j5 k false a.f0 a.f1 a.f2 a.f3 b.f0 b.f1 b.f2 b.f3) true := by
  refine Ev.step (fun k => ?_) (Ev.bind (and_ev a b) (f := fun k v => (ironbarkref05_And.f k a.f0 a.f1 a.f2 a.f3 b.f0 b.f1 b.f2 b.f3).bind fun bt163 => (if (!(v.1 == bt163.1) || (!(v.2.1 == bt163.2.1) || (!(v.2.2.1 == bt163.2.2.1) || (!(v.2.2.2.1.toList == bt163.2.2.2.1.toList))))) = true then (ironbarklaw05_BitsBools.j6 k v.2.2.2.2 true a.f0 a.f1 a.f2 a.f3 b.f0 b.f1 b.f2 b.f3 v.1 v.2.1 v.2.2.1 v.2.2.2.1) else (ironbarklaw05_BitsBools.j6 k v.2.2.2.2 (v.2.2.2.2 != bt163.2.2.2.2) a.f0 a.f1 a.f2 a.f3 b.f0 b.f1 b.f2 b.f3 v.1 v.2.1 v.2.2.1 v.2.2.2.1))) (Ev.bind (rand_ev a b) ?_))
  · simp only [ironbarklaw05_BitsBools.j5]
    rw [if_neg (by decide)]
  · have hj := bools_j6 a b
    refine Ev.congr (fun k => (if_neg (by rw [same5]; decide))) ?_
    simp only [bne_self_eq_false]; exact hj
theorem bools_j4 (a b : S23) : Ev (fun k => ironbarklaw05_BitsBools.j4 k false a.f0 a.f1 a.f2 a.f3 b.f0 b.f1 b.f2 b.f3) true := by
  have hj := bools_j5 a b
  have he := every_ev a
  have hr := revery_is a
  generalize allR a 49 = r at *
  refine Ev.step (fun k => ?_) (Ev.bind he (f := fun k v => if (v.1 != r.1) = true then (ironbarklaw05_BitsBools.j5 k true a.f0 a.f1 a.f2 a.f3 b.f0 b.f1 b.f2 b.f3) else (ironbarklaw05_BitsBools.j5 k (v.2 != r.2) a.f0 a.f1 a.f2 a.f3 b.f0 b.f1 b.f2 b.f3)) ?_)
  · simp only [ironbarklaw05_BitsBools.j4]
    rw [if_neg (by decide), hr]; rfl
  · refine Ev.congr (fun k => (if_neg (by simp))) ?_
    simp only [bne_self_eq_false]; exact hj
theorem bools_j3 (a b : S23) : Ev (fun k => ironbarklaw05_BitsBools.j3 k false a.f0 a.f1 a.f2 a.f3 b.f0 b.f1 b.f2 b.f3) true := by
  have hj := bools_j4 a b
  have hn := not_is a
  have hm := rnot_ev a
  have hs := some_ev a
  have hr := rsome_is a
  generalize notR a = n at *
  generalize someR a = s at *
  refine Ev.step (fun k => ?_) (Ev.bind hm (f := fun k bt145 => ((bits_Some.f k a.f0 a.f1 a.f2 a.f3).bind fun bt150 => (if (!(n.1 == bt145.1) || (!(n.2.1 == bt145.2.1) || (!(n.2.2.1 == bt145.2.2.1) || (!(n.2.2.2.1.toList == bt145.2.2.2.1.toList))))) = true then (ironbarklaw05_BitsBools.j4 k true a.f0 a.f1 a.f2 a.f3 b.f0 b.f1 b.f2 b.f3) else (if n.2.2.2.2 = bt145.2.2.2.2 then (if (bt150.1 != s.1) = true then (ironbarklaw05_BitsBools.j4 k true a.f0 a.f1 a.f2 a.f3 b.f0 b.f1 b.f2 b.f3) else (ironbarklaw05_BitsBools.j4 k (bt150.2 != s.2) a.f0 a.f1 a.f2 a.f3 b.f0 b.f1 b.f2 b.f3)) else (ironbarklaw05_BitsBools.j4 k true a.f0 a.f1 a.f2 a.f3 b.f0 b.f1 b.f2 b.f3))))) (Ev.bind hs ?_))
  · simp only [ironbarklaw05_BitsBools.j3]
    rw [if_neg (by decide), hn, Option.bind_some, hr]; rfl
  · refine Ev.congr (fun k => (if_neg (by rw [same5]; decide)).trans ((if_pos rfl).trans (if_neg (by simp)))) ?_
    simp only [bne_self_eq_false]; exact hj
theorem bools_j2 (a b : S23) : Ev (fun k => ironbarklaw05_BitsBools.j2 k false a.f0 a.f1 a.f2 a.f3 b.f0 b.f1 b.f2 b.f3) true := by
  refine Ev.step (fun k => ?_) (Ev.bind (xor_ev a b) (f := fun k v => (ironbarkref05_Xor.f k a.f0 a.f1 a.f2 a.f3 b.f0 b.f1 b.f2 b.f3).bind fun u => (if (!(v.1 == u.1) || (!(v.2.1 == u.2.1) || (!(v.2.2.1 == u.2.2.1) || (!(v.2.2.2.1.toList == u.2.2.2.1.toList))))) = true then (ironbarklaw05_BitsBools.j3 k true a.f0 a.f1 a.f2 a.f3 b.f0 b.f1 b.f2 b.f3) else (ironbarklaw05_BitsBools.j3 k (v.2.2.2.2 != u.2.2.2.2) a.f0 a.f1 a.f2 a.f3 b.f0 b.f1 b.f2 b.f3))) (Ev.bind (rxor_ev a b) ?_))
  · simp only [ironbarklaw05_BitsBools.j2]
    rw [if_neg (by decide)]
  · have hj := bools_j3 a b
    refine Ev.congr (fun k => (if_neg (by rw [same5]; decide))) ?_
    simp only [bne_self_eq_false]; exact hj
theorem bools_j1 (a b : S23) : Ev (fun k => ironbarklaw05_BitsBools.j1 k false a.f0 a.f1 a.f2 a.f3 b.f0 b.f1 b.f2 b.f3) true := by
  refine Ev.step (fun k => ?_) (Ev.bind (or_ev a b) (f := fun k v => (ironbarkref05_Or.f k a.f0 a.f1 a.f2 a.f3 b.f0 b.f1 b.f2 b.f3).bind fun u => (if (!(v.1 == u.1) || (!(v.2.1 == u.2.1) || (!(v.2.2.1 == u.2.2.1) || (!(v.2.2.2.1.toList == u.2.2.2.1.toList))))) = true then (ironbarklaw05_BitsBools.j2 k true a.f0 a.f1 a.f2 a.f3 b.f0 b.f1 b.f2 b.f3) else (ironbarklaw05_BitsBools.j2 k (v.2.2.2.2 != u.2.2.2.2) a.f0 a.f1 a.f2 a.f3 b.f0 b.f1 b.f2 b.f3))) (Ev.bind (ror_ev a b) ?_))
  · simp only [ironbarklaw05_BitsBools.j1]
    rw [if_neg (by decide)]
  · have hj := bools_j2 a b
    refine Ev.congr (fun k => (if_neg (by rw [same5]; decide))) ?_
    simp only [bne_self_eq_false]; exact hj
theorem bools_j0 (a b : S23) (t : ByteArray) (x : Bool) : Ev (fun k => ironbarklaw05_BitsBools.j0 k t x a.f0 a.f1 a.f2 a.f3 b.f0 b.f1 b.f2 b.f3) true := by
  cases x with
  | true =>
    refine Ev.step (f := fun _ => some true) (fun k => ?_) (Ev.now _)
    simp only [ironbarklaw05_BitsBools.j0, awake_trueB, Option.bind_some]
    rw [if_pos trivial]
  | false =>
    refine Ev.step (fun k => ?_) (Ev.bind (bool_ev a b t) (f := fun k v => (ironbarkref05_Bool.f k a.f0 a.f1 a.f2 a.f3 b.f0 b.f1 b.f2 b.f3 t).bind fun u => (if (!(v.1 == u.1) || (!(v.2.1 == u.2.1) || (!(v.2.2.1 == u.2.2.1) || (!(v.2.2.2.1.toList == u.2.2.2.1.toList))))) = true then (ironbarklaw05_BitsBools.j1 k true a.f0 a.f1 a.f2 a.f3 b.f0 b.f1 b.f2 b.f3) else (ironbarklaw05_BitsBools.j1 k (v.2.2.2.2 != u.2.2.2.2) a.f0 a.f1 a.f2 a.f3 b.f0 b.f1 b.f2 b.f3))) (Ev.bind (rbool_ev a b t) ?_))
    · simp only [ironbarklaw05_BitsBools.j0]
      rw [if_neg (by decide)]
    · have hj := bools_j1 a b
      refine Ev.congr (fun k => (if_neg (by rw [same5]; decide))) ?_
      simp only [bne_self_eq_false]; exact hj
theorem bools_ev (a b : S23) (t : ByteArray) : Ev (fun k => ironbarklaw05_BitsBools.f k a.f0 a.f1 a.f2 a.f3 b.f0 b.f1 b.f2 b.f3 t) true := by
  have hj := bools_j0 a b t
  unfold ironbarklaw05_BitsBools.f
  simp only [ironbarklaw05_lightT.f, Option.bind_some]
  split
  · exact hj _
  · exact hj true
theorem BitsBools_walk (a b : S23) (t : ByteArray) (w : World) (_ : Wf23 a) (_ : Wf23 b) (_ : t.size ≤ maxLen) :
    Calls Try.prog 5 #[.agg #[.int .i64 a.f0, .int .i64 a.f1, .int .i64 a.f2, .string a.f3], .agg #[.int .i64 b.f0, .int .i64 b.f1, .int .i64 b.f2, .string b.f3], .string t] w fun e w' => e = .returned (.bool true) ∧ Below w.heap.size w w' := by
  obtain ⟨k, hk⟩ := (bools_ev a b t).rounds
  exact ironbarklaw05_BitsBools.calls k _ _ _ _ _ _ _ _ _ true w hk ⟨rfl⟩
end Go.Proofs.Ytnelblndidciiaa.P
