/- Part 9 of the proof of the law BitsMakes: functions, contracts and plain laws; merged by this session's program. -/
import Derived.Test.YtnelblndidciiaaMBitsMakes1
import Derived.Test.YtnelblndidciiaaMBitsMakes2
import Derived.Test.YtnelblndidciiaaMBitsMakes3
import Derived.Test.YtnelblndidciiaaMBitsMakes6
import Derived.Test.YtnelblndidciiaaMBitsMakes7
import Derived.Test.YtnelblndidciiaaMBitsMakes8
-- from the text G7
namespace Go.Proofs.Ytnelblndidciiaa.P
open Go.RowKit Go.Proofs.YtnelblndidciiaaW.PrintWords Go.Proofs.YtnelblndidciiaaW.PrintLast Go.Proofs.YtnelblndidciiaaW.PrintMore
attribute [local go_sem] max2_int min2_int max_two min_two max_three min_three max_four min_four   -- for this text's walks alone
set_option linter.unusedVariables false
set_option linter.unusedSimpArgs false
attribute [local go_sem high] eqA23
set_option maxHeartbeats 8000000 in
set_option maxRecDepth 100000 in
theorem ironbarklaw05_BitsMakes.calls (k : Nat) (a0_0 : Int) (a0_1 : Int) (a0_2 : Int) (a0_3 : ByteArray) (a1_0 : Int) (a1_1 : Int) (a1_2 : Int) (a1_3 : ByteArray) (a2_0 : Int) (a2_1 : Int) (a2_2 : Int) (a2_3 : ByteArray) (a3 : Int) (r : Bool) (w : World) (h : ironbarklaw05_BitsMakes.f k a0_0 a0_1 a0_2 a0_3 a1_0 a1_1 a1_2 a1_3 a2_0 a2_1 a2_2 a2_3 a3 = some r) (hrt_ : Aside0 (r = true)) :
  Calls Try.prog 7 #[.agg #[.int .i64 a0_0, .int .i64 a0_1, .int .i64 a0_2, .string a0_3], .agg #[.int .i64 a1_0, .int .i64 a1_1, .int .i64 a1_2, .string a1_3], .agg #[.int .i64 a2_0, .int .i64 a2_1, .int .i64 a2_2, .string a2_3], .int .i64 a3] w fun e w' => e = .returned (.bool r) ∧ Below w.heap.size w w' := by
 have hu23 := Try.underlying23
 have HB := Aside0.mk (Below.refl w.heap.size w)
 have H : ((ironbarklaw05_lightT.f (([(⟨a0_0, a0_1, a0_2, a0_3⟩ : S23), (⟨a1_0, a1_1, a1_2, a1_3⟩ : S23), (⟨a2_0, a2_1, a2_2, a2_3⟩ : S23)] : List (S23)))).bind fun t107 => (if t107 = true then ((bits_Translate.f a0_0 a0_1 a0_2 a0_3 a1_0 a1_1 a1_2 a1_3 a2_0 a2_1 a2_2 a2_3).bind fun bt109 => ((ironbarkref05_Translate.f k a0_0 a0_1 a0_2 a0_3 a1_0 a1_1 a1_2 a1_3 a2_0 a2_1 a2_2 a2_3).bind fun bt115 => (if (!(bt109.1 == bt115.1) || (!(bt109.2.1 == bt115.2.1) || (!(bt109.2.2.1 == bt115.2.2.1) || (!(bt109.2.2.2.1.toList == bt115.2.2.2.1.toList))))) = true then (ironbarklaw05_BitsMakes.j0 k a3 true a0_0 a0_1 a0_2 a0_3 a1_0 a1_1 a1_2 a1_3) else (ironbarklaw05_BitsMakes.j0 k a3 (bt109.2.2.2.2 != bt115.2.2.2.2) a0_0 a0_1 a0_2 a0_3 a1_0 a1_1 a1_2 a1_3)))) else ((ironbarklaw05_awake.f).bind fun t108 => (some t108)))) = some r := h
 clear h
 obtain ⟨y104, hy104⟩ : ∃ y_ : List (S23), y_ = (([(⟨a0_0, a0_1, a0_2, a0_3⟩ : S23), (⟨a1_0, a1_1, a1_2, a1_3⟩ : S23), (⟨a2_0, a2_1, a2_2, a2_3⟩ : S23)] : List (S23))) := ⟨_, rfl⟩
 replace H : ((ironbarklaw05_lightT.f y104).bind fun t107 => (if t107 = true then ((bits_Translate.f a0_0 a0_1 a0_2 a0_3 a1_0 a1_1 a1_2 a1_3 a2_0 a2_1 a2_2 a2_3).bind fun bt109 => ((ironbarkref05_Translate.f k a0_0 a0_1 a0_2 a0_3 a1_0 a1_1 a1_2 a1_3 a2_0 a2_1 a2_2 a2_3).bind fun bt115 => (if (!(bt109.1 == bt115.1) || (!(bt109.2.1 == bt115.2.1) || (!(bt109.2.2.1 == bt115.2.2.1) || (!(bt109.2.2.2.1.toList == bt115.2.2.2.1.toList))))) = true then (ironbarklaw05_BitsMakes.j0 k a3 true a0_0 a0_1 a0_2 a0_3 a1_0 a1_1 a1_2 a1_3) else (ironbarklaw05_BitsMakes.j0 k a3 (bt109.2.2.2.2 != bt115.2.2.2.2) a0_0 a0_1 a0_2 a0_3 a1_0 a1_1 a1_2 a1_3)))) else ((ironbarklaw05_awake.f).bind fun t108 => (some t108)))) = some r := by first | (rw [hy104]; with_reducible exact H) | (have H2_ := (Option.bind_some _ _).symm.trans H; rw [hy104]; with_reducible exact H2_) | (have H2_ := (Option.bind_some _ _).symm.trans H; with_reducible exact H2_) | with_reducible exact H | (rw [hy104]; exact H) | exact H
 have Ny104 := Aside0.mk hy104
 clear hy104
 replace H := Option.bind_eq_some_iff.mp H
 obtain ⟨t107, A50, H⟩ := H
 replace H : (if t107 = true then ((bits_Translate.f a0_0 a0_1 a0_2 a0_3 a1_0 a1_1 a1_2 a1_3 a2_0 a2_1 a2_2 a2_3).bind fun bt109 => ((ironbarkref05_Translate.f k a0_0 a0_1 a0_2 a0_3 a1_0 a1_1 a1_2 a1_3 a2_0 a2_1 a2_2 a2_3).bind fun bt115 => (if (!(bt109.1 == bt115.1) || (!(bt109.2.1 == bt115.2.1) || (!(bt109.2.2.1 == bt115.2.2.1) || (!(bt109.2.2.2.1.toList == bt115.2.2.2.1.toList))))) = true then (ironbarklaw05_BitsMakes.j0 k a3 true a0_0 a0_1 a0_2 a0_3 a1_0 a1_1 a1_2 a1_3) else (ironbarklaw05_BitsMakes.j0 k a3 (bt109.2.2.2.2 != bt115.2.2.2.2) a0_0 a0_1 a0_2 a0_3 a1_0 a1_1 a1_2 a1_3)))) else ((ironbarklaw05_awake.f).bind fun t108 => (some t108))) = some r := H
 have A5 := Aside0.mk A50
 clear A50
 by_cases c6 : t107 = true
 ·subst c6
  have H1 : ((bits_Translate.f a0_0 a0_1 a0_2 a0_3 a1_0 a1_1 a1_2 a1_3 a2_0 a2_1 a2_2 a2_3).bind fun bt109 => ((ironbarkref05_Translate.f k a0_0 a0_1 a0_2 a0_3 a1_0 a1_1 a1_2 a1_3 a2_0 a2_1 a2_2 a2_3).bind fun bt115 => (if (!(bt109.1 == bt115.1) || (!(bt109.2.1 == bt115.2.1) || (!(bt109.2.2.1 == bt115.2.2.1) || (!(bt109.2.2.2.1.toList == bt115.2.2.2.1.toList))))) = true then (ironbarklaw05_BitsMakes.j0 k a3 true a0_0 a0_1 a0_2 a0_3 a1_0 a1_1 a1_2 a1_3) else (ironbarklaw05_BitsMakes.j0 k a3 (bt109.2.2.2.2 != bt115.2.2.2.2) a0_0 a0_1 a0_2 a0_3 a1_0 a1_1 a1_2 a1_3)))) = some r := by rw [if_pos rfl] at H; exact H
  clear H
  have H := H1
  clear H1
  replace H := Option.bind_eq_some_iff.mp H
  obtain ⟨⟨t109, t110, t111, t112, t113⟩, A70, H⟩ := H
  replace H : ((ironbarkref05_Translate.f k a0_0 a0_1 a0_2 a0_3 a1_0 a1_1 a1_2 a1_3 a2_0 a2_1 a2_2 a2_3).bind fun bt115 => (if (!(t109 == bt115.1) || (!(t110 == bt115.2.1) || (!(t111 == bt115.2.2.1) || (!(t112.toList == bt115.2.2.2.1.toList))))) = true then (ironbarklaw05_BitsMakes.j0 k a3 true a0_0 a0_1 a0_2 a0_3 a1_0 a1_1 a1_2 a1_3) else (ironbarklaw05_BitsMakes.j0 k a3 (t113 != bt115.2.2.2.2) a0_0 a0_1 a0_2 a0_3 a1_0 a1_1 a1_2 a1_3))) = some r := H
  have A7 := Aside0.mk A70
  clear A70
  replace H := Option.bind_eq_some_iff.mp H
  obtain ⟨⟨t115, t116, t117, t118, t119⟩, A80, H⟩ := H
  replace H : (if (!(t109 == t115) || (!(t110 == t116) || (!(t111 == t117) || (!(t112.toList == t118.toList))))) = true then (ironbarklaw05_BitsMakes.j0 k a3 true a0_0 a0_1 a0_2 a0_3 a1_0 a1_1 a1_2 a1_3) else (ironbarklaw05_BitsMakes.j0 k a3 (t113 != t119) a0_0 a0_1 a0_2 a0_3 a1_0 a1_1 a1_2 a1_3)) = some r := H
  have A8 := Aside0.mk A80
  clear A80
  have HC9 := Aside0.mk H
  clear H
  go_enter Try.func7, Try.ntmps7
  go_upto_region 5 with (first | ((with_reducible refine gate_dst (N := 4) rfl ?_); refine box_event ?hg (N := 4) ?hd (cs := #[.int .i64 a0_0, .int .i64 a0_1, .int .i64 a0_2, .string a0_3]) (t := 23) ?hr ?_; (case hd => rfl); (case hg => rfl); (case hr => first | (go_simp; done) | (go_simp; rfl)); intro gb101 hg w10 hbox hb; have n0_ := Aside0.mk (below_step (by repeat (first | (with_reducible first | exact HB.out | apply below_alloc | apply pw_below_drewN | apply below_drew1) | exact HB.out)) hb); have n1_ := Aside0.mk (hbox); have n2_ := Aside0.mk ((by rw [hg]; exact (below_size (by repeat (first | (with_reducible first | exact HB.out | apply below_alloc | apply pw_below_drewN | apply below_drew1) | exact HB.out))) : w.heap.size ≤ gb101)); have n3_ := n2_; clear HB; have HB := n0_; have BK101 := n1_; have GW101 := n2_; have GE101 := n3_; clear n0_ n1_ n2_ n3_; clear hb hbox hg) | ((with_reducible refine gate_dst (N := 5) rfl ?_); refine box_event ?hg (N := 5) ?hd (cs := #[.int .i64 a1_0, .int .i64 a1_1, .int .i64 a1_2, .string a1_3]) (t := 23) ?hr ?_; (case hd => rfl); (case hg => rfl); (case hr => first | (go_simp; done) | (go_simp; rfl)); intro gb102 hg w11 hbox hb; have n0_ := Aside0.mk (blk_below (zk BK101.out) hb); have n1_ := Aside0.mk (below_step (by repeat (first | (with_reducible first | exact HB.out | apply below_alloc | apply pw_below_drewN | apply below_drew1 | refine below_set ?_ GE101.out) | exact HB.out)) hb); have n2_ := Aside0.mk (hbox); have n3_ := Aside0.mk ((by rw [hg]; exact (below_size (by repeat (first | (with_reducible first | exact HB.out | apply below_alloc | apply pw_below_drewN | apply below_drew1 | refine below_set ?_ GE101.out) | exact HB.out))) : w.heap.size ≤ gb102)); have n4_ := n3_; have n5_ := Aside0.mk ((by rw [hg]; exact Nat.ne_of_lt (blk_lt (zk BK101.out)) : gb101 ≠ gb102)); have n6_ := Aside0.mk ((by rw [hg]; exact Nat.ne_of_gt (blk_lt (zk BK101.out)) : gb102 ≠ gb101)); clear BK101; clear HB; have BK101 := n0_; have HB := n1_; have BK102 := n2_; have GW102 := n3_; have GE102 := n4_; have NB101_102 := n5_; have NB102_101 := n6_; clear n0_ n1_ n2_ n3_ n4_ n5_ n6_; clear hb hbox hg) | ((with_reducible refine gate_dst (N := 6) rfl ?_); refine box_event ?hg (N := 6) ?hd (cs := #[.int .i64 a2_0, .int .i64 a2_1, .int .i64 a2_2, .string a2_3]) (t := 23) ?hr ?_; (case hd => rfl); (case hg => rfl); (case hr => first | (go_simp; done) | (go_simp; rfl)); intro gb103 hg w12 hbox hb; have n0_ := Aside0.mk (blk_below (zk BK101.out) hb); have n1_ := Aside0.mk (blk_below (zk BK102.out) hb); have n2_ := Aside0.mk (below_step (by repeat (first | (with_reducible first | exact HB.out | apply below_alloc | apply pw_below_drewN | apply below_drew1 | refine below_set ?_ GE101.out | refine below_set ?_ GE102.out) | exact HB.out)) hb); have n3_ := Aside0.mk (hbox); have n4_ := Aside0.mk ((by rw [hg]; exact (below_size (by repeat (first | (with_reducible first | exact HB.out | apply below_alloc | apply pw_below_drewN | apply below_drew1 | refine below_set ?_ GE101.out | refine below_set ?_ GE102.out) | exact HB.out))) : w.heap.size ≤ gb103)); have n5_ := n4_; have n6_ := Aside0.mk ((by rw [hg]; exact Nat.ne_of_lt (blk_lt (zk BK101.out)) : gb101 ≠ gb103)); have n7_ := Aside0.mk ((by rw [hg]; exact Nat.ne_of_gt (blk_lt (zk BK101.out)) : gb103 ≠ gb101)); have n8_ := Aside0.mk ((by rw [hg]; exact Nat.ne_of_lt (blk_lt (zk BK102.out)) : gb102 ≠ gb103)); have n9_ := Aside0.mk ((by rw [hg]; exact Nat.ne_of_gt (blk_lt (zk BK102.out)) : gb103 ≠ gb102)); clear BK101; clear BK102; clear HB; have BK101 := n0_; have BK102 := n1_; have HB := n2_; have BK103 := n3_; have GW103 := n4_; have GE103 := n5_; have NB101_103 := n6_; have NB103_101 := n7_; have NB102_103 := n8_; have NB103_102 := n9_; clear n0_ n1_ n2_ n3_ n4_ n5_ n6_ n7_ n8_ n9_; clear hb hbox hg; have hnb13 := NB101_102.out; have hnc13 := NB102_101.out; have hnb14 := NB101_103.out; have hnc14 := NB103_101.out; obtain ⟨hcz15_0, hcz15_1, hcz15_2, hcz15_3⟩ := blk_quad BK101.out; obtain ⟨hfz15_0, hfz15_1, hfz15_2, hfz15_3⟩ := blk_quad_free BK101.out; have hnb16 := NB102_103.out; have hnc16 := NB103_102.out; obtain ⟨hcz17_0, hcz17_1, hcz17_2, hcz17_3⟩ := blk_quad BK102.out; obtain ⟨hfz17_0, hfz17_1, hfz17_2, hfz17_3⟩ := blk_quad_free BK102.out; obtain ⟨hcz18_0, hcz18_1, hcz18_2, hcz18_3⟩ := blk_quad BK103.out; obtain ⟨hfz18_0, hfz18_1, hfz18_2, hfz18_3⟩ := blk_quad_free BK103.out) | ((with_reducible refine gate_dst (N := 27) rfl ?_); refine Kd.R_lit k23 _ 23 ?hg (N := 27) ?hd (xs := ([(⟨a0_0, a0_1, a0_2, a0_3⟩ : S23), (⟨a1_0, a1_1, a1_2, a1_3⟩ : S23), (⟨a2_0, a2_1, a2_2, a2_3⟩ : S23)] : List (S23))) (inner := [.int .i64 a0_0, .int .i64 a0_1, .int .i64 a0_2, .string a0_3, .int .i64 a1_0, .int .i64 a1_1, .int .i64 a1_2, .string a1_3, .int .i64 a2_0, .int .i64 a2_1, .int .i64 a2_2, .string a2_3]) (ok := fun _ => True) (okp := fun _ => True) ?hr ?hp (fun _ hk => hk) trivial (Below.refl _ _) (Nat.le_refl _) (by simp) ?_; (case hd => rfl); (case hg => rfl); (case hr => first | (go_simp; done) | (go_simp; rfl)); (case hp => exact (Reps.c4 (show Kd.M k23 _ _ _ (⟨a0_0, a0_1, a0_2, a0_3⟩ : S23) [.int .i64 a0_0, .int .i64 a0_1, .int .i64 a0_2, .string a0_3] from (k23_mkM _ _ _ (⟨a0_0, a0_1, a0_2, a0_3⟩ : S23) )) (Reps.c4 (show Kd.M k23 _ _ _ (⟨a1_0, a1_1, a1_2, a1_3⟩ : S23) [.int .i64 a1_0, .int .i64 a1_1, .int .i64 a1_2, .string a1_3] from (k23_mkM _ _ _ (⟨a1_0, a1_1, a1_2, a1_3⟩ : S23) )) (Reps.c4 (show Kd.M k23 _ _ _ (⟨a2_0, a2_1, a2_2, a2_3⟩ : S23) [.int .i64 a2_0, .int .i64 a2_1, .int .i64 a2_2, .string a2_3] from (k23_mkM _ _ _ (⟨a2_0, a2_1, a2_2, a2_3⟩ : S23) )) (Reps.none _ _))))); intro v105 w19 ho20 hb hg_ hnew_; clear hg_ hnew_; (first | rw [← Ny104.out] at ho20 | (simp only [Int.reduceToNat] at ho20; rw [← Ny104.out] at ho20)); have n0_ := Aside0.mk (Kd.R_lower (Kd.R_newB (Kd.R_newB (Kd.R_newB ho20 (g := gb101) (o := .cells #[.int .i64 a0_0, .int .i64 a0_1, .int .i64 a0_2, .string a0_3] 23 (0, 0)) (zk BK101.out)) (g := gb102) (o := .cells #[.int .i64 a1_0, .int .i64 a1_1, .int .i64 a1_2, .string a1_3] 23 (0, 0)) (zk BK102.out)) (g := gb103) (o := .cells #[.int .i64 a2_0, .int .i64 a2_1, .int .i64 a2_2, .string a2_3] 23 (0, 0)) (zk BK103.out)) (below_size (by repeat (first | (with_reducible first | exact HB.out | apply below_alloc | apply pw_below_drewN | apply below_drew1 | refine below_set ?_ GE101.out | refine below_set ?_ GE102.out | refine below_set ?_ GE103.out) | exact HB.out)))); have n1_ := Aside0.mk (blk_below (zk BK101.out) hb); have n2_ := Aside0.mk (blk_below (zk BK102.out) hb); have n3_ := Aside0.mk (blk_below (zk BK103.out) hb); have n4_ := Aside0.mk (below_step (by repeat (first | (with_reducible first | exact HB.out | apply below_alloc | apply pw_below_drewN | apply below_drew1 | refine below_set ?_ GE101.out | refine below_set ?_ GE102.out | refine below_set ?_ GE103.out) | exact HB.out)) hb); clear BK101; clear BK102; clear BK103; clear HB; have HO106 := n0_; have BK101 := n1_; have BK102 := n2_; have BK103 := n3_; have HB := n4_; clear n0_ n1_ n2_ n3_ n4_; clear hb ho20; obtain ⟨Ao21, co21, eo21⟩ := Kd.R_slice HO106.out; subst eo21) | ((with_reducible refine gate_callee (f := 8) rfl ?_); refine goesL_ (some 28) rfl rfl Try.func8 (by kernel_rfl) rfl #[.slice Ao21 y104.length co21] rfl (by (try simp only [List.map_toArray, List.map_cons, List.map_nil]); first | done | rfl | (simp only [List.length_drop, List.length_take]; rfl)) ?_; (with_reducible refine (ironbarklaw05_lightT.calls _ _ y104 true _ ?side1 ?side2 A5.out).mono ?_); (case side1 => repeat (first | exact (Kd.R_reads' HO106.out).2.2 | (with_reducible refine Kd.C_alloc ?_ _) | (with_reducible refine Kd.C_drewN ?_ _) | (with_reducible refine Kd.C_drew ?_))); (case side2 => exact (Kd.R_reads' HO106.out).2.1); rintro e w' ⟨rfl, ⟨nd, rfl⟩⟩; refine ⟨_, rfl, ?_⟩; (try (rw [drewN_self w19]; generalize hq_ : World.drewN w19 _ = w19; have n0_ : Aside0 (Kd.R k23 23 w19 w.heap.size (fun k_ => k_ ≠ gb101 ∧ k_ ≠ gb102 ∧ k_ ≠ gb103) (.slice Ao21 y104.length co21) y104) := ⟨by rw [← hq_]; exact (by (with_reducible repeat (first | apply Kd.R_alloc | apply Kd.R_drewN | apply Kd.R_drew)); exact Kd.R_mono HO106.out (fun _ hk => ⟨hk.1.1.2, ⟨hk.1.2, hk.2⟩⟩))⟩; have n1_ : Aside0 (w19.heap[gb101]? = some (.cells #[.int .i64 a0_0, .int .i64 a0_1, .int .i64 a0_2, .string a0_3] 23 (0, 0))) := ⟨by rw [← hq_]; exact (zk BK101.out)⟩; have n2_ : Aside0 (w19.heap[gb102]? = some (.cells #[.int .i64 a1_0, .int .i64 a1_1, .int .i64 a1_2, .string a1_3] 23 (0, 0))) := ⟨by rw [← hq_]; exact (zk BK102.out)⟩; have n3_ : Aside0 (w19.heap[gb103]? = some (.cells #[.int .i64 a2_0, .int .i64 a2_1, .int .i64 a2_2, .string a2_3] 23 (0, 0))) := ⟨by rw [← hq_]; exact (zk BK103.out)⟩; have n4_ : Aside0 (Below w.heap.size w w19) := ⟨by rw [← hq_]; exact (by repeat (first | (with_reducible first | exact HB.out | apply below_alloc | apply pw_below_drewN | apply below_drew1 | refine below_set ?_ GE101.out | refine below_set ?_ GE102.out | refine below_set ?_ GE103.out) | exact HB.out))⟩; clear HO106 BK101 BK102 BK103 HB hq_; have HO106 := n0_; have BK101 := n1_; have BK102 := n2_; have BK103 := n3_; have HB := n4_; clear n0_ n1_ n2_ n3_ n4_)); obtain ⟨hcz22_0, hcz22_1, hcz22_2, hcz22_3⟩ := blk_quad BK101.out; obtain ⟨hfz22_0, hfz22_1, hfz22_2, hfz22_3⟩ := blk_quad_free BK101.out; obtain ⟨hcz23_0, hcz23_1, hcz23_2, hcz23_3⟩ := blk_quad BK102.out; obtain ⟨hfz23_0, hfz23_1, hfz23_2, hfz23_3⟩ := blk_quad_free BK102.out; obtain ⟨hcz24_0, hcz24_1, hcz24_2, hcz24_3⟩ := blk_quad BK103.out; obtain ⟨hfz24_0, hfz24_1, hfz24_2, hfz24_3⟩ := blk_quad_free BK103.out) | ((with_reducible refine gate_callee (f := 41) rfl ?_); refine goesL_ (some 35) rfl rfl Try.func41 (by kernel_rfl) rfl #[.agg #[.int .i64 a0_0, .int .i64 a0_1, .int .i64 a0_2, .string a0_3], .agg #[.int .i64 a1_0, .int .i64 a1_1, .int .i64 a1_2, .string a1_3], .agg #[.int .i64 a2_0, .int .i64 a2_1, .int .i64 a2_2, .string a2_3]] rfl (by (try simp only [List.map_toArray, List.map_cons, List.map_nil]); first | done | rfl | (simp only [List.length_drop, List.length_take]; rfl)) ?_; (with_reducible refine (bits_Translate.calls a0_0 a0_1 a0_2 a0_3 a1_0 a1_1 a1_2 a1_3 a2_0 a2_1 a2_2 a2_3 t109 t110 t111 t112 t113 _ A7.out).mono ?_); rintro e w25 ⟨rfl, hb⟩; refine ⟨_, rfl, ?_⟩; have n0_ := Aside0.mk (Kd.R_below (by (with_reducible repeat (first | apply Kd.R_alloc | apply Kd.R_drewN | apply Kd.R_drew)); exact HO106.out) hb); have n1_ := Aside0.mk (blk_below (zk BK101.out) hb); have n2_ := Aside0.mk (blk_below (zk BK102.out) hb); have n3_ := Aside0.mk (blk_below (zk BK103.out) hb); have n4_ := Aside0.mk (below_step (by repeat (first | (with_reducible first | exact HB.out | apply below_alloc | apply pw_below_drewN | apply below_drew1 | refine below_set ?_ GE101.out | refine below_set ?_ GE102.out | refine below_set ?_ GE103.out) | exact HB.out)) hb); clear HO106; clear BK101; clear BK102; clear BK103; clear HB; have HO106 := n0_; have BK101 := n1_; have BK102 := n2_; have BK103 := n3_; have HB := n4_; clear n0_ n1_ n2_ n3_ n4_; (try clear hb); (try clear hb2); (try clear hk); (try clear hi)) | ((with_reducible refine gate_dst (N := 9) rfl ?_); refine box_event ?hg (N := 9) ?hd (cs := #[.int .i64 0, .int .i64 0, .int .i64 0, .string (⟨#[]⟩ : ByteArray)]) (t := 23) ?hr ?_; (case hd => rfl); (case hg => rfl); (case hr => first | (go_simp; done) | (go_simp; rfl)); intro gb114 hg w26 hbox hb; have n0_ := Aside0.mk (Kd.R_below (Kd.R_elderB (by (with_reducible repeat (first | apply Kd.R_alloc | apply Kd.R_drewN | apply Kd.R_drew)); exact HO106.out) gb114 (Nat.le_of_eq hg.symm)) hb); have n1_ := Aside0.mk (blk_below (zk BK101.out) hb); have n2_ := Aside0.mk (blk_below (zk BK102.out) hb); have n3_ := Aside0.mk (blk_below (zk BK103.out) hb); have n4_ := Aside0.mk (below_step (by repeat (first | (with_reducible first | exact HB.out | apply below_alloc | apply pw_below_drewN | apply below_drew1 | refine below_set ?_ GE101.out | refine below_set ?_ GE102.out | refine below_set ?_ GE103.out) | exact HB.out)) hb); have n5_ := Aside0.mk (hbox); have n6_ := Aside0.mk ((by rw [hg]; exact (below_size (by repeat (first | (with_reducible first | exact HB.out | apply below_alloc | apply pw_below_drewN | apply below_drew1 | refine below_set ?_ GE101.out | refine below_set ?_ GE102.out | refine below_set ?_ GE103.out) | exact HB.out))) : w.heap.size ≤ gb114)); have n7_ := n6_; have n8_ := Aside0.mk ((by rw [hg]; exact Nat.ne_of_lt (blk_lt (zk BK101.out)) : gb101 ≠ gb114)); have n9_ := Aside0.mk ((by rw [hg]; exact Nat.ne_of_gt (blk_lt (zk BK101.out)) : gb114 ≠ gb101)); have n10_ := Aside0.mk ((by rw [hg]; exact Nat.ne_of_lt (blk_lt (zk BK102.out)) : gb102 ≠ gb114)); have n11_ := Aside0.mk ((by rw [hg]; exact Nat.ne_of_gt (blk_lt (zk BK102.out)) : gb114 ≠ gb102)); have n12_ := Aside0.mk ((by rw [hg]; exact Nat.ne_of_lt (blk_lt (zk BK103.out)) : gb103 ≠ gb114)); have n13_ := Aside0.mk ((by rw [hg]; exact Nat.ne_of_gt (blk_lt (zk BK103.out)) : gb114 ≠ gb103)); clear HO106; clear BK101; clear BK102; clear BK103; clear HB; have HO106 := n0_; have BK101 := n1_; have BK102 := n2_; have BK103 := n3_; have HB := n4_; have BK114 := n5_; have GW114 := n6_; have GE114 := n7_; have NB101_114 := n8_; have NB114_101 := n9_; have NB102_114 := n10_; have NB114_102 := n11_; have NB103_114 := n12_; have NB114_103 := n13_; clear n0_ n1_ n2_ n3_ n4_ n5_ n6_ n7_ n8_ n9_ n10_ n11_ n12_ n13_; clear hb hbox hg; have hnb27 := NB114_101.out; have hnc27 := NB101_114.out; have hnb28 := NB114_102.out; have hnc28 := NB102_114.out; have hnb29 := NB114_103.out; have hnc29 := NB103_114.out; obtain ⟨hcz30_0, hcz30_1, hcz30_2, hcz30_3⟩ := blk_quad BK114.out; obtain ⟨hfz30_0, hfz30_1, hfz30_2, hfz30_3⟩ := blk_quad_free BK114.out; obtain ⟨hcz31_0, hcz31_1, hcz31_2, hcz31_3⟩ := blk_quad BK101.out; obtain ⟨hfz31_0, hfz31_1, hfz31_2, hfz31_3⟩ := blk_quad_free BK101.out; obtain ⟨hcz32_0, hcz32_1, hcz32_2, hcz32_3⟩ := blk_quad BK102.out; obtain ⟨hfz32_0, hfz32_1, hfz32_2, hfz32_3⟩ := blk_quad_free BK102.out; obtain ⟨hcz33_0, hcz33_1, hcz33_2, hcz33_3⟩ := blk_quad BK103.out; obtain ⟨hfz33_0, hfz33_1, hfz33_2, hfz33_3⟩ := blk_quad_free BK103.out) | ((with_reducible refine gate_callee (f := 42) rfl ?_); refine goesL_ (some 42) rfl rfl Try.func42 (by kernel_rfl) rfl #[.agg #[.int .i64 a0_0, .int .i64 a0_1, .int .i64 a0_2, .string a0_3], .agg #[.int .i64 a1_0, .int .i64 a1_1, .int .i64 a1_2, .string a1_3], .agg #[.int .i64 a2_0, .int .i64 a2_1, .int .i64 a2_2, .string a2_3]] rfl (by (try simp only [List.map_toArray, List.map_cons, List.map_nil]); first | done | rfl | (simp only [List.length_drop, List.length_take]; rfl)) ?_; (with_reducible refine (ironbarkref05_Translate.calls k a0_0 a0_1 a0_2 a0_3 a1_0 a1_1 a1_2 a1_3 a2_0 a2_1 a2_2 a2_3 t115 t116 t117 t118 t119 _ A8.out).mono ?_); rintro e w34 ⟨rfl, hb⟩; refine ⟨_, rfl, ?_⟩; have n0_ := Aside0.mk (Kd.R_below (by (with_reducible repeat (first | apply Kd.R_alloc | apply Kd.R_drewN | apply Kd.R_drew)); exact (Kd.R_mono (Kd.R_far (p := ⟨gb114, 3, none⟩) (Kd.R_far (p := ⟨gb114, 2, none⟩) (Kd.R_far (p := ⟨gb114, 1, none⟩) (Kd.R_far (p := ⟨gb114, 0, none⟩) (Kd.R_mono HO106.out (fun k_ hk => (⟨hk, hk.2⟩ : _ ∧ k_ ≠ gb114))) (fun _ hk => hk.2) (.int .i64 t109)) (fun _ hk => hk.2) (.int .i64 t110)) (fun _ hk => hk.2) (.int .i64 t111)) (fun _ hk => hk.2) (.string t112)) (fun _ h_ => h_.1))) hb); have n1_ := Aside0.mk (blk_below (g := gb101) (o := .cells #[.int .i64 a0_0, .int .i64 a0_1, .int .i64 a0_2, .string a0_3] 23 (0, 0)) (by refine zk ?_; refine blk_far ?_ NB101_114.out _; refine zk ?_; refine blk_far ?_ NB101_114.out _; refine zk ?_; refine blk_far ?_ NB101_114.out _; refine zk ?_; refine blk_far ?_ NB101_114.out _; refine zk ?_; exact BK101.out) hb); have n2_ := Aside0.mk (blk_below (g := gb102) (o := .cells #[.int .i64 a1_0, .int .i64 a1_1, .int .i64 a1_2, .string a1_3] 23 (0, 0)) (by refine zk ?_; refine blk_far ?_ NB102_114.out _; refine zk ?_; refine blk_far ?_ NB102_114.out _; refine zk ?_; refine blk_far ?_ NB102_114.out _; refine zk ?_; refine blk_far ?_ NB102_114.out _; refine zk ?_; exact BK102.out) hb); have n3_ := Aside0.mk (blk_below (g := gb103) (o := .cells #[.int .i64 a2_0, .int .i64 a2_1, .int .i64 a2_2, .string a2_3] 23 (0, 0)) (by refine zk ?_; refine blk_far ?_ NB103_114.out _; refine zk ?_; refine blk_far ?_ NB103_114.out _; refine zk ?_; refine blk_far ?_ NB103_114.out _; refine zk ?_; refine blk_far ?_ NB103_114.out _; refine zk ?_; exact BK103.out) hb); have n4_ := Aside0.mk (blk_below (g := gb114) (o := .cells #[.int .i64 t109, .int .i64 t110, .int .i64 t111, .string t112] 23 (0, 0)) (by refine zk ?_; refine blk_put (cs := #[.int .i64 t109, .int .i64 t110, .int .i64 t111, .string (⟨#[]⟩ : ByteArray)]) ?_ 3 _ rfl; refine zk ?_; refine blk_put (cs := #[.int .i64 t109, .int .i64 t110, .int .i64 0, .string (⟨#[]⟩ : ByteArray)]) ?_ 2 _ rfl; refine zk ?_; refine blk_put (cs := #[.int .i64 t109, .int .i64 0, .int .i64 0, .string (⟨#[]⟩ : ByteArray)]) ?_ 1 _ rfl; refine zk ?_; refine blk_put (cs := #[.int .i64 0, .int .i64 0, .int .i64 0, .string (⟨#[]⟩ : ByteArray)]) ?_ 0 _ rfl; refine zk ?_; exact BK114.out) hb); have n5_ := Aside0.mk (below_step (by repeat (first | (with_reducible first | exact HB.out | apply below_alloc | apply pw_below_drewN | apply below_drew1 | refine below_set ?_ GE101.out | refine below_set ?_ GE102.out | refine below_set ?_ GE103.out | refine below_set ?_ GE114.out) | exact HB.out)) hb); clear HO106; clear BK101; clear BK102; clear BK103; clear BK114; clear HB; have HO106 := n0_; have BK101 := n1_; have BK102 := n2_; have BK103 := n3_; have BK114 := n4_; have HB := n5_; clear n0_ n1_ n2_ n3_ n4_ n5_; (try clear hb); (try clear hb2); (try clear hk); (try clear hi)) | ((with_reducible refine gate_dst (N := 11) rfl ?_); refine box_event ?hg (N := 11) ?hd (cs := #[.int .i64 0, .int .i64 0, .int .i64 0, .string (⟨#[]⟩ : ByteArray)]) (t := 23) ?hr ?_; (case hd => rfl); (case hg => rfl); (case hr => first | (go_simp; done) | (go_simp; rfl)); intro gb120 hg w35 hbox hb; have n0_ := Aside0.mk (Kd.R_below (Kd.R_elderB (by (with_reducible repeat (first | apply Kd.R_alloc | apply Kd.R_drewN | apply Kd.R_drew)); exact HO106.out) gb120 (Nat.le_of_eq hg.symm)) hb); have n1_ := Aside0.mk (blk_below (zk BK101.out) hb); have n2_ := Aside0.mk (blk_below (zk BK102.out) hb); have n3_ := Aside0.mk (blk_below (zk BK103.out) hb); have n4_ := Aside0.mk (blk_below (zk BK114.out) hb); have n5_ := Aside0.mk (below_step (by repeat (first | (with_reducible first | exact HB.out | apply below_alloc | apply pw_below_drewN | apply below_drew1 | refine below_set ?_ GE101.out | refine below_set ?_ GE102.out | refine below_set ?_ GE103.out | refine below_set ?_ GE114.out) | exact HB.out)) hb); have n6_ := Aside0.mk (hbox); have n7_ := Aside0.mk ((by rw [hg]; exact (below_size (by repeat (first | (with_reducible first | exact HB.out | apply below_alloc | apply pw_below_drewN | apply below_drew1 | refine below_set ?_ GE101.out | refine below_set ?_ GE102.out | refine below_set ?_ GE103.out | refine below_set ?_ GE114.out) | exact HB.out))) : w.heap.size ≤ gb120)); have n8_ := n7_; have n9_ := Aside0.mk ((by rw [hg]; exact Nat.ne_of_lt (blk_lt (zk BK101.out)) : gb101 ≠ gb120)); have n10_ := Aside0.mk ((by rw [hg]; exact Nat.ne_of_gt (blk_lt (zk BK101.out)) : gb120 ≠ gb101)); have n11_ := Aside0.mk ((by rw [hg]; exact Nat.ne_of_lt (blk_lt (zk BK102.out)) : gb102 ≠ gb120)); have n12_ := Aside0.mk ((by rw [hg]; exact Nat.ne_of_gt (blk_lt (zk BK102.out)) : gb120 ≠ gb102)); have n13_ := Aside0.mk ((by rw [hg]; exact Nat.ne_of_lt (blk_lt (zk BK103.out)) : gb103 ≠ gb120)); have n14_ := Aside0.mk ((by rw [hg]; exact Nat.ne_of_gt (blk_lt (zk BK103.out)) : gb120 ≠ gb103)); have n15_ := Aside0.mk ((by rw [hg]; exact Nat.ne_of_lt (blk_lt (zk BK114.out)) : gb114 ≠ gb120)); have n16_ := Aside0.mk ((by rw [hg]; exact Nat.ne_of_gt (blk_lt (zk BK114.out)) : gb120 ≠ gb114)); clear HO106; clear BK101; clear BK102; clear BK103; clear BK114; clear HB; have HO106 := n0_; have BK101 := n1_; have BK102 := n2_; have BK103 := n3_; have BK114 := n4_; have HB := n5_; have BK120 := n6_; have GW120 := n7_; have GE120 := n8_; have NB101_120 := n9_; have NB120_101 := n10_; have NB102_120 := n11_; have NB120_102 := n12_; have NB103_120 := n13_; have NB120_103 := n14_; have NB114_120 := n15_; have NB120_114 := n16_; clear n0_ n1_ n2_ n3_ n4_ n5_ n6_ n7_ n8_ n9_ n10_ n11_ n12_ n13_ n14_ n15_ n16_; clear hb hbox hg; have hnb36 := NB120_101.out; have hnc36 := NB101_120.out; have hnb37 := NB120_102.out; have hnc37 := NB102_120.out; have hnb38 := NB120_103.out; have hnc38 := NB103_120.out; have hnb39 := NB120_114.out; have hnc39 := NB114_120.out; obtain ⟨hcz40_0, hcz40_1, hcz40_2, hcz40_3⟩ := blk_quad BK120.out; obtain ⟨hfz40_0, hfz40_1, hfz40_2, hfz40_3⟩ := blk_quad_free BK120.out))
  (try simp only [Act.put, List.setIfInBounds_toArray, List.set_cons_zero, List.set_cons_succ])
  go_cut [52] (fun v52 wc => ∃ (kq : Nat) (x52_8 : Bool), v52 = .bool x52_8 ∧ Aside0 (ironbarklaw05_BitsMakes.j0 kq a3 x52_8 a0_0 a0_1 a0_2 a0_3 a1_0 a1_1 a1_2 a1_3 = some r) ∧ Aside0 (kq ≤ k) ∧ Aside0 (wc.heap[gb101]? = some (.cells #[.int .i64 a0_0, .int .i64 a0_1, .int .i64 a0_2, .string a0_3] 23 (0, 0))) ∧ Aside0 (wc.heap[gb102]? = some (.cells #[.int .i64 a1_0, .int .i64 a1_1, .int .i64 a1_2, .string a1_3] 23 (0, 0))) ∧ Aside0 (wc.heap[gb103]? = some (.cells #[.int .i64 a2_0, .int .i64 a2_1, .int .i64 a2_2, .string a2_3] 23 (0, 0))) ∧ Aside0 (wc.heap[gb114]? = some (.cells #[.int .i64 t109, .int .i64 t110, .int .i64 t111, .string t112] 23 (0, 0))) ∧ Aside0 (wc.heap[gb120]? = some (.cells #[.int .i64 t115, .int .i64 t116, .int .i64 t117, .string t118] 23 (0, 0))) ∧ Aside0 (Below w.heap.size w wc))
  case first =>
   have H := HC9.out
   clear HC9
   by_cases c41 : (!(t109 == t115) || (!(t110 == t116) || (!(t111 == t117) || (!(t112.toList == t118.toList))))) = true
   ·rw [if_pos c41] at H
    have c41b0 : (!(t109 == t115) || (!(t110 == t116) || (!(t111 == t117) || (!(t112.toList == t118.toList))))) = true := c41
    clear c41
    (first | rw [c41b0] | (simp only [i64_w, i32_w]; rw [c41b0]) | skip)
    exact absurd (H.trans (congrArg some hrt_.out)) (ironbarklaw05_BitsMakes.j0_no _ _ _ _ _ _ _ _ _ _ )
   ·rw [if_neg c41] at H
    have c41b0 : (!(t109 == t115) || (!(t110 == t116) || (!(t111 == t117) || (!(t112.toList == t118.toList))))) = false := by simpa using c41
    clear c41
    (first | rw [c41b0] | (simp only [i64_w, i32_w]; rw [c41b0]) | skip)
    have H' := Aside0.mk H
    clear H
    have hnb51 := NB114_101.out
    have hnc51 := NB101_114.out
    have hnb52 := NB114_102.out
    have hnc52 := NB102_114.out
    have hnb53 := NB114_103.out
    have hnc53 := NB103_114.out
    have hnb54 := NB114_120.out
    have hnc54 := NB120_114.out
    obtain ⟨hcz55_0, hcz55_1, hcz55_2, hcz55_3⟩ := blk_quad BK114.out
    obtain ⟨hfz55_0, hfz55_1, hfz55_2, hfz55_3⟩ := blk_quad_free BK114.out
    have hnb56 := NB120_101.out
    have hnc56 := NB101_120.out
    have hnb57 := NB120_102.out
    have hnc57 := NB102_120.out
    have hnb58 := NB120_103.out
    have hnc58 := NB103_120.out
    obtain ⟨hcz59_0, hcz59_1, hcz59_2, hcz59_3⟩ := blk_quad BK120.out
    obtain ⟨hfz59_0, hfz59_1, hfz59_2, hfz59_3⟩ := blk_quad_free BK120.out
    go_wp2
    go_meet
    case rel => exact ⟨_, ((t113 != t119)), (by first | rfl | (simp; done) | (generalize ByteArray.toList _ = l_; cases l_ <;> rfl) | (simp [*]; done)), H', ⟨by first | omega | exact Nat.le_refl _⟩, ⟨by refine zk ?_; refine blk_far ?_ NB101_120.out _; refine zk ?_; refine blk_far ?_ NB101_120.out _; refine zk ?_; refine blk_far ?_ NB101_120.out _; refine zk ?_; refine blk_far ?_ NB101_120.out _; refine zk ?_; exact BK101.out⟩, ⟨by refine zk ?_; refine blk_far ?_ NB102_120.out _; refine zk ?_; refine blk_far ?_ NB102_120.out _; refine zk ?_; refine blk_far ?_ NB102_120.out _; refine zk ?_; refine blk_far ?_ NB102_120.out _; refine zk ?_; exact BK102.out⟩, ⟨by refine zk ?_; refine blk_far ?_ NB103_120.out _; refine zk ?_; refine blk_far ?_ NB103_120.out _; refine zk ?_; refine blk_far ?_ NB103_120.out _; refine zk ?_; refine blk_far ?_ NB103_120.out _; refine zk ?_; exact BK103.out⟩, ⟨by refine zk ?_; refine blk_far ?_ NB114_120.out _; refine zk ?_; refine blk_far ?_ NB114_120.out _; refine zk ?_; refine blk_far ?_ NB114_120.out _; refine zk ?_; refine blk_far ?_ NB114_120.out _; refine zk ?_; exact BK114.out⟩, ⟨by refine zk ?_; refine blk_put (cs := #[.int .i64 t115, .int .i64 t116, .int .i64 t117, .string (⟨#[]⟩ : ByteArray)]) ?_ 3 _ rfl; refine zk ?_; refine blk_put (cs := #[.int .i64 t115, .int .i64 t116, .int .i64 0, .string (⟨#[]⟩ : ByteArray)]) ?_ 2 _ rfl; refine zk ?_; refine blk_put (cs := #[.int .i64 t115, .int .i64 0, .int .i64 0, .string (⟨#[]⟩ : ByteArray)]) ?_ 1 _ rfl; refine zk ?_; refine blk_put (cs := #[.int .i64 0, .int .i64 0, .int .i64 0, .string (⟨#[]⟩ : ByteArray)]) ?_ 0 _ rfl; refine zk ?_; exact BK120.out⟩, ⟨by repeat (first | (with_reducible first | exact HB.out | apply below_alloc | apply pw_below_drewN | apply below_drew1 | refine below_set ?_ GE101.out | refine below_set ?_ GE102.out | refine below_set ?_ GE103.out | refine below_set ?_ GE114.out | refine below_set ?_ GE120.out) | exact HB.out)⟩⟩
  case rest => as_aux_lemma =>
   clear HC9
   try clear c1
   try clear c2
   try clear p2
   try clear c3
   try clear c4
   try clear c5
   try clear c6
   try clear c7
   try clear c8
   try clear c13
   try clear c14
   try clear c16
   try clear c27
   try clear c28
   try clear c29
   try clear c36
   try clear c37
   try clear c38
   try clear c39
   try clear c41
   try clear c41b0
   try clear c42
   try clear c43
   try clear c44
   try clear c45
   try clear c47
   try clear c48
   try clear c49
   try clear c51
   try clear c52
   try clear c53
   try clear c54
   try clear c56
   try clear c57
   try clear c58
   try clear hcz15_0 hcz15_1 hcz15_2 hcz15_3
   try clear hcz17_0 hcz17_1 hcz17_2 hcz17_3
   try clear hcz18_0 hcz18_1 hcz18_2 hcz18_3
   try clear hcz22_0 hcz22_1 hcz22_2 hcz22_3
   try clear hcz23_0 hcz23_1 hcz23_2 hcz23_3
   try clear hcz24_0 hcz24_1 hcz24_2 hcz24_3
   try clear hcz30_0 hcz30_1 hcz30_2 hcz30_3
   try clear hcz31_0 hcz31_1 hcz31_2 hcz31_3
   try clear hcz32_0 hcz32_1 hcz32_2 hcz32_3
   try clear hcz33_0 hcz33_1 hcz33_2 hcz33_3
   try clear hcz40_0 hcz40_1 hcz40_2 hcz40_3
   try clear hcz46_0 hcz46_1 hcz46_2 hcz46_3
   try clear hcz50_0 hcz50_1 hcz50_2 hcz50_3
   try clear hcz55_0 hcz55_1 hcz55_2 hcz55_3
   try clear hcz59_0 hcz59_1 hcz59_2 hcz59_3
   try clear hfz15_0 hfz15_1 hfz15_2 hfz15_3
   try clear hfz17_0 hfz17_1 hfz17_2 hfz17_3
   try clear hfz18_0 hfz18_1 hfz18_2 hfz18_3
   try clear hfz22_0 hfz22_1 hfz22_2 hfz22_3
   try clear hfz23_0 hfz23_1 hfz23_2 hfz23_3
   try clear hfz24_0 hfz24_1 hfz24_2 hfz24_3
   try clear hfz30_0 hfz30_1 hfz30_2 hfz30_3
   try clear hfz31_0 hfz31_1 hfz31_2 hfz31_3
   try clear hfz32_0 hfz32_1 hfz32_2 hfz32_3
   try clear hfz33_0 hfz33_1 hfz33_2 hfz33_3
   try clear hfz40_0 hfz40_1 hfz40_2 hfz40_3
   try clear hfz46_0 hfz46_1 hfz46_2 hfz46_3
   try clear hfz50_0 hfz50_1 hfz50_2 hfz50_3
   try clear hfz55_0 hfz55_1 hfz55_2 hfz55_3
   try clear hfz59_0 hfz59_1 hfz59_2 hfz59_3
   obtain ⟨kq, x52_8, rfl, HA, HJ8, BK101, BK102, BK103, BK114, BK120, HB⟩ := hcut
   cases kq with
   | zero => exact absurd HA.out (by simp [ironbarklaw05_BitsMakes.j0])
   | succ kj8 =>
    have H := HA.out
    clear HA
    simp only [ironbarklaw05_BitsMakes.j0] at H
    by_cases c60 : x52_8 = true
    ·subst c60
     have H1 : (some false) = some r := by rw [if_pos rfl] at H; exact H
     clear H
     have H := H1
     clear H1
     exact absurd ((Option.some.inj H).trans hrt_.out) (by decide)
    ·replace c60 := Bool.eq_false_iff.mpr c60
     subst c60
     have H1 : ((bits_Repeat.f kj8 a0_0 a0_1 a0_2 a0_3 a3).bind fun bt121 => ((ironbarkref05_Repeat.f kj8 a0_0 a0_1 a0_2 a0_3 a3).bind fun bt126 => (if (!(bt121.1 == bt126.1) || (!(bt121.2.1 == bt126.2.1) || (!(bt121.2.2.1 == bt126.2.2.1) || (!(bt121.2.2.2.1.toList == bt126.2.2.2.1.toList))))) = true then (ironbarklaw05_BitsMakes.j1 kj8 a3 true a0_0 a0_1 a0_2 a0_3 a1_0 a1_1 a1_2 a1_3) else (ironbarklaw05_BitsMakes.j1 kj8 a3 (bt121.2.2.2.2 != bt126.2.2.2.2) a0_0 a0_1 a0_2 a0_3 a1_0 a1_1 a1_2 a1_3)))) = some r := by rw [if_neg (show ¬ (false = true) by decide)] at H; exact H
     clear H
     have H := H1
     clear H1
     replace H := Option.bind_eq_some_iff.mp H
     obtain ⟨⟨t121, t122, t123, t124, t125⟩, A610, H⟩ := H
     replace H : ((ironbarkref05_Repeat.f kj8 a0_0 a0_1 a0_2 a0_3 a3).bind fun bt126 => (if (!(t121 == bt126.1) || (!(t122 == bt126.2.1) || (!(t123 == bt126.2.2.1) || (!(t124.toList == bt126.2.2.2.1.toList))))) = true then (ironbarklaw05_BitsMakes.j1 kj8 a3 true a0_0 a0_1 a0_2 a0_3 a1_0 a1_1 a1_2 a1_3) else (ironbarklaw05_BitsMakes.j1 kj8 a3 (t125 != bt126.2.2.2.2) a0_0 a0_1 a0_2 a0_3 a1_0 a1_1 a1_2 a1_3))) = some r := H
     have A61 := Aside0.mk A610
     clear A610
     replace H := Option.bind_eq_some_iff.mp H
     obtain ⟨⟨t126, t127, t128, t129, t130⟩, A620, H⟩ := H
     replace H : (if (!(t121 == t126) || (!(t122 == t127) || (!(t123 == t128) || (!(t124.toList == t129.toList))))) = true then (ironbarklaw05_BitsMakes.j1 kj8 a3 true a0_0 a0_1 a0_2 a0_3 a1_0 a1_1 a1_2 a1_3) else (ironbarklaw05_BitsMakes.j1 kj8 a3 (t125 != t130) a0_0 a0_1 a0_2 a0_3 a1_0 a1_1 a1_2 a1_3)) = some r := H
     have A62 := Aside0.mk A620
     clear A620
     have HC63 := Aside0.mk H
     clear H
     have hnb64 := NB101_102.out
     have hnc64 := NB102_101.out
     have hnb65 := NB101_103.out
     have hnc65 := NB103_101.out
     have hnb66 := NB101_114.out
     have hnc66 := NB114_101.out
     have hnb67 := NB101_120.out
     have hnc67 := NB120_101.out
     obtain ⟨hcz68_0, hcz68_1, hcz68_2, hcz68_3⟩ := blk_quad BK101.out
     obtain ⟨hfz68_0, hfz68_1, hfz68_2, hfz68_3⟩ := blk_quad_free BK101.out
     go_upto_region 9 with (first | ((with_reducible refine gate_callee (f := 43) rfl ?_); refine goesL_ (some 56) rfl rfl Try.func43 (by kernel_rfl) rfl #[.agg #[.int .i64 a0_0, .int .i64 a0_1, .int .i64 a0_2, .string a0_3], .int .i64 a3] rfl (by (try simp only [List.map_toArray, List.map_cons, List.map_nil]); first | done | rfl | (simp only [List.length_drop, List.length_take]; rfl)) ?_; (with_reducible refine (bits_Repeat.calls kj8 a0_0 a0_1 a0_2 a0_3 a3 t121 t122 t123 t124 t125 _ A61.out).mono ?_); rintro e w69 ⟨rfl, hb⟩; refine ⟨_, rfl, ?_⟩; have n0_ := Aside0.mk (blk_below (zk BK101.out) hb); have n1_ := Aside0.mk (blk_below (zk BK102.out) hb); have n2_ := Aside0.mk (blk_below (zk BK103.out) hb); have n3_ := Aside0.mk (blk_below (zk BK114.out) hb); have n4_ := Aside0.mk (blk_below (zk BK120.out) hb); have n5_ := Aside0.mk (below_step (by repeat (first | (with_reducible first | exact HB.out | apply below_alloc | apply pw_below_drewN | apply below_drew1 | refine below_set ?_ GE101.out | refine below_set ?_ GE102.out | refine below_set ?_ GE103.out | refine below_set ?_ GE114.out | refine below_set ?_ GE120.out) | exact HB.out)) hb); clear BK101; clear BK102; clear BK103; clear BK114; clear BK120; clear HB; have BK101 := n0_; have BK102 := n1_; have BK103 := n2_; have BK114 := n3_; have BK120 := n4_; have HB := n5_; clear n0_ n1_ n2_ n3_ n4_ n5_; (try clear hb); (try clear hb2); (try clear hk); (try clear hi); have hnb70 := NB114_102.out; have hnc70 := NB102_114.out; have hnb71 := NB114_103.out; have hnc71 := NB103_114.out; have hnb72 := NB114_120.out; have hnc72 := NB120_114.out; obtain ⟨hcz73_0, hcz73_1, hcz73_2, hcz73_3⟩ := blk_quad BK114.out; obtain ⟨hfz73_0, hfz73_1, hfz73_2, hfz73_3⟩ := blk_quad_free BK114.out; obtain ⟨hcz74_0, hcz74_1, hcz74_2, hcz74_3⟩ := blk_quad BK101.out; obtain ⟨hfz74_0, hfz74_1, hfz74_2, hfz74_3⟩ := blk_quad_free BK101.out) | ((with_reducible refine gate_callee (f := 44) rfl ?_); refine goesL_ (some 62) rfl rfl Try.func44 (by kernel_rfl) rfl #[.agg #[.int .i64 a0_0, .int .i64 a0_1, .int .i64 a0_2, .string a0_3], .int .i64 a3] rfl (by (try simp only [List.map_toArray, List.map_cons, List.map_nil]); first | done | rfl | (simp only [List.length_drop, List.length_take]; rfl)) ?_; (with_reducible refine (ironbarkref05_Repeat.calls kj8 a0_0 a0_1 a0_2 a0_3 a3 t126 t127 t128 t129 t130 _ A62.out).mono ?_); rintro e w75 ⟨rfl, hb⟩; refine ⟨_, rfl, ?_⟩; have n0_ := Aside0.mk (blk_below (g := gb101) (o := .cells #[.int .i64 a0_0, .int .i64 a0_1, .int .i64 a0_2, .string a0_3] 23 (0, 0)) (by refine zk ?_; refine blk_far ?_ NB101_114.out _; refine zk ?_; refine blk_far ?_ NB101_114.out _; refine zk ?_; refine blk_far ?_ NB101_114.out _; refine zk ?_; refine blk_far ?_ NB101_114.out _; refine zk ?_; exact BK101.out) hb); have n1_ := Aside0.mk (blk_below (g := gb102) (o := .cells #[.int .i64 a1_0, .int .i64 a1_1, .int .i64 a1_2, .string a1_3] 23 (0, 0)) (by refine zk ?_; refine blk_far ?_ NB102_114.out _; refine zk ?_; refine blk_far ?_ NB102_114.out _; refine zk ?_; refine blk_far ?_ NB102_114.out _; refine zk ?_; refine blk_far ?_ NB102_114.out _; refine zk ?_; exact BK102.out) hb); have n2_ := Aside0.mk (blk_below (g := gb103) (o := .cells #[.int .i64 a2_0, .int .i64 a2_1, .int .i64 a2_2, .string a2_3] 23 (0, 0)) (by refine zk ?_; refine blk_far ?_ NB103_114.out _; refine zk ?_; refine blk_far ?_ NB103_114.out _; refine zk ?_; refine blk_far ?_ NB103_114.out _; refine zk ?_; refine blk_far ?_ NB103_114.out _; refine zk ?_; exact BK103.out) hb); have n3_ := Aside0.mk (blk_below (g := gb114) (o := .cells #[.int .i64 t121, .int .i64 t122, .int .i64 t123, .string t124] 23 (0, 0)) (by refine zk ?_; refine blk_put (cs := #[.int .i64 t121, .int .i64 t122, .int .i64 t123, .string t112]) ?_ 3 _ rfl; refine zk ?_; refine blk_put (cs := #[.int .i64 t121, .int .i64 t122, .int .i64 t111, .string t112]) ?_ 2 _ rfl; refine zk ?_; refine blk_put (cs := #[.int .i64 t121, .int .i64 t110, .int .i64 t111, .string t112]) ?_ 1 _ rfl; refine zk ?_; refine blk_put (cs := #[.int .i64 t109, .int .i64 t110, .int .i64 t111, .string t112]) ?_ 0 _ rfl; refine zk ?_; exact BK114.out) hb); have n4_ := Aside0.mk (blk_below (g := gb120) (o := .cells #[.int .i64 t115, .int .i64 t116, .int .i64 t117, .string t118] 23 (0, 0)) (by refine zk ?_; refine blk_far ?_ NB120_114.out _; refine zk ?_; refine blk_far ?_ NB120_114.out _; refine zk ?_; refine blk_far ?_ NB120_114.out _; refine zk ?_; refine blk_far ?_ NB120_114.out _; refine zk ?_; exact BK120.out) hb); have n5_ := Aside0.mk (below_step (by repeat (first | (with_reducible first | exact HB.out | apply below_alloc | apply pw_below_drewN | apply below_drew1 | refine below_set ?_ GE101.out | refine below_set ?_ GE102.out | refine below_set ?_ GE103.out | refine below_set ?_ GE114.out | refine below_set ?_ GE120.out) | exact HB.out)) hb); clear BK101; clear BK102; clear BK103; clear BK114; clear BK120; clear HB; have BK101 := n0_; have BK102 := n1_; have BK103 := n2_; have BK114 := n3_; have BK120 := n4_; have HB := n5_; clear n0_ n1_ n2_ n3_ n4_ n5_; (try clear hb); (try clear hb2); (try clear hk); (try clear hi); have hnb76 := NB120_102.out; have hnc76 := NB102_120.out; have hnb77 := NB120_103.out; have hnc77 := NB103_120.out; obtain ⟨hcz78_0, hcz78_1, hcz78_2, hcz78_3⟩ := blk_quad BK120.out; obtain ⟨hfz78_0, hfz78_1, hfz78_2, hfz78_3⟩ := blk_quad_free BK120.out))
     (try simp only [Act.put, List.setIfInBounds_toArray, List.set_cons_zero, List.set_cons_succ])
     go_cut [72] (fun v72 wc => ∃ (kq : Nat) (x72_62 : Bool), v72 = .bool x72_62 ∧ Aside0 (ironbarklaw05_BitsMakes.j1 kq a3 x72_62 a0_0 a0_1 a0_2 a0_3 a1_0 a1_1 a1_2 a1_3 = some r) ∧ Aside0 (kq ≤ kj8) ∧ Aside0 (wc.heap[gb101]? = some (.cells #[.int .i64 a0_0, .int .i64 a0_1, .int .i64 a0_2, .string a0_3] 23 (0, 0))) ∧ Aside0 (wc.heap[gb102]? = some (.cells #[.int .i64 a1_0, .int .i64 a1_1, .int .i64 a1_2, .string a1_3] 23 (0, 0))) ∧ Aside0 (wc.heap[gb103]? = some (.cells #[.int .i64 a2_0, .int .i64 a2_1, .int .i64 a2_2, .string a2_3] 23 (0, 0))) ∧ Aside0 (wc.heap[gb114]? = some (.cells #[.int .i64 t121, .int .i64 t122, .int .i64 t123, .string t124] 23 (0, 0))) ∧ Aside0 (wc.heap[gb120]? = some (.cells #[.int .i64 t126, .int .i64 t127, .int .i64 t128, .string t129] 23 (0, 0))) ∧ Aside0 (Below w.heap.size w wc))
     case first =>
      have H := HC63.out
      clear HC63
      by_cases c79 : (!(t121 == t126) || (!(t122 == t127) || (!(t123 == t128) || (!(t124.toList == t129.toList))))) = true
      ·rw [if_pos c79] at H
       have c79b0 : (!(t121 == t126) || (!(t122 == t127) || (!(t123 == t128) || (!(t124.toList == t129.toList))))) = true := c79
       clear c79
       (first | rw [c79b0] | (simp only [i64_w, i32_w]; rw [c79b0]) | skip)
       exact absurd (H.trans (congrArg some hrt_.out)) (ironbarklaw05_BitsMakes.j1_no _ _ _ _ _ _ _ _ _ _ )
      ·rw [if_neg c79] at H
       have c79b0 : (!(t121 == t126) || (!(t122 == t127) || (!(t123 == t128) || (!(t124.toList == t129.toList))))) = false := by simpa using c79
       clear c79
       (first | rw [c79b0] | (simp only [i64_w, i32_w]; rw [c79b0]) | skip)
       have H' := Aside0.mk H
       clear H
       have hnb89 := NB114_101.out
       have hnc89 := NB101_114.out
       have hnb90 := NB114_102.out
       have hnc90 := NB102_114.out
       have hnb91 := NB114_103.out
       have hnc91 := NB103_114.out
       have hnb92 := NB114_120.out
       have hnc92 := NB120_114.out
       obtain ⟨hcz93_0, hcz93_1, hcz93_2, hcz93_3⟩ := blk_quad BK114.out
       obtain ⟨hfz93_0, hfz93_1, hfz93_2, hfz93_3⟩ := blk_quad_free BK114.out
       have hnb94 := NB120_101.out
       have hnc94 := NB101_120.out
       have hnb95 := NB120_102.out
       have hnc95 := NB102_120.out
       have hnb96 := NB120_103.out
       have hnc96 := NB103_120.out
       obtain ⟨hcz97_0, hcz97_1, hcz97_2, hcz97_3⟩ := blk_quad BK120.out
       obtain ⟨hfz97_0, hfz97_1, hfz97_2, hfz97_3⟩ := blk_quad_free BK120.out
       go_wp2
       go_meet
       case rel => exact ⟨_, ((t125 != t130)), (by first | rfl | (simp; done) | (generalize ByteArray.toList _ = l_; cases l_ <;> rfl) | (simp [*]; done)), H', ⟨by have := HJ8.out; first | omega | exact Nat.le_refl _⟩, ⟨by refine zk ?_; refine blk_far ?_ NB101_120.out _; refine zk ?_; refine blk_far ?_ NB101_120.out _; refine zk ?_; refine blk_far ?_ NB101_120.out _; refine zk ?_; refine blk_far ?_ NB101_120.out _; refine zk ?_; exact BK101.out⟩, ⟨by refine zk ?_; refine blk_far ?_ NB102_120.out _; refine zk ?_; refine blk_far ?_ NB102_120.out _; refine zk ?_; refine blk_far ?_ NB102_120.out _; refine zk ?_; refine blk_far ?_ NB102_120.out _; refine zk ?_; exact BK102.out⟩, ⟨by refine zk ?_; refine blk_far ?_ NB103_120.out _; refine zk ?_; refine blk_far ?_ NB103_120.out _; refine zk ?_; refine blk_far ?_ NB103_120.out _; refine zk ?_; refine blk_far ?_ NB103_120.out _; refine zk ?_; exact BK103.out⟩, ⟨by refine zk ?_; refine blk_far ?_ NB114_120.out _; refine zk ?_; refine blk_far ?_ NB114_120.out _; refine zk ?_; refine blk_far ?_ NB114_120.out _; refine zk ?_; refine blk_far ?_ NB114_120.out _; refine zk ?_; exact BK114.out⟩, ⟨by refine zk ?_; refine blk_put (cs := #[.int .i64 t126, .int .i64 t127, .int .i64 t128, .string t118]) ?_ 3 _ rfl; refine zk ?_; refine blk_put (cs := #[.int .i64 t126, .int .i64 t127, .int .i64 t117, .string t118]) ?_ 2 _ rfl; refine zk ?_; refine blk_put (cs := #[.int .i64 t126, .int .i64 t116, .int .i64 t117, .string t118]) ?_ 1 _ rfl; refine zk ?_; refine blk_put (cs := #[.int .i64 t115, .int .i64 t116, .int .i64 t117, .string t118]) ?_ 0 _ rfl; refine zk ?_; exact BK120.out⟩, ⟨by repeat (first | (with_reducible first | exact HB.out | apply below_alloc | apply pw_below_drewN | apply below_drew1 | refine below_set ?_ GE101.out | refine below_set ?_ GE102.out | refine below_set ?_ GE103.out | refine below_set ?_ GE114.out | refine below_set ?_ GE120.out) | exact HB.out)⟩⟩
     case rest => as_aux_lemma =>
      clear HC63
      try clear c1
      try clear c2
      try clear p2
      try clear c3
      try clear c4
      try clear c5
      try clear c6
      try clear c7
      try clear c8
      try clear c9
      try clear c13
      try clear c14
      try clear c16
      try clear c27
      try clear c28
      try clear c29
      try clear c36
      try clear c37
      try clear c38
      try clear c39
      try clear c41
      try clear c41b0
      try clear c42
      try clear c43
      try clear c44
      try clear c45
      try clear c47
      try clear c48
      try clear c49
      try clear c51
      try clear c52
      try clear c53
      try clear c54
      try clear c56
      try clear c57
      try clear c58
      try clear c60
      try clear c64
      try clear c65
      try clear c66
      try clear c67
      try clear c70
      try clear c71
      try clear c72
      try clear c76
      try clear c77
      try clear c79
      try clear c79b0
      try clear c80
      try clear c81
      try clear c82
      try clear c83
      try clear c85
      try clear c86
      try clear c87
      try clear c89
      try clear c90
      try clear c91
      try clear c92
      try clear c94
      try clear c95
      try clear c96
      try clear hcz15_0 hcz15_1 hcz15_2 hcz15_3
      try clear hcz17_0 hcz17_1 hcz17_2 hcz17_3
      try clear hcz18_0 hcz18_1 hcz18_2 hcz18_3
      try clear hcz22_0 hcz22_1 hcz22_2 hcz22_3
      try clear hcz23_0 hcz23_1 hcz23_2 hcz23_3
      try clear hcz24_0 hcz24_1 hcz24_2 hcz24_3
      try clear hcz30_0 hcz30_1 hcz30_2 hcz30_3
      try clear hcz31_0 hcz31_1 hcz31_2 hcz31_3
      try clear hcz32_0 hcz32_1 hcz32_2 hcz32_3
      try clear hcz33_0 hcz33_1 hcz33_2 hcz33_3
      try clear hcz40_0 hcz40_1 hcz40_2 hcz40_3
      try clear hcz46_0 hcz46_1 hcz46_2 hcz46_3
      try clear hcz50_0 hcz50_1 hcz50_2 hcz50_3
      try clear hcz55_0 hcz55_1 hcz55_2 hcz55_3
      try clear hcz59_0 hcz59_1 hcz59_2 hcz59_3
      try clear hcz68_0 hcz68_1 hcz68_2 hcz68_3
      try clear hcz73_0 hcz73_1 hcz73_2 hcz73_3
      try clear hcz74_0 hcz74_1 hcz74_2 hcz74_3
      try clear hcz78_0 hcz78_1 hcz78_2 hcz78_3
      try clear hcz84_0 hcz84_1 hcz84_2 hcz84_3
      try clear hcz88_0 hcz88_1 hcz88_2 hcz88_3
      try clear hcz93_0 hcz93_1 hcz93_2 hcz93_3
      try clear hcz97_0 hcz97_1 hcz97_2 hcz97_3
      try clear hfz15_0 hfz15_1 hfz15_2 hfz15_3
      try clear hfz17_0 hfz17_1 hfz17_2 hfz17_3
      try clear hfz18_0 hfz18_1 hfz18_2 hfz18_3
      try clear hfz22_0 hfz22_1 hfz22_2 hfz22_3
      try clear hfz23_0 hfz23_1 hfz23_2 hfz23_3
      try clear hfz24_0 hfz24_1 hfz24_2 hfz24_3
      try clear hfz30_0 hfz30_1 hfz30_2 hfz30_3
      try clear hfz31_0 hfz31_1 hfz31_2 hfz31_3
      try clear hfz32_0 hfz32_1 hfz32_2 hfz32_3
      try clear hfz33_0 hfz33_1 hfz33_2 hfz33_3
      try clear hfz40_0 hfz40_1 hfz40_2 hfz40_3
      try clear hfz46_0 hfz46_1 hfz46_2 hfz46_3
      try clear hfz50_0 hfz50_1 hfz50_2 hfz50_3
      try clear hfz55_0 hfz55_1 hfz55_2 hfz55_3
      try clear hfz59_0 hfz59_1 hfz59_2 hfz59_3
      try clear hfz68_0 hfz68_1 hfz68_2 hfz68_3
      try clear hfz73_0 hfz73_1 hfz73_2 hfz73_3
      try clear hfz74_0 hfz74_1 hfz74_2 hfz74_3
      try clear hfz78_0 hfz78_1 hfz78_2 hfz78_3
      try clear hfz84_0 hfz84_1 hfz84_2 hfz84_3
      try clear hfz88_0 hfz88_1 hfz88_2 hfz88_3
      try clear hfz93_0 hfz93_1 hfz93_2 hfz93_3
      try clear hfz97_0 hfz97_1 hfz97_2 hfz97_3
      try clear p2
      obtain ⟨kq, x72_62, rfl, HA, HJ62, BK101, BK102, BK103, BK114, BK120, HB⟩ := hcut
      cases kq with
      | zero => exact absurd HA.out (by simp [ironbarklaw05_BitsMakes.j1])
      | succ kj62 =>
       have H := HA.out
       clear HA
       simp only [ironbarklaw05_BitsMakes.j1] at H
       by_cases c98 : x72_62 = true
       ·subst c98
        have H1 : (some false) = some r := by rw [if_pos rfl] at H; exact H
        clear H
        have H := H1
        clear H1
        exact absurd ((Option.some.inj H).trans hrt_.out) (by decide)
       ·replace c98 := Bool.eq_false_iff.mpr c98
        subst c98
        have H1 : ((bits_Copy.f kj62 a0_0 a0_1 a0_2 a0_3 a3).bind fun bt131 => ((ironbarkref05_Copy.f kj62 a0_0 a0_1 a0_2 a0_3 a3).bind fun bt136 => (if (!(bt131.1 == bt136.1) || (!(bt131.2.1 == bt136.2.1) || (!(bt131.2.2.1 == bt136.2.2.1) || (!(bt131.2.2.2.1.toList == bt136.2.2.2.1.toList))))) = true then (ironbarklaw05_BitsMakes.j2 kj62 a3 true a0_0 a0_1 a0_2 a0_3 a1_0 a1_1 a1_2 a1_3) else (ironbarklaw05_BitsMakes.j2 kj62 a3 (bt131.2.2.2.2 != bt136.2.2.2.2) a0_0 a0_1 a0_2 a0_3 a1_0 a1_1 a1_2 a1_3)))) = some r := by rw [if_neg (show ¬ (false = true) by decide)] at H; exact H
        clear H
        have H := H1
        clear H1
        replace H := Option.bind_eq_some_iff.mp H
        obtain ⟨⟨t131, t132, t133, t134, t135⟩, A990, H⟩ := H
        replace H : ((ironbarkref05_Copy.f kj62 a0_0 a0_1 a0_2 a0_3 a3).bind fun bt136 => (if (!(t131 == bt136.1) || (!(t132 == bt136.2.1) || (!(t133 == bt136.2.2.1) || (!(t134.toList == bt136.2.2.2.1.toList))))) = true then (ironbarklaw05_BitsMakes.j2 kj62 a3 true a0_0 a0_1 a0_2 a0_3 a1_0 a1_1 a1_2 a1_3) else (ironbarklaw05_BitsMakes.j2 kj62 a3 (t135 != bt136.2.2.2.2) a0_0 a0_1 a0_2 a0_3 a1_0 a1_1 a1_2 a1_3))) = some r := H
        have A99 := Aside0.mk A990
        clear A990
        replace H := Option.bind_eq_some_iff.mp H
        obtain ⟨⟨t136, t137, t138, t139, t140⟩, A1000, H⟩ := H
        replace H : (if (!(t131 == t136) || (!(t132 == t137) || (!(t133 == t138) || (!(t134.toList == t139.toList))))) = true then (ironbarklaw05_BitsMakes.j2 kj62 a3 true a0_0 a0_1 a0_2 a0_3 a1_0 a1_1 a1_2 a1_3) else (ironbarklaw05_BitsMakes.j2 kj62 a3 (t135 != t140) a0_0 a0_1 a0_2 a0_3 a1_0 a1_1 a1_2 a1_3)) = some r := H
        have A100 := Aside0.mk A1000
        clear A1000
        have HC101 := Aside0.mk H
        clear H
        have hnb102 := NB101_102.out
        have hnc102 := NB102_101.out
        have hnb103 := NB101_103.out
        have hnc103 := NB103_101.out
        have hnb104 := NB101_114.out
        have hnc104 := NB114_101.out
        have hnb105 := NB101_120.out
        have hnc105 := NB120_101.out
        obtain ⟨hcz106_0, hcz106_1, hcz106_2, hcz106_3⟩ := blk_quad BK101.out
        obtain ⟨hfz106_0, hfz106_1, hfz106_2, hfz106_3⟩ := blk_quad_free BK101.out
        go_upto_region 13 with (first | ((with_reducible refine gate_callee (f := 45) rfl ?_); refine goesL_ (some 76) rfl rfl Try.func45 (by kernel_rfl) rfl #[.agg #[.int .i64 a0_0, .int .i64 a0_1, .int .i64 a0_2, .string a0_3], .int .i64 a3] rfl (by (try simp only [List.map_toArray, List.map_cons, List.map_nil]); first | done | rfl | (simp only [List.length_drop, List.length_take]; rfl)) ?_; (with_reducible refine (bits_Copy.calls kj62 a0_0 a0_1 a0_2 a0_3 a3 t131 t132 t133 t134 t135 _ A99.out).mono ?_); rintro e w107 ⟨rfl, hb⟩; refine ⟨_, rfl, ?_⟩; have n0_ := Aside0.mk (blk_below (zk BK101.out) hb); have n1_ := Aside0.mk (blk_below (zk BK102.out) hb); have n2_ := Aside0.mk (blk_below (zk BK103.out) hb); have n3_ := Aside0.mk (blk_below (zk BK114.out) hb); have n4_ := Aside0.mk (blk_below (zk BK120.out) hb); have n5_ := Aside0.mk (below_step (by repeat (first | (with_reducible first | exact HB.out | apply below_alloc | apply pw_below_drewN | apply below_drew1 | refine below_set ?_ GE101.out | refine below_set ?_ GE102.out | refine below_set ?_ GE103.out | refine below_set ?_ GE114.out | refine below_set ?_ GE120.out) | exact HB.out)) hb); clear BK101; clear BK102; clear BK103; clear BK114; clear BK120; clear HB; have BK101 := n0_; have BK102 := n1_; have BK103 := n2_; have BK114 := n3_; have BK120 := n4_; have HB := n5_; clear n0_ n1_ n2_ n3_ n4_ n5_; (try clear hb); (try clear hb2); (try clear hk); (try clear hi); have hnb108 := NB114_102.out; have hnc108 := NB102_114.out; have hnb109 := NB114_103.out; have hnc109 := NB103_114.out; have hnb110 := NB114_120.out; have hnc110 := NB120_114.out; obtain ⟨hcz111_0, hcz111_1, hcz111_2, hcz111_3⟩ := blk_quad BK114.out; obtain ⟨hfz111_0, hfz111_1, hfz111_2, hfz111_3⟩ := blk_quad_free BK114.out; obtain ⟨hcz112_0, hcz112_1, hcz112_2, hcz112_3⟩ := blk_quad BK101.out; obtain ⟨hfz112_0, hfz112_1, hfz112_2, hfz112_3⟩ := blk_quad_free BK101.out) | ((with_reducible refine gate_callee (f := 46) rfl ?_); refine goesL_ (some 82) rfl rfl Try.func46 (by kernel_rfl) rfl #[.agg #[.int .i64 a0_0, .int .i64 a0_1, .int .i64 a0_2, .string a0_3], .int .i64 a3] rfl (by (try simp only [List.map_toArray, List.map_cons, List.map_nil]); first | done | rfl | (simp only [List.length_drop, List.length_take]; rfl)) ?_; (with_reducible refine (ironbarkref05_Copy.calls kj62 a0_0 a0_1 a0_2 a0_3 a3 t136 t137 t138 t139 t140 _ A100.out).mono ?_); rintro e w113 ⟨rfl, hb⟩; refine ⟨_, rfl, ?_⟩; have n0_ := Aside0.mk (blk_below (g := gb101) (o := .cells #[.int .i64 a0_0, .int .i64 a0_1, .int .i64 a0_2, .string a0_3] 23 (0, 0)) (by refine zk ?_; refine blk_far ?_ NB101_114.out _; refine zk ?_; refine blk_far ?_ NB101_114.out _; refine zk ?_; refine blk_far ?_ NB101_114.out _; refine zk ?_; refine blk_far ?_ NB101_114.out _; refine zk ?_; exact BK101.out) hb); have n1_ := Aside0.mk (blk_below (g := gb102) (o := .cells #[.int .i64 a1_0, .int .i64 a1_1, .int .i64 a1_2, .string a1_3] 23 (0, 0)) (by refine zk ?_; refine blk_far ?_ NB102_114.out _; refine zk ?_; refine blk_far ?_ NB102_114.out _; refine zk ?_; refine blk_far ?_ NB102_114.out _; refine zk ?_; refine blk_far ?_ NB102_114.out _; refine zk ?_; exact BK102.out) hb); have n2_ := Aside0.mk (blk_below (g := gb103) (o := .cells #[.int .i64 a2_0, .int .i64 a2_1, .int .i64 a2_2, .string a2_3] 23 (0, 0)) (by refine zk ?_; refine blk_far ?_ NB103_114.out _; refine zk ?_; refine blk_far ?_ NB103_114.out _; refine zk ?_; refine blk_far ?_ NB103_114.out _; refine zk ?_; refine blk_far ?_ NB103_114.out _; refine zk ?_; exact BK103.out) hb); have n3_ := Aside0.mk (blk_below (g := gb114) (o := .cells #[.int .i64 t131, .int .i64 t132, .int .i64 t133, .string t134] 23 (0, 0)) (by refine zk ?_; refine blk_put (cs := #[.int .i64 t131, .int .i64 t132, .int .i64 t133, .string t124]) ?_ 3 _ rfl; refine zk ?_; refine blk_put (cs := #[.int .i64 t131, .int .i64 t132, .int .i64 t123, .string t124]) ?_ 2 _ rfl; refine zk ?_; refine blk_put (cs := #[.int .i64 t131, .int .i64 t122, .int .i64 t123, .string t124]) ?_ 1 _ rfl; refine zk ?_; refine blk_put (cs := #[.int .i64 t121, .int .i64 t122, .int .i64 t123, .string t124]) ?_ 0 _ rfl; refine zk ?_; exact BK114.out) hb); have n4_ := Aside0.mk (blk_below (g := gb120) (o := .cells #[.int .i64 t126, .int .i64 t127, .int .i64 t128, .string t129] 23 (0, 0)) (by refine zk ?_; refine blk_far ?_ NB120_114.out _; refine zk ?_; refine blk_far ?_ NB120_114.out _; refine zk ?_; refine blk_far ?_ NB120_114.out _; refine zk ?_; refine blk_far ?_ NB120_114.out _; refine zk ?_; exact BK120.out) hb); have n5_ := Aside0.mk (below_step (by repeat (first | (with_reducible first | exact HB.out | apply below_alloc | apply pw_below_drewN | apply below_drew1 | refine below_set ?_ GE101.out | refine below_set ?_ GE102.out | refine below_set ?_ GE103.out | refine below_set ?_ GE114.out | refine below_set ?_ GE120.out) | exact HB.out)) hb); clear BK101; clear BK102; clear BK103; clear BK114; clear BK120; clear HB; have BK101 := n0_; have BK102 := n1_; have BK103 := n2_; have BK114 := n3_; have BK120 := n4_; have HB := n5_; clear n0_ n1_ n2_ n3_ n4_ n5_; (try clear hb); (try clear hb2); (try clear hk); (try clear hi); have hnb114 := NB120_102.out; have hnc114 := NB102_120.out; have hnb115 := NB120_103.out; have hnc115 := NB103_120.out; obtain ⟨hcz116_0, hcz116_1, hcz116_2, hcz116_3⟩ := blk_quad BK120.out; obtain ⟨hfz116_0, hfz116_1, hfz116_2, hfz116_3⟩ := blk_quad_free BK120.out))
        (try simp only [Act.put, List.setIfInBounds_toArray, List.set_cons_zero, List.set_cons_succ])
        go_cut [92] (fun v92 wc => ∃ (kq : Nat) (x92_100 : Bool), v92 = .bool x92_100 ∧ Aside0 (ironbarklaw05_BitsMakes.j2 kq a3 x92_100 a0_0 a0_1 a0_2 a0_3 a1_0 a1_1 a1_2 a1_3 = some r) ∧ Aside0 (kq ≤ kj62) ∧ Aside0 (wc.heap[gb101]? = some (.cells #[.int .i64 a0_0, .int .i64 a0_1, .int .i64 a0_2, .string a0_3] 23 (0, 0))) ∧ Aside0 (wc.heap[gb102]? = some (.cells #[.int .i64 a1_0, .int .i64 a1_1, .int .i64 a1_2, .string a1_3] 23 (0, 0))) ∧ Aside0 (wc.heap[gb103]? = some (.cells #[.int .i64 a2_0, .int .i64 a2_1, .int .i64 a2_2, .string a2_3] 23 (0, 0))) ∧ Aside0 (wc.heap[gb114]? = some (.cells #[.int .i64 t131, .int .i64 t132, .int .i64 t133, .string t134] 23 (0, 0))) ∧ Aside0 (wc.heap[gb120]? = some (.cells #[.int .i64 t136, .int .i64 t137, .int .i64 t138, .string t139] 23 (0, 0))) ∧ Aside0 (Below w.heap.size w wc))
        case first =>
         have H := HC101.out
         clear HC101
         by_cases c117 : (!(t131 == t136) || (!(t132 == t137) || (!(t133 == t138) || (!(t134.toList == t139.toList))))) = true
         ·rw [if_pos c117] at H
          have c117b0 : (!(t131 == t136) || (!(t132 == t137) || (!(t133 == t138) || (!(t134.toList == t139.toList))))) = true := c117
          clear c117
          (first | rw [c117b0] | (simp only [i64_w, i32_w]; rw [c117b0]) | skip)
          exact absurd (H.trans (congrArg some hrt_.out)) (ironbarklaw05_BitsMakes.j2_no _ _ _ _ _ _ _ _ _ _ )
         ·rw [if_neg c117] at H
          have c117b0 : (!(t131 == t136) || (!(t132 == t137) || (!(t133 == t138) || (!(t134.toList == t139.toList))))) = false := by simpa using c117
          clear c117
          (first | rw [c117b0] | (simp only [i64_w, i32_w]; rw [c117b0]) | skip)
          have H' := Aside0.mk H
          clear H
          have hnb127 := NB114_101.out
          have hnc127 := NB101_114.out
          have hnb128 := NB114_102.out
          have hnc128 := NB102_114.out
          have hnb129 := NB114_103.out
          have hnc129 := NB103_114.out
          have hnb130 := NB114_120.out
          have hnc130 := NB120_114.out
          obtain ⟨hcz131_0, hcz131_1, hcz131_2, hcz131_3⟩ := blk_quad BK114.out
          obtain ⟨hfz131_0, hfz131_1, hfz131_2, hfz131_3⟩ := blk_quad_free BK114.out
          have hnb132 := NB120_101.out
          have hnc132 := NB101_120.out
          have hnb133 := NB120_102.out
          have hnc133 := NB102_120.out
          have hnb134 := NB120_103.out
          have hnc134 := NB103_120.out
          obtain ⟨hcz135_0, hcz135_1, hcz135_2, hcz135_3⟩ := blk_quad BK120.out
          obtain ⟨hfz135_0, hfz135_1, hfz135_2, hfz135_3⟩ := blk_quad_free BK120.out
          go_wp2
          go_meet
          case rel => exact ⟨_, ((t135 != t140)), (by first | rfl | (simp; done) | (generalize ByteArray.toList _ = l_; cases l_ <;> rfl) | (simp [*]; done)), H', ⟨by have := HJ8.out; have := HJ62.out; first | omega | exact Nat.le_refl _⟩, ⟨by refine zk ?_; refine blk_far ?_ NB101_120.out _; refine zk ?_; refine blk_far ?_ NB101_120.out _; refine zk ?_; refine blk_far ?_ NB101_120.out _; refine zk ?_; refine blk_far ?_ NB101_120.out _; refine zk ?_; exact BK101.out⟩, ⟨by refine zk ?_; refine blk_far ?_ NB102_120.out _; refine zk ?_; refine blk_far ?_ NB102_120.out _; refine zk ?_; refine blk_far ?_ NB102_120.out _; refine zk ?_; refine blk_far ?_ NB102_120.out _; refine zk ?_; exact BK102.out⟩, ⟨by refine zk ?_; refine blk_far ?_ NB103_120.out _; refine zk ?_; refine blk_far ?_ NB103_120.out _; refine zk ?_; refine blk_far ?_ NB103_120.out _; refine zk ?_; refine blk_far ?_ NB103_120.out _; refine zk ?_; exact BK103.out⟩, ⟨by refine zk ?_; refine blk_far ?_ NB114_120.out _; refine zk ?_; refine blk_far ?_ NB114_120.out _; refine zk ?_; refine blk_far ?_ NB114_120.out _; refine zk ?_; refine blk_far ?_ NB114_120.out _; refine zk ?_; exact BK114.out⟩, ⟨by refine zk ?_; refine blk_put (cs := #[.int .i64 t136, .int .i64 t137, .int .i64 t138, .string t129]) ?_ 3 _ rfl; refine zk ?_; refine blk_put (cs := #[.int .i64 t136, .int .i64 t137, .int .i64 t128, .string t129]) ?_ 2 _ rfl; refine zk ?_; refine blk_put (cs := #[.int .i64 t136, .int .i64 t127, .int .i64 t128, .string t129]) ?_ 1 _ rfl; refine zk ?_; refine blk_put (cs := #[.int .i64 t126, .int .i64 t127, .int .i64 t128, .string t129]) ?_ 0 _ rfl; refine zk ?_; exact BK120.out⟩, ⟨by repeat (first | (with_reducible first | exact HB.out | apply below_alloc | apply pw_below_drewN | apply below_drew1 | refine below_set ?_ GE101.out | refine below_set ?_ GE102.out | refine below_set ?_ GE103.out | refine below_set ?_ GE114.out | refine below_set ?_ GE120.out) | exact HB.out)⟩⟩
        case rest => as_aux_lemma =>
         clear HC101
         try clear c1
         try clear c2
         try clear p2
         try clear c3
         try clear c4
         try clear c5
         try clear c6
         try clear c7
         try clear c8
         try clear c9
         try clear c10
         try clear c11
         try clear c12
         try clear c13
         try clear c14
         try clear c16
         try clear c27
         try clear c28
         try clear c29
         try clear c36
         try clear c37
         try clear c38
         try clear c39
         try clear c41
         try clear c41b0
         try clear c42
         try clear c43
         try clear c44
         try clear c45
         try clear c46
         try clear c47
         try clear c48
         try clear c49
         try clear c51
         try clear c52
         try clear c53
         try clear c54
         try clear c56
         try clear c57
         try clear c58
         try clear c60
         try clear c64
         try clear c65
         try clear c66
         try clear c67
         try clear c70
         try clear c71
         try clear c72
         try clear c76
         try clear c77
         try clear c79
         try clear c79b0
         try clear c80
         try clear c81
         try clear c82
         try clear c83
         try clear c85
         try clear c86
         try clear c87
         try clear c89
         try clear c90
         try clear c91
         try clear c92
         try clear c94
         try clear c95
         try clear c96
         try clear c98
         try clear c102
         try clear c103
         try clear c104
         try clear c105
         try clear c108
         try clear c109
         try clear c110
         try clear c114
         try clear c115
         try clear c117
         try clear c117b0
         try clear c118
         try clear c119
         try clear c120
         try clear c121
         try clear c123
         try clear c124
         try clear c125
         try clear c127
         try clear c128
         try clear c129
         try clear c130
         try clear c132
         try clear c133
         try clear c134
         try clear hcz106_0 hcz106_1 hcz106_2 hcz106_3
         try clear hcz111_0 hcz111_1 hcz111_2 hcz111_3
         try clear hcz112_0 hcz112_1 hcz112_2 hcz112_3
         try clear hcz116_0 hcz116_1 hcz116_2 hcz116_3
         try clear hcz122_0 hcz122_1 hcz122_2 hcz122_3
         try clear hcz126_0 hcz126_1 hcz126_2 hcz126_3
         try clear hcz131_0 hcz131_1 hcz131_2 hcz131_3
         try clear hcz135_0 hcz135_1 hcz135_2 hcz135_3
         try clear hcz15_0 hcz15_1 hcz15_2 hcz15_3
         try clear hcz17_0 hcz17_1 hcz17_2 hcz17_3
         try clear hcz18_0 hcz18_1 hcz18_2 hcz18_3
         try clear hcz22_0 hcz22_1 hcz22_2 hcz22_3
         try clear hcz23_0 hcz23_1 hcz23_2 hcz23_3
         try clear hcz24_0 hcz24_1 hcz24_2 hcz24_3
         try clear hcz30_0 hcz30_1 hcz30_2 hcz30_3
         try clear hcz31_0 hcz31_1 hcz31_2 hcz31_3
         try clear hcz32_0 hcz32_1 hcz32_2 hcz32_3
         try clear hcz33_0 hcz33_1 hcz33_2 hcz33_3
         try clear hcz40_0 hcz40_1 hcz40_2 hcz40_3
         try clear hcz46_0 hcz46_1 hcz46_2 hcz46_3
         try clear hcz50_0 hcz50_1 hcz50_2 hcz50_3
         try clear hcz55_0 hcz55_1 hcz55_2 hcz55_3
         try clear hcz59_0 hcz59_1 hcz59_2 hcz59_3
         try clear hcz68_0 hcz68_1 hcz68_2 hcz68_3
         try clear hcz73_0 hcz73_1 hcz73_2 hcz73_3
         try clear hcz74_0 hcz74_1 hcz74_2 hcz74_3
         try clear hcz78_0 hcz78_1 hcz78_2 hcz78_3
         try clear hcz84_0 hcz84_1 hcz84_2 hcz84_3
         try clear hcz88_0 hcz88_1 hcz88_2 hcz88_3
         try clear hcz93_0 hcz93_1 hcz93_2 hcz93_3
         try clear hcz97_0 hcz97_1 hcz97_2 hcz97_3
         try clear hfz106_0 hfz106_1 hfz106_2 hfz106_3
         try clear hfz111_0 hfz111_1 hfz111_2 hfz111_3
         try clear hfz112_0 hfz112_1 hfz112_2 hfz112_3
         try clear hfz116_0 hfz116_1 hfz116_2 hfz116_3
         try clear hfz122_0 hfz122_1 hfz122_2 hfz122_3
         try clear hfz126_0 hfz126_1 hfz126_2 hfz126_3
         try clear hfz131_0 hfz131_1 hfz131_2 hfz131_3
         try clear hfz135_0 hfz135_1 hfz135_2 hfz135_3
         try clear hfz15_0 hfz15_1 hfz15_2 hfz15_3
         try clear hfz17_0 hfz17_1 hfz17_2 hfz17_3
         try clear hfz18_0 hfz18_1 hfz18_2 hfz18_3
         try clear hfz22_0 hfz22_1 hfz22_2 hfz22_3
         try clear hfz23_0 hfz23_1 hfz23_2 hfz23_3
         try clear hfz24_0 hfz24_1 hfz24_2 hfz24_3
         try clear hfz30_0 hfz30_1 hfz30_2 hfz30_3
         try clear hfz31_0 hfz31_1 hfz31_2 hfz31_3
         try clear hfz32_0 hfz32_1 hfz32_2 hfz32_3
         try clear hfz33_0 hfz33_1 hfz33_2 hfz33_3
         try clear hfz40_0 hfz40_1 hfz40_2 hfz40_3
         try clear hfz46_0 hfz46_1 hfz46_2 hfz46_3
         try clear hfz50_0 hfz50_1 hfz50_2 hfz50_3
         try clear hfz55_0 hfz55_1 hfz55_2 hfz55_3
         try clear hfz59_0 hfz59_1 hfz59_2 hfz59_3
         try clear hfz68_0 hfz68_1 hfz68_2 hfz68_3
         try clear hfz73_0 hfz73_1 hfz73_2 hfz73_3
         try clear hfz74_0 hfz74_1 hfz74_2 hfz74_3
         try clear hfz78_0 hfz78_1 hfz78_2 hfz78_3
         try clear hfz84_0 hfz84_1 hfz84_2 hfz84_3
         try clear hfz88_0 hfz88_1 hfz88_2 hfz88_3
         try clear hfz93_0 hfz93_1 hfz93_2 hfz93_3
         try clear hfz97_0 hfz97_1 hfz97_2 hfz97_3
         try clear p2
         obtain ⟨kq, x92_100, rfl, HA, HJ100, BK101, BK102, BK103, BK114, BK120, HB⟩ := hcut
         cases kq with
         | zero => exact absurd HA.out (by simp [ironbarklaw05_BitsMakes.j2])
         | succ kj100 =>
          have H := HA.out
          clear HA
          simp only [ironbarklaw05_BitsMakes.j2] at H
          by_cases c136 : x92_100 = true
          ·subst c136
           have H1 : (some false) = some r := by rw [if_pos rfl] at H; exact H
           clear H
           have H := H1
           clear H1
           exact absurd ((Option.some.inj H).trans hrt_.out) (by decide)
          ·replace c136 := Bool.eq_false_iff.mpr c136
           subst c136
           have H1 : ((bits_Low.f a3).bind fun bt141 => ((ironbarkref05_Low.f kj100 a3).bind fun bt146 => (if (!(bt141.1 == bt146.1) || (!(bt141.2.1 == bt146.2.1) || (!(bt141.2.2.1 == bt146.2.2.1) || (!(bt141.2.2.2.1.toList == bt146.2.2.2.1.toList))))) = true then (ironbarklaw05_BitsMakes.j3 kj100 a3 true a0_0 a0_1 a0_2 a0_3 a1_0 a1_1 a1_2 a1_3) else (ironbarklaw05_BitsMakes.j3 kj100 a3 (bt141.2.2.2.2 != bt146.2.2.2.2) a0_0 a0_1 a0_2 a0_3 a1_0 a1_1 a1_2 a1_3)))) = some r := by rw [if_neg (show ¬ (false = true) by decide)] at H; exact H
           clear H
           have H := H1
           clear H1
           replace H := Option.bind_eq_some_iff.mp H
           obtain ⟨⟨t141, t142, t143, t144, t145⟩, A1370, H⟩ := H
           replace H : ((ironbarkref05_Low.f kj100 a3).bind fun bt146 => (if (!(t141 == bt146.1) || (!(t142 == bt146.2.1) || (!(t143 == bt146.2.2.1) || (!(t144.toList == bt146.2.2.2.1.toList))))) = true then (ironbarklaw05_BitsMakes.j3 kj100 a3 true a0_0 a0_1 a0_2 a0_3 a1_0 a1_1 a1_2 a1_3) else (ironbarklaw05_BitsMakes.j3 kj100 a3 (t145 != bt146.2.2.2.2) a0_0 a0_1 a0_2 a0_3 a1_0 a1_1 a1_2 a1_3))) = some r := H
           have A137 := Aside0.mk A1370
           clear A1370
           replace H := Option.bind_eq_some_iff.mp H
           obtain ⟨⟨t146, t147, t148, t149, t150⟩, A1380, H⟩ := H
           replace H : (if (!(t141 == t146) || (!(t142 == t147) || (!(t143 == t148) || (!(t144.toList == t149.toList))))) = true then (ironbarklaw05_BitsMakes.j3 kj100 a3 true a0_0 a0_1 a0_2 a0_3 a1_0 a1_1 a1_2 a1_3) else (ironbarklaw05_BitsMakes.j3 kj100 a3 (t145 != t150) a0_0 a0_1 a0_2 a0_3 a1_0 a1_1 a1_2 a1_3)) = some r := H
           have A138 := Aside0.mk A1380
           clear A1380
           have HC139 := Aside0.mk H
           clear H
           go_upto_region 17 with (first | ((with_reducible refine gate_callee (f := 47) rfl ?_); refine goesL_ (some 95) rfl rfl Try.func47 (by kernel_rfl) rfl #[.int .i64 a3] rfl (by (try simp only [List.map_toArray, List.map_cons, List.map_nil]); first | done | rfl | (simp only [List.length_drop, List.length_take]; rfl)) ?_; (with_reducible refine (bits_Low.calls a3 t141 t142 t143 t144 t145 _ A137.out).mono ?_); rintro e w140 ⟨rfl, hb⟩; refine ⟨_, rfl, ?_⟩; have n0_ := Aside0.mk (blk_below (zk BK101.out) hb); have n1_ := Aside0.mk (blk_below (zk BK102.out) hb); have n2_ := Aside0.mk (blk_below (zk BK103.out) hb); have n3_ := Aside0.mk (blk_below (zk BK114.out) hb); have n4_ := Aside0.mk (blk_below (zk BK120.out) hb); have n5_ := Aside0.mk (below_step (by repeat (first | (with_reducible first | exact HB.out | apply below_alloc | apply pw_below_drewN | apply below_drew1 | refine below_set ?_ GE101.out | refine below_set ?_ GE102.out | refine below_set ?_ GE103.out | refine below_set ?_ GE114.out | refine below_set ?_ GE120.out) | exact HB.out)) hb); clear BK101; clear BK102; clear BK103; clear BK114; clear BK120; clear HB; have BK101 := n0_; have BK102 := n1_; have BK103 := n2_; have BK114 := n3_; have BK120 := n4_; have HB := n5_; clear n0_ n1_ n2_ n3_ n4_ n5_; (try clear hb); (try clear hb2); (try clear hk); (try clear hi); have hnb141 := NB114_101.out; have hnc141 := NB101_114.out; have hnb142 := NB114_102.out; have hnc142 := NB102_114.out; have hnb143 := NB114_103.out; have hnc143 := NB103_114.out; have hnb144 := NB114_120.out; have hnc144 := NB120_114.out; obtain ⟨hcz145_0, hcz145_1, hcz145_2, hcz145_3⟩ := blk_quad BK114.out; obtain ⟨hfz145_0, hfz145_1, hfz145_2, hfz145_3⟩ := blk_quad_free BK114.out) | ((with_reducible refine gate_callee (f := 48) rfl ?_); refine goesL_ (some 100) rfl rfl Try.func48 (by kernel_rfl) rfl #[.int .i64 a3] rfl (by (try simp only [List.map_toArray, List.map_cons, List.map_nil]); first | done | rfl | (simp only [List.length_drop, List.length_take]; rfl)) ?_; (with_reducible refine (ironbarkref05_Low.calls kj100 a3 t146 t147 t148 t149 t150 _ A138.out).mono ?_); rintro e w146 ⟨rfl, hb⟩; refine ⟨_, rfl, ?_⟩; have n0_ := Aside0.mk (blk_below (g := gb101) (o := .cells #[.int .i64 a0_0, .int .i64 a0_1, .int .i64 a0_2, .string a0_3] 23 (0, 0)) (by refine zk ?_; refine blk_far ?_ NB101_114.out _; refine zk ?_; refine blk_far ?_ NB101_114.out _; refine zk ?_; refine blk_far ?_ NB101_114.out _; refine zk ?_; refine blk_far ?_ NB101_114.out _; refine zk ?_; exact BK101.out) hb); have n1_ := Aside0.mk (blk_below (g := gb102) (o := .cells #[.int .i64 a1_0, .int .i64 a1_1, .int .i64 a1_2, .string a1_3] 23 (0, 0)) (by refine zk ?_; refine blk_far ?_ NB102_114.out _; refine zk ?_; refine blk_far ?_ NB102_114.out _; refine zk ?_; refine blk_far ?_ NB102_114.out _; refine zk ?_; refine blk_far ?_ NB102_114.out _; refine zk ?_; exact BK102.out) hb); have n2_ := Aside0.mk (blk_below (g := gb103) (o := .cells #[.int .i64 a2_0, .int .i64 a2_1, .int .i64 a2_2, .string a2_3] 23 (0, 0)) (by refine zk ?_; refine blk_far ?_ NB103_114.out _; refine zk ?_; refine blk_far ?_ NB103_114.out _; refine zk ?_; refine blk_far ?_ NB103_114.out _; refine zk ?_; refine blk_far ?_ NB103_114.out _; refine zk ?_; exact BK103.out) hb); have n3_ := Aside0.mk (blk_below (g := gb114) (o := .cells #[.int .i64 t141, .int .i64 t142, .int .i64 t143, .string t144] 23 (0, 0)) (by refine zk ?_; refine blk_put (cs := #[.int .i64 t141, .int .i64 t142, .int .i64 t143, .string t134]) ?_ 3 _ rfl; refine zk ?_; refine blk_put (cs := #[.int .i64 t141, .int .i64 t142, .int .i64 t133, .string t134]) ?_ 2 _ rfl; refine zk ?_; refine blk_put (cs := #[.int .i64 t141, .int .i64 t132, .int .i64 t133, .string t134]) ?_ 1 _ rfl; refine zk ?_; refine blk_put (cs := #[.int .i64 t131, .int .i64 t132, .int .i64 t133, .string t134]) ?_ 0 _ rfl; refine zk ?_; exact BK114.out) hb); have n4_ := Aside0.mk (blk_below (g := gb120) (o := .cells #[.int .i64 t136, .int .i64 t137, .int .i64 t138, .string t139] 23 (0, 0)) (by refine zk ?_; refine blk_far ?_ NB120_114.out _; refine zk ?_; refine blk_far ?_ NB120_114.out _; refine zk ?_; refine blk_far ?_ NB120_114.out _; refine zk ?_; refine blk_far ?_ NB120_114.out _; refine zk ?_; exact BK120.out) hb); have n5_ := Aside0.mk (below_step (by repeat (first | (with_reducible first | exact HB.out | apply below_alloc | apply pw_below_drewN | apply below_drew1 | refine below_set ?_ GE101.out | refine below_set ?_ GE102.out | refine below_set ?_ GE103.out | refine below_set ?_ GE114.out | refine below_set ?_ GE120.out) | exact HB.out)) hb); clear BK101; clear BK102; clear BK103; clear BK114; clear BK120; clear HB; have BK101 := n0_; have BK102 := n1_; have BK103 := n2_; have BK114 := n3_; have BK120 := n4_; have HB := n5_; clear n0_ n1_ n2_ n3_ n4_ n5_; (try clear hb); (try clear hb2); (try clear hk); (try clear hi); have hnb147 := NB120_101.out; have hnc147 := NB101_120.out; have hnb148 := NB120_102.out; have hnc148 := NB102_120.out; have hnb149 := NB120_103.out; have hnc149 := NB103_120.out; obtain ⟨hcz150_0, hcz150_1, hcz150_2, hcz150_3⟩ := blk_quad BK120.out; obtain ⟨hfz150_0, hfz150_1, hfz150_2, hfz150_3⟩ := blk_quad_free BK120.out))
           (try simp only [Act.put, List.setIfInBounds_toArray, List.set_cons_zero, List.set_cons_succ])
           go_cut [110] (fun v110 wc => ∃ (kq : Nat) (x110_138 : Bool), v110 = .bool x110_138 ∧ Aside0 (ironbarklaw05_BitsMakes.j3 kq a3 x110_138 a0_0 a0_1 a0_2 a0_3 a1_0 a1_1 a1_2 a1_3 = some r) ∧ Aside0 (kq ≤ kj100) ∧ Aside0 (wc.heap[gb101]? = some (.cells #[.int .i64 a0_0, .int .i64 a0_1, .int .i64 a0_2, .string a0_3] 23 (0, 0))) ∧ Aside0 (wc.heap[gb102]? = some (.cells #[.int .i64 a1_0, .int .i64 a1_1, .int .i64 a1_2, .string a1_3] 23 (0, 0))) ∧ Aside0 (wc.heap[gb103]? = some (.cells #[.int .i64 a2_0, .int .i64 a2_1, .int .i64 a2_2, .string a2_3] 23 (0, 0))) ∧ Aside0 (wc.heap[gb114]? = some (.cells #[.int .i64 t141, .int .i64 t142, .int .i64 t143, .string t144] 23 (0, 0))) ∧ Aside0 (wc.heap[gb120]? = some (.cells #[.int .i64 t146, .int .i64 t147, .int .i64 t148, .string t149] 23 (0, 0))) ∧ Aside0 (Below w.heap.size w wc))
           case first =>
            have H := HC139.out
            clear HC139
            by_cases c151 : (!(t141 == t146) || (!(t142 == t147) || (!(t143 == t148) || (!(t144.toList == t149.toList))))) = true
            ·rw [if_pos c151] at H
             have c151b0 : (!(t141 == t146) || (!(t142 == t147) || (!(t143 == t148) || (!(t144.toList == t149.toList))))) = true := c151
             clear c151
             (first | rw [c151b0] | (simp only [i64_w, i32_w]; rw [c151b0]) | skip)
             exact absurd (H.trans (congrArg some hrt_.out)) (ironbarklaw05_BitsMakes.j3_no _ _ _ _ _ _ _ _ _ _ )
            ·rw [if_neg c151] at H
             have c151b0 : (!(t141 == t146) || (!(t142 == t147) || (!(t143 == t148) || (!(t144.toList == t149.toList))))) = false := by simpa using c151
             clear c151
             (first | rw [c151b0] | (simp only [i64_w, i32_w]; rw [c151b0]) | skip)
             have H' := Aside0.mk H
             clear H
             have hnb161 := NB114_101.out
             have hnc161 := NB101_114.out
             have hnb162 := NB114_102.out
             have hnc162 := NB102_114.out
             have hnb163 := NB114_103.out
             have hnc163 := NB103_114.out
             have hnb164 := NB114_120.out
             have hnc164 := NB120_114.out
             obtain ⟨hcz165_0, hcz165_1, hcz165_2, hcz165_3⟩ := blk_quad BK114.out
             obtain ⟨hfz165_0, hfz165_1, hfz165_2, hfz165_3⟩ := blk_quad_free BK114.out
             have hnb166 := NB120_101.out
             have hnc166 := NB101_120.out
             have hnb167 := NB120_102.out
             have hnc167 := NB102_120.out
             have hnb168 := NB120_103.out
             have hnc168 := NB103_120.out
             obtain ⟨hcz169_0, hcz169_1, hcz169_2, hcz169_3⟩ := blk_quad BK120.out
             obtain ⟨hfz169_0, hfz169_1, hfz169_2, hfz169_3⟩ := blk_quad_free BK120.out
             go_wp2
             go_meet
             case rel => exact ⟨_, ((t145 != t150)), (by first | rfl | (simp; done) | (generalize ByteArray.toList _ = l_; cases l_ <;> rfl) | (simp [*]; done)), H', ⟨by have := HJ8.out; have := HJ62.out; have := HJ100.out; first | omega | exact Nat.le_refl _⟩, ⟨by refine zk ?_; refine blk_far ?_ NB101_120.out _; refine zk ?_; refine blk_far ?_ NB101_120.out _; refine zk ?_; refine blk_far ?_ NB101_120.out _; refine zk ?_; refine blk_far ?_ NB101_120.out _; refine zk ?_; exact BK101.out⟩, ⟨by refine zk ?_; refine blk_far ?_ NB102_120.out _; refine zk ?_; refine blk_far ?_ NB102_120.out _; refine zk ?_; refine blk_far ?_ NB102_120.out _; refine zk ?_; refine blk_far ?_ NB102_120.out _; refine zk ?_; exact BK102.out⟩, ⟨by refine zk ?_; refine blk_far ?_ NB103_120.out _; refine zk ?_; refine blk_far ?_ NB103_120.out _; refine zk ?_; refine blk_far ?_ NB103_120.out _; refine zk ?_; refine blk_far ?_ NB103_120.out _; refine zk ?_; exact BK103.out⟩, ⟨by refine zk ?_; refine blk_far ?_ NB114_120.out _; refine zk ?_; refine blk_far ?_ NB114_120.out _; refine zk ?_; refine blk_far ?_ NB114_120.out _; refine zk ?_; refine blk_far ?_ NB114_120.out _; refine zk ?_; exact BK114.out⟩, ⟨by refine zk ?_; refine blk_put (cs := #[.int .i64 t146, .int .i64 t147, .int .i64 t148, .string t139]) ?_ 3 _ rfl; refine zk ?_; refine blk_put (cs := #[.int .i64 t146, .int .i64 t147, .int .i64 t138, .string t139]) ?_ 2 _ rfl; refine zk ?_; refine blk_put (cs := #[.int .i64 t146, .int .i64 t137, .int .i64 t138, .string t139]) ?_ 1 _ rfl; refine zk ?_; refine blk_put (cs := #[.int .i64 t136, .int .i64 t137, .int .i64 t138, .string t139]) ?_ 0 _ rfl; refine zk ?_; exact BK120.out⟩, ⟨by repeat (first | (with_reducible first | exact HB.out | apply below_alloc | apply pw_below_drewN | apply below_drew1 | refine below_set ?_ GE101.out | refine below_set ?_ GE102.out | refine below_set ?_ GE103.out | refine below_set ?_ GE114.out | refine below_set ?_ GE120.out) | exact HB.out)⟩⟩
           case rest => as_aux_lemma =>
            clear HC139
            try clear c1
            try clear c2
            try clear p2
            try clear c3
            try clear c4
            try clear c5
            try clear c6
            try clear c7
            try clear c8
            try clear c9
            try clear c10
            try clear c11
            try clear c12
            try clear c13
            try clear c14
            try clear c15
            try clear c16
            try clear c27
            try clear c28
            try clear c29
            try clear c36
            try clear c37
            try clear c38
            try clear c39
            try clear c41
            try clear c41b0
            try clear c42
            try clear c43
            try clear c44
            try clear c45
            try clear c46
            try clear c47
            try clear c48
            try clear c49
            try clear c51
            try clear c52
            try clear c53
            try clear c54
            try clear c56
            try clear c57
            try clear c58
            try clear c60
            try clear c64
            try clear c65
            try clear c66
            try clear c67
            try clear c70
            try clear c71
            try clear c72
            try clear c76
            try clear c77
            try clear c79
            try clear c79b0
            try clear c80
            try clear c81
            try clear c82
            try clear c83
            try clear c85
            try clear c86
            try clear c87
            try clear c89
            try clear c90
            try clear c91
            try clear c92
            try clear c94
            try clear c95
            try clear c96
            try clear c98
            try clear c102
            try clear c103
            try clear c104
            try clear c105
            try clear c108
            try clear c109
            try clear c110
            try clear c114
            try clear c115
            try clear c117
            try clear c117b0
            try clear c118
            try clear c119
            try clear c120
            try clear c121
            try clear c123
            try clear c124
            try clear c125
            try clear c127
            try clear c128
            try clear c129
            try clear c130
            try clear c132
            try clear c133
            try clear c134
            try clear c136
            try clear c141
            try clear c142
            try clear c143
            try clear c144
            try clear c147
            try clear c148
            try clear c149
            try clear c151
            try clear c151b0
            try clear c152
            try clear c153
            try clear c154
            try clear c155
            try clear c157
            try clear c158
            try clear c159
            try clear c161
            try clear c162
            try clear c163
            try clear c164
            try clear c166
            try clear c167
            try clear c168
            try clear hcz106_0 hcz106_1 hcz106_2 hcz106_3
            try clear hcz111_0 hcz111_1 hcz111_2 hcz111_3
            try clear hcz112_0 hcz112_1 hcz112_2 hcz112_3
            try clear hcz116_0 hcz116_1 hcz116_2 hcz116_3
            try clear hcz122_0 hcz122_1 hcz122_2 hcz122_3
            try clear hcz126_0 hcz126_1 hcz126_2 hcz126_3
            try clear hcz131_0 hcz131_1 hcz131_2 hcz131_3
            try clear hcz135_0 hcz135_1 hcz135_2 hcz135_3
            try clear hcz145_0 hcz145_1 hcz145_2 hcz145_3
            try clear hcz150_0 hcz150_1 hcz150_2 hcz150_3
            try clear hcz156_0 hcz156_1 hcz156_2 hcz156_3
            try clear hcz15_0 hcz15_1 hcz15_2 hcz15_3
            try clear hcz160_0 hcz160_1 hcz160_2 hcz160_3
            try clear hcz165_0 hcz165_1 hcz165_2 hcz165_3
            try clear hcz169_0 hcz169_1 hcz169_2 hcz169_3
            try clear hcz17_0 hcz17_1 hcz17_2 hcz17_3
            try clear hcz18_0 hcz18_1 hcz18_2 hcz18_3
            try clear hcz22_0 hcz22_1 hcz22_2 hcz22_3
            try clear hcz23_0 hcz23_1 hcz23_2 hcz23_3
            try clear hcz24_0 hcz24_1 hcz24_2 hcz24_3
            try clear hcz30_0 hcz30_1 hcz30_2 hcz30_3
            try clear hcz31_0 hcz31_1 hcz31_2 hcz31_3
            try clear hcz32_0 hcz32_1 hcz32_2 hcz32_3
            try clear hcz33_0 hcz33_1 hcz33_2 hcz33_3
            try clear hcz40_0 hcz40_1 hcz40_2 hcz40_3
            try clear hcz46_0 hcz46_1 hcz46_2 hcz46_3
            try clear hcz50_0 hcz50_1 hcz50_2 hcz50_3
            try clear hcz55_0 hcz55_1 hcz55_2 hcz55_3
            try clear hcz59_0 hcz59_1 hcz59_2 hcz59_3
            try clear hcz68_0 hcz68_1 hcz68_2 hcz68_3
            try clear hcz73_0 hcz73_1 hcz73_2 hcz73_3
            try clear hcz74_0 hcz74_1 hcz74_2 hcz74_3
            try clear hcz78_0 hcz78_1 hcz78_2 hcz78_3
            try clear hcz84_0 hcz84_1 hcz84_2 hcz84_3
            try clear hcz88_0 hcz88_1 hcz88_2 hcz88_3
            try clear hcz93_0 hcz93_1 hcz93_2 hcz93_3
            try clear hcz97_0 hcz97_1 hcz97_2 hcz97_3
            try clear hfz106_0 hfz106_1 hfz106_2 hfz106_3
            try clear hfz111_0 hfz111_1 hfz111_2 hfz111_3
            try clear hfz112_0 hfz112_1 hfz112_2 hfz112_3
            try clear hfz116_0 hfz116_1 hfz116_2 hfz116_3
            try clear hfz122_0 hfz122_1 hfz122_2 hfz122_3
            try clear hfz126_0 hfz126_1 hfz126_2 hfz126_3
            try clear hfz131_0 hfz131_1 hfz131_2 hfz131_3
            try clear hfz135_0 hfz135_1 hfz135_2 hfz135_3
            try clear hfz145_0 hfz145_1 hfz145_2 hfz145_3
            try clear hfz150_0 hfz150_1 hfz150_2 hfz150_3
            try clear hfz156_0 hfz156_1 hfz156_2 hfz156_3
            try clear hfz15_0 hfz15_1 hfz15_2 hfz15_3
            try clear hfz160_0 hfz160_1 hfz160_2 hfz160_3
            try clear hfz165_0 hfz165_1 hfz165_2 hfz165_3
            try clear hfz169_0 hfz169_1 hfz169_2 hfz169_3
            try clear hfz17_0 hfz17_1 hfz17_2 hfz17_3
            try clear hfz18_0 hfz18_1 hfz18_2 hfz18_3
            try clear hfz22_0 hfz22_1 hfz22_2 hfz22_3
            try clear hfz23_0 hfz23_1 hfz23_2 hfz23_3
            try clear hfz24_0 hfz24_1 hfz24_2 hfz24_3
            try clear hfz30_0 hfz30_1 hfz30_2 hfz30_3
            try clear hfz31_0 hfz31_1 hfz31_2 hfz31_3
            try clear hfz32_0 hfz32_1 hfz32_2 hfz32_3
            try clear hfz33_0 hfz33_1 hfz33_2 hfz33_3
            try clear hfz40_0 hfz40_1 hfz40_2 hfz40_3
            try clear hfz46_0 hfz46_1 hfz46_2 hfz46_3
            try clear hfz50_0 hfz50_1 hfz50_2 hfz50_3
            try clear hfz55_0 hfz55_1 hfz55_2 hfz55_3
            try clear hfz59_0 hfz59_1 hfz59_2 hfz59_3
            try clear hfz68_0 hfz68_1 hfz68_2 hfz68_3
            try clear hfz73_0 hfz73_1 hfz73_2 hfz73_3
            try clear hfz74_0 hfz74_1 hfz74_2 hfz74_3
            try clear hfz78_0 hfz78_1 hfz78_2 hfz78_3
            try clear hfz84_0 hfz84_1 hfz84_2 hfz84_3
            try clear hfz88_0 hfz88_1 hfz88_2 hfz88_3
            try clear hfz93_0 hfz93_1 hfz93_2 hfz93_3
            try clear hfz97_0 hfz97_1 hfz97_2 hfz97_3
            try clear p2
            obtain ⟨kq, x110_138, rfl, HA, HJ138, BK101, BK102, BK103, BK114, BK120, HB⟩ := hcut
            cases kq with
            | zero => exact absurd HA.out (by simp [ironbarklaw05_BitsMakes.j3])
            | succ kj138 =>
             have H := HA.out
             clear HA
             simp only [ironbarklaw05_BitsMakes.j3] at H
             by_cases c170 : x110_138 = true
             ·subst c170
              have H1 : (some false) = some r := by rw [if_pos rfl] at H; exact H
              clear H
              have H := H1
              clear H1
              exact absurd ((Option.some.inj H).trans hrt_.out) (by decide)
             ·replace c170 := Bool.eq_false_iff.mpr c170
              subst c170
              have H1 : ((bits_High.f a3).bind fun bt151 => ((ironbarkref05_High.f kj138 a3).bind fun bt156 => (if (!(bt151.1 == bt156.1) || (!(bt151.2.1 == bt156.2.1) || (!(bt151.2.2.1 == bt156.2.2.1) || (!(bt151.2.2.2.1.toList == bt156.2.2.2.1.toList))))) = true then (ironbarklaw05_BitsMakes.j4 kj138 true a0_0 a0_1 a0_2 a0_3 a1_0 a1_1 a1_2 a1_3) else (ironbarklaw05_BitsMakes.j4 kj138 (bt151.2.2.2.2 != bt156.2.2.2.2) a0_0 a0_1 a0_2 a0_3 a1_0 a1_1 a1_2 a1_3)))) = some r := by rw [if_neg (show ¬ (false = true) by decide)] at H; exact H
              clear H
              have H := H1
              clear H1
              replace H := Option.bind_eq_some_iff.mp H
              obtain ⟨⟨t151, t152, t153, t154, t155⟩, A1710, H⟩ := H
              replace H : ((ironbarkref05_High.f kj138 a3).bind fun bt156 => (if (!(t151 == bt156.1) || (!(t152 == bt156.2.1) || (!(t153 == bt156.2.2.1) || (!(t154.toList == bt156.2.2.2.1.toList))))) = true then (ironbarklaw05_BitsMakes.j4 kj138 true a0_0 a0_1 a0_2 a0_3 a1_0 a1_1 a1_2 a1_3) else (ironbarklaw05_BitsMakes.j4 kj138 (t155 != bt156.2.2.2.2) a0_0 a0_1 a0_2 a0_3 a1_0 a1_1 a1_2 a1_3))) = some r := H
              have A171 := Aside0.mk A1710
              clear A1710
              replace H := Option.bind_eq_some_iff.mp H
              obtain ⟨⟨t156, t157, t158, t159, t160⟩, A1720, H⟩ := H
              replace H : (if (!(t151 == t156) || (!(t152 == t157) || (!(t153 == t158) || (!(t154.toList == t159.toList))))) = true then (ironbarklaw05_BitsMakes.j4 kj138 true a0_0 a0_1 a0_2 a0_3 a1_0 a1_1 a1_2 a1_3) else (ironbarklaw05_BitsMakes.j4 kj138 (t155 != t160) a0_0 a0_1 a0_2 a0_3 a1_0 a1_1 a1_2 a1_3)) = some r := H
              have A172 := Aside0.mk A1720
              clear A1720
              have HC173 := Aside0.mk H
              clear H
              go_upto_region 21 with (first | ((with_reducible refine gate_callee (f := 49) rfl ?_); refine goesL_ (some 113) rfl rfl Try.func49 (by kernel_rfl) rfl #[.int .i64 a3] rfl (by (try simp only [List.map_toArray, List.map_cons, List.map_nil]); first | done | rfl | (simp only [List.length_drop, List.length_take]; rfl)) ?_; (with_reducible refine (bits_High.calls a3 t151 t152 t153 t154 t155 _ A171.out).mono ?_); rintro e w174 ⟨rfl, hb⟩; refine ⟨_, rfl, ?_⟩; have n0_ := Aside0.mk (blk_below (zk BK101.out) hb); have n1_ := Aside0.mk (blk_below (zk BK102.out) hb); have n2_ := Aside0.mk (blk_below (zk BK103.out) hb); have n3_ := Aside0.mk (blk_below (zk BK114.out) hb); have n4_ := Aside0.mk (blk_below (zk BK120.out) hb); have n5_ := Aside0.mk (below_step (by repeat (first | (with_reducible first | exact HB.out | apply below_alloc | apply pw_below_drewN | apply below_drew1 | refine below_set ?_ GE101.out | refine below_set ?_ GE102.out | refine below_set ?_ GE103.out | refine below_set ?_ GE114.out | refine below_set ?_ GE120.out) | exact HB.out)) hb); clear BK101; clear BK102; clear BK103; clear BK114; clear BK120; clear HB; have BK101 := n0_; have BK102 := n1_; have BK103 := n2_; have BK114 := n3_; have BK120 := n4_; have HB := n5_; clear n0_ n1_ n2_ n3_ n4_ n5_; (try clear hb); (try clear hb2); (try clear hk); (try clear hi); have hnb175 := NB114_101.out; have hnc175 := NB101_114.out; have hnb176 := NB114_102.out; have hnc176 := NB102_114.out; have hnb177 := NB114_103.out; have hnc177 := NB103_114.out; have hnb178 := NB114_120.out; have hnc178 := NB120_114.out; obtain ⟨hcz179_0, hcz179_1, hcz179_2, hcz179_3⟩ := blk_quad BK114.out; obtain ⟨hfz179_0, hfz179_1, hfz179_2, hfz179_3⟩ := blk_quad_free BK114.out) | ((with_reducible refine gate_callee (f := 50) rfl ?_); refine goesL_ (some 118) rfl rfl Try.func50 (by kernel_rfl) rfl #[.int .i64 a3] rfl (by (try simp only [List.map_toArray, List.map_cons, List.map_nil]); first | done | rfl | (simp only [List.length_drop, List.length_take]; rfl)) ?_; (with_reducible refine (ironbarkref05_High.calls kj138 a3 t156 t157 t158 t159 t160 _ A172.out).mono ?_); rintro e w180 ⟨rfl, hb⟩; refine ⟨_, rfl, ?_⟩; have n0_ := Aside0.mk (blk_below (g := gb101) (o := .cells #[.int .i64 a0_0, .int .i64 a0_1, .int .i64 a0_2, .string a0_3] 23 (0, 0)) (by refine zk ?_; refine blk_far ?_ NB101_114.out _; refine zk ?_; refine blk_far ?_ NB101_114.out _; refine zk ?_; refine blk_far ?_ NB101_114.out _; refine zk ?_; refine blk_far ?_ NB101_114.out _; refine zk ?_; exact BK101.out) hb); have n1_ := Aside0.mk (blk_below (g := gb102) (o := .cells #[.int .i64 a1_0, .int .i64 a1_1, .int .i64 a1_2, .string a1_3] 23 (0, 0)) (by refine zk ?_; refine blk_far ?_ NB102_114.out _; refine zk ?_; refine blk_far ?_ NB102_114.out _; refine zk ?_; refine blk_far ?_ NB102_114.out _; refine zk ?_; refine blk_far ?_ NB102_114.out _; refine zk ?_; exact BK102.out) hb); have n2_ := Aside0.mk (blk_below (g := gb103) (o := .cells #[.int .i64 a2_0, .int .i64 a2_1, .int .i64 a2_2, .string a2_3] 23 (0, 0)) (by refine zk ?_; refine blk_far ?_ NB103_114.out _; refine zk ?_; refine blk_far ?_ NB103_114.out _; refine zk ?_; refine blk_far ?_ NB103_114.out _; refine zk ?_; refine blk_far ?_ NB103_114.out _; refine zk ?_; exact BK103.out) hb); have n3_ := Aside0.mk (blk_below (g := gb114) (o := .cells #[.int .i64 t151, .int .i64 t152, .int .i64 t153, .string t154] 23 (0, 0)) (by refine zk ?_; refine blk_put (cs := #[.int .i64 t151, .int .i64 t152, .int .i64 t153, .string t144]) ?_ 3 _ rfl; refine zk ?_; refine blk_put (cs := #[.int .i64 t151, .int .i64 t152, .int .i64 t143, .string t144]) ?_ 2 _ rfl; refine zk ?_; refine blk_put (cs := #[.int .i64 t151, .int .i64 t142, .int .i64 t143, .string t144]) ?_ 1 _ rfl; refine zk ?_; refine blk_put (cs := #[.int .i64 t141, .int .i64 t142, .int .i64 t143, .string t144]) ?_ 0 _ rfl; refine zk ?_; exact BK114.out) hb); have n4_ := Aside0.mk (blk_below (g := gb120) (o := .cells #[.int .i64 t146, .int .i64 t147, .int .i64 t148, .string t149] 23 (0, 0)) (by refine zk ?_; refine blk_far ?_ NB120_114.out _; refine zk ?_; refine blk_far ?_ NB120_114.out _; refine zk ?_; refine blk_far ?_ NB120_114.out _; refine zk ?_; refine blk_far ?_ NB120_114.out _; refine zk ?_; exact BK120.out) hb); have n5_ := Aside0.mk (below_step (by repeat (first | (with_reducible first | exact HB.out | apply below_alloc | apply pw_below_drewN | apply below_drew1 | refine below_set ?_ GE101.out | refine below_set ?_ GE102.out | refine below_set ?_ GE103.out | refine below_set ?_ GE114.out | refine below_set ?_ GE120.out) | exact HB.out)) hb); clear BK101; clear BK102; clear BK103; clear BK114; clear BK120; clear HB; have BK101 := n0_; have BK102 := n1_; have BK103 := n2_; have BK114 := n3_; have BK120 := n4_; have HB := n5_; clear n0_ n1_ n2_ n3_ n4_ n5_; (try clear hb); (try clear hb2); (try clear hk); (try clear hi); have hnb181 := NB120_101.out; have hnc181 := NB101_120.out; have hnb182 := NB120_102.out; have hnc182 := NB102_120.out; have hnb183 := NB120_103.out; have hnc183 := NB103_120.out; obtain ⟨hcz184_0, hcz184_1, hcz184_2, hcz184_3⟩ := blk_quad BK120.out; obtain ⟨hfz184_0, hfz184_1, hfz184_2, hfz184_3⟩ := blk_quad_free BK120.out))
              (try simp only [Act.put, List.setIfInBounds_toArray, List.set_cons_zero, List.set_cons_succ])
              go_cut [128] (fun v128 wc => ∃ (kq : Nat) (x128_172 : Bool), v128 = .bool x128_172 ∧ Aside0 (ironbarklaw05_BitsMakes.j4 kq x128_172 a0_0 a0_1 a0_2 a0_3 a1_0 a1_1 a1_2 a1_3 = some r) ∧ Aside0 (kq ≤ kj138) ∧ Aside0 (wc.heap[gb101]? = some (.cells #[.int .i64 a0_0, .int .i64 a0_1, .int .i64 a0_2, .string a0_3] 23 (0, 0))) ∧ Aside0 (wc.heap[gb102]? = some (.cells #[.int .i64 a1_0, .int .i64 a1_1, .int .i64 a1_2, .string a1_3] 23 (0, 0))) ∧ Aside0 (wc.heap[gb103]? = some (.cells #[.int .i64 a2_0, .int .i64 a2_1, .int .i64 a2_2, .string a2_3] 23 (0, 0))) ∧ Aside0 (wc.heap[gb114]? = some (.cells #[.int .i64 t151, .int .i64 t152, .int .i64 t153, .string t154] 23 (0, 0))) ∧ Aside0 (wc.heap[gb120]? = some (.cells #[.int .i64 t156, .int .i64 t157, .int .i64 t158, .string t159] 23 (0, 0))) ∧ Aside0 (Below w.heap.size w wc))
              case first =>
               have H := HC173.out
               clear HC173
               by_cases c185 : (!(t151 == t156) || (!(t152 == t157) || (!(t153 == t158) || (!(t154.toList == t159.toList))))) = true
               ·rw [if_pos c185] at H
                have c185b0 : (!(t151 == t156) || (!(t152 == t157) || (!(t153 == t158) || (!(t154.toList == t159.toList))))) = true := c185
                clear c185
                (first | rw [c185b0] | (simp only [i64_w, i32_w]; rw [c185b0]) | skip)
                exact absurd (H.trans (congrArg some hrt_.out)) (ironbarklaw05_BitsMakes.j4_no _ _ _ _ _ _ _ _ _ )
               ·rw [if_neg c185] at H
                have c185b0 : (!(t151 == t156) || (!(t152 == t157) || (!(t153 == t158) || (!(t154.toList == t159.toList))))) = false := by simpa using c185
                clear c185
                (first | rw [c185b0] | (simp only [i64_w, i32_w]; rw [c185b0]) | skip)
                have H' := Aside0.mk H
                clear H
                have hnb195 := NB114_101.out
                have hnc195 := NB101_114.out
                have hnb196 := NB114_102.out
                have hnc196 := NB102_114.out
                have hnb197 := NB114_103.out
                have hnc197 := NB103_114.out
                have hnb198 := NB114_120.out
                have hnc198 := NB120_114.out
                obtain ⟨hcz199_0, hcz199_1, hcz199_2, hcz199_3⟩ := blk_quad BK114.out
                obtain ⟨hfz199_0, hfz199_1, hfz199_2, hfz199_3⟩ := blk_quad_free BK114.out
                have hnb200 := NB120_101.out
                have hnc200 := NB101_120.out
                have hnb201 := NB120_102.out
                have hnc201 := NB102_120.out
                have hnb202 := NB120_103.out
                have hnc202 := NB103_120.out
                obtain ⟨hcz203_0, hcz203_1, hcz203_2, hcz203_3⟩ := blk_quad BK120.out
                obtain ⟨hfz203_0, hfz203_1, hfz203_2, hfz203_3⟩ := blk_quad_free BK120.out
                go_wp2
                go_meet
                case rel => exact ⟨_, ((t155 != t160)), (by first | rfl | (simp; done) | (generalize ByteArray.toList _ = l_; cases l_ <;> rfl) | (simp [*]; done)), H', ⟨by have := HJ8.out; have := HJ62.out; have := HJ100.out; have := HJ138.out; first | omega | exact Nat.le_refl _⟩, ⟨by refine zk ?_; refine blk_far ?_ NB101_120.out _; refine zk ?_; refine blk_far ?_ NB101_120.out _; refine zk ?_; refine blk_far ?_ NB101_120.out _; refine zk ?_; refine blk_far ?_ NB101_120.out _; refine zk ?_; exact BK101.out⟩, ⟨by refine zk ?_; refine blk_far ?_ NB102_120.out _; refine zk ?_; refine blk_far ?_ NB102_120.out _; refine zk ?_; refine blk_far ?_ NB102_120.out _; refine zk ?_; refine blk_far ?_ NB102_120.out _; refine zk ?_; exact BK102.out⟩, ⟨by refine zk ?_; refine blk_far ?_ NB103_120.out _; refine zk ?_; refine blk_far ?_ NB103_120.out _; refine zk ?_; refine blk_far ?_ NB103_120.out _; refine zk ?_; refine blk_far ?_ NB103_120.out _; refine zk ?_; exact BK103.out⟩, ⟨by refine zk ?_; refine blk_far ?_ NB114_120.out _; refine zk ?_; refine blk_far ?_ NB114_120.out _; refine zk ?_; refine blk_far ?_ NB114_120.out _; refine zk ?_; refine blk_far ?_ NB114_120.out _; refine zk ?_; exact BK114.out⟩, ⟨by refine zk ?_; refine blk_put (cs := #[.int .i64 t156, .int .i64 t157, .int .i64 t158, .string t149]) ?_ 3 _ rfl; refine zk ?_; refine blk_put (cs := #[.int .i64 t156, .int .i64 t157, .int .i64 t148, .string t149]) ?_ 2 _ rfl; refine zk ?_; refine blk_put (cs := #[.int .i64 t156, .int .i64 t147, .int .i64 t148, .string t149]) ?_ 1 _ rfl; refine zk ?_; refine blk_put (cs := #[.int .i64 t146, .int .i64 t147, .int .i64 t148, .string t149]) ?_ 0 _ rfl; refine zk ?_; exact BK120.out⟩, ⟨by repeat (first | (with_reducible first | exact HB.out | apply below_alloc | apply pw_below_drewN | apply below_drew1 | refine below_set ?_ GE101.out | refine below_set ?_ GE102.out | refine below_set ?_ GE103.out | refine below_set ?_ GE114.out | refine below_set ?_ GE120.out) | exact HB.out)⟩⟩
              case rest => as_aux_lemma =>
               clear HC173
               try clear c1
               try clear c2
               try clear p2
               try clear c3
               try clear c4
               try clear c5
               try clear c6
               try clear c7
               try clear c8
               try clear c9
               try clear c10
               try clear c11
               try clear c12
               try clear c13
               try clear c14
               try clear c15
               try clear c16
               try clear c17
               try clear c18
               try clear c19
               try clear c20
               try clear c27
               try clear c28
               try clear c29
               try clear c36
               try clear c37
               try clear c38
               try clear c39
               try clear c41
               try clear c41b0
               try clear c42
               try clear c43
               try clear c44
               try clear c45
               try clear c46
               try clear c47
               try clear c48
               try clear c49
               try clear c50
               try clear c51
               try clear c52
               try clear c53
               try clear c54
               try clear c56
               try clear c57
               try clear c58
               try clear c60
               try clear c64
               try clear c65
               try clear c66
               try clear c67
               try clear c70
               try clear c71
               try clear c72
               try clear c76
               try clear c77
               try clear c79
               try clear c79b0
               try clear c80
               try clear c81
               try clear c82
               try clear c83
               try clear c85
               try clear c86
               try clear c87
               try clear c89
               try clear c90
               try clear c91
               try clear c92
               try clear c94
               try clear c95
               try clear c96
               try clear c98
               try clear c102
               try clear c103
               try clear c104
               try clear c105
               try clear c108
               try clear c109
               try clear c110
               try clear c114
               try clear c115
               try clear c117
               try clear c117b0
               try clear c118
               try clear c119
               try clear c120
               try clear c121
               try clear c123
               try clear c124
               try clear c125
               try clear c127
               try clear c128
               try clear c129
               try clear c130
               try clear c132
               try clear c133
               try clear c134
               try clear c136
               try clear c141
               try clear c142
               try clear c143
               try clear c144
               try clear c147
               try clear c148
               try clear c149
               try clear c151
               try clear c151b0
               try clear c152
               try clear c153
               try clear c154
               try clear c155
               try clear c157
               try clear c158
               try clear c159
               try clear c161
               try clear c162
               try clear c163
               try clear c164
               try clear c166
               try clear c167
               try clear c168
               try clear c170
               try clear c175
               try clear c176
               try clear c177
               try clear c178
               try clear c181
               try clear c182
               try clear c183
               try clear c185
               try clear c185b0
               try clear c186
               try clear c187
               try clear c188
               try clear c189
               try clear c191
               try clear c192
               try clear c193
               try clear c195
               try clear c196
               try clear c197
               try clear c198
               try clear c200
               try clear c201
               try clear c202
               try clear hcz106_0 hcz106_1 hcz106_2 hcz106_3
               try clear hcz111_0 hcz111_1 hcz111_2 hcz111_3
               try clear hcz112_0 hcz112_1 hcz112_2 hcz112_3
               try clear hcz116_0 hcz116_1 hcz116_2 hcz116_3
               try clear hcz122_0 hcz122_1 hcz122_2 hcz122_3
               try clear hcz126_0 hcz126_1 hcz126_2 hcz126_3
               try clear hcz131_0 hcz131_1 hcz131_2 hcz131_3
               try clear hcz135_0 hcz135_1 hcz135_2 hcz135_3
               try clear hcz145_0 hcz145_1 hcz145_2 hcz145_3
               try clear hcz150_0 hcz150_1 hcz150_2 hcz150_3
               try clear hcz156_0 hcz156_1 hcz156_2 hcz156_3
               try clear hcz15_0 hcz15_1 hcz15_2 hcz15_3
               try clear hcz160_0 hcz160_1 hcz160_2 hcz160_3
               try clear hcz165_0 hcz165_1 hcz165_2 hcz165_3
               try clear hcz169_0 hcz169_1 hcz169_2 hcz169_3
               try clear hcz179_0 hcz179_1 hcz179_2 hcz179_3
               try clear hcz17_0 hcz17_1 hcz17_2 hcz17_3
               try clear hcz184_0 hcz184_1 hcz184_2 hcz184_3
               try clear hcz18_0 hcz18_1 hcz18_2 hcz18_3
               try clear hcz190_0 hcz190_1 hcz190_2 hcz190_3
               try clear hcz194_0 hcz194_1 hcz194_2 hcz194_3
               try clear hcz199_0 hcz199_1 hcz199_2 hcz199_3
               try clear hcz203_0 hcz203_1 hcz203_2 hcz203_3
               try clear hcz22_0 hcz22_1 hcz22_2 hcz22_3
               try clear hcz23_0 hcz23_1 hcz23_2 hcz23_3
               try clear hcz24_0 hcz24_1 hcz24_2 hcz24_3
               try clear hcz30_0 hcz30_1 hcz30_2 hcz30_3
               try clear hcz31_0 hcz31_1 hcz31_2 hcz31_3
               try clear hcz32_0 hcz32_1 hcz32_2 hcz32_3
               try clear hcz33_0 hcz33_1 hcz33_2 hcz33_3
               try clear hcz40_0 hcz40_1 hcz40_2 hcz40_3
               try clear hcz46_0 hcz46_1 hcz46_2 hcz46_3
               try clear hcz50_0 hcz50_1 hcz50_2 hcz50_3
               try clear hcz55_0 hcz55_1 hcz55_2 hcz55_3
               try clear hcz59_0 hcz59_1 hcz59_2 hcz59_3
               try clear hcz68_0 hcz68_1 hcz68_2 hcz68_3
               try clear hcz73_0 hcz73_1 hcz73_2 hcz73_3
               try clear hcz74_0 hcz74_1 hcz74_2 hcz74_3
               try clear hcz78_0 hcz78_1 hcz78_2 hcz78_3
               try clear hcz84_0 hcz84_1 hcz84_2 hcz84_3
               try clear hcz88_0 hcz88_1 hcz88_2 hcz88_3
               try clear hcz93_0 hcz93_1 hcz93_2 hcz93_3
               try clear hcz97_0 hcz97_1 hcz97_2 hcz97_3
               try clear hfz106_0 hfz106_1 hfz106_2 hfz106_3
               try clear hfz111_0 hfz111_1 hfz111_2 hfz111_3
               try clear hfz112_0 hfz112_1 hfz112_2 hfz112_3
               try clear hfz116_0 hfz116_1 hfz116_2 hfz116_3
               try clear hfz122_0 hfz122_1 hfz122_2 hfz122_3
               try clear hfz126_0 hfz126_1 hfz126_2 hfz126_3
               try clear hfz131_0 hfz131_1 hfz131_2 hfz131_3
               try clear hfz135_0 hfz135_1 hfz135_2 hfz135_3
               try clear hfz145_0 hfz145_1 hfz145_2 hfz145_3
               try clear hfz150_0 hfz150_1 hfz150_2 hfz150_3
               try clear hfz156_0 hfz156_1 hfz156_2 hfz156_3
               try clear hfz15_0 hfz15_1 hfz15_2 hfz15_3
               try clear hfz160_0 hfz160_1 hfz160_2 hfz160_3
               try clear hfz165_0 hfz165_1 hfz165_2 hfz165_3
               try clear hfz169_0 hfz169_1 hfz169_2 hfz169_3
               try clear hfz179_0 hfz179_1 hfz179_2 hfz179_3
               try clear hfz17_0 hfz17_1 hfz17_2 hfz17_3
               try clear hfz184_0 hfz184_1 hfz184_2 hfz184_3
               try clear hfz18_0 hfz18_1 hfz18_2 hfz18_3
               try clear hfz190_0 hfz190_1 hfz190_2 hfz190_3
               try clear hfz194_0 hfz194_1 hfz194_2 hfz194_3
               try clear hfz199_0 hfz199_1 hfz199_2 hfz199_3
               try clear hfz203_0 hfz203_1 hfz203_2 hfz203_3
               try clear hfz22_0 hfz22_1 hfz22_2 hfz22_3
               try clear hfz23_0 hfz23_1 hfz23_2 hfz23_3
               try clear hfz24_0 hfz24_1 hfz24_2 hfz24_3
               try clear hfz30_0 hfz30_1 hfz30_2 hfz30_3
               try clear hfz31_0 hfz31_1 hfz31_2 hfz31_3
               try clear hfz32_0 hfz32_1 hfz32_2 hfz32_3
               try clear hfz33_0 hfz33_1 hfz33_2 hfz33_3
               try clear hfz40_0 hfz40_1 hfz40_2 hfz40_3
               try clear hfz46_0 hfz46_1 hfz46_2 hfz46_3
               try clear hfz50_0 hfz50_1 hfz50_2 hfz50_3
               try clear hfz55_0 hfz55_1 hfz55_2 hfz55_3
               try clear hfz59_0 hfz59_1 hfz59_2 hfz59_3
               try clear hfz68_0 hfz68_1 hfz68_2 hfz68_3
               try clear hfz73_0 hfz73_1 hfz73_2 hfz73_3
               try clear hfz74_0 hfz74_1 hfz74_2 hfz74_3
               try clear hfz78_0 hfz78_1 hfz78_2 hfz78_3
               try clear hfz84_0 hfz84_1 hfz84_2 hfz84_3
               try clear hfz88_0 hfz88_1 hfz88_2 hfz88_3
               try clear hfz93_0 hfz93_1 hfz93_2 hfz93_3
               try clear hfz97_0 hfz97_1 hfz97_2 hfz97_3
               try clear p2
               obtain ⟨kq, x128_172, rfl, HA, HJ172, BK101, BK102, BK103, BK114, BK120, HB⟩ := hcut
               cases kq with
               | zero => exact absurd HA.out (by simp [ironbarklaw05_BitsMakes.j4])
               | succ kj172 =>
                have H := HA.out
                clear HA
                simp only [ironbarklaw05_BitsMakes.j4] at H
                by_cases c204 : x128_172 = true
                ·subst c204
                 have H1 : (some false) = some r := by rw [if_pos rfl] at H; exact H
                 clear H
                 have H := H1
                 clear H1
                 exact absurd ((Option.some.inj H).trans hrt_.out) (by decide)
                ·replace c204 := Bool.eq_false_iff.mpr c204
                 subst c204
                 have H1 : ((bits_Join.f a0_0 a0_1 a0_2 a0_3 a1_0 a1_1 a1_2 a1_3).bind fun bt161 => ((ironbarkref05_Join.f a0_0 a0_1 a0_2 a0_3 a1_0 a1_1 a1_2 a1_3).bind fun bt166 => (if (!(bt161.1 == bt166.1) || (!(bt161.2.1 == bt166.2.1) || (!(bt161.2.2.1 == bt166.2.2.1) || (!(bt161.2.2.2.1.toList == bt166.2.2.2.1.toList))))) = true then (ironbarklaw05_BitsMakes.j5 kj172 bt161.2.2.2.2 true a0_0 a0_1 a0_2 a0_3 a1_0 a1_1 a1_2 a1_3 bt161.1 bt161.2.1 bt161.2.2.1 bt161.2.2.2.1) else (ironbarklaw05_BitsMakes.j5 kj172 bt161.2.2.2.2 (bt161.2.2.2.2 != bt166.2.2.2.2) a0_0 a0_1 a0_2 a0_3 a1_0 a1_1 a1_2 a1_3 bt161.1 bt161.2.1 bt161.2.2.1 bt161.2.2.2.1)))) = some r := by rw [if_neg (show ¬ (false = true) by decide)] at H; exact H
                 clear H
                 have H := H1
                 clear H1
                 replace H := Option.bind_eq_some_iff.mp H
                 obtain ⟨⟨t161, t162, t163, t164, t165⟩, A2050, H⟩ := H
                 replace H : ((ironbarkref05_Join.f a0_0 a0_1 a0_2 a0_3 a1_0 a1_1 a1_2 a1_3).bind fun bt166 => (if (!(t161 == bt166.1) || (!(t162 == bt166.2.1) || (!(t163 == bt166.2.2.1) || (!(t164.toList == bt166.2.2.2.1.toList))))) = true then (ironbarklaw05_BitsMakes.j5 kj172 t165 true a0_0 a0_1 a0_2 a0_3 a1_0 a1_1 a1_2 a1_3 t161 t162 t163 t164) else (ironbarklaw05_BitsMakes.j5 kj172 t165 (t165 != bt166.2.2.2.2) a0_0 a0_1 a0_2 a0_3 a1_0 a1_1 a1_2 a1_3 t161 t162 t163 t164))) = some r := H
                 have A205 := Aside0.mk A2050
                 clear A2050
                 replace H := Option.bind_eq_some_iff.mp H
                 obtain ⟨⟨t166, t167, t168, t169, t170⟩, A2060, H⟩ := H
                 replace H : (if (!(t161 == t166) || (!(t162 == t167) || (!(t163 == t168) || (!(t164.toList == t169.toList))))) = true then (ironbarklaw05_BitsMakes.j5 kj172 t165 true a0_0 a0_1 a0_2 a0_3 a1_0 a1_1 a1_2 a1_3 t161 t162 t163 t164) else (ironbarklaw05_BitsMakes.j5 kj172 t165 (t165 != t170) a0_0 a0_1 a0_2 a0_3 a1_0 a1_1 a1_2 a1_3 t161 t162 t163 t164)) = some r := H
                 have A206 := Aside0.mk A2060
                 clear A2060
                 have HC207 := Aside0.mk H
                 clear H
                 have hnb208 := NB101_102.out
                 have hnc208 := NB102_101.out
                 have hnb209 := NB101_103.out
                 have hnc209 := NB103_101.out
                 have hnb210 := NB101_114.out
                 have hnc210 := NB114_101.out
                 have hnb211 := NB101_120.out
                 have hnc211 := NB120_101.out
                 obtain ⟨hcz212_0, hcz212_1, hcz212_2, hcz212_3⟩ := blk_quad BK101.out
                 obtain ⟨hfz212_0, hfz212_1, hfz212_2, hfz212_3⟩ := blk_quad_free BK101.out
                 have hnb213 := NB102_103.out
                 have hnc213 := NB103_102.out
                 have hnb214 := NB102_114.out
                 have hnc214 := NB114_102.out
                 have hnb215 := NB102_120.out
                 have hnc215 := NB120_102.out
                 obtain ⟨hcz216_0, hcz216_1, hcz216_2, hcz216_3⟩ := blk_quad BK102.out
                 obtain ⟨hfz216_0, hfz216_1, hfz216_2, hfz216_3⟩ := blk_quad_free BK102.out
                 go_upto_region 25 with (first | ((with_reducible refine gate_callee (f := 51) rfl ?_); refine goesL_ (some 132) rfl rfl Try.func51 (by kernel_rfl) rfl #[.agg #[.int .i64 a0_0, .int .i64 a0_1, .int .i64 a0_2, .string a0_3], .agg #[.int .i64 a1_0, .int .i64 a1_1, .int .i64 a1_2, .string a1_3]] rfl (by (try simp only [List.map_toArray, List.map_cons, List.map_nil]); first | done | rfl | (simp only [List.length_drop, List.length_take]; rfl)) ?_; (with_reducible refine (bits_Join.calls a0_0 a0_1 a0_2 a0_3 a1_0 a1_1 a1_2 a1_3 t161 t162 t163 t164 t165 _ A205.out).mono ?_); rintro e w217 ⟨rfl, hb⟩; refine ⟨_, rfl, ?_⟩; have n0_ := Aside0.mk (blk_below (zk BK101.out) hb); have n1_ := Aside0.mk (blk_below (zk BK102.out) hb); have n2_ := Aside0.mk (blk_below (zk BK103.out) hb); have n3_ := Aside0.mk (blk_below (zk BK114.out) hb); have n4_ := Aside0.mk (blk_below (zk BK120.out) hb); have n5_ := Aside0.mk (below_step (by repeat (first | (with_reducible first | exact HB.out | apply below_alloc | apply pw_below_drewN | apply below_drew1 | refine below_set ?_ GE101.out | refine below_set ?_ GE102.out | refine below_set ?_ GE103.out | refine below_set ?_ GE114.out | refine below_set ?_ GE120.out) | exact HB.out)) hb); clear BK101; clear BK102; clear BK103; clear BK114; clear BK120; clear HB; have BK101 := n0_; have BK102 := n1_; have BK103 := n2_; have BK114 := n3_; have BK120 := n4_; have HB := n5_; clear n0_ n1_ n2_ n3_ n4_ n5_; (try clear hb); (try clear hb2); (try clear hk); (try clear hi); have hnb218 := NB114_103.out; have hnc218 := NB103_114.out; have hnb219 := NB114_120.out; have hnc219 := NB120_114.out; obtain ⟨hcz220_0, hcz220_1, hcz220_2, hcz220_3⟩ := blk_quad BK114.out; obtain ⟨hfz220_0, hfz220_1, hfz220_2, hfz220_3⟩ := blk_quad_free BK114.out; obtain ⟨hcz221_0, hcz221_1, hcz221_2, hcz221_3⟩ := blk_quad BK101.out; obtain ⟨hfz221_0, hfz221_1, hfz221_2, hfz221_3⟩ := blk_quad_free BK101.out; obtain ⟨hcz222_0, hcz222_1, hcz222_2, hcz222_3⟩ := blk_quad BK102.out; obtain ⟨hfz222_0, hfz222_1, hfz222_2, hfz222_3⟩ := blk_quad_free BK102.out) | ((with_reducible refine gate_callee (f := 52) rfl ?_); refine goesL_ (some 138) rfl rfl Try.func52 (by kernel_rfl) rfl #[.agg #[.int .i64 a0_0, .int .i64 a0_1, .int .i64 a0_2, .string a0_3], .agg #[.int .i64 a1_0, .int .i64 a1_1, .int .i64 a1_2, .string a1_3]] rfl (by (try simp only [List.map_toArray, List.map_cons, List.map_nil]); first | done | rfl | (simp only [List.length_drop, List.length_take]; rfl)) ?_; (with_reducible refine (ironbarkref05_Join.calls a0_0 a0_1 a0_2 a0_3 a1_0 a1_1 a1_2 a1_3 t166 t167 t168 t169 t170 _ A206.out).mono ?_); rintro e w223 ⟨rfl, hb⟩; refine ⟨_, rfl, ?_⟩; have n0_ := Aside0.mk (blk_below (g := gb101) (o := .cells #[.int .i64 a0_0, .int .i64 a0_1, .int .i64 a0_2, .string a0_3] 23 (0, 0)) (by refine zk ?_; refine blk_far ?_ NB101_114.out _; refine zk ?_; refine blk_far ?_ NB101_114.out _; refine zk ?_; refine blk_far ?_ NB101_114.out _; refine zk ?_; refine blk_far ?_ NB101_114.out _; refine zk ?_; exact BK101.out) hb); have n1_ := Aside0.mk (blk_below (g := gb102) (o := .cells #[.int .i64 a1_0, .int .i64 a1_1, .int .i64 a1_2, .string a1_3] 23 (0, 0)) (by refine zk ?_; refine blk_far ?_ NB102_114.out _; refine zk ?_; refine blk_far ?_ NB102_114.out _; refine zk ?_; refine blk_far ?_ NB102_114.out _; refine zk ?_; refine blk_far ?_ NB102_114.out _; refine zk ?_; exact BK102.out) hb); have n2_ := Aside0.mk (blk_below (g := gb103) (o := .cells #[.int .i64 a2_0, .int .i64 a2_1, .int .i64 a2_2, .string a2_3] 23 (0, 0)) (by refine zk ?_; refine blk_far ?_ NB103_114.out _; refine zk ?_; refine blk_far ?_ NB103_114.out _; refine zk ?_; refine blk_far ?_ NB103_114.out _; refine zk ?_; refine blk_far ?_ NB103_114.out _; refine zk ?_; exact BK103.out) hb); have n3_ := Aside0.mk (blk_below (g := gb114) (o := .cells #[.int .i64 t161, .int .i64 t162, .int .i64 t163, .string t164] 23 (0, 0)) (by refine zk ?_; refine blk_put (cs := #[.int .i64 t161, .int .i64 t162, .int .i64 t163, .string t154]) ?_ 3 _ rfl; refine zk ?_; refine blk_put (cs := #[.int .i64 t161, .int .i64 t162, .int .i64 t153, .string t154]) ?_ 2 _ rfl; refine zk ?_; refine blk_put (cs := #[.int .i64 t161, .int .i64 t152, .int .i64 t153, .string t154]) ?_ 1 _ rfl; refine zk ?_; refine blk_put (cs := #[.int .i64 t151, .int .i64 t152, .int .i64 t153, .string t154]) ?_ 0 _ rfl; refine zk ?_; exact BK114.out) hb); have n4_ := Aside0.mk (blk_below (g := gb120) (o := .cells #[.int .i64 t156, .int .i64 t157, .int .i64 t158, .string t159] 23 (0, 0)) (by refine zk ?_; refine blk_far ?_ NB120_114.out _; refine zk ?_; refine blk_far ?_ NB120_114.out _; refine zk ?_; refine blk_far ?_ NB120_114.out _; refine zk ?_; refine blk_far ?_ NB120_114.out _; refine zk ?_; exact BK120.out) hb); have n5_ := Aside0.mk (below_step (by repeat (first | (with_reducible first | exact HB.out | apply below_alloc | apply pw_below_drewN | apply below_drew1 | refine below_set ?_ GE101.out | refine below_set ?_ GE102.out | refine below_set ?_ GE103.out | refine below_set ?_ GE114.out | refine below_set ?_ GE120.out) | exact HB.out)) hb); clear BK101; clear BK102; clear BK103; clear BK114; clear BK120; clear HB; have BK101 := n0_; have BK102 := n1_; have BK103 := n2_; have BK114 := n3_; have BK120 := n4_; have HB := n5_; clear n0_ n1_ n2_ n3_ n4_ n5_; (try clear hb); (try clear hb2); (try clear hk); (try clear hi); have hnb224 := NB120_103.out; have hnc224 := NB103_120.out; obtain ⟨hcz225_0, hcz225_1, hcz225_2, hcz225_3⟩ := blk_quad BK120.out; obtain ⟨hfz225_0, hfz225_1, hfz225_2, hfz225_3⟩ := blk_quad_free BK120.out))
                 (try simp only [Act.put, List.setIfInBounds_toArray, List.set_cons_zero, List.set_cons_succ])
                 go_cut [148] (fun v148 wc => ∃ (kq : Nat) (x148_206 : Bool), v148 = .bool x148_206 ∧ Aside0 (ironbarklaw05_BitsMakes.j5 kq t165 x148_206 a0_0 a0_1 a0_2 a0_3 a1_0 a1_1 a1_2 a1_3 t161 t162 t163 t164 = some r) ∧ Aside0 (kq ≤ kj172) ∧ Aside0 (wc.heap[gb101]? = some (.cells #[.int .i64 a0_0, .int .i64 a0_1, .int .i64 a0_2, .string a0_3] 23 (0, 0))) ∧ Aside0 (wc.heap[gb102]? = some (.cells #[.int .i64 a1_0, .int .i64 a1_1, .int .i64 a1_2, .string a1_3] 23 (0, 0))) ∧ Aside0 (wc.heap[gb103]? = some (.cells #[.int .i64 a2_0, .int .i64 a2_1, .int .i64 a2_2, .string a2_3] 23 (0, 0))) ∧ Aside0 (wc.heap[gb114]? = some (.cells #[.int .i64 t161, .int .i64 t162, .int .i64 t163, .string t164] 23 (0, 0))) ∧ Aside0 (wc.heap[gb120]? = some (.cells #[.int .i64 t166, .int .i64 t167, .int .i64 t168, .string t169] 23 (0, 0))) ∧ Aside0 (Below w.heap.size w wc))
                 case first =>
                  have H := HC207.out
                  clear HC207
                  by_cases c226 : (!(t161 == t166) || (!(t162 == t167) || (!(t163 == t168) || (!(t164.toList == t169.toList))))) = true
                  ·rw [if_pos c226] at H
                   have c226b0 : (!(t161 == t166) || (!(t162 == t167) || (!(t163 == t168) || (!(t164.toList == t169.toList))))) = true := c226
                   clear c226
                   (first | rw [c226b0] | (simp only [i64_w, i32_w]; rw [c226b0]) | skip)
                   exact absurd (H.trans (congrArg some hrt_.out)) (ironbarklaw05_BitsMakes.j5_no _ _ _ _ _ _ _ _ _ _ _ _ _ _ )
                  ·rw [if_neg c226] at H
                   have c226b0 : (!(t161 == t166) || (!(t162 == t167) || (!(t163 == t168) || (!(t164.toList == t169.toList))))) = false := by simpa using c226
                   clear c226
                   (first | rw [c226b0] | (simp only [i64_w, i32_w]; rw [c226b0]) | skip)
                   have H' := Aside0.mk H
                   clear H
                   have hnb236 := NB114_101.out
                   have hnc236 := NB101_114.out
                   have hnb237 := NB114_102.out
                   have hnc237 := NB102_114.out
                   have hnb238 := NB114_103.out
                   have hnc238 := NB103_114.out
                   have hnb239 := NB114_120.out
                   have hnc239 := NB120_114.out
                   obtain ⟨hcz240_0, hcz240_1, hcz240_2, hcz240_3⟩ := blk_quad BK114.out
                   obtain ⟨hfz240_0, hfz240_1, hfz240_2, hfz240_3⟩ := blk_quad_free BK114.out
                   have hnb241 := NB120_101.out
                   have hnc241 := NB101_120.out
                   have hnb242 := NB120_102.out
                   have hnc242 := NB102_120.out
                   have hnb243 := NB120_103.out
                   have hnc243 := NB103_120.out
                   obtain ⟨hcz244_0, hcz244_1, hcz244_2, hcz244_3⟩ := blk_quad BK120.out
                   obtain ⟨hfz244_0, hfz244_1, hfz244_2, hfz244_3⟩ := blk_quad_free BK120.out
                   go_wp2
                   go_meet
                   case rel => exact ⟨_, ((t165 != t170)), (by first | rfl | (simp; done) | (generalize ByteArray.toList _ = l_; cases l_ <;> rfl) | (simp [*]; done)), H', ⟨by have := HJ8.out; have := HJ62.out; have := HJ100.out; have := HJ138.out; have := HJ172.out; first | omega | exact Nat.le_refl _⟩, ⟨by refine zk ?_; refine blk_far ?_ NB101_120.out _; refine zk ?_; refine blk_far ?_ NB101_120.out _; refine zk ?_; refine blk_far ?_ NB101_120.out _; refine zk ?_; refine blk_far ?_ NB101_120.out _; refine zk ?_; exact BK101.out⟩, ⟨by refine zk ?_; refine blk_far ?_ NB102_120.out _; refine zk ?_; refine blk_far ?_ NB102_120.out _; refine zk ?_; refine blk_far ?_ NB102_120.out _; refine zk ?_; refine blk_far ?_ NB102_120.out _; refine zk ?_; exact BK102.out⟩, ⟨by refine zk ?_; refine blk_far ?_ NB103_120.out _; refine zk ?_; refine blk_far ?_ NB103_120.out _; refine zk ?_; refine blk_far ?_ NB103_120.out _; refine zk ?_; refine blk_far ?_ NB103_120.out _; refine zk ?_; exact BK103.out⟩, ⟨by refine zk ?_; refine blk_far ?_ NB114_120.out _; refine zk ?_; refine blk_far ?_ NB114_120.out _; refine zk ?_; refine blk_far ?_ NB114_120.out _; refine zk ?_; refine blk_far ?_ NB114_120.out _; refine zk ?_; exact BK114.out⟩, ⟨by refine zk ?_; refine blk_put (cs := #[.int .i64 t166, .int .i64 t167, .int .i64 t168, .string t159]) ?_ 3 _ rfl; refine zk ?_; refine blk_put (cs := #[.int .i64 t166, .int .i64 t167, .int .i64 t158, .string t159]) ?_ 2 _ rfl; refine zk ?_; refine blk_put (cs := #[.int .i64 t166, .int .i64 t157, .int .i64 t158, .string t159]) ?_ 1 _ rfl; refine zk ?_; refine blk_put (cs := #[.int .i64 t156, .int .i64 t157, .int .i64 t158, .string t159]) ?_ 0 _ rfl; refine zk ?_; exact BK120.out⟩, ⟨by repeat (first | (with_reducible first | exact HB.out | apply below_alloc | apply pw_below_drewN | apply below_drew1 | refine below_set ?_ GE101.out | refine below_set ?_ GE102.out | refine below_set ?_ GE103.out | refine below_set ?_ GE114.out | refine below_set ?_ GE120.out) | exact HB.out)⟩⟩
                 case rest => as_aux_lemma =>
                  clear HC207
                  try clear c1
                  try clear c2
                  try clear p2
                  try clear c5
                  try clear c6
                  try clear c7
                  try clear c8
                  try clear c9
                  try clear c10
                  try clear c11
                  try clear c12
                  try clear c13
                  try clear c14
                  try clear c15
                  try clear c16
                  try clear c17
                  try clear c18
                  try clear c19
                  try clear c20
                  try clear c21
                  try clear c22
                  try clear c23
                  try clear c24
                  try clear c51
                  try clear c52
                  try clear c53
                  try clear c54
                  try clear c56
                  try clear c57
                  try clear c58
                  try clear c60
                  try clear c64
                  try clear c65
                  try clear c66
                  try clear c67
                  try clear c70
                  try clear c71
                  try clear c72
                  try clear c76
                  try clear c77
                  try clear c79
                  try clear c79b0
                  try clear c80
                  try clear c81
                  try clear c82
                  try clear c83
                  try clear c85
                  try clear c86
                  try clear c87
                  try clear c89
                  try clear c90
                  try clear c91
                  try clear c92
                  try clear c94
                  try clear c95
                  try clear c96
                  try clear c98
                  try clear c102
                  try clear c103
                  try clear c104
                  try clear c105
                  try clear c108
                  try clear c109
                  try clear c110
                  try clear c114
                  try clear c115
                  try clear c117
                  try clear c117b0
                  try clear c118
                  try clear c119
                  try clear c120
                  try clear c121
                  try clear c123
                  try clear c124
                  try clear c125
                  try clear c127
                  try clear c128
                  try clear c129
                  try clear c130
                  try clear c132
                  try clear c133
                  try clear c134
                  try clear c136
                  try clear c141
                  try clear c142
                  try clear c143
                  try clear c144
                  try clear c147
                  try clear c148
                  try clear c149
                  try clear c151
                  try clear c151b0
                  try clear c152
                  try clear c153
                  try clear c154
                  try clear c155
                  try clear c157
                  try clear c158
                  try clear c159
                  try clear c161
                  try clear c162
                  try clear c163
                  try clear c164
                  try clear c166
                  try clear c167
                  try clear c168
                  try clear c170
                  try clear c175
                  try clear c176
                  try clear c177
                  try clear c178
                  try clear c181
                  try clear c182
                  try clear c183
                  try clear c185
                  try clear c185b0
                  try clear c186
                  try clear c187
                  try clear c188
                  try clear c189
                  try clear c191
                  try clear c192
                  try clear c193
                  try clear c195
                  try clear c196
                  try clear c197
                  try clear c198
                  try clear c200
                  try clear c201
                  try clear c202
                  try clear c204
                  try clear c208
                  try clear c209
                  try clear c210
                  try clear c211
                  try clear c213
                  try clear c214
                  try clear c215
                  try clear c218
                  try clear c219
                  try clear c224
                  try clear c226
                  try clear c226b0
                  try clear c227
                  try clear c228
                  try clear c229
                  try clear c230
                  try clear c232
                  try clear c233
                  try clear c234
                  try clear c236
                  try clear c237
                  try clear c238
                  try clear c239
                  try clear c241
                  try clear c242
                  try clear c243
                  try clear hcz106_0 hcz106_1 hcz106_2 hcz106_3
                  try clear hcz111_0 hcz111_1 hcz111_2 hcz111_3
                  try clear hcz112_0 hcz112_1 hcz112_2 hcz112_3
                  try clear hcz116_0 hcz116_1 hcz116_2 hcz116_3
                  try clear hcz122_0 hcz122_1 hcz122_2 hcz122_3
                  try clear hcz126_0 hcz126_1 hcz126_2 hcz126_3
                  try clear hcz131_0 hcz131_1 hcz131_2 hcz131_3
                  try clear hcz135_0 hcz135_1 hcz135_2 hcz135_3
                  try clear hcz145_0 hcz145_1 hcz145_2 hcz145_3
                  try clear hcz150_0 hcz150_1 hcz150_2 hcz150_3
                  try clear hcz156_0 hcz156_1 hcz156_2 hcz156_3
                  try clear hcz15_0 hcz15_1 hcz15_2 hcz15_3
                  try clear hcz160_0 hcz160_1 hcz160_2 hcz160_3
                  try clear hcz165_0 hcz165_1 hcz165_2 hcz165_3
                  try clear hcz169_0 hcz169_1 hcz169_2 hcz169_3
                  try clear hcz179_0 hcz179_1 hcz179_2 hcz179_3
                  try clear hcz17_0 hcz17_1 hcz17_2 hcz17_3
                  try clear hcz184_0 hcz184_1 hcz184_2 hcz184_3
                  try clear hcz18_0 hcz18_1 hcz18_2 hcz18_3
                  try clear hcz190_0 hcz190_1 hcz190_2 hcz190_3
                  try clear hcz194_0 hcz194_1 hcz194_2 hcz194_3
                  try clear hcz199_0 hcz199_1 hcz199_2 hcz199_3
                  try clear hcz203_0 hcz203_1 hcz203_2 hcz203_3
                  try clear hcz212_0 hcz212_1 hcz212_2 hcz212_3
                  try clear hcz216_0 hcz216_1 hcz216_2 hcz216_3
                  try clear hcz220_0 hcz220_1 hcz220_2 hcz220_3
                  try clear hcz221_0 hcz221_1 hcz221_2 hcz221_3
                  try clear hcz222_0 hcz222_1 hcz222_2 hcz222_3
                  try clear hcz225_0 hcz225_1 hcz225_2 hcz225_3
                  try clear hcz22_0 hcz22_1 hcz22_2 hcz22_3
                  try clear hcz231_0 hcz231_1 hcz231_2 hcz231_3
                  try clear hcz235_0 hcz235_1 hcz235_2 hcz235_3
                  try clear hcz23_0 hcz23_1 hcz23_2 hcz23_3
                  try clear hcz240_0 hcz240_1 hcz240_2 hcz240_3
                  try clear hcz244_0 hcz244_1 hcz244_2 hcz244_3
                  try clear hcz24_0 hcz24_1 hcz24_2 hcz24_3
                  try clear hcz30_0 hcz30_1 hcz30_2 hcz30_3
                  try clear hcz31_0 hcz31_1 hcz31_2 hcz31_3
                  try clear hcz32_0 hcz32_1 hcz32_2 hcz32_3
                  try clear hcz33_0 hcz33_1 hcz33_2 hcz33_3
                  try clear hcz40_0 hcz40_1 hcz40_2 hcz40_3
                  try clear hcz46_0 hcz46_1 hcz46_2 hcz46_3
                  try clear hcz50_0 hcz50_1 hcz50_2 hcz50_3
                  try clear hcz55_0 hcz55_1 hcz55_2 hcz55_3
                  try clear hcz59_0 hcz59_1 hcz59_2 hcz59_3
                  try clear hcz68_0 hcz68_1 hcz68_2 hcz68_3
                  try clear hcz73_0 hcz73_1 hcz73_2 hcz73_3
                  try clear hcz74_0 hcz74_1 hcz74_2 hcz74_3
                  try clear hcz78_0 hcz78_1 hcz78_2 hcz78_3
                  try clear hcz84_0 hcz84_1 hcz84_2 hcz84_3
                  try clear hcz88_0 hcz88_1 hcz88_2 hcz88_3
                  try clear hcz93_0 hcz93_1 hcz93_2 hcz93_3
                  try clear hcz97_0 hcz97_1 hcz97_2 hcz97_3
                  try clear hfz106_0 hfz106_1 hfz106_2 hfz106_3
                  try clear hfz111_0 hfz111_1 hfz111_2 hfz111_3
                  try clear hfz112_0 hfz112_1 hfz112_2 hfz112_3
                  try clear hfz116_0 hfz116_1 hfz116_2 hfz116_3
                  try clear hfz122_0 hfz122_1 hfz122_2 hfz122_3
                  try clear hfz126_0 hfz126_1 hfz126_2 hfz126_3
                  try clear hfz131_0 hfz131_1 hfz131_2 hfz131_3
                  try clear hfz135_0 hfz135_1 hfz135_2 hfz135_3
                  try clear hfz145_0 hfz145_1 hfz145_2 hfz145_3
                  try clear hfz150_0 hfz150_1 hfz150_2 hfz150_3
                  try clear hfz156_0 hfz156_1 hfz156_2 hfz156_3
                  try clear hfz15_0 hfz15_1 hfz15_2 hfz15_3
                  try clear hfz160_0 hfz160_1 hfz160_2 hfz160_3
                  try clear hfz165_0 hfz165_1 hfz165_2 hfz165_3
                  try clear hfz169_0 hfz169_1 hfz169_2 hfz169_3
                  try clear hfz179_0 hfz179_1 hfz179_2 hfz179_3
                  try clear hfz17_0 hfz17_1 hfz17_2 hfz17_3
                  try clear hfz184_0 hfz184_1 hfz184_2 hfz184_3
                  try clear hfz18_0 hfz18_1 hfz18_2 hfz18_3
                  try clear hfz190_0 hfz190_1 hfz190_2 hfz190_3
                  try clear hfz194_0 hfz194_1 hfz194_2 hfz194_3
                  try clear hfz199_0 hfz199_1 hfz199_2 hfz199_3
                  try clear hfz203_0 hfz203_1 hfz203_2 hfz203_3
                  try clear hfz212_0 hfz212_1 hfz212_2 hfz212_3
                  try clear hfz216_0 hfz216_1 hfz216_2 hfz216_3
                  try clear hfz220_0 hfz220_1 hfz220_2 hfz220_3
                  try clear hfz221_0 hfz221_1 hfz221_2 hfz221_3
                  try clear hfz222_0 hfz222_1 hfz222_2 hfz222_3
                  try clear hfz225_0 hfz225_1 hfz225_2 hfz225_3
                  try clear hfz22_0 hfz22_1 hfz22_2 hfz22_3
                  try clear hfz231_0 hfz231_1 hfz231_2 hfz231_3
                  try clear hfz235_0 hfz235_1 hfz235_2 hfz235_3
                  try clear hfz23_0 hfz23_1 hfz23_2 hfz23_3
                  try clear hfz240_0 hfz240_1 hfz240_2 hfz240_3
                  try clear hfz244_0 hfz244_1 hfz244_2 hfz244_3
                  try clear hfz24_0 hfz24_1 hfz24_2 hfz24_3
                  try clear hfz30_0 hfz30_1 hfz30_2 hfz30_3
                  try clear hfz31_0 hfz31_1 hfz31_2 hfz31_3
                  try clear hfz32_0 hfz32_1 hfz32_2 hfz32_3
                  try clear hfz33_0 hfz33_1 hfz33_2 hfz33_3
                  try clear hfz40_0 hfz40_1 hfz40_2 hfz40_3
                  try clear hfz46_0 hfz46_1 hfz46_2 hfz46_3
                  try clear hfz50_0 hfz50_1 hfz50_2 hfz50_3
                  try clear hfz55_0 hfz55_1 hfz55_2 hfz55_3
                  try clear hfz59_0 hfz59_1 hfz59_2 hfz59_3
                  try clear hfz68_0 hfz68_1 hfz68_2 hfz68_3
                  try clear hfz73_0 hfz73_1 hfz73_2 hfz73_3
                  try clear hfz74_0 hfz74_1 hfz74_2 hfz74_3
                  try clear hfz78_0 hfz78_1 hfz78_2 hfz78_3
                  try clear hfz84_0 hfz84_1 hfz84_2 hfz84_3
                  try clear hfz88_0 hfz88_1 hfz88_2 hfz88_3
                  try clear hfz93_0 hfz93_1 hfz93_2 hfz93_3
                  try clear hfz97_0 hfz97_1 hfz97_2 hfz97_3
                  try clear p2
                  obtain ⟨kq, x148_206, rfl, HA, HJ206, BK101, BK102, BK103, BK114, BK120, HB⟩ := hcut
                  cases kq with
                  | zero => exact absurd HA.out (by simp [ironbarklaw05_BitsMakes.j5])
                  | succ kj206 =>
                   have H := HA.out
                   clear HA
                   simp only [ironbarklaw05_BitsMakes.j5] at H
                   by_cases c245 : x148_206 = true
                   ·subst c245
                    have H1 : (some false) = some r := by rw [if_pos rfl] at H; exact H
                    clear H
                    have H := H1
                    clear H1
                    exact absurd ((Option.some.inj H).trans hrt_.out) (by decide)
                   ·replace c245 := Bool.eq_false_iff.mpr c245
                    subst c245
                    have H1 : (if t165 = 0 then ((bits_Sub.f t161 t162 t163 t164 1 (a0_3.size : Int)).bind fun bt172 => ((bits_Rest.f t161 t162 t163 t164 (wrap64 ((a0_3.size : Int) + 1))).bind fun bt179 => (if bt172.2.2.2.2.2 = 0 then (if bt179.2.2.2.2.2 = 0 then (if (!(bt172.1 == a0_0) || (!(bt172.2.1 == a0_1) || (!(bt172.2.2.1 == a0_2) || (!(bt172.2.2.2.1.toList == a0_3.toList))))) = true then (ironbarklaw05_BitsMakes.j6 kj206 true a0_0 a0_1 a0_2 a0_3 a1_0 a1_1 a1_2 a1_3 t161 t162 t163 t164) else (ironbarklaw05_BitsMakes.j6 kj206 (!(bt179.1 == a1_0) || (!(bt179.2.1 == a1_1) || (!(bt179.2.2.1 == a1_2) || (!(bt179.2.2.2.1.toList == a1_3.toList))))) a0_0 a0_1 a0_2 a0_3 a1_0 a1_1 a1_2 a1_3 t161 t162 t163 t164)) else (ironbarklaw05_BitsMakes.j6 kj206 true a0_0 a0_1 a0_2 a0_3 a1_0 a1_1 a1_2 a1_3 t161 t162 t163 t164)) else (ironbarklaw05_BitsMakes.j6 kj206 true a0_0 a0_1 a0_2 a0_3 a1_0 a1_1 a1_2 a1_3 t161 t162 t163 t164)))) else ((ironbarklaw05_awake.f).bind fun t171 => (some t171))) = some r := by rw [if_neg (show ¬ (false = true) by decide)] at H; exact H
                    clear H
                    have H := H1
                    clear H1
                    by_cases c246 : t165 = 0
                    ·rw [if_pos c246] at H
                     have c246b0 : (t165 == 0) = true := beq_iff_eq.mpr c246
                     have c246b1 : (t165 != 0) = false := bne_eq_false_iff_eq.mpr c246
                     clear c246
                     replace H := Option.bind_eq_some_iff.mp H
                     obtain ⟨⟨t172, t173, t174, t175, t176, t177⟩, A2470, H⟩ := H
                     replace H : ((bits_Rest.f t161 t162 t163 t164 (wrap64 ((a0_3.size : Int) + 1))).bind fun bt179 => (if t177 = 0 then (if bt179.2.2.2.2.2 = 0 then (if (!(t172 == a0_0) || (!(t173 == a0_1) || (!(t174 == a0_2) || (!(t175.toList == a0_3.toList))))) = true then (ironbarklaw05_BitsMakes.j6 kj206 true a0_0 a0_1 a0_2 a0_3 a1_0 a1_1 a1_2 a1_3 t161 t162 t163 t164) else (ironbarklaw05_BitsMakes.j6 kj206 (!(bt179.1 == a1_0) || (!(bt179.2.1 == a1_1) || (!(bt179.2.2.1 == a1_2) || (!(bt179.2.2.2.1.toList == a1_3.toList))))) a0_0 a0_1 a0_2 a0_3 a1_0 a1_1 a1_2 a1_3 t161 t162 t163 t164)) else (ironbarklaw05_BitsMakes.j6 kj206 true a0_0 a0_1 a0_2 a0_3 a1_0 a1_1 a1_2 a1_3 t161 t162 t163 t164)) else (ironbarklaw05_BitsMakes.j6 kj206 true a0_0 a0_1 a0_2 a0_3 a1_0 a1_1 a1_2 a1_3 t161 t162 t163 t164))) = some r := H
                     have A247 := Aside0.mk A2470
                     clear A2470
                     replace H := Option.bind_eq_some_iff.mp H
                     obtain ⟨⟨t179, t180, t181, t182, t183, t184⟩, A2480, H⟩ := H
                     replace H : (if t177 = 0 then (if t184 = 0 then (if (!(t172 == a0_0) || (!(t173 == a0_1) || (!(t174 == a0_2) || (!(t175.toList == a0_3.toList))))) = true then (ironbarklaw05_BitsMakes.j6 kj206 true a0_0 a0_1 a0_2 a0_3 a1_0 a1_1 a1_2 a1_3 t161 t162 t163 t164) else (ironbarklaw05_BitsMakes.j6 kj206 (!(t179 == a1_0) || (!(t180 == a1_1) || (!(t181 == a1_2) || (!(t182.toList == a1_3.toList))))) a0_0 a0_1 a0_2 a0_3 a1_0 a1_1 a1_2 a1_3 t161 t162 t163 t164)) else (ironbarklaw05_BitsMakes.j6 kj206 true a0_0 a0_1 a0_2 a0_3 a1_0 a1_1 a1_2 a1_3 t161 t162 t163 t164)) else (ironbarklaw05_BitsMakes.j6 kj206 true a0_0 a0_1 a0_2 a0_3 a1_0 a1_1 a1_2 a1_3 t161 t162 t163 t164)) = some r := H
                     have A248 := Aside0.mk A2480
                     clear A2480
                     have HC249 := Aside0.mk H
                     clear H
                     have hnb250 := NB114_101.out
                     have hnc250 := NB101_114.out
                     have hnb251 := NB114_102.out
                     have hnc251 := NB102_114.out
                     have hnb252 := NB114_103.out
                     have hnc252 := NB103_114.out
                     have hnb253 := NB114_120.out
                     have hnc253 := NB120_114.out
                     obtain ⟨hcz254_0, hcz254_1, hcz254_2, hcz254_3⟩ := blk_quad BK114.out
                     obtain ⟨hfz254_0, hfz254_1, hfz254_2, hfz254_3⟩ := blk_quad_free BK114.out
                     have hnb255 := NB101_102.out
                     have hnc255 := NB102_101.out
                     have hnb256 := NB101_103.out
                     have hnc256 := NB103_101.out
                     have hnb257 := NB101_120.out
                     have hnc257 := NB120_101.out
                     obtain ⟨hcz258_0, hcz258_1, hcz258_2, hcz258_3⟩ := blk_quad BK101.out
                     obtain ⟨hfz258_0, hfz258_1, hfz258_2, hfz258_3⟩ := blk_quad_free BK101.out
                     go_upto_region 31 with (first | ((with_reducible refine gate_callee (f := 14) rfl ?_); refine goesL_ (some 157) rfl rfl Try.func14 (by kernel_rfl) rfl #[.agg #[.int .i64 t161, .int .i64 t162, .int .i64 t163, .string t164], .int .i64 1, .int .i64 (a0_3.size : Int)] rfl (by (try simp only [List.map_toArray, List.map_cons, List.map_nil]); first | done | rfl | (simp only [List.length_drop, List.length_take]; rfl)) ?_; (with_reducible refine (bits_Sub.calls t161 t162 t163 t164 1 (a0_3.size : Int) t172 t173 t174 t175 t176 t177 _ A247.out).mono ?_); rintro e w259 ⟨rfl, hb⟩; refine ⟨_, rfl, ?_⟩; have n0_ := Aside0.mk (blk_below (zk BK101.out) hb); have n1_ := Aside0.mk (blk_below (zk BK102.out) hb); have n2_ := Aside0.mk (blk_below (zk BK103.out) hb); have n3_ := Aside0.mk (blk_below (zk BK114.out) hb); have n4_ := Aside0.mk (blk_below (zk BK120.out) hb); have n5_ := Aside0.mk (below_step (by repeat (first | (with_reducible first | exact HB.out | apply below_alloc | apply pw_below_drewN | apply below_drew1 | refine below_set ?_ GE101.out | refine below_set ?_ GE102.out | refine below_set ?_ GE103.out | refine below_set ?_ GE114.out | refine below_set ?_ GE120.out) | exact HB.out)) hb); clear BK101; clear BK102; clear BK103; clear BK114; clear BK120; clear HB; have BK101 := n0_; have BK102 := n1_; have BK103 := n2_; have BK114 := n3_; have BK120 := n4_; have HB := n5_; clear n0_ n1_ n2_ n3_ n4_ n5_; (try clear hb); (try clear hb2); (try clear hk); (try clear hi)) | ((with_reducible refine gate_dst (N := 13) rfl ?_); refine box_event ?hg (N := 13) ?hd (cs := #[.int .i64 0, .int .i64 0, .int .i64 0, .string (⟨#[]⟩ : ByteArray)]) (t := 23) ?hr ?_; (case hd => rfl); (case hg => rfl); (case hr => first | (go_simp; done) | (go_simp; rfl)); intro gb178 hg w260 hbox hb; have n0_ := Aside0.mk (blk_below (zk BK101.out) hb); have n1_ := Aside0.mk (blk_below (zk BK102.out) hb); have n2_ := Aside0.mk (blk_below (zk BK103.out) hb); have n3_ := Aside0.mk (blk_below (zk BK114.out) hb); have n4_ := Aside0.mk (blk_below (zk BK120.out) hb); have n5_ := Aside0.mk (below_step (by repeat (first | (with_reducible first | exact HB.out | apply below_alloc | apply pw_below_drewN | apply below_drew1 | refine below_set ?_ GE101.out | refine below_set ?_ GE102.out | refine below_set ?_ GE103.out | refine below_set ?_ GE114.out | refine below_set ?_ GE120.out) | exact HB.out)) hb); have n6_ := Aside0.mk (hbox); have n7_ := Aside0.mk ((by rw [hg]; exact (below_size (by repeat (first | (with_reducible first | exact HB.out | apply below_alloc | apply pw_below_drewN | apply below_drew1 | refine below_set ?_ GE101.out | refine below_set ?_ GE102.out | refine below_set ?_ GE103.out | refine below_set ?_ GE114.out | refine below_set ?_ GE120.out) | exact HB.out))) : w.heap.size ≤ gb178)); have n8_ := n7_; have n9_ := Aside0.mk ((by rw [hg]; exact Nat.ne_of_lt (blk_lt (zk BK101.out)) : gb101 ≠ gb178)); have n10_ := Aside0.mk ((by rw [hg]; exact Nat.ne_of_gt (blk_lt (zk BK101.out)) : gb178 ≠ gb101)); have n11_ := Aside0.mk ((by rw [hg]; exact Nat.ne_of_lt (blk_lt (zk BK102.out)) : gb102 ≠ gb178)); have n12_ := Aside0.mk ((by rw [hg]; exact Nat.ne_of_gt (blk_lt (zk BK102.out)) : gb178 ≠ gb102)); have n13_ := Aside0.mk ((by rw [hg]; exact Nat.ne_of_lt (blk_lt (zk BK103.out)) : gb103 ≠ gb178)); have n14_ := Aside0.mk ((by rw [hg]; exact Nat.ne_of_gt (blk_lt (zk BK103.out)) : gb178 ≠ gb103)); have n15_ := Aside0.mk ((by rw [hg]; exact Nat.ne_of_lt (blk_lt (zk BK114.out)) : gb114 ≠ gb178)); have n16_ := Aside0.mk ((by rw [hg]; exact Nat.ne_of_gt (blk_lt (zk BK114.out)) : gb178 ≠ gb114)); have n17_ := Aside0.mk ((by rw [hg]; exact Nat.ne_of_lt (blk_lt (zk BK120.out)) : gb120 ≠ gb178)); have n18_ := Aside0.mk ((by rw [hg]; exact Nat.ne_of_gt (blk_lt (zk BK120.out)) : gb178 ≠ gb120)); clear BK101; clear BK102; clear BK103; clear BK114; clear BK120; clear HB; have BK101 := n0_; have BK102 := n1_; have BK103 := n2_; have BK114 := n3_; have BK120 := n4_; have HB := n5_; have BK178 := n6_; have GW178 := n7_; have GE178 := n8_; have NB101_178 := n9_; have NB178_101 := n10_; have NB102_178 := n11_; have NB178_102 := n12_; have NB103_178 := n13_; have NB178_103 := n14_; have NB114_178 := n15_; have NB178_114 := n16_; have NB120_178 := n17_; have NB178_120 := n18_; clear n0_ n1_ n2_ n3_ n4_ n5_ n6_ n7_ n8_ n9_ n10_ n11_ n12_ n13_ n14_ n15_ n16_ n17_ n18_; clear hb hbox hg; have hnb261 := NB178_101.out; have hnc261 := NB101_178.out; have hnb262 := NB178_102.out; have hnc262 := NB102_178.out; have hnb263 := NB178_103.out; have hnc263 := NB103_178.out; have hnb264 := NB178_114.out; have hnc264 := NB114_178.out; have hnb265 := NB178_120.out; have hnc265 := NB120_178.out; obtain ⟨hcz266_0, hcz266_1, hcz266_2, hcz266_3⟩ := blk_quad BK178.out; obtain ⟨hfz266_0, hfz266_1, hfz266_2, hfz266_3⟩ := blk_quad_free BK178.out; obtain ⟨hcz267_0, hcz267_1, hcz267_2, hcz267_3⟩ := blk_quad BK114.out; obtain ⟨hfz267_0, hfz267_1, hfz267_2, hfz267_3⟩ := blk_quad_free BK114.out; obtain ⟨hcz268_0, hcz268_1, hcz268_2, hcz268_3⟩ := blk_quad BK101.out; obtain ⟨hfz268_0, hfz268_1, hfz268_2, hfz268_3⟩ := blk_quad_free BK101.out) | ((with_reducible refine gate_callee (f := 36) rfl ?_); refine goesL_ (some 167) rfl rfl Try.func36 (by kernel_rfl) rfl #[.agg #[.int .i64 t161, .int .i64 t162, .int .i64 t163, .string t164], .int .i64 (wrap64 ((a0_3.size : Int) + 1))] rfl (by (try simp only [List.map_toArray, List.map_cons, List.map_nil]); first | done | rfl | (simp only [List.length_drop, List.length_take]; rfl)) ?_; (with_reducible refine (bits_Rest.calls t161 t162 t163 t164 (wrap64 ((a0_3.size : Int) + 1)) t179 t180 t181 t182 t183 t184 _ A248.out).mono ?_); rintro e w269 ⟨rfl, hb⟩; refine ⟨_, rfl, ?_⟩; have n0_ := Aside0.mk (blk_below (g := gb101) (o := .cells #[.int .i64 a0_0, .int .i64 a0_1, .int .i64 a0_2, .string a0_3] 23 (0, 0)) (by refine zk ?_; refine blk_far ?_ NB101_178.out _; refine zk ?_; refine blk_far ?_ NB101_178.out _; refine zk ?_; refine blk_far ?_ NB101_178.out _; refine zk ?_; refine blk_far ?_ NB101_178.out _; refine zk ?_; exact BK101.out) hb); have n1_ := Aside0.mk (blk_below (g := gb102) (o := .cells #[.int .i64 a1_0, .int .i64 a1_1, .int .i64 a1_2, .string a1_3] 23 (0, 0)) (by refine zk ?_; refine blk_far ?_ NB102_178.out _; refine zk ?_; refine blk_far ?_ NB102_178.out _; refine zk ?_; refine blk_far ?_ NB102_178.out _; refine zk ?_; refine blk_far ?_ NB102_178.out _; refine zk ?_; exact BK102.out) hb); have n2_ := Aside0.mk (blk_below (g := gb103) (o := .cells #[.int .i64 a2_0, .int .i64 a2_1, .int .i64 a2_2, .string a2_3] 23 (0, 0)) (by refine zk ?_; refine blk_far ?_ NB103_178.out _; refine zk ?_; refine blk_far ?_ NB103_178.out _; refine zk ?_; refine blk_far ?_ NB103_178.out _; refine zk ?_; refine blk_far ?_ NB103_178.out _; refine zk ?_; exact BK103.out) hb); have n3_ := Aside0.mk (blk_below (g := gb114) (o := .cells #[.int .i64 t161, .int .i64 t162, .int .i64 t163, .string t164] 23 (0, 0)) (by refine zk ?_; refine blk_far ?_ NB114_178.out _; refine zk ?_; refine blk_far ?_ NB114_178.out _; refine zk ?_; refine blk_far ?_ NB114_178.out _; refine zk ?_; refine blk_far ?_ NB114_178.out _; refine zk ?_; exact BK114.out) hb); have n4_ := Aside0.mk (blk_below (g := gb120) (o := .cells #[.int .i64 t166, .int .i64 t167, .int .i64 t168, .string t169] 23 (0, 0)) (by refine zk ?_; refine blk_far ?_ NB120_178.out _; refine zk ?_; refine blk_far ?_ NB120_178.out _; refine zk ?_; refine blk_far ?_ NB120_178.out _; refine zk ?_; refine blk_far ?_ NB120_178.out _; refine zk ?_; exact BK120.out) hb); have n5_ := Aside0.mk (blk_below (g := gb178) (o := .cells #[.int .i64 t172, .int .i64 t173, .int .i64 t174, .string t175] 23 (0, 0)) (by refine zk ?_; refine blk_put (cs := #[.int .i64 t172, .int .i64 t173, .int .i64 t174, .string (⟨#[]⟩ : ByteArray)]) ?_ 3 _ rfl; refine zk ?_; refine blk_put (cs := #[.int .i64 t172, .int .i64 t173, .int .i64 0, .string (⟨#[]⟩ : ByteArray)]) ?_ 2 _ rfl; refine zk ?_; refine blk_put (cs := #[.int .i64 t172, .int .i64 0, .int .i64 0, .string (⟨#[]⟩ : ByteArray)]) ?_ 1 _ rfl; refine zk ?_; refine blk_put (cs := #[.int .i64 0, .int .i64 0, .int .i64 0, .string (⟨#[]⟩ : ByteArray)]) ?_ 0 _ rfl; refine zk ?_; exact BK178.out) hb); have n6_ := Aside0.mk (below_step (by repeat (first | (with_reducible first | exact HB.out | apply below_alloc | apply pw_below_drewN | apply below_drew1 | refine below_set ?_ GE101.out | refine below_set ?_ GE102.out | refine below_set ?_ GE103.out | refine below_set ?_ GE114.out | refine below_set ?_ GE120.out | refine below_set ?_ GE178.out) | exact HB.out)) hb); clear BK101; clear BK102; clear BK103; clear BK114; clear BK120; clear BK178; clear HB; have BK101 := n0_; have BK102 := n1_; have BK103 := n2_; have BK114 := n3_; have BK120 := n4_; have BK178 := n5_; have HB := n6_; clear n0_ n1_ n2_ n3_ n4_ n5_ n6_; (try clear hb); (try clear hb2); (try clear hk); (try clear hi)) | ((with_reducible refine gate_dst (N := 15) rfl ?_); refine box_event ?hg (N := 15) ?hd (cs := #[.int .i64 0, .int .i64 0, .int .i64 0, .string (⟨#[]⟩ : ByteArray)]) (t := 23) ?hr ?_; (case hd => rfl); (case hg => rfl); (case hr => first | (go_simp; done) | (go_simp; rfl)); intro gb185 hg w270 hbox hb; have n0_ := Aside0.mk (blk_below (zk BK101.out) hb); have n1_ := Aside0.mk (blk_below (zk BK102.out) hb); have n2_ := Aside0.mk (blk_below (zk BK103.out) hb); have n3_ := Aside0.mk (blk_below (zk BK114.out) hb); have n4_ := Aside0.mk (blk_below (zk BK120.out) hb); have n5_ := Aside0.mk (blk_below (zk BK178.out) hb); have n6_ := Aside0.mk (below_step (by repeat (first | (with_reducible first | exact HB.out | apply below_alloc | apply pw_below_drewN | apply below_drew1 | refine below_set ?_ GE101.out | refine below_set ?_ GE102.out | refine below_set ?_ GE103.out | refine below_set ?_ GE114.out | refine below_set ?_ GE120.out | refine below_set ?_ GE178.out) | exact HB.out)) hb); have n7_ := Aside0.mk (hbox); have n8_ := Aside0.mk ((by rw [hg]; exact (below_size (by repeat (first | (with_reducible first | exact HB.out | apply below_alloc | apply pw_below_drewN | apply below_drew1 | refine below_set ?_ GE101.out | refine below_set ?_ GE102.out | refine below_set ?_ GE103.out | refine below_set ?_ GE114.out | refine below_set ?_ GE120.out | refine below_set ?_ GE178.out) | exact HB.out))) : w.heap.size ≤ gb185)); have n9_ := n8_; have n10_ := Aside0.mk ((by rw [hg]; exact Nat.ne_of_lt (blk_lt (zk BK101.out)) : gb101 ≠ gb185)); have n11_ := Aside0.mk ((by rw [hg]; exact Nat.ne_of_gt (blk_lt (zk BK101.out)) : gb185 ≠ gb101)); have n12_ := Aside0.mk ((by rw [hg]; exact Nat.ne_of_lt (blk_lt (zk BK102.out)) : gb102 ≠ gb185)); have n13_ := Aside0.mk ((by rw [hg]; exact Nat.ne_of_gt (blk_lt (zk BK102.out)) : gb185 ≠ gb102)); have n14_ := Aside0.mk ((by rw [hg]; exact Nat.ne_of_lt (blk_lt (zk BK103.out)) : gb103 ≠ gb185)); have n15_ := Aside0.mk ((by rw [hg]; exact Nat.ne_of_gt (blk_lt (zk BK103.out)) : gb185 ≠ gb103)); have n16_ := Aside0.mk ((by rw [hg]; exact Nat.ne_of_lt (blk_lt (zk BK114.out)) : gb114 ≠ gb185)); have n17_ := Aside0.mk ((by rw [hg]; exact Nat.ne_of_gt (blk_lt (zk BK114.out)) : gb185 ≠ gb114)); have n18_ := Aside0.mk ((by rw [hg]; exact Nat.ne_of_lt (blk_lt (zk BK120.out)) : gb120 ≠ gb185)); have n19_ := Aside0.mk ((by rw [hg]; exact Nat.ne_of_gt (blk_lt (zk BK120.out)) : gb185 ≠ gb120)); have n20_ := Aside0.mk ((by rw [hg]; exact Nat.ne_of_lt (blk_lt (zk BK178.out)) : gb178 ≠ gb185)); have n21_ := Aside0.mk ((by rw [hg]; exact Nat.ne_of_gt (blk_lt (zk BK178.out)) : gb185 ≠ gb178)); clear BK101; clear BK102; clear BK103; clear BK114; clear BK120; clear BK178; clear HB; have BK101 := n0_; have BK102 := n1_; have BK103 := n2_; have BK114 := n3_; have BK120 := n4_; have BK178 := n5_; have HB := n6_; have BK185 := n7_; have GW185 := n8_; have GE185 := n9_; have NB101_185 := n10_; have NB185_101 := n11_; have NB102_185 := n12_; have NB185_102 := n13_; have NB103_185 := n14_; have NB185_103 := n15_; have NB114_185 := n16_; have NB185_114 := n17_; have NB120_185 := n18_; have NB185_120 := n19_; have NB178_185 := n20_; have NB185_178 := n21_; clear n0_ n1_ n2_ n3_ n4_ n5_ n6_ n7_ n8_ n9_ n10_ n11_ n12_ n13_ n14_ n15_ n16_ n17_ n18_ n19_ n20_ n21_; clear hb hbox hg; have hnb271 := NB185_101.out; have hnc271 := NB101_185.out; have hnb272 := NB185_102.out; have hnc272 := NB102_185.out; have hnb273 := NB185_103.out; have hnc273 := NB103_185.out; have hnb274 := NB185_114.out; have hnc274 := NB114_185.out; have hnb275 := NB185_120.out; have hnc275 := NB120_185.out; have hnb276 := NB185_178.out; have hnc276 := NB178_185.out; obtain ⟨hcz277_0, hcz277_1, hcz277_2, hcz277_3⟩ := blk_quad BK185.out; obtain ⟨hfz277_0, hfz277_1, hfz277_2, hfz277_3⟩ := blk_quad_free BK185.out))
                     (try simp only [Act.put, List.setIfInBounds_toArray, List.set_cons_zero, List.set_cons_succ])
                     go_cut [186] (fun v186 wc => ∃ (kq : Nat) (x186_248 : Bool), v186 = .bool x186_248 ∧ Aside0 (ironbarklaw05_BitsMakes.j6 kq x186_248 a0_0 a0_1 a0_2 a0_3 a1_0 a1_1 a1_2 a1_3 t161 t162 t163 t164 = some r) ∧ Aside0 (kq ≤ kj206) ∧ Aside0 (wc.heap[gb101]? = some (.cells #[.int .i64 a0_0, .int .i64 a0_1, .int .i64 a0_2, .string a0_3] 23 (0, 0))) ∧ Aside0 (wc.heap[gb102]? = some (.cells #[.int .i64 a1_0, .int .i64 a1_1, .int .i64 a1_2, .string a1_3] 23 (0, 0))) ∧ Aside0 (wc.heap[gb103]? = some (.cells #[.int .i64 a2_0, .int .i64 a2_1, .int .i64 a2_2, .string a2_3] 23 (0, 0))) ∧ Aside0 (wc.heap[gb114]? = some (.cells #[.int .i64 t161, .int .i64 t162, .int .i64 t163, .string t164] 23 (0, 0))) ∧ Aside0 (wc.heap[gb120]? = some (.cells #[.int .i64 t166, .int .i64 t167, .int .i64 t168, .string t169] 23 (0, 0))) ∧ Aside0 (wc.heap[gb178]? = some (.cells #[.int .i64 t172, .int .i64 t173, .int .i64 t174, .string t175] 23 (0, 0))) ∧ Aside0 (wc.heap[gb185]? = some (.cells #[.int .i64 t179, .int .i64 t180, .int .i64 t181, .string t182] 23 (0, 0))) ∧ Aside0 (Below w.heap.size w wc))
                     case first =>
                      have H := HC249.out
                      clear HC249
                      by_cases c278 : t177 = 0
                      ·rw [if_pos c278] at H
                       have c278b0 : (t177 == 0) = true := beq_iff_eq.mpr c278
                       have c278b1 : (t177 != 0) = false := bne_eq_false_iff_eq.mpr c278
                       clear c278
                       (first | rw [c278b0] | (simp only [i64_w, i32_w]; rw [c278b0]) | skip)
                       by_cases c279 : t184 = 0
                       ·rw [if_pos c279] at H
                        have c279b0 : (t184 == 0) = true := beq_iff_eq.mpr c279
                        have c279b1 : (t184 != 0) = false := bne_eq_false_iff_eq.mpr c279
                        clear c279
                        by_cases c280 : (!(t172 == a0_0) || (!(t173 == a0_1) || (!(t174 == a0_2) || (!(t175.toList == a0_3.toList))))) = true
                        ·rw [if_pos c280] at H
                         have c280b0 : (!(t172 == a0_0) || (!(t173 == a0_1) || (!(t174 == a0_2) || (!(t175.toList == a0_3.toList))))) = true := c280
                         clear c280
                         exact absurd (H.trans (congrArg some hrt_.out)) (ironbarklaw05_BitsMakes.j6_no _ _ _ _ _ _ _ _ _ _ _ _ _ )
                        ·rw [if_neg c280] at H
                         have c280b0 : (!(t172 == a0_0) || (!(t173 == a0_1) || (!(t174 == a0_2) || (!(t175.toList == a0_3.toList))))) = false := by simpa using c280
                         clear c280
                         have H' := Aside0.mk H
                         clear H
                         have hnb294 := NB178_101.out
                         have hnc294 := NB101_178.out
                         have hnb295 := NB178_102.out
                         have hnc295 := NB102_178.out
                         have hnb296 := NB178_103.out
                         have hnc296 := NB103_178.out
                         have hnb297 := NB178_114.out
                         have hnc297 := NB114_178.out
                         have hnb298 := NB178_120.out
                         have hnc298 := NB120_178.out
                         have hnb299 := NB178_185.out
                         have hnc299 := NB185_178.out
                         obtain ⟨hcz300_0, hcz300_1, hcz300_2, hcz300_3⟩ := blk_quad BK178.out
                         obtain ⟨hfz300_0, hfz300_1, hfz300_2, hfz300_3⟩ := blk_quad_free BK178.out
                         have hnb301 := NB101_102.out
                         have hnc301 := NB102_101.out
                         have hnb302 := NB101_103.out
                         have hnc302 := NB103_101.out
                         have hnb303 := NB101_114.out
                         have hnc303 := NB114_101.out
                         have hnb304 := NB101_120.out
                         have hnc304 := NB120_101.out
                         have hnb305 := NB101_185.out
                         have hnc305 := NB185_101.out
                         obtain ⟨hcz306_0, hcz306_1, hcz306_2, hcz306_3⟩ := blk_quad BK101.out
                         obtain ⟨hfz306_0, hfz306_1, hfz306_2, hfz306_3⟩ := blk_quad_free BK101.out
                         have hnb307 := NB185_102.out
                         have hnc307 := NB102_185.out
                         have hnb308 := NB185_103.out
                         have hnc308 := NB103_185.out
                         have hnb309 := NB185_114.out
                         have hnc309 := NB114_185.out
                         have hnb310 := NB185_120.out
                         have hnc310 := NB120_185.out
                         obtain ⟨hcz311_0, hcz311_1, hcz311_2, hcz311_3⟩ := blk_quad BK185.out
                         obtain ⟨hfz311_0, hfz311_1, hfz311_2, hfz311_3⟩ := blk_quad_free BK185.out
                         have hnb312 := NB102_103.out
                         have hnc312 := NB103_102.out
                         have hnb313 := NB102_114.out
                         have hnc313 := NB114_102.out
                         have hnb314 := NB102_120.out
                         have hnc314 := NB120_102.out
                         obtain ⟨hcz315_0, hcz315_1, hcz315_2, hcz315_3⟩ := blk_quad BK102.out
                         obtain ⟨hfz315_0, hfz315_1, hfz315_2, hfz315_3⟩ := blk_quad_free BK102.out
                         go_wp2
                         go_meet
                         case rel => exact ⟨_, ((!(t179 == a1_0) || (!(t180 == a1_1) || (!(t181 == a1_2) || (!(t182.toList == a1_3.toList)))))), (by first | rfl | (simp; done) | (generalize ByteArray.toList _ = l_; cases l_ <;> rfl) | (simp [*]; done)), H', ⟨by have := HJ8.out; have := HJ62.out; have := HJ100.out; have := HJ138.out; have := HJ172.out; have := HJ206.out; first | omega | exact Nat.le_refl _⟩, ⟨by refine zk ?_; refine blk_far ?_ NB101_185.out _; refine zk ?_; refine blk_far ?_ NB101_185.out _; refine zk ?_; refine blk_far ?_ NB101_185.out _; refine zk ?_; refine blk_far ?_ NB101_185.out _; refine zk ?_; exact BK101.out⟩, ⟨by refine zk ?_; refine blk_far ?_ NB102_185.out _; refine zk ?_; refine blk_far ?_ NB102_185.out _; refine zk ?_; refine blk_far ?_ NB102_185.out _; refine zk ?_; refine blk_far ?_ NB102_185.out _; refine zk ?_; exact BK102.out⟩, ⟨by refine zk ?_; refine blk_far ?_ NB103_185.out _; refine zk ?_; refine blk_far ?_ NB103_185.out _; refine zk ?_; refine blk_far ?_ NB103_185.out _; refine zk ?_; refine blk_far ?_ NB103_185.out _; refine zk ?_; exact BK103.out⟩, ⟨by refine zk ?_; refine blk_far ?_ NB114_185.out _; refine zk ?_; refine blk_far ?_ NB114_185.out _; refine zk ?_; refine blk_far ?_ NB114_185.out _; refine zk ?_; refine blk_far ?_ NB114_185.out _; refine zk ?_; exact BK114.out⟩, ⟨by refine zk ?_; refine blk_far ?_ NB120_185.out _; refine zk ?_; refine blk_far ?_ NB120_185.out _; refine zk ?_; refine blk_far ?_ NB120_185.out _; refine zk ?_; refine blk_far ?_ NB120_185.out _; refine zk ?_; exact BK120.out⟩, ⟨by refine zk ?_; refine blk_far ?_ NB178_185.out _; refine zk ?_; refine blk_far ?_ NB178_185.out _; refine zk ?_; refine blk_far ?_ NB178_185.out _; refine zk ?_; refine blk_far ?_ NB178_185.out _; refine zk ?_; exact BK178.out⟩, ⟨by refine zk ?_; refine blk_put (cs := #[.int .i64 t179, .int .i64 t180, .int .i64 t181, .string (⟨#[]⟩ : ByteArray)]) ?_ 3 _ rfl; refine zk ?_; refine blk_put (cs := #[.int .i64 t179, .int .i64 t180, .int .i64 0, .string (⟨#[]⟩ : ByteArray)]) ?_ 2 _ rfl; refine zk ?_; refine blk_put (cs := #[.int .i64 t179, .int .i64 0, .int .i64 0, .string (⟨#[]⟩ : ByteArray)]) ?_ 1 _ rfl; refine zk ?_; refine blk_put (cs := #[.int .i64 0, .int .i64 0, .int .i64 0, .string (⟨#[]⟩ : ByteArray)]) ?_ 0 _ rfl; refine zk ?_; exact BK185.out⟩, ⟨by repeat (first | (with_reducible first | exact HB.out | apply below_alloc | apply pw_below_drewN | apply below_drew1 | refine below_set ?_ GE101.out | refine below_set ?_ GE102.out | refine below_set ?_ GE103.out | refine below_set ?_ GE114.out | refine below_set ?_ GE120.out | refine below_set ?_ GE178.out | refine below_set ?_ GE185.out) | exact HB.out)⟩⟩
                       ·rw [if_neg c279] at H
                        have c279b0 : (t184 == 0) = false := beq_eq_false_iff_ne.mpr c279
                        have c279b1 : (t184 != 0) = true := bne_iff_ne.mpr c279
                        exact absurd (H.trans (congrArg some hrt_.out)) (ironbarklaw05_BitsMakes.j6_no _ _ _ _ _ _ _ _ _ _ _ _ _ )
                      ·rw [if_neg c278] at H
                       have c278b0 : (t177 == 0) = false := beq_eq_false_iff_ne.mpr c278
                       have c278b1 : (t177 != 0) = true := bne_iff_ne.mpr c278
                       (first | rw [c278b0] | (simp only [i64_w, i32_w]; rw [c278b0]) | skip)
                       exact absurd (H.trans (congrArg some hrt_.out)) (ironbarklaw05_BitsMakes.j6_no _ _ _ _ _ _ _ _ _ _ _ _ _ )
                     case rest => as_aux_lemma =>
                      clear HC249
                      try clear c1
                      try clear c2
                      try clear p2
                      try clear c3
                      try clear p6
                      try clear c14
                      try clear c24
                      try clear c25
                      try clear c26
                      try clear c27
                      try clear c28
                      try clear c29
                      try clear c30
                      try clear c31
                      try clear c36
                      try clear p64
                      try clear c245
                      try clear c246
                      try clear c246b0
                      try clear c246b1
                      try clear c250
                      try clear c251
                      try clear c252
                      try clear c253
                      try clear c255
                      try clear c256
                      try clear c257
                      try clear c261
                      try clear c262
                      try clear c263
                      try clear c264
                      try clear c265
                      try clear c271
                      try clear c272
                      try clear c273
                      try clear c274
                      try clear c275
                      try clear c276
                      try clear c278
                      try clear c278b0
                      try clear c278b1
                      try clear c279
                      try clear c279b0
                      try clear c279b1
                      try clear c280
                      try clear c280b0
                      try clear c281
                      try clear c282
                      try clear c283
                      try clear c284
                      try clear c285
                      try clear c286
                      try clear c288
                      try clear c289
                      try clear c290
                      try clear c291
                      try clear c292
                      try clear c294
                      try clear c295
                      try clear c296
                      try clear c297
                      try clear c298
                      try clear c299
                      try clear c301
                      try clear c302
                      try clear c303
                      try clear c304
                      try clear c305
                      try clear c307
                      try clear c308
                      try clear c309
                      try clear c310
                      try clear c312
                      try clear c313
                      try clear c314
                      try clear hcz160_3
                      try clear hcz165_0 hcz165_1 hcz165_2 hcz165_3
                      try clear hcz169_0 hcz169_1 hcz169_2 hcz169_3
                      try clear hcz179_0 hcz179_1 hcz179_2 hcz179_3
                      try clear hcz17_0 hcz17_1 hcz17_2 hcz17_3
                      try clear hcz184_0 hcz184_1 hcz184_2 hcz184_3
                      try clear hcz18_0 hcz18_1 hcz18_2 hcz18_3
                      try clear hcz190_0 hcz190_1 hcz190_2 hcz190_3
                      try clear hcz194_0 hcz194_1 hcz194_2 hcz194_3
                      try clear hcz199_0 hcz199_1 hcz199_2 hcz199_3
                      try clear hcz203_0 hcz203_1 hcz203_2 hcz203_3
                      try clear hcz212_0 hcz212_1 hcz212_2 hcz212_3
                      try clear hcz216_0 hcz216_1 hcz216_2 hcz216_3
                      try clear hcz220_0 hcz220_1 hcz220_2 hcz220_3
                      try clear hcz221_0 hcz221_1 hcz221_2 hcz221_3
                      try clear hcz222_0 hcz222_1 hcz222_2 hcz222_3
                      try clear hcz225_0 hcz225_1 hcz225_2 hcz225_3
                      try clear hcz22_0 hcz22_1 hcz22_2 hcz22_3
                      try clear hcz231_0 hcz231_1 hcz231_2 hcz231_3
                      try clear hcz235_0 hcz235_1 hcz235_2 hcz235_3
                      try clear hcz23_0 hcz23_1 hcz23_2 hcz23_3
                      try clear hcz240_0 hcz240_1 hcz240_2 hcz240_3
                      try clear hcz244_0 hcz244_1 hcz244_2 hcz244_3
                      try clear hcz24_0 hcz24_1 hcz24_2 hcz24_3
                      try clear hcz254_0 hcz254_1 hcz254_2 hcz254_3
                      try clear hcz258_0 hcz258_1 hcz258_2 hcz258_3
                      try clear hcz266_0 hcz266_1 hcz266_2 hcz266_3
                      try clear hcz267_0 hcz267_1 hcz267_2 hcz267_3
                      try clear hcz268_0 hcz268_1 hcz268_2 hcz268_3
                      try clear hcz277_0 hcz277_1 hcz277_2 hcz277_3
                      try clear hcz287_0 hcz287_1 hcz287_2 hcz287_3
                      try clear hcz293_0 hcz293_1 hcz293_2 hcz293_3
                      try clear hcz300_0 hcz300_1 hcz300_2 hcz300_3
                      try clear hcz306_0 hcz306_1 hcz306_2 hcz306_3
                      try clear hcz30_0 hcz30_1 hcz30_2 hcz30_3
                      try clear hcz311_0 hcz311_1 hcz311_2 hcz311_3
                      try clear hcz315_0 hcz315_1 hcz315_2 hcz315_3
                      try clear hcz31_0 hcz31_1 hcz31_2 hcz31_3
                      try clear hcz32_0 hcz32_1 hcz32_2 hcz32_3
                      try clear hcz33_0 hcz33_1 hcz33_2 hcz33_3
                      try clear hcz40_0 hcz40_1 hcz40_2 hcz40_3
                      try clear hcz46_0 hcz46_1 hcz46_2 hcz46_3
                      try clear hcz50_0 hcz50_1 hcz50_2 hcz50_3
                      try clear hcz55_0 hcz55_1 hcz55_2 hcz55_3
                      try clear hcz59_0 hcz59_1 hcz59_2 hcz59_3
                      try clear hcz68_0 hcz68_1 hcz68_2 hcz68_3
                      try clear hcz73_0 hcz73_1 hcz73_2 hcz73_3
                      try clear hcz74_0 hcz74_1 hcz74_2 hcz74_3
                      try clear hcz78_0 hcz78_1 hcz78_2 hcz78_3
                      try clear hcz84_0 hcz84_1 hcz84_2 hcz84_3
                      try clear hcz88_0 hcz88_1 hcz88_2 hcz88_3
                      try clear hcz93_0 hcz93_1 hcz93_2 hcz93_3
                      try clear hcz97_0 hcz97_1 hcz97_2 hcz97_3
                      try clear hfz106_0 hfz106_1 hfz106_2 hfz106_3
                      try clear hfz111_0 hfz111_1 hfz111_2 hfz111_3
                      try clear hfz112_0 hfz112_1 hfz112_2 hfz112_3
                      try clear hfz116_0 hfz116_1 hfz116_2 hfz116_3
                      try clear hfz122_0 hfz122_1 hfz122_2 hfz122_3
                      try clear hfz126_0 hfz126_1 hfz126_2 hfz126_3
                      try clear hfz131_0 hfz131_1 hfz131_2 hfz131_3
                      try clear hfz135_0 hfz135_1 hfz135_2 hfz135_3
                      try clear hfz145_0 hfz145_1 hfz145_2 hfz145_3
                      try clear hfz150_0 hfz150_1 hfz150_2 hfz150_3
                      try clear hfz156_0 hfz156_1 hfz156_2 hfz156_3
                      try clear hfz15_0 hfz15_1 hfz15_2 hfz15_3
                      try clear hfz160_0 hfz160_1 hfz160_2 hfz160_3
                      try clear hfz165_0 hfz165_1 hfz165_2 hfz165_3
                      try clear hfz169_0 hfz169_1 hfz169_2 hfz169_3
                      try clear hfz179_0 hfz179_1 hfz179_2 hfz179_3
                      try clear hfz17_0 hfz17_1 hfz17_2 hfz17_3
                      try clear hfz184_0 hfz184_1 hfz184_2 hfz184_3
                      try clear hfz18_0 hfz18_1 hfz18_2 hfz18_3
                      try clear hfz190_0 hfz190_1 hfz190_2 hfz190_3
                      try clear hfz194_0 hfz194_1 hfz194_2 hfz194_3
                      try clear hfz199_0 hfz199_1 hfz199_2 hfz199_3
                      try clear hfz203_0 hfz203_1 hfz203_2 hfz203_3
                      try clear hfz212_0 hfz212_1 hfz212_2 hfz212_3
                      try clear hfz216_0 hfz216_1 hfz216_2 hfz216_3
                      try clear hfz220_0 hfz220_1 hfz220_2 hfz220_3
                      try clear hfz221_0 hfz221_1 hfz221_2 hfz221_3
                      try clear hfz222_0 hfz222_1 hfz222_2 hfz222_3
                      try clear hfz225_0 hfz225_1 hfz225_2 hfz225_3
                      try clear hfz22_0 hfz22_1 hfz22_2 hfz22_3
                      try clear hfz231_0 hfz231_1 hfz231_2 hfz231_3
                      try clear hfz235_0 hfz235_1 hfz235_2 hfz235_3
                      try clear hfz23_0 hfz23_1 hfz23_2 hfz23_3
                      try clear hfz240_0 hfz240_1 hfz240_2 hfz240_3
                      try clear hfz244_0 hfz244_1 hfz244_2 hfz244_3
                      try clear hfz24_0 hfz24_1 hfz24_2 hfz24_3
                      try clear hfz254_0 hfz254_1 hfz254_2 hfz254_3
                      try clear hfz258_0 hfz258_1 hfz258_2 hfz258_3
                      try clear hfz266_0 hfz266_1 hfz266_2 hfz266_3
                      try clear hfz267_0 hfz267_1 hfz267_2 hfz267_3
                      try clear hfz268_0 hfz268_1 hfz268_2 hfz268_3
                      try clear hfz277_0 hfz277_1 hfz277_2 hfz277_3
                      try clear hfz287_0 hfz287_1 hfz287_2 hfz287_3
                      try clear hfz293_0 hfz293_1 hfz293_2 hfz293_3
                      try clear hfz300_0 hfz300_1 hfz300_2 hfz300_3
                      try clear hfz306_0 hfz306_1 hfz306_2 hfz306_3
                      try clear hfz30_0 hfz30_1 hfz30_2 hfz30_3
                      try clear hfz311_0 hfz311_1 hfz311_2 hfz311_3
                      try clear hfz315_0 hfz315_1 hfz315_2 hfz315_3
                      try clear hfz31_0 hfz31_1 hfz31_2 hfz31_3
                      try clear hfz32_0 hfz32_1 hfz32_2 hfz32_3
                      try clear hfz33_0 hfz33_1 hfz33_2 hfz33_3
                      try clear hfz40_0 hfz40_1 hfz40_2 hfz40_3
                      try clear hfz46_0 hfz46_1 hfz46_2 hfz46_3
                      try clear hfz50_0 hfz50_1 hfz50_2 hfz50_3
                      try clear hfz55_0 hfz55_1 hfz55_2 hfz55_3
                      try clear hfz59_0 hfz59_1 hfz59_2 hfz59_3
                      try clear hfz68_0 hfz68_1 hfz68_2 hfz68_3
                      try clear hfz73_0 hfz73_1 hfz73_2 hfz73_3
                      try clear hfz74_0 hfz74_1 hfz74_2 hfz74_3
                      try clear hfz78_0 hfz78_1 hfz78_2 hfz78_3
                      try clear hfz84_0 hfz84_1 hfz84_2 hfz84_3
                      try clear hfz88_0 hfz88_1 hfz88_2 hfz88_3
                      try clear hfz93_0 hfz93_1 hfz93_2 hfz93_3
                      try clear hfz97_0 hfz97_1 hfz97_2 hfz97_3
                      try clear p2
                      obtain ⟨kq, x186_248, rfl, HA, HJ248, BK101, BK102, BK103, BK114, BK120, BK178, BK185, HB⟩ := hcut
                      cases kq with
                      | zero => exact absurd HA.out (by simp [ironbarklaw05_BitsMakes.j6])
                      | succ kj248 =>
                       have H := HA.out
                       clear HA
                       simp only [ironbarklaw05_BitsMakes.j6] at H
                       by_cases c316 : x186_248 = true
                       ·subst c316
                        have H1 : (some false) = some r := by rw [if_pos rfl] at H; exact H
                        clear H
                        have H := H1
                        clear H1
                        exact absurd ((Option.some.inj H).trans hrt_.out) (by decide)
                       ·replace c316 := Bool.eq_false_iff.mpr c316
                        subst c316
                        have H1 : ((bits_Reverse.f t161 t162 t163 t164).bind fun bt186 => ((bits_Reverse.f a1_0 a1_1 a1_2 a1_3).bind fun bt192 => ((bits_Reverse.f a0_0 a0_1 a0_2 a0_3).bind fun bt198 => ((bits_Join.f bt192.1 bt192.2.1 bt192.2.2.1 bt192.2.2.2.1 bt198.1 bt198.2.1 bt198.2.2.1 bt198.2.2.2.1).bind fun bt204 => (if bt204.2.2.2.2 = 0 then (if (bt186.1 == bt204.1 && (bt186.2.1 == bt204.2.1 && (bt186.2.2.1 == bt204.2.2.1 && (bt186.2.2.2.1.toList == bt204.2.2.2.1.toList)))) = true then ((ironbarklaw05_awake.f).bind fun t210 => (some t210)) else (some false)) else (some false)))))) = some r := by rw [if_neg (show ¬ (false = true) by decide)] at H; exact H
                        clear H
                        have H := H1
                        clear H1
                        replace H := Option.bind_eq_some_iff.mp H
                        obtain ⟨⟨t186, t187, t188, t189, t190⟩, A3170, H⟩ := H
                        replace H : ((bits_Reverse.f a1_0 a1_1 a1_2 a1_3).bind fun bt192 => ((bits_Reverse.f a0_0 a0_1 a0_2 a0_3).bind fun bt198 => ((bits_Join.f bt192.1 bt192.2.1 bt192.2.2.1 bt192.2.2.2.1 bt198.1 bt198.2.1 bt198.2.2.1 bt198.2.2.2.1).bind fun bt204 => (if bt204.2.2.2.2 = 0 then (if (t186 == bt204.1 && (t187 == bt204.2.1 && (t188 == bt204.2.2.1 && (t189.toList == bt204.2.2.2.1.toList)))) = true then ((ironbarklaw05_awake.f).bind fun t210 => (some t210)) else (some false)) else (some false))))) = some r := H
                        have A317 := Aside0.mk A3170
                        clear A3170
                        replace H := Option.bind_eq_some_iff.mp H
                        obtain ⟨⟨t192, t193, t194, t195, t196⟩, A3180, H⟩ := H
                        replace H : ((bits_Reverse.f a0_0 a0_1 a0_2 a0_3).bind fun bt198 => ((bits_Join.f t192 t193 t194 t195 bt198.1 bt198.2.1 bt198.2.2.1 bt198.2.2.2.1).bind fun bt204 => (if bt204.2.2.2.2 = 0 then (if (t186 == bt204.1 && (t187 == bt204.2.1 && (t188 == bt204.2.2.1 && (t189.toList == bt204.2.2.2.1.toList)))) = true then ((ironbarklaw05_awake.f).bind fun t210 => (some t210)) else (some false)) else (some false)))) = some r := H
                        have A318 := Aside0.mk A3180
                        clear A3180
                        replace H := Option.bind_eq_some_iff.mp H
                        obtain ⟨⟨t198, t199, t200, t201, t202⟩, A3190, H⟩ := H
                        replace H : ((bits_Join.f t192 t193 t194 t195 t198 t199 t200 t201).bind fun bt204 => (if bt204.2.2.2.2 = 0 then (if (t186 == bt204.1 && (t187 == bt204.2.1 && (t188 == bt204.2.2.1 && (t189.toList == bt204.2.2.2.1.toList)))) = true then ((ironbarklaw05_awake.f).bind fun t210 => (some t210)) else (some false)) else (some false))) = some r := H
                        have A319 := Aside0.mk A3190
                        clear A3190
                        replace H := Option.bind_eq_some_iff.mp H
                        obtain ⟨⟨t204, t205, t206, t207, t208⟩, A3200, H⟩ := H
                        replace H : (if t208 = 0 then (if (t186 == t204 && (t187 == t205 && (t188 == t206 && (t189.toList == t207.toList)))) = true then ((ironbarklaw05_awake.f).bind fun t210 => (some t210)) else (some false)) else (some false)) = some r := H
                        have A320 := Aside0.mk A3200
                        clear A3200
                        by_cases c321 : t208 = 0
                        ·rw [if_pos c321] at H
                         have c321b0 : (t208 == 0) = true := beq_iff_eq.mpr c321
                         have c321b1 : (t208 != 0) = false := bne_eq_false_iff_eq.mpr c321
                         clear c321
                         by_cases c322 : (t186 == t204 && (t187 == t205 && (t188 == t206 && (t189.toList == t207.toList)))) = true
                         ·rw [if_pos c322] at H
                          have c322b0 : (t186 == t204 && (t187 == t205 && (t188 == t206 && (t189.toList == t207.toList)))) = true := c322
                          (try (have c322b1 : decide (t186 = t204 && (t187 == t205 && (t188 == t206 && (t189.toList == t207.toList)))) = true := by simpa using c322))
                          (try (have c322b2 : (t186 == t204 && (t187 == t205 && (t188 == t206 && (t189.toList == t207.toList)))) = true := by simpa using c322))
                          clear c322
                          replace H := Option.bind_eq_some_iff.mp H
                          obtain ⟨t210, A3230, H⟩ := H
                          replace H : (some t210) = some r := H
                          have A323 := Aside0.mk A3230
                          clear A3230
                          obtain rfl := Option.some.inj H
                          have hnb324 := NB114_101.out
                          have hnc324 := NB101_114.out
                          have hnb325 := NB114_102.out
                          have hnc325 := NB102_114.out
                          have hnb326 := NB114_103.out
                          have hnc326 := NB103_114.out
                          have hnb327 := NB114_120.out
                          have hnc327 := NB120_114.out
                          have hnb328 := NB114_178.out
                          have hnc328 := NB178_114.out
                          have hnb329 := NB114_185.out
                          have hnc329 := NB185_114.out
                          obtain ⟨hcz330_0, hcz330_1, hcz330_2, hcz330_3⟩ := blk_quad BK114.out
                          obtain ⟨hfz330_0, hfz330_1, hfz330_2, hfz330_3⟩ := blk_quad_free BK114.out
                          go_wp2_with (first | ((with_reducible refine gate_callee (f := 53) rfl ?_); refine goesL_ (some 189) rfl rfl Try.func53 (by kernel_rfl) rfl #[.agg #[.int .i64 t161, .int .i64 t162, .int .i64 t163, .string t164]] rfl (by (try simp only [List.map_toArray, List.map_cons, List.map_nil]); first | done | rfl | (simp only [List.length_drop, List.length_take]; rfl)) ?_; (with_reducible refine (bits_Reverse.calls t161 t162 t163 t164 t186 t187 t188 t189 t190 _ A317.out).mono ?_); rintro e w331 ⟨rfl, hb⟩; refine ⟨_, rfl, ?_⟩; have n0_ := Aside0.mk (blk_below (zk BK101.out) hb); have n1_ := Aside0.mk (blk_below (zk BK102.out) hb); have n2_ := Aside0.mk (blk_below (zk BK103.out) hb); have n3_ := Aside0.mk (blk_below (zk BK114.out) hb); have n4_ := Aside0.mk (blk_below (zk BK120.out) hb); have n5_ := Aside0.mk (blk_below (zk BK178.out) hb); have n6_ := Aside0.mk (blk_below (zk BK185.out) hb); have n7_ := Aside0.mk (below_step (by repeat (first | (with_reducible first | exact HB.out | apply below_alloc | apply pw_below_drewN | apply below_drew1 | refine below_set ?_ GE101.out | refine below_set ?_ GE102.out | refine below_set ?_ GE103.out | refine below_set ?_ GE114.out | refine below_set ?_ GE120.out | refine below_set ?_ GE178.out | refine below_set ?_ GE185.out) | exact HB.out)) hb); clear BK101; clear BK102; clear BK103; clear BK114; clear BK120; clear BK178; clear BK185; clear HB; have BK101 := n0_; have BK102 := n1_; have BK103 := n2_; have BK114 := n3_; have BK120 := n4_; have BK178 := n5_; have BK185 := n6_; have HB := n7_; clear n0_ n1_ n2_ n3_ n4_ n5_ n6_ n7_; (try clear hb); (try clear hb2); (try clear hk); (try clear hi)) | ((with_reducible refine gate_dst (N := 17) rfl ?_); refine box_event ?hg (N := 17) ?hd (cs := #[.int .i64 0, .int .i64 0, .int .i64 0, .string (⟨#[]⟩ : ByteArray)]) (t := 23) ?hr ?_; (case hd => rfl); (case hg => rfl); (case hr => first | (go_simp; done) | (go_simp; rfl)); intro gb191 hg w332 hbox hb; have n0_ := Aside0.mk (blk_below (zk BK101.out) hb); have n1_ := Aside0.mk (blk_below (zk BK102.out) hb); have n2_ := Aside0.mk (blk_below (zk BK103.out) hb); have n3_ := Aside0.mk (blk_below (zk BK114.out) hb); have n4_ := Aside0.mk (blk_below (zk BK120.out) hb); have n5_ := Aside0.mk (blk_below (zk BK178.out) hb); have n6_ := Aside0.mk (blk_below (zk BK185.out) hb); have n7_ := Aside0.mk (below_step (by repeat (first | (with_reducible first | exact HB.out | apply below_alloc | apply pw_below_drewN | apply below_drew1 | refine below_set ?_ GE101.out | refine below_set ?_ GE102.out | refine below_set ?_ GE103.out | refine below_set ?_ GE114.out | refine below_set ?_ GE120.out | refine below_set ?_ GE178.out | refine below_set ?_ GE185.out) | exact HB.out)) hb); have n8_ := Aside0.mk (hbox); have n9_ := Aside0.mk ((by rw [hg]; exact (below_size (by repeat (first | (with_reducible first | exact HB.out | apply below_alloc | apply pw_below_drewN | apply below_drew1 | refine below_set ?_ GE101.out | refine below_set ?_ GE102.out | refine below_set ?_ GE103.out | refine below_set ?_ GE114.out | refine below_set ?_ GE120.out | refine below_set ?_ GE178.out | refine below_set ?_ GE185.out) | exact HB.out))) : w.heap.size ≤ gb191)); have n10_ := n9_; have n11_ := Aside0.mk ((by rw [hg]; exact Nat.ne_of_lt (blk_lt (zk BK101.out)) : gb101 ≠ gb191)); have n12_ := Aside0.mk ((by rw [hg]; exact Nat.ne_of_gt (blk_lt (zk BK101.out)) : gb191 ≠ gb101)); have n13_ := Aside0.mk ((by rw [hg]; exact Nat.ne_of_lt (blk_lt (zk BK102.out)) : gb102 ≠ gb191)); have n14_ := Aside0.mk ((by rw [hg]; exact Nat.ne_of_gt (blk_lt (zk BK102.out)) : gb191 ≠ gb102)); have n15_ := Aside0.mk ((by rw [hg]; exact Nat.ne_of_lt (blk_lt (zk BK103.out)) : gb103 ≠ gb191)); have n16_ := Aside0.mk ((by rw [hg]; exact Nat.ne_of_gt (blk_lt (zk BK103.out)) : gb191 ≠ gb103)); have n17_ := Aside0.mk ((by rw [hg]; exact Nat.ne_of_lt (blk_lt (zk BK114.out)) : gb114 ≠ gb191)); have n18_ := Aside0.mk ((by rw [hg]; exact Nat.ne_of_gt (blk_lt (zk BK114.out)) : gb191 ≠ gb114)); have n19_ := Aside0.mk ((by rw [hg]; exact Nat.ne_of_lt (blk_lt (zk BK120.out)) : gb120 ≠ gb191)); have n20_ := Aside0.mk ((by rw [hg]; exact Nat.ne_of_gt (blk_lt (zk BK120.out)) : gb191 ≠ gb120)); have n21_ := Aside0.mk ((by rw [hg]; exact Nat.ne_of_lt (blk_lt (zk BK178.out)) : gb178 ≠ gb191)); have n22_ := Aside0.mk ((by rw [hg]; exact Nat.ne_of_gt (blk_lt (zk BK178.out)) : gb191 ≠ gb178)); have n23_ := Aside0.mk ((by rw [hg]; exact Nat.ne_of_lt (blk_lt (zk BK185.out)) : gb185 ≠ gb191)); have n24_ := Aside0.mk ((by rw [hg]; exact Nat.ne_of_gt (blk_lt (zk BK185.out)) : gb191 ≠ gb185)); clear BK101; clear BK102; clear BK103; clear BK114; clear BK120; clear BK178; clear BK185; clear HB; have BK101 := n0_; have BK102 := n1_; have BK103 := n2_; have BK114 := n3_; have BK120 := n4_; have BK178 := n5_; have BK185 := n6_; have HB := n7_; have BK191 := n8_; have GW191 := n9_; have GE191 := n10_; have NB101_191 := n11_; have NB191_101 := n12_; have NB102_191 := n13_; have NB191_102 := n14_; have NB103_191 := n15_; have NB191_103 := n16_; have NB114_191 := n17_; have NB191_114 := n18_; have NB120_191 := n19_; have NB191_120 := n20_; have NB178_191 := n21_; have NB191_178 := n22_; have NB185_191 := n23_; have NB191_185 := n24_; clear n0_ n1_ n2_ n3_ n4_ n5_ n6_ n7_ n8_ n9_ n10_ n11_ n12_ n13_ n14_ n15_ n16_ n17_ n18_ n19_ n20_ n21_ n22_ n23_ n24_; clear hb hbox hg; have hnb333 := NB191_101.out; have hnc333 := NB101_191.out; have hnb334 := NB191_102.out; have hnc334 := NB102_191.out; have hnb335 := NB191_103.out; have hnc335 := NB103_191.out; have hnb336 := NB191_114.out; have hnc336 := NB114_191.out; have hnb337 := NB191_120.out; have hnc337 := NB120_191.out; have hnb338 := NB191_178.out; have hnc338 := NB178_191.out; have hnb339 := NB191_185.out; have hnc339 := NB185_191.out; obtain ⟨hcz340_0, hcz340_1, hcz340_2, hcz340_3⟩ := blk_quad BK191.out; obtain ⟨hfz340_0, hfz340_1, hfz340_2, hfz340_3⟩ := blk_quad_free BK191.out; have hnb341 := NB102_101.out; have hnc341 := NB101_102.out; have hnb342 := NB102_103.out; have hnc342 := NB103_102.out; have hnb343 := NB102_120.out; have hnc343 := NB120_102.out; have hnb344 := NB102_178.out; have hnc344 := NB178_102.out; have hnb345 := NB102_185.out; have hnc345 := NB185_102.out; obtain ⟨hcz346_0, hcz346_1, hcz346_2, hcz346_3⟩ := blk_quad BK102.out; obtain ⟨hfz346_0, hfz346_1, hfz346_2, hfz346_3⟩ := blk_quad_free BK102.out) | ((with_reducible refine gate_callee (f := 53) rfl ?_); refine goesL_ (some 194) rfl rfl Try.func53 (by kernel_rfl) rfl #[.agg #[.int .i64 a1_0, .int .i64 a1_1, .int .i64 a1_2, .string a1_3]] rfl (by (try simp only [List.map_toArray, List.map_cons, List.map_nil]); first | done | rfl | (simp only [List.length_drop, List.length_take]; rfl)) ?_; (with_reducible refine (bits_Reverse.calls a1_0 a1_1 a1_2 a1_3 t192 t193 t194 t195 t196 _ A318.out).mono ?_); rintro e w347 ⟨rfl, hb⟩; refine ⟨_, rfl, ?_⟩; have n0_ := Aside0.mk (blk_below (g := gb101) (o := .cells #[.int .i64 a0_0, .int .i64 a0_1, .int .i64 a0_2, .string a0_3] 23 (0, 0)) (by refine zk ?_; refine blk_far ?_ NB101_191.out _; refine zk ?_; refine blk_far ?_ NB101_191.out _; refine zk ?_; refine blk_far ?_ NB101_191.out _; refine zk ?_; refine blk_far ?_ NB101_191.out _; refine zk ?_; exact BK101.out) hb); have n1_ := Aside0.mk (blk_below (g := gb102) (o := .cells #[.int .i64 a1_0, .int .i64 a1_1, .int .i64 a1_2, .string a1_3] 23 (0, 0)) (by refine zk ?_; refine blk_far ?_ NB102_191.out _; refine zk ?_; refine blk_far ?_ NB102_191.out _; refine zk ?_; refine blk_far ?_ NB102_191.out _; refine zk ?_; refine blk_far ?_ NB102_191.out _; refine zk ?_; exact BK102.out) hb); have n2_ := Aside0.mk (blk_below (g := gb103) (o := .cells #[.int .i64 a2_0, .int .i64 a2_1, .int .i64 a2_2, .string a2_3] 23 (0, 0)) (by refine zk ?_; refine blk_far ?_ NB103_191.out _; refine zk ?_; refine blk_far ?_ NB103_191.out _; refine zk ?_; refine blk_far ?_ NB103_191.out _; refine zk ?_; refine blk_far ?_ NB103_191.out _; refine zk ?_; exact BK103.out) hb); have n3_ := Aside0.mk (blk_below (g := gb114) (o := .cells #[.int .i64 t161, .int .i64 t162, .int .i64 t163, .string t164] 23 (0, 0)) (by refine zk ?_; refine blk_far ?_ NB114_191.out _; refine zk ?_; refine blk_far ?_ NB114_191.out _; refine zk ?_; refine blk_far ?_ NB114_191.out _; refine zk ?_; refine blk_far ?_ NB114_191.out _; refine zk ?_; exact BK114.out) hb); have n4_ := Aside0.mk (blk_below (g := gb120) (o := .cells #[.int .i64 t166, .int .i64 t167, .int .i64 t168, .string t169] 23 (0, 0)) (by refine zk ?_; refine blk_far ?_ NB120_191.out _; refine zk ?_; refine blk_far ?_ NB120_191.out _; refine zk ?_; refine blk_far ?_ NB120_191.out _; refine zk ?_; refine blk_far ?_ NB120_191.out _; refine zk ?_; exact BK120.out) hb); have n5_ := Aside0.mk (blk_below (g := gb178) (o := .cells #[.int .i64 t172, .int .i64 t173, .int .i64 t174, .string t175] 23 (0, 0)) (by refine zk ?_; refine blk_far ?_ NB178_191.out _; refine zk ?_; refine blk_far ?_ NB178_191.out _; refine zk ?_; refine blk_far ?_ NB178_191.out _; refine zk ?_; refine blk_far ?_ NB178_191.out _; refine zk ?_; exact BK178.out) hb); have n6_ := Aside0.mk (blk_below (g := gb185) (o := .cells #[.int .i64 t179, .int .i64 t180, .int .i64 t181, .string t182] 23 (0, 0)) (by refine zk ?_; refine blk_far ?_ NB185_191.out _; refine zk ?_; refine blk_far ?_ NB185_191.out _; refine zk ?_; refine blk_far ?_ NB185_191.out _; refine zk ?_; refine blk_far ?_ NB185_191.out _; refine zk ?_; exact BK185.out) hb); have n7_ := Aside0.mk (blk_below (g := gb191) (o := .cells #[.int .i64 t186, .int .i64 t187, .int .i64 t188, .string t189] 23 (0, 0)) (by refine zk ?_; refine blk_put (cs := #[.int .i64 t186, .int .i64 t187, .int .i64 t188, .string (⟨#[]⟩ : ByteArray)]) ?_ 3 _ rfl; refine zk ?_; refine blk_put (cs := #[.int .i64 t186, .int .i64 t187, .int .i64 0, .string (⟨#[]⟩ : ByteArray)]) ?_ 2 _ rfl; refine zk ?_; refine blk_put (cs := #[.int .i64 t186, .int .i64 0, .int .i64 0, .string (⟨#[]⟩ : ByteArray)]) ?_ 1 _ rfl; refine zk ?_; refine blk_put (cs := #[.int .i64 0, .int .i64 0, .int .i64 0, .string (⟨#[]⟩ : ByteArray)]) ?_ 0 _ rfl; refine zk ?_; exact BK191.out) hb); have n8_ := Aside0.mk (below_step (by repeat (first | (with_reducible first | exact HB.out | apply below_alloc | apply pw_below_drewN | apply below_drew1 | refine below_set ?_ GE101.out | refine below_set ?_ GE102.out | refine below_set ?_ GE103.out | refine below_set ?_ GE114.out | refine below_set ?_ GE120.out | refine below_set ?_ GE178.out | refine below_set ?_ GE185.out | refine below_set ?_ GE191.out) | exact HB.out)) hb); clear BK101; clear BK102; clear BK103; clear BK114; clear BK120; clear BK178; clear BK185; clear BK191; clear HB; have BK101 := n0_; have BK102 := n1_; have BK103 := n2_; have BK114 := n3_; have BK120 := n4_; have BK178 := n5_; have BK185 := n6_; have BK191 := n7_; have HB := n8_; clear n0_ n1_ n2_ n3_ n4_ n5_ n6_ n7_ n8_; (try clear hb); (try clear hb2); (try clear hk); (try clear hi)) | ((with_reducible refine gate_dst (N := 19) rfl ?_); refine box_event ?hg (N := 19) ?hd (cs := #[.int .i64 0, .int .i64 0, .int .i64 0, .string (⟨#[]⟩ : ByteArray)]) (t := 23) ?hr ?_; (case hd => rfl); (case hg => rfl); (case hr => first | (go_simp; done) | (go_simp; rfl)); intro gb197 hg w348 hbox hb; have n0_ := Aside0.mk (blk_below (zk BK101.out) hb); have n1_ := Aside0.mk (blk_below (zk BK102.out) hb); have n2_ := Aside0.mk (blk_below (zk BK103.out) hb); have n3_ := Aside0.mk (blk_below (zk BK114.out) hb); have n4_ := Aside0.mk (blk_below (zk BK120.out) hb); have n5_ := Aside0.mk (blk_below (zk BK178.out) hb); have n6_ := Aside0.mk (blk_below (zk BK185.out) hb); have n7_ := Aside0.mk (blk_below (zk BK191.out) hb); have n8_ := Aside0.mk (below_step (by repeat (first | (with_reducible first | exact HB.out | apply below_alloc | apply pw_below_drewN | apply below_drew1 | refine below_set ?_ GE101.out | refine below_set ?_ GE102.out | refine below_set ?_ GE103.out | refine below_set ?_ GE114.out | refine below_set ?_ GE120.out | refine below_set ?_ GE178.out | refine below_set ?_ GE185.out | refine below_set ?_ GE191.out) | exact HB.out)) hb); have n9_ := Aside0.mk (hbox); have n10_ := Aside0.mk ((by rw [hg]; exact (below_size (by repeat (first | (with_reducible first | exact HB.out | apply below_alloc | apply pw_below_drewN | apply below_drew1 | refine below_set ?_ GE101.out | refine below_set ?_ GE102.out | refine below_set ?_ GE103.out | refine below_set ?_ GE114.out | refine below_set ?_ GE120.out | refine below_set ?_ GE178.out | refine below_set ?_ GE185.out | refine below_set ?_ GE191.out) | exact HB.out))) : w.heap.size ≤ gb197)); have n11_ := n10_; have n12_ := Aside0.mk ((by rw [hg]; exact Nat.ne_of_lt (blk_lt (zk BK101.out)) : gb101 ≠ gb197)); have n13_ := Aside0.mk ((by rw [hg]; exact Nat.ne_of_gt (blk_lt (zk BK101.out)) : gb197 ≠ gb101)); have n14_ := Aside0.mk ((by rw [hg]; exact Nat.ne_of_lt (blk_lt (zk BK102.out)) : gb102 ≠ gb197)); have n15_ := Aside0.mk ((by rw [hg]; exact Nat.ne_of_gt (blk_lt (zk BK102.out)) : gb197 ≠ gb102)); have n16_ := Aside0.mk ((by rw [hg]; exact Nat.ne_of_lt (blk_lt (zk BK103.out)) : gb103 ≠ gb197)); have n17_ := Aside0.mk ((by rw [hg]; exact Nat.ne_of_gt (blk_lt (zk BK103.out)) : gb197 ≠ gb103)); have n18_ := Aside0.mk ((by rw [hg]; exact Nat.ne_of_lt (blk_lt (zk BK114.out)) : gb114 ≠ gb197)); have n19_ := Aside0.mk ((by rw [hg]; exact Nat.ne_of_gt (blk_lt (zk BK114.out)) : gb197 ≠ gb114)); have n20_ := Aside0.mk ((by rw [hg]; exact Nat.ne_of_lt (blk_lt (zk BK120.out)) : gb120 ≠ gb197)); have n21_ := Aside0.mk ((by rw [hg]; exact Nat.ne_of_gt (blk_lt (zk BK120.out)) : gb197 ≠ gb120)); have n22_ := Aside0.mk ((by rw [hg]; exact Nat.ne_of_lt (blk_lt (zk BK178.out)) : gb178 ≠ gb197)); have n23_ := Aside0.mk ((by rw [hg]; exact Nat.ne_of_gt (blk_lt (zk BK178.out)) : gb197 ≠ gb178)); have n24_ := Aside0.mk ((by rw [hg]; exact Nat.ne_of_lt (blk_lt (zk BK185.out)) : gb185 ≠ gb197)); have n25_ := Aside0.mk ((by rw [hg]; exact Nat.ne_of_gt (blk_lt (zk BK185.out)) : gb197 ≠ gb185)); have n26_ := Aside0.mk ((by rw [hg]; exact Nat.ne_of_lt (blk_lt (zk BK191.out)) : gb191 ≠ gb197)); have n27_ := Aside0.mk ((by rw [hg]; exact Nat.ne_of_gt (blk_lt (zk BK191.out)) : gb197 ≠ gb191)); clear BK101; clear BK102; clear BK103; clear BK114; clear BK120; clear BK178; clear BK185; clear BK191; clear HB; have BK101 := n0_; have BK102 := n1_; have BK103 := n2_; have BK114 := n3_; have BK120 := n4_; have BK178 := n5_; have BK185 := n6_; have BK191 := n7_; have HB := n8_; have BK197 := n9_; have GW197 := n10_; have GE197 := n11_; have NB101_197 := n12_; have NB197_101 := n13_; have NB102_197 := n14_; have NB197_102 := n15_; have NB103_197 := n16_; have NB197_103 := n17_; have NB114_197 := n18_; have NB197_114 := n19_; have NB120_197 := n20_; have NB197_120 := n21_; have NB178_197 := n22_; have NB197_178 := n23_; have NB185_197 := n24_; have NB197_185 := n25_; have NB191_197 := n26_; have NB197_191 := n27_; clear n0_ n1_ n2_ n3_ n4_ n5_ n6_ n7_ n8_ n9_ n10_ n11_ n12_ n13_ n14_ n15_ n16_ n17_ n18_ n19_ n20_ n21_ n22_ n23_ n24_ n25_ n26_ n27_; clear hb hbox hg; have hnb349 := NB197_101.out; have hnc349 := NB101_197.out; have hnb350 := NB197_102.out; have hnc350 := NB102_197.out; have hnb351 := NB197_103.out; have hnc351 := NB103_197.out; have hnb352 := NB197_114.out; have hnc352 := NB114_197.out; have hnb353 := NB197_120.out; have hnc353 := NB120_197.out; have hnb354 := NB197_178.out; have hnc354 := NB178_197.out; have hnb355 := NB197_185.out; have hnc355 := NB185_197.out; have hnb356 := NB197_191.out; have hnc356 := NB191_197.out; obtain ⟨hcz357_0, hcz357_1, hcz357_2, hcz357_3⟩ := blk_quad BK197.out; obtain ⟨hfz357_0, hfz357_1, hfz357_2, hfz357_3⟩ := blk_quad_free BK197.out; have hnb358 := NB101_103.out; have hnc358 := NB103_101.out; have hnb359 := NB101_120.out; have hnc359 := NB120_101.out; have hnb360 := NB101_178.out; have hnc360 := NB178_101.out; have hnb361 := NB101_185.out; have hnc361 := NB185_101.out; obtain ⟨hcz362_0, hcz362_1, hcz362_2, hcz362_3⟩ := blk_quad BK101.out; obtain ⟨hfz362_0, hfz362_1, hfz362_2, hfz362_3⟩ := blk_quad_free BK101.out) | ((with_reducible refine gate_callee (f := 53) rfl ?_); refine goesL_ (some 199) rfl rfl Try.func53 (by kernel_rfl) rfl #[.agg #[.int .i64 a0_0, .int .i64 a0_1, .int .i64 a0_2, .string a0_3]] rfl (by (try simp only [List.map_toArray, List.map_cons, List.map_nil]); first | done | rfl | (simp only [List.length_drop, List.length_take]; rfl)) ?_; (with_reducible refine (bits_Reverse.calls a0_0 a0_1 a0_2 a0_3 t198 t199 t200 t201 t202 _ A319.out).mono ?_); rintro e w363 ⟨rfl, hb⟩; refine ⟨_, rfl, ?_⟩; have n0_ := Aside0.mk (blk_below (g := gb101) (o := .cells #[.int .i64 a0_0, .int .i64 a0_1, .int .i64 a0_2, .string a0_3] 23 (0, 0)) (by refine zk ?_; refine blk_far ?_ NB101_197.out _; refine zk ?_; refine blk_far ?_ NB101_197.out _; refine zk ?_; refine blk_far ?_ NB101_197.out _; refine zk ?_; refine blk_far ?_ NB101_197.out _; refine zk ?_; exact BK101.out) hb); have n1_ := Aside0.mk (blk_below (g := gb102) (o := .cells #[.int .i64 a1_0, .int .i64 a1_1, .int .i64 a1_2, .string a1_3] 23 (0, 0)) (by refine zk ?_; refine blk_far ?_ NB102_197.out _; refine zk ?_; refine blk_far ?_ NB102_197.out _; refine zk ?_; refine blk_far ?_ NB102_197.out _; refine zk ?_; refine blk_far ?_ NB102_197.out _; refine zk ?_; exact BK102.out) hb); have n2_ := Aside0.mk (blk_below (g := gb103) (o := .cells #[.int .i64 a2_0, .int .i64 a2_1, .int .i64 a2_2, .string a2_3] 23 (0, 0)) (by refine zk ?_; refine blk_far ?_ NB103_197.out _; refine zk ?_; refine blk_far ?_ NB103_197.out _; refine zk ?_; refine blk_far ?_ NB103_197.out _; refine zk ?_; refine blk_far ?_ NB103_197.out _; refine zk ?_; exact BK103.out) hb); have n3_ := Aside0.mk (blk_below (g := gb114) (o := .cells #[.int .i64 t161, .int .i64 t162, .int .i64 t163, .string t164] 23 (0, 0)) (by refine zk ?_; refine blk_far ?_ NB114_197.out _; refine zk ?_; refine blk_far ?_ NB114_197.out _; refine zk ?_; refine blk_far ?_ NB114_197.out _; refine zk ?_; refine blk_far ?_ NB114_197.out _; refine zk ?_; exact BK114.out) hb); have n4_ := Aside0.mk (blk_below (g := gb120) (o := .cells #[.int .i64 t166, .int .i64 t167, .int .i64 t168, .string t169] 23 (0, 0)) (by refine zk ?_; refine blk_far ?_ NB120_197.out _; refine zk ?_; refine blk_far ?_ NB120_197.out _; refine zk ?_; refine blk_far ?_ NB120_197.out _; refine zk ?_; refine blk_far ?_ NB120_197.out _; refine zk ?_; exact BK120.out) hb); have n5_ := Aside0.mk (blk_below (g := gb178) (o := .cells #[.int .i64 t172, .int .i64 t173, .int .i64 t174, .string t175] 23 (0, 0)) (by refine zk ?_; refine blk_far ?_ NB178_197.out _; refine zk ?_; refine blk_far ?_ NB178_197.out _; refine zk ?_; refine blk_far ?_ NB178_197.out _; refine zk ?_; refine blk_far ?_ NB178_197.out _; refine zk ?_; exact BK178.out) hb); have n6_ := Aside0.mk (blk_below (g := gb185) (o := .cells #[.int .i64 t179, .int .i64 t180, .int .i64 t181, .string t182] 23 (0, 0)) (by refine zk ?_; refine blk_far ?_ NB185_197.out _; refine zk ?_; refine blk_far ?_ NB185_197.out _; refine zk ?_; refine blk_far ?_ NB185_197.out _; refine zk ?_; refine blk_far ?_ NB185_197.out _; refine zk ?_; exact BK185.out) hb); have n7_ := Aside0.mk (blk_below (g := gb191) (o := .cells #[.int .i64 t186, .int .i64 t187, .int .i64 t188, .string t189] 23 (0, 0)) (by refine zk ?_; refine blk_far ?_ NB191_197.out _; refine zk ?_; refine blk_far ?_ NB191_197.out _; refine zk ?_; refine blk_far ?_ NB191_197.out _; refine zk ?_; refine blk_far ?_ NB191_197.out _; refine zk ?_; exact BK191.out) hb); have n8_ := Aside0.mk (blk_below (g := gb197) (o := .cells #[.int .i64 t192, .int .i64 t193, .int .i64 t194, .string t195] 23 (0, 0)) (by refine zk ?_; refine blk_put (cs := #[.int .i64 t192, .int .i64 t193, .int .i64 t194, .string (⟨#[]⟩ : ByteArray)]) ?_ 3 _ rfl; refine zk ?_; refine blk_put (cs := #[.int .i64 t192, .int .i64 t193, .int .i64 0, .string (⟨#[]⟩ : ByteArray)]) ?_ 2 _ rfl; refine zk ?_; refine blk_put (cs := #[.int .i64 t192, .int .i64 0, .int .i64 0, .string (⟨#[]⟩ : ByteArray)]) ?_ 1 _ rfl; refine zk ?_; refine blk_put (cs := #[.int .i64 0, .int .i64 0, .int .i64 0, .string (⟨#[]⟩ : ByteArray)]) ?_ 0 _ rfl; refine zk ?_; exact BK197.out) hb); have n9_ := Aside0.mk (below_step (by repeat (first | (with_reducible first | exact HB.out | apply below_alloc | apply pw_below_drewN | apply below_drew1 | refine below_set ?_ GE101.out | refine below_set ?_ GE102.out | refine below_set ?_ GE103.out | refine below_set ?_ GE114.out | refine below_set ?_ GE120.out | refine below_set ?_ GE178.out | refine below_set ?_ GE185.out | refine below_set ?_ GE191.out | refine below_set ?_ GE197.out) | exact HB.out)) hb); clear BK101; clear BK102; clear BK103; clear BK114; clear BK120; clear BK178; clear BK185; clear BK191; clear BK197; clear HB; have BK101 := n0_; have BK102 := n1_; have BK103 := n2_; have BK114 := n3_; have BK120 := n4_; have BK178 := n5_; have BK185 := n6_; have BK191 := n7_; have BK197 := n8_; have HB := n9_; clear n0_ n1_ n2_ n3_ n4_ n5_ n6_ n7_ n8_ n9_; (try clear hb); (try clear hb2); (try clear hk); (try clear hi)) | ((with_reducible refine gate_dst (N := 21) rfl ?_); refine box_event ?hg (N := 21) ?hd (cs := #[.int .i64 0, .int .i64 0, .int .i64 0, .string (⟨#[]⟩ : ByteArray)]) (t := 23) ?hr ?_; (case hd => rfl); (case hg => rfl); (case hr => first | (go_simp; done) | (go_simp; rfl)); intro gb203 hg w364 hbox hb; have n0_ := Aside0.mk (blk_below (zk BK101.out) hb); have n1_ := Aside0.mk (blk_below (zk BK102.out) hb); have n2_ := Aside0.mk (blk_below (zk BK103.out) hb); have n3_ := Aside0.mk (blk_below (zk BK114.out) hb); have n4_ := Aside0.mk (blk_below (zk BK120.out) hb); have n5_ := Aside0.mk (blk_below (zk BK178.out) hb); have n6_ := Aside0.mk (blk_below (zk BK185.out) hb); have n7_ := Aside0.mk (blk_below (zk BK191.out) hb); have n8_ := Aside0.mk (blk_below (zk BK197.out) hb); have n9_ := Aside0.mk (below_step (by repeat (first | (with_reducible first | exact HB.out | apply below_alloc | apply pw_below_drewN | apply below_drew1 | refine below_set ?_ GE101.out | refine below_set ?_ GE102.out | refine below_set ?_ GE103.out | refine below_set ?_ GE114.out | refine below_set ?_ GE120.out | refine below_set ?_ GE178.out | refine below_set ?_ GE185.out | refine below_set ?_ GE191.out | refine below_set ?_ GE197.out) | exact HB.out)) hb); have n10_ := Aside0.mk (hbox); have n11_ := Aside0.mk ((by rw [hg]; exact (below_size (by repeat (first | (with_reducible first | exact HB.out | apply below_alloc | apply pw_below_drewN | apply below_drew1 | refine below_set ?_ GE101.out | refine below_set ?_ GE102.out | refine below_set ?_ GE103.out | refine below_set ?_ GE114.out | refine below_set ?_ GE120.out | refine below_set ?_ GE178.out | refine below_set ?_ GE185.out | refine below_set ?_ GE191.out | refine below_set ?_ GE197.out) | exact HB.out))) : w.heap.size ≤ gb203)); have n12_ := n11_; have n13_ := Aside0.mk ((by rw [hg]; exact Nat.ne_of_lt (blk_lt (zk BK101.out)) : gb101 ≠ gb203)); have n14_ := Aside0.mk ((by rw [hg]; exact Nat.ne_of_gt (blk_lt (zk BK101.out)) : gb203 ≠ gb101)); have n15_ := Aside0.mk ((by rw [hg]; exact Nat.ne_of_lt (blk_lt (zk BK102.out)) : gb102 ≠ gb203)); have n16_ := Aside0.mk ((by rw [hg]; exact Nat.ne_of_gt (blk_lt (zk BK102.out)) : gb203 ≠ gb102)); have n17_ := Aside0.mk ((by rw [hg]; exact Nat.ne_of_lt (blk_lt (zk BK103.out)) : gb103 ≠ gb203)); have n18_ := Aside0.mk ((by rw [hg]; exact Nat.ne_of_gt (blk_lt (zk BK103.out)) : gb203 ≠ gb103)); have n19_ := Aside0.mk ((by rw [hg]; exact Nat.ne_of_lt (blk_lt (zk BK114.out)) : gb114 ≠ gb203)); have n20_ := Aside0.mk ((by rw [hg]; exact Nat.ne_of_gt (blk_lt (zk BK114.out)) : gb203 ≠ gb114)); have n21_ := Aside0.mk ((by rw [hg]; exact Nat.ne_of_lt (blk_lt (zk BK120.out)) : gb120 ≠ gb203)); have n22_ := Aside0.mk ((by rw [hg]; exact Nat.ne_of_gt (blk_lt (zk BK120.out)) : gb203 ≠ gb120)); have n23_ := Aside0.mk ((by rw [hg]; exact Nat.ne_of_lt (blk_lt (zk BK178.out)) : gb178 ≠ gb203)); have n24_ := Aside0.mk ((by rw [hg]; exact Nat.ne_of_gt (blk_lt (zk BK178.out)) : gb203 ≠ gb178)); have n25_ := Aside0.mk ((by rw [hg]; exact Nat.ne_of_lt (blk_lt (zk BK185.out)) : gb185 ≠ gb203)); have n26_ := Aside0.mk ((by rw [hg]; exact Nat.ne_of_gt (blk_lt (zk BK185.out)) : gb203 ≠ gb185)); have n27_ := Aside0.mk ((by rw [hg]; exact Nat.ne_of_lt (blk_lt (zk BK191.out)) : gb191 ≠ gb203)); have n28_ := Aside0.mk ((by rw [hg]; exact Nat.ne_of_gt (blk_lt (zk BK191.out)) : gb203 ≠ gb191)); have n29_ := Aside0.mk ((by rw [hg]; exact Nat.ne_of_lt (blk_lt (zk BK197.out)) : gb197 ≠ gb203)); have n30_ := Aside0.mk ((by rw [hg]; exact Nat.ne_of_gt (blk_lt (zk BK197.out)) : gb203 ≠ gb197)); clear BK101; clear BK102; clear BK103; clear BK114; clear BK120; clear BK178; clear BK185; clear BK191; clear BK197; clear HB; have BK101 := n0_; have BK102 := n1_; have BK103 := n2_; have BK114 := n3_; have BK120 := n4_; have BK178 := n5_; have BK185 := n6_; have BK191 := n7_; have BK197 := n8_; have HB := n9_; have BK203 := n10_; have GW203 := n11_; have GE203 := n12_; have NB101_203 := n13_; have NB203_101 := n14_; have NB102_203 := n15_; have NB203_102 := n16_; have NB103_203 := n17_; have NB203_103 := n18_; have NB114_203 := n19_; have NB203_114 := n20_; have NB120_203 := n21_; have NB203_120 := n22_; have NB178_203 := n23_; have NB203_178 := n24_; have NB185_203 := n25_; have NB203_185 := n26_; have NB191_203 := n27_; have NB203_191 := n28_; have NB197_203 := n29_; have NB203_197 := n30_; clear n0_ n1_ n2_ n3_ n4_ n5_ n6_ n7_ n8_ n9_ n10_ n11_ n12_ n13_ n14_ n15_ n16_ n17_ n18_ n19_ n20_ n21_ n22_ n23_ n24_ n25_ n26_ n27_ n28_ n29_ n30_; clear hb hbox hg; have hnb365 := NB203_101.out; have hnc365 := NB101_203.out; have hnb366 := NB203_102.out; have hnc366 := NB102_203.out; have hnb367 := NB203_103.out; have hnc367 := NB103_203.out; have hnb368 := NB203_114.out; have hnc368 := NB114_203.out; have hnb369 := NB203_120.out; have hnc369 := NB120_203.out; have hnb370 := NB203_178.out; have hnc370 := NB178_203.out; have hnb371 := NB203_185.out; have hnc371 := NB185_203.out; have hnb372 := NB203_191.out; have hnc372 := NB191_203.out; have hnb373 := NB203_197.out; have hnc373 := NB197_203.out; obtain ⟨hcz374_0, hcz374_1, hcz374_2, hcz374_3⟩ := blk_quad BK203.out; obtain ⟨hfz374_0, hfz374_1, hfz374_2, hfz374_3⟩ := blk_quad_free BK203.out; obtain ⟨hcz375_0, hcz375_1, hcz375_2, hcz375_3⟩ := blk_quad BK197.out; obtain ⟨hfz375_0, hfz375_1, hfz375_2, hfz375_3⟩ := blk_quad_free BK197.out) | ((with_reducible refine gate_callee (f := 51) rfl ?_); refine goesL_ (some 205) rfl rfl Try.func51 (by kernel_rfl) rfl #[.agg #[.int .i64 t192, .int .i64 t193, .int .i64 t194, .string t195], .agg #[.int .i64 t198, .int .i64 t199, .int .i64 t200, .string t201]] rfl (by (try simp only [List.map_toArray, List.map_cons, List.map_nil]); first | done | rfl | (simp only [List.length_drop, List.length_take]; rfl)) ?_; (with_reducible refine (bits_Join.calls t192 t193 t194 t195 t198 t199 t200 t201 t204 t205 t206 t207 t208 _ A320.out).mono ?_); rintro e w376 ⟨rfl, hb⟩; refine ⟨_, rfl, ?_⟩; have n0_ := Aside0.mk (blk_below (g := gb101) (o := .cells #[.int .i64 a0_0, .int .i64 a0_1, .int .i64 a0_2, .string a0_3] 23 (0, 0)) (by refine zk ?_; refine blk_far ?_ NB101_203.out _; refine zk ?_; refine blk_far ?_ NB101_203.out _; refine zk ?_; refine blk_far ?_ NB101_203.out _; refine zk ?_; refine blk_far ?_ NB101_203.out _; refine zk ?_; exact BK101.out) hb); have n1_ := Aside0.mk (blk_below (g := gb102) (o := .cells #[.int .i64 a1_0, .int .i64 a1_1, .int .i64 a1_2, .string a1_3] 23 (0, 0)) (by refine zk ?_; refine blk_far ?_ NB102_203.out _; refine zk ?_; refine blk_far ?_ NB102_203.out _; refine zk ?_; refine blk_far ?_ NB102_203.out _; refine zk ?_; refine blk_far ?_ NB102_203.out _; refine zk ?_; exact BK102.out) hb); have n2_ := Aside0.mk (blk_below (g := gb103) (o := .cells #[.int .i64 a2_0, .int .i64 a2_1, .int .i64 a2_2, .string a2_3] 23 (0, 0)) (by refine zk ?_; refine blk_far ?_ NB103_203.out _; refine zk ?_; refine blk_far ?_ NB103_203.out _; refine zk ?_; refine blk_far ?_ NB103_203.out _; refine zk ?_; refine blk_far ?_ NB103_203.out _; refine zk ?_; exact BK103.out) hb); have n3_ := Aside0.mk (blk_below (g := gb114) (o := .cells #[.int .i64 t161, .int .i64 t162, .int .i64 t163, .string t164] 23 (0, 0)) (by refine zk ?_; refine blk_far ?_ NB114_203.out _; refine zk ?_; refine blk_far ?_ NB114_203.out _; refine zk ?_; refine blk_far ?_ NB114_203.out _; refine zk ?_; refine blk_far ?_ NB114_203.out _; refine zk ?_; exact BK114.out) hb); have n4_ := Aside0.mk (blk_below (g := gb120) (o := .cells #[.int .i64 t166, .int .i64 t167, .int .i64 t168, .string t169] 23 (0, 0)) (by refine zk ?_; refine blk_far ?_ NB120_203.out _; refine zk ?_; refine blk_far ?_ NB120_203.out _; refine zk ?_; refine blk_far ?_ NB120_203.out _; refine zk ?_; refine blk_far ?_ NB120_203.out _; refine zk ?_; exact BK120.out) hb); have n5_ := Aside0.mk (blk_below (g := gb178) (o := .cells #[.int .i64 t172, .int .i64 t173, .int .i64 t174, .string t175] 23 (0, 0)) (by refine zk ?_; refine blk_far ?_ NB178_203.out _; refine zk ?_; refine blk_far ?_ NB178_203.out _; refine zk ?_; refine blk_far ?_ NB178_203.out _; refine zk ?_; refine blk_far ?_ NB178_203.out _; refine zk ?_; exact BK178.out) hb); have n6_ := Aside0.mk (blk_below (g := gb185) (o := .cells #[.int .i64 t179, .int .i64 t180, .int .i64 t181, .string t182] 23 (0, 0)) (by refine zk ?_; refine blk_far ?_ NB185_203.out _; refine zk ?_; refine blk_far ?_ NB185_203.out _; refine zk ?_; refine blk_far ?_ NB185_203.out _; refine zk ?_; refine blk_far ?_ NB185_203.out _; refine zk ?_; exact BK185.out) hb); have n7_ := Aside0.mk (blk_below (g := gb191) (o := .cells #[.int .i64 t186, .int .i64 t187, .int .i64 t188, .string t189] 23 (0, 0)) (by refine zk ?_; refine blk_far ?_ NB191_203.out _; refine zk ?_; refine blk_far ?_ NB191_203.out _; refine zk ?_; refine blk_far ?_ NB191_203.out _; refine zk ?_; refine blk_far ?_ NB191_203.out _; refine zk ?_; exact BK191.out) hb); have n8_ := Aside0.mk (blk_below (g := gb197) (o := .cells #[.int .i64 t192, .int .i64 t193, .int .i64 t194, .string t195] 23 (0, 0)) (by refine zk ?_; refine blk_far ?_ NB197_203.out _; refine zk ?_; refine blk_far ?_ NB197_203.out _; refine zk ?_; refine blk_far ?_ NB197_203.out _; refine zk ?_; refine blk_far ?_ NB197_203.out _; refine zk ?_; exact BK197.out) hb); have n9_ := Aside0.mk (blk_below (g := gb203) (o := .cells #[.int .i64 t198, .int .i64 t199, .int .i64 t200, .string t201] 23 (0, 0)) (by refine zk ?_; refine blk_put (cs := #[.int .i64 t198, .int .i64 t199, .int .i64 t200, .string (⟨#[]⟩ : ByteArray)]) ?_ 3 _ rfl; refine zk ?_; refine blk_put (cs := #[.int .i64 t198, .int .i64 t199, .int .i64 0, .string (⟨#[]⟩ : ByteArray)]) ?_ 2 _ rfl; refine zk ?_; refine blk_put (cs := #[.int .i64 t198, .int .i64 0, .int .i64 0, .string (⟨#[]⟩ : ByteArray)]) ?_ 1 _ rfl; refine zk ?_; refine blk_put (cs := #[.int .i64 0, .int .i64 0, .int .i64 0, .string (⟨#[]⟩ : ByteArray)]) ?_ 0 _ rfl; refine zk ?_; exact BK203.out) hb); have n10_ := Aside0.mk (below_step (by repeat (first | (with_reducible first | exact HB.out | apply below_alloc | apply pw_below_drewN | apply below_drew1 | refine below_set ?_ GE101.out | refine below_set ?_ GE102.out | refine below_set ?_ GE103.out | refine below_set ?_ GE114.out | refine below_set ?_ GE120.out | refine below_set ?_ GE178.out | refine below_set ?_ GE185.out | refine below_set ?_ GE191.out | refine below_set ?_ GE197.out | refine below_set ?_ GE203.out) | exact HB.out)) hb); clear BK101; clear BK102; clear BK103; clear BK114; clear BK120; clear BK178; clear BK185; clear BK191; clear BK197; clear BK203; clear HB; have BK101 := n0_; have BK102 := n1_; have BK103 := n2_; have BK114 := n3_; have BK120 := n4_; have BK178 := n5_; have BK185 := n6_; have BK191 := n7_; have BK197 := n8_; have BK203 := n9_; have HB := n10_; clear n0_ n1_ n2_ n3_ n4_ n5_ n6_ n7_ n8_ n9_ n10_; (try clear hb); (try clear hb2); (try clear hk); (try clear hi)) | ((with_reducible refine gate_dst (N := 23) rfl ?_); refine box_event ?hg (N := 23) ?hd (cs := #[.int .i64 0, .int .i64 0, .int .i64 0, .string (⟨#[]⟩ : ByteArray)]) (t := 23) ?hr ?_; (case hd => rfl); (case hg => rfl); (case hr => first | (go_simp; done) | (go_simp; rfl)); intro gb209 hg w377 hbox hb; have n0_ := Aside0.mk (blk_below (zk BK101.out) hb); have n1_ := Aside0.mk (blk_below (zk BK102.out) hb); have n2_ := Aside0.mk (blk_below (zk BK103.out) hb); have n3_ := Aside0.mk (blk_below (zk BK114.out) hb); have n4_ := Aside0.mk (blk_below (zk BK120.out) hb); have n5_ := Aside0.mk (blk_below (zk BK178.out) hb); have n6_ := Aside0.mk (blk_below (zk BK185.out) hb); have n7_ := Aside0.mk (blk_below (zk BK191.out) hb); have n8_ := Aside0.mk (blk_below (zk BK197.out) hb); have n9_ := Aside0.mk (blk_below (zk BK203.out) hb); have n10_ := Aside0.mk (below_step (by repeat (first | (with_reducible first | exact HB.out | apply below_alloc | apply pw_below_drewN | apply below_drew1 | refine below_set ?_ GE101.out | refine below_set ?_ GE102.out | refine below_set ?_ GE103.out | refine below_set ?_ GE114.out | refine below_set ?_ GE120.out | refine below_set ?_ GE178.out | refine below_set ?_ GE185.out | refine below_set ?_ GE191.out | refine below_set ?_ GE197.out | refine below_set ?_ GE203.out) | exact HB.out)) hb); have n11_ := Aside0.mk (hbox); have n12_ := Aside0.mk ((by rw [hg]; exact (below_size (by repeat (first | (with_reducible first | exact HB.out | apply below_alloc | apply pw_below_drewN | apply below_drew1 | refine below_set ?_ GE101.out | refine below_set ?_ GE102.out | refine below_set ?_ GE103.out | refine below_set ?_ GE114.out | refine below_set ?_ GE120.out | refine below_set ?_ GE178.out | refine below_set ?_ GE185.out | refine below_set ?_ GE191.out | refine below_set ?_ GE197.out | refine below_set ?_ GE203.out) | exact HB.out))) : w.heap.size ≤ gb209)); have n13_ := n12_; have n14_ := Aside0.mk ((by rw [hg]; exact Nat.ne_of_lt (blk_lt (zk BK101.out)) : gb101 ≠ gb209)); have n15_ := Aside0.mk ((by rw [hg]; exact Nat.ne_of_gt (blk_lt (zk BK101.out)) : gb209 ≠ gb101)); have n16_ := Aside0.mk ((by rw [hg]; exact Nat.ne_of_lt (blk_lt (zk BK102.out)) : gb102 ≠ gb209)); have n17_ := Aside0.mk ((by rw [hg]; exact Nat.ne_of_gt (blk_lt (zk BK102.out)) : gb209 ≠ gb102)); have n18_ := Aside0.mk ((by rw [hg]; exact Nat.ne_of_lt (blk_lt (zk BK103.out)) : gb103 ≠ gb209)); have n19_ := Aside0.mk ((by rw [hg]; exact Nat.ne_of_gt (blk_lt (zk BK103.out)) : gb209 ≠ gb103)); have n20_ := Aside0.mk ((by rw [hg]; exact Nat.ne_of_lt (blk_lt (zk BK114.out)) : gb114 ≠ gb209)); have n21_ := Aside0.mk ((by rw [hg]; exact Nat.ne_of_gt (blk_lt (zk BK114.out)) : gb209 ≠ gb114)); have n22_ := Aside0.mk ((by rw [hg]; exact Nat.ne_of_lt (blk_lt (zk BK120.out)) : gb120 ≠ gb209)); have n23_ := Aside0.mk ((by rw [hg]; exact Nat.ne_of_gt (blk_lt (zk BK120.out)) : gb209 ≠ gb120)); have n24_ := Aside0.mk ((by rw [hg]; exact Nat.ne_of_lt (blk_lt (zk BK178.out)) : gb178 ≠ gb209)); have n25_ := Aside0.mk ((by rw [hg]; exact Nat.ne_of_gt (blk_lt (zk BK178.out)) : gb209 ≠ gb178)); have n26_ := Aside0.mk ((by rw [hg]; exact Nat.ne_of_lt (blk_lt (zk BK185.out)) : gb185 ≠ gb209)); have n27_ := Aside0.mk ((by rw [hg]; exact Nat.ne_of_gt (blk_lt (zk BK185.out)) : gb209 ≠ gb185)); have n28_ := Aside0.mk ((by rw [hg]; exact Nat.ne_of_lt (blk_lt (zk BK191.out)) : gb191 ≠ gb209)); have n29_ := Aside0.mk ((by rw [hg]; exact Nat.ne_of_gt (blk_lt (zk BK191.out)) : gb209 ≠ gb191)); have n30_ := Aside0.mk ((by rw [hg]; exact Nat.ne_of_lt (blk_lt (zk BK197.out)) : gb197 ≠ gb209)); have n31_ := Aside0.mk ((by rw [hg]; exact Nat.ne_of_gt (blk_lt (zk BK197.out)) : gb209 ≠ gb197)); have n32_ := Aside0.mk ((by rw [hg]; exact Nat.ne_of_lt (blk_lt (zk BK203.out)) : gb203 ≠ gb209)); have n33_ := Aside0.mk ((by rw [hg]; exact Nat.ne_of_gt (blk_lt (zk BK203.out)) : gb209 ≠ gb203)); clear BK101; clear BK102; clear BK103; clear BK114; clear BK120; clear BK178; clear BK185; clear BK191; clear BK197; clear BK203; clear HB; have BK101 := n0_; have BK102 := n1_; have BK103 := n2_; have BK114 := n3_; have BK120 := n4_; have BK178 := n5_; have BK185 := n6_; have BK191 := n7_; have BK197 := n8_; have BK203 := n9_; have HB := n10_; have BK209 := n11_; have GW209 := n12_; have GE209 := n13_; have NB101_209 := n14_; have NB209_101 := n15_; have NB102_209 := n16_; have NB209_102 := n17_; have NB103_209 := n18_; have NB209_103 := n19_; have NB114_209 := n20_; have NB209_114 := n21_; have NB120_209 := n22_; have NB209_120 := n23_; have NB178_209 := n24_; have NB209_178 := n25_; have NB185_209 := n26_; have NB209_185 := n27_; have NB191_209 := n28_; have NB209_191 := n29_; have NB197_209 := n30_; have NB209_197 := n31_; have NB203_209 := n32_; have NB209_203 := n33_; clear n0_ n1_ n2_ n3_ n4_ n5_ n6_ n7_ n8_ n9_ n10_ n11_ n12_ n13_ n14_ n15_ n16_ n17_ n18_ n19_ n20_ n21_ n22_ n23_ n24_ n25_ n26_ n27_ n28_ n29_ n30_ n31_ n32_ n33_; clear hb hbox hg; have hnb378 := NB209_101.out; have hnc378 := NB101_209.out; have hnb379 := NB209_102.out; have hnc379 := NB102_209.out; have hnb380 := NB209_103.out; have hnc380 := NB103_209.out; have hnb381 := NB209_114.out; have hnc381 := NB114_209.out; have hnb382 := NB209_120.out; have hnc382 := NB120_209.out; have hnb383 := NB209_178.out; have hnc383 := NB178_209.out; have hnb384 := NB209_185.out; have hnc384 := NB185_209.out; have hnb385 := NB209_191.out; have hnc385 := NB191_209.out; have hnb386 := NB209_197.out; have hnc386 := NB197_209.out; have hnb387 := NB209_203.out; have hnc387 := NB203_209.out; obtain ⟨hcz388_0, hcz388_1, hcz388_2, hcz388_3⟩ := blk_quad BK209.out; obtain ⟨hfz388_0, hfz388_1, hfz388_2, hfz388_3⟩ := blk_quad_free BK209.out; obtain ⟨hcz389_0, hcz389_1, hcz389_2, hcz389_3⟩ := blk_quad BK191.out; obtain ⟨hfz389_0, hfz389_1, hfz389_2, hfz389_3⟩ := blk_quad_free BK191.out) | (go_at_call 9; (with_reducible refine (ironbarklaw05_awake.calls  t210 _ A323.out).mono ?_); rintro e w390 ⟨rfl, hb⟩; have n0_ := Aside0.mk (blk_below (g := gb101) (o := .cells #[.int .i64 a0_0, .int .i64 a0_1, .int .i64 a0_2, .string a0_3] 23 (0, 0)) (by refine zk ?_; refine blk_far ?_ NB101_209.out _; refine zk ?_; refine blk_far ?_ NB101_209.out _; refine zk ?_; refine blk_far ?_ NB101_209.out _; refine zk ?_; refine blk_far ?_ NB101_209.out _; refine zk ?_; exact BK101.out) hb); have n1_ := Aside0.mk (blk_below (g := gb102) (o := .cells #[.int .i64 a1_0, .int .i64 a1_1, .int .i64 a1_2, .string a1_3] 23 (0, 0)) (by refine zk ?_; refine blk_far ?_ NB102_209.out _; refine zk ?_; refine blk_far ?_ NB102_209.out _; refine zk ?_; refine blk_far ?_ NB102_209.out _; refine zk ?_; refine blk_far ?_ NB102_209.out _; refine zk ?_; exact BK102.out) hb); have n2_ := Aside0.mk (blk_below (g := gb103) (o := .cells #[.int .i64 a2_0, .int .i64 a2_1, .int .i64 a2_2, .string a2_3] 23 (0, 0)) (by refine zk ?_; refine blk_far ?_ NB103_209.out _; refine zk ?_; refine blk_far ?_ NB103_209.out _; refine zk ?_; refine blk_far ?_ NB103_209.out _; refine zk ?_; refine blk_far ?_ NB103_209.out _; refine zk ?_; exact BK103.out) hb); have n3_ := Aside0.mk (blk_below (g := gb114) (o := .cells #[.int .i64 t161, .int .i64 t162, .int .i64 t163, .string t164] 23 (0, 0)) (by refine zk ?_; refine blk_far ?_ NB114_209.out _; refine zk ?_; refine blk_far ?_ NB114_209.out _; refine zk ?_; refine blk_far ?_ NB114_209.out _; refine zk ?_; refine blk_far ?_ NB114_209.out _; refine zk ?_; exact BK114.out) hb); have n4_ := Aside0.mk (blk_below (g := gb120) (o := .cells #[.int .i64 t166, .int .i64 t167, .int .i64 t168, .string t169] 23 (0, 0)) (by refine zk ?_; refine blk_far ?_ NB120_209.out _; refine zk ?_; refine blk_far ?_ NB120_209.out _; refine zk ?_; refine blk_far ?_ NB120_209.out _; refine zk ?_; refine blk_far ?_ NB120_209.out _; refine zk ?_; exact BK120.out) hb); have n5_ := Aside0.mk (blk_below (g := gb178) (o := .cells #[.int .i64 t172, .int .i64 t173, .int .i64 t174, .string t175] 23 (0, 0)) (by refine zk ?_; refine blk_far ?_ NB178_209.out _; refine zk ?_; refine blk_far ?_ NB178_209.out _; refine zk ?_; refine blk_far ?_ NB178_209.out _; refine zk ?_; refine blk_far ?_ NB178_209.out _; refine zk ?_; exact BK178.out) hb); have n6_ := Aside0.mk (blk_below (g := gb185) (o := .cells #[.int .i64 t179, .int .i64 t180, .int .i64 t181, .string t182] 23 (0, 0)) (by refine zk ?_; refine blk_far ?_ NB185_209.out _; refine zk ?_; refine blk_far ?_ NB185_209.out _; refine zk ?_; refine blk_far ?_ NB185_209.out _; refine zk ?_; refine blk_far ?_ NB185_209.out _; refine zk ?_; exact BK185.out) hb); have n7_ := Aside0.mk (blk_below (g := gb191) (o := .cells #[.int .i64 t186, .int .i64 t187, .int .i64 t188, .string t189] 23 (0, 0)) (by refine zk ?_; refine blk_far ?_ NB191_209.out _; refine zk ?_; refine blk_far ?_ NB191_209.out _; refine zk ?_; refine blk_far ?_ NB191_209.out _; refine zk ?_; refine blk_far ?_ NB191_209.out _; refine zk ?_; exact BK191.out) hb); have n8_ := Aside0.mk (blk_below (g := gb197) (o := .cells #[.int .i64 t192, .int .i64 t193, .int .i64 t194, .string t195] 23 (0, 0)) (by refine zk ?_; refine blk_far ?_ NB197_209.out _; refine zk ?_; refine blk_far ?_ NB197_209.out _; refine zk ?_; refine blk_far ?_ NB197_209.out _; refine zk ?_; refine blk_far ?_ NB197_209.out _; refine zk ?_; exact BK197.out) hb); have n9_ := Aside0.mk (blk_below (g := gb203) (o := .cells #[.int .i64 t198, .int .i64 t199, .int .i64 t200, .string t201] 23 (0, 0)) (by refine zk ?_; refine blk_far ?_ NB203_209.out _; refine zk ?_; refine blk_far ?_ NB203_209.out _; refine zk ?_; refine blk_far ?_ NB203_209.out _; refine zk ?_; refine blk_far ?_ NB203_209.out _; refine zk ?_; exact BK203.out) hb); have n10_ := Aside0.mk (blk_below (g := gb209) (o := .cells #[.int .i64 t204, .int .i64 t205, .int .i64 t206, .string t207] 23 (0, 0)) (by refine zk ?_; refine blk_put (cs := #[.int .i64 t204, .int .i64 t205, .int .i64 t206, .string (⟨#[]⟩ : ByteArray)]) ?_ 3 _ rfl; refine zk ?_; refine blk_put (cs := #[.int .i64 t204, .int .i64 t205, .int .i64 0, .string (⟨#[]⟩ : ByteArray)]) ?_ 2 _ rfl; refine zk ?_; refine blk_put (cs := #[.int .i64 t204, .int .i64 0, .int .i64 0, .string (⟨#[]⟩ : ByteArray)]) ?_ 1 _ rfl; refine zk ?_; refine blk_put (cs := #[.int .i64 0, .int .i64 0, .int .i64 0, .string (⟨#[]⟩ : ByteArray)]) ?_ 0 _ rfl; refine zk ?_; exact BK209.out) hb); have n11_ := Aside0.mk (below_step (by repeat (first | (with_reducible first | exact HB.out | apply below_alloc | apply pw_below_drewN | apply below_drew1 | refine below_set ?_ GE101.out | refine below_set ?_ GE102.out | refine below_set ?_ GE103.out | refine below_set ?_ GE114.out | refine below_set ?_ GE120.out | refine below_set ?_ GE178.out | refine below_set ?_ GE185.out | refine below_set ?_ GE191.out | refine below_set ?_ GE197.out | refine below_set ?_ GE203.out | refine below_set ?_ GE209.out) | exact HB.out)) hb); clear BK101; clear BK102; clear BK103; clear BK114; clear BK120; clear BK178; clear BK185; clear BK191; clear BK197; clear BK203; clear BK209; clear HB; have BK101 := n0_; have BK102 := n1_; have BK103 := n2_; have BK114 := n3_; have BK120 := n4_; have BK178 := n5_; have BK185 := n6_; have BK191 := n7_; have BK197 := n8_; have BK203 := n9_; have BK209 := n10_; have HB := n11_; clear n0_ n1_ n2_ n3_ n4_ n5_ n6_ n7_ n8_ n9_ n10_ n11_; (try clear hb); (try clear hb2); (try clear hk); (try clear hi)))
                          go_ret
                          exact ⟨by first | rfl | (simp [errW_none, errW_some] <;> rfl) | (simp [*, errW_none, errW_some] <;> rfl), by repeat (first | (with_reducible first | exact HB.out | apply below_alloc | apply pw_below_drewN | apply below_drew1 | refine below_set ?_ GE101.out | refine below_set ?_ GE102.out | refine below_set ?_ GE103.out | refine below_set ?_ GE114.out | refine below_set ?_ GE120.out | refine below_set ?_ GE178.out | refine below_set ?_ GE185.out | refine below_set ?_ GE191.out | refine below_set ?_ GE197.out | refine below_set ?_ GE203.out | refine below_set ?_ GE209.out) | exact HB.out)⟩
                         ·rw [if_neg c322] at H
                          have c322b0 : (t186 == t204 && (t187 == t205 && (t188 == t206 && (t189.toList == t207.toList)))) = false := by simpa using c322
                          (try (have c322b1 : decide (t186 = t204 && (t187 == t205 && (t188 == t206 && (t189.toList == t207.toList)))) = false := by simpa using c322))
                          (try (have c322b2 : (t186 == t204 && (t187 == t205 && (t188 == t206 && (t189.toList == t207.toList)))) = false := by simpa using c322))
                          (try (have c322b3 : ¬ (t186 = t204 && (t187 == t205 && (t188 == t206 && (t189.toList == t207.toList)))) := by simpa using c322))
                          clear c322
                          exact absurd ((Option.some.inj H).trans hrt_.out) (by decide)
                        ·rw [if_neg c321] at H
                         have c321b0 : (t208 == 0) = false := beq_eq_false_iff_ne.mpr c321
                         have c321b1 : (t208 != 0) = true := bne_iff_ne.mpr c321
                         exact absurd ((Option.some.inj H).trans hrt_.out) (by decide)
                    ·rw [if_neg c246] at H
                     have c246b0 : (t165 == 0) = false := beq_eq_false_iff_ne.mpr c246
                     have c246b1 : (t165 != 0) = true := bne_iff_ne.mpr c246
                     replace H := Option.bind_eq_some_iff.mp H
                     obtain ⟨t171, A3910, H⟩ := H
                     replace H : (some t171) = some r := H
                     have A391 := Aside0.mk A3910
                     clear A3910
                     obtain rfl := Option.some.inj H
                     go_wp2_with (first | ((with_reducible refine gate_callee (f := 9) rfl ?_); refine goesL_ (some 151) rfl rfl Try.func9 (by kernel_rfl) rfl #[] rfl (by (try simp only [List.map_toArray, List.map_cons, List.map_nil]); first | done | rfl | (simp only [List.length_drop, List.length_take]; rfl)) ?_; (with_reducible refine (ironbarklaw05_awake.calls  t171 _ A391.out).mono ?_); rintro e w392 ⟨rfl, hb⟩; refine ⟨_, rfl, ?_⟩; have n0_ := Aside0.mk (blk_below (zk BK101.out) hb); have n1_ := Aside0.mk (blk_below (zk BK102.out) hb); have n2_ := Aside0.mk (blk_below (zk BK103.out) hb); have n3_ := Aside0.mk (blk_below (zk BK114.out) hb); have n4_ := Aside0.mk (blk_below (zk BK120.out) hb); have n5_ := Aside0.mk (below_step (by repeat (first | (with_reducible first | exact HB.out | apply below_alloc | apply pw_below_drewN | apply below_drew1 | refine below_set ?_ GE101.out | refine below_set ?_ GE102.out | refine below_set ?_ GE103.out | refine below_set ?_ GE114.out | refine below_set ?_ GE120.out) | exact HB.out)) hb); clear BK101; clear BK102; clear BK103; clear BK114; clear BK120; clear HB; have BK101 := n0_; have BK102 := n1_; have BK103 := n2_; have BK114 := n3_; have BK120 := n4_; have HB := n5_; clear n0_ n1_ n2_ n3_ n4_ n5_; (try clear hb); (try clear hb2); (try clear hk); (try clear hi)))
                     go_ret
                     exact ⟨by first | rfl | (simp [errW_none, errW_some] <;> rfl) | (simp [*, errW_none, errW_some] <;> rfl), by repeat (first | (with_reducible first | exact HB.out | apply below_alloc | apply pw_below_drewN | apply below_drew1 | refine below_set ?_ GE101.out | refine below_set ?_ GE102.out | refine below_set ?_ GE103.out | refine below_set ?_ GE114.out | refine below_set ?_ GE120.out) | exact HB.out)⟩
 ·replace c6 := Bool.eq_false_iff.mpr c6
  subst c6
  have H1 : ((ironbarklaw05_awake.f).bind fun t108 => (some t108)) = some r := by rw [if_neg (show ¬ (false = true) by decide)] at H; exact H
  clear H
  have H := H1
  clear H1
  replace H := Option.bind_eq_some_iff.mp H
  obtain ⟨t108, A3930, H⟩ := H
  replace H : (some t108) = some r := H
  have A393 := Aside0.mk A3930
  clear A3930
  obtain rfl := Option.some.inj H
  go_enter Try.func7, Try.ntmps7
  go_wp2_with (first | ((with_reducible refine gate_dst (N := 4) rfl ?_); refine box_event ?hg (N := 4) ?hd (cs := #[.int .i64 a0_0, .int .i64 a0_1, .int .i64 a0_2, .string a0_3]) (t := 23) ?hr ?_; (case hd => rfl); (case hg => rfl); (case hr => first | (go_simp; done) | (go_simp; rfl)); intro gb101 hg w394 hbox hb; have n0_ := Aside0.mk (below_step (by repeat (first | (with_reducible first | exact HB.out | apply below_alloc | apply pw_below_drewN | apply below_drew1) | exact HB.out)) hb); have n1_ := Aside0.mk (hbox); have n2_ := Aside0.mk ((by rw [hg]; exact (below_size (by repeat (first | (with_reducible first | exact HB.out | apply below_alloc | apply pw_below_drewN | apply below_drew1) | exact HB.out))) : w.heap.size ≤ gb101)); have n3_ := n2_; clear HB; have HB := n0_; have BK101 := n1_; have GW101 := n2_; have GE101 := n3_; clear n0_ n1_ n2_ n3_; clear hb hbox hg) | ((with_reducible refine gate_dst (N := 5) rfl ?_); refine box_event ?hg (N := 5) ?hd (cs := #[.int .i64 a1_0, .int .i64 a1_1, .int .i64 a1_2, .string a1_3]) (t := 23) ?hr ?_; (case hd => rfl); (case hg => rfl); (case hr => first | (go_simp; done) | (go_simp; rfl)); intro gb102 hg w395 hbox hb; have n0_ := Aside0.mk (blk_below (zk BK101.out) hb); have n1_ := Aside0.mk (below_step (by repeat (first | (with_reducible first | exact HB.out | apply below_alloc | apply pw_below_drewN | apply below_drew1 | refine below_set ?_ GE101.out) | exact HB.out)) hb); have n2_ := Aside0.mk (hbox); have n3_ := Aside0.mk ((by rw [hg]; exact (below_size (by repeat (first | (with_reducible first | exact HB.out | apply below_alloc | apply pw_below_drewN | apply below_drew1 | refine below_set ?_ GE101.out) | exact HB.out))) : w.heap.size ≤ gb102)); have n4_ := n3_; have n5_ := Aside0.mk ((by rw [hg]; exact Nat.ne_of_lt (blk_lt (zk BK101.out)) : gb101 ≠ gb102)); have n6_ := Aside0.mk ((by rw [hg]; exact Nat.ne_of_gt (blk_lt (zk BK101.out)) : gb102 ≠ gb101)); clear BK101; clear HB; have BK101 := n0_; have HB := n1_; have BK102 := n2_; have GW102 := n3_; have GE102 := n4_; have NB101_102 := n5_; have NB102_101 := n6_; clear n0_ n1_ n2_ n3_ n4_ n5_ n6_; clear hb hbox hg) | ((with_reducible refine gate_dst (N := 6) rfl ?_); refine box_event ?hg (N := 6) ?hd (cs := #[.int .i64 a2_0, .int .i64 a2_1, .int .i64 a2_2, .string a2_3]) (t := 23) ?hr ?_; (case hd => rfl); (case hg => rfl); (case hr => first | (go_simp; done) | (go_simp; rfl)); intro gb103 hg w396 hbox hb; have n0_ := Aside0.mk (blk_below (zk BK101.out) hb); have n1_ := Aside0.mk (blk_below (zk BK102.out) hb); have n2_ := Aside0.mk (below_step (by repeat (first | (with_reducible first | exact HB.out | apply below_alloc | apply pw_below_drewN | apply below_drew1 | refine below_set ?_ GE101.out | refine below_set ?_ GE102.out) | exact HB.out)) hb); have n3_ := Aside0.mk (hbox); have n4_ := Aside0.mk ((by rw [hg]; exact (below_size (by repeat (first | (with_reducible first | exact HB.out | apply below_alloc | apply pw_below_drewN | apply below_drew1 | refine below_set ?_ GE101.out | refine below_set ?_ GE102.out) | exact HB.out))) : w.heap.size ≤ gb103)); have n5_ := n4_; have n6_ := Aside0.mk ((by rw [hg]; exact Nat.ne_of_lt (blk_lt (zk BK101.out)) : gb101 ≠ gb103)); have n7_ := Aside0.mk ((by rw [hg]; exact Nat.ne_of_gt (blk_lt (zk BK101.out)) : gb103 ≠ gb101)); have n8_ := Aside0.mk ((by rw [hg]; exact Nat.ne_of_lt (blk_lt (zk BK102.out)) : gb102 ≠ gb103)); have n9_ := Aside0.mk ((by rw [hg]; exact Nat.ne_of_gt (blk_lt (zk BK102.out)) : gb103 ≠ gb102)); clear BK101; clear BK102; clear HB; have BK101 := n0_; have BK102 := n1_; have HB := n2_; have BK103 := n3_; have GW103 := n4_; have GE103 := n5_; have NB101_103 := n6_; have NB103_101 := n7_; have NB102_103 := n8_; have NB103_102 := n9_; clear n0_ n1_ n2_ n3_ n4_ n5_ n6_ n7_ n8_ n9_; clear hb hbox hg; have hnb397 := NB101_102.out; have hnc397 := NB102_101.out; have hnb398 := NB101_103.out; have hnc398 := NB103_101.out; obtain ⟨hcz399_0, hcz399_1, hcz399_2, hcz399_3⟩ := blk_quad BK101.out; obtain ⟨hfz399_0, hfz399_1, hfz399_2, hfz399_3⟩ := blk_quad_free BK101.out; have hnb400 := NB102_103.out; have hnc400 := NB103_102.out; obtain ⟨hcz401_0, hcz401_1, hcz401_2, hcz401_3⟩ := blk_quad BK102.out; obtain ⟨hfz401_0, hfz401_1, hfz401_2, hfz401_3⟩ := blk_quad_free BK102.out; obtain ⟨hcz402_0, hcz402_1, hcz402_2, hcz402_3⟩ := blk_quad BK103.out; obtain ⟨hfz402_0, hfz402_1, hfz402_2, hfz402_3⟩ := blk_quad_free BK103.out) | ((with_reducible refine gate_dst (N := 27) rfl ?_); refine Kd.R_lit k23 _ 23 ?hg (N := 27) ?hd (xs := ([(⟨a0_0, a0_1, a0_2, a0_3⟩ : S23), (⟨a1_0, a1_1, a1_2, a1_3⟩ : S23), (⟨a2_0, a2_1, a2_2, a2_3⟩ : S23)] : List (S23))) (inner := [.int .i64 a0_0, .int .i64 a0_1, .int .i64 a0_2, .string a0_3, .int .i64 a1_0, .int .i64 a1_1, .int .i64 a1_2, .string a1_3, .int .i64 a2_0, .int .i64 a2_1, .int .i64 a2_2, .string a2_3]) (ok := fun _ => True) (okp := fun _ => True) ?hr ?hp (fun _ hk => hk) trivial (Below.refl _ _) (Nat.le_refl _) (by simp) ?_; (case hd => rfl); (case hg => rfl); (case hr => first | (go_simp; done) | (go_simp; rfl)); (case hp => exact (Reps.c4 (show Kd.M k23 _ _ _ (⟨a0_0, a0_1, a0_2, a0_3⟩ : S23) [.int .i64 a0_0, .int .i64 a0_1, .int .i64 a0_2, .string a0_3] from (k23_mkM _ _ _ (⟨a0_0, a0_1, a0_2, a0_3⟩ : S23) )) (Reps.c4 (show Kd.M k23 _ _ _ (⟨a1_0, a1_1, a1_2, a1_3⟩ : S23) [.int .i64 a1_0, .int .i64 a1_1, .int .i64 a1_2, .string a1_3] from (k23_mkM _ _ _ (⟨a1_0, a1_1, a1_2, a1_3⟩ : S23) )) (Reps.c4 (show Kd.M k23 _ _ _ (⟨a2_0, a2_1, a2_2, a2_3⟩ : S23) [.int .i64 a2_0, .int .i64 a2_1, .int .i64 a2_2, .string a2_3] from (k23_mkM _ _ _ (⟨a2_0, a2_1, a2_2, a2_3⟩ : S23) )) (Reps.none _ _))))); intro v105 w403 ho404 hb hg_ hnew_; clear hg_ hnew_; (first | rw [← Ny104.out] at ho404 | (simp only [Int.reduceToNat] at ho404; rw [← Ny104.out] at ho404)); have n0_ := Aside0.mk (Kd.R_lower (Kd.R_newB (Kd.R_newB (Kd.R_newB ho404 (g := gb101) (o := .cells #[.int .i64 a0_0, .int .i64 a0_1, .int .i64 a0_2, .string a0_3] 23 (0, 0)) (zk BK101.out)) (g := gb102) (o := .cells #[.int .i64 a1_0, .int .i64 a1_1, .int .i64 a1_2, .string a1_3] 23 (0, 0)) (zk BK102.out)) (g := gb103) (o := .cells #[.int .i64 a2_0, .int .i64 a2_1, .int .i64 a2_2, .string a2_3] 23 (0, 0)) (zk BK103.out)) (below_size (by repeat (first | (with_reducible first | exact HB.out | apply below_alloc | apply pw_below_drewN | apply below_drew1 | refine below_set ?_ GE101.out | refine below_set ?_ GE102.out | refine below_set ?_ GE103.out) | exact HB.out)))); have n1_ := Aside0.mk (blk_below (zk BK101.out) hb); have n2_ := Aside0.mk (blk_below (zk BK102.out) hb); have n3_ := Aside0.mk (blk_below (zk BK103.out) hb); have n4_ := Aside0.mk (below_step (by repeat (first | (with_reducible first | exact HB.out | apply below_alloc | apply pw_below_drewN | apply below_drew1 | refine below_set ?_ GE101.out | refine below_set ?_ GE102.out | refine below_set ?_ GE103.out) | exact HB.out)) hb); clear BK101; clear BK102; clear BK103; clear HB; have HO106 := n0_; have BK101 := n1_; have BK102 := n2_; have BK103 := n3_; have HB := n4_; clear n0_ n1_ n2_ n3_ n4_; clear hb ho404; obtain ⟨Ao405, co405, eo405⟩ := Kd.R_slice HO106.out; subst eo405) | ((with_reducible refine gate_callee (f := 8) rfl ?_); refine goesL_ (some 28) rfl rfl Try.func8 (by kernel_rfl) rfl #[.slice Ao405 y104.length co405] rfl (by (try simp only [List.map_toArray, List.map_cons, List.map_nil]); first | done | rfl | (simp only [List.length_drop, List.length_take]; rfl)) ?_; (with_reducible refine (ironbarklaw05_lightT.calls _ _ y104 false _ ?side1 ?side2 A5.out).mono ?_); (case side1 => repeat (first | exact (Kd.R_reads' HO106.out).2.2 | (with_reducible refine Kd.C_alloc ?_ _) | (with_reducible refine Kd.C_drewN ?_ _) | (with_reducible refine Kd.C_drew ?_))); (case side2 => exact (Kd.R_reads' HO106.out).2.1); rintro e w' ⟨rfl, ⟨nd, rfl⟩⟩; refine ⟨_, rfl, ?_⟩) | ((with_reducible refine gate_callee (f := 9) rfl ?_); refine goesL_ (some 30) rfl rfl Try.func9 (by kernel_rfl) rfl #[] rfl (by (try simp only [List.map_toArray, List.map_cons, List.map_nil]); first | done | rfl | (simp only [List.length_drop, List.length_take]; rfl)) ?_; (with_reducible refine (ironbarklaw05_awake.calls  t108 _ A393.out).mono ?_); rintro e w406 ⟨rfl, hb⟩; refine ⟨_, rfl, ?_⟩; have n0_ := Aside0.mk (Kd.R_below (by (with_reducible repeat (first | apply Kd.R_alloc | apply Kd.R_drewN | apply Kd.R_drew)); exact HO106.out) hb); have n1_ := Aside0.mk (blk_below (zk BK101.out) hb); have n2_ := Aside0.mk (blk_below (zk BK102.out) hb); have n3_ := Aside0.mk (blk_below (zk BK103.out) hb); have n4_ := Aside0.mk (below_step (by repeat (first | (with_reducible first | exact HB.out | apply below_alloc | apply pw_below_drewN | apply below_drew1 | refine below_set ?_ GE101.out | refine below_set ?_ GE102.out | refine below_set ?_ GE103.out) | exact HB.out)) hb); clear HO106; clear BK101; clear BK102; clear BK103; clear HB; have HO106 := n0_; have BK101 := n1_; have BK102 := n2_; have BK103 := n3_; have HB := n4_; clear n0_ n1_ n2_ n3_ n4_; (try clear hb); (try clear hb2); (try clear hk); (try clear hi)))
  go_ret
  exact ⟨by first | rfl | (simp [errW_none, errW_some] <;> rfl) | (simp [*, errW_none, errW_some] <;> rfl), by repeat (first | (with_reducible first | exact HB.out | apply below_alloc | apply pw_below_drewN | apply below_drew1 | refine below_set ?_ GE101.out | refine below_set ?_ GE102.out | refine below_set ?_ GE103.out) | exact HB.out)⟩
end Go.Proofs.Ytnelblndidciiaa.P

-- from the text Pm
namespace Go.Proofs.Ytnelblndidciiaa.P
open Go.RowKit Go.Proofs.YtnelblndidciiaaW.PrintWords Go.Proofs.YtnelblndidciiaaW.PrintLast Go.Proofs.YtnelblndidciiaaW.PrintMore
set_option linter.unusedVariables false
set_option linter.unusedSimpArgs false
abbrev Q5 := Int × Int × Int × ByteArray × Int
def bad5 (e : Int) : Q5 := (0, 0, 0, ⟨#[]⟩, e)
theorem strings_0 (l : List S23) : stringsI l 0 = askedI l := by
  unfold stringsI askedI
  have : (l.all fun v => v.f0 == (l.getD 0 z23).f0 && ((0 : Int) == 0 || v.f0 == 0)) = l.all fun v => v.f0 == (l.getD 0 z23).f0 := by
    congr 1; funext v; simp
  rw [this]
theorem indexByte_in (c : Int) (h0 : 0 ≤ c) (h1 : c ≤ 255) : ∀ l : List UInt8, Lib.indexByte l c.toNat.toUInt8 = inL c l - 1
  | [] => by simp [Lib.indexByte, inL]
  | b :: l => by
    have ih := indexByte_in c h0 h1 l
    have hr := inL_range c l
    simp only [Lib.indexByte, inL, addI]
    have hb : (b == c.toNat.toUInt8) = decide ((b.toNat : Int) = c) := by
      by_cases hh : (b.toNat : Int) = c
      · rw [decide_eq_true hh, beq_iff_eq]; apply UInt8.toNat.inj; simp; omega
      · rw [decide_eq_false hh, beq_eq_false_iff_ne]; intro e; apply hh; rw [e]; simp; omega
    rw [hb, ih]
    by_cases hh : (b.toNat : Int) = c
    · rw [decide_eq_true hh, if_pos rfl, if_pos hh]; rfl
    · rw [decide_eq_false hh, if_neg (by decide), if_neg hh]
      by_cases hz : inL c l = 0
      · rw [if_pos hz, hz]; rfl
      · rw [if_neg hz, if_neg (by rw [beq_iff_eq]; omega)]; omega
def trR (s p q : S23) : Q5 := if askedI [s, p, q] = 0 then (s.f0, 0, 0, eachB (trG p q) s.f3, 0) else bad5 (askedI [s, p, q])
theorem tr_is (s p q : S23) : bits_Translate.f s.f0 s.f1 s.f2 s.f3 p.f0 p.f1 p.f2 p.f3 q.f0 q.f1 q.f2 q.f3 = some (trR s p q) := by
  unfold bits_Translate.f trR bad5
  by_cases h : askedI [s, p, q] = 0
  · rw [if_pos h, if_pos h]
  · rw [if_neg h, if_neg h]
theorem eachB_sizeM (g : Int → Int) (s : ByteArray) : (eachB g s).size = s.size := by unfold eachB; rw [str_size, eachL_len]
theorem eachB_btM (g : Int → Int) (s : ByteArray) (j : Nat) (h : j < s.size) (h0 : 0 ≤ g (bt s (j : Int))) (h1 : g (bt s (j : Int)) ≤ 255) : bt (eachB g s) (j : Int) = g (bt s (j : Int)) := by
  have e : (eachL g s s.size).getD j 0 = g (bt s (j : Int)) := by rw [eachL_get g s s.size (Nat.le_refl _) j h, if_pos h]
  unfold eachB
  rw [str_bt _ j (by rw [eachL_len]; exact h) (by rw [e]; exact h0) (by rw [e]; exact h1), e]
theorem trG_in (p q : S23) (c : Int) (h0 : 0 ≤ c) (h1 : c ≤ 255) : trG p q c = if 0 < inI q.f3 c then (if inI q.f3 c ≤ (p.f3.size : Int) then bt p.f3 (inI q.f3 c - 1) else fillc p.f0) else c := by
  unfold trG inI
  rw [indexByte_in c h0 h1]
  by_cases h : 0 < inL c q.f3.data.toList
  · rw [if_pos h, if_pos (by omega)]
    by_cases h2 : inL c q.f3.data.toList ≤ (p.f3.size : Int)
    · rw [if_pos h2, if_pos (by omega)]
    · rw [if_neg h2, if_neg (by omega)]
  · rw [if_neg h, if_neg (by omega)]
theorem trG_range (p q : S23) (c : Int) (h0 : 0 ≤ c) (h1 : c ≤ 255) : 0 ≤ trG p q c ∧ trG p q c ≤ 255 := by
  rw [trG_in p q c h0 h1]
  split
  · split
    · exact bt_range _ _
    · exact fillc_range _
  · exact ⟨h0, h1⟩
theorem filler_b (n : Int) (h : n = 4 ∨ n = 5) : ∃ x : ByteArray, ironbarkref05_Filler.f n = some x ∧ x.size = 1 ∧ bt x 0 = fillc n := by
  rcases h with rfl | rfl
  · exact ⟨⟨#[32]⟩, rfl, rfl, by decide +kernel⟩
  · exact ⟨⟨#[48]⟩, rfl, rfl, by decide +kernel⟩
theorem w_next (j : Nat) (h : j ≤ 250) : wrap64 ((j : Int) + 1) = ((j + 1 : Nat) : Int) := by unfold wrap64; omega
theorem pos_succ (m : Int) (h : 0 < m) : ∃ n : Nat, m = (n : Int) + 1 := ⟨(m - 1).toNat, by omega⟩
theorem w_pred (m : Int) (h0 : 0 < m) (h1 : m ≤ 1000) : wrap64 (m - 1) = m - 1 := by unfold wrap64; omega
theorem rtr_l0 (s p q : S23) (h : askedI [s, p, q] = 0) : ∀ d j : Nat, j + d = s.f3.size →
    Ev (fun k => ironbarkref05_Translate.l0 k ((eachB (trG p q) s.f3).extract 0 j) (j : Int) s.f0 s.f1 s.f2 s.f3 p.f0 p.f1 p.f2 p.f3 q.f0 q.f1 q.f2 q.f3) (s.f0, 0, 0, eachB (trG p q) s.f3, 0) := by
  obtain ⟨k1, k2, k3, k4, k5⟩ := askedI_three h
  have hs := (okV_parts k1).2.2.2.1
  have hp := (okV_parts k2).2.2.2.1
  have hq := (okV_parts k3).2.2.2.1
  have hk := (okV_parts k1).1
  clear h k1 k2 k3 k5
  have hBs := eachB_sizeM (trG p q) s.f3
  intro d
  induction d with
  | zero =>
    intro j hj
    refine Ev.step (f := fun _ => some (s.f0, 0, 0, eachB (trG p q) s.f3, 0)) (fun k => ?_) (Ev.now _)
    simp only [ironbarkref05_Translate.l0, ironbarkref05_made.f, Option.bind_some]
    rw [if_neg (by omega), ext_all _ _ (by rw [hBs]; omega)]
  | succ d ih =>
    intro j hj
    have hlt : j < s.f3.size := by omega
    have hih := ih (j + 1) (by omega)
    have hr := bt_range s.f3 (j : Int)
    have hb := eachB_btM (trG p q) s.f3 j hlt (trG_range p q _ hr.1 hr.2).1 (trG_range p q _ hr.1 hr.2).2
    rw [trG_in p q _ hr.1 hr.2] at hb
    have hin := inL_range (bt s.f3 (j : Int)) q.f3.data.toList
    have hq2 : q.f3.data.toList.length ≤ 250 := hq
    have hacc := acc_size (eachB (trG p q) s.f3) j (by rw [hBs]; omega)
    have hinF : ironbarkref05_inT.f q.f3 (bt s.f3 (j : Int)) = some (inI q.f3 (bt s.f3 (j : Int))) := if_pos (Nat.le_trans hq (by decide))
    have hin2 : 0 ≤ inI q.f3 (bt s.f3 (j : Int)) ∧ inI q.f3 (bt s.f3 (j : Int)) ≤ 250 := ⟨hin.1, Int.le_trans hin.2 (Int.ofNat_le.mpr hq2)⟩
    clear hin ih hq2 hq hr
    have hsn := fun (x : ByteArray) (h1 : x.size = 1) (h2 : bt x 0 = bt (eachB (trG p q) s.f3) (j : Int)) => ext_snoc (eachB (trG p q) s.f3) 0 j x (Nat.zero_le _) (by rw [hBs]; exact hlt) h1 h2
    generalize eachB (trG p q) s.f3 = B at *
    generalize inI q.f3 (bt s.f3 (j : Int)) = m at *
    have q1 : (j : Int) < (s.f3.size : Int) := Int.ofNat_lt.mpr hlt
    have q2 : (0 : Int) ≤ (j : Int) := Int.natCast_nonneg _
    have hw := w_next j (Nat.le_trans (Nat.le_of_lt hlt) hs)
    have q3 : (j : Int) ≤ ((j + 1 : Nat) : Int) := Int.ofNat_le.mpr (Nat.le_succ j)
    have q4 : ((j + 1 : Nat) : Int) ≤ (s.f3.size : Int) := Int.ofNat_le.mpr hlt
    have q5 : j + 1 ≤ 9223372036854775807 := Nat.le_trans (Nat.le_trans hlt hs) (by decide)
    obtain ⟨fx, f1, f2, f3⟩ := filler_b s.f0 hk
    refine Ev.step (fun k => ?_) hih
    clear hih
    simp only [ironbarkref05_Translate.l0]
    rw [if_pos q1, if_pos q2]
    simp only [hw, if_pos q3, if_pos q4, hinF, Option.bind_some, f1]
    by_cases c1 : 0 < m
    · rw [if_pos c1] at hb
      rw [if_pos (show m > 0 from c1)]
      by_cases c2 : m ≤ (p.f3.size : Int)
      · rw [if_pos c2] at hb
        have hwm := w_pred m c1 (Int.le_trans hin2.2 (by decide))
        obtain ⟨n, rfl⟩ := pos_succ m c1
        have e1 : (n : Int) + 1 - 1 = (n : Int) := Int.add_sub_cancel _ _
        rw [e1] at hb hwm
        have hn : n < p.f3.size := Int.ofNat_lt.mp (Int.lt_of_lt_of_le (Int.lt_succ _) c2)
        obtain ⟨o1, o2⟩ := one_byte p.f3 n hn
        have e2 := w_t n
        rw [if_pos c2]
        simp only [hwm, Int.toNat_natCast, e1, e2, o1, hacc]
        rw [if_pos (Int.natCast_nonneg _), if_pos (Int.le_of_lt (Int.lt_succ _)), if_pos q5, hsn _ o1 (o2.trans hb.symm)]
      · rw [if_neg c2] at hb
        rw [if_neg c2]
        simp only [f2, hacc]
        rw [if_pos q5, hsn _ f2 (f3.trans ((congrArg fillc k4).trans hb.symm))]
    · rw [if_neg c1] at hb
      rw [if_neg (show ¬ m > 0 from c1)]
      obtain ⟨o1, o2⟩ := one_byte s.f3 j hlt
      simp only [Int.toNat_natCast, o1, hacc]
      rw [if_pos q5, hsn _ o1 (o2.trans hb.symm)]
theorem rtr_ev (s p q : S23) : Ev (fun k => ironbarkref05_Translate.f k s.f0 s.f1 s.f2 s.f3 p.f0 p.f1 p.f2 p.f3 q.f0 q.f1 q.f2 q.f3) (trR s p q) := by
  unfold ironbarkref05_Translate.f trR bad5
  simp only [ironbarkref05_stringsT.f, Option.bind_some, strings_0]
  by_cases h : askedI [s, p, q] = 0
  · have := rtr_l0 s p q h s.f3.size 0 (by omega)
    rw [ext_empty _ _ _ (Nat.le_refl 0)] at this
    rw [if_pos h]
    exact Ev.congr (fun k => if_pos h) this
  · rw [if_neg h]
    exact Ev.congr (f := fun _ => some (0, 0, 0, ⟨#[]⟩, askedI [s, p, q])) (fun k => if_neg h) (Ev.now _)
def repB (s : ByteArray) (n : Nat) : ByteArray := ⟨(Lib.repeatL s.data.toList n).toArray⟩
theorem repB_0 (s : ByteArray) : repB s 0 = ⟨#[]⟩ := rfl
theorem repL_succ (l : List UInt8) : ∀ n, Lib.repeatL l (n + 1) = Lib.repeatL l n ++ l
  | 0 => by simp [Lib.repeatL]
  | n + 1 => by
    have := repL_succ l n
    show l ++ Lib.repeatL l (n + 1) = (l ++ Lib.repeatL l n) ++ l
    rw [this, List.append_assoc]
theorem repB_succ (s : ByteArray) (n : Nat) : repB s n ++ s = repB s (n + 1) := by
  unfold repB
  rw [repL_succ]
  apply ByteArray.ext
  simp
theorem repB_size (s : ByteArray) (n : Nat) : (repB s n).size = n * s.size := by
  unfold repB
  show (Lib.repeatL s.data.toList n).toArray.size = _
  simp [Lib.repeatL_length]
theorem repB_none (s : ByteArray) (h : s.size = 0) (n : Nat) : repB s n = ⟨#[]⟩ := by
  apply bytes_ext
  · rw [repB_size, h, Nat.mul_zero]; rfl
  · intro i hi; rw [repB_size, h] at hi; omega
/-- A string so many times. -/
def timesR (s : S23) (n : Nat) : Q5 := if 250 < n * s.f3.size then bad5 3 else (s.f0, 0, 0, repB s.f3 n, 0)
theorem times_j0t (n : Int) (s : S23) : Ev (fun k => bits_times.j0 k n true s.f0 s.f1 s.f2 s.f3) (bad5 3) := by
  refine Ev.step (f := fun _ => some (bad5 3)) (fun k => ?_) (Ev.now _)
  simp only [bits_times.j0]
  rw [if_pos trivial]; rfl
theorem times_j0f (n : Nat) (s : S23) (hn : n ≤ 2000000000) (h : okV s = true) (hl : n * s.f3.size ≤ 250) : Ev (fun k => bits_times.j0 k (n : Int) false s.f0 s.f1 s.f2 s.f3) (s.f0, 0, 0, repB s.f3 n, 0) := by
  obtain ⟨-, z1, z2, -, -⟩ := okV_parts h
  refine Ev.step (f := fun _ => some (s.f0, 0, 0, repB s.f3 n, 0)) (fun k => ?_) (Ev.now _)
  simp only [bits_times.j0]
  rw [if_neg (by decide)]
  by_cases h0 : (s.f3.size : Int) = 0
  · have hz : s.f3.size = 0 := by omega
    have he : s.f3 = ⟨#[]⟩ := by
      apply bytes_ext
      · rw [hz]; rfl
      · intro i hi; omega
    rw [if_pos h0, z1, z2, repB_none s.f3 hz, ← he]
  · rw [if_neg h0]
    have hr : strings_Repeat.f s.f3 (n : Int) = some (repB s.f3 n) := by
      unfold strings_Repeat.f
      rw [if_pos ⟨by omega, by omega, by rw [Int.toNat_natCast, Nat.mul_comm]; omega⟩, Int.toNat_natCast]; rfl
    rw [hr, Option.bind_some]
    simp only [bits_with.f, Option.bind_some]
theorem div_lt (n m : Nat) (h : 0 < m) : ((250 : Int) / (m : Int) < (n : Int)) ↔ 250 < n * m := by
  have e : (250 : Int) / (m : Int) = ((250 / m : Nat) : Int) := by simp
  rw [e, Int.ofNat_lt, Nat.div_lt_iff_lt_mul h]
theorem times_ev (n : Nat) (s : S23) (hn : n ≤ 2000000000) (h : okV s = true) : Ev (fun k => bits_times.f k s.f0 s.f1 s.f2 s.f3 (n : Int)) (timesR s n) := by
  unfold bits_times.f timesR
  by_cases h0 : s.f3.size = 0
  · have e : (s.f3.size : Int) = 0 := by omega
    simp only [e]
    rw [if_neg (by rw [h0]; omega)]
    exact Ev.congr (fun k => if_neg (by decide)) (times_j0f n s hn h (by rw [h0]; omega))
  · have hpos : 0 < s.f3.size := by omega
    have hd := div_lt n s.f3.size hpos
    have hw : wrap64 ((250 : Int) / (s.f3.size : Int)) = (250 : Int) / (s.f3.size : Int) := by
      have h1 := Int.ediv_nonneg (show (0 : Int) ≤ 250 by decide) (Int.natCast_nonneg s.f3.size)
      have h2 := Int.ediv_le_self (s.f3.size : Int) (show (0 : Int) ≤ 250 by decide)
      generalize (250 : Int) / (s.f3.size : Int) = x at *
      unfold wrap64; omega
    by_cases hb : 250 < n * s.f3.size
    · rw [if_pos hb]
      refine Ev.congr (fun k => (if_pos (show (s.f3.size : Int) > 0 by omega)).trans (if_neg (by omega))) ?_
      rw [hw, decide_eq_true (show (n : Int) > (250 : Int) / (s.f3.size : Int) from hd.2 hb)]
      exact times_j0t _ s
    · rw [if_neg hb]
      refine Ev.congr (fun k => (if_pos (show (s.f3.size : Int) > 0 by omega)).trans (if_neg (by omega))) ?_
      rw [hw, decide_eq_false (show ¬ (n : Int) > (250 : Int) / (s.f3.size : Int) from fun hx => hb (hd.1 hx))]
      exact times_j0f n s hn h (by omega)
theorem rtimes_l0 (n : Nat) (s : S23) (hn : n ≤ 2000000000) (h : s.f3.size ≤ 250) (hl : n * s.f3.size ≤ 250) : ∀ d i : Nat, i + d = n →
    Ev (fun k => ironbarkref05_times.l0 k (n : Int) (repB s.f3 i) (i : Int) s.f0 s.f1 s.f2 s.f3) (s.f0, 0, 0, repB s.f3 n, 0) := by
  intro d
  induction d with
  | zero =>
    intro i hi
    obtain rfl : i = n := by omega
    refine Ev.step (f := fun _ => some (s.f0, 0, 0, repB s.f3 i, 0)) (fun k => ?_) (Ev.now _)
    simp only [ironbarkref05_times.l0, ironbarkref05_made.f, Option.bind_some]
    rw [if_neg (by omega)]
  | succ d ih =>
    intro i hi
    have q1 : (i : Int) < (n : Int) := by omega
    by_cases h0 : s.f3.size = 0
    · refine Ev.step (f := fun _ => some (s.f0, 0, 0, repB s.f3 n, 0)) (fun k => ?_) (Ev.now _)
      have he := toList_nil s.f3 h0
      simp only [ironbarkref05_times.l0, ironbarkref05_made.f, Option.bind_some]
      rw [if_pos q1, if_pos he, repB_none s.f3 h0, repB_none s.f3 h0]
    · have he := toList_ne s.f3 (Nat.pos_of_ne_zero h0)
      have hw : wrap64 ((i : Int) + 1) = ((i + 1 : Nat) : Int) := by unfold wrap64; omega
      have hsz : (repB s.f3 i).size + s.f3.size ≤ 9223372036854775807 := by
        rw [repB_size]
        have : i * s.f3.size ≤ n * s.f3.size := Nat.mul_le_mul_right _ (by omega)
        omega
      refine Ev.step (fun k => ?_) (ih (i + 1) (by omega))
      simp only [ironbarkref05_times.l0]
      rw [if_pos q1, if_neg he, if_pos hsz, repB_succ, hw]
theorem rtimes_j0f (n : Nat) (s : S23) (hn : n ≤ 2000000000) (h : s.f3.size ≤ 250) (hl : n * s.f3.size ≤ 250) : Ev (fun k => ironbarkref05_times.j0 k (n : Int) false s.f0 s.f1 s.f2 s.f3) (s.f0, 0, 0, repB s.f3 n, 0) := by
  refine Ev.step (fun k => ?_) (rtimes_l0 n s hn h hl n 0 (by omega))
  simp only [ironbarkref05_times.j0]
  rw [if_neg (by decide)]; rfl
theorem rtimes_j0t (n : Int) (s : S23) : Ev (fun k => ironbarkref05_times.j0 k n true s.f0 s.f1 s.f2 s.f3) (bad5 3) := by
  refine Ev.step (f := fun _ => some (bad5 3)) (fun k => ?_) (Ev.now _)
  simp only [ironbarkref05_times.j0]
  rw [if_pos trivial]; rfl
theorem rtimes_ev (n : Nat) (s : S23) (hn : n ≤ 2000000000) (h : okV s = true) : Ev (fun k => ironbarkref05_times.f k s.f0 s.f1 s.f2 s.f3 (n : Int)) (timesR s n) := by
  have hs := (okV_parts h).2.2.2.1
  unfold ironbarkref05_times.f timesR
  by_cases h0 : n = 0
  · rw [if_neg (by rw [h0]; omega)]
    exact Ev.congr (fun k => if_neg (by omega)) (rtimes_j0f n s hn hs (by rw [h0]; omega))
  · by_cases h1 : s.f3.size = 0
    · rw [if_neg (by rw [h1]; omega)]
      exact Ev.congr (fun k => (if_pos (by omega)).trans (if_neg (by omega))) (rtimes_j0f n s hn hs (by rw [h1]; omega))
    · by_cases h2 : 250 < n
      · have hb : 250 < n * s.f3.size := Nat.lt_of_lt_of_le h2 (Nat.le_mul_of_pos_right _ (by omega))
        rw [if_pos hb]
        exact Ev.congr (fun k => (if_pos (by omega)).trans ((if_pos (by omega)).trans (if_pos (by omega)))) (rtimes_j0t _ s)
      · have hw : wrap64 ((n : Int) * (s.f3.size : Int)) = ((n * s.f3.size : Nat) : Int) := by
          have : n * s.f3.size ≤ 250 * 250 := Nat.mul_le_mul (by omega) hs
          rw [← Int.natCast_mul]
          generalize n * s.f3.size = y at *
          unfold wrap64; omega
        by_cases hb : 250 < n * s.f3.size
        · rw [if_pos hb]
          refine Ev.congr (fun k => (if_pos (by omega)).trans ((if_pos (by omega)).trans (if_neg (by omega)))) ?_
          rw [hw, decide_eq_true (show ((n * s.f3.size : Nat) : Int) > 250 by omega)]
          exact rtimes_j0t _ s
        · rw [if_neg hb]
          refine Ev.congr (fun k => (if_pos (by omega)).trans ((if_pos (by omega)).trans (if_neg (by omega)))) ?_
          rw [hw, decide_eq_false (show ¬ ((n * s.f3.size : Nat) : Int) > 250 by omega)]
          exact rtimes_j0f n s hn hs (by omega)
def repR (s : S23) (n : Int) : Q5 := if okV s = true then (if farI n = true then bad5 7 else timesR s (n.toNat + 1)) else bad5 1
theorem mx_succ (n : Int) (h : farI n = false) : wrap64 (mx n 0 + 1) = ((n.toNat + 1 : Nat) : Int) ∧ wrap64 (mx 0 n + 1) = ((n.toNat + 1 : Nat) : Int) := by
  have := far_no n h
  unfold mx
  constructor <;> split <;> unfold wrap64 <;> omega
theorem rep_ev (s : S23) (n : Int) : Ev (fun k => bits_Repeat.f k s.f0 s.f1 s.f2 s.f3 n) (repR s n) := by
  unfold bits_Repeat.f repR
  have hv : bits_Valid.f s.f0 s.f1 s.f2 s.f3 = some (okV s) := rfl
  simp only [hv, Option.bind_some, bits_farT.f, List.any_cons, List.any_nil, Bool.or_false]
  by_cases h : okV s = true
  · simp only [if_pos h]
    by_cases hf : farI n = true
    · simp only [if_pos hf]; exact Ev.now _
    · simp only [if_neg hf]
      have hf' : farI n = false := by simpa using hf
      have hb := far_no n hf'
      rw [(mx_succ n hf').1]
      exact Ev.bind (times_ev (n.toNat + 1) s (by omega) h) (Ev.now _)
  · simp only [if_neg h]; exact Ev.now _
theorem rrep_ev (s : S23) (n : Int) : Ev (fun k => ironbarkref05_Repeat.f k s.f0 s.f1 s.f2 s.f3 n) (repR s n) := by
  unfold ironbarkref05_Repeat.f repR
  have hv : ironbarkref05_ValidT.f s.f0 s.f1 s.f2 s.f3 = some (okV s) := rfl
  simp only [hv, Option.bind_some, ironbarkref05_plainT.f, List.any_cons, List.any_nil, Bool.or_false]
  by_cases h : okV s = true
  · simp only [if_pos h]
    by_cases hf : farI n = true
    · simp only [hf, if_true]; exact Ev.congr (f := fun _ => some (bad5 7)) (fun k => if_neg (by decide)) (Ev.now _)
    · have hf' : farI n = false := by simpa using hf
      have hb := far_no n hf'
      rw [(mx_succ n hf').2, hf', if_neg (by decide)]
      exact Ev.congr (fun k => if_pos rfl) (Ev.bind (rtimes_ev (n.toNat + 1) s (by omega) h) (Ev.now _))
  · simp only [if_neg h]; exact Ev.now _
def copR (s : S23) (n : Int) : Q5 := if okV s = true then (if farI n = true then bad5 7 else (if n < 0 then bad5 7 else timesR s n.toNat)) else bad5 1
theorem cop_ev (s : S23) (n : Int) : Ev (fun k => bits_Copy.f k s.f0 s.f1 s.f2 s.f3 n) (copR s n) := by
  unfold bits_Copy.f copR
  have hv : bits_Valid.f s.f0 s.f1 s.f2 s.f3 = some (okV s) := rfl
  simp only [hv, Option.bind_some, bits_farT.f, List.any_cons, List.any_nil, Bool.or_false]
  by_cases h : okV s = true
  · simp only [if_pos h]
    by_cases hf : farI n = true
    · simp only [if_pos hf]; exact Ev.now _
    · simp only [if_neg hf]
      have hb := far_no n (by simpa using hf)
      by_cases h0 : n < 0
      · simp only [if_pos h0]; exact Ev.now _
      · simp only [if_neg h0]
        obtain ⟨m, rfl⟩ := Int.eq_ofNat_of_zero_le (show 0 ≤ n by omega)
        rw [Int.toNat_natCast]
        exact Ev.bind (times_ev m s (by omega) h) (Ev.now _)
  · simp only [if_neg h]; exact Ev.now _
theorem rcop_ev (s : S23) (n : Int) : Ev (fun k => ironbarkref05_Copy.f k s.f0 s.f1 s.f2 s.f3 n) (copR s n) := by
  unfold ironbarkref05_Copy.f copR
  have hv : ironbarkref05_ValidT.f s.f0 s.f1 s.f2 s.f3 = some (okV s) := rfl
  simp only [hv, Option.bind_some, ironbarkref05_plainT.f, List.any_cons, List.any_nil, Bool.or_false]
  by_cases h : okV s = true
  · simp only [if_pos h]
    by_cases hf : farI n = true
    · simp only [hf, if_true]; exact Ev.congr (f := fun _ => some (bad5 7)) (fun k => if_neg (by decide)) (Ev.now _)
    · have hf' : farI n = false := by simpa using hf
      have hb := far_no n hf'
      rw [hf', if_neg (by decide)]
      by_cases h0 : n < 0
      · simp only [if_pos h0]; exact Ev.congr (f := fun _ => some (bad5 7)) (fun k => if_pos rfl) (Ev.now _)
      · simp only [if_neg h0]
        obtain ⟨m, rfl⟩ := Int.eq_ofNat_of_zero_le (show 0 ≤ n by omega)
        rw [Int.toNat_natCast]
        exact Ev.congr (fun k => if_pos rfl) (Ev.bind (rtimes_ev m s (by omega) h) (Ev.now _))
  · simp only [if_neg h]; exact Ev.now _
def runR (n : Int) (c : ByteArray) : Q5 := if n < 0 then bad5 7 else (if 250 < n then bad5 7 else (4, 0, 0, repB c n.toNat, 0))
theorem run_is (n : Int) (c : ByteArray) (hc : c.size = 1) : bits_run.f n c = some (runR n c) := by
  unfold bits_run.f runR
  by_cases h0 : n < 0
  · rw [if_pos h0, if_pos h0]; rfl
  · rw [if_neg h0, if_neg h0]
    by_cases h1 : n > 250
    · rw [if_pos h1, if_pos (show 250 < n from h1)]; rfl
    · rw [if_neg h1, if_neg (show ¬ 250 < n from h1)]
      have hr : strings_Repeat.f c n = some (repB c n.toNat) := by
        unfold strings_Repeat.f
        rw [if_pos ⟨by omega, by omega, by rw [hc]; omega⟩]; rfl
      rw [hr, Option.bind_some]
theorem row_l0 (n : Nat) (c : ByteArray) (hn : n ≤ 250) (hc : c.size = 1) : ∀ d i : Nat, i + d = n → Ev (fun k => ironbarkref05_row.l0 k (n : Int) c (repB c i)) (4, 0, 0, repB c n, 0) := by
  intro d
  induction d with
  | zero =>
    intro i hi
    obtain rfl : i = n := by omega
    refine Ev.step (f := fun _ => some (4, 0, 0, repB c i, 0)) (fun k => ?_) (Ev.now _)
    simp only [ironbarkref05_row.l0, ironbarkref05_made.f, Option.bind_some]
    rw [if_neg (by rw [repB_size, hc]; omega)]
  | succ d ih =>
    intro i hi
    refine Ev.step (fun k => ?_) (ih (i + 1) (by omega))
    simp only [ironbarkref05_row.l0]
    rw [if_pos (by rw [repB_size, hc]; omega), if_pos (by rw [repB_size, hc]; omega), repB_succ]
theorem row_j0t (n : Int) (c : ByteArray) : Ev (fun k => ironbarkref05_row.j0 k n c true) (bad5 7) := by
  refine Ev.step (f := fun _ => some (bad5 7)) (fun k => ?_) (Ev.now _)
  simp only [ironbarkref05_row.j0]
  rw [if_pos trivial]; rfl
theorem row_ev (n : Int) (c : ByteArray) (hc : c.size = 1) : Ev (fun k => ironbarkref05_row.f k n c) (runR n c) := by
  unfold ironbarkref05_row.f runR
  by_cases h0 : n < 0
  · rw [if_pos h0]
    exact Ev.congr (fun k => if_pos h0) (row_j0t n c)
  · rw [if_neg h0]
    by_cases h1 : 250 < n
    · rw [if_pos h1]
      refine Ev.congr (fun k => if_neg h0) ?_
      rw [decide_eq_true (show n > 250 from h1)]
      exact row_j0t n c
    · rw [if_neg h1]
      refine Ev.congr (fun k => if_neg h0) ?_
      rw [decide_eq_false (show ¬ n > 250 from h1)]
      obtain ⟨m, rfl⟩ := Int.eq_ofNat_of_zero_le (show 0 ≤ n by omega)
      rw [Int.toNat_natCast]
      refine Ev.step (fun k => ?_) (row_l0 m c (by omega) hc m 0 (by omega))
      simp only [ironbarkref05_row.j0]
      rw [if_neg (by decide)]; rfl
theorem low_is (n : Int) : bits_Low.f n = some (runR n ⟨#[32]⟩) := by unfold bits_Low.f; rw [run_is n _ rfl]; rfl
theorem high_is (n : Int) : bits_High.f n = some (runR n ⟨#[126]⟩) := by unfold bits_High.f; rw [run_is n _ rfl]; rfl
theorem rlow_ev (n : Int) : Ev (fun k => ironbarkref05_Low.f k n) (runR n ⟨#[32]⟩) := Ev.bind (row_ev n _ rfl) (Ev.now _)
theorem rhigh_ev (n : Int) : Ev (fun k => ironbarkref05_High.f k n) (runR n ⟨#[126]⟩) := Ev.bind (row_ev n _ rfl) (Ev.now _)
def joinR (a b : S23) : Q5 := if askedI [a, b] = 0 then (if 250 < a.f3.size + b.f3.size then bad5 3 else (a.f0, 0, 0, a.f3 ++ b.f3, 0)) else bad5 (askedI [a, b])
theorem w_sum (x y : Nat) (hx : x ≤ 250) (hy : y ≤ 250) : wrap64 ((x : Int) + (y : Int)) = ((x + y : Nat) : Int) := by unfold wrap64; omega
theorem join_is (a b : S23) : bits_Join.f a.f0 a.f1 a.f2 a.f3 b.f0 b.f1 b.f2 b.f3 = some (joinR a b) := by
  unfold bits_Join.f joinR bad5
  simp only [bits_askedT.f, Option.bind_some]
  by_cases h : askedI [a, b] = 0
  · rw [if_pos h, if_pos h]
    obtain ⟨k1, k2, -⟩ := askedI_two h
    have h1 := (okV_parts k1).2.2.2.1
    have h2 := (okV_parts k2).2.2.2.1
    rw [w_sum _ _ h1 h2]
    by_cases hb : 250 < a.f3.size + b.f3.size
    · rw [if_pos (by omega), if_pos hb]
    · rw [if_neg (by omega), if_neg hb, if_pos (by omega)]; rfl
  · rw [if_neg h, if_neg h]
theorem rjoin_is (a b : S23) : ironbarkref05_Join.f a.f0 a.f1 a.f2 a.f3 b.f0 b.f1 b.f2 b.f3 = some (joinR a b) := by
  unfold ironbarkref05_Join.f joinR bad5
  simp only [ironbarkref05_stringsT.f, Option.bind_some, strings_0]
  by_cases h : askedI [a, b] = 0
  · rw [if_pos h, if_pos h]
    obtain ⟨k1, k2, -⟩ := askedI_two h
    have h1 := (okV_parts k1).2.2.2.1
    have h2 := (okV_parts k2).2.2.2.1
    rw [w_sum _ _ h1 h2]
    by_cases hb : 250 < a.f3.size + b.f3.size
    · rw [if_pos (by omega), if_pos hb]
    · rw [if_neg (by omega), if_neg hb, if_pos (by omega)]; rfl
  · rw [if_neg h, if_neg h]
theorem rev_is (s : S23) (h : okV s = true) : bits_Reverse.f s.f0 s.f1 s.f2 s.f3 = some (s.f0, 0, 0, revB s.f3, 0) := if_pos h
theorem revB_size (s : ByteArray) : (revB s).size = s.size := by unfold revB; rw [str_size, revL_len]
theorem revB_bt (s : ByteArray) (j : Nat) (h : j < s.size) : bt (revB s) (j : Int) = bt s ((s.size - 1 - j : Nat) : Int) := by
  have e := revL_get s s.size (Nat.le_refl _) j h
  have hr := bt_range s ((s.size - 1 - j : Nat) : Int)
  unfold revB
  rw [str_bt _ j (by rw [revL_len]; exact h) (by rw [e]; exact hr.1) (by rw [e]; exact hr.2), e]
theorem rev_join (a b : ByteArray) : revB (a ++ b) = revB b ++ revB a := by
  apply bytes_ext
  · rw [revB_size, ByteArray.size_append, ByteArray.size_append, revB_size, revB_size, Nat.add_comm]
  · intro j hj
    rw [revB_size] at hj
    rw [revB_bt _ _ hj, bt_append, bt_append, revB_size]
    rw [ByteArray.size_append] at hj
    simp only [ByteArray.size_append]
    by_cases h : j < b.size
    · rw [if_pos h, if_neg (by omega), revB_bt _ _ h]
      congr 2; omega
    · rw [if_neg h, if_pos (by omega), revB_bt _ _ (by omega)]
      congr 2; omega
theorem okS_of (n : Int) (s : ByteArray) (h : ∀ j : Nat, j < s.size → okc n (bt s (j : Int)) = true) : okS n s = true := by
  rw [okS_iff]
  intro k hk
  rw [← btN s k hk]
  exact h k hk
theorem okV_mk (n : Int) (s : ByteArray) (hn : n = 4 ∨ n = 5) (h1 : s.size ≤ 250) (h2 : okS n s = true) : okV ⟨n, 0, 0, s⟩ = true := by
  unfold okV validB
  simp only [h2]
  rw [decide_eq_true h1]
  rcases hn with e | e <;> rw [e] <;> rfl
theorem rev_ok (s : S23) (h : okV s = true) : okV ⟨s.f0, 0, 0, revB s.f3⟩ = true := by
  obtain ⟨k1, -, -, k4, k5⟩ := okV_parts h
  refine okV_mk _ _ k1 (by rw [revB_size]; exact k4) (okS_of _ _ fun j hj => ?_)
  rw [revB_size] at hj
  rw [revB_bt _ _ hj]
  exact okc_bt _ _ _ k5 (Int.natCast_nonneg _) (by omega)
theorem join_ok (a b : S23) (h : askedI [a, b] = 0) (hl : a.f3.size + b.f3.size ≤ 250) : okV ⟨a.f0, 0, 0, a.f3 ++ b.f3⟩ = true := by
  obtain ⟨k1, k2, k3⟩ := askedI_two h
  have h1 := (okV_parts k1).2.2.2.2
  have h2 := (okV_parts k2).2.2.2.2
  refine okV_mk _ _ (okV_parts k1).1 (by rw [ByteArray.size_append]; exact hl) (okS_of _ _ fun j hj => ?_)
  rw [ByteArray.size_append] at hj
  rw [bt_append]
  by_cases hc : j < a.f3.size
  · rw [if_pos hc]; exact okc_bt _ _ _ h1 (Int.natCast_nonneg _) (by omega)
  · rw [if_neg hc, k3]; exact okc_bt _ _ _ h2 (Int.natCast_nonneg _) (by omega)
theorem awake_trueM : ironbarklaw05_awake.f = some true := by decide +kernel
theorem app_left (a b : ByteArray) : (a ++ b).extract 0 a.size = a := by
  apply bytes_ext
  · simp only [ByteArray.size_extract, ByteArray.size_append]; omega
  · intro j hj
    simp only [ByteArray.size_extract, ByteArray.size_append] at hj
    rw [bt_extract0 _ _ _ (by omega) (by rw [ByteArray.size_append]; omega), bt_append, if_pos (by omega)]
theorem app_right (a b : ByteArray) : (a ++ b).extract a.size (a.size + b.size) = b := by
  apply bytes_ext
  · simp only [ByteArray.size_extract, ByteArray.size_append]; omega
  · intro j hj
    simp only [ByteArray.size_extract, ByteArray.size_append] at hj
    rw [bt_extract _ _ _ _ (by omega) (by rw [ByteArray.size_append]; omega), bt_append, if_neg (by omega)]
    congr 2; omega
theorem far_smallM (n : Int) (h : 0 ≤ n) (h2 : n ≤ 1000) : farI n = false := by simp [farI]; omega
theorem sub_left (k : Int) (a b : ByteArray) (h : okV ⟨k, 0, 0, a ++ b⟩ = true) (hl : a.size + b.size ≤ 250) : bits_Sub.f k 0 0 (a ++ b) 1 (a.size : Int) = some (k, 0, 0, a, 0, 0) := by
  have := sub_is ⟨k, 0, 0, a ++ b⟩ 1 (a.size : Int)
  refine this.trans ?_
  unfold subR
  obtain ⟨e1, e2⟩ := part_right (a ++ b).size 0 a.size (by rw [ByteArray.size_append]; omega)
  have e3 : partR (a ++ b).size 1 (a.size : Int) = true := by
    unfold partR
    rw [ByteArray.size_append, decide_eq_true (show (1 : Int) ≤ 1 by decide), decide_eq_true (show (0 : Int) ≤ (a.size : Int) by omega), decide_eq_true (by omega)]
    rfl
  rw [if_pos h, far_smallM 1 (by decide) (by decide), far_smallM _ (by omega) (by omega), if_neg (by decide)]
  have e1' : partF (a ++ b).size 1 = 0 := e1
  have e2' : partT (a ++ b).size 1 (a.size : Int) = 0 + a.size := e2
  simp only [e1', e2', e3, Nat.zero_add, app_left]
  rfl
theorem rest_right (k : Int) (a b : ByteArray) (h : okV ⟨k, 0, 0, a ++ b⟩ = true) (hl : a.size + b.size ≤ 250) : bits_Rest.f k 0 0 (a ++ b) (wrap64 ((a.size : Int) + 1)) = some (k, 0, 0, b, 0, 0) := by
  rw [w_next a.size (by omega)]
  have := rest_is ⟨k, 0, 0, a ++ b⟩ ((a.size + 1 : Nat) : Int)
  refine this.trans ?_
  unfold restR
  have e1 : partF (a ++ b).size ((a.size + 1 : Nat) : Int) = a.size := by rw [partF_in _ _ (by omega) (by rw [ByteArray.size_append]; omega)]; omega
  rw [if_pos h, far_smallM _ (by omega) (by omega), if_neg (by decide)]
  simp only [e1]
  rw [ByteArray.size_append, app_right, decide_eq_true (show (1 : Int) ≤ ((a.size + 1 : Nat) : Int) by omega), decide_eq_true (by omega)]
  rfl
theorem asked_ok {a b : S23} (ha : okV a = true) (hb : okV b = true) (h : a.f0 = b.f0) : askedI [a, b] = 0 := by
  simp [askedI, ha, hb, h]
theorem makes_j6 (s p : S23) (h : askedI [s, p] = 0) (hl : s.f3.size + p.f3.size ≤ 250) : Ev (fun k => ironbarklaw05_BitsMakes.j6 k false s.f0 s.f1 s.f2 s.f3 p.f0 p.f1 p.f2 p.f3 s.f0 0 0 (s.f3 ++ p.f3)) true := by
  obtain ⟨k1, k2, k3⟩ := askedI_two h
  have n1 := rev_is ⟨s.f0, 0, 0, s.f3 ++ p.f3⟩ (join_ok s p h hl)
  have n2 := rev_is p k2
  have n3 := rev_is s k1
  have n4 := join_is ⟨p.f0, 0, 0, revB p.f3⟩ ⟨s.f0, 0, 0, revB s.f3⟩
  rw [show joinR ⟨p.f0, 0, 0, revB p.f3⟩ ⟨s.f0, 0, 0, revB s.f3⟩ = (p.f0, 0, 0, revB p.f3 ++ revB s.f3, 0) from
    (if_pos (asked_ok (rev_ok p k2) (rev_ok s k1) k3.symm)).trans (if_neg (by simp only [revB_size]; omega))] at n4
  rw [rev_join] at n1
  rw [← k3] at n4 n2
  refine Ev.step (f := fun _ => some true) (fun k => ?_) (Ev.now _)
  simp only [ironbarklaw05_BitsMakes.j6]
  rw [if_neg (by decide), n1, Option.bind_some, ← k3, n2, Option.bind_some, n3, Option.bind_some, n4, Option.bind_some, awake_trueM]
  simp
theorem makes_j5b (s p : S23) (e x1 x2 x3 : Int) (x4 : ByteArray) (he : ¬ e = 0) : Ev (fun k => ironbarklaw05_BitsMakes.j5 k e false s.f0 s.f1 s.f2 s.f3 p.f0 p.f1 p.f2 p.f3 x1 x2 x3 x4) true := by
  refine Ev.step (f := fun _ => some true) (fun k => ?_) (Ev.now _)
  simp only [ironbarklaw05_BitsMakes.j5]
  rw [if_neg (by decide), if_neg he, awake_trueM]; rfl
theorem makes_j5 (s p : S23) : Ev (fun k => ironbarklaw05_BitsMakes.j5 k (joinR s p).2.2.2.2 false s.f0 s.f1 s.f2 s.f3 p.f0 p.f1 p.f2 p.f3 (joinR s p).1 (joinR s p).2.1 (joinR s p).2.2.1 (joinR s p).2.2.2.1) true := by
  unfold joinR
  by_cases h : askedI [s, p] = 0
  · rw [if_pos h]
    by_cases hb : 250 < s.f3.size + p.f3.size
    · rw [if_pos hb]
      exact makes_j5b s p 3 0 0 0 ⟨#[]⟩ (by decide)
    · rw [if_neg hb]
      have hl : s.f3.size + p.f3.size ≤ 250 := by omega
      obtain ⟨k1, k2, k3⟩ := askedI_two h
      obtain ⟨-, a1, a2, -, -⟩ := okV_parts k1
      obtain ⟨-, b1, b2, -, -⟩ := okV_parts k2
      have hj := join_ok s p h hl
      have n1 := sub_left s.f0 s.f3 p.f3 hj hl
      have n2 := rest_right s.f0 s.f3 p.f3 hj hl
      have h6 := makes_j6 s p h hl
      refine Ev.step (fun k => ?_) h6
      simp only [ironbarklaw05_BitsMakes.j5]
      rw [if_neg (by decide), if_pos trivial, n1, Option.bind_some, n2, Option.bind_some]
      simp only [a1, a2, b1, b2, ← k3, beq_self_eq_true, Bool.not_true, Bool.or_self, if_true]
      rfl
  · rw [if_neg h]
    exact makes_j5b s p (askedI [s, p]) 0 0 0 ⟨#[]⟩ h
/-- Two that are told alike. -/
theorem same5M (r : Q5) : (!(r.1 == r.1) || (!(r.2.1 == r.2.1) || (!(r.2.2.1 == r.2.2.1) || (!(r.2.2.2.1.toList == r.2.2.2.1.toList))))) = false := by simp
theorem makes_j4 (s p : S23) : Ev (fun k => ironbarklaw05_BitsMakes.j4 k false s.f0 s.f1 s.f2 s.f3 p.f0 p.f1 p.f2 p.f3) true := by
  have hj := makes_j5 s p
  have n1 := join_is s p
  have n2 := rjoin_is s p
  generalize joinR s p = r at *
  refine Ev.step (fun k => ?_) hj
  simp only [ironbarklaw05_BitsMakes.j4]
  rw [if_neg (by decide), n1, Option.bind_some, n2, Option.bind_some, if_neg (by rw [same5M]; decide)]
  simp only [bne_self_eq_false]
theorem makes_j3 (s p : S23) (n : Int) : Ev (fun k => ironbarklaw05_BitsMakes.j3 k n false s.f0 s.f1 s.f2 s.f3 p.f0 p.f1 p.f2 p.f3) true := by
  have hj := makes_j4 s p
  have n1 := high_is n
  have n2 := rhigh_ev n
  generalize runR n ⟨#[126]⟩ = r at *
  refine Ev.step (fun k => ?_) (Ev.bind n2 (f := fun k u => (if (!(r.1 == u.1) || (!(r.2.1 == u.2.1) || (!(r.2.2.1 == u.2.2.1) || (!(r.2.2.2.1.toList == u.2.2.2.1.toList))))) = true then (ironbarklaw05_BitsMakes.j4 k true s.f0 s.f1 s.f2 s.f3 p.f0 p.f1 p.f2 p.f3) else (ironbarklaw05_BitsMakes.j4 k (r.2.2.2.2 != u.2.2.2.2) s.f0 s.f1 s.f2 s.f3 p.f0 p.f1 p.f2 p.f3))) ?_)
  · simp only [ironbarklaw05_BitsMakes.j3]
    rw [if_neg (by decide), n1]; rfl
  · refine Ev.congr (fun k => (if_neg (by rw [same5M]; decide))) ?_
    simp only [bne_self_eq_false]; exact hj
theorem makes_j2 (s p : S23) (n : Int) : Ev (fun k => ironbarklaw05_BitsMakes.j2 k n false s.f0 s.f1 s.f2 s.f3 p.f0 p.f1 p.f2 p.f3) true := by
  have hj := makes_j3 s p n
  have n1 := low_is n
  have n2 := rlow_ev n
  generalize runR n ⟨#[32]⟩ = r at *
  refine Ev.step (fun k => ?_) (Ev.bind n2 (f := fun k u => (if (!(r.1 == u.1) || (!(r.2.1 == u.2.1) || (!(r.2.2.1 == u.2.2.1) || (!(r.2.2.2.1.toList == u.2.2.2.1.toList))))) = true then (ironbarklaw05_BitsMakes.j3 k n true s.f0 s.f1 s.f2 s.f3 p.f0 p.f1 p.f2 p.f3) else (ironbarklaw05_BitsMakes.j3 k n (r.2.2.2.2 != u.2.2.2.2) s.f0 s.f1 s.f2 s.f3 p.f0 p.f1 p.f2 p.f3))) ?_)
  · simp only [ironbarklaw05_BitsMakes.j2]
    rw [if_neg (by decide), n1]; rfl
  · refine Ev.congr (fun k => (if_neg (by rw [same5M]; decide))) ?_
    simp only [bne_self_eq_false]; exact hj
theorem makes_j1 (s p : S23) (n : Int) : Ev (fun k => ironbarklaw05_BitsMakes.j1 k n false s.f0 s.f1 s.f2 s.f3 p.f0 p.f1 p.f2 p.f3) true := by
  refine Ev.step (fun k => ?_) (Ev.bind (cop_ev s n) (f := fun k v => (ironbarkref05_Copy.f k s.f0 s.f1 s.f2 s.f3 n).bind fun u => (if (!(v.1 == u.1) || (!(v.2.1 == u.2.1) || (!(v.2.2.1 == u.2.2.1) || (!(v.2.2.2.1.toList == u.2.2.2.1.toList))))) = true then (ironbarklaw05_BitsMakes.j2 k n true s.f0 s.f1 s.f2 s.f3 p.f0 p.f1 p.f2 p.f3) else (ironbarklaw05_BitsMakes.j2 k n (v.2.2.2.2 != u.2.2.2.2) s.f0 s.f1 s.f2 s.f3 p.f0 p.f1 p.f2 p.f3))) (Ev.bind (rcop_ev s n) ?_))
  · simp only [ironbarklaw05_BitsMakes.j1]
    rw [if_neg (by decide)]
  · have hj := makes_j2 s p n
    refine Ev.congr (fun k => (if_neg (by rw [same5M]; decide))) ?_
    simp only [bne_self_eq_false]; exact hj
theorem makes_j0 (s p : S23) (n : Int) : Ev (fun k => ironbarklaw05_BitsMakes.j0 k n false s.f0 s.f1 s.f2 s.f3 p.f0 p.f1 p.f2 p.f3) true := by
  refine Ev.step (fun k => ?_) (Ev.bind (rep_ev s n) (f := fun k v => (ironbarkref05_Repeat.f k s.f0 s.f1 s.f2 s.f3 n).bind fun u => (if (!(v.1 == u.1) || (!(v.2.1 == u.2.1) || (!(v.2.2.1 == u.2.2.1) || (!(v.2.2.2.1.toList == u.2.2.2.1.toList))))) = true then (ironbarklaw05_BitsMakes.j1 k n true s.f0 s.f1 s.f2 s.f3 p.f0 p.f1 p.f2 p.f3) else (ironbarklaw05_BitsMakes.j1 k n (v.2.2.2.2 != u.2.2.2.2) s.f0 s.f1 s.f2 s.f3 p.f0 p.f1 p.f2 p.f3))) (Ev.bind (rrep_ev s n) ?_))
  · simp only [ironbarklaw05_BitsMakes.j0]
    rw [if_neg (by decide)]
  · have hj := makes_j1 s p n
    refine Ev.congr (fun k => (if_neg (by rw [same5M]; decide))) ?_
    simp only [bne_self_eq_false]; exact hj
theorem makes_ev (s p q : S23) (n : Int) : Ev (fun k => ironbarklaw05_BitsMakes.f k s.f0 s.f1 s.f2 s.f3 p.f0 p.f1 p.f2 p.f3 q.f0 q.f1 q.f2 q.f3 n) true := by
  have hj := makes_j0 s p n
  have n1 := tr_is s p q
  have n2 := rtr_ev s p q
  generalize trR s p q = r at *
  unfold ironbarklaw05_BitsMakes.f
  simp only [ironbarklaw05_lightT.f, Option.bind_some, n1]
  split
  · refine Ev.bind n2 ?_
    refine Ev.congr (fun k => (if_neg (by rw [same5M]; decide))) ?_
    simp only [bne_self_eq_false]; exact hj
  · rw [awake_trueM]; exact Ev.now _
theorem BitsMakes_walk (s p q : S23) (n : Int) (w : World) (_ : Wf23 s) (_ : Wf23 p) (_ : Wf23 q) (_ : (Lit.int .i64 n).wf = true) :
    Calls Try.prog 7 #[.agg #[.int .i64 s.f0, .int .i64 s.f1, .int .i64 s.f2, .string s.f3], .agg #[.int .i64 p.f0, .int .i64 p.f1, .int .i64 p.f2, .string p.f3], .agg #[.int .i64 q.f0, .int .i64 q.f1, .int .i64 q.f2, .string q.f3], .int .i64 n] w fun e w' => e = .returned (.bool true) ∧ Below w.heap.size w w' := by
  obtain ⟨k, hk⟩ := (makes_ev s p q n).rounds
  exact ironbarklaw05_BitsMakes.calls k _ _ _ _ _ _ _ _ _ _ _ _ _ true w hk ⟨rfl⟩
end Go.Proofs.Ytnelblndidciiaa.P
