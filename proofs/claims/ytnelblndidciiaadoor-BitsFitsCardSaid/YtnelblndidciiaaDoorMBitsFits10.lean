/- Part 10 of the proof of the law BitsFits: functions, contracts and plain laws; merged by this session's program. -/
import Derived.Deep.Slices
import Derived.Deep.Fields
import Derived.ProofKit
import Derived.ChangeSame
import Derived.SizedLaws
import Derived.Test.YtnelblndidciiaaDoorMBitsFits2
import Derived.Test.YtnelblndidciiaaDoorMBitsFits3
import Derived.Test.YtnelblndidciiaaDoorMBitsFits4
import Derived.Test.YtnelblndidciiaaDoorMBitsFits6
import Derived.Test.YtnelblndidciiaaDoorMBitsFits7
import Derived.Test.YtnelblndidciiaaDoorMBitsFits8
import Derived.Test.YtnelblndidciiaaDoorMBitsFits9
-- from the text D3
namespace Go.Proofs.YtnelblndidciiaaDoor.P
open Go.RowKit Go.Proofs.YtnelblndidciiaaDoorW.PrintWords Go.Proofs.YtnelblndidciiaaDoorW.PrintLast Go.Proofs.YtnelblndidciiaaDoorW.PrintMore
attribute [local go_sem] max2_int min2_int max_two min_two max_three min_three max_four min_four   -- for this text's walks alone
set_option linter.unusedVariables false
set_option linter.unusedSimpArgs false
attribute [local go_sem high] eqA23
mutual
def ironbarklaw05_BitsFits.j0 : Nat → Bool → Int → Int → Int → ByteArray → Int → Int → Int → Int → Bool → ByteArray → Option (Bool)
 | 0, _, _, _, _, _, _, _, _, _, _, _ => none
 | k + 1, x23, x102000, x102001, x102002, x102003, x103000, x103001, x103002, x103003, x103004, x103005 => if x23 = true then ((ironbarklaw05_awake.f).bind fun t107 => (some t107)) else ((bits_Fit.f x102000 x102001 x102002 x102003 x103000 x103001 x103002 x103003 x103004 x103005).bind fun bt108 => ((ironbarkref05_Fit.f k x102000 x102001 x102002 x102003 x103000 x103001 x103002 x103003 x103004 x103005).bind fun bt115 => ((bits_Valid.f x102000 x102001 x102002 x102003).bind fun t122 => ((ironbarkref05_ValidT.f x102000 x102001 x102002 x102003).bind fun t123 => (if (t122 != t123) = true then (ironbarklaw05_BitsFits.j1 k bt108.2.2.2.2.2 true x102000 x102001 x102002 x102003 x103000 x103001 x103002 x103003 x103004 x103005 bt108.1 bt108.2.1 bt108.2.2.1 bt108.2.2.2.1) else ((bits_ValidType.f x103000 x103001 x103002 x103003 x103004 x103005).bind fun t124 => ((ironbarkref05_ValidType.f x103000 x103001 x103002 x103003 x103004 x103005).bind fun t125 => (if (t124 != t125) = true then (ironbarklaw05_BitsFits.j1 k bt108.2.2.2.2.2 true x102000 x102001 x102002 x102003 x103000 x103001 x103002 x103003 x103004 x103005 bt108.1 bt108.2.1 bt108.2.2.1 bt108.2.2.2.1) else (if (!(bt108.1 == bt115.1) || (!(bt108.2.1 == bt115.2.1) || (!(bt108.2.2.1 == bt115.2.2.1) || (!(bt108.2.2.2.1.toList == bt115.2.2.2.1.toList))))) = true then (ironbarklaw05_BitsFits.j1 k bt108.2.2.2.2.2 true x102000 x102001 x102002 x102003 x103000 x103001 x103002 x103003 x103004 x103005 bt108.1 bt108.2.1 bt108.2.2.1 bt108.2.2.2.1) else (if bt108.2.2.2.2.1 = bt115.2.2.2.2.1 then (ironbarklaw05_BitsFits.j1 k bt108.2.2.2.2.2 (bt108.2.2.2.2.2 != bt115.2.2.2.2.2) x102000 x102001 x102002 x102003 x103000 x103001 x103002 x103003 x103004 x103005 bt108.1 bt108.2.1 bt108.2.2.1 bt108.2.2.2.1) else (ironbarklaw05_BitsFits.j1 k bt108.2.2.2.2.2 true x102000 x102001 x102002 x102003 x103000 x103001 x103002 x103003 x103004 x103005 bt108.1 bt108.2.1 bt108.2.2.1 bt108.2.2.2.1)))))))))))
def ironbarklaw05_BitsFits.j1 : Nat → Int → Bool → Int → Int → Int → ByteArray → Int → Int → Int → Int → Bool → ByteArray → Int → Int → Int → ByteArray → Option (Bool)
 | 0, _, _, _, _, _, _, _, _, _, _, _, _, _, _, _, _ => none
 | k + 1, x7, x65, x102000, x102001, x102002, x102003, x103000, x103001, x103002, x103003, x103004, x103005, x115000, x115001, x115002, x115003 => if x65 = true then (some false) else (if x7 = 0 then ((bits_Fit.f x115000 x115001 x115002 x115003 x103000 x103001 x103002 x103003 x103004 x103005).bind fun bt126 => (if (!(bt126.1 == x115000) || (!(bt126.2.1 == x115001) || (!(bt126.2.2.1 == x115002) || (!(bt126.2.2.2.1.toList == x115003.toList))))) = true then (some false) else (if bt126.2.2.2.2.1 = 0 then (if bt126.2.2.2.2.2 = 0 then (ironbarklaw05_BitsFits.j2 k x102000 x102001 x102002 x102003) else (some false)) else (some false)))) else (ironbarklaw05_BitsFits.j2 k x102000 x102001 x102002 x102003))
def ironbarklaw05_BitsFits.j2 : Nat → Int → Int → Int → ByteArray → Option (Bool)
 | 0, _, _, _, _ => none
 | k + 1, x102000, x102001, x102002, x102003 => (bits_Trim.f x102000 x102001 x102002 x102003).bind fun bt133 => ((ironbarkref05_Trim.f k x102000 x102001 x102002 x102003).bind fun bt138 => (if (!(bt133.1 == bt138.1) || (!(bt133.2.1 == bt138.2.1) || (!(bt133.2.2.1 == bt138.2.2.1) || (!(bt133.2.2.2.1.toList == bt138.2.2.2.1.toList))))) = true then (ironbarklaw05_BitsFits.j3 k true x102000 x102001 x102002 x102003) else (ironbarklaw05_BitsFits.j3 k (bt133.2.2.2.2 != bt138.2.2.2.2) x102000 x102001 x102002 x102003)))
def ironbarklaw05_BitsFits.j3 : Nat → Bool → Int → Int → Int → ByteArray → Option (Bool)
 | 0, _, _, _, _, _ => none
 | k + 1, x103, x102000, x102001, x102002, x102003 => if x103 = true then (some false) else ((bits_Reverse.f x102000 x102001 x102002 x102003).bind fun bt143 => ((ironbarkref05_Reverse.f k x102000 x102001 x102002 x102003).bind fun bt148 => (if (!(bt143.1 == bt148.1) || (!(bt143.2.1 == bt148.2.1) || (!(bt143.2.2.1 == bt148.2.2.1) || (!(bt143.2.2.2.1.toList == bt148.2.2.2.1.toList))))) = true then (ironbarklaw05_BitsFits.j4 k bt143.2.2.2.2 true x102000 x102001 x102002 x102003 bt143.1 bt143.2.1 bt143.2.2.1 bt143.2.2.2.1) else (ironbarklaw05_BitsFits.j4 k bt143.2.2.2.2 (bt143.2.2.2.2 != bt148.2.2.2.2) x102000 x102001 x102002 x102003 bt143.1 bt143.2.1 bt143.2.2.1 bt143.2.2.2.1))))
def ironbarklaw05_BitsFits.j4 : Nat → Int → Bool → Int → Int → Int → ByteArray → Int → Int → Int → ByteArray → Option (Bool)
 | 0, _, _, _, _, _, _, _, _, _, _ => none
 | k + 1, x7, x121, x102000, x102001, x102002, x102003, x115000, x115001, x115002, x115003 => if x121 = true then (some false) else (if x7 = 0 then ((bits_Reverse.f x115000 x115001 x115002 x115003).bind fun bt153 => (if (bt153.1 == x102000 && (bt153.2.1 == x102001 && (bt153.2.2.1 == x102002 && (bt153.2.2.2.1.toList == x102003.toList)))) = true then (if bt153.2.2.2.2 = 0 then ((ironbarklaw05_awake.f).bind fun t158 => (some t158)) else (some false)) else (some false))) else ((ironbarklaw05_awake.f).bind fun t159 => (some t159)))
end
def ironbarklaw05_BitsFits.f (k : Nat) (a0_0 : Int) (a0_1 : Int) (a0_2 : Int) (a0_3 : ByteArray) (a1_0 : Int) (a1_1 : Int) (a1_2 : Int) (a1_3 : Int) (a1_4 : Bool) (a1_5 : ByteArray) : Option (Bool) := (ironbarklaw05_lightT.f (([(⟨a0_0, a0_1, a0_2, a0_3⟩ : S23)] : List (S23)))).bind fun t106 => (if t106 = true then (ironbarklaw05_BitsFits.j0 k (decide ((a1_5.size : Int) > 300)) a0_0 a0_1 a0_2 a0_3 a1_0 a1_1 a1_2 a1_3 a1_4 a1_5) else (ironbarklaw05_BitsFits.j0 k true a0_0 a0_1 a0_2 a0_3 a1_0 a1_1 a1_2 a1_3 a1_4 a1_5))
theorem ironbarklaw05_BitsFits.j1_no : ∀ (k : Nat) y0 y1 y2 y3 y4 y5 y6 y7 y8 y9 y10 y11 y12 y13 y14, ¬ ironbarklaw05_BitsFits.j1 k y0 true y1 y2 y3 y4 y5 y6 y7 y8 y9 y10 y11 y12 y13 y14 = some true := by intro k y0 y1 y2 y3 y4 y5 y6 y7 y8 y9 y10 y11 y12 y13 y14; cases k <;> simp [ironbarklaw05_BitsFits.j1]
theorem ironbarklaw05_BitsFits.j3_no : ∀ (k : Nat) y0 y1 y2 y3, ¬ ironbarklaw05_BitsFits.j3 k true y0 y1 y2 y3 = some true := by intro k y0 y1 y2 y3; cases k <;> simp [ironbarklaw05_BitsFits.j3]
theorem ironbarklaw05_BitsFits.j4_no : ∀ (k : Nat) y0 y1 y2 y3 y4 y5 y6 y7 y8, ¬ ironbarklaw05_BitsFits.j4 k y0 true y1 y2 y3 y4 y5 y6 y7 y8 = some true := by intro k y0 y1 y2 y3 y4 y5 y6 y7 y8; cases k <;> simp [ironbarklaw05_BitsFits.j4]
def ironbarklaw05_BitsFits.T5 : Bool × List (List Nat × List Nat) := (true, [([], []), ([0], [0]), ([], []), ([2, 1], [2]), ([1, 3], [1, 3]), ([4, 3], [4]), ([5], [5]), ([6, 5, 5], [5, 6]), ([5], [5]), ([8, 7, 5], [5, 8]), ([7, 9, 5], [5, 7, 9]), ([5, 10], [5, 10]), ([11, 9], [11]), ([12], [12]), ([12], [12]), ([13, 14, 12], [12, 13, 14]), ([12, 15], [12, 15]), ([16, 12], [16]), ([17], [17]), ([17], [17]), ([18, 19, 17], [17, 18, 19]), ([17, 20], [17, 20]), ([21, 17], [21]), ([22], [22]), ([22], [22]), ([23, 24, 22], [22, 23, 24]), ([22, 25], [22, 25])])
def ironbarklaw05_BitsFits.B5 : List Nat := [0, 1, 0, 7, 15, 31, 63, 127, 63, 511, 1023, 2047, 4095, 8191, 8191, 32767, 65535, 131071, 262143, 262143, 1048575, 2097151, 4194303, 8388607, 8388607, 33554431, 67108863]
theorem ironbarklaw05_BitsFits.tab5 : rtab .any (opsOf Tryd.f3 5) = ironbarklaw05_BitsFits.T5 := by kernel_rfl
theorem ironbarklaw05_BitsFits.bits5 : waitsOk ironbarklaw05_BitsFits.T5.2 ironbarklaw05_BitsFits.B5 = true := by kernel_rfl
set_option maxHeartbeats 8000000 in
set_option maxRecDepth 100000 in
theorem ironbarklaw05_BitsFits.calls (k : Nat) (a0_0 : Int) (a0_1 : Int) (a0_2 : Int) (a0_3 : ByteArray) (a1_0 : Int) (a1_1 : Int) (a1_2 : Int) (a1_3 : Int) (a1_4 : Bool) (a1_5 : ByteArray) (r : Bool) (w : World) (h : ironbarklaw05_BitsFits.f k a0_0 a0_1 a0_2 a0_3 a1_0 a1_1 a1_2 a1_3 a1_4 a1_5 = some r) (hrt_ : Aside0 (r = true)) :
  Calls Tryd.prog 3 #[.agg #[.int .i64 a0_0, .int .i64 a0_1, .int .i64 a0_2, .string a0_3], .agg #[.int .i64 a1_0, .int .i64 a1_1, .int .i64 a1_2, .int .i64 a1_3, .bool a1_4, .string a1_5]] w fun e w' => e = .returned (.bool r) ∧ Below w.heap.size w w' := by
 have hu23 := Tryd.underlying23
 have hu25 := Tryd.underlying25
 have HB := Aside0.mk (Below.refl w.heap.size w)
 have H : ((ironbarklaw05_lightT.f (([(⟨a0_0, a0_1, a0_2, a0_3⟩ : S23)] : List (S23)))).bind fun t106 => (if t106 = true then (ironbarklaw05_BitsFits.j0 k (decide ((a1_5.size : Int) > 300)) a0_0 a0_1 a0_2 a0_3 a1_0 a1_1 a1_2 a1_3 a1_4 a1_5) else (ironbarklaw05_BitsFits.j0 k true a0_0 a0_1 a0_2 a0_3 a1_0 a1_1 a1_2 a1_3 a1_4 a1_5))) = some r := h
 clear h
 have HC3 := Aside0.mk H
 clear H
 go_enter Tryd.func3, Tryd.ntmps3
 go_upto_region 1 with (first | ((with_reducible refine gate_dst (N := 2) rfl ?_); (try (refine gate_guard (by rfl) ?_; dsimp only)); refine box_event ?hg (N := 2) ?hd (cs := #[.int .i64 a0_0, .int .i64 a0_1, .int .i64 a0_2, .string a0_3]) (t := 23) ?hr ?_; (case hd => rfl); (case hg => rfl); (case hr => first | (go_simp; done) | (go_simp; rfl)); intro gb101 hg w4 hbox hb; have n0_ := Aside0.mk (below_step (by repeat (first | (with_reducible first | exact HB.out | apply below_alloc | apply pw_below_drewN | apply below_drew1) | exact HB.out)) hb); have n1_ := Aside0.mk (hbox); have n2_ := Aside0.mk ((by rw [hg]; exact (below_size (by repeat (first | (with_reducible first | exact HB.out | apply below_alloc | apply pw_below_drewN | apply below_drew1) | exact HB.out))) : w.heap.size ≤ gb101)); have n3_ := n2_; clear HB; have HB := n0_; have BK101 := n1_; have GW101 := n2_; have GE101 := n3_; clear n0_ n1_ n2_ n3_; clear hb hbox hg) | ((with_reducible refine gate_dst (N := 3) rfl ?_); (try (refine gate_guard (by rfl) ?_; dsimp only)); refine box_event ?hg (N := 3) ?hd (cs := #[.int .i64 a1_0, .int .i64 a1_1, .int .i64 a1_2, .int .i64 a1_3, .bool a1_4, .string a1_5]) (t := 25) ?hr ?_; (case hd => rfl); (case hg => rfl); (case hr => first | (go_simp; done) | (go_simp; rfl)); intro gb102 hg w5 hbox hb; have n0_ := Aside0.mk (blk_below (zk BK101.out) hb); have n1_ := Aside0.mk (below_step (by repeat (first | (with_reducible first | exact HB.out | apply below_alloc | apply pw_below_drewN | apply below_drew1 | refine below_set ?_ GE101.out) | exact HB.out)) hb); have n2_ := Aside0.mk (hbox); have n3_ := Aside0.mk ((by rw [hg]; exact (below_size (by repeat (first | (with_reducible first | exact HB.out | apply below_alloc | apply pw_below_drewN | apply below_drew1 | refine below_set ?_ GE101.out) | exact HB.out))) : w.heap.size ≤ gb102)); have n4_ := n3_; have n5_ := Aside0.mk ((by rw [hg]; exact Nat.ne_of_lt (blk_lt (zk BK101.out)) : gb101 ≠ gb102)); have n6_ := Aside0.mk ((by rw [hg]; exact Nat.ne_of_gt (blk_lt (zk BK101.out)) : gb102 ≠ gb101)); clear BK101; clear HB; have BK101 := n0_; have HB := n1_; have BK102 := n2_; have GW102 := n3_; have GE102 := n4_; have NB101_102 := n5_; have NB102_101 := n6_; clear n0_ n1_ n2_ n3_ n4_ n5_ n6_; clear hb hbox hg))
 (try simp only [Act.put, List.setIfInBounds_toArray, List.set_cons_zero, List.set_cons_succ])
 go_cut [23] (fun v23 wc => ∃ (kq : Nat) (x23_2 : Bool), v23 = .bool x23_2 ∧ Aside0 (ironbarklaw05_BitsFits.j0 kq x23_2 a0_0 a0_1 a0_2 a0_3 a1_0 a1_1 a1_2 a1_3 a1_4 a1_5 = some r) ∧ Aside0 (kq ≤ k) ∧ Aside0 (wc.heap[gb101]? = some (.cells #[.int .i64 a0_0, .int .i64 a0_1, .int .i64 a0_2, .string a0_3] 23 (0, 0))) ∧ Aside0 (wc.heap[gb102]? = some (.cells #[.int .i64 a1_0, .int .i64 a1_1, .int .i64 a1_2, .int .i64 a1_3, .bool a1_4, .string a1_5] 25 (0, 0))) ∧ Aside0 (Below w.heap.size w wc))
 case first =>
  have H := HC3.out
  clear HC3
  obtain ⟨y103, hy103⟩ : ∃ y_ : List (S23), y_ = (([(⟨a0_0, a0_1, a0_2, a0_3⟩ : S23)] : List (S23))) := ⟨_, rfl⟩
  replace H : ((ironbarklaw05_lightT.f y103).bind fun t106 => (if t106 = true then (ironbarklaw05_BitsFits.j0 k (decide ((a1_5.size : Int) > 300)) a0_0 a0_1 a0_2 a0_3 a1_0 a1_1 a1_2 a1_3 a1_4 a1_5) else (ironbarklaw05_BitsFits.j0 k true a0_0 a0_1 a0_2 a0_3 a1_0 a1_1 a1_2 a1_3 a1_4 a1_5))) = some r := by first | (rw [hy103]; with_reducible exact H) | (have H2_ := (Option.bind_some _ _).symm.trans H; rw [hy103]; with_reducible exact H2_) | (have H2_ := (Option.bind_some _ _).symm.trans H; with_reducible exact H2_) | with_reducible exact H | (rw [hy103]; exact H) | exact H
  have Ny103 := Aside0.mk hy103
  clear hy103
  replace H := Option.bind_eq_some_iff.mp H
  obtain ⟨t106, A60, H⟩ := H
  replace H : (if t106 = true then (ironbarklaw05_BitsFits.j0 k (decide ((a1_5.size : Int) > 300)) a0_0 a0_1 a0_2 a0_3 a1_0 a1_1 a1_2 a1_3 a1_4 a1_5) else (ironbarklaw05_BitsFits.j0 k true a0_0 a0_1 a0_2 a0_3 a1_0 a1_1 a1_2 a1_3 a1_4 a1_5)) = some r := H
  have A6 := Aside0.mk A60
  clear A60
  by_cases c7 : t106 = true
  ·subst c7
   have H1 : (ironbarklaw05_BitsFits.j0 k (decide ((a1_5.size : Int) > 300)) a0_0 a0_1 a0_2 a0_3 a1_0 a1_1 a1_2 a1_3 a1_4 a1_5) = some r := by rw [if_pos rfl] at H; exact H
   clear H
   have H := H1
   clear H1
   have H' := Aside0.mk H
   clear H
   have hnb8 := NB101_102.out
   have hnc8 := NB102_101.out
   obtain ⟨hcz9_0, hcz9_1, hcz9_2, hcz9_3⟩ := blk_quad BK101.out
   obtain ⟨hfz9_0, hfz9_1, hfz9_2, hfz9_3⟩ := blk_quad_free BK101.out
   go_wp2_with (first | ((with_reducible refine gate_dst (N := 15) rfl ?_); (try (refine gate_guard (by rfl) ?_; dsimp only)); refine Kd.R_lit k23 _ 23 ?hg (N := 15) ?hd (xs := ([(⟨a0_0, a0_1, a0_2, a0_3⟩ : S23)] : List (S23))) (inner := [.int .i64 a0_0, .int .i64 a0_1, .int .i64 a0_2, .string a0_3]) (ok := fun _ => True) (okp := fun _ => True) ?hr ?hp (fun _ hk => hk) trivial (Below.refl _ _) (Nat.le_refl _) (by simp) ?_; (case hd => rfl); (case hg => rfl); (case hr => first | (go_simp; done) | (go_simp; rfl)); (case hp => exact (Reps.c4 (show Kd.M k23 _ _ _ (⟨a0_0, a0_1, a0_2, a0_3⟩ : S23) [.int .i64 a0_0, .int .i64 a0_1, .int .i64 a0_2, .string a0_3] from (k23_mkM _ _ _ (⟨a0_0, a0_1, a0_2, a0_3⟩ : S23) )) (Reps.none _ _))); intro v104 w10 ho11 hb hg_ hnew_; clear hg_ hnew_; (first | rw [← Ny103.out] at ho11 | (simp only [Int.reduceToNat] at ho11; rw [← Ny103.out] at ho11)); have n0_ := Aside0.mk (Kd.R_lower (Kd.R_newB ho11 (g := gb101) (o := .cells #[.int .i64 a0_0, .int .i64 a0_1, .int .i64 a0_2, .string a0_3] 23 (0, 0)) (zk BK101.out)) (below_size (by repeat (first | (with_reducible first | exact HB.out | apply below_alloc | apply pw_below_drewN | apply below_drew1 | refine below_set ?_ GE101.out | refine below_set ?_ GE102.out) | exact HB.out)))); have n1_ := Aside0.mk (blk_below (zk BK101.out) hb); have n2_ := Aside0.mk (blk_below (zk BK102.out) hb); have n3_ := Aside0.mk (below_step (by repeat (first | (with_reducible first | exact HB.out | apply below_alloc | apply pw_below_drewN | apply below_drew1 | refine below_set ?_ GE101.out | refine below_set ?_ GE102.out) | exact HB.out)) hb); clear BK101; clear BK102; clear HB; have HO105 := n0_; have BK101 := n1_; have BK102 := n2_; have HB := n3_; clear n0_ n1_ n2_ n3_; clear hb ho11; obtain ⟨Ao12, co12, eo12⟩ := Kd.R_slice HO105.out; subst eo12) | ((with_reducible refine gate_callee (f := 4) rfl ?_); refine goesL_ (some 16) rfl rfl Tryd.func4 (by kernel_rfl) rfl #[.slice Ao12 y103.length co12] rfl (by (try simp only [List.map_toArray, List.map_cons, List.map_nil]); first | done | rfl | (simp only [List.length_drop, List.length_take]; rfl)) ?_; (with_reducible refine (ironbarklaw05_lightT.calls _ _ y103 true _ ?side1 ?side2 A6.out).mono ?_); (case side1 => repeat (first | exact (Kd.R_reads' HO105.out).2.2 | (with_reducible refine Kd.C_alloc ?_ _) | (with_reducible refine Kd.C_drewN ?_ _) | (with_reducible refine Kd.C_drew ?_))); (case side2 => exact (Kd.R_reads' HO105.out).2.1); rintro e w' ⟨rfl, ⟨nd, rfl⟩⟩; refine ⟨_, rfl, ?_⟩; obtain ⟨hcz13_0, hcz13_1, hcz13_2, hcz13_3, hcz13_4, hcz13_5⟩ := blk_six BK102.out; obtain ⟨hfz13_0, hfz13_1, hfz13_2, hfz13_3, hfz13_4, hfz13_5⟩ := blk_six_free BK102.out))
   go_meet
   case rel => exact ⟨_, (decide ((a1_5.size : Int) > 300)), (by first | rfl | (simp; done) | (generalize ByteArray.toList _ = l_; cases l_ <;> rfl) | (simp [*]; done)), H', ⟨by first | omega | exact Nat.le_refl _⟩, ⟨zk BK101.out⟩, ⟨zk BK102.out⟩, ⟨by repeat (first | (with_reducible first | exact HB.out | apply below_alloc | apply pw_below_drewN | apply below_drew1 | refine below_set ?_ GE101.out | refine below_set ?_ GE102.out) | exact HB.out)⟩⟩
  ·replace c7 := Bool.eq_false_iff.mpr c7
   subst c7
   have H1 : (ironbarklaw05_BitsFits.j0 k true a0_0 a0_1 a0_2 a0_3 a1_0 a1_1 a1_2 a1_3 a1_4 a1_5) = some r := by rw [if_neg (show ¬ (false = true) by decide)] at H; exact H
   clear H
   have H := H1
   clear H1
   have H' := Aside0.mk H
   clear H
   have hnb14 := NB101_102.out
   have hnc14 := NB102_101.out
   obtain ⟨hcz15_0, hcz15_1, hcz15_2, hcz15_3⟩ := blk_quad BK101.out
   obtain ⟨hfz15_0, hfz15_1, hfz15_2, hfz15_3⟩ := blk_quad_free BK101.out
   go_wp2_with (first | ((with_reducible refine gate_dst (N := 15) rfl ?_); (try (refine gate_guard (by rfl) ?_; dsimp only)); refine Kd.R_lit k23 _ 23 ?hg (N := 15) ?hd (xs := ([(⟨a0_0, a0_1, a0_2, a0_3⟩ : S23)] : List (S23))) (inner := [.int .i64 a0_0, .int .i64 a0_1, .int .i64 a0_2, .string a0_3]) (ok := fun _ => True) (okp := fun _ => True) ?hr ?hp (fun _ hk => hk) trivial (Below.refl _ _) (Nat.le_refl _) (by simp) ?_; (case hd => rfl); (case hg => rfl); (case hr => first | (go_simp; done) | (go_simp; rfl)); (case hp => exact (Reps.c4 (show Kd.M k23 _ _ _ (⟨a0_0, a0_1, a0_2, a0_3⟩ : S23) [.int .i64 a0_0, .int .i64 a0_1, .int .i64 a0_2, .string a0_3] from (k23_mkM _ _ _ (⟨a0_0, a0_1, a0_2, a0_3⟩ : S23) )) (Reps.none _ _))); intro v104 w16 ho17 hb hg_ hnew_; clear hg_ hnew_; (first | rw [← Ny103.out] at ho17 | (simp only [Int.reduceToNat] at ho17; rw [← Ny103.out] at ho17)); have n0_ := Aside0.mk (Kd.R_lower (Kd.R_newB ho17 (g := gb101) (o := .cells #[.int .i64 a0_0, .int .i64 a0_1, .int .i64 a0_2, .string a0_3] 23 (0, 0)) (zk BK101.out)) (below_size (by repeat (first | (with_reducible first | exact HB.out | apply below_alloc | apply pw_below_drewN | apply below_drew1 | refine below_set ?_ GE101.out | refine below_set ?_ GE102.out) | exact HB.out)))); have n1_ := Aside0.mk (blk_below (zk BK101.out) hb); have n2_ := Aside0.mk (blk_below (zk BK102.out) hb); have n3_ := Aside0.mk (below_step (by repeat (first | (with_reducible first | exact HB.out | apply below_alloc | apply pw_below_drewN | apply below_drew1 | refine below_set ?_ GE101.out | refine below_set ?_ GE102.out) | exact HB.out)) hb); clear BK101; clear BK102; clear HB; have HO105 := n0_; have BK101 := n1_; have BK102 := n2_; have HB := n3_; clear n0_ n1_ n2_ n3_; clear hb ho17; obtain ⟨Ao18, co18, eo18⟩ := Kd.R_slice HO105.out; subst eo18) | ((with_reducible refine gate_callee (f := 4) rfl ?_); refine goesL_ (some 16) rfl rfl Tryd.func4 (by kernel_rfl) rfl #[.slice Ao18 y103.length co18] rfl (by (try simp only [List.map_toArray, List.map_cons, List.map_nil]); first | done | rfl | (simp only [List.length_drop, List.length_take]; rfl)) ?_; (with_reducible refine (ironbarklaw05_lightT.calls _ _ y103 false _ ?side1 ?side2 A6.out).mono ?_); (case side1 => repeat (first | exact (Kd.R_reads' HO105.out).2.2 | (with_reducible refine Kd.C_alloc ?_ _) | (with_reducible refine Kd.C_drewN ?_ _) | (with_reducible refine Kd.C_drew ?_))); (case side2 => exact (Kd.R_reads' HO105.out).2.1); rintro e w' ⟨rfl, ⟨nd, rfl⟩⟩; refine ⟨_, rfl, ?_⟩))
   go_meet
   case rel => exact ⟨_, (true), (by first | rfl | (simp; done) | (generalize ByteArray.toList _ = l_; cases l_ <;> rfl) | (simp [*]; done)), H', ⟨by first | omega | exact Nat.le_refl _⟩, ⟨zk BK101.out⟩, ⟨zk BK102.out⟩, ⟨by repeat (first | (with_reducible first | exact HB.out | apply below_alloc | apply pw_below_drewN | apply below_drew1 | refine below_set ?_ GE101.out | refine below_set ?_ GE102.out) | exact HB.out)⟩⟩
 case rest => as_aux_lemma =>
  clear HC3
  try clear c1
  try clear p2
  try clear c3
  try clear c4
  try clear c7
  try clear c8
  try clear c14
  try clear hcz13_0 hcz13_1 hcz13_2 hcz13_3 hcz13_4 hcz13_5
  try clear hcz15_0 hcz15_1 hcz15_2 hcz15_3
  try clear hcz9_0 hcz9_1 hcz9_2 hcz9_3
  try clear hfz13_0 hfz13_1 hfz13_2 hfz13_3 hfz13_4 hfz13_5
  try clear hfz15_0 hfz15_1 hfz15_2 hfz15_3
  try clear hfz9_0 hfz9_1 hfz9_2 hfz9_3
  obtain ⟨kq, x23_2, rfl, HA, HJ2, BK101, BK102, HB⟩ := hcut
  cases kq with
  | zero => exact absurd HA.out (by simp [ironbarklaw05_BitsFits.j0])
  | succ kj2 =>
   have H := HA.out
   clear HA
   simp only [ironbarklaw05_BitsFits.j0] at H
   by_cases c19 : x23_2 = true
   ·subst c19
    have H1 : ((ironbarklaw05_awake.f).bind fun t107 => (some t107)) = some r := by rw [if_pos rfl] at H; exact H
    clear H
    have H := H1
    clear H1
    replace H := Option.bind_eq_some_iff.mp H
    obtain ⟨t107, A200, H⟩ := H
    replace H : (some t107) = some r := H
    have A20 := Aside0.mk A200
    clear A200
    obtain rfl := Option.some.inj H
    go_wp2_with (first | ((with_reducible refine gate_callee (f := 5) rfl ?_); refine goesL_ (some 24) rfl rfl Tryd.func5 (by kernel_rfl) rfl #[] rfl (by (try simp only [List.map_toArray, List.map_cons, List.map_nil]); first | done | rfl | (simp only [List.length_drop, List.length_take]; rfl)) ?_; (with_reducible refine (ironbarklaw05_awake.calls  t107 _ A20.out).mono ?_); rintro e w21 ⟨rfl, hb⟩; refine ⟨_, rfl, ?_⟩; have n0_ := Aside0.mk (blk_below (zk BK101.out) hb); have n1_ := Aside0.mk (blk_below (zk BK102.out) hb); have n2_ := Aside0.mk (below_step (by repeat (first | (with_reducible first | exact HB.out | apply below_alloc | apply pw_below_drewN | apply below_drew1 | refine below_set ?_ GE101.out | refine below_set ?_ GE102.out) | exact HB.out)) hb); clear BK101; clear BK102; clear HB; have BK101 := n0_; have BK102 := n1_; have HB := n2_; clear n0_ n1_ n2_; (try clear hb); (try clear hb2); (try clear hk); (try clear hi)))
    go_ret
    exact ⟨by first | rfl | (simp [errW_none, errW_some] <;> rfl) | (simp [*, errW_none, errW_some] <;> rfl), by repeat (first | (with_reducible first | exact HB.out | apply below_alloc | apply pw_below_drewN | apply below_drew1 | refine below_set ?_ GE101.out | refine below_set ?_ GE102.out) | exact HB.out)⟩
   ·replace c19 := Bool.eq_false_iff.mpr c19
    subst c19
    have H1 : ((bits_Fit.f a0_0 a0_1 a0_2 a0_3 a1_0 a1_1 a1_2 a1_3 a1_4 a1_5).bind fun bt108 => ((ironbarkref05_Fit.f kj2 a0_0 a0_1 a0_2 a0_3 a1_0 a1_1 a1_2 a1_3 a1_4 a1_5).bind fun bt115 => ((bits_Valid.f a0_0 a0_1 a0_2 a0_3).bind fun t122 => ((ironbarkref05_ValidT.f a0_0 a0_1 a0_2 a0_3).bind fun t123 => (if (t122 != t123) = true then (ironbarklaw05_BitsFits.j1 kj2 bt108.2.2.2.2.2 true a0_0 a0_1 a0_2 a0_3 a1_0 a1_1 a1_2 a1_3 a1_4 a1_5 bt108.1 bt108.2.1 bt108.2.2.1 bt108.2.2.2.1) else ((bits_ValidType.f a1_0 a1_1 a1_2 a1_3 a1_4 a1_5).bind fun t124 => ((ironbarkref05_ValidType.f a1_0 a1_1 a1_2 a1_3 a1_4 a1_5).bind fun t125 => (if (t124 != t125) = true then (ironbarklaw05_BitsFits.j1 kj2 bt108.2.2.2.2.2 true a0_0 a0_1 a0_2 a0_3 a1_0 a1_1 a1_2 a1_3 a1_4 a1_5 bt108.1 bt108.2.1 bt108.2.2.1 bt108.2.2.2.1) else (if (!(bt108.1 == bt115.1) || (!(bt108.2.1 == bt115.2.1) || (!(bt108.2.2.1 == bt115.2.2.1) || (!(bt108.2.2.2.1.toList == bt115.2.2.2.1.toList))))) = true then (ironbarklaw05_BitsFits.j1 kj2 bt108.2.2.2.2.2 true a0_0 a0_1 a0_2 a0_3 a1_0 a1_1 a1_2 a1_3 a1_4 a1_5 bt108.1 bt108.2.1 bt108.2.2.1 bt108.2.2.2.1) else (if bt108.2.2.2.2.1 = bt115.2.2.2.2.1 then (ironbarklaw05_BitsFits.j1 kj2 bt108.2.2.2.2.2 (bt108.2.2.2.2.2 != bt115.2.2.2.2.2) a0_0 a0_1 a0_2 a0_3 a1_0 a1_1 a1_2 a1_3 a1_4 a1_5 bt108.1 bt108.2.1 bt108.2.2.1 bt108.2.2.2.1) else (ironbarklaw05_BitsFits.j1 kj2 bt108.2.2.2.2.2 true a0_0 a0_1 a0_2 a0_3 a1_0 a1_1 a1_2 a1_3 a1_4 a1_5 bt108.1 bt108.2.1 bt108.2.2.1 bt108.2.2.2.1))))))))))) = some r := by rw [if_neg (show ¬ (false = true) by decide)] at H; exact H
    clear H
    have H := H1
    clear H1
    replace H := Option.bind_eq_some_iff.mp H
    obtain ⟨⟨t108, t109, t110, t111, t112, t113⟩, A220, H⟩ := H
    replace H : ((ironbarkref05_Fit.f kj2 a0_0 a0_1 a0_2 a0_3 a1_0 a1_1 a1_2 a1_3 a1_4 a1_5).bind fun bt115 => ((bits_Valid.f a0_0 a0_1 a0_2 a0_3).bind fun t122 => ((ironbarkref05_ValidT.f a0_0 a0_1 a0_2 a0_3).bind fun t123 => (if (t122 != t123) = true then (ironbarklaw05_BitsFits.j1 kj2 t113 true a0_0 a0_1 a0_2 a0_3 a1_0 a1_1 a1_2 a1_3 a1_4 a1_5 t108 t109 t110 t111) else ((bits_ValidType.f a1_0 a1_1 a1_2 a1_3 a1_4 a1_5).bind fun t124 => ((ironbarkref05_ValidType.f a1_0 a1_1 a1_2 a1_3 a1_4 a1_5).bind fun t125 => (if (t124 != t125) = true then (ironbarklaw05_BitsFits.j1 kj2 t113 true a0_0 a0_1 a0_2 a0_3 a1_0 a1_1 a1_2 a1_3 a1_4 a1_5 t108 t109 t110 t111) else (if (!(t108 == bt115.1) || (!(t109 == bt115.2.1) || (!(t110 == bt115.2.2.1) || (!(t111.toList == bt115.2.2.2.1.toList))))) = true then (ironbarklaw05_BitsFits.j1 kj2 t113 true a0_0 a0_1 a0_2 a0_3 a1_0 a1_1 a1_2 a1_3 a1_4 a1_5 t108 t109 t110 t111) else (if t112 = bt115.2.2.2.2.1 then (ironbarklaw05_BitsFits.j1 kj2 t113 (t113 != bt115.2.2.2.2.2) a0_0 a0_1 a0_2 a0_3 a1_0 a1_1 a1_2 a1_3 a1_4 a1_5 t108 t109 t110 t111) else (ironbarklaw05_BitsFits.j1 kj2 t113 true a0_0 a0_1 a0_2 a0_3 a1_0 a1_1 a1_2 a1_3 a1_4 a1_5 t108 t109 t110 t111)))))))))) = some r := H
    have A22 := Aside0.mk A220
    clear A220
    replace H := Option.bind_eq_some_iff.mp H
    obtain ⟨⟨t115, t116, t117, t118, t119, t120⟩, A230, H⟩ := H
    replace H : ((bits_Valid.f a0_0 a0_1 a0_2 a0_3).bind fun t122 => ((ironbarkref05_ValidT.f a0_0 a0_1 a0_2 a0_3).bind fun t123 => (if (t122 != t123) = true then (ironbarklaw05_BitsFits.j1 kj2 t113 true a0_0 a0_1 a0_2 a0_3 a1_0 a1_1 a1_2 a1_3 a1_4 a1_5 t108 t109 t110 t111) else ((bits_ValidType.f a1_0 a1_1 a1_2 a1_3 a1_4 a1_5).bind fun t124 => ((ironbarkref05_ValidType.f a1_0 a1_1 a1_2 a1_3 a1_4 a1_5).bind fun t125 => (if (t124 != t125) = true then (ironbarklaw05_BitsFits.j1 kj2 t113 true a0_0 a0_1 a0_2 a0_3 a1_0 a1_1 a1_2 a1_3 a1_4 a1_5 t108 t109 t110 t111) else (if (!(t108 == t115) || (!(t109 == t116) || (!(t110 == t117) || (!(t111.toList == t118.toList))))) = true then (ironbarklaw05_BitsFits.j1 kj2 t113 true a0_0 a0_1 a0_2 a0_3 a1_0 a1_1 a1_2 a1_3 a1_4 a1_5 t108 t109 t110 t111) else (if t112 = t119 then (ironbarklaw05_BitsFits.j1 kj2 t113 (t113 != t120) a0_0 a0_1 a0_2 a0_3 a1_0 a1_1 a1_2 a1_3 a1_4 a1_5 t108 t109 t110 t111) else (ironbarklaw05_BitsFits.j1 kj2 t113 true a0_0 a0_1 a0_2 a0_3 a1_0 a1_1 a1_2 a1_3 a1_4 a1_5 t108 t109 t110 t111))))))))) = some r := H
    have A23 := Aside0.mk A230
    clear A230
    have HC24 := Aside0.mk H
    clear H
    have hnb25 := NB101_102.out
    have hnc25 := NB102_101.out
    obtain ⟨hcz26_0, hcz26_1, hcz26_2, hcz26_3⟩ := blk_quad BK101.out
    obtain ⟨hfz26_0, hfz26_1, hfz26_2, hfz26_3⟩ := blk_quad_free BK101.out
    obtain ⟨hcz27_0, hcz27_1, hcz27_2, hcz27_3, hcz27_4, hcz27_5⟩ := blk_six BK102.out
    obtain ⟨hfz27_0, hfz27_1, hfz27_2, hfz27_3, hfz27_4, hfz27_5⟩ := blk_six_free BK102.out
    go_upto_region 5 with (first | ((with_reducible refine gate_callee (f := 6) rfl ?_); refine goesL_ (some 28) rfl rfl Tryd.func6 (by kernel_rfl) rfl #[.agg #[.int .i64 a0_0, .int .i64 a0_1, .int .i64 a0_2, .string a0_3], .agg #[.int .i64 a1_0, .int .i64 a1_1, .int .i64 a1_2, .int .i64 a1_3, .bool a1_4, .string a1_5]] rfl (by (try simp only [List.map_toArray, List.map_cons, List.map_nil]); first | done | rfl | (simp only [List.length_drop, List.length_take]; rfl)) ?_; (with_reducible refine (bits_Fit.calls a0_0 a0_1 a0_2 a0_3 a1_0 a1_1 a1_2 a1_3 a1_4 a1_5 t108 t109 t110 t111 t112 t113 _ A22.out).mono ?_); rintro e w28 ⟨rfl, hb⟩; refine ⟨_, rfl, ?_⟩; have n0_ := Aside0.mk (blk_below (zk BK101.out) hb); have n1_ := Aside0.mk (blk_below (zk BK102.out) hb); have n2_ := Aside0.mk (below_step (by repeat (first | (with_reducible first | exact HB.out | apply below_alloc | apply pw_below_drewN | apply below_drew1 | refine below_set ?_ GE101.out | refine below_set ?_ GE102.out) | exact HB.out)) hb); clear BK101; clear BK102; clear HB; have BK101 := n0_; have BK102 := n1_; have HB := n2_; clear n0_ n1_ n2_; (try clear hb); (try clear hb2); (try clear hk); (try clear hi)) | ((with_reducible refine gate_dst (N := 5) rfl ?_); (try (refine gate_guard (by rfl) ?_; dsimp only)); refine box_event ?hg (N := 5) ?hd (cs := #[.int .i64 0, .int .i64 0, .int .i64 0, .string (⟨#[]⟩ : ByteArray)]) (t := 23) ?hr ?_; (case hd => rfl); (case hg => rfl); (case hr => first | (go_simp; done) | (go_simp; rfl)); intro gb114 hg w29 hbox hb; have n0_ := Aside0.mk (blk_below (zk BK101.out) hb); have n1_ := Aside0.mk (blk_below (zk BK102.out) hb); have n2_ := Aside0.mk (below_step (by repeat (first | (with_reducible first | exact HB.out | apply below_alloc | apply pw_below_drewN | apply below_drew1 | refine below_set ?_ GE101.out | refine below_set ?_ GE102.out) | exact HB.out)) hb); have n3_ := Aside0.mk (hbox); have n4_ := Aside0.mk ((by rw [hg]; exact (below_size (by repeat (first | (with_reducible first | exact HB.out | apply below_alloc | apply pw_below_drewN | apply below_drew1 | refine below_set ?_ GE101.out | refine below_set ?_ GE102.out) | exact HB.out))) : w.heap.size ≤ gb114)); have n5_ := n4_; have n6_ := Aside0.mk ((by rw [hg]; exact Nat.ne_of_lt (blk_lt (zk BK101.out)) : gb101 ≠ gb114)); have n7_ := Aside0.mk ((by rw [hg]; exact Nat.ne_of_gt (blk_lt (zk BK101.out)) : gb114 ≠ gb101)); have n8_ := Aside0.mk ((by rw [hg]; exact Nat.ne_of_lt (blk_lt (zk BK102.out)) : gb102 ≠ gb114)); have n9_ := Aside0.mk ((by rw [hg]; exact Nat.ne_of_gt (blk_lt (zk BK102.out)) : gb114 ≠ gb102)); clear BK101; clear BK102; clear HB; have BK101 := n0_; have BK102 := n1_; have HB := n2_; have BK114 := n3_; have GW114 := n4_; have GE114 := n5_; have NB101_114 := n6_; have NB114_101 := n7_; have NB102_114 := n8_; have NB114_102 := n9_; clear n0_ n1_ n2_ n3_ n4_ n5_ n6_ n7_ n8_ n9_; clear hb hbox hg; have hnb30 := NB114_101.out; have hnc30 := NB101_114.out; have hnb31 := NB114_102.out; have hnc31 := NB102_114.out; obtain ⟨hcz32_0, hcz32_1, hcz32_2, hcz32_3⟩ := blk_quad BK114.out; obtain ⟨hfz32_0, hfz32_1, hfz32_2, hfz32_3⟩ := blk_quad_free BK114.out; obtain ⟨hcz33_0, hcz33_1, hcz33_2, hcz33_3⟩ := blk_quad BK101.out; obtain ⟨hfz33_0, hfz33_1, hfz33_2, hfz33_3⟩ := blk_quad_free BK101.out; obtain ⟨hcz34_0, hcz34_1, hcz34_2, hcz34_3, hcz34_4, hcz34_5⟩ := blk_six BK102.out; obtain ⟨hfz34_0, hfz34_1, hfz34_2, hfz34_3, hfz34_4, hfz34_5⟩ := blk_six_free BK102.out) | ((with_reducible refine gate_callee (f := 7) rfl ?_); refine goesL_ (some 35) rfl rfl Tryd.func7 (by kernel_rfl) rfl #[.agg #[.int .i64 a0_0, .int .i64 a0_1, .int .i64 a0_2, .string a0_3], .agg #[.int .i64 a1_0, .int .i64 a1_1, .int .i64 a1_2, .int .i64 a1_3, .bool a1_4, .string a1_5]] rfl (by (try simp only [List.map_toArray, List.map_cons, List.map_nil]); first | done | rfl | (simp only [List.length_drop, List.length_take]; rfl)) ?_; (with_reducible refine (ironbarkref05_Fit.calls kj2 a0_0 a0_1 a0_2 a0_3 a1_0 a1_1 a1_2 a1_3 a1_4 a1_5 t115 t116 t117 t118 t119 t120 _ A23.out).mono ?_); rintro e w35 ⟨rfl, hb⟩; refine ⟨_, rfl, ?_⟩; have n0_ := Aside0.mk (blk_below (g := gb101) (o := .cells #[.int .i64 a0_0, .int .i64 a0_1, .int .i64 a0_2, .string a0_3] 23 (0, 0)) (by refine zk ?_; refine blk_far ?_ NB101_114.out _; refine zk ?_; refine blk_far ?_ NB101_114.out _; refine zk ?_; refine blk_far ?_ NB101_114.out _; refine zk ?_; refine blk_far ?_ NB101_114.out _; refine zk ?_; exact BK101.out) hb); have n1_ := Aside0.mk (blk_below (g := gb102) (o := .cells #[.int .i64 a1_0, .int .i64 a1_1, .int .i64 a1_2, .int .i64 a1_3, .bool a1_4, .string a1_5] 25 (0, 0)) (by refine zk ?_; refine blk_far ?_ NB102_114.out _; refine zk ?_; refine blk_far ?_ NB102_114.out _; refine zk ?_; refine blk_far ?_ NB102_114.out _; refine zk ?_; refine blk_far ?_ NB102_114.out _; refine zk ?_; exact BK102.out) hb); have n2_ := Aside0.mk (blk_below (g := gb114) (o := .cells #[.int .i64 t108, .int .i64 t109, .int .i64 t110, .string t111] 23 (0, 0)) (by refine zk ?_; refine blk_put (cs := #[.int .i64 t108, .int .i64 t109, .int .i64 t110, .string (⟨#[]⟩ : ByteArray)]) ?_ 3 _ rfl; refine zk ?_; refine blk_put (cs := #[.int .i64 t108, .int .i64 t109, .int .i64 0, .string (⟨#[]⟩ : ByteArray)]) ?_ 2 _ rfl; refine zk ?_; refine blk_put (cs := #[.int .i64 t108, .int .i64 0, .int .i64 0, .string (⟨#[]⟩ : ByteArray)]) ?_ 1 _ rfl; refine zk ?_; refine blk_put (cs := #[.int .i64 0, .int .i64 0, .int .i64 0, .string (⟨#[]⟩ : ByteArray)]) ?_ 0 _ rfl; refine zk ?_; exact BK114.out) hb); have n3_ := Aside0.mk (below_step (by repeat (first | (with_reducible first | exact HB.out | apply below_alloc | apply pw_below_drewN | apply below_drew1 | refine below_set ?_ GE101.out | refine below_set ?_ GE102.out | refine below_set ?_ GE114.out) | exact HB.out)) hb); clear BK101; clear BK102; clear BK114; clear HB; have BK101 := n0_; have BK102 := n1_; have BK114 := n2_; have HB := n3_; clear n0_ n1_ n2_ n3_; (try clear hb); (try clear hb2); (try clear hk); (try clear hi)) | ((with_reducible refine gate_dst (N := 8) rfl ?_); (try (refine gate_guard (by rfl) ?_; dsimp only)); refine box_event ?hg (N := 8) ?hd (cs := #[.int .i64 0, .int .i64 0, .int .i64 0, .string (⟨#[]⟩ : ByteArray)]) (t := 23) ?hr ?_; (case hd => rfl); (case hg => rfl); (case hr => first | (go_simp; done) | (go_simp; rfl)); intro gb121 hg w36 hbox hb; have n0_ := Aside0.mk (blk_below (zk BK101.out) hb); have n1_ := Aside0.mk (blk_below (zk BK102.out) hb); have n2_ := Aside0.mk (blk_below (zk BK114.out) hb); have n3_ := Aside0.mk (below_step (by repeat (first | (with_reducible first | exact HB.out | apply below_alloc | apply pw_below_drewN | apply below_drew1 | refine below_set ?_ GE101.out | refine below_set ?_ GE102.out | refine below_set ?_ GE114.out) | exact HB.out)) hb); have n4_ := Aside0.mk (hbox); have n5_ := Aside0.mk ((by rw [hg]; exact (below_size (by repeat (first | (with_reducible first | exact HB.out | apply below_alloc | apply pw_below_drewN | apply below_drew1 | refine below_set ?_ GE101.out | refine below_set ?_ GE102.out | refine below_set ?_ GE114.out) | exact HB.out))) : w.heap.size ≤ gb121)); have n6_ := n5_; have n7_ := Aside0.mk ((by rw [hg]; exact Nat.ne_of_lt (blk_lt (zk BK101.out)) : gb101 ≠ gb121)); have n8_ := Aside0.mk ((by rw [hg]; exact Nat.ne_of_gt (blk_lt (zk BK101.out)) : gb121 ≠ gb101)); have n9_ := Aside0.mk ((by rw [hg]; exact Nat.ne_of_lt (blk_lt (zk BK102.out)) : gb102 ≠ gb121)); have n10_ := Aside0.mk ((by rw [hg]; exact Nat.ne_of_gt (blk_lt (zk BK102.out)) : gb121 ≠ gb102)); have n11_ := Aside0.mk ((by rw [hg]; exact Nat.ne_of_lt (blk_lt (zk BK114.out)) : gb114 ≠ gb121)); have n12_ := Aside0.mk ((by rw [hg]; exact Nat.ne_of_gt (blk_lt (zk BK114.out)) : gb121 ≠ gb114)); clear BK101; clear BK102; clear BK114; clear HB; have BK101 := n0_; have BK102 := n1_; have BK114 := n2_; have HB := n3_; have BK121 := n4_; have GW121 := n5_; have GE121 := n6_; have NB101_121 := n7_; have NB121_101 := n8_; have NB102_121 := n9_; have NB121_102 := n10_; have NB114_121 := n11_; have NB121_114 := n12_; clear n0_ n1_ n2_ n3_ n4_ n5_ n6_ n7_ n8_ n9_ n10_ n11_ n12_; clear hb hbox hg; have hnb37 := NB121_101.out; have hnc37 := NB101_121.out; have hnb38 := NB121_102.out; have hnc38 := NB102_121.out; have hnb39 := NB121_114.out; have hnc39 := NB114_121.out; obtain ⟨hcz40_0, hcz40_1, hcz40_2, hcz40_3⟩ := blk_quad BK121.out; obtain ⟨hfz40_0, hfz40_1, hfz40_2, hfz40_3⟩ := blk_quad_free BK121.out))
    (try simp only [Act.put, List.setIfInBounds_toArray, List.set_cons_zero, List.set_cons_succ])
    go_cut [65] (fun v65 wc => ∃ (kq : Nat) (x65_23 : Bool), v65 = .bool x65_23 ∧ Aside0 (ironbarklaw05_BitsFits.j1 kq t113 x65_23 a0_0 a0_1 a0_2 a0_3 a1_0 a1_1 a1_2 a1_3 a1_4 a1_5 t108 t109 t110 t111 = some r) ∧ Aside0 (kq ≤ kj2) ∧ Aside0 (wc.heap[gb101]? = some (.cells #[.int .i64 a0_0, .int .i64 a0_1, .int .i64 a0_2, .string a0_3] 23 (0, 0))) ∧ Aside0 (wc.heap[gb102]? = some (.cells #[.int .i64 a1_0, .int .i64 a1_1, .int .i64 a1_2, .int .i64 a1_3, .bool a1_4, .string a1_5] 25 (0, 0))) ∧ Aside0 (wc.heap[gb114]? = some (.cells #[.int .i64 t108, .int .i64 t109, .int .i64 t110, .string t111] 23 (0, 0))) ∧ Aside0 (wc.heap[gb121]? = some (.cells #[.int .i64 t115, .int .i64 t116, .int .i64 t117, .string t118] 23 (0, 0))) ∧ Aside0 (Below w.heap.size w wc))
    case first =>
     have H := HC24.out
     clear HC24
     replace H := Option.bind_eq_some_iff.mp H
     obtain ⟨t122, A410, H⟩ := H
     replace H : ((ironbarkref05_ValidT.f a0_0 a0_1 a0_2 a0_3).bind fun t123 => (if (t122 != t123) = true then (ironbarklaw05_BitsFits.j1 kj2 t113 true a0_0 a0_1 a0_2 a0_3 a1_0 a1_1 a1_2 a1_3 a1_4 a1_5 t108 t109 t110 t111) else ((bits_ValidType.f a1_0 a1_1 a1_2 a1_3 a1_4 a1_5).bind fun t124 => ((ironbarkref05_ValidType.f a1_0 a1_1 a1_2 a1_3 a1_4 a1_5).bind fun t125 => (if (t124 != t125) = true then (ironbarklaw05_BitsFits.j1 kj2 t113 true a0_0 a0_1 a0_2 a0_3 a1_0 a1_1 a1_2 a1_3 a1_4 a1_5 t108 t109 t110 t111) else (if (!(t108 == t115) || (!(t109 == t116) || (!(t110 == t117) || (!(t111.toList == t118.toList))))) = true then (ironbarklaw05_BitsFits.j1 kj2 t113 true a0_0 a0_1 a0_2 a0_3 a1_0 a1_1 a1_2 a1_3 a1_4 a1_5 t108 t109 t110 t111) else (if t112 = t119 then (ironbarklaw05_BitsFits.j1 kj2 t113 (t113 != t120) a0_0 a0_1 a0_2 a0_3 a1_0 a1_1 a1_2 a1_3 a1_4 a1_5 t108 t109 t110 t111) else (ironbarklaw05_BitsFits.j1 kj2 t113 true a0_0 a0_1 a0_2 a0_3 a1_0 a1_1 a1_2 a1_3 a1_4 a1_5 t108 t109 t110 t111)))))))) = some r := H
     have A41 := Aside0.mk A410
     clear A410
     replace H := Option.bind_eq_some_iff.mp H
     obtain ⟨t123, A420, H⟩ := H
     replace H : (if (t122 != t123) = true then (ironbarklaw05_BitsFits.j1 kj2 t113 true a0_0 a0_1 a0_2 a0_3 a1_0 a1_1 a1_2 a1_3 a1_4 a1_5 t108 t109 t110 t111) else ((bits_ValidType.f a1_0 a1_1 a1_2 a1_3 a1_4 a1_5).bind fun t124 => ((ironbarkref05_ValidType.f a1_0 a1_1 a1_2 a1_3 a1_4 a1_5).bind fun t125 => (if (t124 != t125) = true then (ironbarklaw05_BitsFits.j1 kj2 t113 true a0_0 a0_1 a0_2 a0_3 a1_0 a1_1 a1_2 a1_3 a1_4 a1_5 t108 t109 t110 t111) else (if (!(t108 == t115) || (!(t109 == t116) || (!(t110 == t117) || (!(t111.toList == t118.toList))))) = true then (ironbarklaw05_BitsFits.j1 kj2 t113 true a0_0 a0_1 a0_2 a0_3 a1_0 a1_1 a1_2 a1_3 a1_4 a1_5 t108 t109 t110 t111) else (if t112 = t119 then (ironbarklaw05_BitsFits.j1 kj2 t113 (t113 != t120) a0_0 a0_1 a0_2 a0_3 a1_0 a1_1 a1_2 a1_3 a1_4 a1_5 t108 t109 t110 t111) else (ironbarklaw05_BitsFits.j1 kj2 t113 true a0_0 a0_1 a0_2 a0_3 a1_0 a1_1 a1_2 a1_3 a1_4 a1_5 t108 t109 t110 t111))))))) = some r := H
     have A42 := Aside0.mk A420
     clear A420
     by_cases c43 : (t122 != t123) = true
     ·rw [if_pos c43] at H
      have c43b0 : (t122 != t123) = true := c43
      (try (have c43b1 : decide (t122 = t123) = false := by simpa using c43))
      (try (have c43b2 : (t122 == t123) = false := by simpa using c43))
      (try (have c43b3 : ¬ (t122 = t123) := by simpa using c43))
      clear c43
      (first | rw [c43b0] | (simp only [i64_w, i32_w]; rw [c43b0]) | skip)
      exact absurd (H.trans (congrArg some hrt_.out)) (ironbarklaw05_BitsFits.j1_no _ _ _ _ _ _ _ _ _ _ _ _ _ _ _ _ )
     ·rw [if_neg c43] at H
      have c43b0 : (t122 != t123) = false := by simpa using c43
      (try (have c43b1 : decide (t122 = t123) = true := by simpa using c43))
      (try (have c43b2 : (t122 == t123) = true := by simpa using c43))
      clear c43
      (first | rw [c43b0] | (simp only [i64_w, i32_w]; rw [c43b0]) | skip)
      replace H := Option.bind_eq_some_iff.mp H
      obtain ⟨t124, A480, H⟩ := H
      replace H : ((ironbarkref05_ValidType.f a1_0 a1_1 a1_2 a1_3 a1_4 a1_5).bind fun t125 => (if (t124 != t125) = true then (ironbarklaw05_BitsFits.j1 kj2 t113 true a0_0 a0_1 a0_2 a0_3 a1_0 a1_1 a1_2 a1_3 a1_4 a1_5 t108 t109 t110 t111) else (if (!(t108 == t115) || (!(t109 == t116) || (!(t110 == t117) || (!(t111.toList == t118.toList))))) = true then (ironbarklaw05_BitsFits.j1 kj2 t113 true a0_0 a0_1 a0_2 a0_3 a1_0 a1_1 a1_2 a1_3 a1_4 a1_5 t108 t109 t110 t111) else (if t112 = t119 then (ironbarklaw05_BitsFits.j1 kj2 t113 (t113 != t120) a0_0 a0_1 a0_2 a0_3 a1_0 a1_1 a1_2 a1_3 a1_4 a1_5 t108 t109 t110 t111) else (ironbarklaw05_BitsFits.j1 kj2 t113 true a0_0 a0_1 a0_2 a0_3 a1_0 a1_1 a1_2 a1_3 a1_4 a1_5 t108 t109 t110 t111))))) = some r := H
      have A48 := Aside0.mk A480
      clear A480
      replace H := Option.bind_eq_some_iff.mp H
      obtain ⟨t125, A490, H⟩ := H
      replace H : (if (t124 != t125) = true then (ironbarklaw05_BitsFits.j1 kj2 t113 true a0_0 a0_1 a0_2 a0_3 a1_0 a1_1 a1_2 a1_3 a1_4 a1_5 t108 t109 t110 t111) else (if (!(t108 == t115) || (!(t109 == t116) || (!(t110 == t117) || (!(t111.toList == t118.toList))))) = true then (ironbarklaw05_BitsFits.j1 kj2 t113 true a0_0 a0_1 a0_2 a0_3 a1_0 a1_1 a1_2 a1_3 a1_4 a1_5 t108 t109 t110 t111) else (if t112 = t119 then (ironbarklaw05_BitsFits.j1 kj2 t113 (t113 != t120) a0_0 a0_1 a0_2 a0_3 a1_0 a1_1 a1_2 a1_3 a1_4 a1_5 t108 t109 t110 t111) else (ironbarklaw05_BitsFits.j1 kj2 t113 true a0_0 a0_1 a0_2 a0_3 a1_0 a1_1 a1_2 a1_3 a1_4 a1_5 t108 t109 t110 t111)))) = some r := H
      have A49 := Aside0.mk A490
      clear A490
      by_cases c50 : (t124 != t125) = true
      ·rw [if_pos c50] at H
       have c50b0 : (t124 != t125) = true := c50
       (try (have c50b1 : decide (t124 = t125) = false := by simpa using c50))
       (try (have c50b2 : (t124 == t125) = false := by simpa using c50))
       (try (have c50b3 : ¬ (t124 = t125) := by simpa using c50))
       clear c50
       exact absurd (H.trans (congrArg some hrt_.out)) (ironbarklaw05_BitsFits.j1_no _ _ _ _ _ _ _ _ _ _ _ _ _ _ _ _ )
      ·rw [if_neg c50] at H
       have c50b0 : (t124 != t125) = false := by simpa using c50
       (try (have c50b1 : decide (t124 = t125) = true := by simpa using c50))
       (try (have c50b2 : (t124 == t125) = true := by simpa using c50))
       clear c50
       by_cases c57 : (!(t108 == t115) || (!(t109 == t116) || (!(t110 == t117) || (!(t111.toList == t118.toList))))) = true
       ·rw [if_pos c57] at H
        have c57b0 : (!(t108 == t115) || (!(t109 == t116) || (!(t110 == t117) || (!(t111.toList == t118.toList))))) = true := c57
        clear c57
        exact absurd (H.trans (congrArg some hrt_.out)) (ironbarklaw05_BitsFits.j1_no _ _ _ _ _ _ _ _ _ _ _ _ _ _ _ _ )
       ·rw [if_neg c57] at H
        have c57b0 : (!(t108 == t115) || (!(t109 == t116) || (!(t110 == t117) || (!(t111.toList == t118.toList))))) = false := by simpa using c57
        clear c57
        by_cases c64 : t112 = t119
        ·rw [if_pos c64] at H
         have c64b0 : (t112 == t119) = true := beq_iff_eq.mpr c64
         have c64b1 : (t112 != t119) = false := bne_eq_false_iff_eq.mpr c64
         clear c64
         have H' := Aside0.mk H
         clear H
         try go_wp2
         have n0_ : Aside0 (((((w36.setCell ⟨gb121, 0, none⟩ (.int .i64 t115)).setCell ⟨gb121, 1, none⟩ (.int .i64 t116)).setCell ⟨gb121, 2, none⟩ (.int .i64 t117)).setCell ⟨gb121, 3, none⟩ (.string t118)).heap[gb101]? = some (.cells #[.int .i64 a0_0, .int .i64 a0_1, .int .i64 a0_2, .string a0_3] 23 (0, 0))) := ⟨by refine zk ?_; refine blk_far ?_ NB101_121.out _; refine zk ?_; refine blk_far ?_ NB101_121.out _; refine zk ?_; refine blk_far ?_ NB101_121.out _; refine zk ?_; refine blk_far ?_ NB101_121.out _; refine zk ?_; exact BK101.out⟩
         have n1_ : Aside0 (((((w36.setCell ⟨gb121, 0, none⟩ (.int .i64 t115)).setCell ⟨gb121, 1, none⟩ (.int .i64 t116)).setCell ⟨gb121, 2, none⟩ (.int .i64 t117)).setCell ⟨gb121, 3, none⟩ (.string t118)).heap[gb102]? = some (.cells #[.int .i64 a1_0, .int .i64 a1_1, .int .i64 a1_2, .int .i64 a1_3, .bool a1_4, .string a1_5] 25 (0, 0))) := ⟨by refine zk ?_; refine blk_far ?_ NB102_121.out _; refine zk ?_; refine blk_far ?_ NB102_121.out _; refine zk ?_; refine blk_far ?_ NB102_121.out _; refine zk ?_; refine blk_far ?_ NB102_121.out _; refine zk ?_; exact BK102.out⟩
         have n2_ : Aside0 (((((w36.setCell ⟨gb121, 0, none⟩ (.int .i64 t115)).setCell ⟨gb121, 1, none⟩ (.int .i64 t116)).setCell ⟨gb121, 2, none⟩ (.int .i64 t117)).setCell ⟨gb121, 3, none⟩ (.string t118)).heap[gb114]? = some (.cells #[.int .i64 t108, .int .i64 t109, .int .i64 t110, .string t111] 23 (0, 0))) := ⟨by refine zk ?_; refine blk_far ?_ NB114_121.out _; refine zk ?_; refine blk_far ?_ NB114_121.out _; refine zk ?_; refine blk_far ?_ NB114_121.out _; refine zk ?_; refine blk_far ?_ NB114_121.out _; refine zk ?_; exact BK114.out⟩
         have n3_ : Aside0 (((((w36.setCell ⟨gb121, 0, none⟩ (.int .i64 t115)).setCell ⟨gb121, 1, none⟩ (.int .i64 t116)).setCell ⟨gb121, 2, none⟩ (.int .i64 t117)).setCell ⟨gb121, 3, none⟩ (.string t118)).heap[gb121]? = some (.cells #[.int .i64 t115, .int .i64 t116, .int .i64 t117, .string t118] 23 (0, 0))) := ⟨by refine zk ?_; refine blk_put (cs := #[.int .i64 t115, .int .i64 t116, .int .i64 t117, .string (⟨#[]⟩ : ByteArray)]) ?_ 3 _ rfl; refine zk ?_; refine blk_put (cs := #[.int .i64 t115, .int .i64 t116, .int .i64 0, .string (⟨#[]⟩ : ByteArray)]) ?_ 2 _ rfl; refine zk ?_; refine blk_put (cs := #[.int .i64 t115, .int .i64 0, .int .i64 0, .string (⟨#[]⟩ : ByteArray)]) ?_ 1 _ rfl; refine zk ?_; refine blk_put (cs := #[.int .i64 0, .int .i64 0, .int .i64 0, .string (⟨#[]⟩ : ByteArray)]) ?_ 0 _ rfl; refine zk ?_; exact BK121.out⟩
         have n4_ : Aside0 (Below w.heap.size w ((((w36.setCell ⟨gb121, 0, none⟩ (.int .i64 t115)).setCell ⟨gb121, 1, none⟩ (.int .i64 t116)).setCell ⟨gb121, 2, none⟩ (.int .i64 t117)).setCell ⟨gb121, 3, none⟩ (.string t118))) := ⟨by repeat (first | (with_reducible first | exact HB.out | apply below_alloc | apply pw_below_drewN | apply below_drew1 | refine below_set ?_ GE101.out | refine below_set ?_ GE102.out | refine below_set ?_ GE114.out | refine below_set ?_ GE121.out) | exact HB.out)⟩
         (try clear BK101)
         (try clear BK102)
         (try clear BK114)
         (try clear BK121)
         (try clear HB)
         generalize ((((w36.setCell ⟨gb121, 0, none⟩ (.int .i64 t115)).setCell ⟨gb121, 1, none⟩ (.int .i64 t116)).setCell ⟨gb121, 2, none⟩ (.int .i64 t117)).setCell ⟨gb121, 3, none⟩ (.string t118)) = w65 at n0_ n1_ n2_ n3_ n4_ ⊢
         have BK101 := n0_
         have BK102 := n1_
         have BK114 := n2_
         have BK121 := n3_
         have HB := n4_
         clear n0_ n1_ n2_ n3_ n4_
         have n0_ := Aside0.mk (blk_drew BK101.out)
         have n1_ := Aside0.mk (blk_drew BK102.out)
         have n2_ := Aside0.mk (blk_drew BK114.out)
         have n3_ := Aside0.mk (blk_drew BK121.out)
         have n4_ := Aside0.mk (below_drew1 HB.out)
         clear BK101
         clear BK102
         clear BK114
         clear BK121
         clear HB
         have BK101 := n0_
         have BK102 := n1_
         have BK114 := n2_
         have BK121 := n3_
         have HB := n4_
         clear n0_ n1_ n2_ n3_ n4_
         refine start_ (n := 27) (S := fun w' => w'.cell? ⟨gb101, 0, none⟩ = some (.int .i64 a0_0) ∧ w'.cell? ⟨gb101, 1, none⟩ = some (.int .i64 a0_1) ∧ w'.cell? ⟨gb101, 2, none⟩ = some (.int .i64 a0_2) ∧ w'.cell? ⟨gb101, 3, none⟩ = some (.string a0_3) ∧ w'.cell? ⟨gb102, 0, none⟩ = some (.int .i64 a1_0) ∧ w'.cell? ⟨gb102, 1, none⟩ = some (.int .i64 a1_1) ∧ w'.cell? ⟨gb102, 2, none⟩ = some (.int .i64 a1_2) ∧ w'.cell? ⟨gb102, 3, none⟩ = some (.int .i64 a1_3) ∧ w'.cell? ⟨gb102, 4, none⟩ = some (.bool a1_4) ∧ w'.cell? ⟨gb102, 5, none⟩ = some (.string a1_5) ∧ w'.cell? ⟨gb114, 0, none⟩ = some (.int .i64 t108) ∧ w'.cell? ⟨gb114, 1, none⟩ = some (.int .i64 t109) ∧ w'.cell? ⟨gb114, 2, none⟩ = some (.int .i64 t110) ∧ w'.cell? ⟨gb114, 3, none⟩ = some (.string t111) ∧ w'.cell? ⟨gb121, 0, none⟩ = some (.int .i64 t115) ∧ w'.cell? ⟨gb121, 1, none⟩ = some (.int .i64 t116) ∧ w'.cell? ⟨gb121, 2, none⟩ = some (.int .i64 t117) ∧ w'.cell? ⟨gb121, 3, none⟩ = some (.string t118)) (ds := []) #[false, false, false, false, false, false, false, false, false, false, false, false, false, false, false, false, false, false, false, false, false, false, false, false, false, false, false] (by kernel_rfl) rfl rfl ⟨(blk_cell BK101.out 0).trans rfl, (blk_cell BK101.out 1).trans rfl, (blk_cell BK101.out 2).trans rfl, (blk_cell BK101.out 3).trans rfl, (blk_cell BK102.out 0).trans rfl, (blk_cell BK102.out 1).trans rfl, (blk_cell BK102.out 2).trans rfl, (blk_cell BK102.out 3).trans rfl, (blk_cell BK102.out 4).trans rfl, (blk_cell BK102.out 5).trans rfl, (blk_cell BK114.out 0).trans rfl, (blk_cell BK114.out 1).trans rfl, (blk_cell BK114.out 2).trans rfl, (blk_cell BK114.out 3).trans rfl, (blk_cell BK121.out 0).trans rfl, (blk_cell BK121.out 1).trans rfl, (blk_cell BK121.out 2).trans rfl, (blk_cell BK121.out 3).trans rfl⟩ (fun hHeld => ?_); refine with_tabW ironbarklaw05_BitsFits.tab5 ironbarklaw05_BitsFits.bits5 (fun HT_ HW_ => ?_)
         generalize w65.drew = w66 at BK101 BK102 BK114 BK121 HB hHeld ⊢
         refine take_ (i := 0) (N := some 39) (v := ?_) (a' := ?_) #[true, false, false, false, false, false, false, false, false, false, false, false, false, false, false, false, false, false, false, false, false, false, false, false, false, false, false] rfl rfl (take_ofW HT_.out HW_.out (by kernel_rfl)) (fun _ _ _ h => h) (Or.inl ⟨by rfl, ?_⟩) hHeld ?_ ?_
         rotate_left
         ·rintro w' ⟨s0, s1, s2, s3, s4, s5, s6, s7, s8, s9, s10, s11, s12, s13, s14, s15, s16, s17⟩
          go_simp
          with_reducible rfl
         rotate_left
         ·simp only [Act.put, List.setIfInBounds_toArray, List.set_cons_zero, List.set_cons_succ, i64_w, i32_w]
          rfl
         refine take_ (i := 2) (N := some 41) (v := ?_) (a' := ?_) #[true, false, true, false, false, false, false, false, false, false, false, false, false, false, false, false, false, false, false, false, false, false, false, false, false, false, false] rfl rfl (take_ofW HT_.out HW_.out (by kernel_rfl)) (fun _ _ _ h => h) (Or.inl ⟨by rfl, ?_⟩) hHeld ?_ ?_
         rotate_left
         ·rintro w' ⟨s0, s1, s2, s3, s4, s5, s6, s7, s8, s9, s10, s11, s12, s13, s14, s15, s16, s17⟩
          go_simp
          with_reducible rfl
         rotate_left
         ·simp only [Act.put, List.setIfInBounds_toArray, List.set_cons_zero, List.set_cons_succ, i64_w, i32_w]
          rfl
         refine one_ (i := 1) (N := some 40) #[true, true, true, false, false, false, false, false, false, false, false, false, false, false, false, false, false, false, false, false, false, false, false, false, false, false, false] rfl rfl (one_of HT_.out (by kernel_rfl)) (by decide) (fun K hK => ?_)
         refine goes_ Tryd.func8 (by kernel_rfl) rfl #[.agg #[.int .i64 a0_0, .int .i64 a0_1, .int .i64 a0_2, .string a0_3]] (by rfl) rfl rfl (by (try simp only [List.map_toArray, List.map_cons, List.map_nil]); first | done | rfl | (simp only [List.length_drop, List.length_take]; rfl)) ?_
         with_reducible refine (bits_Valid.calls a0_0 a0_1 a0_2 a0_3 t122 _ A41.out).mono ?_
         rintro e w67 ⟨rfl, hb⟩
         refine ⟨_, rfl, ?_⟩
         have n0_ := Aside0.mk (blk_below (zk BK101.out) hb)
         have n1_ := Aside0.mk (blk_below (zk BK102.out) hb)
         have n2_ := Aside0.mk (blk_below (zk BK114.out) hb)
         have n3_ := Aside0.mk (blk_below (zk BK121.out) hb)
         have n4_ := Aside0.mk (below_step (by repeat (first | (with_reducible first | exact HB.out | apply below_alloc | apply pw_below_drewN | apply below_drew1 | refine below_set ?_ GE101.out | refine below_set ?_ GE102.out | refine below_set ?_ GE114.out | refine below_set ?_ GE121.out) | exact HB.out)) hb)
         clear BK101
         clear BK102
         clear BK114
         clear BK121
         clear HB
         have BK101 := n0_
         have BK102 := n1_
         have BK114 := n2_
         have BK121 := n3_
         have HB := n4_
         clear n0_ n1_ n2_ n3_ n4_
         (try clear hb)
         (try clear hb2)
         (try clear hk)
         (try clear hi)
         refine hK.out _ _ ⟨(blk_cell BK101.out 0).trans rfl, (blk_cell BK101.out 1).trans rfl, (blk_cell BK101.out 2).trans rfl, (blk_cell BK101.out 3).trans rfl, (blk_cell BK102.out 0).trans rfl, (blk_cell BK102.out 1).trans rfl, (blk_cell BK102.out 2).trans rfl, (blk_cell BK102.out 3).trans rfl, (blk_cell BK102.out 4).trans rfl, (blk_cell BK102.out 5).trans rfl, (blk_cell BK114.out 0).trans rfl, (blk_cell BK114.out 1).trans rfl, (blk_cell BK114.out 2).trans rfl, (blk_cell BK114.out 3).trans rfl, (blk_cell BK121.out 0).trans rfl, (blk_cell BK121.out 1).trans rfl, (blk_cell BK121.out 2).trans rfl, (blk_cell BK121.out 3).trans rfl⟩ (fun hHeld => ?_)
         clear hK K
         refine norm_ (a' := ?_) ?_ ?_
         rotate_left
         ·show Act.put _ (some 40) _ = _
          simp only [Act.put, List.setIfInBounds_toArray, List.set_cons_zero, List.set_cons_succ, i64_w, i32_w]
          rfl
         refine one_ (i := 3) (N := some 42) #[true, true, true, true, false, false, false, false, false, false, false, false, false, false, false, false, false, false, false, false, false, false, false, false, false, false, false] rfl rfl (one_of HT_.out (by kernel_rfl)) (by decide) (fun K hK => ?_)
         refine goes_ Tryd.func9 (by kernel_rfl) rfl #[.agg #[.int .i64 a0_0, .int .i64 a0_1, .int .i64 a0_2, .string a0_3]] (by rfl) rfl rfl (by (try simp only [List.map_toArray, List.map_cons, List.map_nil]); first | done | rfl | (simp only [List.length_drop, List.length_take]; rfl)) ?_
         with_reducible refine (ironbarkref05_ValidT.calls a0_0 a0_1 a0_2 a0_3 t123 _ A42.out).mono ?_
         rintro e w68 ⟨rfl, hb⟩
         refine ⟨_, rfl, ?_⟩
         have n0_ := Aside0.mk (blk_below (zk BK101.out) hb)
         have n1_ := Aside0.mk (blk_below (zk BK102.out) hb)
         have n2_ := Aside0.mk (blk_below (zk BK114.out) hb)
         have n3_ := Aside0.mk (blk_below (zk BK121.out) hb)
         have n4_ := Aside0.mk (below_step (by repeat (first | (with_reducible first | exact HB.out | apply below_alloc | apply pw_below_drewN | apply below_drew1 | refine below_set ?_ GE101.out | refine below_set ?_ GE102.out | refine below_set ?_ GE114.out | refine below_set ?_ GE121.out) | exact HB.out)) hb)
         clear BK101
         clear BK102
         clear BK114
         clear BK121
         clear HB
         have BK101 := n0_
         have BK102 := n1_
         have BK114 := n2_
         have BK121 := n3_
         have HB := n4_
         clear n0_ n1_ n2_ n3_ n4_
         (try clear hb)
         (try clear hb2)
         (try clear hk)
         (try clear hi)
         refine hK.out _ _ ⟨(blk_cell BK101.out 0).trans rfl, (blk_cell BK101.out 1).trans rfl, (blk_cell BK101.out 2).trans rfl, (blk_cell BK101.out 3).trans rfl, (blk_cell BK102.out 0).trans rfl, (blk_cell BK102.out 1).trans rfl, (blk_cell BK102.out 2).trans rfl, (blk_cell BK102.out 3).trans rfl, (blk_cell BK102.out 4).trans rfl, (blk_cell BK102.out 5).trans rfl, (blk_cell BK114.out 0).trans rfl, (blk_cell BK114.out 1).trans rfl, (blk_cell BK114.out 2).trans rfl, (blk_cell BK114.out 3).trans rfl, (blk_cell BK121.out 0).trans rfl, (blk_cell BK121.out 1).trans rfl, (blk_cell BK121.out 2).trans rfl, (blk_cell BK121.out 3).trans rfl⟩ (fun hHeld => ?_)
         clear hK K
         refine norm_ (a' := ?_) ?_ ?_
         rotate_left
         ·show Act.put _ (some 42) _ = _
          simp only [Act.put, List.setIfInBounds_toArray, List.set_cons_zero, List.set_cons_succ, i64_w, i32_w]
          rfl
         refine pure_ (i := 4) (N := some 43) (v := ?_) (a' := ?_) #[true, true, true, true, true, false, false, false, false, false, false, false, false, false, false, false, false, false, false, false, false, false, false, false, false, false, false] rfl rfl (any_of HT_.out (by kernel_rfl)) (fun _ _ _ h => h) (Or.inl ⟨by rfl, ?_⟩) ?_ ?_
         rotate_left
         ·intro w'
          go_simp
          with_reducible rfl
         rotate_left
         ·simp only [Act.put, List.setIfInBounds_toArray, List.set_cons_zero, List.set_cons_succ, i64_w, i32_w]
          rfl
         refine pure_ (i := 5) (N := some 44) (v := ?_) (a' := ?_) #[true, true, true, true, true, true, false, false, false, false, false, false, false, false, false, false, false, false, false, false, false, false, false, false, false, false, false] rfl rfl (any_of HT_.out (by kernel_rfl)) (fun _ _ _ h => h) (Or.inl ⟨by rfl, ?_⟩) ?_ ?_
         rotate_left
         ·intro w'
          go_simp
          with_reducible rfl
         rotate_left
         ·simp only [Act.put, List.setIfInBounds_toArray, List.set_cons_zero, List.set_cons_succ, i64_w, i32_w]
          rfl
         refine take_ (i := 6) (N := some 45) (v := ?_) (a' := ?_) #[true, true, true, true, true, true, true, false, false, false, false, false, false, false, false, false, false, false, false, false, false, false, false, false, false, false, false] rfl rfl (take_ofW HT_.out HW_.out (by kernel_rfl)) (fun _ _ _ h => h) (Or.inl ⟨by rfl, ?_⟩) hHeld ?_ ?_
         rotate_left
         ·rintro w' ⟨s0, s1, s2, s3, s4, s5, s6, s7, s8, s9, s10, s11, s12, s13, s14, s15, s16, s17⟩
          go_simp
          with_reducible rfl
         rotate_left
         ·simp only [Act.put, List.setIfInBounds_toArray, List.set_cons_zero, List.set_cons_succ, i64_w, i32_w]
          rfl
         refine take_ (i := 8) (N := some 47) (v := ?_) (a' := ?_) #[true, true, true, true, true, true, true, false, true, false, false, false, false, false, false, false, false, false, false, false, false, false, false, false, false, false, false] rfl rfl (take_ofW HT_.out HW_.out (by kernel_rfl)) (fun _ _ _ h => h) (Or.inl ⟨by rfl, ?_⟩) hHeld ?_ ?_
         rotate_left
         ·rintro w' ⟨s0, s1, s2, s3, s4, s5, s6, s7, s8, s9, s10, s11, s12, s13, s14, s15, s16, s17⟩
          go_simp
          with_reducible rfl
         rotate_left
         ·simp only [Act.put, List.setIfInBounds_toArray, List.set_cons_zero, List.set_cons_succ, i64_w, i32_w]
          rfl
         refine one_ (i := 7) (N := some 46) #[true, true, true, true, true, true, true, true, true, false, false, false, false, false, false, false, false, false, false, false, false, false, false, false, false, false, false] rfl rfl (one_of HT_.out (by kernel_rfl)) (by decide) (fun K hK => ?_)
         refine goes_ Tryd.func10 (by kernel_rfl) rfl #[.agg #[.int .i64 a1_0, .int .i64 a1_1, .int .i64 a1_2, .int .i64 a1_3, .bool a1_4, .string a1_5]] (by rfl) rfl rfl (by (try simp only [List.map_toArray, List.map_cons, List.map_nil]); first | done | rfl | (simp only [List.length_drop, List.length_take]; rfl)) ?_
         with_reducible refine (bits_ValidType.calls a1_0 a1_1 a1_2 a1_3 a1_4 a1_5 t124 _ A48.out).mono ?_
         rintro e w69 ⟨rfl, hb⟩
         refine ⟨_, rfl, ?_⟩
         have n0_ := Aside0.mk (blk_below (zk BK101.out) hb)
         have n1_ := Aside0.mk (blk_below (zk BK102.out) hb)
         have n2_ := Aside0.mk (blk_below (zk BK114.out) hb)
         have n3_ := Aside0.mk (blk_below (zk BK121.out) hb)
         have n4_ := Aside0.mk (below_step (by repeat (first | (with_reducible first | exact HB.out | apply below_alloc | apply pw_below_drewN | apply below_drew1 | refine below_set ?_ GE101.out | refine below_set ?_ GE102.out | refine below_set ?_ GE114.out | refine below_set ?_ GE121.out) | exact HB.out)) hb)
         clear BK101
         clear BK102
         clear BK114
         clear BK121
         clear HB
         have BK101 := n0_
         have BK102 := n1_
         have BK114 := n2_
         have BK121 := n3_
         have HB := n4_
         clear n0_ n1_ n2_ n3_ n4_
         (try clear hb)
         (try clear hb2)
         (try clear hk)
         (try clear hi)
         refine hK.out _ _ ⟨(blk_cell BK101.out 0).trans rfl, (blk_cell BK101.out 1).trans rfl, (blk_cell BK101.out 2).trans rfl, (blk_cell BK101.out 3).trans rfl, (blk_cell BK102.out 0).trans rfl, (blk_cell BK102.out 1).trans rfl, (blk_cell BK102.out 2).trans rfl, (blk_cell BK102.out 3).trans rfl, (blk_cell BK102.out 4).trans rfl, (blk_cell BK102.out 5).trans rfl, (blk_cell BK114.out 0).trans rfl, (blk_cell BK114.out 1).trans rfl, (blk_cell BK114.out 2).trans rfl, (blk_cell BK114.out 3).trans rfl, (blk_cell BK121.out 0).trans rfl, (blk_cell BK121.out 1).trans rfl, (blk_cell BK121.out 2).trans rfl, (blk_cell BK121.out 3).trans rfl⟩ (fun hHeld => ?_)
         clear hK K
         refine norm_ (a' := ?_) ?_ ?_
         rotate_left
         ·show Act.put _ (some 46) _ = _
          simp only [Act.put, List.setIfInBounds_toArray, List.set_cons_zero, List.set_cons_succ, i64_w, i32_w]
          rfl
         refine one_ (i := 9) (N := some 48) #[true, true, true, true, true, true, true, true, true, true, false, false, false, false, false, false, false, false, false, false, false, false, false, false, false, false, false] rfl rfl (one_of HT_.out (by kernel_rfl)) (by decide) (fun K hK => ?_)
         refine goes_ Tryd.func11 (by kernel_rfl) rfl #[.agg #[.int .i64 a1_0, .int .i64 a1_1, .int .i64 a1_2, .int .i64 a1_3, .bool a1_4, .string a1_5]] (by rfl) rfl rfl (by (try simp only [List.map_toArray, List.map_cons, List.map_nil]); first | done | rfl | (simp only [List.length_drop, List.length_take]; rfl)) ?_
         with_reducible refine (ironbarkref05_ValidType.calls a1_0 a1_1 a1_2 a1_3 a1_4 a1_5 t125 _ A49.out).mono ?_
         rintro e w70 ⟨rfl, hb⟩
         refine ⟨_, rfl, ?_⟩
         have n0_ := Aside0.mk (blk_below (zk BK101.out) hb)
         have n1_ := Aside0.mk (blk_below (zk BK102.out) hb)
         have n2_ := Aside0.mk (blk_below (zk BK114.out) hb)
         have n3_ := Aside0.mk (blk_below (zk BK121.out) hb)
         have n4_ := Aside0.mk (below_step (by repeat (first | (with_reducible first | exact HB.out | apply below_alloc | apply pw_below_drewN | apply below_drew1 | refine below_set ?_ GE101.out | refine below_set ?_ GE102.out | refine below_set ?_ GE114.out | refine below_set ?_ GE121.out) | exact HB.out)) hb)
         clear BK101
         clear BK102
         clear BK114
         clear BK121
         clear HB
         have BK101 := n0_
         have BK102 := n1_
         have BK114 := n2_
         have BK121 := n3_
         have HB := n4_
         clear n0_ n1_ n2_ n3_ n4_
         (try clear hb)
         (try clear hb2)
         (try clear hk)
         (try clear hi)
         refine hK.out _ _ ⟨(blk_cell BK101.out 0).trans rfl, (blk_cell BK101.out 1).trans rfl, (blk_cell BK101.out 2).trans rfl, (blk_cell BK101.out 3).trans rfl, (blk_cell BK102.out 0).trans rfl, (blk_cell BK102.out 1).trans rfl, (blk_cell BK102.out 2).trans rfl, (blk_cell BK102.out 3).trans rfl, (blk_cell BK102.out 4).trans rfl, (blk_cell BK102.out 5).trans rfl, (blk_cell BK114.out 0).trans rfl, (blk_cell BK114.out 1).trans rfl, (blk_cell BK114.out 2).trans rfl, (blk_cell BK114.out 3).trans rfl, (blk_cell BK121.out 0).trans rfl, (blk_cell BK121.out 1).trans rfl, (blk_cell BK121.out 2).trans rfl, (blk_cell BK121.out 3).trans rfl⟩ (fun hHeld => ?_)
         clear hK K
         refine norm_ (a' := ?_) ?_ ?_
         rotate_left
         ·show Act.put _ (some 48) _ = _
          simp only [Act.put, List.setIfInBounds_toArray, List.set_cons_zero, List.set_cons_succ, i64_w, i32_w]
          rfl
         refine pure_ (i := 10) (N := some 49) (v := ?_) (a' := ?_) #[true, true, true, true, true, true, true, true, true, true, true, false, false, false, false, false, false, false, false, false, false, false, false, false, false, false, false] rfl rfl (any_of HT_.out (by kernel_rfl)) (fun _ _ _ h => h) (Or.inl ⟨by rfl, ?_⟩) ?_ ?_
         rotate_left
         ·intro w'
          go_simp
          with_reducible rfl
         rotate_left
         ·simp only [Act.put, List.setIfInBounds_toArray, List.set_cons_zero, List.set_cons_succ, i64_w, i32_w]
          rfl
         refine pure_ (i := 11) (N := some 50) (v := ?_) (a' := ?_) #[true, true, true, true, true, true, true, true, true, true, true, true, false, false, false, false, false, false, false, false, false, false, false, false, false, false, false] rfl rfl (any_of HT_.out (by kernel_rfl)) (fun _ _ _ h => h) (Or.inl ⟨by rfl, ?_⟩) ?_ ?_
         rotate_left
         ·intro w'
          go_simp
          with_reducible rfl
         rotate_left
         ·simp only [Act.put, List.setIfInBounds_toArray, List.set_cons_zero, List.set_cons_succ, i64_w, i32_w]
          rfl
         refine pure_ (i := 12) (N := some 51) (v := ?_) (a' := ?_) #[true, true, true, true, true, true, true, true, true, true, true, true, true, false, false, false, false, false, false, false, false, false, false, false, false, false, false] rfl rfl (any_of HT_.out (by kernel_rfl)) (fun _ _ _ h => h) (Or.inl ⟨by rfl, ?_⟩) ?_ ?_
         rotate_left
         ·intro w'
          go_simp
          with_reducible rfl
         rotate_left
         ·simp only [Act.put, List.setIfInBounds_toArray, List.set_cons_zero, List.set_cons_succ, i64_w, i32_w]
          rfl
         refine take_ (i := 13) (N := some 52) (v := ?_) (a' := ?_) #[true, true, true, true, true, true, true, true, true, true, true, true, true, true, false, false, false, false, false, false, false, false, false, false, false, false, false] rfl rfl (take_ofW HT_.out HW_.out (by kernel_rfl)) (fun _ _ _ h => h) (Or.inl ⟨by rfl, ?_⟩) hHeld ?_ ?_
         rotate_left
         ·rintro w' ⟨s0, s1, s2, s3, s4, s5, s6, s7, s8, s9, s10, s11, s12, s13, s14, s15, s16, s17⟩
          go_simp
          with_reducible rfl
         rotate_left
         ·simp only [Act.put, List.setIfInBounds_toArray, List.set_cons_zero, List.set_cons_succ, i64_w, i32_w]
          rfl
         refine take_ (i := 14) (N := some 53) (v := ?_) (a' := ?_) #[true, true, true, true, true, true, true, true, true, true, true, true, true, true, true, false, false, false, false, false, false, false, false, false, false, false, false] rfl rfl (take_ofW HT_.out HW_.out (by kernel_rfl)) (fun _ _ _ h => h) (Or.inl ⟨by rfl, ?_⟩) hHeld ?_ ?_
         rotate_left
         ·rintro w' ⟨s0, s1, s2, s3, s4, s5, s6, s7, s8, s9, s10, s11, s12, s13, s14, s15, s16, s17⟩
          go_simp
          with_reducible rfl
         rotate_left
         ·simp only [Act.put, List.setIfInBounds_toArray, List.set_cons_zero, List.set_cons_succ, i64_w, i32_w]
          rfl
         refine pure_ (i := 15) (N := some 54) (v := ?_) (a' := ?_) #[true, true, true, true, true, true, true, true, true, true, true, true, true, true, true, true, false, false, false, false, false, false, false, false, false, false, false] rfl rfl (any_of HT_.out (by kernel_rfl)) (fun _ _ _ h => h) (Or.inl ⟨by rfl, ?_⟩) ?_ ?_
         rotate_left
         ·intro w'
          go_simp
          with_reducible rfl
         rotate_left
         ·simp only [Act.put, List.setIfInBounds_toArray, List.set_cons_zero, List.set_cons_succ, i64_w, i32_w]
          rfl
         refine pure_ (i := 16) (N := some 55) (v := ?_) (a' := ?_) #[true, true, true, true, true, true, true, true, true, true, true, true, true, true, true, true, true, false, false, false, false, false, false, false, false, false, false] rfl rfl (any_of HT_.out (by kernel_rfl)) (fun _ _ _ h => h) (Or.inl ⟨by rfl, ?_⟩) ?_ ?_
         rotate_left
         ·intro w'
          go_simp
          with_reducible rfl
         rotate_left
         ·simp only [Act.put, List.setIfInBounds_toArray, List.set_cons_zero, List.set_cons_succ, i64_w, i32_w]
          rfl
         refine pure_ (i := 17) (N := some 56) (v := ?_) (a' := ?_) #[true, true, true, true, true, true, true, true, true, true, true, true, true, true, true, true, true, true, false, false, false, false, false, false, false, false, false] rfl rfl (any_of HT_.out (by kernel_rfl)) (fun _ _ _ h => h) (Or.inl ⟨by rfl, ?_⟩) ?_ ?_
         rotate_left
         ·intro w'
          go_simp
          with_reducible rfl
         rotate_left
         ·simp only [Act.put, List.setIfInBounds_toArray, List.set_cons_zero, List.set_cons_succ, i64_w, i32_w]
          rfl
         refine pure_ (i := 18) (N := some 57) (v := ?_) (a' := ?_) #[true, true, true, true, true, true, true, true, true, true, true, true, true, true, true, true, true, true, true, false, false, false, false, false, false, false, false] rfl rfl (any_of HT_.out (by kernel_rfl)) (fun _ _ _ h => h) (Or.inl ⟨by rfl, ?_⟩) ?_ ?_
         rotate_left
         ·intro w'
          go_simp
          with_reducible rfl
         rotate_left
         ·simp only [Act.put, List.setIfInBounds_toArray, List.set_cons_zero, List.set_cons_succ, i64_w, i32_w]
          rfl
         refine pure_ (i := 19) (N := some 58) (v := ?_) (a' := ?_) #[true, true, true, true, true, true, true, true, true, true, true, true, true, true, true, true, true, true, true, true, false, false, false, false, false, false, false] rfl rfl (any_of HT_.out (by kernel_rfl)) (fun _ _ _ h => h) (Or.inl ⟨by rfl, ?_⟩) ?_ ?_
         rotate_left
         ·intro w'
          go_simp
          with_reducible rfl
         rotate_left
         ·simp only [Act.put, List.setIfInBounds_toArray, List.set_cons_zero, List.set_cons_succ, i64_w, i32_w]
          rfl
         refine pure_ (i := 20) (N := some 59) (v := ?_) (a' := ?_) #[true, true, true, true, true, true, true, true, true, true, true, true, true, true, true, true, true, true, true, true, true, false, false, false, false, false, false] rfl rfl (any_of HT_.out (by kernel_rfl)) (fun _ _ _ h => h) (Or.inl ⟨by rfl, ?_⟩) ?_ ?_
         rotate_left
         ·intro w'
          go_simp
          with_reducible rfl
         rotate_left
         ·simp only [Act.put, List.setIfInBounds_toArray, List.set_cons_zero, List.set_cons_succ, i64_w, i32_w]
          rfl
         refine pure_ (i := 21) (N := some 60) (v := ?_) (a' := ?_) #[true, true, true, true, true, true, true, true, true, true, true, true, true, true, true, true, true, true, true, true, true, true, false, false, false, false, false] rfl rfl (any_of HT_.out (by kernel_rfl)) (fun _ _ _ h => h) (Or.inl ⟨by rfl, ?_⟩) ?_ ?_
         rotate_left
         ·intro w'
          go_simp
          with_reducible rfl
         rotate_left
         ·simp only [Act.put, List.setIfInBounds_toArray, List.set_cons_zero, List.set_cons_succ, i64_w, i32_w]
          rfl
         refine pure_ (i := 22) (N := some 61) (v := ?_) (a' := ?_) #[true, true, true, true, true, true, true, true, true, true, true, true, true, true, true, true, true, true, true, true, true, true, true, false, false, false, false] rfl rfl (any_of HT_.out (by kernel_rfl)) (fun _ _ _ h => h) (Or.inl ⟨by rfl, ?_⟩) ?_ ?_
         rotate_left
         ·intro w'
          go_simp
          with_reducible rfl
         rotate_left
         ·simp only [Act.put, List.setIfInBounds_toArray, List.set_cons_zero, List.set_cons_succ, i64_w, i32_w]
          rfl
         refine pure_ (i := 23) (N := some 62) (v := ?_) (a' := ?_) #[true, true, true, true, true, true, true, true, true, true, true, true, true, true, true, true, true, true, true, true, true, true, true, true, false, false, false] rfl rfl (any_of HT_.out (by kernel_rfl)) (fun _ _ _ h => h) (Or.inl ⟨by rfl, ?_⟩) ?_ ?_
         rotate_left
         ·intro w'
          go_simp
          with_reducible rfl
         rotate_left
         ·simp only [Act.put, List.setIfInBounds_toArray, List.set_cons_zero, List.set_cons_succ, i64_w, i32_w]
          rfl
         refine pure_ (i := 24) (N := some 63) (v := ?_) (a' := ?_) #[true, true, true, true, true, true, true, true, true, true, true, true, true, true, true, true, true, true, true, true, true, true, true, true, true, false, false] rfl rfl (any_of HT_.out (by kernel_rfl)) (fun _ _ _ h => h) (Or.inl ⟨by rfl, ?_⟩) ?_ ?_
         rotate_left
         ·intro w'
          go_simp
          with_reducible rfl
         rotate_left
         ·simp only [Act.put, List.setIfInBounds_toArray, List.set_cons_zero, List.set_cons_succ, i64_w, i32_w]
          rfl
         refine pure_ (i := 25) (N := some 64) (v := ?_) (a' := ?_) #[true, true, true, true, true, true, true, true, true, true, true, true, true, true, true, true, true, true, true, true, true, true, true, true, true, true, false] rfl rfl (any_of HT_.out (by kernel_rfl)) (fun _ _ _ h => h) (Or.inl ⟨by rfl, ?_⟩) ?_ ?_
         rotate_left
         ·intro w'
          go_simp
          with_reducible rfl
         rotate_left
         ·simp only [Act.put, List.setIfInBounds_toArray, List.set_cons_zero, List.set_cons_succ, i64_w, i32_w]
          rfl
         refine pure_ (i := 26) (N := some 65) (v := ?_) (a' := ?_) #[true, true, true, true, true, true, true, true, true, true, true, true, true, true, true, true, true, true, true, true, true, true, true, true, true, true, true] rfl rfl (any_of HT_.out (by kernel_rfl)) (fun _ _ _ h => h) (Or.inl ⟨by rfl, ?_⟩) ?_ ?_
         rotate_left
         ·intro w'
          go_simp
          with_reducible rfl
         rotate_left
         ·simp only [Act.put, List.setIfInBounds_toArray, List.set_cons_zero, List.set_cons_succ, i64_w, i32_w]
          rfl
         refine done_ (done_of HT_.out (by kernel_rfl)) ?_
         try go_wp2
         go_meet
         case rel => exact ⟨_, ((t113 != t120)), (by first | rfl | (simp; done) | (generalize ByteArray.toList _ = l_; cases l_ <;> rfl) | (simp [*]; done)), H', ⟨by have := HJ2.out; first | omega | exact Nat.le_refl _⟩, ⟨zk BK101.out⟩, ⟨zk BK102.out⟩, ⟨zk BK114.out⟩, ⟨zk BK121.out⟩, ⟨by repeat (first | (with_reducible first | exact HB.out | apply below_alloc | apply pw_below_drewN | apply below_drew1 | refine below_set ?_ GE101.out | refine below_set ?_ GE102.out | refine below_set ?_ GE114.out | refine below_set ?_ GE121.out) | exact HB.out)⟩⟩
        ·rw [if_neg c64] at H
         have c64b0 : (t112 == t119) = false := beq_eq_false_iff_ne.mpr c64
         have c64b1 : (t112 != t119) = true := bne_iff_ne.mpr c64
         exact absurd (H.trans (congrArg some hrt_.out)) (ironbarklaw05_BitsFits.j1_no _ _ _ _ _ _ _ _ _ _ _ _ _ _ _ _ )
    case rest => as_aux_lemma =>
     clear HC24
     try clear c1
     try clear p2
     try clear c6
     try clear c8
     try clear c9
     try clear c10
     try clear c11
     try clear c64
     try clear c64b0
     try clear c64b1
     obtain ⟨kq, x65_23, rfl, HA, HJ23, BK101, BK102, BK114, BK121, HB⟩ := hcut
     cases kq with
     | zero => exact absurd HA.out (by simp [ironbarklaw05_BitsFits.j1])
     | succ kj23 =>
      have H := HA.out
      clear HA
      simp only [ironbarklaw05_BitsFits.j1] at H
      by_cases c77 : x65_23 = true
      ·subst c77
       have H1 : (some false) = some r := by rw [if_pos rfl] at H; exact H
       clear H
       have H := H1
       clear H1
       exact absurd ((Option.some.inj H).trans hrt_.out) (by decide)
      ·replace c77 := Bool.eq_false_iff.mpr c77
       subst c77
       have H1 : (if t113 = 0 then ((bits_Fit.f t108 t109 t110 t111 a1_0 a1_1 a1_2 a1_3 a1_4 a1_5).bind fun bt126 => (if (!(bt126.1 == t108) || (!(bt126.2.1 == t109) || (!(bt126.2.2.1 == t110) || (!(bt126.2.2.2.1.toList == t111.toList))))) = true then (some false) else (if bt126.2.2.2.2.1 = 0 then (if bt126.2.2.2.2.2 = 0 then (ironbarklaw05_BitsFits.j2 kj23 a0_0 a0_1 a0_2 a0_3) else (some false)) else (some false)))) else (ironbarklaw05_BitsFits.j2 kj23 a0_0 a0_1 a0_2 a0_3)) = some r := by rw [if_neg (show ¬ (false = true) by decide)] at H; exact H
       clear H
       have H := H1
       clear H1
       have HC78 := Aside0.mk H
       clear H
       go_upto_if 67 with (fail)
       go_cut [] (fun wc => ∃ (kq : Nat), Aside0 (ironbarklaw05_BitsFits.j2 kq a0_0 a0_1 a0_2 a0_3 = some r) ∧ Aside0 (kq ≤ kj23) ∧ Aside0 (wc.heap[gb101]? = some (.cells #[.int .i64 a0_0, .int .i64 a0_1, .int .i64 a0_2, .string a0_3] 23 (0, 0))) ∧ Aside0 (wc.heap[gb102]? = some (.cells #[.int .i64 a1_0, .int .i64 a1_1, .int .i64 a1_2, .int .i64 a1_3, .bool a1_4, .string a1_5] 25 (0, 0))) ∧ Aside0 (wc.heap[gb114]? = some (.cells #[.int .i64 t108, .int .i64 t109, .int .i64 t110, .string t111] 23 (0, 0))) ∧ Aside0 (wc.heap[gb121]? = some (.cells #[.int .i64 t115, .int .i64 t116, .int .i64 t117, .string t118] 23 (0, 0))) ∧ Aside0 (Below w.heap.size w wc))
       case first =>
        have H := HC78.out
        clear HC78
        by_cases c79 : t113 = 0
        ·rw [if_pos c79] at H
         have c79b0 : (t113 == 0) = true := beq_iff_eq.mpr c79
         have c79b1 : (t113 != 0) = false := bne_eq_false_iff_eq.mpr c79
         clear c79
         (first | rw [c79b0] | (simp only [i64_w, i32_w]; rw [c79b0]) | skip)
         replace H := Option.bind_eq_some_iff.mp H
         obtain ⟨⟨t126, t127, t128, t129, t130, t131⟩, A800, H⟩ := H
         replace H : (if (!(t126 == t108) || (!(t127 == t109) || (!(t128 == t110) || (!(t129.toList == t111.toList))))) = true then (some false) else (if t130 = 0 then (if t131 = 0 then (ironbarklaw05_BitsFits.j2 kj23 a0_0 a0_1 a0_2 a0_3) else (some false)) else (some false))) = some r := H
         have A80 := Aside0.mk A800
         clear A800
         by_cases c81 : (!(t126 == t108) || (!(t127 == t109) || (!(t128 == t110) || (!(t129.toList == t111.toList))))) = true
         ·rw [if_pos c81] at H
          have c81b0 : (!(t126 == t108) || (!(t127 == t109) || (!(t128 == t110) || (!(t129.toList == t111.toList))))) = true := c81
          clear c81
          exact absurd ((Option.some.inj H).trans hrt_.out) (by decide)
         ·rw [if_neg c81] at H
          have c81b0 : (!(t126 == t108) || (!(t127 == t109) || (!(t128 == t110) || (!(t129.toList == t111.toList))))) = false := by simpa using c81
          clear c81
          by_cases c82 : t130 = 0
          ·rw [if_pos c82] at H
           have c82b0 : (t130 == 0) = true := beq_iff_eq.mpr c82
           have c82b1 : (t130 != 0) = false := bne_eq_false_iff_eq.mpr c82
           clear c82
           by_cases c83 : t131 = 0
           ·rw [if_pos c83] at H
            have c83b0 : (t131 == 0) = true := beq_iff_eq.mpr c83
            have c83b1 : (t131 != 0) = false := bne_eq_false_iff_eq.mpr c83
            clear c83
            have H' := Aside0.mk H
            clear H
            have hnb84 := NB114_101.out
            have hnc84 := NB101_114.out
            have hnb85 := NB114_102.out
            have hnc85 := NB102_114.out
            have hnb86 := NB114_121.out
            have hnc86 := NB121_114.out
            obtain ⟨hcz87_0, hcz87_1, hcz87_2, hcz87_3⟩ := blk_quad BK114.out
            obtain ⟨hfz87_0, hfz87_1, hfz87_2, hfz87_3⟩ := blk_quad_free BK114.out
            have hnb88 := NB102_101.out
            have hnc88 := NB101_102.out
            have hnb89 := NB102_121.out
            have hnc89 := NB121_102.out
            obtain ⟨hcz90_0, hcz90_1, hcz90_2, hcz90_3, hcz90_4, hcz90_5⟩ := blk_six BK102.out
            obtain ⟨hfz90_0, hfz90_1, hfz90_2, hfz90_3, hfz90_4, hfz90_5⟩ := blk_six_free BK102.out
            go_wp2_with (first | ((with_reducible refine gate_callee (f := 6) rfl ?_); refine goesL_ (some 71) rfl rfl Tryd.func6 (by kernel_rfl) rfl #[.agg #[.int .i64 t108, .int .i64 t109, .int .i64 t110, .string t111], .agg #[.int .i64 a1_0, .int .i64 a1_1, .int .i64 a1_2, .int .i64 a1_3, .bool a1_4, .string a1_5]] rfl (by (try simp only [List.map_toArray, List.map_cons, List.map_nil]); first | done | rfl | (simp only [List.length_drop, List.length_take]; rfl)) ?_; (with_reducible refine (bits_Fit.calls t108 t109 t110 t111 a1_0 a1_1 a1_2 a1_3 a1_4 a1_5 t126 t127 t128 t129 t130 t131 _ A80.out).mono ?_); rintro e w91 ⟨rfl, hb⟩; refine ⟨_, rfl, ?_⟩; have n0_ := Aside0.mk (blk_below (zk BK101.out) hb); have n1_ := Aside0.mk (blk_below (zk BK102.out) hb); have n2_ := Aside0.mk (blk_below (zk BK114.out) hb); have n3_ := Aside0.mk (blk_below (zk BK121.out) hb); have n4_ := Aside0.mk (below_step (by repeat (first | (with_reducible first | exact HB.out | apply below_alloc | apply pw_below_drewN | apply below_drew1 | refine below_set ?_ GE101.out | refine below_set ?_ GE102.out | refine below_set ?_ GE114.out | refine below_set ?_ GE121.out) | exact HB.out)) hb); clear BK101; clear BK102; clear BK114; clear BK121; clear HB; have BK101 := n0_; have BK102 := n1_; have BK114 := n2_; have BK121 := n3_; have HB := n4_; clear n0_ n1_ n2_ n3_ n4_; (try clear hb); (try clear hb2); (try clear hk); (try clear hi)) | ((with_reducible refine gate_dst (N := 11) rfl ?_); (try (refine gate_guard (by rfl) ?_; dsimp only)); refine box_event ?hg (N := 11) ?hd (cs := #[.int .i64 0, .int .i64 0, .int .i64 0, .string (⟨#[]⟩ : ByteArray)]) (t := 23) ?hr ?_; (case hd => rfl); (case hg => rfl); (case hr => first | (go_simp; done) | (go_simp; rfl)); intro gb132 hg w92 hbox hb; have n0_ := Aside0.mk (blk_below (zk BK101.out) hb); have n1_ := Aside0.mk (blk_below (zk BK102.out) hb); have n2_ := Aside0.mk (blk_below (zk BK114.out) hb); have n3_ := Aside0.mk (blk_below (zk BK121.out) hb); have n4_ := Aside0.mk (below_step (by repeat (first | (with_reducible first | exact HB.out | apply below_alloc | apply pw_below_drewN | apply below_drew1 | refine below_set ?_ GE101.out | refine below_set ?_ GE102.out | refine below_set ?_ GE114.out | refine below_set ?_ GE121.out) | exact HB.out)) hb); have n5_ := Aside0.mk (hbox); have n6_ := Aside0.mk ((by rw [hg]; exact (below_size (by repeat (first | (with_reducible first | exact HB.out | apply below_alloc | apply pw_below_drewN | apply below_drew1 | refine below_set ?_ GE101.out | refine below_set ?_ GE102.out | refine below_set ?_ GE114.out | refine below_set ?_ GE121.out) | exact HB.out))) : w.heap.size ≤ gb132)); have n7_ := n6_; have n8_ := Aside0.mk ((by rw [hg]; exact Nat.ne_of_lt (blk_lt (zk BK101.out)) : gb101 ≠ gb132)); have n9_ := Aside0.mk ((by rw [hg]; exact Nat.ne_of_gt (blk_lt (zk BK101.out)) : gb132 ≠ gb101)); have n10_ := Aside0.mk ((by rw [hg]; exact Nat.ne_of_lt (blk_lt (zk BK102.out)) : gb102 ≠ gb132)); have n11_ := Aside0.mk ((by rw [hg]; exact Nat.ne_of_gt (blk_lt (zk BK102.out)) : gb132 ≠ gb102)); have n12_ := Aside0.mk ((by rw [hg]; exact Nat.ne_of_lt (blk_lt (zk BK114.out)) : gb114 ≠ gb132)); have n13_ := Aside0.mk ((by rw [hg]; exact Nat.ne_of_gt (blk_lt (zk BK114.out)) : gb132 ≠ gb114)); have n14_ := Aside0.mk ((by rw [hg]; exact Nat.ne_of_lt (blk_lt (zk BK121.out)) : gb121 ≠ gb132)); have n15_ := Aside0.mk ((by rw [hg]; exact Nat.ne_of_gt (blk_lt (zk BK121.out)) : gb132 ≠ gb121)); clear BK101; clear BK102; clear BK114; clear BK121; clear HB; have BK101 := n0_; have BK102 := n1_; have BK114 := n2_; have BK121 := n3_; have HB := n4_; have BK132 := n5_; have GW132 := n6_; have GE132 := n7_; have NB101_132 := n8_; have NB132_101 := n9_; have NB102_132 := n10_; have NB132_102 := n11_; have NB114_132 := n12_; have NB132_114 := n13_; have NB121_132 := n14_; have NB132_121 := n15_; clear n0_ n1_ n2_ n3_ n4_ n5_ n6_ n7_ n8_ n9_ n10_ n11_ n12_ n13_ n14_ n15_; clear hb hbox hg; have hnb93 := NB132_101.out; have hnc93 := NB101_132.out; have hnb94 := NB132_102.out; have hnc94 := NB102_132.out; have hnb95 := NB132_114.out; have hnc95 := NB114_132.out; have hnb96 := NB132_121.out; have hnc96 := NB121_132.out; obtain ⟨hcz97_0, hcz97_1, hcz97_2, hcz97_3⟩ := blk_quad BK132.out; obtain ⟨hfz97_0, hfz97_1, hfz97_2, hfz97_3⟩ := blk_quad_free BK132.out; obtain ⟨hcz98_0, hcz98_1, hcz98_2, hcz98_3⟩ := blk_quad BK114.out; obtain ⟨hfz98_0, hfz98_1, hfz98_2, hfz98_3⟩ := blk_quad_free BK114.out))
            go_meet
            case rel => exact ⟨_, H', ⟨by have := HJ2.out; have := HJ23.out; first | omega | exact Nat.le_refl _⟩, ⟨by refine zk ?_; refine blk_far ?_ NB101_132.out _; refine zk ?_; refine blk_far ?_ NB101_132.out _; refine zk ?_; refine blk_far ?_ NB101_132.out _; refine zk ?_; refine blk_far ?_ NB101_132.out _; refine zk ?_; exact BK101.out⟩, ⟨by refine zk ?_; refine blk_far ?_ NB102_132.out _; refine zk ?_; refine blk_far ?_ NB102_132.out _; refine zk ?_; refine blk_far ?_ NB102_132.out _; refine zk ?_; refine blk_far ?_ NB102_132.out _; refine zk ?_; exact BK102.out⟩, ⟨by refine zk ?_; refine blk_far ?_ NB114_132.out _; refine zk ?_; refine blk_far ?_ NB114_132.out _; refine zk ?_; refine blk_far ?_ NB114_132.out _; refine zk ?_; refine blk_far ?_ NB114_132.out _; refine zk ?_; exact BK114.out⟩, ⟨by refine zk ?_; refine blk_far ?_ NB121_132.out _; refine zk ?_; refine blk_far ?_ NB121_132.out _; refine zk ?_; refine blk_far ?_ NB121_132.out _; refine zk ?_; refine blk_far ?_ NB121_132.out _; refine zk ?_; exact BK121.out⟩, ⟨by repeat (first | (with_reducible first | exact HB.out | apply below_alloc | apply pw_below_drewN | apply below_drew1 | refine below_set ?_ GE101.out | refine below_set ?_ GE102.out | refine below_set ?_ GE114.out | refine below_set ?_ GE121.out | refine below_set ?_ GE132.out) | exact HB.out)⟩⟩
           ·rw [if_neg c83] at H
            have c83b0 : (t131 == 0) = false := beq_eq_false_iff_ne.mpr c83
            have c83b1 : (t131 != 0) = true := bne_iff_ne.mpr c83
            exact absurd ((Option.some.inj H).trans hrt_.out) (by decide)
          ·rw [if_neg c82] at H
           have c82b0 : (t130 == 0) = false := beq_eq_false_iff_ne.mpr c82
           have c82b1 : (t130 != 0) = true := bne_iff_ne.mpr c82
           exact absurd ((Option.some.inj H).trans hrt_.out) (by decide)
        ·rw [if_neg c79] at H
         have c79b0 : (t113 == 0) = false := beq_eq_false_iff_ne.mpr c79
         have c79b1 : (t113 != 0) = true := bne_iff_ne.mpr c79
         (first | rw [c79b0] | (simp only [i64_w, i32_w]; rw [c79b0]) | skip)
         have H' := Aside0.mk H
         clear H
         go_wp2
         go_meet
         case rel => exact ⟨_, H', ⟨by have := HJ2.out; have := HJ23.out; first | omega | exact Nat.le_refl _⟩, ⟨zk BK101.out⟩, ⟨zk BK102.out⟩, ⟨zk BK114.out⟩, ⟨zk BK121.out⟩, ⟨by repeat (first | (with_reducible first | exact HB.out | apply below_alloc | apply pw_below_drewN | apply below_drew1 | refine below_set ?_ GE101.out | refine below_set ?_ GE102.out | refine below_set ?_ GE114.out | refine below_set ?_ GE121.out) | exact HB.out)⟩⟩
       case rest => as_aux_lemma =>
        clear HC78
        try clear c1
        try clear p2
        try clear c6
        try clear c7
        try clear c8
        try clear c9
        try clear c10
        try clear c11
        try clear c64
        try clear c64b0
        try clear c64b1
        try clear c77
        try clear c79
        try clear c79b0
        try clear c79b1
        try clear c81
        try clear c81b0
        try clear c82
        try clear c82b0
        try clear c82b1
        try clear c83
        try clear c83b0
        try clear c83b1
        try clear c84
        try clear c85
        try clear c86
        try clear c88
        try clear c89
        try clear c93
        try clear c94
        try clear c95
        try clear c96
        try clear hcz87_0 hcz87_1 hcz87_2 hcz87_3
        try clear hcz90_0 hcz90_1 hcz90_2 hcz90_3 hcz90_4 hcz90_5
        try clear hcz97_0 hcz97_1 hcz97_2 hcz97_3
        try clear hcz98_0 hcz98_1 hcz98_2 hcz98_3
        try clear hfz87_0 hfz87_1 hfz87_2 hfz87_3
        try clear hfz90_0 hfz90_1 hfz90_2 hfz90_3 hfz90_4 hfz90_5
        try clear hfz97_0 hfz97_1 hfz97_2 hfz97_3
        try clear hfz98_0 hfz98_1 hfz98_2 hfz98_3
        try clear p2
        obtain ⟨kq, HA, HJ77, BK101, BK102, BK114, BK121, HB⟩ := hcut
        cases kq with
        | zero => exact absurd HA.out (by simp [ironbarklaw05_BitsFits.j2])
        | succ kj77 =>
         have H := HA.out
         clear HA
         simp only [ironbarklaw05_BitsFits.j2] at H
         replace H := Option.bind_eq_some_iff.mp H
         obtain ⟨⟨t133, t134, t135, t136, t137⟩, A990, H⟩ := H
         replace H : ((ironbarkref05_Trim.f kj77 a0_0 a0_1 a0_2 a0_3).bind fun bt138 => (if (!(t133 == bt138.1) || (!(t134 == bt138.2.1) || (!(t135 == bt138.2.2.1) || (!(t136.toList == bt138.2.2.2.1.toList))))) = true then (ironbarklaw05_BitsFits.j3 kj77 true a0_0 a0_1 a0_2 a0_3) else (ironbarklaw05_BitsFits.j3 kj77 (t137 != bt138.2.2.2.2) a0_0 a0_1 a0_2 a0_3))) = some r := H
         have A99 := Aside0.mk A990
         clear A990
         replace H := Option.bind_eq_some_iff.mp H
         obtain ⟨⟨t138, t139, t140, t141, t142⟩, A1000, H⟩ := H
         replace H : (if (!(t133 == t138) || (!(t134 == t139) || (!(t135 == t140) || (!(t136.toList == t141.toList))))) = true then (ironbarklaw05_BitsFits.j3 kj77 true a0_0 a0_1 a0_2 a0_3) else (ironbarklaw05_BitsFits.j3 kj77 (t137 != t142) a0_0 a0_1 a0_2 a0_3)) = some r := H
         have A100 := Aside0.mk A1000
         clear A1000
         have HC101 := Aside0.mk H
         clear H
         have hnb102 := NB101_102.out
         have hnc102 := NB102_101.out
         have hnb103 := NB101_114.out
         have hnc103 := NB114_101.out
         have hnb104 := NB101_121.out
         have hnc104 := NB121_101.out
         obtain ⟨hcz105_0, hcz105_1, hcz105_2, hcz105_3⟩ := blk_quad BK101.out
         obtain ⟨hfz105_0, hfz105_1, hfz105_2, hfz105_3⟩ := blk_quad_free BK101.out
         go_upto_region 13 with (first | ((with_reducible refine gate_callee (f := 12) rfl ?_); refine goesL_ (some 88) rfl rfl Tryd.func12 (by kernel_rfl) rfl #[.agg #[.int .i64 a0_0, .int .i64 a0_1, .int .i64 a0_2, .string a0_3]] rfl (by (try simp only [List.map_toArray, List.map_cons, List.map_nil]); first | done | rfl | (simp only [List.length_drop, List.length_take]; rfl)) ?_; (with_reducible refine (bits_Trim.calls a0_0 a0_1 a0_2 a0_3 t133 t134 t135 t136 t137 _ A99.out).mono ?_); rintro e w106 ⟨rfl, hb⟩; refine ⟨_, rfl, ?_⟩; have n0_ := Aside0.mk (blk_below (zk BK101.out) hb); have n1_ := Aside0.mk (blk_below (zk BK102.out) hb); have n2_ := Aside0.mk (blk_below (zk BK114.out) hb); have n3_ := Aside0.mk (blk_below (zk BK121.out) hb); have n4_ := Aside0.mk (below_step (by repeat (first | (with_reducible first | exact HB.out | apply below_alloc | apply pw_below_drewN | apply below_drew1 | refine below_set ?_ GE101.out | refine below_set ?_ GE102.out | refine below_set ?_ GE114.out | refine below_set ?_ GE121.out) | exact HB.out)) hb); clear BK101; clear BK102; clear BK114; clear BK121; clear HB; have BK101 := n0_; have BK102 := n1_; have BK114 := n2_; have BK121 := n3_; have HB := n4_; clear n0_ n1_ n2_ n3_ n4_; (try clear hb); (try clear hb2); (try clear hk); (try clear hi); have hnb107 := NB114_102.out; have hnc107 := NB102_114.out; have hnb108 := NB114_121.out; have hnc108 := NB121_114.out; obtain ⟨hcz109_0, hcz109_1, hcz109_2, hcz109_3⟩ := blk_quad BK114.out; obtain ⟨hfz109_0, hfz109_1, hfz109_2, hfz109_3⟩ := blk_quad_free BK114.out; obtain ⟨hcz110_0, hcz110_1, hcz110_2, hcz110_3⟩ := blk_quad BK101.out; obtain ⟨hfz110_0, hfz110_1, hfz110_2, hfz110_3⟩ := blk_quad_free BK101.out) | ((with_reducible refine gate_callee (f := 13) rfl ?_); refine goesL_ (some 93) rfl rfl Tryd.func13 (by kernel_rfl) rfl #[.agg #[.int .i64 a0_0, .int .i64 a0_1, .int .i64 a0_2, .string a0_3]] rfl (by (try simp only [List.map_toArray, List.map_cons, List.map_nil]); first | done | rfl | (simp only [List.length_drop, List.length_take]; rfl)) ?_; (with_reducible refine (ironbarkref05_Trim.calls kj77 a0_0 a0_1 a0_2 a0_3 t138 t139 t140 t141 t142 _ A100.out).mono ?_); rintro e w111 ⟨rfl, hb⟩; refine ⟨_, rfl, ?_⟩; have n0_ := Aside0.mk (blk_below (g := gb101) (o := .cells #[.int .i64 a0_0, .int .i64 a0_1, .int .i64 a0_2, .string a0_3] 23 (0, 0)) (by refine zk ?_; refine blk_far ?_ NB101_114.out _; refine zk ?_; refine blk_far ?_ NB101_114.out _; refine zk ?_; refine blk_far ?_ NB101_114.out _; refine zk ?_; refine blk_far ?_ NB101_114.out _; refine zk ?_; exact BK101.out) hb); have n1_ := Aside0.mk (blk_below (g := gb102) (o := .cells #[.int .i64 a1_0, .int .i64 a1_1, .int .i64 a1_2, .int .i64 a1_3, .bool a1_4, .string a1_5] 25 (0, 0)) (by refine zk ?_; refine blk_far ?_ NB102_114.out _; refine zk ?_; refine blk_far ?_ NB102_114.out _; refine zk ?_; refine blk_far ?_ NB102_114.out _; refine zk ?_; refine blk_far ?_ NB102_114.out _; refine zk ?_; exact BK102.out) hb); have n2_ := Aside0.mk (blk_below (g := gb114) (o := .cells #[.int .i64 t133, .int .i64 t134, .int .i64 t135, .string t136] 23 (0, 0)) (by refine zk ?_; refine blk_put (cs := #[.int .i64 t133, .int .i64 t134, .int .i64 t135, .string t111]) ?_ 3 _ rfl; refine zk ?_; refine blk_put (cs := #[.int .i64 t133, .int .i64 t134, .int .i64 t110, .string t111]) ?_ 2 _ rfl; refine zk ?_; refine blk_put (cs := #[.int .i64 t133, .int .i64 t109, .int .i64 t110, .string t111]) ?_ 1 _ rfl; refine zk ?_; refine blk_put (cs := #[.int .i64 t108, .int .i64 t109, .int .i64 t110, .string t111]) ?_ 0 _ rfl; refine zk ?_; exact BK114.out) hb); have n3_ := Aside0.mk (blk_below (g := gb121) (o := .cells #[.int .i64 t115, .int .i64 t116, .int .i64 t117, .string t118] 23 (0, 0)) (by refine zk ?_; refine blk_far ?_ NB121_114.out _; refine zk ?_; refine blk_far ?_ NB121_114.out _; refine zk ?_; refine blk_far ?_ NB121_114.out _; refine zk ?_; refine blk_far ?_ NB121_114.out _; refine zk ?_; exact BK121.out) hb); have n4_ := Aside0.mk (below_step (by repeat (first | (with_reducible first | exact HB.out | apply below_alloc | apply pw_below_drewN | apply below_drew1 | refine below_set ?_ GE101.out | refine below_set ?_ GE102.out | refine below_set ?_ GE114.out | refine below_set ?_ GE121.out) | exact HB.out)) hb); clear BK101; clear BK102; clear BK114; clear BK121; clear HB; have BK101 := n0_; have BK102 := n1_; have BK114 := n2_; have BK121 := n3_; have HB := n4_; clear n0_ n1_ n2_ n3_ n4_; (try clear hb); (try clear hb2); (try clear hk); (try clear hi); have hnb112 := NB121_102.out; have hnc112 := NB102_121.out; obtain ⟨hcz113_0, hcz113_1, hcz113_2, hcz113_3⟩ := blk_quad BK121.out; obtain ⟨hfz113_0, hfz113_1, hfz113_2, hfz113_3⟩ := blk_quad_free BK121.out))
         (try simp only [Act.put, List.setIfInBounds_toArray, List.set_cons_zero, List.set_cons_succ])
         go_cut [103] (fun v103 wc => ∃ (kq : Nat) (x103_100 : Bool), v103 = .bool x103_100 ∧ Aside0 (ironbarklaw05_BitsFits.j3 kq x103_100 a0_0 a0_1 a0_2 a0_3 = some r) ∧ Aside0 (kq ≤ kj77) ∧ Aside0 (wc.heap[gb101]? = some (.cells #[.int .i64 a0_0, .int .i64 a0_1, .int .i64 a0_2, .string a0_3] 23 (0, 0))) ∧ Aside0 (wc.heap[gb102]? = some (.cells #[.int .i64 a1_0, .int .i64 a1_1, .int .i64 a1_2, .int .i64 a1_3, .bool a1_4, .string a1_5] 25 (0, 0))) ∧ Aside0 (wc.heap[gb114]? = some (.cells #[.int .i64 t133, .int .i64 t134, .int .i64 t135, .string t136] 23 (0, 0))) ∧ Aside0 (wc.heap[gb121]? = some (.cells #[.int .i64 t138, .int .i64 t139, .int .i64 t140, .string t141] 23 (0, 0))) ∧ Aside0 (Below w.heap.size w wc))
         case first =>
          have H := HC101.out
          clear HC101
          by_cases c114 : (!(t133 == t138) || (!(t134 == t139) || (!(t135 == t140) || (!(t136.toList == t141.toList))))) = true
          ·rw [if_pos c114] at H
           have c114b0 : (!(t133 == t138) || (!(t134 == t139) || (!(t135 == t140) || (!(t136.toList == t141.toList))))) = true := c114
           clear c114
           (first | rw [c114b0] | (simp only [i64_w, i32_w]; rw [c114b0]) | skip)
           exact absurd (H.trans (congrArg some hrt_.out)) (ironbarklaw05_BitsFits.j3_no _ _ _ _ _ )
          ·rw [if_neg c114] at H
           have c114b0 : (!(t133 == t138) || (!(t134 == t139) || (!(t135 == t140) || (!(t136.toList == t141.toList))))) = false := by simpa using c114
           clear c114
           (first | rw [c114b0] | (simp only [i64_w, i32_w]; rw [c114b0]) | skip)
           have H' := Aside0.mk H
           clear H
           have hnb122 := NB114_101.out
           have hnc122 := NB101_114.out
           have hnb123 := NB114_102.out
           have hnc123 := NB102_114.out
           have hnb124 := NB114_121.out
           have hnc124 := NB121_114.out
           obtain ⟨hcz125_0, hcz125_1, hcz125_2, hcz125_3⟩ := blk_quad BK114.out
           obtain ⟨hfz125_0, hfz125_1, hfz125_2, hfz125_3⟩ := blk_quad_free BK114.out
           have hnb126 := NB121_101.out
           have hnc126 := NB101_121.out
           have hnb127 := NB121_102.out
           have hnc127 := NB102_121.out
           obtain ⟨hcz128_0, hcz128_1, hcz128_2, hcz128_3⟩ := blk_quad BK121.out
           obtain ⟨hfz128_0, hfz128_1, hfz128_2, hfz128_3⟩ := blk_quad_free BK121.out
           go_wp2
           go_meet
           case rel => exact ⟨_, ((t137 != t142)), (by first | rfl | (simp; done) | (generalize ByteArray.toList _ = l_; cases l_ <;> rfl) | (simp [*]; done)), H', ⟨by have := HJ2.out; have := HJ23.out; have := HJ77.out; first | omega | exact Nat.le_refl _⟩, ⟨by refine zk ?_; refine blk_far ?_ NB101_121.out _; refine zk ?_; refine blk_far ?_ NB101_121.out _; refine zk ?_; refine blk_far ?_ NB101_121.out _; refine zk ?_; refine blk_far ?_ NB101_121.out _; refine zk ?_; exact BK101.out⟩, ⟨by refine zk ?_; refine blk_far ?_ NB102_121.out _; refine zk ?_; refine blk_far ?_ NB102_121.out _; refine zk ?_; refine blk_far ?_ NB102_121.out _; refine zk ?_; refine blk_far ?_ NB102_121.out _; refine zk ?_; exact BK102.out⟩, ⟨by refine zk ?_; refine blk_far ?_ NB114_121.out _; refine zk ?_; refine blk_far ?_ NB114_121.out _; refine zk ?_; refine blk_far ?_ NB114_121.out _; refine zk ?_; refine blk_far ?_ NB114_121.out _; refine zk ?_; exact BK114.out⟩, ⟨by refine zk ?_; refine blk_put (cs := #[.int .i64 t138, .int .i64 t139, .int .i64 t140, .string t118]) ?_ 3 _ rfl; refine zk ?_; refine blk_put (cs := #[.int .i64 t138, .int .i64 t139, .int .i64 t117, .string t118]) ?_ 2 _ rfl; refine zk ?_; refine blk_put (cs := #[.int .i64 t138, .int .i64 t116, .int .i64 t117, .string t118]) ?_ 1 _ rfl; refine zk ?_; refine blk_put (cs := #[.int .i64 t115, .int .i64 t116, .int .i64 t117, .string t118]) ?_ 0 _ rfl; refine zk ?_; exact BK121.out⟩, ⟨by repeat (first | (with_reducible first | exact HB.out | apply below_alloc | apply pw_below_drewN | apply below_drew1 | refine below_set ?_ GE101.out | refine below_set ?_ GE102.out | refine below_set ?_ GE114.out | refine below_set ?_ GE121.out) | exact HB.out)⟩⟩
         case rest => as_aux_lemma =>
          clear HC101
          try clear c1
          try clear p2
          try clear c6
          try clear c7
          try clear c8
          try clear c9
          try clear c10
          try clear c11
          try clear c12
          try clear c13
          try clear c64
          try clear c64b0
          try clear c64b1
          try clear c77
          try clear c79
          try clear c79b0
          try clear c79b1
          try clear c81
          try clear c81b0
          try clear c82
          try clear c82b0
          try clear c82b1
          try clear c83
          try clear c83b0
          try clear c83b1
          try clear c84
          try clear c85
          try clear c86
          try clear c88
          try clear c89
          try clear c93
          try clear c94
          try clear c95
          try clear c96
          try clear c102
          try clear c103
          try clear c104
          try clear c107
          try clear c108
          try clear c112
          try clear c114
          try clear c114b0
          try clear c115
          try clear c116
          try clear c117
          try clear c119
          try clear c120
          try clear c122
          try clear c123
          try clear c124
          try clear c126
          try clear c127
          try clear hcz105_0 hcz105_1 hcz105_2 hcz105_3
          try clear hcz109_0 hcz109_1 hcz109_2 hcz109_3
          try clear hcz110_0 hcz110_1 hcz110_2 hcz110_3
          try clear hcz113_0 hcz113_1 hcz113_2 hcz113_3
          try clear hcz118_0 hcz118_1 hcz118_2 hcz118_3
          try clear hcz121_0 hcz121_1 hcz121_2 hcz121_3
          try clear hcz125_0 hcz125_1 hcz125_2 hcz125_3
          try clear hcz128_0 hcz128_1 hcz128_2 hcz128_3
          try clear hcz87_0 hcz87_1 hcz87_2 hcz87_3
          try clear hcz90_0 hcz90_1 hcz90_2 hcz90_3 hcz90_4 hcz90_5
          try clear hcz97_0 hcz97_1 hcz97_2 hcz97_3
          try clear hcz98_0 hcz98_1 hcz98_2 hcz98_3
          try clear hfz105_0 hfz105_1 hfz105_2 hfz105_3
          try clear hfz109_0 hfz109_1 hfz109_2 hfz109_3
          try clear hfz110_0 hfz110_1 hfz110_2 hfz110_3
          try clear hfz113_0 hfz113_1 hfz113_2 hfz113_3
          try clear hfz118_0 hfz118_1 hfz118_2 hfz118_3
          try clear hfz121_0 hfz121_1 hfz121_2 hfz121_3
          try clear hfz125_0 hfz125_1 hfz125_2 hfz125_3
          try clear hfz128_0 hfz128_1 hfz128_2 hfz128_3
          try clear hfz87_0 hfz87_1 hfz87_2 hfz87_3
          try clear hfz90_0 hfz90_1 hfz90_2 hfz90_3 hfz90_4 hfz90_5
          try clear hfz97_0 hfz97_1 hfz97_2 hfz97_3
          try clear hfz98_0 hfz98_1 hfz98_2 hfz98_3
          try clear p2
          obtain ⟨kq, x103_100, rfl, HA, HJ100, BK101, BK102, BK114, BK121, HB⟩ := hcut
          cases kq with
          | zero => exact absurd HA.out (by simp [ironbarklaw05_BitsFits.j3])
          | succ kj100 =>
           have H := HA.out
           clear HA
           simp only [ironbarklaw05_BitsFits.j3] at H
           by_cases c129 : x103_100 = true
           ·subst c129
            have H1 : (some false) = some r := by rw [if_pos rfl] at H; exact H
            clear H
            have H := H1
            clear H1
            exact absurd ((Option.some.inj H).trans hrt_.out) (by decide)
           ·replace c129 := Bool.eq_false_iff.mpr c129
            subst c129
            have H1 : ((bits_Reverse.f a0_0 a0_1 a0_2 a0_3).bind fun bt143 => ((ironbarkref05_Reverse.f kj100 a0_0 a0_1 a0_2 a0_3).bind fun bt148 => (if (!(bt143.1 == bt148.1) || (!(bt143.2.1 == bt148.2.1) || (!(bt143.2.2.1 == bt148.2.2.1) || (!(bt143.2.2.2.1.toList == bt148.2.2.2.1.toList))))) = true then (ironbarklaw05_BitsFits.j4 kj100 bt143.2.2.2.2 true a0_0 a0_1 a0_2 a0_3 bt143.1 bt143.2.1 bt143.2.2.1 bt143.2.2.2.1) else (ironbarklaw05_BitsFits.j4 kj100 bt143.2.2.2.2 (bt143.2.2.2.2 != bt148.2.2.2.2) a0_0 a0_1 a0_2 a0_3 bt143.1 bt143.2.1 bt143.2.2.1 bt143.2.2.2.1)))) = some r := by rw [if_neg (show ¬ (false = true) by decide)] at H; exact H
            clear H
            have H := H1
            clear H1
            replace H := Option.bind_eq_some_iff.mp H
            obtain ⟨⟨t143, t144, t145, t146, t147⟩, A1300, H⟩ := H
            replace H : ((ironbarkref05_Reverse.f kj100 a0_0 a0_1 a0_2 a0_3).bind fun bt148 => (if (!(t143 == bt148.1) || (!(t144 == bt148.2.1) || (!(t145 == bt148.2.2.1) || (!(t146.toList == bt148.2.2.2.1.toList))))) = true then (ironbarklaw05_BitsFits.j4 kj100 t147 true a0_0 a0_1 a0_2 a0_3 t143 t144 t145 t146) else (ironbarklaw05_BitsFits.j4 kj100 t147 (t147 != bt148.2.2.2.2) a0_0 a0_1 a0_2 a0_3 t143 t144 t145 t146))) = some r := H
            have A130 := Aside0.mk A1300
            clear A1300
            replace H := Option.bind_eq_some_iff.mp H
            obtain ⟨⟨t148, t149, t150, t151, t152⟩, A1310, H⟩ := H
            replace H : (if (!(t143 == t148) || (!(t144 == t149) || (!(t145 == t150) || (!(t146.toList == t151.toList))))) = true then (ironbarklaw05_BitsFits.j4 kj100 t147 true a0_0 a0_1 a0_2 a0_3 t143 t144 t145 t146) else (ironbarklaw05_BitsFits.j4 kj100 t147 (t147 != t152) a0_0 a0_1 a0_2 a0_3 t143 t144 t145 t146)) = some r := H
            have A131 := Aside0.mk A1310
            clear A1310
            have HC132 := Aside0.mk H
            clear H
            have hnb133 := NB101_102.out
            have hnc133 := NB102_101.out
            have hnb134 := NB101_114.out
            have hnc134 := NB114_101.out
            have hnb135 := NB101_121.out
            have hnc135 := NB121_101.out
            obtain ⟨hcz136_0, hcz136_1, hcz136_2, hcz136_3⟩ := blk_quad BK101.out
            obtain ⟨hfz136_0, hfz136_1, hfz136_2, hfz136_3⟩ := blk_quad_free BK101.out
            go_upto_region 17 with (first | ((with_reducible refine gate_callee (f := 14) rfl ?_); refine goesL_ (some 106) rfl rfl Tryd.func14 (by kernel_rfl) rfl #[.agg #[.int .i64 a0_0, .int .i64 a0_1, .int .i64 a0_2, .string a0_3]] rfl (by (try simp only [List.map_toArray, List.map_cons, List.map_nil]); first | done | rfl | (simp only [List.length_drop, List.length_take]; rfl)) ?_; (with_reducible refine (bits_Reverse.calls a0_0 a0_1 a0_2 a0_3 t143 t144 t145 t146 t147 _ A130.out).mono ?_); rintro e w137 ⟨rfl, hb⟩; refine ⟨_, rfl, ?_⟩; have n0_ := Aside0.mk (blk_below (zk BK101.out) hb); have n1_ := Aside0.mk (blk_below (zk BK102.out) hb); have n2_ := Aside0.mk (blk_below (zk BK114.out) hb); have n3_ := Aside0.mk (blk_below (zk BK121.out) hb); have n4_ := Aside0.mk (below_step (by repeat (first | (with_reducible first | exact HB.out | apply below_alloc | apply pw_below_drewN | apply below_drew1 | refine below_set ?_ GE101.out | refine below_set ?_ GE102.out | refine below_set ?_ GE114.out | refine below_set ?_ GE121.out) | exact HB.out)) hb); clear BK101; clear BK102; clear BK114; clear BK121; clear HB; have BK101 := n0_; have BK102 := n1_; have BK114 := n2_; have BK121 := n3_; have HB := n4_; clear n0_ n1_ n2_ n3_ n4_; (try clear hb); (try clear hb2); (try clear hk); (try clear hi); have hnb138 := NB114_102.out; have hnc138 := NB102_114.out; have hnb139 := NB114_121.out; have hnc139 := NB121_114.out; obtain ⟨hcz140_0, hcz140_1, hcz140_2, hcz140_3⟩ := blk_quad BK114.out; obtain ⟨hfz140_0, hfz140_1, hfz140_2, hfz140_3⟩ := blk_quad_free BK114.out; obtain ⟨hcz141_0, hcz141_1, hcz141_2, hcz141_3⟩ := blk_quad BK101.out; obtain ⟨hfz141_0, hfz141_1, hfz141_2, hfz141_3⟩ := blk_quad_free BK101.out) | ((with_reducible refine gate_callee (f := 15) rfl ?_); refine goesL_ (some 111) rfl rfl Tryd.func15 (by kernel_rfl) rfl #[.agg #[.int .i64 a0_0, .int .i64 a0_1, .int .i64 a0_2, .string a0_3]] rfl (by (try simp only [List.map_toArray, List.map_cons, List.map_nil]); first | done | rfl | (simp only [List.length_drop, List.length_take]; rfl)) ?_; (with_reducible refine (ironbarkref05_Reverse.calls kj100 a0_0 a0_1 a0_2 a0_3 t148 t149 t150 t151 t152 _ A131.out).mono ?_); rintro e w142 ⟨rfl, hb⟩; refine ⟨_, rfl, ?_⟩; have n0_ := Aside0.mk (blk_below (g := gb101) (o := .cells #[.int .i64 a0_0, .int .i64 a0_1, .int .i64 a0_2, .string a0_3] 23 (0, 0)) (by refine zk ?_; refine blk_far ?_ NB101_114.out _; refine zk ?_; refine blk_far ?_ NB101_114.out _; refine zk ?_; refine blk_far ?_ NB101_114.out _; refine zk ?_; refine blk_far ?_ NB101_114.out _; refine zk ?_; exact BK101.out) hb); have n1_ := Aside0.mk (blk_below (g := gb102) (o := .cells #[.int .i64 a1_0, .int .i64 a1_1, .int .i64 a1_2, .int .i64 a1_3, .bool a1_4, .string a1_5] 25 (0, 0)) (by refine zk ?_; refine blk_far ?_ NB102_114.out _; refine zk ?_; refine blk_far ?_ NB102_114.out _; refine zk ?_; refine blk_far ?_ NB102_114.out _; refine zk ?_; refine blk_far ?_ NB102_114.out _; refine zk ?_; exact BK102.out) hb); have n2_ := Aside0.mk (blk_below (g := gb114) (o := .cells #[.int .i64 t143, .int .i64 t144, .int .i64 t145, .string t146] 23 (0, 0)) (by refine zk ?_; refine blk_put (cs := #[.int .i64 t143, .int .i64 t144, .int .i64 t145, .string t136]) ?_ 3 _ rfl; refine zk ?_; refine blk_put (cs := #[.int .i64 t143, .int .i64 t144, .int .i64 t135, .string t136]) ?_ 2 _ rfl; refine zk ?_; refine blk_put (cs := #[.int .i64 t143, .int .i64 t134, .int .i64 t135, .string t136]) ?_ 1 _ rfl; refine zk ?_; refine blk_put (cs := #[.int .i64 t133, .int .i64 t134, .int .i64 t135, .string t136]) ?_ 0 _ rfl; refine zk ?_; exact BK114.out) hb); have n3_ := Aside0.mk (blk_below (g := gb121) (o := .cells #[.int .i64 t138, .int .i64 t139, .int .i64 t140, .string t141] 23 (0, 0)) (by refine zk ?_; refine blk_far ?_ NB121_114.out _; refine zk ?_; refine blk_far ?_ NB121_114.out _; refine zk ?_; refine blk_far ?_ NB121_114.out _; refine zk ?_; refine blk_far ?_ NB121_114.out _; refine zk ?_; exact BK121.out) hb); have n4_ := Aside0.mk (below_step (by repeat (first | (with_reducible first | exact HB.out | apply below_alloc | apply pw_below_drewN | apply below_drew1 | refine below_set ?_ GE101.out | refine below_set ?_ GE102.out | refine below_set ?_ GE114.out | refine below_set ?_ GE121.out) | exact HB.out)) hb); clear BK101; clear BK102; clear BK114; clear BK121; clear HB; have BK101 := n0_; have BK102 := n1_; have BK114 := n2_; have BK121 := n3_; have HB := n4_; clear n0_ n1_ n2_ n3_ n4_; (try clear hb); (try clear hb2); (try clear hk); (try clear hi); have hnb143 := NB121_102.out; have hnc143 := NB102_121.out; obtain ⟨hcz144_0, hcz144_1, hcz144_2, hcz144_3⟩ := blk_quad BK121.out; obtain ⟨hfz144_0, hfz144_1, hfz144_2, hfz144_3⟩ := blk_quad_free BK121.out))
            (try simp only [Act.put, List.setIfInBounds_toArray, List.set_cons_zero, List.set_cons_succ])
            go_cut [121] (fun v121 wc => ∃ (kq : Nat) (x121_131 : Bool), v121 = .bool x121_131 ∧ Aside0 (ironbarklaw05_BitsFits.j4 kq t147 x121_131 a0_0 a0_1 a0_2 a0_3 t143 t144 t145 t146 = some r) ∧ Aside0 (kq ≤ kj100) ∧ Aside0 (wc.heap[gb101]? = some (.cells #[.int .i64 a0_0, .int .i64 a0_1, .int .i64 a0_2, .string a0_3] 23 (0, 0))) ∧ Aside0 (wc.heap[gb102]? = some (.cells #[.int .i64 a1_0, .int .i64 a1_1, .int .i64 a1_2, .int .i64 a1_3, .bool a1_4, .string a1_5] 25 (0, 0))) ∧ Aside0 (wc.heap[gb114]? = some (.cells #[.int .i64 t143, .int .i64 t144, .int .i64 t145, .string t146] 23 (0, 0))) ∧ Aside0 (wc.heap[gb121]? = some (.cells #[.int .i64 t148, .int .i64 t149, .int .i64 t150, .string t151] 23 (0, 0))) ∧ Aside0 (Below w.heap.size w wc))
            case first =>
             have H := HC132.out
             clear HC132
             by_cases c145 : (!(t143 == t148) || (!(t144 == t149) || (!(t145 == t150) || (!(t146.toList == t151.toList))))) = true
             ·rw [if_pos c145] at H
              have c145b0 : (!(t143 == t148) || (!(t144 == t149) || (!(t145 == t150) || (!(t146.toList == t151.toList))))) = true := c145
              clear c145
              (first | rw [c145b0] | (simp only [i64_w, i32_w]; rw [c145b0]) | skip)
              exact absurd (H.trans (congrArg some hrt_.out)) (ironbarklaw05_BitsFits.j4_no _ _ _ _ _ _ _ _ _ _ )
             ·rw [if_neg c145] at H
              have c145b0 : (!(t143 == t148) || (!(t144 == t149) || (!(t145 == t150) || (!(t146.toList == t151.toList))))) = false := by simpa using c145
              clear c145
              (first | rw [c145b0] | (simp only [i64_w, i32_w]; rw [c145b0]) | skip)
              have H' := Aside0.mk H
              clear H
              have hnb153 := NB114_101.out
              have hnc153 := NB101_114.out
              have hnb154 := NB114_102.out
              have hnc154 := NB102_114.out
              have hnb155 := NB114_121.out
              have hnc155 := NB121_114.out
              obtain ⟨hcz156_0, hcz156_1, hcz156_2, hcz156_3⟩ := blk_quad BK114.out
              obtain ⟨hfz156_0, hfz156_1, hfz156_2, hfz156_3⟩ := blk_quad_free BK114.out
              have hnb157 := NB121_101.out
              have hnc157 := NB101_121.out
              have hnb158 := NB121_102.out
              have hnc158 := NB102_121.out
              obtain ⟨hcz159_0, hcz159_1, hcz159_2, hcz159_3⟩ := blk_quad BK121.out
              obtain ⟨hfz159_0, hfz159_1, hfz159_2, hfz159_3⟩ := blk_quad_free BK121.out
              go_wp2
              go_meet
              case rel => exact ⟨_, ((t147 != t152)), (by first | rfl | (simp; done) | (generalize ByteArray.toList _ = l_; cases l_ <;> rfl) | (simp [*]; done)), H', ⟨by have := HJ2.out; have := HJ23.out; have := HJ77.out; have := HJ100.out; first | omega | exact Nat.le_refl _⟩, ⟨by refine zk ?_; refine blk_far ?_ NB101_121.out _; refine zk ?_; refine blk_far ?_ NB101_121.out _; refine zk ?_; refine blk_far ?_ NB101_121.out _; refine zk ?_; refine blk_far ?_ NB101_121.out _; refine zk ?_; exact BK101.out⟩, ⟨by refine zk ?_; refine blk_far ?_ NB102_121.out _; refine zk ?_; refine blk_far ?_ NB102_121.out _; refine zk ?_; refine blk_far ?_ NB102_121.out _; refine zk ?_; refine blk_far ?_ NB102_121.out _; refine zk ?_; exact BK102.out⟩, ⟨by refine zk ?_; refine blk_far ?_ NB114_121.out _; refine zk ?_; refine blk_far ?_ NB114_121.out _; refine zk ?_; refine blk_far ?_ NB114_121.out _; refine zk ?_; refine blk_far ?_ NB114_121.out _; refine zk ?_; exact BK114.out⟩, ⟨by refine zk ?_; refine blk_put (cs := #[.int .i64 t148, .int .i64 t149, .int .i64 t150, .string t141]) ?_ 3 _ rfl; refine zk ?_; refine blk_put (cs := #[.int .i64 t148, .int .i64 t149, .int .i64 t140, .string t141]) ?_ 2 _ rfl; refine zk ?_; refine blk_put (cs := #[.int .i64 t148, .int .i64 t139, .int .i64 t140, .string t141]) ?_ 1 _ rfl; refine zk ?_; refine blk_put (cs := #[.int .i64 t138, .int .i64 t139, .int .i64 t140, .string t141]) ?_ 0 _ rfl; refine zk ?_; exact BK121.out⟩, ⟨by repeat (first | (with_reducible first | exact HB.out | apply below_alloc | apply pw_below_drewN | apply below_drew1 | refine below_set ?_ GE101.out | refine below_set ?_ GE102.out | refine below_set ?_ GE114.out | refine below_set ?_ GE121.out) | exact HB.out)⟩⟩
            case rest => as_aux_lemma =>
             clear HC132
             try clear c1
             try clear p2
             try clear c6
             try clear c7
             try clear c8
             try clear c9
             try clear c10
             try clear c11
             try clear c12
             try clear c13
             try clear c14
             try clear c15
             try clear c64
             try clear c64b0
             try clear c64b1
             try clear c77
             try clear c79
             try clear c79b0
             try clear c79b1
             try clear c81
             try clear c81b0
             try clear c82
             try clear c82b0
             try clear c82b1
             try clear c83
             try clear c83b0
             try clear c83b1
             try clear c84
             try clear c85
             try clear c86
             try clear c88
             try clear c89
             try clear c93
             try clear c94
             try clear c95
             try clear c96
             try clear c102
             try clear c103
             try clear c104
             try clear c107
             try clear c108
             try clear c112
             try clear c114
             try clear c114b0
             try clear c115
             try clear c116
             try clear c117
             try clear c119
             try clear c120
             try clear c122
             try clear c123
             try clear c124
             try clear c126
             try clear c127
             try clear c129
             try clear c133
             try clear c134
             try clear c135
             try clear c138
             try clear c139
             try clear c143
             try clear c145
             try clear c145b0
             try clear c146
             try clear c147
             try clear c148
             try clear c150
             try clear c151
             try clear c153
             try clear c154
             try clear c155
             try clear c157
             try clear c158
             try clear hcz105_0 hcz105_1 hcz105_2 hcz105_3
             try clear hcz109_0 hcz109_1 hcz109_2 hcz109_3
             try clear hcz110_0 hcz110_1 hcz110_2 hcz110_3
             try clear hcz113_0 hcz113_1 hcz113_2 hcz113_3
             try clear hcz118_0 hcz118_1 hcz118_2 hcz118_3
             try clear hcz121_0 hcz121_1 hcz121_2 hcz121_3
             try clear hcz125_0 hcz125_1 hcz125_2 hcz125_3
             try clear hcz128_0 hcz128_1 hcz128_2 hcz128_3
             try clear hcz136_0 hcz136_1 hcz136_2 hcz136_3
             try clear hcz140_0 hcz140_1 hcz140_2 hcz140_3
             try clear hcz141_0 hcz141_1 hcz141_2 hcz141_3
             try clear hcz144_0 hcz144_1 hcz144_2 hcz144_3
             try clear hcz149_0 hcz149_1 hcz149_2 hcz149_3
             try clear hcz152_0 hcz152_1 hcz152_2 hcz152_3
             try clear hcz156_0 hcz156_1 hcz156_2 hcz156_3
             try clear hcz159_0 hcz159_1 hcz159_2 hcz159_3
             try clear hcz87_0 hcz87_1 hcz87_2 hcz87_3
             try clear hcz90_0 hcz90_1 hcz90_2 hcz90_3 hcz90_4 hcz90_5
             try clear hcz97_0 hcz97_1 hcz97_2 hcz97_3
             try clear hcz98_0 hcz98_1 hcz98_2 hcz98_3
             try clear hfz105_0 hfz105_1 hfz105_2 hfz105_3
             try clear hfz109_0 hfz109_1 hfz109_2 hfz109_3
             try clear hfz110_0 hfz110_1 hfz110_2 hfz110_3
             try clear hfz113_0 hfz113_1 hfz113_2 hfz113_3
             try clear hfz118_0 hfz118_1 hfz118_2 hfz118_3
             try clear hfz121_0 hfz121_1 hfz121_2 hfz121_3
             try clear hfz125_0 hfz125_1 hfz125_2 hfz125_3
             try clear hfz128_0 hfz128_1 hfz128_2 hfz128_3
             try clear hfz136_0 hfz136_1 hfz136_2 hfz136_3
             try clear hfz140_0 hfz140_1 hfz140_2 hfz140_3
             try clear hfz141_0 hfz141_1 hfz141_2 hfz141_3
             try clear hfz144_0 hfz144_1 hfz144_2 hfz144_3
             try clear hfz149_0 hfz149_1 hfz149_2 hfz149_3
             try clear hfz152_0 hfz152_1 hfz152_2 hfz152_3
             try clear hfz156_0 hfz156_1 hfz156_2 hfz156_3
             try clear hfz159_0 hfz159_1 hfz159_2 hfz159_3
             try clear hfz87_0 hfz87_1 hfz87_2 hfz87_3
             try clear hfz90_0 hfz90_1 hfz90_2 hfz90_3 hfz90_4 hfz90_5
             try clear hfz97_0 hfz97_1 hfz97_2 hfz97_3
             try clear hfz98_0 hfz98_1 hfz98_2 hfz98_3
             try clear p2
             obtain ⟨kq, x121_131, rfl, HA, HJ131, BK101, BK102, BK114, BK121, HB⟩ := hcut
             cases kq with
             | zero => exact absurd HA.out (by simp [ironbarklaw05_BitsFits.j4])
             | succ kj131 =>
              have H := HA.out
              clear HA
              simp only [ironbarklaw05_BitsFits.j4] at H
              by_cases c160 : x121_131 = true
              ·subst c160
               have H1 : (some false) = some r := by rw [if_pos rfl] at H; exact H
               clear H
               have H := H1
               clear H1
               exact absurd ((Option.some.inj H).trans hrt_.out) (by decide)
              ·replace c160 := Bool.eq_false_iff.mpr c160
               subst c160
               have H1 : (if t147 = 0 then ((bits_Reverse.f t143 t144 t145 t146).bind fun bt153 => (if (bt153.1 == a0_0 && (bt153.2.1 == a0_1 && (bt153.2.2.1 == a0_2 && (bt153.2.2.2.1.toList == a0_3.toList)))) = true then (if bt153.2.2.2.2 = 0 then ((ironbarklaw05_awake.f).bind fun t158 => (some t158)) else (some false)) else (some false))) else ((ironbarklaw05_awake.f).bind fun t159 => (some t159))) = some r := by rw [if_neg (show ¬ (false = true) by decide)] at H; exact H
               clear H
               have H := H1
               clear H1
               by_cases c161 : t147 = 0
               ·rw [if_pos c161] at H
                have c161b0 : (t147 == 0) = true := beq_iff_eq.mpr c161
                have c161b1 : (t147 != 0) = false := bne_eq_false_iff_eq.mpr c161
                clear c161
                replace H := Option.bind_eq_some_iff.mp H
                obtain ⟨⟨t153, t154, t155, t156, t157⟩, A1620, H⟩ := H
                replace H : (if (t153 == a0_0 && (t154 == a0_1 && (t155 == a0_2 && (t156.toList == a0_3.toList)))) = true then (if t157 = 0 then ((ironbarklaw05_awake.f).bind fun t158 => (some t158)) else (some false)) else (some false)) = some r := H
                have A162 := Aside0.mk A1620
                clear A1620
                by_cases c163 : (t153 == a0_0 && (t154 == a0_1 && (t155 == a0_2 && (t156.toList == a0_3.toList)))) = true
                ·rw [if_pos c163] at H
                 have c163b0 : (t153 == a0_0 && (t154 == a0_1 && (t155 == a0_2 && (t156.toList == a0_3.toList)))) = true := c163
                 (try (have c163b1 : decide (t153 = a0_0 && (t154 == a0_1 && (t155 == a0_2 && (t156.toList == a0_3.toList)))) = true := by simpa using c163))
                 (try (have c163b2 : (t153 == a0_0 && (t154 == a0_1 && (t155 == a0_2 && (t156.toList == a0_3.toList)))) = true := by simpa using c163))
                 clear c163
                 by_cases c164 : t157 = 0
                 ·rw [if_pos c164] at H
                  have c164b0 : (t157 == 0) = true := beq_iff_eq.mpr c164
                  have c164b1 : (t157 != 0) = false := bne_eq_false_iff_eq.mpr c164
                  clear c164
                  replace H := Option.bind_eq_some_iff.mp H
                  obtain ⟨t158, A1650, H⟩ := H
                  replace H : (some t158) = some r := H
                  have A165 := Aside0.mk A1650
                  clear A1650
                  obtain rfl := Option.some.inj H
                  have hnb166 := NB114_101.out
                  have hnc166 := NB101_114.out
                  have hnb167 := NB114_102.out
                  have hnc167 := NB102_114.out
                  have hnb168 := NB114_121.out
                  have hnc168 := NB121_114.out
                  obtain ⟨hcz169_0, hcz169_1, hcz169_2, hcz169_3⟩ := blk_quad BK114.out
                  obtain ⟨hfz169_0, hfz169_1, hfz169_2, hfz169_3⟩ := blk_quad_free BK114.out
                  go_wp2_with (first | ((with_reducible refine gate_callee (f := 14) rfl ?_); refine goesL_ (some 127) rfl rfl Tryd.func14 (by kernel_rfl) rfl #[.agg #[.int .i64 t143, .int .i64 t144, .int .i64 t145, .string t146]] rfl (by (try simp only [List.map_toArray, List.map_cons, List.map_nil]); first | done | rfl | (simp only [List.length_drop, List.length_take]; rfl)) ?_; (with_reducible refine (bits_Reverse.calls t143 t144 t145 t146 t153 t154 t155 t156 t157 _ A162.out).mono ?_); rintro e w170 ⟨rfl, hb⟩; refine ⟨_, rfl, ?_⟩; have n0_ := Aside0.mk (blk_below (zk BK101.out) hb); have n1_ := Aside0.mk (blk_below (zk BK102.out) hb); have n2_ := Aside0.mk (blk_below (zk BK114.out) hb); have n3_ := Aside0.mk (blk_below (zk BK121.out) hb); have n4_ := Aside0.mk (below_step (by repeat (first | (with_reducible first | exact HB.out | apply below_alloc | apply pw_below_drewN | apply below_drew1 | refine below_set ?_ GE101.out | refine below_set ?_ GE102.out | refine below_set ?_ GE114.out | refine below_set ?_ GE121.out) | exact HB.out)) hb); clear BK101; clear BK102; clear BK114; clear BK121; clear HB; have BK101 := n0_; have BK102 := n1_; have BK114 := n2_; have BK121 := n3_; have HB := n4_; clear n0_ n1_ n2_ n3_ n4_; (try clear hb); (try clear hb2); (try clear hk); (try clear hi); obtain ⟨hcz171_0, hcz171_1, hcz171_2, hcz171_3⟩ := blk_quad BK114.out; obtain ⟨hfz171_0, hfz171_1, hfz171_2, hfz171_3⟩ := blk_quad_free BK114.out; have hnb172 := NB101_102.out; have hnc172 := NB102_101.out; have hnb173 := NB101_121.out; have hnc173 := NB121_101.out; obtain ⟨hcz174_0, hcz174_1, hcz174_2, hcz174_3⟩ := blk_quad BK101.out; obtain ⟨hfz174_0, hfz174_1, hfz174_2, hfz174_3⟩ := blk_quad_free BK101.out) | (go_at_call 5; (with_reducible refine (ironbarklaw05_awake.calls  t158 _ A165.out).mono ?_); rintro e w175 ⟨rfl, hb⟩; have n0_ := Aside0.mk (blk_below (g := gb101) (o := .cells #[.int .i64 a0_0, .int .i64 a0_1, .int .i64 a0_2, .string a0_3] 23 (0, 0)) (by refine zk ?_; refine blk_far ?_ NB101_114.out _; refine zk ?_; refine blk_far ?_ NB101_114.out _; refine zk ?_; refine blk_far ?_ NB101_114.out _; refine zk ?_; refine blk_far ?_ NB101_114.out _; refine zk ?_; exact BK101.out) hb); have n1_ := Aside0.mk (blk_below (g := gb102) (o := .cells #[.int .i64 a1_0, .int .i64 a1_1, .int .i64 a1_2, .int .i64 a1_3, .bool a1_4, .string a1_5] 25 (0, 0)) (by refine zk ?_; refine blk_far ?_ NB102_114.out _; refine zk ?_; refine blk_far ?_ NB102_114.out _; refine zk ?_; refine blk_far ?_ NB102_114.out _; refine zk ?_; refine blk_far ?_ NB102_114.out _; refine zk ?_; exact BK102.out) hb); have n2_ := Aside0.mk (blk_below (g := gb114) (o := .cells #[.int .i64 t153, .int .i64 t154, .int .i64 t155, .string t156] 23 (0, 0)) (by refine zk ?_; refine blk_put (cs := #[.int .i64 t153, .int .i64 t154, .int .i64 t155, .string t146]) ?_ 3 _ rfl; refine zk ?_; refine blk_put (cs := #[.int .i64 t153, .int .i64 t154, .int .i64 t145, .string t146]) ?_ 2 _ rfl; refine zk ?_; refine blk_put (cs := #[.int .i64 t153, .int .i64 t144, .int .i64 t145, .string t146]) ?_ 1 _ rfl; refine zk ?_; refine blk_put (cs := #[.int .i64 t143, .int .i64 t144, .int .i64 t145, .string t146]) ?_ 0 _ rfl; refine zk ?_; exact BK114.out) hb); have n3_ := Aside0.mk (blk_below (g := gb121) (o := .cells #[.int .i64 t148, .int .i64 t149, .int .i64 t150, .string t151] 23 (0, 0)) (by refine zk ?_; refine blk_far ?_ NB121_114.out _; refine zk ?_; refine blk_far ?_ NB121_114.out _; refine zk ?_; refine blk_far ?_ NB121_114.out _; refine zk ?_; refine blk_far ?_ NB121_114.out _; refine zk ?_; exact BK121.out) hb); have n4_ := Aside0.mk (below_step (by repeat (first | (with_reducible first | exact HB.out | apply below_alloc | apply pw_below_drewN | apply below_drew1 | refine below_set ?_ GE101.out | refine below_set ?_ GE102.out | refine below_set ?_ GE114.out | refine below_set ?_ GE121.out) | exact HB.out)) hb); clear BK101; clear BK102; clear BK114; clear BK121; clear HB; have BK101 := n0_; have BK102 := n1_; have BK114 := n2_; have BK121 := n3_; have HB := n4_; clear n0_ n1_ n2_ n3_ n4_; (try clear hb); (try clear hb2); (try clear hk); (try clear hi)))
                  go_ret
                  exact ⟨by first | rfl | (simp [errW_none, errW_some] <;> rfl) | (simp [*, errW_none, errW_some] <;> rfl), by repeat (first | (with_reducible first | exact HB.out | apply below_alloc | apply pw_below_drewN | apply below_drew1 | refine below_set ?_ GE101.out | refine below_set ?_ GE102.out | refine below_set ?_ GE114.out | refine below_set ?_ GE121.out) | exact HB.out)⟩
                 ·rw [if_neg c164] at H
                  have c164b0 : (t157 == 0) = false := beq_eq_false_iff_ne.mpr c164
                  have c164b1 : (t157 != 0) = true := bne_iff_ne.mpr c164
                  exact absurd ((Option.some.inj H).trans hrt_.out) (by decide)
                ·rw [if_neg c163] at H
                 have c163b0 : (t153 == a0_0 && (t154 == a0_1 && (t155 == a0_2 && (t156.toList == a0_3.toList)))) = false := by simpa using c163
                 (try (have c163b1 : decide (t153 = a0_0 && (t154 == a0_1 && (t155 == a0_2 && (t156.toList == a0_3.toList)))) = false := by simpa using c163))
                 (try (have c163b2 : (t153 == a0_0 && (t154 == a0_1 && (t155 == a0_2 && (t156.toList == a0_3.toList)))) = false := by simpa using c163))
                 (try (have c163b3 : ¬ (t153 = a0_0 && (t154 == a0_1 && (t155 == a0_2 && (t156.toList == a0_3.toList)))) := by simpa using c163))
                 clear c163
                 exact absurd ((Option.some.inj H).trans hrt_.out) (by decide)
               ·rw [if_neg c161] at H
                have c161b0 : (t147 == 0) = false := beq_eq_false_iff_ne.mpr c161
                have c161b1 : (t147 != 0) = true := bne_iff_ne.mpr c161
                replace H := Option.bind_eq_some_iff.mp H
                obtain ⟨t159, A1760, H⟩ := H
                replace H : (some t159) = some r := H
                have A176 := Aside0.mk A1760
                clear A1760
                obtain rfl := Option.some.inj H
                go_wp2_with (first | ((with_reducible refine gate_callee (f := 5) rfl ?_); refine goesL_ (some 124) rfl rfl Tryd.func5 (by kernel_rfl) rfl #[] rfl (by (try simp only [List.map_toArray, List.map_cons, List.map_nil]); first | done | rfl | (simp only [List.length_drop, List.length_take]; rfl)) ?_; (with_reducible refine (ironbarklaw05_awake.calls  t159 _ A176.out).mono ?_); rintro e w177 ⟨rfl, hb⟩; refine ⟨_, rfl, ?_⟩; have n0_ := Aside0.mk (blk_below (zk BK101.out) hb); have n1_ := Aside0.mk (blk_below (zk BK102.out) hb); have n2_ := Aside0.mk (blk_below (zk BK114.out) hb); have n3_ := Aside0.mk (blk_below (zk BK121.out) hb); have n4_ := Aside0.mk (below_step (by repeat (first | (with_reducible first | exact HB.out | apply below_alloc | apply pw_below_drewN | apply below_drew1 | refine below_set ?_ GE101.out | refine below_set ?_ GE102.out | refine below_set ?_ GE114.out | refine below_set ?_ GE121.out) | exact HB.out)) hb); clear BK101; clear BK102; clear BK114; clear BK121; clear HB; have BK101 := n0_; have BK102 := n1_; have BK114 := n2_; have BK121 := n3_; have HB := n4_; clear n0_ n1_ n2_ n3_ n4_; (try clear hb); (try clear hb2); (try clear hk); (try clear hi)))
                go_ret
                exact ⟨by first | rfl | (simp [errW_none, errW_some] <;> rfl) | (simp [*, errW_none, errW_some] <;> rfl), by repeat (first | (with_reducible first | exact HB.out | apply below_alloc | apply pw_below_drewN | apply below_drew1 | refine below_set ?_ GE101.out | refine below_set ?_ GE102.out | refine below_set ?_ GE114.out | refine below_set ?_ GE121.out) | exact HB.out)⟩
end Go.Proofs.YtnelblndidciiaaDoor.P

-- from the text Q
namespace Go.Proofs.YtnelblndidciiaaDoor.P
open Go.RowKit Go.ChangeShapes Go.WideShapes Go.ChangeAt Go.Deep Go.Proofs.YtnelblndidciiaaDoorW.PrintWords Go.Proofs.YtnelblndidciiaaDoorW.PrintLast Go.Proofs.YtnelblndidciiaaDoorW.PrintMore
set_option linter.unusedVariables false
set_option linter.unusedSimpArgs false
set_option maxRecDepth 100000
theorem list_of {α : Type} {p : Nat → α → Prop} : ∀ n : Nat, (∀ i, i < n → ∃ x, p i x) → ∃ l : List α, l.length = n ∧ ∀ i x, l[i]? = some x → p i x
  | 0, _ => ⟨[], rfl, fun i x h => by simp at h⟩
  | n + 1, h => by
    obtain ⟨l, hl, hp⟩ := list_of n (fun i hi => h i (by omega))
    obtain ⟨x, hx⟩ := h n (by omega)
    refine ⟨l ++ [x], by simp [hl], fun i y hy => ?_⟩
    rcases Nat.lt_trichotomy i n with h1 | h1 | h1
    · exact hp i y (by rw [List.getElem?_append_left (by omega)] at hy; exact hy)
    · subst h1; rw [List.getElem?_append_right (by omega), hl] at hy; simp at hy; subst hy; exact hx
    · rw [List.getElem?_eq_none (by simp; omega)] at hy; cases hy
section
variable {H : Type} {enc : TypeId × Value → H} {w : World} {base : Nat} {spare : Nat → Bool} {held : Bool} {fuel : Nat} {cs : List Value} {x : DataW H × List MemPlace}
theorem sized_any {P : Program} {t e : TypeId} {a : Option Addr} {len cap : Nat} {d : DataW H} {ps : List MemPlace} {ts : List TypeId} {ds : List (DataW H)} {j : Nat} (hsz : (DataW.weightsEach P ts ds).all (· ≤ reachBytes) = true) (ht : ts[j]? = some t) (hd : ds[j]? = some d) (hu : P.underlying t = some (.slice e)) {B : Nat} (hB : P.bytesOf e = B) (h : DataW.Trod enc P w base spare held t (.slice a len cap) d ps) : len * B ≤ 140737488351232 := by
  obtain ⟨fuel, hf⟩ := h
  rcases open_slice hu hf with ⟨hcs, _⟩ | ⟨a', len', cap', m, n, D, Pl, hcs, _, hl, _, _, hx, _⟩
  · simp [Value.cells] at hcs
    obtain ⟨rfl, rfl, rfl⟩ := hcs
    simp
  · simp [Value.cells] at hcs
    obtain ⟨rfl, rfl, rfl⟩ := hcs
    obtain ⟨hx, _⟩ := Prod.mk.inj hx
    subst hx
    have z := sized_slice hsz ht hd hu
    rw [hB, List.length_map, List.length_range] at z
    exact Nat.le_trans (Nat.mul_le_mul_right _ (Nat.le_add_right _ _)) z
def Wf23 (x : S23) : Prop := (Lit.int .i64 x.f0).wf = true ∧ (Lit.int .i64 x.f1).wf = true ∧ (Lit.int .i64 x.f2).wf = true ∧ x.f3.size ≤ maxLen
theorem cells23 : Tryd.prog.cellsOf 23 = 4 := by kernel_rfl
theorem trod23 (h : DataW.trod enc Tryd.prog w base spare held fuel 23 cs = some x) : ∃ s : S23, cs = [.int .i64 s.f0, .int .i64 s.f1, .int .i64 s.f2, .string s.f3] ∧ Wf23 s := by
  obtain ⟨xs, n, _, _, hlen, hxl, hf⟩ := DataW.trod_struct Tryd.underlying23 h
  rw [cells23] at hlen
  match cs, hlen, xs, hxl with
  | [c0, c1, c2, c3], _, [y0, y1, y2, y3], _ =>
    have g0 : DataW.trod enc Tryd.prog w base spare held n 3 (List.take (Tryd.prog.cellsOf 3) (List.drop 0 [c0, c1, c2, c3])) = some y0 := hf 0 _ rfl
    rw [show Tryd.prog.cellsOf 3 = 1 from by kernel_rfl] at g0
    replace g0 : DataW.trod enc Tryd.prog w base spare held n 3 [c0] = some y0 := g0
    have g1 : DataW.trod enc Tryd.prog w base spare held n 3 (List.take (Tryd.prog.cellsOf 3) (List.drop 1 [c0, c1, c2, c3])) = some y1 := hf 1 _ rfl
    rw [show Tryd.prog.cellsOf 3 = 1 from by kernel_rfl] at g1
    replace g1 : DataW.trod enc Tryd.prog w base spare held n 3 [c1] = some y1 := g1
    have g2 : DataW.trod enc Tryd.prog w base spare held n 3 (List.take (Tryd.prog.cellsOf 3) (List.drop 2 [c0, c1, c2, c3])) = some y2 := hf 2 _ rfl
    rw [show Tryd.prog.cellsOf 3 = 1 from by kernel_rfl] at g2
    replace g2 : DataW.trod enc Tryd.prog w base spare held n 3 [c2] = some y2 := g2
    have g3 : DataW.trod enc Tryd.prog w base spare held n 9 (List.take (Tryd.prog.cellsOf 9) (List.drop 3 [c0, c1, c2, c3])) = some y3 := hf 3 _ rfl
    rw [show Tryd.prog.cellsOf 9 = 1 from by kernel_rfl] at g3
    replace g3 : DataW.trod enc Tryd.prog w base spare held n 9 [c3] = some y3 := g3
    obtain ⟨s0, e0, -, w0⟩ := DataW.trod_int Tryd.underlying3 g0
    simp only [List.cons.injEq, and_true] at e0
    subst e0
    obtain ⟨s1, e1, -, w1⟩ := DataW.trod_int Tryd.underlying3 g1
    simp only [List.cons.injEq, and_true] at e1
    subst e1
    obtain ⟨s2, e2, -, w2⟩ := DataW.trod_int Tryd.underlying3 g2
    simp only [List.cons.injEq, and_true] at e2
    subst e2
    obtain ⟨s3, e3, -, w3⟩ := DataW.trod_string Tryd.underlying9 g3
    simp only [List.cons.injEq, and_true] at e3
    subst e3
    exact ⟨⟨s0, s1, s2, s3⟩, rfl, w0, w1, w2, w3⟩
theorem arg23 {W : World} {r : Reach} {b0 : Nat} {v : Value} {d : DataW H} {p : List MemPlace} (hv : Value.okWide Tryd.prog W r b0 23 v) (h : DataW.Trod enc Tryd.prog w base spare held 23 v d p) : ∃ s : S23, v = .agg #[.int .i64 s.f0, .int .i64 s.f1, .int .i64 s.f2, .string s.f3] ∧ Wf23 s := by
  obtain ⟨cs, rfl, _⟩ := okWide_struct Tryd.underlying23 hv
  obtain ⟨fuel, hf⟩ := h
  obtain ⟨s, e, hw⟩ := trod23 hf
  refine ⟨s, ?_, hw⟩
  have e2 : cs.toList = _ := e
  rw [← e2]
def Wf25 (x : S25) : Prop := (Lit.int .i64 x.f0).wf = true ∧ (Lit.int .i64 x.f1).wf = true ∧ (Lit.int .i64 x.f2).wf = true ∧ (Lit.int .i64 x.f3).wf = true ∧ True ∧ x.f5.size ≤ maxLen
theorem cells25 : Tryd.prog.cellsOf 25 = 6 := by kernel_rfl
theorem trod25 (h : DataW.trod enc Tryd.prog w base spare held fuel 25 cs = some x) : ∃ s : S25, cs = [.int .i64 s.f0, .int .i64 s.f1, .int .i64 s.f2, .int .i64 s.f3, .bool s.f4, .string s.f5] ∧ Wf25 s := by
  obtain ⟨xs, n, _, _, hlen, hxl, hf⟩ := DataW.trod_struct Tryd.underlying25 h
  rw [cells25] at hlen
  match cs, hlen, xs, hxl with
  | [c0, c1, c2, c3, c4, c5], _, [y0, y1, y2, y3, y4, y5], _ =>
    have g0 : DataW.trod enc Tryd.prog w base spare held n 3 (List.take (Tryd.prog.cellsOf 3) (List.drop 0 [c0, c1, c2, c3, c4, c5])) = some y0 := hf 0 _ rfl
    rw [show Tryd.prog.cellsOf 3 = 1 from by kernel_rfl] at g0
    replace g0 : DataW.trod enc Tryd.prog w base spare held n 3 [c0] = some y0 := g0
    have g1 : DataW.trod enc Tryd.prog w base spare held n 3 (List.take (Tryd.prog.cellsOf 3) (List.drop 1 [c0, c1, c2, c3, c4, c5])) = some y1 := hf 1 _ rfl
    rw [show Tryd.prog.cellsOf 3 = 1 from by kernel_rfl] at g1
    replace g1 : DataW.trod enc Tryd.prog w base spare held n 3 [c1] = some y1 := g1
    have g2 : DataW.trod enc Tryd.prog w base spare held n 3 (List.take (Tryd.prog.cellsOf 3) (List.drop 2 [c0, c1, c2, c3, c4, c5])) = some y2 := hf 2 _ rfl
    rw [show Tryd.prog.cellsOf 3 = 1 from by kernel_rfl] at g2
    replace g2 : DataW.trod enc Tryd.prog w base spare held n 3 [c2] = some y2 := g2
    have g3 : DataW.trod enc Tryd.prog w base spare held n 3 (List.take (Tryd.prog.cellsOf 3) (List.drop 3 [c0, c1, c2, c3, c4, c5])) = some y3 := hf 3 _ rfl
    rw [show Tryd.prog.cellsOf 3 = 1 from by kernel_rfl] at g3
    replace g3 : DataW.trod enc Tryd.prog w base spare held n 3 [c3] = some y3 := g3
    have g4 : DataW.trod enc Tryd.prog w base spare held n 4 (List.take (Tryd.prog.cellsOf 4) (List.drop 4 [c0, c1, c2, c3, c4, c5])) = some y4 := hf 4 _ rfl
    rw [show Tryd.prog.cellsOf 4 = 1 from by kernel_rfl] at g4
    replace g4 : DataW.trod enc Tryd.prog w base spare held n 4 [c4] = some y4 := g4
    have g5 : DataW.trod enc Tryd.prog w base spare held n 9 (List.take (Tryd.prog.cellsOf 9) (List.drop 5 [c0, c1, c2, c3, c4, c5])) = some y5 := hf 5 _ rfl
    rw [show Tryd.prog.cellsOf 9 = 1 from by kernel_rfl] at g5
    replace g5 : DataW.trod enc Tryd.prog w base spare held n 9 [c5] = some y5 := g5
    obtain ⟨s0, e0, -, w0⟩ := DataW.trod_int Tryd.underlying3 g0
    simp only [List.cons.injEq, and_true] at e0
    subst e0
    obtain ⟨s1, e1, -, w1⟩ := DataW.trod_int Tryd.underlying3 g1
    simp only [List.cons.injEq, and_true] at e1
    subst e1
    obtain ⟨s2, e2, -, w2⟩ := DataW.trod_int Tryd.underlying3 g2
    simp only [List.cons.injEq, and_true] at e2
    subst e2
    obtain ⟨s3, e3, -, w3⟩ := DataW.trod_int Tryd.underlying3 g3
    simp only [List.cons.injEq, and_true] at e3
    subst e3
    obtain ⟨s4, e4, -⟩ := DataW.trod_bool Tryd.underlying4 g4
    simp only [List.cons.injEq, and_true] at e4
    subst e4
    obtain ⟨s5, e5, -, w5⟩ := DataW.trod_string Tryd.underlying9 g5
    simp only [List.cons.injEq, and_true] at e5
    subst e5
    exact ⟨⟨s0, s1, s2, s3, s4, s5⟩, rfl, w0, w1, w2, w3, trivial, w5⟩
theorem arg25 {W : World} {r : Reach} {b0 : Nat} {v : Value} {d : DataW H} {p : List MemPlace} (hv : Value.okWide Tryd.prog W r b0 25 v) (h : DataW.Trod enc Tryd.prog w base spare held 25 v d p) : ∃ s : S25, v = .agg #[.int .i64 s.f0, .int .i64 s.f1, .int .i64 s.f2, .int .i64 s.f3, .bool s.f4, .string s.f5] ∧ Wf25 s := by
  obtain ⟨cs, rfl, _⟩ := okWide_struct Tryd.underlying25 hv
  obtain ⟨fuel, hf⟩ := h
  obtain ⟨s, e, hw⟩ := trod25 hf
  refine ⟨s, ?_, hw⟩
  have e2 : cs.toList = _ := e
  rw [← e2]
theorem arg36 {W : World} {r : Reach} {b0 : Nat} {v : Value} {d : DataW H} {p : List MemPlace} (hv : Value.okWide Tryd.prog W r b0 36 v) (h : DataW.Trod enc Tryd.prog w base (fun _ => true) held 36 v d p) : ∃ (A : Option Addr) (cap : Nat) (l : List S23), v = .slice A l.length cap ∧ Kd.C k23 w A l.length l ∧ l.length ≤ cap ∧ ∀ y ∈ l, Wf23 y := by
  obtain ⟨a0, len0, cap0, rfl⟩ := okWide_slice Tryd.underlying36 hv
  obtain ⟨fuel, hf⟩ := h
  rcases open_slice Tryd.underlying36 hf with ⟨hcs, _⟩ | ⟨a, len, cap, m, n, D, Pl, hcs, _, hl, hm, hmm, _, hi⟩
  · simp [Value.cells] at hcs
    obtain ⟨rfl, rfl, rfl⟩ := hcs
    exact ⟨none, 0, [], rfl, ⟨rfl, by simp, fun h => absurd h (by simp)⟩, Nat.le_refl _, fun y hy => by cases hy⟩
  · simp [Value.cells] at hcs
    obtain ⟨rfl, rfl, rfl⟩ := hcs
    simp only [if_true] at hmm
    subst hmm
    obtain ⟨l, hll, hp⟩ := list_of (p := fun i (s : S23) => (∀ j u, ([.int .i64 s.f0, .int .i64 s.f1, .int .i64 s.f2, .string s.f3] : List Value)[j]? = some u → w.cell? (a.add (i * 4 + j)) = some u) ∧ Wf23 s) len0 (fun i him => by
      obtain ⟨cs', hc, ht⟩ := hi i (by omega)
      rw [show Tryd.prog.cellsOf 23 = 4 from by kernel_rfl] at hc
      obtain ⟨_, hcl, hat⟩ := World.cells?_some hc
      obtain ⟨s, rfl, hw⟩ := trod23 ht
      refine ⟨s, fun j u hj => ?_, hw⟩
      have hjn : j < 4 := by rcases Nat.lt_or_ge j 4 with h | h; exact h; rw [List.getElem?_eq_none (by simpa using h)] at hj; cases hj
      rw [← Go.Deep.add_add, hat j hjn]; exact hj)
    subst hll
    refine ⟨some a, _, l, rfl, ⟨rfl, by simp only [maxLen] at hm; omega, fun _ => ⟨a, rfl, fun j q hq => ⟨_, rfl, k23_mk w q, fun i u hu => (hp j q hq).1 i u hu⟩⟩⟩, hl, fun y hy => ?_⟩
    obtain ⟨i, hi, rfl⟩ := List.getElem_of_mem hy
    exact (hp i _ (List.getElem?_eq_getElem hi)).2
theorem arg50 {W : World} {r : Reach} {b0 : Nat} {v : Value} {d : DataW H} {p : List MemPlace} (hv : Value.okWide Tryd.prog W r b0 50 v) (h : DataW.Trod enc Tryd.prog w base (fun _ => true) held 50 v d p) : ∃ (A : Option Addr) (cap : Nat) (l : List Int), v = .slice A l.length cap ∧ Kd.C (Kd.int .u8) w A l.length l ∧ l.length ≤ cap ∧ ∀ y ∈ l, (Lit.int .u8 y).wf = true := by
  obtain ⟨a0, len0, cap0, rfl⟩ := okWide_slice Tryd.underlying50 hv
  obtain ⟨fuel, hf⟩ := h
  rcases open_slice Tryd.underlying50 hf with ⟨hcs, _⟩ | ⟨a, len, cap, m, n, D, Pl, hcs, _, hl, hm, hmm, _, hi⟩
  · simp [Value.cells] at hcs
    obtain ⟨rfl, rfl, rfl⟩ := hcs
    exact ⟨none, 0, [], rfl, ⟨rfl, by simp, fun h => absurd h (by simp)⟩, Nat.le_refl _, fun y hy => by cases hy⟩
  · simp [Value.cells] at hcs
    obtain ⟨rfl, rfl, rfl⟩ := hcs
    simp only [if_true] at hmm
    subst hmm
    obtain ⟨l, hll, hp⟩ := list_of (p := fun i (s : Int) => (∀ j u, ([.int .u8 s] : List Value)[j]? = some u → w.cell? (a.add (i * 1 + j)) = some u) ∧ (Lit.int .u8 s).wf = true) len0 (fun i him => by
      obtain ⟨cs', hc, ht⟩ := hi i (by omega)
      rw [show Tryd.prog.cellsOf 5 = 1 from by kernel_rfl] at hc
      obtain ⟨_, hcl, hat⟩ := World.cells?_some hc
      obtain ⟨s, rfl, -, hw⟩ := DataW.trod_int Tryd.underlying5 ht
      refine ⟨s, fun j u hj => ?_, hw⟩
      have hjn : j < 1 := by rcases Nat.lt_or_ge j 1 with h | h; exact h; rw [List.getElem?_eq_none (by simpa using h)] at hj; cases hj
      rw [← Go.Deep.add_add, hat j hjn]; exact hj)
    subst hll
    refine ⟨some a, _, l, rfl, ⟨rfl, by simp only [maxLen] at hm; omega, fun _ => ⟨a, rfl, fun j q hq => ⟨_, rfl, rfl, fun i u hu => (hp j q hq).1 i u hu⟩⟩⟩, hl, fun y hy => ?_⟩
    obtain ⟨i, hi, rfl⟩ := List.getElem_of_mem hy
    exact (hp i _ (List.getElem?_eq_getElem hi)).2
theorem arg82 {W : World} {r : Reach} {b0 : Nat} {v : Value} {d : DataW H} {p : List MemPlace} (hv : Value.okWide Tryd.prog W r b0 82 v) (h : DataW.Trod enc Tryd.prog w base (fun _ => true) held 82 v d p) : ∃ (A : Option Addr) (cap : Nat) (l : List Int), v = .slice A l.length cap ∧ Kd.C (Kd.int .i64) w A l.length l ∧ l.length ≤ cap ∧ ∀ y ∈ l, (Lit.int .i64 y).wf = true := by
  obtain ⟨a0, len0, cap0, rfl⟩ := okWide_slice Tryd.underlying82 hv
  obtain ⟨fuel, hf⟩ := h
  rcases open_slice Tryd.underlying82 hf with ⟨hcs, _⟩ | ⟨a, len, cap, m, n, D, Pl, hcs, _, hl, hm, hmm, _, hi⟩
  · simp [Value.cells] at hcs
    obtain ⟨rfl, rfl, rfl⟩ := hcs
    exact ⟨none, 0, [], rfl, ⟨rfl, by simp, fun h => absurd h (by simp)⟩, Nat.le_refl _, fun y hy => by cases hy⟩
  · simp [Value.cells] at hcs
    obtain ⟨rfl, rfl, rfl⟩ := hcs
    simp only [if_true] at hmm
    subst hmm
    obtain ⟨l, hll, hp⟩ := list_of (p := fun i (s : Int) => (∀ j u, ([.int .i64 s] : List Value)[j]? = some u → w.cell? (a.add (i * 1 + j)) = some u) ∧ (Lit.int .i64 s).wf = true) len0 (fun i him => by
      obtain ⟨cs', hc, ht⟩ := hi i (by omega)
      rw [show Tryd.prog.cellsOf 3 = 1 from by kernel_rfl] at hc
      obtain ⟨_, hcl, hat⟩ := World.cells?_some hc
      obtain ⟨s, rfl, -, hw⟩ := DataW.trod_int Tryd.underlying3 ht
      refine ⟨s, fun j u hj => ?_, hw⟩
      have hjn : j < 1 := by rcases Nat.lt_or_ge j 1 with h | h; exact h; rw [List.getElem?_eq_none (by simpa using h)] at hj; cases hj
      rw [← Go.Deep.add_add, hat j hjn]; exact hj)
    subst hll
    refine ⟨some a, _, l, rfl, ⟨rfl, by simp only [maxLen] at hm; omega, fun _ => ⟨a, rfl, fun j q hq => ⟨_, rfl, rfl, fun i u hu => (hp j q hq).1 i u hu⟩⟩⟩, hl, fun y hy => ?_⟩
    obtain ⟨i, hi, rfl⟩ := List.getElem_of_mem hy
    exact (hp i _ (List.getElem?_eq_getElem hi)).2
end
end Go.Proofs.YtnelblndidciiaaDoor.P

-- from the text Pz
namespace Go.Proofs.YtnelblndidciiaaDoor.P
open Go.RowKit Go.Proofs.YtnelblndidciiaaDoorW.PrintWords Go.Proofs.YtnelblndidciiaaDoorW.PrintLast Go.Proofs.YtnelblndidciiaaDoorW.PrintMore
set_option linter.unusedVariables false
set_option linter.unusedSimpArgs false
theorem bt_extract (s : ByteArray) (a b i : Nat) (h : a + i < b) (h2 : a + i < s.size) : bt (s.extract a b) (i : Int) = bt s ((a + i : Nat) : Int) := by
  rw [btN _ i (by simp only [ByteArray.size_extract]; omega), btN _ (a + i) h2, ByteArray.getElem_extract]
theorem str_size (l : List Int) : (strOfNums l).size = l.length := by simp [strOfNums, ByteArray.size]
theorem str_bt (l : List Int) (j : Nat) (h : j < l.length) (h0 : 0 ≤ l.getD j 0) (h1 : l.getD j 0 ≤ 255) : bt (strOfNums l) (j : Int) = l.getD j 0 := by
  rw [btN _ j (by rw [str_size]; exact h)]
  have e : (strOfNums l)[j]'(by rw [str_size]; exact h) = UInt8.ofNat (l.getD j 0).toNat := by
    simp [strOfNums, ByteArray.getElem_eq_getElem_data, List.getD, h]
  rw [e]
  simp only [UInt8.toNat_ofNat']
  omega
theorem okc_bt (s : ByteArray) (n x : Int) (h : okS n s = true) (h0 : 0 ≤ x) (h1 : x < s.size) : okc n (bt s x) = true := by
  obtain ⟨m, rfl⟩ := Int.eq_ofNat_of_zero_le h0
  rw [btN s m (by omega)]
  exact (okS_iff n s).1 h m (by omega)
theorem okc_fill (n : Int) (h : n = 4 ∨ n = 5) : okc n (fillc n) = true := by rcases h with rfl | rfl <;> rfl
theorem rep_is (c : UInt8) (m : Nat) : (⟨(Lib.repeatL [c] m).toArray⟩ : ByteArray) = repC c m := by
  unfold repC
  congr 1
  have : Lib.repeatL [c] m = List.replicate m c := by
    induction m with
    | zero => rfl
    | succ m ih => simp [Lib.repeatL, ih, List.replicate_succ]
  rw [this, List.toArray_replicate]
theorem fillU_c (n : Int) : ((fillU n).toNat : Int) = fillc n := by unfold fillU fillc; split <;> rfl
theorem w_next (j : Nat) (h : j ≤ 250) : wrap64 ((j : Int) + 1) = ((j + 1 : Nat) : Int) := by unfold wrap64; omega
theorem rev_is (s : S23) (h : okV s = true) : bits_Reverse.f s.f0 s.f1 s.f2 s.f3 = some (s.f0, 0, 0, revB s.f3, 0) := if_pos h
theorem revB_size (s : ByteArray) : (revB s).size = s.size := by unfold revB; rw [str_size, revL_len]
theorem revB_bt (s : ByteArray) (j : Nat) (h : j < s.size) : bt (revB s) (j : Int) = bt s ((s.size - 1 - j : Nat) : Int) := by
  have e := revL_get s s.size (Nat.le_refl _) j h
  have hr := bt_range s ((s.size - 1 - j : Nat) : Int)
  unfold revB
  rw [str_bt _ j (by rw [revL_len]; exact h) (by rw [e]; exact hr.1) (by rw [e]; exact hr.2), e]
theorem okS_of (n : Int) (s : ByteArray) (h : ∀ j : Nat, j < s.size → okc n (bt s (j : Int)) = true) : okS n s = true := by
  rw [okS_iff]
  intro k hk
  rw [← btN s k hk]
  exact h k hk
theorem okV_mk (n : Int) (s : ByteArray) (hn : n = 4 ∨ n = 5) (h1 : s.size ≤ 250) (h2 : okS n s = true) : okV ⟨n, 0, 0, s⟩ = true := by
  unfold okV validB
  simp only [h2]
  rw [decide_eq_true h1]
  rcases hn with e | e <;> rw [e] <;> rfl
theorem rev_ok (s : S23) (h : okV s = true) : okV ⟨s.f0, 0, 0, revB s.f3⟩ = true := by
  obtain ⟨k1, -, -, k4, k5⟩ := okV_parts h
  refine okV_mk _ _ k1 (by rw [revB_size]; exact k4) (okS_of _ _ fun j hj => ?_)
  rw [revB_size] at hj
  rw [revB_bt _ _ hj]
  exact okc_bt _ _ _ k5 (Int.natCast_nonneg _) (by omega)
theorem awake_true : ironbarklaw05_awake.f = some true := by decide +kernel
theorem toList_nil_iff (s : ByteArray) : (s.toList == ([] : List UInt8)) = decide (s.size = 0) := by
  rw [ByteArray.toList_eq]
  by_cases h : s.size = 0
  · have e := List.eq_nil_of_length_eq_zero (show s.data.toList.length = 0 by rw [data_length]; exact h)
    rw [decide_eq_true h, e]; rfl
  · rw [decide_eq_false h, beq_eq_false_iff_ne]
    intro e; apply h; rw [← data_length, e]; rfl
theorem vtype_is (k p q n : Int) (v : Bool) (s : ByteArray) : ironbarkref05_ValidType.f k p q n v s = some (validT k p q n v s) := by
  unfold ironbarkref05_ValidType.f validT
  rw [toList_nil_iff]
  by_cases h4 : k = 4
  · subst h4
    by_cases h0 : n ≥ 0 <;> by_cases h1 : n ≤ 250 <;> by_cases hp : p = 0 <;> by_cases hq : q = 0 <;> simp [h0, h1, hp, hq]
    all_goals (intros; omega)
  · by_cases h5 : k = 5
    · subst h5
      by_cases h0 : n ≥ 0 <;> by_cases h1 : n ≤ 250 <;> by_cases hp : p = 0 <;> by_cases hq : q = 0 <;> simp [h0, h1, hp, hq]
      all_goals (intros; omega)
    · simp [h4, h5]
theorem validT_parts {k p q n : Int} {v : Bool} {s : ByteArray} (h : validT k p q n v s = true) : (k = 4 ∨ k = 5) ∧ 0 ≤ n ∧ n ≤ 250 := by
  simp only [validT, Bool.and_eq_true, Bool.or_eq_true, beq_iff_eq, decide_eq_true_eq] at h
  exact ⟨h.1, h.2.2.2.1, h.2.2.2.2.1⟩
def FR (v : S23) (t : S25) : Int × Int × Int × ByteArray × Int × Int :=
  if okV v = true then (if validT t.f0 t.f1 t.f2 t.f3 t.f4 t.f5 = true then fitRes v t else (0, 0, 0, ⟨#[]⟩, 0, 1)) else (0, 0, 0, ⟨#[]⟩, 0, 1)
theorem fit_some (v : S23) (t : S25) : bits_Fit.f v.f0 v.f1 v.f2 v.f3 t.f0 t.f1 t.f2 t.f3 t.f4 t.f5 = some (FR v t) := by
  unfold bits_Fit.f FR fitRes okV
  by_cases h1 : validB v.f0 v.f1 v.f2 v.f3 = true
  · by_cases h2 : validT t.f0 t.f1 t.f2 t.f3 t.f4 t.f5 = true
    · simp only [if_pos h1, if_pos h2]
      by_cases h3 : v.f0 = t.f0
      · simp only [if_pos h3]
        by_cases h4 : t.f3 < (v.f3.size : Int)
        · simp only [if_pos h4]
        · simp only [if_neg h4]
          by_cases h5 : t.f4 = true
          · simp only [if_pos h5]
          · simp only [if_neg h5]
      · simp only [if_neg h3]
    · simp only [if_pos h1, if_neg h2]
  · simp only [if_neg h1]
theorem fill_same (n : Int) (h : n = 4 ∨ n = 5) : fillB n = fillU n := by rcases h with rfl | rfl <;> rfl
theorem filledS_in (s : ByteArray) (k : Int) (n : Int) (h : (s.size : Int) ≤ n) : filledS s k n = s ++ repC (fillB k) (n.toNat - s.size) := by
  unfold filledS
  apply bytes_ext
  · simp only [ByteArray.size_extract, ByteArray.size_append, repC_size]; omega
  · intro j hj
    simp only [ByteArray.size_extract, ByteArray.size_append, repC_size] at hj
    rw [bt_extract0 _ _ _ (by omega) (by rw [ByteArray.size_append, repC_size]; omega)]
theorem repC_zero (s : ByteArray) (c : UInt8) : s ++ repC c 0 = s := by
  apply bytes_ext
  · rw [ByteArray.size_append, repC_size]; omega
  · intro j hj
    rw [ByteArray.size_append, repC_size] at hj
    rw [bt_append, if_pos (by omega)]
theorem rfit_ev (v : S23) (t : S25) : Ev (fun k => ironbarkref05_Fit.f k v.f0 v.f1 v.f2 v.f3 t.f0 t.f1 t.f2 t.f3 t.f4 t.f5) (FR v t) := by
  unfold ironbarkref05_Fit.f FR
  simp only [ironbarkref05_ValidT.f, Option.bind_some, vtype_is]
  by_cases h1 : okV v = true
  · have h1' : validB v.f0 v.f1 v.f2 v.f3 = true := h1
    simp only [if_pos h1, if_pos h1']
    obtain ⟨k1, k2, k3, k4, k5⟩ := okV_parts h1
    by_cases h2 : validT t.f0 t.f1 t.f2 t.f3 t.f4 t.f5 = true
    · simp only [if_pos h2]
      obtain ⟨t1, t2, t3⟩ := validT_parts h2
      refine Ev.step (f := fun _ => some (fitRes v t)) (fun k => ?_) (Ev.now _)
      simp only [ironbarkref05_Fit.j0, h2, Bool.not_true]
      rw [if_neg (by decide)]
      unfold fitRes
      by_cases h3 : v.f0 = t.f0
      · rw [if_pos h3, if_pos h3]
        by_cases h4 : t.f3 < (v.f3.size : Int)
        · rw [if_pos h4, if_pos h4, if_pos t2, if_pos (by omega)]
          by_cases h5 : t.f4 = true
          · rw [if_pos h5, k2, k3]
          · rw [if_neg h5]
            unfold ironbarkref05_FilledT.f
            rw [if_pos (by omega), Option.bind_some, filledS_in _ _ _ (by rw [size_extract0]; omega), size_extract0, show t.f3.toNat - min t.f3.toNat v.f3.size = 0 by omega, repC_zero, k2, k3]
        · rw [if_neg (by omega), if_neg h4]
          by_cases h5 : t.f4 = true
          · rw [if_pos h5, if_pos h5]
          · rw [if_neg h5, if_neg h5]
            unfold ironbarkref05_FilledT.f
            rw [if_pos (by omega), Option.bind_some, filledS_in _ _ _ (by omega), rep_is, fill_same _ k1, k2, k3]
      · rw [if_neg h3, if_neg h3]
    · simp only [if_neg h2]
      refine Ev.step (f := fun _ => some (0, 0, 0, ⟨#[]⟩, 0, 1)) (fun k => ?_) (Ev.now _)
      have h2' : validT t.f0 t.f1 t.f2 t.f3 t.f4 t.f5 = false := by simpa using h2
      simp only [ironbarkref05_Fit.j0, h2', Bool.not_false, if_true]
  · have h1' : ¬ validB v.f0 v.f1 v.f2 v.f3 = true := h1
    simp only [if_neg h1, if_neg h1']
    refine Ev.step (f := fun _ => some (0, 0, 0, ⟨#[]⟩, 0, 1)) (fun k => ?_) (Ev.now _)
    simp only [ironbarkref05_Fit.j0, if_true]
theorem fit_again (k : Int) (s : ByteArray) (t : S25) (h : okV ⟨k, 0, 0, s⟩ = true) (hT : validT t.f0 t.f1 t.f2 t.f3 t.f4 t.f5 = true) (hk : k = t.f0) (hs : (s.size : Int) ≤ t.f3) (he : t.f4 = false → (s.size : Int) = t.f3) :
    bits_Fit.f k 0 0 s t.f0 t.f1 t.f2 t.f3 t.f4 t.f5 = some (k, 0, 0, s, 0, 0) := by
  unfold bits_Fit.f
  rw [if_pos (show validB k 0 0 s = true from h), if_pos hT, if_pos hk, if_neg (by omega)]
  by_cases h5 : t.f4 = true
  · rw [if_pos h5]
  · rw [if_neg h5, rep_is]
    have := he (by simpa using h5)
    rw [show t.f3.toNat - s.size = 0 by omega, repC_zero]
theorem okS_ext (n : Int) (s : ByteArray) (m : Nat) (h : okS n s = true) : okS n (s.extract 0 m) = true := by
  refine okS_of _ _ fun j hj => ?_
  rw [size_extract0] at hj
  rw [bt_extract0 _ _ _ (by omega) (by omega)]
  exact okc_bt _ _ _ h (Int.natCast_nonneg _) (by omega)
theorem okS_fill (n : Int) (hn : n = 4 ∨ n = 5) (s : ByteArray) (m : Nat) (h : okS n s = true) : okS n (s ++ repC (fillU n) m) = true := by
  refine okS_of _ _ fun j hj => ?_
  rw [ByteArray.size_append, repC_size] at hj
  rw [bt_append]
  by_cases hc : j < s.size
  · rw [if_pos hc]; exact okc_bt _ _ _ h (Int.natCast_nonneg _) (by omega)
  · rw [if_neg hc, bt_repC _ _ _ (by omega), fillU_c]; exact okc_fill n hn
/-- What is told of an Errno 0: it is fitted again as it is. -/
theorem fit_twice (v : S23) (t : S25) (h : (FR v t).2.2.2.2.2 = 0) :
    bits_Fit.f (FR v t).1 (FR v t).2.1 (FR v t).2.2.1 (FR v t).2.2.2.1 t.f0 t.f1 t.f2 t.f3 t.f4 t.f5 = some ((FR v t).1, (FR v t).2.1, (FR v t).2.2.1, (FR v t).2.2.2.1, 0, 0) := by
  unfold FR at h ⊢
  by_cases h1 : okV v = true
  · simp only [if_pos h1] at h ⊢
    obtain ⟨k1, k2, k3, k4, k5⟩ := okV_parts h1
    by_cases h2 : validT t.f0 t.f1 t.f2 t.f3 t.f4 t.f5 = true
    · simp only [if_pos h2] at h ⊢
      obtain ⟨t1, t2, t3⟩ := validT_parts h2
      unfold fitRes at h ⊢
      by_cases h3 : v.f0 = t.f0
      · simp only [if_pos h3] at h ⊢
        by_cases h4 : t.f3 < (v.f3.size : Int)
        · simp only [if_pos h4]
          exact fit_again _ _ t (okV_mk _ _ k1 (by rw [size_extract0]; omega) (okS_ext _ _ _ k5)) h2 h3 (by rw [size_extract0]; omega) (fun _ => by rw [size_extract0]; omega)
        · simp only [if_neg h4]
          by_cases h5 : t.f4 = true
          · simp only [if_pos h5, k2, k3]
            exact fit_again _ _ t (okV_mk _ _ k1 k4 k5) h2 h3 (by omega) (fun e => by rw [e] at h5; cases h5)
          · simp only [if_neg h5, rep_is]
            exact fit_again _ _ t (okV_mk _ _ k1 (by rw [ByteArray.size_append, repC_size]; omega) (okS_fill _ k1 _ _ k5)) h2 h3 (by rw [ByteArray.size_append, repC_size]; omega) (fun _ => by rw [ByteArray.size_append, repC_size]; omega)
      · simp only [if_neg h3] at h; cases h
    · simp only [if_neg h2] at h; cases h
  · simp only [if_neg h1] at h; cases h
def trL (l : List UInt8) : List UInt8 := l.dropWhile (· == 32)
def trR (l : List UInt8) : List UInt8 := (l.reverse.dropWhile (· == 32)).reverse
theorem trR_nil : trR [] = [] := rfl
theorem trR_snoc (l : List UInt8) (x : UInt8) : trR (l ++ [x]) = if (x == 32) = true then trR l else l ++ [x] := by
  unfold trR
  rw [List.reverse_append, List.reverse_singleton, List.singleton_append, List.dropWhile_cons]
  split
  · rfl
  · rw [List.reverse_cons, List.reverse_reverse]
theorem trR_cons (x : UInt8) (l : List UInt8) : trR (x :: l) = if (trR l).isEmpty = true then (if (x == 32) = true then [] else [x]) else x :: trR l := by
  unfold trR
  rw [List.reverse_cons, List.dropWhile_append, List.isEmpty_reverse]
  split
  · rw [List.dropWhile_cons]; split <;> rfl
  · rw [List.reverse_append]; rfl
theorem trim_comm : ∀ l : List UInt8, trR (trL l) = trL (trR l)
  | [] => rfl
  | x :: l => by
    have ih := trim_comm l
    rw [trR_cons]
    by_cases hx : (x == 32) = true
    · rw [show trL (x :: l) = trL l by unfold trL; rw [List.dropWhile_cons, if_pos hx], ih]
      by_cases he : (trR l).isEmpty = true
      · rw [if_pos he, if_pos hx, List.isEmpty_iff.1 he]
      · rw [if_neg he]; unfold trL; rw [List.dropWhile_cons, if_pos hx]
    · rw [show trL (x :: l) = x :: l by unfold trL; rw [List.dropWhile_cons, if_neg hx], trR_cons]
      by_cases he : (trR l).isEmpty = true
      · rw [if_pos he, if_neg hx]; unfold trL; rw [List.dropWhile_cons, if_neg hx]
      · rw [if_neg he]; unfold trL; rw [List.dropWhile_cons, if_neg hx]
def TR (v : S23) : Int × Int × Int × ByteArray × Int :=
  if okV v = true then (if v.f0 = 5 then (0, 0, 0, ⟨#[]⟩, 10) else (v.f0, 0, 0, ⟨(Lib.trimB v.f3.data.toList 32).toArray⟩, 0)) else (0, 0, 0, ⟨#[]⟩, 1)
theorem trim_some (v : S23) : bits_Trim.f v.f0 v.f1 v.f2 v.f3 = some (TR v) := by
  unfold bits_Trim.f TR
  simp only [bits_Valid.f, Option.bind_some, bits_bitwise.f, bits_with.f]
  by_cases h1 : okV v = true
  · have h1' : validB v.f0 v.f1 v.f2 v.f3 = true := h1
    rw [if_pos h1, if_pos h1']
    by_cases h5 : v.f0 = 5
    · rw [if_pos h5, if_pos (by rw [h5]; rfl)]
    · rw [if_neg h5, if_neg (by simpa using h5)]
      unfold strings_Trim.f
      have := (okV_parts h1).2.2.2.1
      rw [if_pos ⟨rfl, by omega⟩, Option.bind_some]
  · have h1' : ¬ validB v.f0 v.f1 v.f2 v.f3 = true := h1
    rw [if_neg h1, if_neg h1']
theorem bt_32 (s : ByteArray) (i : Nat) (h : i < s.size) : (bt s (i : Int) = 32) ↔ ((s.data.toList[i]'(by rw [data_length]; exact h)) == 32) = true := by
  have e : s.data.toList[i]'(by rw [data_length]; exact h) = s[i]'h := by simp [ByteArray.getElem_eq_getElem_data]
  rw [btN s i h, beq_iff_eq, e]
  constructor
  · intro e
    apply UInt8.toNat.inj
    have : (s[i]'h).toNat = 32 := by omega
    exact this
  · intro e
    rw [e]; rfl
theorem part_data (s : ByteArray) (a b : Nat) (h : b ≤ s.size) : (⟨((s.data.toList.take b).drop a).toArray⟩ : ByteArray) = s.extract a b := by
  apply ByteArray.ext
  rw [ByteArray.data_extract]
  apply Array.ext'
  rw [Array.toList_extract, List.drop_take]
  try rfl
theorem trim_l1 (v0 v1 v2 : Int) (s : ByteArray) (hs : s.size ≤ 250) (a : Nat) : ∀ d b : Nat, b = a + d → b ≤ s.size →
    Ev (fun k => ironbarkref05_Trim.l1 k (a : Int) (b : Int) v0 v1 v2 s) (v0, 0, 0, ⟨(trR ((s.data.toList.take b).drop a)).toArray⟩, 0) := by
  intro d
  induction d with
  | zero =>
    intro b hb hbs
    obtain rfl : b = a := by omega
    refine Ev.step (f := fun _ => some _) (fun k => ?_) (Ev.now _)
    simp only [ironbarkref05_Trim.l1, ironbarkref05_made.f, Option.bind_some]
    rw [if_neg (by omega), if_pos (by omega), if_pos (by omega), if_pos (by omega), ← part_data _ _ _ (by omega), Int.toNat_natCast, List.drop_take_self]
    rfl
  | succ d ih =>
    intro b hb hbs
    have hw : wrap64 ((b : Int) - 1) = ((b - 1 : Nat) : Int) := by unfold wrap64; omega
    have hlt : b - 1 < s.data.toList.length := by rw [data_length]; omega
    have hsp : (s.data.toList.take b).drop a = (s.data.toList.take (b - 1)).drop a ++ [s.data.toList[b - 1]] := by
      obtain ⟨c, rfl⟩ : ∃ c, b = c + 1 := ⟨b - 1, by omega⟩
      simp only [Nat.add_sub_cancel] at hlt ⊢
      rw [List.take_add_one, List.drop_append_of_le_length (by rw [List.length_take]; omega), List.getElem?_eq_getElem hlt]
      rfl
    rw [hsp, trR_snoc]
    by_cases hc : bt s ((b - 1 : Nat) : Int) = 32
    · rw [if_pos ((bt_32 s (b - 1) (by omega)).1 hc)]
      refine Ev.step (fun k => ?_) (ih (b - 1) (by omega) (by omega))
      simp only [ironbarkref05_Trim.l1]
      rw [if_pos (by omega), hw, if_pos (by omega), if_pos (by omega), if_pos hc]
    · rw [if_neg (fun e => hc ((bt_32 s (b - 1) (by omega)).2 e)), ← hsp]
      refine Ev.step (f := fun _ => some _) (fun k => ?_) (Ev.now _)
      simp only [ironbarkref05_Trim.l1, ironbarkref05_made.f, Option.bind_some]
      rw [if_pos (by omega), hw, if_pos (by omega), if_pos (by omega), if_neg hc, if_pos (by omega), if_pos (by omega), if_pos (by omega), part_data _ _ _ (by omega), Int.toNat_natCast, Int.toNat_natCast]
theorem trim_l0 (v0 v1 v2 : Int) (s : ByteArray) (hs : s.size ≤ 250) : ∀ d a : Nat, a + d = s.size →
    Ev (fun k => ironbarkref05_Trim.l0 k (a : Int) (s.size : Int) v0 v1 v2 s) (v0, 0, 0, ⟨(trR (trL (s.data.toList.drop a))).toArray⟩, 0) := by
  intro d
  induction d with
  | zero =>
    intro a ha
    have h1 := trim_l1 v0 v1 v2 s hs a 0 s.size (by omega) (by omega)
    rw [List.take_of_length_le (by rw [data_length]; omega)] at h1
    rw [List.drop_of_length_le (by rw [data_length]; omega)] at h1 ⊢
    refine Ev.step (f := fun k => ironbarkref05_Trim.j1 k (a : Int) (s.size : Int) v0 v1 v2 s) (fun k => ?_) (Ev.step (fun k => ?_) h1)
    · simp only [ironbarkref05_Trim.l0]; rw [if_neg (by omega)]
    · simp only [ironbarkref05_Trim.j1]
  | succ d ih =>
    intro a ha
    have hlt : a < s.data.toList.length := by rw [data_length]; omega
    have hw : wrap64 ((a : Int) + 1) = ((a + 1 : Nat) : Int) := by unfold wrap64; omega
    by_cases hc : bt s (a : Int) = 32
    · have e : trL (s.data.toList.drop a) = trL (s.data.toList.drop (a + 1)) := by
        rw [List.drop_eq_getElem_cons hlt]; unfold trL; rw [List.dropWhile_cons, if_pos ((bt_32 s a (by omega)).1 hc)]
      rw [e]
      refine Ev.step (fun k => ?_) (ih (a + 1) (by omega))
      simp only [ironbarkref05_Trim.l0]
      rw [if_pos (by omega), if_pos (by omega), if_pos (by omega), if_pos hc, hw]
    · have e : trL (s.data.toList.drop a) = s.data.toList.drop a := by
        rw [List.drop_eq_getElem_cons hlt]; unfold trL; rw [List.dropWhile_cons, if_neg (fun h => hc ((bt_32 s a (by omega)).2 h))]
      rw [e]
      have h1 := trim_l1 v0 v1 v2 s hs a (d + 1) s.size (by omega) (by omega)
      rw [List.take_of_length_le (by rw [data_length]; omega)] at h1
      refine Ev.step (f := fun k => ironbarkref05_Trim.j1 k (a : Int) (s.size : Int) v0 v1 v2 s) (fun k => ?_) (Ev.step (fun k => ?_) h1)
      · simp only [ironbarkref05_Trim.l0]; rw [if_pos (by omega), if_pos (by omega), if_pos (by omega), if_neg hc]
      · simp only [ironbarkref05_Trim.j1]
theorem strings_4 (v : S23) : stringsI [v] 4 = if okV v = true then (if v.f0 = 5 then 10 else 0) else 1 := by
  unfold stringsI
  by_cases h : okV v = true
  · have hk := (okV_parts h).1
    rcases hk with e | e <;> simp [h, e]
  · simp [h]
theorem rtrim_ev (v : S23) : Ev (fun k => ironbarkref05_Trim.f k v.f0 v.f1 v.f2 v.f3) (TR v) := by
  unfold ironbarkref05_Trim.f TR
  simp only [ironbarkref05_stringsT.f, Option.bind_some]
  rw [show ([⟨v.f0, v.f1, v.f2, v.f3⟩] : List S23) = [v] from rfl, strings_4]
  by_cases h : okV v = true
  · simp only [if_pos h]
    by_cases h5 : v.f0 = 5
    · simp only [if_pos h5]
      exact Ev.congr (f := fun _ => some (0, 0, 0, ⟨#[]⟩, 10)) (fun k => if_neg (by decide)) (Ev.now _)
    · simp only [if_neg h5, if_true]
      have := trim_l0 v.f0 v.f1 v.f2 v.f3 (okV_parts h).2.2.2.1 v.f3.size 0 (by omega)
      rw [List.drop_zero, trim_comm] at this
      exact this
  · simp only [if_neg h]
    exact Ev.congr (f := fun _ => some (0, 0, 0, ⟨#[]⟩, 1)) (fun k => if_neg (by decide)) (Ev.now _)
def RR (v : S23) : Int × Int × Int × ByteArray × Int := if okV v = true then (v.f0, 0, 0, revB v.f3, 0) else (0, 0, 0, ⟨#[]⟩, 1)
theorem rev_some (v : S23) : bits_Reverse.f v.f0 v.f1 v.f2 v.f3 = some (RR v) := by
  unfold bits_Reverse.f RR
  by_cases h : okV v = true
  · rw [if_pos h, if_pos (show okV ⟨v.f0, v.f1, v.f2, v.f3⟩ = true from h)]
  · rw [if_neg h, if_neg (show ¬ okV ⟨v.f0, v.f1, v.f2, v.f3⟩ = true from h)]
theorem rev_l0 (v0 v1 v2 : Int) (s : ByteArray) (hs : s.size ≤ 250) : ∀ (d i : Nat) (acc : ByteArray), i + d = s.size → acc.size = i → (∀ j : Nat, j < i → bt acc (j : Int) = bt s ((i - 1 - j : Nat) : Int)) →
    Ev (fun k => ironbarkref05_Reverse.l0 k acc (i : Int) v0 v1 v2 s) (v0, 0, 0, revB s, 0) := by
  intro d
  induction d with
  | zero =>
    intro i acc hi ha hb
    have : acc = revB s := by
      apply bytes_ext
      · rw [revB_size]; omega
      · intro j hj
        rw [hb j (by omega), revB_bt _ _ (by omega)]
        congr 2; omega
    subst this
    refine Ev.step (f := fun _ => some _) (fun k => ?_) (Ev.now _)
    simp only [ironbarkref05_Reverse.l0, ironbarkref05_made.f, Option.bind_some]
    rw [if_neg (by omega)]
  | succ d ih =>
    intro i acc hi ha hb
    have hw : wrap64 ((i : Int) + 1) = ((i + 1 : Nat) : Int) := by unfold wrap64; omega
    have hsz : (s.extract i (i + 1)).size = 1 := by rw [ByteArray.size_extract]; omega
    refine Ev.step (fun k => ?_) (ih (i + 1) (s.extract i (i + 1) ++ acc) (by omega) (by rw [ByteArray.size_append, hsz]; omega) (fun j hj => ?_))
    · simp only [ironbarkref05_Reverse.l0]
      rw [if_pos (by omega), if_pos (by omega), hw, if_pos (by omega), if_pos (by omega), Int.toNat_natCast, Int.toNat_natCast, if_pos (by rw [hsz]; omega)]
    · rw [bt_append, hsz]
      by_cases h0 : j < 1
      · obtain rfl : j = 0 := by omega
        rw [if_pos h0, bt_extract _ _ _ _ (by omega) (by omega)]
        congr 2
      · rw [if_neg h0, hb (j - 1) (by omega)]
        congr 2; omega
theorem rrev_ev (v : S23) : Ev (fun k => ironbarkref05_Reverse.f k v.f0 v.f1 v.f2 v.f3) (RR v) := by
  unfold ironbarkref05_Reverse.f RR
  simp only [ironbarkref05_ValidT.f, Option.bind_some]
  by_cases h : okV v = true
  · simp only [if_pos h, if_pos (show validB v.f0 v.f1 v.f2 v.f3 = true from h)]
    exact rev_l0 v.f0 v.f1 v.f2 v.f3 (okV_parts h).2.2.2.1 v.f3.size 0 ⟨#[]⟩ (by omega) rfl (fun j hj => absurd hj (by omega))
  · simp only [if_neg h, if_neg (show ¬ validB v.f0 v.f1 v.f2 v.f3 = true from h)]
    exact Ev.now _
theorem rev_rev (s : ByteArray) : revB (revB s) = s := by
  apply bytes_ext
  · rw [revB_size, revB_size]
  · intro j hj
    rw [revB_size, revB_size] at hj
    rw [revB_bt _ _ (by rw [revB_size]; exact hj), revB_size, revB_bt _ _ (by omega)]
    congr 2; omega
theorem same5 (r : Int × Int × Int × ByteArray × Int) : (!(r.1 == r.1) || (!(r.2.1 == r.2.1) || (!(r.2.2.1 == r.2.2.1) || (!(r.2.2.2.1.toList == r.2.2.2.1.toList))))) = false := by simp
theorem same6 (r : Int × Int × Int × ByteArray × Int × Int) : (!(r.1 == r.1) || (!(r.2.1 == r.2.1) || (!(r.2.2.1 == r.2.2.1) || (!(r.2.2.2.1.toList == r.2.2.2.1.toList))))) = false := by simp
theorem fits_j4 (v : S23) : Ev (fun k => ironbarklaw05_BitsFits.j4 k (RR v).2.2.2.2 false v.f0 v.f1 v.f2 v.f3 (RR v).1 (RR v).2.1 (RR v).2.2.1 (RR v).2.2.2.1) true := by
  refine Ev.step (f := fun _ => some true) (fun k => ?_) (Ev.now _)
  simp only [ironbarklaw05_BitsFits.j4]
  rw [if_neg (by decide), awake_true]
  unfold RR
  by_cases h : okV v = true
  · simp only [if_pos h]
    obtain ⟨k1, k2, k3, k4, k5⟩ := okV_parts h
    have e := rev_is ⟨v.f0, 0, 0, revB v.f3⟩ (rev_ok v h)
    simp only at e
    rw [if_pos trivial, e, Option.bind_some, rev_rev, k2, k3]
    simp
  · simp only [if_neg h]
    rw [if_neg (by decide)]; rfl
theorem fits_j3 (v : S23) : Ev (fun k => ironbarklaw05_BitsFits.j3 k false v.f0 v.f1 v.f2 v.f3) true := by
  have hj := fits_j4 v
  have n1 := rev_some v
  have n2 := rrev_ev v
  generalize RR v = r at *
  refine Ev.step (fun k => ?_) (Ev.bind n2 (f := fun k u => (if (!(r.1 == u.1) || (!(r.2.1 == u.2.1) || (!(r.2.2.1 == u.2.2.1) || (!(r.2.2.2.1.toList == u.2.2.2.1.toList))))) = true then (ironbarklaw05_BitsFits.j4 k r.2.2.2.2 true v.f0 v.f1 v.f2 v.f3 r.1 r.2.1 r.2.2.1 r.2.2.2.1) else (ironbarklaw05_BitsFits.j4 k r.2.2.2.2 (r.2.2.2.2 != u.2.2.2.2) v.f0 v.f1 v.f2 v.f3 r.1 r.2.1 r.2.2.1 r.2.2.2.1))) ?_)
  · simp only [ironbarklaw05_BitsFits.j3]
    rw [if_neg (by decide), n1]; rfl
  · refine Ev.congr (fun k => (if_neg (by rw [same5]; decide))) ?_
    simp only [bne_self_eq_false]; exact hj
theorem fits_j2 (v : S23) : Ev (fun k => ironbarklaw05_BitsFits.j2 k v.f0 v.f1 v.f2 v.f3) true := by
  have hj := fits_j3 v
  have n1 := trim_some v
  have n2 := rtrim_ev v
  generalize TR v = r at *
  refine Ev.step (fun k => ?_) (Ev.bind n2 (f := fun k u => (if (!(r.1 == u.1) || (!(r.2.1 == u.2.1) || (!(r.2.2.1 == u.2.2.1) || (!(r.2.2.2.1.toList == u.2.2.2.1.toList))))) = true then (ironbarklaw05_BitsFits.j3 k true v.f0 v.f1 v.f2 v.f3) else (ironbarklaw05_BitsFits.j3 k (r.2.2.2.2 != u.2.2.2.2) v.f0 v.f1 v.f2 v.f3))) ?_)
  · simp only [ironbarklaw05_BitsFits.j2]
    rw [n1]; rfl
  · refine Ev.congr (fun k => (if_neg (by rw [same5]; decide))) ?_
    simp only [bne_self_eq_false]; exact hj
theorem fits_j1 (v : S23) (t : S25) : Ev (fun k => ironbarklaw05_BitsFits.j1 k (FR v t).2.2.2.2.2 false v.f0 v.f1 v.f2 v.f3 t.f0 t.f1 t.f2 t.f3 t.f4 t.f5 (FR v t).1 (FR v t).2.1 (FR v t).2.2.1 (FR v t).2.2.2.1) true := by
  have hj := fits_j2 v
  have ht := fit_twice v t
  generalize FR v t = r at *
  refine Ev.step (fun k => ?_) hj
  simp only [ironbarklaw05_BitsFits.j1]
  rw [if_neg (by decide)]
  by_cases h : r.2.2.2.2.2 = 0
  · rw [if_pos h, ht h, Option.bind_some]
    simp only [beq_self_eq_true, Bool.not_true, Bool.or_self]
    rw [if_neg (by decide), if_pos trivial, if_pos trivial]
  · rw [if_neg h]
theorem fits_j0 (v : S23) (t : S25) : Ev (fun k => ironbarklaw05_BitsFits.j0 k false v.f0 v.f1 v.f2 v.f3 t.f0 t.f1 t.f2 t.f3 t.f4 t.f5) true := by
  have hj := fits_j1 v t
  have n1 := fit_some v t
  have n2 := rfit_ev v t
  generalize FR v t = r at *
  refine Ev.step (fun k => ?_) (Ev.bind n2 (f := fun k u => (if (!(r.1 == u.1) || (!(r.2.1 == u.2.1) || (!(r.2.2.1 == u.2.2.1) || (!(r.2.2.2.1.toList == u.2.2.2.1.toList))))) = true then (ironbarklaw05_BitsFits.j1 k r.2.2.2.2.2 true v.f0 v.f1 v.f2 v.f3 t.f0 t.f1 t.f2 t.f3 t.f4 t.f5 r.1 r.2.1 r.2.2.1 r.2.2.2.1) else (if r.2.2.2.2.1 = u.2.2.2.2.1 then (ironbarklaw05_BitsFits.j1 k r.2.2.2.2.2 (r.2.2.2.2.2 != u.2.2.2.2.2) v.f0 v.f1 v.f2 v.f3 t.f0 t.f1 t.f2 t.f3 t.f4 t.f5 r.1 r.2.1 r.2.2.1 r.2.2.2.1) else (ironbarklaw05_BitsFits.j1 k r.2.2.2.2.2 true v.f0 v.f1 v.f2 v.f3 t.f0 t.f1 t.f2 t.f3 t.f4 t.f5 r.1 r.2.1 r.2.2.1 r.2.2.2.1)))) ?_)
  · simp only [ironbarklaw05_BitsFits.j0]
    rw [if_neg (by decide), n1]
    simp only [Option.bind_some, bits_Valid.f, ironbarkref05_ValidT.f, bits_ValidType.f, vtype_is, bne_self_eq_false, Bool.false_eq_true, if_false]
  · refine Ev.congr (fun k => (if_neg (by rw [same6]; decide))) ?_
    simp only [bne_self_eq_false, if_true]; exact hj
theorem fits_j0b (v : S23) (t : S25) : Ev (fun k => ironbarklaw05_BitsFits.j0 k true v.f0 v.f1 v.f2 v.f3 t.f0 t.f1 t.f2 t.f3 t.f4 t.f5) true := by
  refine Ev.step (f := fun _ => some true) (fun k => ?_) (Ev.now _)
  simp only [ironbarklaw05_BitsFits.j0]
  rw [if_pos trivial, awake_true]; rfl
theorem fits_ev (v : S23) (t : S25) : Ev (fun k => ironbarklaw05_BitsFits.f k v.f0 v.f1 v.f2 v.f3 t.f0 t.f1 t.f2 t.f3 t.f4 t.f5) true := by
  unfold ironbarklaw05_BitsFits.f
  simp only [ironbarklaw05_lightT.f, Option.bind_some]
  split
  · by_cases h : (t.f5.size : Int) > 300
    · rw [decide_eq_true h]; exact fits_j0b v t
    · rw [decide_eq_false h]; exact fits_j0 v t
  · exact fits_j0b v t
theorem BitsFits_walk (v : S23) (t : S25) (w : World) (_ : Wf23 v) (_ : Wf25 t) :
    Calls Tryd.prog 3 #[.agg #[.int .i64 v.f0, .int .i64 v.f1, .int .i64 v.f2, .string v.f3], .agg #[.int .i64 t.f0, .int .i64 t.f1, .int .i64 t.f2, .int .i64 t.f3, .bool t.f4, .string t.f5]] w fun e w' => e = .returned (.bool true) ∧ Below w.heap.size w w' := by
  obtain ⟨k, hk⟩ := (fits_ev v t).rounds
  exact ironbarklaw05_BitsFits.calls k _ _ _ _ _ _ _ _ _ _ true w hk ⟨rfl⟩
end Go.Proofs.YtnelblndidciiaaDoor.P
