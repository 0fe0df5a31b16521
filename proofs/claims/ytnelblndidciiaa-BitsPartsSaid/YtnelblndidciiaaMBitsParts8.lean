/- Part 8 of the proof of the law BitsParts: functions, contracts and plain laws; merged by this session's program. -/
import Derived.Shelf.Strings.Search1
import Derived.Shelf.Strings.Repeat
import Derived.Shelf.Small.Strs
import Derived.Shelf.Strings.Prefix
import Derived.Shelf.Strings.Builder1
import Derived.Shelf.Strings.Builder2
import Derived.Shelf.Strings.Builder2Cap
import Derived.Shelf.Bits.Mul64
import Derived.Test.YtnelblndidciiaaProg
import Derived.IntWalk
import Derived.Test.YtnelblndidciiaaMBitsParts1
import Derived.Test.YtnelblndidciiaaMBitsParts2
import Derived.Test.YtnelblndidciiaaMBitsParts3
import Derived.Test.YtnelblndidciiaaMBitsParts4
import Derived.Test.YtnelblndidciiaaMBitsParts5
import Derived.Test.YtnelblndidciiaaMBitsParts6
import Derived.Test.YtnelblndidciiaaMBitsParts7
-- from the text D39
namespace Go.Proofs.Ytnelblndidciiaa.P
open Go.RowKit Go.Proofs.YtnelblndidciiaaW.PrintWords Go.Proofs.YtnelblndidciiaaW.PrintLast Go.Proofs.YtnelblndidciiaaW.PrintMore
attribute [local go_sem] max2_int min2_int max_two min_two max_three min_three max_four min_four   -- for this text's walks alone
set_option linter.unusedVariables false
set_option linter.unusedSimpArgs false
mutual
def ironbarkref05_SetSub.l0 : Nat → Int → Int → ByteArray → Int → Int → Int → Int → ByteArray → Int → Int → Int → ByteArray → Option (Int × Int × Int × ByteArray × Int × Int)
  | 0, _, _, _, _, _, _, _, _, _, _, _, _ => none
  | k + 1, x1, x2, x12, x13, x102000, x102001, x102002, x102003, x103000, x103001, x103002, x103003 => if x13 ≤ (x102003.size : Int) then (if 0 ≤ (wrap64 (x13 - 1)) then (if (wrap64 (x13 - 1)) ≤ x13 then (if (wrap64 (x13 - x1)) ≥ 0 then (ironbarkref05_SetSub.j1 k x1 x2 x12 x13 (x102003.extract ((wrap64 (x13 - 1)) : Int).toNat (x13 : Int).toNat) (wrap64 (x13 - x1)) (decide ((wrap64 (x13 - x1)) < x2)) x102000 x102001 x102002 x102003 x103000 x103001 x103002 x103003) else (ironbarkref05_SetSub.j1 k x1 x2 x12 x13 (x102003.extract ((wrap64 (x13 - 1)) : Int).toNat (x13 : Int).toNat) (wrap64 (x13 - x1)) false x102000 x102001 x102002 x102003 x103000 x103001 x103002 x103003)) else (none)) else (none)) else (if x1 < 1 then (ironbarkref05_SetSub.j2 k x12 true x102000 x102001 x102002 x102003) else (if x2 < 0 then (ironbarkref05_SetSub.j2 k x12 true x102000 x102001 x102002 x102003) else (ironbarkref05_SetSub.j2 k x12 (decide ((wrap64 ((wrap64 (x1 + x2)) - 1)) > (x102003.size : Int))) x102000 x102001 x102002 x102003)))
def ironbarkref05_SetSub.j1 : Nat → Int → Int → ByteArray → Int → ByteArray → Int → Bool → Int → Int → Int → ByteArray → Int → Int → Int → ByteArray → Option (Int × Int × Int × ByteArray × Int × Int)
  | 0, _, _, _, _, _, _, _, _, _, _, _, _, _, _, _ => none
  | k + 1, x1, x2, x12, x13, x14, x15, x54, x102000, x102001, x102002, x102003, x103000, x103001, x103002, x103003 => if x54 = true then ((ironbarkref05_Filler.f x102000).bind fun t112 => (if x15 < (x103003.size : Int) then (if 0 ≤ x15 then (if x15 ≤ (wrap64 (x15 + 1)) then (if (wrap64 (x15 + 1)) ≤ (x103003.size : Int) then (if x12.size + (x103003.extract (x15 : Int).toNat ((wrap64 (x15 + 1)) : Int).toNat).size ≤ 9223372036854775807 then (ironbarkref05_SetSub.l0 k x1 x2 (x12 ++ (x103003.extract (x15 : Int).toNat ((wrap64 (x15 + 1)) : Int).toNat)) (wrap64 (x13 + 1)) x102000 x102001 x102002 x102003 x103000 x103001 x103002 x103003) else (none)) else (none)) else (none)) else (none)) else (if x12.size + t112.size ≤ 9223372036854775807 then (ironbarkref05_SetSub.l0 k x1 x2 (x12 ++ t112) (wrap64 (x13 + 1)) x102000 x102001 x102002 x102003 x103000 x103001 x103002 x103003) else (none)))) else (if x12.size + x14.size ≤ 9223372036854775807 then (ironbarkref05_SetSub.l0 k x1 x2 (x12 ++ x14) (wrap64 (x13 + 1)) x102000 x102001 x102002 x102003 x103000 x103001 x103002 x103003) else (none))
def ironbarkref05_SetSub.j2 : Nat → ByteArray → Bool → Int → Int → Int → ByteArray → Option (Int × Int × Int × ByteArray × Int × Int)
  | 0, _, _, _, _, _, _ => none
  | k + 1, x12, x87, x102000, x102001, x102002, x102003 => if x87 = true then ((ironbarkref05_made.f x102000 x12).bind fun bt113 => (some (bt113.1, bt113.2.1, bt113.2.2.1, bt113.2.2.2, 5, 0))) else ((ironbarkref05_made.f x102000 x12).bind fun bt117 => (some (bt117.1, bt117.2.1, bt117.2.2.1, bt117.2.2.2, 0, 0)))
end
def ironbarkref05_SetSub.f (k : Nat) (a0_0 : Int) (a0_1 : Int) (a0_2 : Int) (a0_3 : ByteArray) (a1 : Int) (a2 : Int) (a3_0 : Int) (a3_1 : Int) (a3_2 : Int) (a3_3 : ByteArray) : Option (Int × Int × Int × ByteArray × Int × Int) := (ironbarkref05_stringsT.f (([(⟨a0_0, a0_1, a0_2, a0_3⟩ : S23), (⟨a3_0, a3_1, a3_2, a3_3⟩ : S23)] : List (S23))) 0).bind fun t107 => (if t107 = 0 then ((ironbarkref05_plainT.f (([a1, a2] : List Int))).bind fun t111 => (if t111 = true then (ironbarkref05_SetSub.l0 k a1 a2 (⟨#[]⟩ : ByteArray) 1 a0_0 a0_1 a0_2 a0_3 a3_0 a3_1 a3_2 a3_3) else (some (0, 0, 0, (⟨#[]⟩ : ByteArray), 0, 7)))) else (some (0, 0, 0, (⟨#[]⟩ : ByteArray), 0, t107)))
set_option maxHeartbeats 8000000 in
set_option maxRecDepth 100000 in
theorem ironbarkref05_SetSub.calls (k : Nat) (a0_0 : Int) (a0_1 : Int) (a0_2 : Int) (a0_3 : ByteArray) (a1 : Int) (a2 : Int) (a3_0 : Int) (a3_1 : Int) (a3_2 : Int) (a3_3 : ByteArray) (r1 : Int) (r2 : Int) (r3 : Int) (r4 : ByteArray) (r5 : Int) (r6 : Int) (w : World) (h : ironbarkref05_SetSub.f k a0_0 a0_1 a0_2 a0_3 a1 a2 a3_0 a3_1 a3_2 a3_3 = some (r1, r2, r3, r4, r5, r6)) :
    Calls Try.prog 39 #[.agg #[.int .i64 a0_0, .int .i64 a0_1, .int .i64 a0_2, .string a0_3], .int .i64 a1, .int .i64 a2, .agg #[.int .i64 a3_0, .int .i64 a3_1, .int .i64 a3_2, .string a3_3]] w fun e w' => e = .returned (.tuple #[.agg #[.int .i64 r1, .int .i64 r2, .int .i64 r3, .string r4], .int .i64 r5, .int .i64 r6]) ∧ Below w.heap.size w w' := by
  have hu23 := Try.underlying23
  have HB := Aside0.mk (Below.refl w.heap.size w)
  have H : ((ironbarkref05_stringsT.f (([(⟨a0_0, a0_1, a0_2, a0_3⟩ : S23), (⟨a3_0, a3_1, a3_2, a3_3⟩ : S23)] : List (S23))) 0).bind fun t107 => (if t107 = 0 then ((ironbarkref05_plainT.f (([a1, a2] : List Int))).bind fun t111 => (if t111 = true then (ironbarkref05_SetSub.l0 k a1 a2 (⟨#[]⟩ : ByteArray) 1 a0_0 a0_1 a0_2 a0_3 a3_0 a3_1 a3_2 a3_3) else (some (0, 0, 0, (⟨#[]⟩ : ByteArray), 0, 7)))) else (some (0, 0, 0, (⟨#[]⟩ : ByteArray), 0, t107)))) = some (r1, r2, r3, r4, r5, r6) := h
  clear h
  obtain ⟨y104, hy104⟩ : ∃ y_ : List (S23), y_ = (([(⟨a0_0, a0_1, a0_2, a0_3⟩ : S23), (⟨a3_0, a3_1, a3_2, a3_3⟩ : S23)] : List (S23))) := ⟨_, rfl⟩
  replace H : ((ironbarkref05_stringsT.f y104 0).bind fun t107 => (if t107 = 0 then ((ironbarkref05_plainT.f (([a1, a2] : List Int))).bind fun t111 => (if t111 = true then (ironbarkref05_SetSub.l0 k a1 a2 (⟨#[]⟩ : ByteArray) 1 a0_0 a0_1 a0_2 a0_3 a3_0 a3_1 a3_2 a3_3) else (some (0, 0, 0, (⟨#[]⟩ : ByteArray), 0, 7)))) else (some (0, 0, 0, (⟨#[]⟩ : ByteArray), 0, t107)))) = some (r1, r2, r3, r4, r5, r6) := by first | (rw [hy104]; with_reducible exact H) | (have H2_ := (Option.bind_some _ _).symm.trans H; rw [hy104]; with_reducible exact H2_) | (have H2_ := (Option.bind_some _ _).symm.trans H; with_reducible exact H2_) | with_reducible exact H | (rw [hy104]; exact H) | exact H
  have Ny104 := Aside0.mk hy104
  clear hy104
  replace H := Option.bind_eq_some_iff.mp H
  obtain ⟨t107, A50, H⟩ := H
  replace H : (if t107 = 0 then ((ironbarkref05_plainT.f (([a1, a2] : List Int))).bind fun t111 => (if t111 = true then (ironbarkref05_SetSub.l0 k a1 a2 (⟨#[]⟩ : ByteArray) 1 a0_0 a0_1 a0_2 a0_3 a3_0 a3_1 a3_2 a3_3) else (some (0, 0, 0, (⟨#[]⟩ : ByteArray), 0, 7)))) else (some (0, 0, 0, (⟨#[]⟩ : ByteArray), 0, t107))) = some (r1, r2, r3, r4, r5, r6) := H
  have A5 := Aside0.mk A50
  clear A50
  by_cases c6 : t107 = 0
  · rw [if_pos c6] at H
    have c6b0 : (t107 == 0) = true := beq_iff_eq.mpr c6
    have c6b1 : (t107 != 0) = false := bne_eq_false_iff_eq.mpr c6
    clear c6
    obtain ⟨y108, hy108⟩ : ∃ y_ : List Int, y_ = (([a1, a2] : List Int)) := ⟨_, rfl⟩
    replace H : ((ironbarkref05_plainT.f y108).bind fun t111 => (if t111 = true then (ironbarkref05_SetSub.l0 k a1 a2 (⟨#[]⟩ : ByteArray) 1 a0_0 a0_1 a0_2 a0_3 a3_0 a3_1 a3_2 a3_3) else (some (0, 0, 0, (⟨#[]⟩ : ByteArray), 0, 7)))) = some (r1, r2, r3, r4, r5, r6) := by first | (rw [hy108]; with_reducible exact H) | (have H2_ := (Option.bind_some _ _).symm.trans H; rw [hy108]; with_reducible exact H2_) | (have H2_ := (Option.bind_some _ _).symm.trans H; with_reducible exact H2_) | with_reducible exact H | (rw [hy108]; exact H) | exact H
    have Ny108 := Aside0.mk hy108
    clear hy108
    replace H := Option.bind_eq_some_iff.mp H
    obtain ⟨t111, A70, H⟩ := H
    replace H : (if t111 = true then (ironbarkref05_SetSub.l0 k a1 a2 (⟨#[]⟩ : ByteArray) 1 a0_0 a0_1 a0_2 a0_3 a3_0 a3_1 a3_2 a3_3) else (some (0, 0, 0, (⟨#[]⟩ : ByteArray), 0, 7))) = some (r1, r2, r3, r4, r5, r6) := H
    have A7 := Aside0.mk A70
    clear A70
    by_cases c8 : t111 = true
    · subst c8
      have H1 : (ironbarkref05_SetSub.l0 k a1 a2 (⟨#[]⟩ : ByteArray) 1 a0_0 a0_1 a0_2 a0_3 a3_0 a3_1 a3_2 a3_3) = some (r1, r2, r3, r4, r5, r6) := by rw [if_pos rfl] at H; exact H
      clear H
      have H := H1
      clear H1
      have H' := Aside0.mk H
      clear H
      go_enter Try.func39, Try.ntmps39
      go_wp2_with (first | ((with_reducible refine gate_dst (N := 4) rfl ?_); (try (refine gate_guard (by rfl) ?_; dsimp only)); refine box_event ?hg (N := 4) ?hd (cs := #[.int .i64 a0_0, .int .i64 a0_1, .int .i64 a0_2, .string a0_3]) (t := 23) ?hr ?_; (case hd => rfl); (case hg => rfl); (case hr => first | (go_simp; done) | (go_simp; rfl)); intro gb101 hg w9 hbox hb; have n0_ := Aside0.mk (below_step (by repeat (first | (with_reducible first | exact HB.out | apply below_alloc | apply pw_below_drewN | apply below_drew1) | exact HB.out)) hb); have n1_ := Aside0.mk (hbox); have n2_ := Aside0.mk ((by rw [hg]; exact (below_size (by repeat (first | (with_reducible first | exact HB.out | apply below_alloc | apply pw_below_drewN | apply below_drew1) | exact HB.out))) : w.heap.size ≤ gb101)); have n3_ := n2_; clear HB; have HB := n0_; have BK101 := n1_; have GW101 := n2_; have GE101 := n3_; clear n0_ n1_ n2_ n3_; clear hb hbox hg) | ((with_reducible refine gate_dst (N := 7) rfl ?_); (try (refine gate_guard (by rfl) ?_; dsimp only)); refine box_event ?hg (N := 7) ?hd (cs := #[.int .i64 a3_0, .int .i64 a3_1, .int .i64 a3_2, .string a3_3]) (t := 23) ?hr ?_; (case hd => rfl); (case hg => rfl); (case hr => first | (go_simp; done) | (go_simp; rfl)); intro gb102 hg w10 hbox hb; have n0_ := Aside0.mk (blk_below (g := gb101) (o := .cells #[.int .i64 a0_0, .int .i64 a0_1, .int .i64 a0_2, .string a0_3] 23 (0, 0)) (by (with_reducible repeat (first | refine blk_drewN ?_ _ | refine blk_drew ?_ | refine blk_alloc ?_ _)); exact BK101.out) hb); have n1_ := Aside0.mk (below_step (by repeat (first | (with_reducible first | exact HB.out | apply below_alloc | apply pw_below_drewN | apply below_drew1 | refine below_set ?_ GE101.out) | exact HB.out)) hb); have n2_ := Aside0.mk (hbox); have n3_ := Aside0.mk ((by rw [hg]; exact (below_size (by repeat (first | (with_reducible first | exact HB.out | apply below_alloc | apply pw_below_drewN | apply below_drew1 | refine below_set ?_ GE101.out) | exact HB.out))) : w.heap.size ≤ gb102)); have n4_ := n3_; have n5_ := Aside0.mk ((by rw [hg]; exact Nat.ne_of_lt (blk_lt (g := gb101) (o := .cells #[.int .i64 a0_0, .int .i64 a0_1, .int .i64 a0_2, .string a0_3] 23 (0, 0)) (by (with_reducible repeat (first | refine blk_drewN ?_ _ | refine blk_drew ?_ | refine blk_alloc ?_ _)); exact BK101.out)) : gb101 ≠ gb102)); have n6_ := Aside0.mk ((by rw [hg]; exact Nat.ne_of_gt (blk_lt (g := gb101) (o := .cells #[.int .i64 a0_0, .int .i64 a0_1, .int .i64 a0_2, .string a0_3] 23 (0, 0)) (by (with_reducible repeat (first | refine blk_drewN ?_ _ | refine blk_drew ?_ | refine blk_alloc ?_ _)); exact BK101.out)) : gb102 ≠ gb101)); clear BK101; clear HB; have BK101 := n0_; have HB := n1_; have BK102 := n2_; have GW102 := n3_; have GE102 := n4_; have NB101_102 := n5_; have NB102_101 := n6_; clear n0_ n1_ n2_ n3_ n4_ n5_ n6_; clear hb hbox hg) | ((with_reducible refine gate_dst (N := 8) rfl ?_); (try (refine gate_guard (by rfl) ?_; dsimp only)); refine box_event ?hg (N := 8) ?hd (cs := #[.int .i64 0, .int .i64 0, .int .i64 0, .string (⟨#[]⟩ : ByteArray)]) (t := 23) ?hr ?_; (case hd => rfl); (case hg => rfl); (case hr => first | (go_simp; done) | (go_simp; rfl)); intro gb103 hg w11 hbox hb; have n0_ := Aside0.mk (blk_below (g := gb101) (o := .cells #[.int .i64 a0_0, .int .i64 a0_1, .int .i64 a0_2, .string a0_3] 23 (0, 0)) (by (with_reducible repeat (first | refine blk_drewN ?_ _ | refine blk_drew ?_ | refine blk_alloc ?_ _)); exact BK101.out) hb); have n1_ := Aside0.mk (blk_below (g := gb102) (o := .cells #[.int .i64 a3_0, .int .i64 a3_1, .int .i64 a3_2, .string a3_3] 23 (0, 0)) (by (with_reducible repeat (first | refine blk_drewN ?_ _ | refine blk_drew ?_ | refine blk_alloc ?_ _)); exact BK102.out) hb); have n2_ := Aside0.mk (below_step (by repeat (first | (with_reducible first | exact HB.out | apply below_alloc | apply pw_below_drewN | apply below_drew1 | refine below_set ?_ GE101.out | refine below_set ?_ GE102.out) | exact HB.out)) hb); have n3_ := Aside0.mk (hbox); have n4_ := Aside0.mk ((by rw [hg]; exact (below_size (by repeat (first | (with_reducible first | exact HB.out | apply below_alloc | apply pw_below_drewN | apply below_drew1 | refine below_set ?_ GE101.out | refine below_set ?_ GE102.out) | exact HB.out))) : w.heap.size ≤ gb103)); have n5_ := n4_; have n6_ := Aside0.mk ((by rw [hg]; exact Nat.ne_of_lt (blk_lt (g := gb101) (o := .cells #[.int .i64 a0_0, .int .i64 a0_1, .int .i64 a0_2, .string a0_3] 23 (0, 0)) (by (with_reducible repeat (first | refine blk_drewN ?_ _ | refine blk_drew ?_ | refine blk_alloc ?_ _)); exact BK101.out)) : gb101 ≠ gb103)); have n7_ := Aside0.mk ((by rw [hg]; exact Nat.ne_of_gt (blk_lt (g := gb101) (o := .cells #[.int .i64 a0_0, .int .i64 a0_1, .int .i64 a0_2, .string a0_3] 23 (0, 0)) (by (with_reducible repeat (first | refine blk_drewN ?_ _ | refine blk_drew ?_ | refine blk_alloc ?_ _)); exact BK101.out)) : gb103 ≠ gb101)); have n8_ := Aside0.mk ((by rw [hg]; exact Nat.ne_of_lt (blk_lt (g := gb102) (o := .cells #[.int .i64 a3_0, .int .i64 a3_1, .int .i64 a3_2, .string a3_3] 23 (0, 0)) (by (with_reducible repeat (first | refine blk_drewN ?_ _ | refine blk_drew ?_ | refine blk_alloc ?_ _)); exact BK102.out)) : gb102 ≠ gb103)); have n9_ := Aside0.mk ((by rw [hg]; exact Nat.ne_of_gt (blk_lt (g := gb102) (o := .cells #[.int .i64 a3_0, .int .i64 a3_1, .int .i64 a3_2, .string a3_3] 23 (0, 0)) (by (with_reducible repeat (first | refine blk_drewN ?_ _ | refine blk_drew ?_ | refine blk_alloc ?_ _)); exact BK102.out)) : gb103 ≠ gb102)); clear BK101; clear BK102; clear HB; have BK101 := n0_; have BK102 := n1_; have HB := n2_; have BK103 := n3_; have GW103 := n4_; have GE103 := n5_; have NB101_103 := n6_; have NB103_101 := n7_; have NB102_103 := n8_; have NB103_102 := n9_; clear n0_ n1_ n2_ n3_ n4_ n5_ n6_ n7_ n8_ n9_; clear hb hbox hg; have hnb12 := NB101_102.out; have hnc12 := NB102_101.out; have hnb13 := NB101_103.out; have hnc13 := NB103_101.out; have hcz14_0 : w11.cell? ⟨gb101, 0, none⟩ = some (.int .i64 a0_0) := (blk_cell BK101.out 0).trans rfl; have hcz14_1 : w11.cell? ⟨gb101, 1, none⟩ = some (.int .i64 a0_1) := (blk_cell BK101.out 1).trans rfl; have hcz14_2 : w11.cell? ⟨gb101, 2, none⟩ = some (.int .i64 a0_2) := (blk_cell BK101.out 2).trans rfl; have hcz14_3 : w11.cell? ⟨gb101, 3, none⟩ = some (.string a0_3) := (blk_cell BK101.out 3).trans rfl; have hfz14_0 := blk_frozen BK101.out 0; have hfz14_1 := blk_frozen BK101.out 1; have hfz14_2 := blk_frozen BK101.out 2; have hfz14_3 := blk_frozen BK101.out 3; have hnb15 := NB102_103.out; have hnc15 := NB103_102.out; have hcz16_0 : w11.cell? ⟨gb102, 0, none⟩ = some (.int .i64 a3_0) := (blk_cell BK102.out 0).trans rfl; have hcz16_1 : w11.cell? ⟨gb102, 1, none⟩ = some (.int .i64 a3_1) := (blk_cell BK102.out 1).trans rfl; have hcz16_2 : w11.cell? ⟨gb102, 2, none⟩ = some (.int .i64 a3_2) := (blk_cell BK102.out 2).trans rfl; have hcz16_3 : w11.cell? ⟨gb102, 3, none⟩ = some (.string a3_3) := (blk_cell BK102.out 3).trans rfl; have hfz16_0 := blk_frozen BK102.out 0; have hfz16_1 := blk_frozen BK102.out 1; have hfz16_2 := blk_frozen BK102.out 2; have hfz16_3 := blk_frozen BK102.out 3) | ((with_reducible refine gate_dst (N := 18) rfl ?_); (try (refine gate_guard (by rfl) ?_; dsimp only)); refine Kd.R_lit k23 _ 23 ?hg (N := 18) ?hd (xs := ([(⟨a0_0, a0_1, a0_2, a0_3⟩ : S23), (⟨a3_0, a3_1, a3_2, a3_3⟩ : S23)] : List (S23))) (inner := [.int .i64 a0_0, .int .i64 a0_1, .int .i64 a0_2, .string a0_3, .int .i64 a3_0, .int .i64 a3_1, .int .i64 a3_2, .string a3_3]) (ok := fun _ => True) (okp := fun _ => True) ?hr ?hp (fun _ hk => hk) trivial (Below.refl _ _) (Nat.le_refl _) (by simp) ?_; (case hd => rfl); (case hg => rfl); (case hr => first | (go_simp; done) | (go_simp; rfl)); (case hp => exact (Reps.c4 (show Kd.M k23 _ _ _ (⟨a0_0, a0_1, a0_2, a0_3⟩ : S23) [.int .i64 a0_0, .int .i64 a0_1, .int .i64 a0_2, .string a0_3] from (k23_mkM _ _ _ (⟨a0_0, a0_1, a0_2, a0_3⟩ : S23) )) (Reps.c4 (show Kd.M k23 _ _ _ (⟨a3_0, a3_1, a3_2, a3_3⟩ : S23) [.int .i64 a3_0, .int .i64 a3_1, .int .i64 a3_2, .string a3_3] from (k23_mkM _ _ _ (⟨a3_0, a3_1, a3_2, a3_3⟩ : S23) )) (Reps.none _ _)))); intro v105 w17 ho18 hb hg_ hnew_; clear hg_ hnew_; (first | rw [← Ny104.out] at ho18 | (simp only [Int.reduceToNat] at ho18; rw [← Ny104.out] at ho18)); have n0_ := Aside0.mk (Kd.R_lower (Kd.R_newB (Kd.R_newB (Kd.R_newB ho18 (g := gb101) (o := .cells #[.int .i64 a0_0, .int .i64 a0_1, .int .i64 a0_2, .string a0_3] 23 (0, 0)) (by (with_reducible repeat (first | refine blk_drewN ?_ _ | refine blk_drew ?_ | refine blk_alloc ?_ _)); exact BK101.out)) (g := gb102) (o := .cells #[.int .i64 a3_0, .int .i64 a3_1, .int .i64 a3_2, .string a3_3] 23 (0, 0)) (by (with_reducible repeat (first | refine blk_drewN ?_ _ | refine blk_drew ?_ | refine blk_alloc ?_ _)); exact BK102.out)) (g := gb103) (o := .cells #[.int .i64 0, .int .i64 0, .int .i64 0, .string (⟨#[]⟩ : ByteArray)] 23 (0, 0)) (by (with_reducible repeat (first | refine blk_drewN ?_ _ | refine blk_drew ?_ | refine blk_alloc ?_ _)); exact BK103.out)) (below_size (by repeat (first | (with_reducible first | exact HB.out | apply below_alloc | apply pw_below_drewN | apply below_drew1 | refine below_set ?_ GE101.out | refine below_set ?_ GE102.out | refine below_set ?_ GE103.out) | exact HB.out)))); have n1_ := Aside0.mk (blk_below (g := gb101) (o := .cells #[.int .i64 a0_0, .int .i64 a0_1, .int .i64 a0_2, .string a0_3] 23 (0, 0)) (by (with_reducible repeat (first | refine blk_drewN ?_ _ | refine blk_drew ?_ | refine blk_alloc ?_ _)); exact BK101.out) hb); have n2_ := Aside0.mk (blk_below (g := gb102) (o := .cells #[.int .i64 a3_0, .int .i64 a3_1, .int .i64 a3_2, .string a3_3] 23 (0, 0)) (by (with_reducible repeat (first | refine blk_drewN ?_ _ | refine blk_drew ?_ | refine blk_alloc ?_ _)); exact BK102.out) hb); have n3_ := Aside0.mk (blk_below (g := gb103) (o := .cells #[.int .i64 0, .int .i64 0, .int .i64 0, .string (⟨#[]⟩ : ByteArray)] 23 (0, 0)) (by (with_reducible repeat (first | refine blk_drewN ?_ _ | refine blk_drew ?_ | refine blk_alloc ?_ _)); exact BK103.out) hb); have n4_ := Aside0.mk (below_step (by repeat (first | (with_reducible first | exact HB.out | apply below_alloc | apply pw_below_drewN | apply below_drew1 | refine below_set ?_ GE101.out | refine below_set ?_ GE102.out | refine below_set ?_ GE103.out) | exact HB.out)) hb); clear BK101; clear BK102; clear BK103; clear HB; have HO106 := n0_; have BK101 := n1_; have BK102 := n2_; have BK103 := n3_; have HB := n4_; clear n0_ n1_ n2_ n3_ n4_; clear hb ho18; obtain ⟨Ao19, co19, eo19⟩ := Kd.R_slice HO106.out; subst eo19) | ((with_reducible refine gate_callee (f := 57) rfl ?_); refine goesL_ (some 19) rfl rfl Try.func57 (by kernel_rfl) rfl #[.slice Ao19 y104.length co19, .int .i64 0] rfl (by (try simp only [List.map_toArray, List.map_cons, List.map_nil]); first | done | rfl | (simp only [List.length_drop, List.length_take]; rfl)) ?_; (with_reducible refine (ironbarkref05_stringsT.calls _ _ y104 0 t107 _ ?side1 ?side2 A5.out).mono ?_); (case side1 => repeat (first | exact (Kd.R_reads' HO106.out).2.2 | (with_reducible refine Kd.C_alloc ?_ _) | (with_reducible refine Kd.C_drewN ?_ _) | (with_reducible refine Kd.C_drew ?_))); (case side2 => exact (Kd.R_reads' HO106.out).2.1); rintro e w20 ⟨rfl, hb⟩; refine ⟨_, rfl, ?_⟩; have n0_ := Aside0.mk (Kd.R_below (by (with_reducible repeat (first | apply Kd.R_alloc | apply Kd.R_drewN | apply Kd.R_drew)); exact HO106.out) hb); have n1_ := Aside0.mk (blk_below (g := gb101) (o := .cells #[.int .i64 a0_0, .int .i64 a0_1, .int .i64 a0_2, .string a0_3] 23 (0, 0)) (by (with_reducible repeat (first | refine blk_drewN ?_ _ | refine blk_drew ?_ | refine blk_alloc ?_ _)); exact BK101.out) hb); have n2_ := Aside0.mk (blk_below (g := gb102) (o := .cells #[.int .i64 a3_0, .int .i64 a3_1, .int .i64 a3_2, .string a3_3] 23 (0, 0)) (by (with_reducible repeat (first | refine blk_drewN ?_ _ | refine blk_drew ?_ | refine blk_alloc ?_ _)); exact BK102.out) hb); have n3_ := Aside0.mk (blk_below (g := gb103) (o := .cells #[.int .i64 0, .int .i64 0, .int .i64 0, .string (⟨#[]⟩ : ByteArray)] 23 (0, 0)) (by (with_reducible repeat (first | refine blk_drewN ?_ _ | refine blk_drew ?_ | refine blk_alloc ?_ _)); exact BK103.out) hb); have n4_ := Aside0.mk (below_step (by repeat (first | (with_reducible first | exact HB.out | apply below_alloc | apply pw_below_drewN | apply below_drew1 | refine below_set ?_ GE101.out | refine below_set ?_ GE102.out | refine below_set ?_ GE103.out) | exact HB.out)) hb); clear HO106; clear BK101; clear BK102; clear BK103; clear HB; have HO106 := n0_; have BK101 := n1_; have BK102 := n2_; have BK103 := n3_; have HB := n4_; clear n0_ n1_ n2_ n3_ n4_; (try clear hb); (try clear hb2); (try clear hk); (try clear hi)) | ((with_reducible refine gate_dst (N := 28) rfl ?_); (try (refine gate_guard (by rfl) ?_; dsimp only)); refine Kd.R_lit (Kd.int .i64) _ 3 ?hg (N := 28) ?hd (xs := ([a1, a2] : List Int)) (inner := [.int .i64 a1, .int .i64 a2]) (ok := fun _ => True) (okp := fun _ => True) ?hr ?hp (fun _ hk => hk) trivial (Below.refl _ _) (Nat.le_refl _) (by simp) ?_; (case hd => rfl); (case hg => rfl); (case hr => first | (go_simp; done) | (go_simp; rfl)); (case hp => exact (Reps.one (show Kd.M (Kd.int .i64) _ _ _ a1 [.int .i64 a1] from rfl) (Reps.one (show Kd.M (Kd.int .i64) _ _ _ a2 [.int .i64 a2] from rfl) (Reps.none _ _)))); intro v109 w21 ho22 hb hg_ hnew_; clear hg_ hnew_; (first | rw [← Ny108.out] at ho22 | (simp only [Int.reduceToNat] at ho22; rw [← Ny108.out] at ho22)); have n0_ := Aside0.mk (Kd.R_below (by (with_reducible repeat (first | apply Kd.R_alloc | apply Kd.R_drewN | apply Kd.R_drew)); exact HO106.out) hb); have n1_ := Aside0.mk (Kd.R_lower ho22 (below_size (by repeat (first | (with_reducible first | exact HB.out | apply below_alloc | apply pw_below_drewN | apply below_drew1 | refine below_set ?_ GE101.out | refine below_set ?_ GE102.out | refine below_set ?_ GE103.out) | exact HB.out)))); have n2_ := Aside0.mk (blk_below (g := gb101) (o := .cells #[.int .i64 a0_0, .int .i64 a0_1, .int .i64 a0_2, .string a0_3] 23 (0, 0)) (by (with_reducible repeat (first | refine blk_drewN ?_ _ | refine blk_drew ?_ | refine blk_alloc ?_ _)); exact BK101.out) hb); have n3_ := Aside0.mk (blk_below (g := gb102) (o := .cells #[.int .i64 a3_0, .int .i64 a3_1, .int .i64 a3_2, .string a3_3] 23 (0, 0)) (by (with_reducible repeat (first | refine blk_drewN ?_ _ | refine blk_drew ?_ | refine blk_alloc ?_ _)); exact BK102.out) hb); have n4_ := Aside0.mk (blk_below (g := gb103) (o := .cells #[.int .i64 0, .int .i64 0, .int .i64 0, .string (⟨#[]⟩ : ByteArray)] 23 (0, 0)) (by (with_reducible repeat (first | refine blk_drewN ?_ _ | refine blk_drew ?_ | refine blk_alloc ?_ _)); exact BK103.out) hb); have n5_ := Aside0.mk (below_step (by repeat (first | (with_reducible first | exact HB.out | apply below_alloc | apply pw_below_drewN | apply below_drew1 | refine below_set ?_ GE101.out | refine below_set ?_ GE102.out | refine below_set ?_ GE103.out) | exact HB.out)) hb); clear HO106; clear BK101; clear BK102; clear BK103; clear HB; have HO106 := n0_; have HO110 := n1_; have BK101 := n2_; have BK102 := n3_; have BK103 := n4_; have HB := n5_; clear n0_ n1_ n2_ n3_ n4_ n5_; clear hb ho22; obtain ⟨Ao23, co23, eo23⟩ := Kd.R_slice HO110.out; subst eo23) | ((with_reducible refine gate_callee (f := 80) rfl ?_); refine goesL_ (some 29) rfl rfl Try.func80 (by kernel_rfl) rfl #[.slice Ao23 y108.length co23] rfl (by (try simp only [List.map_toArray, List.map_cons, List.map_nil]); first | done | rfl | (simp only [List.length_drop, List.length_take]; rfl)) ?_; (with_reducible refine (ironbarkref05_plainT.calls _ _ y108 true _ ?side1 ?side2 A7.out).mono ?_); (case side1 => repeat (first | exact (Kd.R_reads' HO110.out).2.2 | (with_reducible refine Kd.C_alloc ?_ _) | (with_reducible refine Kd.C_drewN ?_ _) | (with_reducible refine Kd.C_drew ?_))); (case side2 => exact (Kd.R_reads' HO110.out).2.1); rintro e w' ⟨rfl, ⟨nd, rfl⟩⟩; refine ⟨_, rfl, ?_⟩))
      go_loopg [12, 13] k (fun kq v12 v13 w' => ∃ (x12_1 : ByteArray) (x13_1 : Int), v12 = .string x12_1 ∧ v13 = .int .i64 x13_1 ∧ Aside0 (ironbarkref05_SetSub.l0 kq a1 a2 x12_1 x13_1 a0_0 a0_1 a0_2 a0_3 a3_0 a3_1 a3_2 a3_3 = some (r1, r2, r3, r4, r5, r6)) ∧ Aside0 (kq ≤ k) ∧ Aside0 (w'.heap[gb101]? = some (.cells #[.int .i64 a0_0, .int .i64 a0_1, .int .i64 a0_2, .string a0_3] 23 (0, 0))) ∧ Aside0 (w'.heap[gb102]? = some (.cells #[.int .i64 a3_0, .int .i64 a3_1, .int .i64 a3_2, .string a3_3] 23 (0, 0))) ∧ Aside0 (w'.heap[gb103]? = some (.cells #[.int .i64 0, .int .i64 0, .int .i64 0, .string (⟨#[]⟩ : ByteArray)] 23 (0, 0))) ∧ Aside0 (Below w.heap.size w w'))
      case atStart => exact ⟨((⟨#[]⟩ : ByteArray)), (1), (by first | rfl | (simp; done) | (generalize ByteArray.toList _ = l_; cases l_ <;> rfl) | (simp [*]; done)), (by first | rfl | (simp; done) | (generalize ByteArray.toList _ = l_; cases l_ <;> rfl) | (simp [*]; done)), H', ⟨Nat.le_refl _⟩, ⟨by (with_reducible repeat (first | refine blk_drewN ?_ _ | refine blk_drew ?_ | refine blk_alloc ?_ _)); exact BK101.out⟩, ⟨by (with_reducible repeat (first | refine blk_drewN ?_ _ | refine blk_drew ?_ | refine blk_alloc ?_ _)); exact BK102.out⟩, ⟨by (with_reducible repeat (first | refine blk_drewN ?_ _ | refine blk_drew ?_ | refine blk_alloc ?_ _)); exact BK103.out⟩, ⟨by repeat (first | (with_reducible first | exact HB.out | apply below_alloc | apply pw_below_drewN | apply below_drew1 | refine below_set ?_ GE101.out | refine below_set ?_ GE102.out | refine below_set ?_ GE103.out) | exact HB.out)⟩⟩
      case round =>
        clear H'
        try clear c1
        try clear p2
        try clear c3
        try clear c4
        try clear c5
        try clear c6
        try clear c6b0
        try clear c6b1
        try clear c8
        try clear c12
        try clear c13
        try clear c15
        try clear hcz14_0
        try clear hcz14_1
        try clear hcz14_2
        try clear hcz14_3
        try clear hcz16_0
        try clear hcz16_1
        try clear hcz16_2
        try clear hcz16_3
        try clear hfz14_0
        try clear hfz14_1
        try clear hfz14_2
        try clear hfz14_3
        try clear hfz16_0
        try clear hfz16_1
        try clear hfz16_2
        try clear hfz16_3
        obtain ⟨x12_1, x13_1, rfl, rfl, HA, HK1, BK101, BK102, BK103, HB⟩ := hrel
        cases gk with
        | zero => exact absurd HA.out (by simp [ironbarkref05_SetSub.l0])
        | succ k1 =>
          have H := HA.out
          clear HA
          simp only [ironbarkref05_SetSub.l0] at H
          by_cases c24 : x13_1 ≤ (a0_3.size : Int)
          · rw [if_pos c24] at H
            have c24b0 : decide (x13_1 ≤ (a0_3.size : Int)) = true := decide_eq_true c24
            clear c24
            obtain ⟨ji25, hji25⟩ : ∃ j_ : Int, (wrap64 (x13_1 - 1)) = j_ := ⟨_, rfl⟩
            replace H : (if 0 ≤ (ji25) then (if (ji25) ≤ x13_1 then (if (wrap64 (x13_1 - a1)) ≥ 0 then (ironbarkref05_SetSub.j1 k1 a1 a2 x12_1 x13_1 (a0_3.extract ((ji25) : Int).toNat (x13_1 : Int).toNat) (wrap64 (x13_1 - a1)) (decide ((wrap64 (x13_1 - a1)) < a2)) a0_0 a0_1 a0_2 a0_3 a3_0 a3_1 a3_2 a3_3) else (ironbarkref05_SetSub.j1 k1 a1 a2 x12_1 x13_1 (a0_3.extract ((ji25) : Int).toNat (x13_1 : Int).toNat) (wrap64 (x13_1 - a1)) false a0_0 a0_1 a0_2 a0_3 a3_0 a3_1 a3_2 a3_3)) else (none)) else (none)) = some (r1, r2, r3, r4, r5, r6) := by first | (rw [hji25] at H; exact H) | (simp only [hji25] at H ⊢; exact H)
            have hji25w : (IntKind.i64.wrap (x13_1 - 1)) = ji25 := (i64_w _).trans hji25
            by_cases c26 : 0 ≤ (ji25)
            · rw [if_pos c26] at H
              have c26b0 := eq_true c26
              have c26b1 : decide (0 ≤ (ji25)) = true := decide_eq_true c26
              clear c26
              by_cases c27 : (ji25) ≤ x13_1
              · rw [if_pos c27] at H
                have c27b0 := eq_true c27
                have c27b1 : decide ((ji25) ≤ x13_1) = true := decide_eq_true c27
                clear c27
                have c28b0 := eq_true (of_decide_eq_true (by first | (with_reducible assumption) | assumption) : x13_1 ≤ (a0_3.size : Int))
                have HC29 := Aside0.mk H
                clear H
                have hnb30 := NB101_102.out
                have hnc30 := NB102_101.out
                have hnb31 := NB101_103.out
                have hnc31 := NB103_101.out
                have hcz32_0 : wr.cell? ⟨gb101, 0, none⟩ = some (.int .i64 a0_0) := (blk_cell BK101.out 0).trans rfl
                have hcz32_1 : wr.cell? ⟨gb101, 1, none⟩ = some (.int .i64 a0_1) := (blk_cell BK101.out 1).trans rfl
                have hcz32_2 : wr.cell? ⟨gb101, 2, none⟩ = some (.int .i64 a0_2) := (blk_cell BK101.out 2).trans rfl
                have hcz32_3 : wr.cell? ⟨gb101, 3, none⟩ = some (.string a0_3) := (blk_cell BK101.out 3).trans rfl
                have hfz32_0 := blk_frozen BK101.out 0
                have hfz32_1 := blk_frozen BK101.out 1
                have hfz32_2 := blk_frozen BK101.out 2
                have hfz32_3 := blk_frozen BK101.out 3
                go_upto_region 12 with (fail)
                go_cut [54] (fun v54 wc => ∃ (kq : Nat) (x54_28 : Bool), v54 = .bool x54_28 ∧ Aside0 (ironbarkref05_SetSub.j1 kq a1 a2 x12_1 x13_1 (a0_3.extract ((ji25) : Int).toNat (x13_1 : Int).toNat) (wrap64 (x13_1 - a1)) x54_28 a0_0 a0_1 a0_2 a0_3 a3_0 a3_1 a3_2 a3_3 = some (r1, r2, r3, r4, r5, r6)) ∧ Aside0 (kq ≤ k1) ∧ Aside0 (wc.heap[gb101]? = some (.cells #[.int .i64 a0_0, .int .i64 a0_1, .int .i64 a0_2, .string a0_3] 23 (0, 0))) ∧ Aside0 (wc.heap[gb102]? = some (.cells #[.int .i64 a3_0, .int .i64 a3_1, .int .i64 a3_2, .string a3_3] 23 (0, 0))) ∧ Aside0 (wc.heap[gb103]? = some (.cells #[.int .i64 0, .int .i64 0, .int .i64 0, .string (⟨#[]⟩ : ByteArray)] 23 (0, 0))) ∧ Aside0 (Below w.heap.size w wc))
                case first =>
                  have H := HC29.out
                  clear HC29
                  by_cases c33 : (wrap64 (x13_1 - a1)) ≥ 0
                  · rw [if_pos c33] at H
                    have c33b0 : decide (0 ≤ (wrap64 (x13_1 - a1))) = true := decide_eq_true c33
                    clear c33
                    (first | rw [c33b0] | (simp only [i64_w, i32_w]; rw [c33b0]) | skip)
                    have H' := Aside0.mk H
                    clear H
                    go_wp2
                    go_meet
                    case rel => exact ⟨_, (decide ((wrap64 (x13_1 - a1)) < a2)), (by first | rfl | (simp; done) | (generalize ByteArray.toList _ = l_; cases l_ <;> rfl) | (simp [*]; done)), H', ⟨by have := HK1.out; first | omega | exact Nat.le_refl _⟩, ⟨by (with_reducible repeat (first | refine blk_drewN ?_ _ | refine blk_drew ?_ | refine blk_alloc ?_ _)); exact BK101.out⟩, ⟨by (with_reducible repeat (first | refine blk_drewN ?_ _ | refine blk_drew ?_ | refine blk_alloc ?_ _)); exact BK102.out⟩, ⟨by (with_reducible repeat (first | refine blk_drewN ?_ _ | refine blk_drew ?_ | refine blk_alloc ?_ _)); exact BK103.out⟩, ⟨by repeat (first | (with_reducible first | exact HB.out | apply below_alloc | apply pw_below_drewN | apply below_drew1 | refine below_set ?_ GE101.out | refine below_set ?_ GE102.out | refine below_set ?_ GE103.out) | exact HB.out)⟩⟩
                  · rw [if_neg c33] at H
                    have c33b0 : decide (0 ≤ (wrap64 (x13_1 - a1))) = false := decide_eq_false c33
                    clear c33
                    (first | rw [c33b0] | (simp only [i64_w, i32_w]; rw [c33b0]) | skip)
                    have H' := Aside0.mk H
                    clear H
                    go_wp2
                    go_meet
                    case rel => exact ⟨_, (false), (by first | rfl | (simp; done) | (generalize ByteArray.toList _ = l_; cases l_ <;> rfl) | (simp [*]; done)), H', ⟨by have := HK1.out; first | omega | exact Nat.le_refl _⟩, ⟨by (with_reducible repeat (first | refine blk_drewN ?_ _ | refine blk_drew ?_ | refine blk_alloc ?_ _)); exact BK101.out⟩, ⟨by (with_reducible repeat (first | refine blk_drewN ?_ _ | refine blk_drew ?_ | refine blk_alloc ?_ _)); exact BK102.out⟩, ⟨by (with_reducible repeat (first | refine blk_drewN ?_ _ | refine blk_drew ?_ | refine blk_alloc ?_ _)); exact BK103.out⟩, ⟨by repeat (first | (with_reducible first | exact HB.out | apply below_alloc | apply pw_below_drewN | apply below_drew1 | refine below_set ?_ GE101.out | refine below_set ?_ GE102.out | refine below_set ?_ GE103.out) | exact HB.out)⟩⟩
                case rest =>
                  clear HC29
                  try clear c1
                  try clear c2
                  try clear p2
                  try clear c3
                  try clear c4
                  try clear c5
                  try clear c6
                  try clear c6b0
                  try clear c6b1
                  try clear p6
                  try clear c8
                  try clear c12
                  try clear c13
                  try clear c15
                  try clear c24
                  try clear c24b0
                  try clear c26
                  try clear c26b0
                  try clear c26b1
                  try clear c27
                  try clear c27b0
                  try clear c27b1
                  try clear c28
                  try clear c28b0
                  try clear c30
                  try clear c31
                  try clear c33
                  try clear c33b0
                  try clear hcz14_0
                  try clear hcz14_1
                  try clear hcz14_2
                  try clear hcz14_3
                  try clear hcz16_0
                  try clear hcz16_1
                  try clear hcz16_2
                  try clear hcz16_3
                  try clear hcz32_0
                  try clear hcz32_1
                  try clear hcz32_2
                  try clear hcz32_3
                  try clear hfz14_0
                  try clear hfz14_1
                  try clear hfz14_2
                  try clear hfz14_3
                  try clear hfz16_0
                  try clear hfz16_1
                  try clear hfz16_2
                  try clear hfz16_3
                  try clear hfz32_0
                  try clear hfz32_1
                  try clear hfz32_2
                  try clear hfz32_3
                  try clear p2
                  obtain ⟨kq, x54_28, rfl, HA, HJ28, BK101, BK102, BK103, HB⟩ := hcut
                  cases kq with
                  | zero => exact absurd HA.out (by simp [ironbarkref05_SetSub.j1])
                  | succ kj28 =>
                    have H := HA.out
                    clear HA
                    simp only [ironbarkref05_SetSub.j1] at H
                    by_cases c34 : x54_28 = true
                    · subst c34
                      have H1 : ((ironbarkref05_Filler.f a0_0).bind fun t112 => (if (wrap64 (x13_1 - a1)) < (a3_3.size : Int) then (if 0 ≤ (wrap64 (x13_1 - a1)) then (if (wrap64 (x13_1 - a1)) ≤ (wrap64 ((wrap64 (x13_1 - a1)) + 1)) then (if (wrap64 ((wrap64 (x13_1 - a1)) + 1)) ≤ (a3_3.size : Int) then (if x12_1.size + (a3_3.extract ((wrap64 (x13_1 - a1)) : Int).toNat ((wrap64 ((wrap64 (x13_1 - a1)) + 1)) : Int).toNat).size ≤ 9223372036854775807 then (ironbarkref05_SetSub.l0 kj28 a1 a2 (x12_1 ++ (a3_3.extract ((wrap64 (x13_1 - a1)) : Int).toNat ((wrap64 ((wrap64 (x13_1 - a1)) + 1)) : Int).toNat)) (wrap64 (x13_1 + 1)) a0_0 a0_1 a0_2 a0_3 a3_0 a3_1 a3_2 a3_3) else (none)) else (none)) else (none)) else (none)) else (if x12_1.size + t112.size ≤ 9223372036854775807 then (ironbarkref05_SetSub.l0 kj28 a1 a2 (x12_1 ++ t112) (wrap64 (x13_1 + 1)) a0_0 a0_1 a0_2 a0_3 a3_0 a3_1 a3_2 a3_3) else (none)))) = some (r1, r2, r3, r4, r5, r6) := by rw [if_pos rfl] at H; exact H
                      clear H
                      have H := H1
                      clear H1
                      replace H := Option.bind_eq_some_iff.mp H
                      obtain ⟨t112, A350, H⟩ := H
                      replace H : (if (wrap64 (x13_1 - a1)) < (a3_3.size : Int) then (if 0 ≤ (wrap64 (x13_1 - a1)) then (if (wrap64 (x13_1 - a1)) ≤ (wrap64 ((wrap64 (x13_1 - a1)) + 1)) then (if (wrap64 ((wrap64 (x13_1 - a1)) + 1)) ≤ (a3_3.size : Int) then (if x12_1.size + (a3_3.extract ((wrap64 (x13_1 - a1)) : Int).toNat ((wrap64 ((wrap64 (x13_1 - a1)) + 1)) : Int).toNat).size ≤ 9223372036854775807 then (ironbarkref05_SetSub.l0 kj28 a1 a2 (x12_1 ++ (a3_3.extract ((wrap64 (x13_1 - a1)) : Int).toNat ((wrap64 ((wrap64 (x13_1 - a1)) + 1)) : Int).toNat)) (wrap64 (x13_1 + 1)) a0_0 a0_1 a0_2 a0_3 a3_0 a3_1 a3_2 a3_3) else (none)) else (none)) else (none)) else (none)) else (if x12_1.size + t112.size ≤ 9223372036854775807 then (ironbarkref05_SetSub.l0 kj28 a1 a2 (x12_1 ++ t112) (wrap64 (x13_1 + 1)) a0_0 a0_1 a0_2 a0_3 a3_0 a3_1 a3_2 a3_3) else (none))) = some (r1, r2, r3, r4, r5, r6) := H
                      have A35 := Aside0.mk A350
                      clear A350
                      by_cases c36 : (wrap64 (x13_1 - a1)) < (a3_3.size : Int)
                      · rw [if_pos c36] at H
                        have c36b0 : decide ((wrap64 (x13_1 - a1)) < (a3_3.size : Int)) = true := decide_eq_true c36
                        clear c36
                        obtain ⟨ji37, hji37⟩ : ∃ j_ : Int, (wrap64 (x13_1 - a1)) = j_ := ⟨_, rfl⟩
                        replace H : (if 0 ≤ (ji37) then (if (ji37) ≤ (wrap64 ((ji37) + 1)) then (if (wrap64 ((ji37) + 1)) ≤ (a3_3.size : Int) then (if x12_1.size + (a3_3.extract ((ji37) : Int).toNat ((wrap64 ((ji37) + 1)) : Int).toNat).size ≤ 9223372036854775807 then (ironbarkref05_SetSub.l0 kj28 a1 a2 (x12_1 ++ (a3_3.extract ((ji37) : Int).toNat ((wrap64 ((ji37) + 1)) : Int).toNat)) (wrap64 (x13_1 + 1)) a0_0 a0_1 a0_2 a0_3 a3_0 a3_1 a3_2 a3_3) else (none)) else (none)) else (none)) else (none)) = some (r1, r2, r3, r4, r5, r6) := by first | (rw [hji37] at H; exact H) | (simp only [hji37] at H ⊢; exact H)
                        (try rw [hji37] at c36b0)
                        (try rw [hji37] at A35)
                        have hji37w : (IntKind.i64.wrap (x13_1 - a1)) = ji37 := (i64_w _).trans hji37
                        by_cases c38 : 0 ≤ (ji37)
                        · rw [if_pos c38] at H
                          have c38b0 := eq_true c38
                          have c38b1 : decide (0 ≤ (ji37)) = true := decide_eq_true c38
                          clear c38
                          by_cases c39 : (ji37) ≤ (wrap64 ((ji37) + 1))
                          · rw [if_pos c39] at H
                            have c39b0 := eq_true c39
                            have c39b1 : decide ((ji37) ≤ (wrap64 ((ji37) + 1))) = true := decide_eq_true c39
                            by_cases c40 : (wrap64 ((ji37) + 1)) ≤ (a3_3.size : Int)
                            · rw [if_pos c40] at H
                              have c40b0 := eq_true c40
                              have c40b1 : decide ((wrap64 ((ji37) + 1)) ≤ (a3_3.size : Int)) = true := decide_eq_true c40
                              by_cases c41 : x12_1.size + (a3_3.extract ((ji37) : Int).toNat ((wrap64 ((ji37) + 1)) : Int).toNat).size ≤ 9223372036854775807
                              · rw [if_pos c41] at H
                                have c41b0 := eq_true c41
                                have c41b1 : decide (x12_1.size + (a3_3.extract ((ji37) : Int).toNat ((wrap64 ((ji37) + 1)) : Int).toNat).size ≤ 9223372036854775807) = true := decide_eq_true c41
                                try have c41b2 : (9223372036854775807 < x12_1.size + (a3_3.extract ((ji37) : Int).toNat ((wrap64 ((ji37) + 1)) : Int).toNat).size) = False := eq_false (Nat.not_lt.2 c41)
                                have H' := Aside0.mk H
                                clear H
                                have hnb42 := NB101_102.out
                                have hnc42 := NB102_101.out
                                have hnb43 := NB101_103.out
                                have hnc43 := NB103_101.out
                                have hcz44_0 : wc.cell? ⟨gb101, 0, none⟩ = some (.int .i64 a0_0) := (blk_cell BK101.out 0).trans rfl
                                have hcz44_1 : wc.cell? ⟨gb101, 1, none⟩ = some (.int .i64 a0_1) := (blk_cell BK101.out 1).trans rfl
                                have hcz44_2 : wc.cell? ⟨gb101, 2, none⟩ = some (.int .i64 a0_2) := (blk_cell BK101.out 2).trans rfl
                                have hcz44_3 : wc.cell? ⟨gb101, 3, none⟩ = some (.string a0_3) := (blk_cell BK101.out 3).trans rfl
                                have hfz44_0 := blk_frozen BK101.out 0
                                have hfz44_1 := blk_frozen BK101.out 1
                                have hfz44_2 := blk_frozen BK101.out 2
                                have hfz44_3 := blk_frozen BK101.out 3
                                go_wp2_with (first | ((with_reducible refine gate_callee (f := 81) rfl ?_); refine goesL_ (some 57) rfl rfl Try.func81 (by kernel_rfl) rfl #[.int .i64 a0_0] rfl (by (try simp only [List.map_toArray, List.map_cons, List.map_nil]); first | done | rfl | (simp only [List.length_drop, List.length_take]; rfl)) ?_; (with_reducible refine (ironbarkref05_Filler.calls a0_0 t112 _ A35.out).mono ?_); rintro e w' ⟨rfl, ⟨nd, rfl⟩⟩; refine ⟨_, rfl, ?_⟩; have hnb45 := NB102_103.out; have hnc45 := NB103_102.out; have hcz46_0 : wc.cell? ⟨gb102, 0, none⟩ = some (.int .i64 a3_0) := (blk_cell BK102.out 0).trans rfl; have hcz46_1 : wc.cell? ⟨gb102, 1, none⟩ = some (.int .i64 a3_1) := (blk_cell BK102.out 1).trans rfl; have hcz46_2 : wc.cell? ⟨gb102, 2, none⟩ = some (.int .i64 a3_2) := (blk_cell BK102.out 2).trans rfl; have hcz46_3 : wc.cell? ⟨gb102, 3, none⟩ = some (.string a3_3) := (blk_cell BK102.out 3).trans rfl; have hfz46_0 := blk_frozen BK102.out 0; have hfz46_1 := blk_frozen BK102.out 1; have hfz46_2 := blk_frozen BK102.out 2; have hfz46_3 := blk_frozen BK102.out 3))
                                go_roundg kj28
                                case measure => have := HK1.out; have := HJ28.out; omega
                                case rel => exact ⟨(x12_1 ++ (a3_3.extract ((ji37) : Int).toNat ((wrap64 ((ji37) + 1)) : Int).toNat)), (wrap64 (x13_1 + 1)), (by first | rfl | (simp; done) | (simp only [← hji37] <;> (first | rfl | simp)) | (simp [*]; done)), (by first | rfl | (simp; done) | (generalize ByteArray.toList _ = l_; cases l_ <;> rfl) | (simp [*]; done)), H', ⟨by have := HK1.out; have := HJ28.out; omega⟩, ⟨by (with_reducible repeat (first | refine blk_drewN ?_ _ | refine blk_drew ?_ | refine blk_alloc ?_ _)); exact BK101.out⟩, ⟨by (with_reducible repeat (first | refine blk_drewN ?_ _ | refine blk_drew ?_ | refine blk_alloc ?_ _)); exact BK102.out⟩, ⟨by (with_reducible repeat (first | refine blk_drewN ?_ _ | refine blk_drew ?_ | refine blk_alloc ?_ _)); exact BK103.out⟩, ⟨by repeat (first | (with_reducible first | exact HB.out | apply below_alloc | apply pw_below_drewN | apply below_drew1 | refine below_set ?_ GE101.out | refine below_set ?_ GE102.out | refine below_set ?_ GE103.out) | exact HB.out)⟩⟩
                              · rw [if_neg c41] at H
                                exact absurd H (by simp)
                            · rw [if_neg c40] at H
                              exact absurd H (by simp)
                          · rw [if_neg c39] at H
                            exact absurd H (by simp)
                        · rw [if_neg c38] at H
                          exact absurd H (by simp)
                      · rw [if_neg c36] at H
                        have c36b0 : decide ((wrap64 (x13_1 - a1)) < (a3_3.size : Int)) = false := decide_eq_false c36
                        clear c36
                        by_cases c47 : x12_1.size + t112.size ≤ 9223372036854775807
                        · rw [if_pos c47] at H
                          have c47b0 := eq_true c47
                          have c47b1 : decide (x12_1.size + t112.size ≤ 9223372036854775807) = true := decide_eq_true c47
                          try have c47b2 : (9223372036854775807 < x12_1.size + t112.size) = False := eq_false (Nat.not_lt.2 c47)
                          have H' := Aside0.mk H
                          clear H
                          have hnb48 := NB101_102.out
                          have hnc48 := NB102_101.out
                          have hnb49 := NB101_103.out
                          have hnc49 := NB103_101.out
                          have hcz50_0 : wc.cell? ⟨gb101, 0, none⟩ = some (.int .i64 a0_0) := (blk_cell BK101.out 0).trans rfl
                          have hcz50_1 : wc.cell? ⟨gb101, 1, none⟩ = some (.int .i64 a0_1) := (blk_cell BK101.out 1).trans rfl
                          have hcz50_2 : wc.cell? ⟨gb101, 2, none⟩ = some (.int .i64 a0_2) := (blk_cell BK101.out 2).trans rfl
                          have hcz50_3 : wc.cell? ⟨gb101, 3, none⟩ = some (.string a0_3) := (blk_cell BK101.out 3).trans rfl
                          have hfz50_0 := blk_frozen BK101.out 0
                          have hfz50_1 := blk_frozen BK101.out 1
                          have hfz50_2 := blk_frozen BK101.out 2
                          have hfz50_3 := blk_frozen BK101.out 3
                          go_wp2_with (first | ((with_reducible refine gate_callee (f := 81) rfl ?_); refine goesL_ (some 57) rfl rfl Try.func81 (by kernel_rfl) rfl #[.int .i64 a0_0] rfl (by (try simp only [List.map_toArray, List.map_cons, List.map_nil]); first | done | rfl | (simp only [List.length_drop, List.length_take]; rfl)) ?_; (with_reducible refine (ironbarkref05_Filler.calls a0_0 t112 _ A35.out).mono ?_); rintro e w' ⟨rfl, ⟨nd, rfl⟩⟩; refine ⟨_, rfl, ?_⟩; have hnb51 := NB102_103.out; have hnc51 := NB103_102.out; have hcz52_0 : wc.cell? ⟨gb102, 0, none⟩ = some (.int .i64 a3_0) := (blk_cell BK102.out 0).trans rfl; have hcz52_1 : wc.cell? ⟨gb102, 1, none⟩ = some (.int .i64 a3_1) := (blk_cell BK102.out 1).trans rfl; have hcz52_2 : wc.cell? ⟨gb102, 2, none⟩ = some (.int .i64 a3_2) := (blk_cell BK102.out 2).trans rfl; have hcz52_3 : wc.cell? ⟨gb102, 3, none⟩ = some (.string a3_3) := (blk_cell BK102.out 3).trans rfl; have hfz52_0 := blk_frozen BK102.out 0; have hfz52_1 := blk_frozen BK102.out 1; have hfz52_2 := blk_frozen BK102.out 2; have hfz52_3 := blk_frozen BK102.out 3))
                          go_roundg kj28
                          case measure => have := HK1.out; have := HJ28.out; omega
                          case rel => exact ⟨(x12_1 ++ t112), (wrap64 (x13_1 + 1)), (by first | rfl | (simp; done) | (generalize ByteArray.toList _ = l_; cases l_ <;> rfl) | (simp [*]; done)), (by first | rfl | (simp; done) | (generalize ByteArray.toList _ = l_; cases l_ <;> rfl) | (simp [*]; done)), H', ⟨by have := HK1.out; have := HJ28.out; omega⟩, ⟨by (with_reducible repeat (first | refine blk_drewN ?_ _ | refine blk_drew ?_ | refine blk_alloc ?_ _)); exact BK101.out⟩, ⟨by (with_reducible repeat (first | refine blk_drewN ?_ _ | refine blk_drew ?_ | refine blk_alloc ?_ _)); exact BK102.out⟩, ⟨by (with_reducible repeat (first | refine blk_drewN ?_ _ | refine blk_drew ?_ | refine blk_alloc ?_ _)); exact BK103.out⟩, ⟨by repeat (first | (with_reducible first | exact HB.out | apply below_alloc | apply pw_below_drewN | apply below_drew1 | refine below_set ?_ GE101.out | refine below_set ?_ GE102.out | refine below_set ?_ GE103.out) | exact HB.out)⟩⟩
                        · rw [if_neg c47] at H
                          exact absurd H (by simp)
                    · replace c34 := Bool.eq_false_iff.mpr c34
                      subst c34
                      have H1 : (if x12_1.size + (a0_3.extract ((ji25) : Int).toNat (x13_1 : Int).toNat).size ≤ 9223372036854775807 then (ironbarkref05_SetSub.l0 kj28 a1 a2 (x12_1 ++ (a0_3.extract ((ji25) : Int).toNat (x13_1 : Int).toNat)) (wrap64 (x13_1 + 1)) a0_0 a0_1 a0_2 a0_3 a3_0 a3_1 a3_2 a3_3) else (none)) = some (r1, r2, r3, r4, r5, r6) := by rw [if_neg (show ¬ (false = true) by decide)] at H; exact H
                      clear H
                      have H := H1
                      clear H1
                      by_cases c53 : x12_1.size + (a0_3.extract ((ji25) : Int).toNat (x13_1 : Int).toNat).size ≤ 9223372036854775807
                      · rw [if_pos c53] at H
                        have c53b0 := eq_true c53
                        have c53b1 : decide (x12_1.size + (a0_3.extract ((ji25) : Int).toNat (x13_1 : Int).toNat).size ≤ 9223372036854775807) = true := decide_eq_true c53
                        try have c53b2 : (9223372036854775807 < x12_1.size + (a0_3.extract ((ji25) : Int).toNat (x13_1 : Int).toNat).size) = False := eq_false (Nat.not_lt.2 c53)
                        have H' := Aside0.mk H
                        clear H
                        go_wp2
                        go_roundg kj28
                        case measure => have := HK1.out; have := HJ28.out; omega
                        case rel => exact ⟨(x12_1 ++ (a0_3.extract ((ji25) : Int).toNat (x13_1 : Int).toNat)), (wrap64 (x13_1 + 1)), (by first | rfl | (simp; done) | (simp only [← hji25] <;> (first | rfl | simp)) | (simp [*]; done)), (by first | rfl | (simp; done) | (generalize ByteArray.toList _ = l_; cases l_ <;> rfl) | (simp [*]; done)), H', ⟨by have := HK1.out; have := HJ28.out; omega⟩, ⟨by (with_reducible repeat (first | refine blk_drewN ?_ _ | refine blk_drew ?_ | refine blk_alloc ?_ _)); exact BK101.out⟩, ⟨by (with_reducible repeat (first | refine blk_drewN ?_ _ | refine blk_drew ?_ | refine blk_alloc ?_ _)); exact BK102.out⟩, ⟨by (with_reducible repeat (first | refine blk_drewN ?_ _ | refine blk_drew ?_ | refine blk_alloc ?_ _)); exact BK103.out⟩, ⟨by repeat (first | (with_reducible first | exact HB.out | apply below_alloc | apply pw_below_drewN | apply below_drew1 | refine below_set ?_ GE101.out | refine below_set ?_ GE102.out | refine below_set ?_ GE103.out) | exact HB.out)⟩⟩
                      · rw [if_neg c53] at H
                        exact absurd H (by simp)
              · rw [if_neg c27] at H
                exact absurd H (by simp)
            · rw [if_neg c26] at H
              exact absurd H (by simp)
          · rw [if_neg c24] at H
            have c24b0 : decide (x13_1 ≤ (a0_3.size : Int)) = false := decide_eq_false c24
            clear c24
            have HC54 := Aside0.mk H
            clear H
            have hnb55 := NB101_102.out
            have hnc55 := NB102_101.out
            have hnb56 := NB101_103.out
            have hnc56 := NB103_101.out
            have hcz57_0 : wr.cell? ⟨gb101, 0, none⟩ = some (.int .i64 a0_0) := (blk_cell BK101.out 0).trans rfl
            have hcz57_1 : wr.cell? ⟨gb101, 1, none⟩ = some (.int .i64 a0_1) := (blk_cell BK101.out 1).trans rfl
            have hcz57_2 : wr.cell? ⟨gb101, 2, none⟩ = some (.int .i64 a0_2) := (blk_cell BK101.out 2).trans rfl
            have hcz57_3 : wr.cell? ⟨gb101, 3, none⟩ = some (.string a0_3) := (blk_cell BK101.out 3).trans rfl
            have hfz57_0 := blk_frozen BK101.out 0
            have hfz57_1 := blk_frozen BK101.out 1
            have hfz57_2 := blk_frozen BK101.out 2
            have hfz57_3 := blk_frozen BK101.out 3
            go_upto_region 17 with (fail)
            go_cut [87] (fun v87 wc => ∃ (kq : Nat) (x87_53 : Bool), v87 = .bool x87_53 ∧ Aside0 (ironbarkref05_SetSub.j2 kq x12_1 x87_53 a0_0 a0_1 a0_2 a0_3 = some (r1, r2, r3, r4, r5, r6)) ∧ Aside0 (kq ≤ k1) ∧ Aside0 (wc.heap[gb101]? = some (.cells #[.int .i64 a0_0, .int .i64 a0_1, .int .i64 a0_2, .string a0_3] 23 (0, 0))) ∧ Aside0 (wc.heap[gb102]? = some (.cells #[.int .i64 a3_0, .int .i64 a3_1, .int .i64 a3_2, .string a3_3] 23 (0, 0))) ∧ Aside0 (wc.heap[gb103]? = some (.cells #[.int .i64 0, .int .i64 0, .int .i64 0, .string (⟨#[]⟩ : ByteArray)] 23 (0, 0))) ∧ Aside0 (Below w.heap.size w wc))
            case first =>
              have H := HC54.out
              clear HC54
              by_cases c58 : a1 < 1
              · rw [if_pos c58] at H
                have c58b0 : decide (a1 < 1) = true := decide_eq_true c58
                clear c58
                (first | rw [c58b0] | (simp only [i64_w, i32_w]; rw [c58b0]) | skip)
                have H' := Aside0.mk H
                clear H
                go_wp2
                go_meet
                case rel => exact ⟨_, (true), (by first | rfl | (simp; done) | (generalize ByteArray.toList _ = l_; cases l_ <;> rfl) | (simp [*]; done)), H', ⟨by have := HK1.out; first | omega | exact Nat.le_refl _⟩, ⟨by (with_reducible repeat (first | refine blk_drewN ?_ _ | refine blk_drew ?_ | refine blk_alloc ?_ _)); exact BK101.out⟩, ⟨by (with_reducible repeat (first | refine blk_drewN ?_ _ | refine blk_drew ?_ | refine blk_alloc ?_ _)); exact BK102.out⟩, ⟨by (with_reducible repeat (first | refine blk_drewN ?_ _ | refine blk_drew ?_ | refine blk_alloc ?_ _)); exact BK103.out⟩, ⟨by repeat (first | (with_reducible first | exact HB.out | apply below_alloc | apply pw_below_drewN | apply below_drew1 | refine below_set ?_ GE101.out | refine below_set ?_ GE102.out | refine below_set ?_ GE103.out) | exact HB.out)⟩⟩
              · rw [if_neg c58] at H
                have c58b0 : decide (a1 < 1) = false := decide_eq_false c58
                clear c58
                (first | rw [c58b0] | (simp only [i64_w, i32_w]; rw [c58b0]) | skip)
                by_cases c59 : a2 < 0
                · rw [if_pos c59] at H
                  have c59b0 : decide (a2 < 0) = true := decide_eq_true c59
                  clear c59
                  have H' := Aside0.mk H
                  clear H
                  go_wp2
                  go_meet
                  case rel => exact ⟨_, (true), (by first | rfl | (simp; done) | (generalize ByteArray.toList _ = l_; cases l_ <;> rfl) | (simp [*]; done)), H', ⟨by have := HK1.out; first | omega | exact Nat.le_refl _⟩, ⟨by (with_reducible repeat (first | refine blk_drewN ?_ _ | refine blk_drew ?_ | refine blk_alloc ?_ _)); exact BK101.out⟩, ⟨by (with_reducible repeat (first | refine blk_drewN ?_ _ | refine blk_drew ?_ | refine blk_alloc ?_ _)); exact BK102.out⟩, ⟨by (with_reducible repeat (first | refine blk_drewN ?_ _ | refine blk_drew ?_ | refine blk_alloc ?_ _)); exact BK103.out⟩, ⟨by repeat (first | (with_reducible first | exact HB.out | apply below_alloc | apply pw_below_drewN | apply below_drew1 | refine below_set ?_ GE101.out | refine below_set ?_ GE102.out | refine below_set ?_ GE103.out) | exact HB.out)⟩⟩
                · rw [if_neg c59] at H
                  have c59b0 : decide (a2 < 0) = false := decide_eq_false c59
                  clear c59
                  have H' := Aside0.mk H
                  clear H
                  have hnb60 := NB101_102.out
                  have hnc60 := NB102_101.out
                  have hnb61 := NB101_103.out
                  have hnc61 := NB103_101.out
                  have hcz62_0 : wr.cell? ⟨gb101, 0, none⟩ = some (.int .i64 a0_0) := (blk_cell BK101.out 0).trans rfl
                  have hcz62_1 : wr.cell? ⟨gb101, 1, none⟩ = some (.int .i64 a0_1) := (blk_cell BK101.out 1).trans rfl
                  have hcz62_2 : wr.cell? ⟨gb101, 2, none⟩ = some (.int .i64 a0_2) := (blk_cell BK101.out 2).trans rfl
                  have hcz62_3 : wr.cell? ⟨gb101, 3, none⟩ = some (.string a0_3) := (blk_cell BK101.out 3).trans rfl
                  have hfz62_0 := blk_frozen BK101.out 0
                  have hfz62_1 := blk_frozen BK101.out 1
                  have hfz62_2 := blk_frozen BK101.out 2
                  have hfz62_3 := blk_frozen BK101.out 3
                  go_wp2
                  go_meet
                  case rel => exact ⟨_, (decide ((wrap64 ((wrap64 (a1 + a2)) - 1)) > (a0_3.size : Int))), (by first | rfl | (simp; done) | (generalize ByteArray.toList _ = l_; cases l_ <;> rfl) | (simp [*]; done)), H', ⟨by have := HK1.out; first | omega | exact Nat.le_refl _⟩, ⟨by (with_reducible repeat (first | refine blk_drewN ?_ _ | refine blk_drew ?_ | refine blk_alloc ?_ _)); exact BK101.out⟩, ⟨by (with_reducible repeat (first | refine blk_drewN ?_ _ | refine blk_drew ?_ | refine blk_alloc ?_ _)); exact BK102.out⟩, ⟨by (with_reducible repeat (first | refine blk_drewN ?_ _ | refine blk_drew ?_ | refine blk_alloc ?_ _)); exact BK103.out⟩, ⟨by repeat (first | (with_reducible first | exact HB.out | apply below_alloc | apply pw_below_drewN | apply below_drew1 | refine below_set ?_ GE101.out | refine below_set ?_ GE102.out | refine below_set ?_ GE103.out) | exact HB.out)⟩⟩
            case rest =>
              clear HC54
              try clear c1
              try clear c2
              try clear p2
              try clear c3
              try clear c4
              try clear c5
              try clear c6
              try clear c6b0
              try clear c6b1
              try clear p6
              try clear c8
              try clear c12
              try clear c13
              try clear c15
              try clear c24
              try clear c24b0
              try clear c26
              try clear c26b0
              try clear c26b1
              try clear c27
              try clear c27b0
              try clear c27b1
              try clear c28
              try clear c28b0
              try clear c30
              try clear c31
              try clear c33
              try clear c33b0
              try clear c34
              try clear c36
              try clear c36b0
              try clear c38
              try clear c38b0
              try clear c38b1
              try clear c39
              try clear c39b0
              try clear c39b1
              try clear c40
              try clear c40b0
              try clear c40b1
              try clear c41
              try clear c41b0
              try clear c41b1
              try clear c41b2
              try clear c42
              try clear c43
              try clear c45
              try clear c47
              try clear c47b0
              try clear c47b1
              try clear c47b2
              try clear c48
              try clear c49
              try clear c51
              try clear c53
              try clear c53b0
              try clear c53b1
              try clear c53b2
              try clear c55
              try clear c56
              try clear c57
              try clear c58
              try clear c58b0
              try clear c59
              try clear c59b0
              try clear c60
              try clear c61
              try clear hcz14_0
              try clear hcz14_1
              try clear hcz14_2
              try clear hcz14_3
              try clear hcz16_0
              try clear hcz16_1
              try clear hcz16_2
              try clear hcz16_3
              try clear hcz32_0
              try clear hcz32_1
              try clear hcz32_2
              try clear hcz32_3
              try clear hcz44_0
              try clear hcz44_1
              try clear hcz44_2
              try clear hcz44_3
              try clear hcz46_0
              try clear hcz46_1
              try clear hcz46_2
              try clear hcz46_3
              try clear hcz50_0
              try clear hcz50_1
              try clear hcz50_2
              try clear hcz50_3
              try clear hcz52_0
              try clear hcz52_1
              try clear hcz52_2
              try clear hcz52_3
              try clear hcz57_0
              try clear hcz57_1
              try clear hcz57_2
              try clear hcz57_3
              try clear hcz62_0
              try clear hcz62_1
              try clear hcz62_2
              try clear hcz62_3
              try clear hfz14_0
              try clear hfz14_1
              try clear hfz14_2
              try clear hfz14_3
              try clear hfz16_0
              try clear hfz16_1
              try clear hfz16_2
              try clear hfz16_3
              try clear hfz32_0
              try clear hfz32_1
              try clear hfz32_2
              try clear hfz32_3
              try clear hfz44_0
              try clear hfz44_1
              try clear hfz44_2
              try clear hfz44_3
              try clear hfz46_0
              try clear hfz46_1
              try clear hfz46_2
              try clear hfz46_3
              try clear hfz50_0
              try clear hfz50_1
              try clear hfz50_2
              try clear hfz50_3
              try clear hfz52_0
              try clear hfz52_1
              try clear hfz52_2
              try clear hfz52_3
              try clear hfz57_0
              try clear hfz57_1
              try clear hfz57_2
              try clear hfz57_3
              try clear hfz62_0
              try clear hfz62_1
              try clear hfz62_2
              try clear hfz62_3
              try clear p2
              try clear p6
              obtain ⟨kq, x87_53, rfl, HA, HJ53, BK101, BK102, BK103, HB⟩ := hcut
              cases kq with
              | zero => exact absurd HA.out (by simp [ironbarkref05_SetSub.j2])
              | succ kj53 =>
                have H := HA.out
                clear HA
                simp only [ironbarkref05_SetSub.j2] at H
                by_cases c63 : x87_53 = true
                · subst c63
                  have H1 : ((ironbarkref05_made.f a0_0 x12_1).bind fun bt113 => (some (bt113.1, bt113.2.1, bt113.2.2.1, bt113.2.2.2, 5, 0))) = some (r1, r2, r3, r4, r5, r6) := by rw [if_pos rfl] at H; exact H
                  clear H
                  have H := H1
                  clear H1
                  replace H := Option.bind_eq_some_iff.mp H
                  obtain ⟨⟨t113, t114, t115, t116⟩, A640, H⟩ := H
                  replace H : (some (t113, t114, t115, t116, 5, 0)) = some (r1, r2, r3, r4, r5, r6) := H
                  have A64 := Aside0.mk A640
                  clear A640
                  simp only [Option.some.injEq, Prod.mk.injEq] at H
                  obtain ⟨rfl, rfl, rfl, rfl, rfl, rfl⟩ := H
                  have hnb65 := NB101_102.out
                  have hnc65 := NB102_101.out
                  have hnb66 := NB101_103.out
                  have hnc66 := NB103_101.out
                  have hcz67_0 : wc.cell? ⟨gb101, 0, none⟩ = some (.int .i64 a0_0) := (blk_cell BK101.out 0).trans rfl
                  have hcz67_1 : wc.cell? ⟨gb101, 1, none⟩ = some (.int .i64 a0_1) := (blk_cell BK101.out 1).trans rfl
                  have hcz67_2 : wc.cell? ⟨gb101, 2, none⟩ = some (.int .i64 a0_2) := (blk_cell BK101.out 2).trans rfl
                  have hcz67_3 : wc.cell? ⟨gb101, 3, none⟩ = some (.string a0_3) := (blk_cell BK101.out 3).trans rfl
                  have hfz67_0 := blk_frozen BK101.out 0
                  have hfz67_1 := blk_frozen BK101.out 1
                  have hfz67_2 := blk_frozen BK101.out 2
                  have hfz67_3 := blk_frozen BK101.out 3
                  go_wp2_with (first | ((with_reducible refine gate_callee (f := 74) rfl ?_); refine goesL_ (some 91) rfl rfl Try.func74 (by kernel_rfl) rfl #[.int .i64 a0_0, .string x12_1] rfl (by (try simp only [List.map_toArray, List.map_cons, List.map_nil]); first | done | rfl | (simp only [List.length_drop, List.length_take]; rfl)) ?_; (with_reducible refine (ironbarkref05_made.calls a0_0 x12_1 t113 t114 t115 t116 _ A64.out).mono ?_); rintro e w68 ⟨rfl, hb⟩; refine ⟨_, rfl, ?_⟩; have n0_ := Aside0.mk (blk_below (g := gb101) (o := .cells #[.int .i64 a0_0, .int .i64 a0_1, .int .i64 a0_2, .string a0_3] 23 (0, 0)) (by (with_reducible repeat (first | refine blk_drewN ?_ _ | refine blk_drew ?_ | refine blk_alloc ?_ _)); exact BK101.out) hb); have n1_ := Aside0.mk (blk_below (g := gb102) (o := .cells #[.int .i64 a3_0, .int .i64 a3_1, .int .i64 a3_2, .string a3_3] 23 (0, 0)) (by (with_reducible repeat (first | refine blk_drewN ?_ _ | refine blk_drew ?_ | refine blk_alloc ?_ _)); exact BK102.out) hb); have n2_ := Aside0.mk (blk_below (g := gb103) (o := .cells #[.int .i64 0, .int .i64 0, .int .i64 0, .string (⟨#[]⟩ : ByteArray)] 23 (0, 0)) (by (with_reducible repeat (first | refine blk_drewN ?_ _ | refine blk_drew ?_ | refine blk_alloc ?_ _)); exact BK103.out) hb); have n3_ := Aside0.mk (below_step (by repeat (first | (with_reducible first | exact HB.out | apply below_alloc | apply pw_below_drewN | apply below_drew1 | refine below_set ?_ GE101.out | refine below_set ?_ GE102.out | refine below_set ?_ GE103.out) | exact HB.out)) hb); clear BK101; clear BK102; clear BK103; clear HB; have BK101 := n0_; have BK102 := n1_; have BK103 := n2_; have HB := n3_; clear n0_ n1_ n2_ n3_; (try clear hb); (try clear hb2); (try clear hk); (try clear hi); have hnb69 := NB103_102.out; have hnc69 := NB102_103.out; have hcz70_0 : w68.cell? ⟨gb103, 0, none⟩ = some (.int .i64 0) := (blk_cell BK103.out 0).trans rfl; have hcz70_1 : w68.cell? ⟨gb103, 1, none⟩ = some (.int .i64 0) := (blk_cell BK103.out 1).trans rfl; have hcz70_2 : w68.cell? ⟨gb103, 2, none⟩ = some (.int .i64 0) := (blk_cell BK103.out 2).trans rfl; have hcz70_3 : w68.cell? ⟨gb103, 3, none⟩ = some (.string (⟨#[]⟩ : ByteArray)) := (blk_cell BK103.out 3).trans rfl; have hfz70_0 := blk_frozen BK103.out 0; have hfz70_1 := blk_frozen BK103.out 1; have hfz70_2 := blk_frozen BK103.out 2; have hfz70_3 := blk_frozen BK103.out 3))
                  refine bodyPost_ret (results_ctt rfl _ _ gb103 23 #[.int .i64 t113, .int .i64 t114, .int .i64 t115, .string t116] (0, 0) _ rfl (by (with_reducible repeat (first | refine blk_drewN ?_ _ | refine blk_drew ?_ | refine blk_alloc ?_ _)); refine blk_put (cs := #[.int .i64 t113, .int .i64 t114, .int .i64 t115, .string (⟨#[]⟩ : ByteArray)]) ?_ 3 _ rfl; (with_reducible repeat (first | refine blk_drewN ?_ _ | refine blk_drew ?_ | refine blk_alloc ?_ _)); refine blk_put (cs := #[.int .i64 t113, .int .i64 t114, .int .i64 0, .string (⟨#[]⟩ : ByteArray)]) ?_ 2 _ rfl; (with_reducible repeat (first | refine blk_drewN ?_ _ | refine blk_drew ?_ | refine blk_alloc ?_ _)); refine blk_put (cs := #[.int .i64 t113, .int .i64 0, .int .i64 0, .string (⟨#[]⟩ : ByteArray)]) ?_ 1 _ rfl; (with_reducible repeat (first | refine blk_drewN ?_ _ | refine blk_drew ?_ | refine blk_alloc ?_ _)); refine blk_put (cs := #[.int .i64 0, .int .i64 0, .int .i64 0, .string (⟨#[]⟩ : ByteArray)]) ?_ 0 _ rfl; (with_reducible repeat (first | refine blk_drewN ?_ _ | refine blk_drew ?_ | refine blk_alloc ?_ _)); exact BK103.out) Try.underlying23 rfl (by kernel_rfl)) rfl ?_
                  exact ⟨by first | rfl | (simp [errW_none, errW_some] <;> rfl) | (simp [*, errW_none, errW_some] <;> rfl), by repeat (first | (with_reducible first | exact HB.out | apply below_alloc | apply pw_below_drewN | apply below_drew1 | refine below_set ?_ GE101.out | refine below_set ?_ GE102.out | refine below_set ?_ GE103.out) | exact HB.out)⟩
                · replace c63 := Bool.eq_false_iff.mpr c63
                  subst c63
                  have H1 : ((ironbarkref05_made.f a0_0 x12_1).bind fun bt117 => (some (bt117.1, bt117.2.1, bt117.2.2.1, bt117.2.2.2, 0, 0))) = some (r1, r2, r3, r4, r5, r6) := by rw [if_neg (show ¬ (false = true) by decide)] at H; exact H
                  clear H
                  have H := H1
                  clear H1
                  replace H := Option.bind_eq_some_iff.mp H
                  obtain ⟨⟨t117, t118, t119, t120⟩, A710, H⟩ := H
                  replace H : (some (t117, t118, t119, t120, 0, 0)) = some (r1, r2, r3, r4, r5, r6) := H
                  have A71 := Aside0.mk A710
                  clear A710
                  simp only [Option.some.injEq, Prod.mk.injEq] at H
                  obtain ⟨rfl, rfl, rfl, rfl, rfl, rfl⟩ := H
                  have hnb72 := NB101_102.out
                  have hnc72 := NB102_101.out
                  have hnb73 := NB101_103.out
                  have hnc73 := NB103_101.out
                  have hcz74_0 : wc.cell? ⟨gb101, 0, none⟩ = some (.int .i64 a0_0) := (blk_cell BK101.out 0).trans rfl
                  have hcz74_1 : wc.cell? ⟨gb101, 1, none⟩ = some (.int .i64 a0_1) := (blk_cell BK101.out 1).trans rfl
                  have hcz74_2 : wc.cell? ⟨gb101, 2, none⟩ = some (.int .i64 a0_2) := (blk_cell BK101.out 2).trans rfl
                  have hcz74_3 : wc.cell? ⟨gb101, 3, none⟩ = some (.string a0_3) := (blk_cell BK101.out 3).trans rfl
                  have hfz74_0 := blk_frozen BK101.out 0
                  have hfz74_1 := blk_frozen BK101.out 1
                  have hfz74_2 := blk_frozen BK101.out 2
                  have hfz74_3 := blk_frozen BK101.out 3
                  go_wp2_with (first | ((with_reducible refine gate_callee (f := 74) rfl ?_); refine goesL_ (some 95) rfl rfl Try.func74 (by kernel_rfl) rfl #[.int .i64 a0_0, .string x12_1] rfl (by (try simp only [List.map_toArray, List.map_cons, List.map_nil]); first | done | rfl | (simp only [List.length_drop, List.length_take]; rfl)) ?_; (with_reducible refine (ironbarkref05_made.calls a0_0 x12_1 t117 t118 t119 t120 _ A71.out).mono ?_); rintro e w75 ⟨rfl, hb⟩; refine ⟨_, rfl, ?_⟩; have n0_ := Aside0.mk (blk_below (g := gb101) (o := .cells #[.int .i64 a0_0, .int .i64 a0_1, .int .i64 a0_2, .string a0_3] 23 (0, 0)) (by (with_reducible repeat (first | refine blk_drewN ?_ _ | refine blk_drew ?_ | refine blk_alloc ?_ _)); exact BK101.out) hb); have n1_ := Aside0.mk (blk_below (g := gb102) (o := .cells #[.int .i64 a3_0, .int .i64 a3_1, .int .i64 a3_2, .string a3_3] 23 (0, 0)) (by (with_reducible repeat (first | refine blk_drewN ?_ _ | refine blk_drew ?_ | refine blk_alloc ?_ _)); exact BK102.out) hb); have n2_ := Aside0.mk (blk_below (g := gb103) (o := .cells #[.int .i64 0, .int .i64 0, .int .i64 0, .string (⟨#[]⟩ : ByteArray)] 23 (0, 0)) (by (with_reducible repeat (first | refine blk_drewN ?_ _ | refine blk_drew ?_ | refine blk_alloc ?_ _)); exact BK103.out) hb); have n3_ := Aside0.mk (below_step (by repeat (first | (with_reducible first | exact HB.out | apply below_alloc | apply pw_below_drewN | apply below_drew1 | refine below_set ?_ GE101.out | refine below_set ?_ GE102.out | refine below_set ?_ GE103.out) | exact HB.out)) hb); clear BK101; clear BK102; clear BK103; clear HB; have BK101 := n0_; have BK102 := n1_; have BK103 := n2_; have HB := n3_; clear n0_ n1_ n2_ n3_; (try clear hb); (try clear hb2); (try clear hk); (try clear hi); have hnb76 := NB103_102.out; have hnc76 := NB102_103.out; have hcz77_0 : w75.cell? ⟨gb103, 0, none⟩ = some (.int .i64 0) := (blk_cell BK103.out 0).trans rfl; have hcz77_1 : w75.cell? ⟨gb103, 1, none⟩ = some (.int .i64 0) := (blk_cell BK103.out 1).trans rfl; have hcz77_2 : w75.cell? ⟨gb103, 2, none⟩ = some (.int .i64 0) := (blk_cell BK103.out 2).trans rfl; have hcz77_3 : w75.cell? ⟨gb103, 3, none⟩ = some (.string (⟨#[]⟩ : ByteArray)) := (blk_cell BK103.out 3).trans rfl; have hfz77_0 := blk_frozen BK103.out 0; have hfz77_1 := blk_frozen BK103.out 1; have hfz77_2 := blk_frozen BK103.out 2; have hfz77_3 := blk_frozen BK103.out 3))
                  refine bodyPost_ret (results_ctt rfl _ _ gb103 23 #[.int .i64 t117, .int .i64 t118, .int .i64 t119, .string t120] (0, 0) _ rfl (by (with_reducible repeat (first | refine blk_drewN ?_ _ | refine blk_drew ?_ | refine blk_alloc ?_ _)); refine blk_put (cs := #[.int .i64 t117, .int .i64 t118, .int .i64 t119, .string (⟨#[]⟩ : ByteArray)]) ?_ 3 _ rfl; (with_reducible repeat (first | refine blk_drewN ?_ _ | refine blk_drew ?_ | refine blk_alloc ?_ _)); refine blk_put (cs := #[.int .i64 t117, .int .i64 t118, .int .i64 0, .string (⟨#[]⟩ : ByteArray)]) ?_ 2 _ rfl; (with_reducible repeat (first | refine blk_drewN ?_ _ | refine blk_drew ?_ | refine blk_alloc ?_ _)); refine blk_put (cs := #[.int .i64 t117, .int .i64 0, .int .i64 0, .string (⟨#[]⟩ : ByteArray)]) ?_ 1 _ rfl; (with_reducible repeat (first | refine blk_drewN ?_ _ | refine blk_drew ?_ | refine blk_alloc ?_ _)); refine blk_put (cs := #[.int .i64 0, .int .i64 0, .int .i64 0, .string (⟨#[]⟩ : ByteArray)]) ?_ 0 _ rfl; (with_reducible repeat (first | refine blk_drewN ?_ _ | refine blk_drew ?_ | refine blk_alloc ?_ _)); exact BK103.out) Try.underlying23 rfl (by kernel_rfl)) rfl ?_
                  exact ⟨by first | rfl | (simp [errW_none, errW_some] <;> rfl) | (simp [*, errW_none, errW_some] <;> rfl), by repeat (first | (with_reducible first | exact HB.out | apply below_alloc | apply pw_below_drewN | apply below_drew1 | refine below_set ?_ GE101.out | refine below_set ?_ GE102.out | refine below_set ?_ GE103.out) | exact HB.out)⟩
    · replace c8 := Bool.eq_false_iff.mpr c8
      subst c8
      have H1 : (some (0, 0, 0, (⟨#[]⟩ : ByteArray), 0, 7)) = some (r1, r2, r3, r4, r5, r6) := by rw [if_neg (show ¬ (false = true) by decide)] at H; exact H
      clear H
      have H := H1
      clear H1
      simp only [Option.some.injEq, Prod.mk.injEq] at H
      obtain ⟨rfl, rfl, rfl, rfl, rfl, rfl⟩ := H
      go_enter Try.func39, Try.ntmps39
      go_wp2_with (first | ((with_reducible refine gate_dst (N := 4) rfl ?_); (try (refine gate_guard (by rfl) ?_; dsimp only)); refine box_event ?hg (N := 4) ?hd (cs := #[.int .i64 a0_0, .int .i64 a0_1, .int .i64 a0_2, .string a0_3]) (t := 23) ?hr ?_; (case hd => rfl); (case hg => rfl); (case hr => first | (go_simp; done) | (go_simp; rfl)); intro gb101 hg w78 hbox hb; have n0_ := Aside0.mk (below_step (by repeat (first | (with_reducible first | exact HB.out | apply below_alloc | apply pw_below_drewN | apply below_drew1) | exact HB.out)) hb); have n1_ := Aside0.mk (hbox); have n2_ := Aside0.mk ((by rw [hg]; exact (below_size (by repeat (first | (with_reducible first | exact HB.out | apply below_alloc | apply pw_below_drewN | apply below_drew1) | exact HB.out))) : w.heap.size ≤ gb101)); have n3_ := n2_; clear HB; have HB := n0_; have BK101 := n1_; have GW101 := n2_; have GE101 := n3_; clear n0_ n1_ n2_ n3_; clear hb hbox hg) | ((with_reducible refine gate_dst (N := 7) rfl ?_); (try (refine gate_guard (by rfl) ?_; dsimp only)); refine box_event ?hg (N := 7) ?hd (cs := #[.int .i64 a3_0, .int .i64 a3_1, .int .i64 a3_2, .string a3_3]) (t := 23) ?hr ?_; (case hd => rfl); (case hg => rfl); (case hr => first | (go_simp; done) | (go_simp; rfl)); intro gb102 hg w79 hbox hb; have n0_ := Aside0.mk (blk_below (g := gb101) (o := .cells #[.int .i64 a0_0, .int .i64 a0_1, .int .i64 a0_2, .string a0_3] 23 (0, 0)) (by (with_reducible repeat (first | refine blk_drewN ?_ _ | refine blk_drew ?_ | refine blk_alloc ?_ _)); exact BK101.out) hb); have n1_ := Aside0.mk (below_step (by repeat (first | (with_reducible first | exact HB.out | apply below_alloc | apply pw_below_drewN | apply below_drew1 | refine below_set ?_ GE101.out) | exact HB.out)) hb); have n2_ := Aside0.mk (hbox); have n3_ := Aside0.mk ((by rw [hg]; exact (below_size (by repeat (first | (with_reducible first | exact HB.out | apply below_alloc | apply pw_below_drewN | apply below_drew1 | refine below_set ?_ GE101.out) | exact HB.out))) : w.heap.size ≤ gb102)); have n4_ := n3_; have n5_ := Aside0.mk ((by rw [hg]; exact Nat.ne_of_lt (blk_lt (g := gb101) (o := .cells #[.int .i64 a0_0, .int .i64 a0_1, .int .i64 a0_2, .string a0_3] 23 (0, 0)) (by (with_reducible repeat (first | refine blk_drewN ?_ _ | refine blk_drew ?_ | refine blk_alloc ?_ _)); exact BK101.out)) : gb101 ≠ gb102)); have n6_ := Aside0.mk ((by rw [hg]; exact Nat.ne_of_gt (blk_lt (g := gb101) (o := .cells #[.int .i64 a0_0, .int .i64 a0_1, .int .i64 a0_2, .string a0_3] 23 (0, 0)) (by (with_reducible repeat (first | refine blk_drewN ?_ _ | refine blk_drew ?_ | refine blk_alloc ?_ _)); exact BK101.out)) : gb102 ≠ gb101)); clear BK101; clear HB; have BK101 := n0_; have HB := n1_; have BK102 := n2_; have GW102 := n3_; have GE102 := n4_; have NB101_102 := n5_; have NB102_101 := n6_; clear n0_ n1_ n2_ n3_ n4_ n5_ n6_; clear hb hbox hg) | ((with_reducible refine gate_dst (N := 8) rfl ?_); (try (refine gate_guard (by rfl) ?_; dsimp only)); refine box_event ?hg (N := 8) ?hd (cs := #[.int .i64 0, .int .i64 0, .int .i64 0, .string (⟨#[]⟩ : ByteArray)]) (t := 23) ?hr ?_; (case hd => rfl); (case hg => rfl); (case hr => first | (go_simp; done) | (go_simp; rfl)); intro gb103 hg w80 hbox hb; have n0_ := Aside0.mk (blk_below (g := gb101) (o := .cells #[.int .i64 a0_0, .int .i64 a0_1, .int .i64 a0_2, .string a0_3] 23 (0, 0)) (by (with_reducible repeat (first | refine blk_drewN ?_ _ | refine blk_drew ?_ | refine blk_alloc ?_ _)); exact BK101.out) hb); have n1_ := Aside0.mk (blk_below (g := gb102) (o := .cells #[.int .i64 a3_0, .int .i64 a3_1, .int .i64 a3_2, .string a3_3] 23 (0, 0)) (by (with_reducible repeat (first | refine blk_drewN ?_ _ | refine blk_drew ?_ | refine blk_alloc ?_ _)); exact BK102.out) hb); have n2_ := Aside0.mk (below_step (by repeat (first | (with_reducible first | exact HB.out | apply below_alloc | apply pw_below_drewN | apply below_drew1 | refine below_set ?_ GE101.out | refine below_set ?_ GE102.out) | exact HB.out)) hb); have n3_ := Aside0.mk (hbox); have n4_ := Aside0.mk ((by rw [hg]; exact (below_size (by repeat (first | (with_reducible first | exact HB.out | apply below_alloc | apply pw_below_drewN | apply below_drew1 | refine below_set ?_ GE101.out | refine below_set ?_ GE102.out) | exact HB.out))) : w.heap.size ≤ gb103)); have n5_ := n4_; have n6_ := Aside0.mk ((by rw [hg]; exact Nat.ne_of_lt (blk_lt (g := gb101) (o := .cells #[.int .i64 a0_0, .int .i64 a0_1, .int .i64 a0_2, .string a0_3] 23 (0, 0)) (by (with_reducible repeat (first | refine blk_drewN ?_ _ | refine blk_drew ?_ | refine blk_alloc ?_ _)); exact BK101.out)) : gb101 ≠ gb103)); have n7_ := Aside0.mk ((by rw [hg]; exact Nat.ne_of_gt (blk_lt (g := gb101) (o := .cells #[.int .i64 a0_0, .int .i64 a0_1, .int .i64 a0_2, .string a0_3] 23 (0, 0)) (by (with_reducible repeat (first | refine blk_drewN ?_ _ | refine blk_drew ?_ | refine blk_alloc ?_ _)); exact BK101.out)) : gb103 ≠ gb101)); have n8_ := Aside0.mk ((by rw [hg]; exact Nat.ne_of_lt (blk_lt (g := gb102) (o := .cells #[.int .i64 a3_0, .int .i64 a3_1, .int .i64 a3_2, .string a3_3] 23 (0, 0)) (by (with_reducible repeat (first | refine blk_drewN ?_ _ | refine blk_drew ?_ | refine blk_alloc ?_ _)); exact BK102.out)) : gb102 ≠ gb103)); have n9_ := Aside0.mk ((by rw [hg]; exact Nat.ne_of_gt (blk_lt (g := gb102) (o := .cells #[.int .i64 a3_0, .int .i64 a3_1, .int .i64 a3_2, .string a3_3] 23 (0, 0)) (by (with_reducible repeat (first | refine blk_drewN ?_ _ | refine blk_drew ?_ | refine blk_alloc ?_ _)); exact BK102.out)) : gb103 ≠ gb102)); clear BK101; clear BK102; clear HB; have BK101 := n0_; have BK102 := n1_; have HB := n2_; have BK103 := n3_; have GW103 := n4_; have GE103 := n5_; have NB101_103 := n6_; have NB103_101 := n7_; have NB102_103 := n8_; have NB103_102 := n9_; clear n0_ n1_ n2_ n3_ n4_ n5_ n6_ n7_ n8_ n9_; clear hb hbox hg; have hnb81 := NB101_102.out; have hnc81 := NB102_101.out; have hnb82 := NB101_103.out; have hnc82 := NB103_101.out; have hcz83_0 : w80.cell? ⟨gb101, 0, none⟩ = some (.int .i64 a0_0) := (blk_cell BK101.out 0).trans rfl; have hcz83_1 : w80.cell? ⟨gb101, 1, none⟩ = some (.int .i64 a0_1) := (blk_cell BK101.out 1).trans rfl; have hcz83_2 : w80.cell? ⟨gb101, 2, none⟩ = some (.int .i64 a0_2) := (blk_cell BK101.out 2).trans rfl; have hcz83_3 : w80.cell? ⟨gb101, 3, none⟩ = some (.string a0_3) := (blk_cell BK101.out 3).trans rfl; have hfz83_0 := blk_frozen BK101.out 0; have hfz83_1 := blk_frozen BK101.out 1; have hfz83_2 := blk_frozen BK101.out 2; have hfz83_3 := blk_frozen BK101.out 3; have hnb84 := NB102_103.out; have hnc84 := NB103_102.out; have hcz85_0 : w80.cell? ⟨gb102, 0, none⟩ = some (.int .i64 a3_0) := (blk_cell BK102.out 0).trans rfl; have hcz85_1 : w80.cell? ⟨gb102, 1, none⟩ = some (.int .i64 a3_1) := (blk_cell BK102.out 1).trans rfl; have hcz85_2 : w80.cell? ⟨gb102, 2, none⟩ = some (.int .i64 a3_2) := (blk_cell BK102.out 2).trans rfl; have hcz85_3 : w80.cell? ⟨gb102, 3, none⟩ = some (.string a3_3) := (blk_cell BK102.out 3).trans rfl; have hfz85_0 := blk_frozen BK102.out 0; have hfz85_1 := blk_frozen BK102.out 1; have hfz85_2 := blk_frozen BK102.out 2; have hfz85_3 := blk_frozen BK102.out 3) | ((with_reducible refine gate_dst (N := 18) rfl ?_); (try (refine gate_guard (by rfl) ?_; dsimp only)); refine Kd.R_lit k23 _ 23 ?hg (N := 18) ?hd (xs := ([(⟨a0_0, a0_1, a0_2, a0_3⟩ : S23), (⟨a3_0, a3_1, a3_2, a3_3⟩ : S23)] : List (S23))) (inner := [.int .i64 a0_0, .int .i64 a0_1, .int .i64 a0_2, .string a0_3, .int .i64 a3_0, .int .i64 a3_1, .int .i64 a3_2, .string a3_3]) (ok := fun _ => True) (okp := fun _ => True) ?hr ?hp (fun _ hk => hk) trivial (Below.refl _ _) (Nat.le_refl _) (by simp) ?_; (case hd => rfl); (case hg => rfl); (case hr => first | (go_simp; done) | (go_simp; rfl)); (case hp => exact (Reps.c4 (show Kd.M k23 _ _ _ (⟨a0_0, a0_1, a0_2, a0_3⟩ : S23) [.int .i64 a0_0, .int .i64 a0_1, .int .i64 a0_2, .string a0_3] from (k23_mkM _ _ _ (⟨a0_0, a0_1, a0_2, a0_3⟩ : S23) )) (Reps.c4 (show Kd.M k23 _ _ _ (⟨a3_0, a3_1, a3_2, a3_3⟩ : S23) [.int .i64 a3_0, .int .i64 a3_1, .int .i64 a3_2, .string a3_3] from (k23_mkM _ _ _ (⟨a3_0, a3_1, a3_2, a3_3⟩ : S23) )) (Reps.none _ _)))); intro v105 w86 ho87 hb hg_ hnew_; clear hg_ hnew_; (first | rw [← Ny104.out] at ho87 | (simp only [Int.reduceToNat] at ho87; rw [← Ny104.out] at ho87)); have n0_ := Aside0.mk (Kd.R_lower (Kd.R_newB (Kd.R_newB (Kd.R_newB ho87 (g := gb101) (o := .cells #[.int .i64 a0_0, .int .i64 a0_1, .int .i64 a0_2, .string a0_3] 23 (0, 0)) (by (with_reducible repeat (first | refine blk_drewN ?_ _ | refine blk_drew ?_ | refine blk_alloc ?_ _)); exact BK101.out)) (g := gb102) (o := .cells #[.int .i64 a3_0, .int .i64 a3_1, .int .i64 a3_2, .string a3_3] 23 (0, 0)) (by (with_reducible repeat (first | refine blk_drewN ?_ _ | refine blk_drew ?_ | refine blk_alloc ?_ _)); exact BK102.out)) (g := gb103) (o := .cells #[.int .i64 0, .int .i64 0, .int .i64 0, .string (⟨#[]⟩ : ByteArray)] 23 (0, 0)) (by (with_reducible repeat (first | refine blk_drewN ?_ _ | refine blk_drew ?_ | refine blk_alloc ?_ _)); exact BK103.out)) (below_size (by repeat (first | (with_reducible first | exact HB.out | apply below_alloc | apply pw_below_drewN | apply below_drew1 | refine below_set ?_ GE101.out | refine below_set ?_ GE102.out | refine below_set ?_ GE103.out) | exact HB.out)))); have n1_ := Aside0.mk (blk_below (g := gb101) (o := .cells #[.int .i64 a0_0, .int .i64 a0_1, .int .i64 a0_2, .string a0_3] 23 (0, 0)) (by (with_reducible repeat (first | refine blk_drewN ?_ _ | refine blk_drew ?_ | refine blk_alloc ?_ _)); exact BK101.out) hb); have n2_ := Aside0.mk (blk_below (g := gb102) (o := .cells #[.int .i64 a3_0, .int .i64 a3_1, .int .i64 a3_2, .string a3_3] 23 (0, 0)) (by (with_reducible repeat (first | refine blk_drewN ?_ _ | refine blk_drew ?_ | refine blk_alloc ?_ _)); exact BK102.out) hb); have n3_ := Aside0.mk (blk_below (g := gb103) (o := .cells #[.int .i64 0, .int .i64 0, .int .i64 0, .string (⟨#[]⟩ : ByteArray)] 23 (0, 0)) (by (with_reducible repeat (first | refine blk_drewN ?_ _ | refine blk_drew ?_ | refine blk_alloc ?_ _)); exact BK103.out) hb); have n4_ := Aside0.mk (below_step (by repeat (first | (with_reducible first | exact HB.out | apply below_alloc | apply pw_below_drewN | apply below_drew1 | refine below_set ?_ GE101.out | refine below_set ?_ GE102.out | refine below_set ?_ GE103.out) | exact HB.out)) hb); clear BK101; clear BK102; clear BK103; clear HB; have HO106 := n0_; have BK101 := n1_; have BK102 := n2_; have BK103 := n3_; have HB := n4_; clear n0_ n1_ n2_ n3_ n4_; clear hb ho87; obtain ⟨Ao88, co88, eo88⟩ := Kd.R_slice HO106.out; subst eo88) | ((with_reducible refine gate_callee (f := 57) rfl ?_); refine goesL_ (some 19) rfl rfl Try.func57 (by kernel_rfl) rfl #[.slice Ao88 y104.length co88, .int .i64 0] rfl (by (try simp only [List.map_toArray, List.map_cons, List.map_nil]); first | done | rfl | (simp only [List.length_drop, List.length_take]; rfl)) ?_; (with_reducible refine (ironbarkref05_stringsT.calls _ _ y104 0 t107 _ ?side1 ?side2 A5.out).mono ?_); (case side1 => repeat (first | exact (Kd.R_reads' HO106.out).2.2 | (with_reducible refine Kd.C_alloc ?_ _) | (with_reducible refine Kd.C_drewN ?_ _) | (with_reducible refine Kd.C_drew ?_))); (case side2 => exact (Kd.R_reads' HO106.out).2.1); rintro e w89 ⟨rfl, hb⟩; refine ⟨_, rfl, ?_⟩; have n0_ := Aside0.mk (Kd.R_below (by (with_reducible repeat (first | apply Kd.R_alloc | apply Kd.R_drewN | apply Kd.R_drew)); exact HO106.out) hb); have n1_ := Aside0.mk (blk_below (g := gb101) (o := .cells #[.int .i64 a0_0, .int .i64 a0_1, .int .i64 a0_2, .string a0_3] 23 (0, 0)) (by (with_reducible repeat (first | refine blk_drewN ?_ _ | refine blk_drew ?_ | refine blk_alloc ?_ _)); exact BK101.out) hb); have n2_ := Aside0.mk (blk_below (g := gb102) (o := .cells #[.int .i64 a3_0, .int .i64 a3_1, .int .i64 a3_2, .string a3_3] 23 (0, 0)) (by (with_reducible repeat (first | refine blk_drewN ?_ _ | refine blk_drew ?_ | refine blk_alloc ?_ _)); exact BK102.out) hb); have n3_ := Aside0.mk (blk_below (g := gb103) (o := .cells #[.int .i64 0, .int .i64 0, .int .i64 0, .string (⟨#[]⟩ : ByteArray)] 23 (0, 0)) (by (with_reducible repeat (first | refine blk_drewN ?_ _ | refine blk_drew ?_ | refine blk_alloc ?_ _)); exact BK103.out) hb); have n4_ := Aside0.mk (below_step (by repeat (first | (with_reducible first | exact HB.out | apply below_alloc | apply pw_below_drewN | apply below_drew1 | refine below_set ?_ GE101.out | refine below_set ?_ GE102.out | refine below_set ?_ GE103.out) | exact HB.out)) hb); clear HO106; clear BK101; clear BK102; clear BK103; clear HB; have HO106 := n0_; have BK101 := n1_; have BK102 := n2_; have BK103 := n3_; have HB := n4_; clear n0_ n1_ n2_ n3_ n4_; (try clear hb); (try clear hb2); (try clear hk); (try clear hi)) | ((with_reducible refine gate_dst (N := 28) rfl ?_); (try (refine gate_guard (by rfl) ?_; dsimp only)); refine Kd.R_lit (Kd.int .i64) _ 3 ?hg (N := 28) ?hd (xs := ([a1, a2] : List Int)) (inner := [.int .i64 a1, .int .i64 a2]) (ok := fun _ => True) (okp := fun _ => True) ?hr ?hp (fun _ hk => hk) trivial (Below.refl _ _) (Nat.le_refl _) (by simp) ?_; (case hd => rfl); (case hg => rfl); (case hr => first | (go_simp; done) | (go_simp; rfl)); (case hp => exact (Reps.one (show Kd.M (Kd.int .i64) _ _ _ a1 [.int .i64 a1] from rfl) (Reps.one (show Kd.M (Kd.int .i64) _ _ _ a2 [.int .i64 a2] from rfl) (Reps.none _ _)))); intro v109 w90 ho91 hb hg_ hnew_; clear hg_ hnew_; (first | rw [← Ny108.out] at ho91 | (simp only [Int.reduceToNat] at ho91; rw [← Ny108.out] at ho91)); have n0_ := Aside0.mk (Kd.R_below (by (with_reducible repeat (first | apply Kd.R_alloc | apply Kd.R_drewN | apply Kd.R_drew)); exact HO106.out) hb); have n1_ := Aside0.mk (Kd.R_lower ho91 (below_size (by repeat (first | (with_reducible first | exact HB.out | apply below_alloc | apply pw_below_drewN | apply below_drew1 | refine below_set ?_ GE101.out | refine below_set ?_ GE102.out | refine below_set ?_ GE103.out) | exact HB.out)))); have n2_ := Aside0.mk (blk_below (g := gb101) (o := .cells #[.int .i64 a0_0, .int .i64 a0_1, .int .i64 a0_2, .string a0_3] 23 (0, 0)) (by (with_reducible repeat (first | refine blk_drewN ?_ _ | refine blk_drew ?_ | refine blk_alloc ?_ _)); exact BK101.out) hb); have n3_ := Aside0.mk (blk_below (g := gb102) (o := .cells #[.int .i64 a3_0, .int .i64 a3_1, .int .i64 a3_2, .string a3_3] 23 (0, 0)) (by (with_reducible repeat (first | refine blk_drewN ?_ _ | refine blk_drew ?_ | refine blk_alloc ?_ _)); exact BK102.out) hb); have n4_ := Aside0.mk (blk_below (g := gb103) (o := .cells #[.int .i64 0, .int .i64 0, .int .i64 0, .string (⟨#[]⟩ : ByteArray)] 23 (0, 0)) (by (with_reducible repeat (first | refine blk_drewN ?_ _ | refine blk_drew ?_ | refine blk_alloc ?_ _)); exact BK103.out) hb); have n5_ := Aside0.mk (below_step (by repeat (first | (with_reducible first | exact HB.out | apply below_alloc | apply pw_below_drewN | apply below_drew1 | refine below_set ?_ GE101.out | refine below_set ?_ GE102.out | refine below_set ?_ GE103.out) | exact HB.out)) hb); clear HO106; clear BK101; clear BK102; clear BK103; clear HB; have HO106 := n0_; have HO110 := n1_; have BK101 := n2_; have BK102 := n3_; have BK103 := n4_; have HB := n5_; clear n0_ n1_ n2_ n3_ n4_ n5_; clear hb ho91; obtain ⟨Ao92, co92, eo92⟩ := Kd.R_slice HO110.out; subst eo92) | ((with_reducible refine gate_callee (f := 80) rfl ?_); refine goesL_ (some 29) rfl rfl Try.func80 (by kernel_rfl) rfl #[.slice Ao92 y108.length co92] rfl (by (try simp only [List.map_toArray, List.map_cons, List.map_nil]); first | done | rfl | (simp only [List.length_drop, List.length_take]; rfl)) ?_; (with_reducible refine (ironbarkref05_plainT.calls _ _ y108 false _ ?side1 ?side2 A7.out).mono ?_); (case side1 => repeat (first | exact (Kd.R_reads' HO110.out).2.2 | (with_reducible refine Kd.C_alloc ?_ _) | (with_reducible refine Kd.C_drewN ?_ _) | (with_reducible refine Kd.C_drew ?_))); (case side2 => exact (Kd.R_reads' HO110.out).2.1); rintro e w' ⟨rfl, ⟨nd, rfl⟩⟩; refine ⟨_, rfl, ?_⟩; (try (rw [drewN_self w90]; generalize hq_ : World.drewN w90 _ = w90; have n0_ : Aside0 (Kd.R k23 23 w90 w.heap.size (fun k_ => k_ ≠ gb101 ∧ k_ ≠ gb102 ∧ k_ ≠ gb103) (.slice Ao88 y104.length co88) y104) := ⟨by rw [← hq_]; exact (by (with_reducible repeat (first | apply Kd.R_alloc | apply Kd.R_drewN | apply Kd.R_drew)); exact Kd.R_mono HO106.out (fun _ hk => ⟨hk.1.1.2, ⟨hk.1.2, hk.2⟩⟩))⟩; have n1_ : Aside0 (Kd.R (Kd.int .i64) 3 w90 w.heap.size (fun _ => True) (.slice Ao92 y108.length co92) y108) := ⟨by rw [← hq_]; exact (by (with_reducible repeat (first | apply Kd.R_alloc | apply Kd.R_drewN | apply Kd.R_drew)); exact HO110.out)⟩; have n2_ : Aside0 (w90.heap[gb101]? = some (.cells #[.int .i64 a0_0, .int .i64 a0_1, .int .i64 a0_2, .string a0_3] 23 (0, 0))) := ⟨by rw [← hq_]; exact (by (with_reducible repeat (first | refine blk_drewN ?_ _ | refine blk_drew ?_ | refine blk_alloc ?_ _)); exact BK101.out)⟩; have n3_ : Aside0 (w90.heap[gb102]? = some (.cells #[.int .i64 a3_0, .int .i64 a3_1, .int .i64 a3_2, .string a3_3] 23 (0, 0))) := ⟨by rw [← hq_]; exact (by (with_reducible repeat (first | refine blk_drewN ?_ _ | refine blk_drew ?_ | refine blk_alloc ?_ _)); exact BK102.out)⟩; have n4_ : Aside0 (w90.heap[gb103]? = some (.cells #[.int .i64 0, .int .i64 0, .int .i64 0, .string (⟨#[]⟩ : ByteArray)] 23 (0, 0))) := ⟨by rw [← hq_]; exact (by (with_reducible repeat (first | refine blk_drewN ?_ _ | refine blk_drew ?_ | refine blk_alloc ?_ _)); exact BK103.out)⟩; have n5_ : Aside0 (Below w.heap.size w w90) := ⟨by rw [← hq_]; exact (by repeat (first | (with_reducible first | exact HB.out | apply below_alloc | apply pw_below_drewN | apply below_drew1 | refine below_set ?_ GE101.out | refine below_set ?_ GE102.out | refine below_set ?_ GE103.out) | exact HB.out))⟩; clear HO106 HO110 BK101 BK102 BK103 HB hq_; have HO106 := n0_; have HO110 := n1_; have BK101 := n2_; have BK102 := n3_; have BK103 := n4_; have HB := n5_; clear n0_ n1_ n2_ n3_ n4_ n5_)); have hcz93_0 : w90.cell? ⟨gb103, 0, none⟩ = some (.int .i64 0) := (blk_cell BK103.out 0).trans rfl; have hcz93_1 : w90.cell? ⟨gb103, 1, none⟩ = some (.int .i64 0) := (blk_cell BK103.out 1).trans rfl; have hcz93_2 : w90.cell? ⟨gb103, 2, none⟩ = some (.int .i64 0) := (blk_cell BK103.out 2).trans rfl; have hcz93_3 : w90.cell? ⟨gb103, 3, none⟩ = some (.string (⟨#[]⟩ : ByteArray)) := (blk_cell BK103.out 3).trans rfl; have hfz93_0 := blk_frozen BK103.out 0; have hfz93_1 := blk_frozen BK103.out 1; have hfz93_2 := blk_frozen BK103.out 2; have hfz93_3 := blk_frozen BK103.out 3))
      refine bodyPost_ret (results_ctt rfl _ _ gb103 23 #[.int .i64 0, .int .i64 0, .int .i64 0, .string (⟨#[]⟩ : ByteArray)] (0, 0) _ rfl (by (with_reducible repeat (first | refine blk_drewN ?_ _ | refine blk_drew ?_ | refine blk_alloc ?_ _)); refine blk_put (cs := #[.int .i64 0, .int .i64 0, .int .i64 0, .string (⟨#[]⟩ : ByteArray)]) ?_ 3 _ rfl; (with_reducible repeat (first | refine blk_drewN ?_ _ | refine blk_drew ?_ | refine blk_alloc ?_ _)); refine blk_put (cs := #[.int .i64 0, .int .i64 0, .int .i64 0, .string (⟨#[]⟩ : ByteArray)]) ?_ 2 _ rfl; (with_reducible repeat (first | refine blk_drewN ?_ _ | refine blk_drew ?_ | refine blk_alloc ?_ _)); refine blk_put (cs := #[.int .i64 0, .int .i64 0, .int .i64 0, .string (⟨#[]⟩ : ByteArray)]) ?_ 1 _ rfl; (with_reducible repeat (first | refine blk_drewN ?_ _ | refine blk_drew ?_ | refine blk_alloc ?_ _)); refine blk_put (cs := #[.int .i64 0, .int .i64 0, .int .i64 0, .string (⟨#[]⟩ : ByteArray)]) ?_ 0 _ rfl; (with_reducible repeat (first | refine blk_drewN ?_ _ | refine blk_drew ?_ | refine blk_alloc ?_ _)); exact BK103.out) Try.underlying23 rfl (by kernel_rfl)) rfl ?_
      exact ⟨by first | rfl | (simp [errW_none, errW_some] <;> rfl) | (simp [*, errW_none, errW_some] <;> rfl), by repeat (first | (with_reducible first | exact HB.out | apply below_alloc | apply pw_below_drewN | apply below_drew1 | refine below_set ?_ GE101.out | refine below_set ?_ GE102.out | refine below_set ?_ GE103.out) | exact HB.out)⟩
  · rw [if_neg c6] at H
    have c6b0 : (t107 == 0) = false := beq_eq_false_iff_ne.mpr c6
    have c6b1 : (t107 != 0) = true := bne_iff_ne.mpr c6
    simp only [Option.some.injEq, Prod.mk.injEq] at H
    obtain ⟨rfl, rfl, rfl, rfl, rfl, rfl⟩ := H
    go_enter Try.func39, Try.ntmps39
    go_wp2_with (first | ((with_reducible refine gate_dst (N := 4) rfl ?_); (try (refine gate_guard (by rfl) ?_; dsimp only)); refine box_event ?hg (N := 4) ?hd (cs := #[.int .i64 a0_0, .int .i64 a0_1, .int .i64 a0_2, .string a0_3]) (t := 23) ?hr ?_; (case hd => rfl); (case hg => rfl); (case hr => first | (go_simp; done) | (go_simp; rfl)); intro gb101 hg w94 hbox hb; have n0_ := Aside0.mk (below_step (by repeat (first | (with_reducible first | exact HB.out | apply below_alloc | apply pw_below_drewN | apply below_drew1) | exact HB.out)) hb); have n1_ := Aside0.mk (hbox); have n2_ := Aside0.mk ((by rw [hg]; exact (below_size (by repeat (first | (with_reducible first | exact HB.out | apply below_alloc | apply pw_below_drewN | apply below_drew1) | exact HB.out))) : w.heap.size ≤ gb101)); have n3_ := n2_; clear HB; have HB := n0_; have BK101 := n1_; have GW101 := n2_; have GE101 := n3_; clear n0_ n1_ n2_ n3_; clear hb hbox hg) | ((with_reducible refine gate_dst (N := 7) rfl ?_); (try (refine gate_guard (by rfl) ?_; dsimp only)); refine box_event ?hg (N := 7) ?hd (cs := #[.int .i64 a3_0, .int .i64 a3_1, .int .i64 a3_2, .string a3_3]) (t := 23) ?hr ?_; (case hd => rfl); (case hg => rfl); (case hr => first | (go_simp; done) | (go_simp; rfl)); intro gb102 hg w95 hbox hb; have n0_ := Aside0.mk (blk_below (g := gb101) (o := .cells #[.int .i64 a0_0, .int .i64 a0_1, .int .i64 a0_2, .string a0_3] 23 (0, 0)) (by (with_reducible repeat (first | refine blk_drewN ?_ _ | refine blk_drew ?_ | refine blk_alloc ?_ _)); exact BK101.out) hb); have n1_ := Aside0.mk (below_step (by repeat (first | (with_reducible first | exact HB.out | apply below_alloc | apply pw_below_drewN | apply below_drew1 | refine below_set ?_ GE101.out) | exact HB.out)) hb); have n2_ := Aside0.mk (hbox); have n3_ := Aside0.mk ((by rw [hg]; exact (below_size (by repeat (first | (with_reducible first | exact HB.out | apply below_alloc | apply pw_below_drewN | apply below_drew1 | refine below_set ?_ GE101.out) | exact HB.out))) : w.heap.size ≤ gb102)); have n4_ := n3_; have n5_ := Aside0.mk ((by rw [hg]; exact Nat.ne_of_lt (blk_lt (g := gb101) (o := .cells #[.int .i64 a0_0, .int .i64 a0_1, .int .i64 a0_2, .string a0_3] 23 (0, 0)) (by (with_reducible repeat (first | refine blk_drewN ?_ _ | refine blk_drew ?_ | refine blk_alloc ?_ _)); exact BK101.out)) : gb101 ≠ gb102)); have n6_ := Aside0.mk ((by rw [hg]; exact Nat.ne_of_gt (blk_lt (g := gb101) (o := .cells #[.int .i64 a0_0, .int .i64 a0_1, .int .i64 a0_2, .string a0_3] 23 (0, 0)) (by (with_reducible repeat (first | refine blk_drewN ?_ _ | refine blk_drew ?_ | refine blk_alloc ?_ _)); exact BK101.out)) : gb102 ≠ gb101)); clear BK101; clear HB; have BK101 := n0_; have HB := n1_; have BK102 := n2_; have GW102 := n3_; have GE102 := n4_; have NB101_102 := n5_; have NB102_101 := n6_; clear n0_ n1_ n2_ n3_ n4_ n5_ n6_; clear hb hbox hg) | ((with_reducible refine gate_dst (N := 8) rfl ?_); (try (refine gate_guard (by rfl) ?_; dsimp only)); refine box_event ?hg (N := 8) ?hd (cs := #[.int .i64 0, .int .i64 0, .int .i64 0, .string (⟨#[]⟩ : ByteArray)]) (t := 23) ?hr ?_; (case hd => rfl); (case hg => rfl); (case hr => first | (go_simp; done) | (go_simp; rfl)); intro gb103 hg w96 hbox hb; have n0_ := Aside0.mk (blk_below (g := gb101) (o := .cells #[.int .i64 a0_0, .int .i64 a0_1, .int .i64 a0_2, .string a0_3] 23 (0, 0)) (by (with_reducible repeat (first | refine blk_drewN ?_ _ | refine blk_drew ?_ | refine blk_alloc ?_ _)); exact BK101.out) hb); have n1_ := Aside0.mk (blk_below (g := gb102) (o := .cells #[.int .i64 a3_0, .int .i64 a3_1, .int .i64 a3_2, .string a3_3] 23 (0, 0)) (by (with_reducible repeat (first | refine blk_drewN ?_ _ | refine blk_drew ?_ | refine blk_alloc ?_ _)); exact BK102.out) hb); have n2_ := Aside0.mk (below_step (by repeat (first | (with_reducible first | exact HB.out | apply below_alloc | apply pw_below_drewN | apply below_drew1 | refine below_set ?_ GE101.out | refine below_set ?_ GE102.out) | exact HB.out)) hb); have n3_ := Aside0.mk (hbox); have n4_ := Aside0.mk ((by rw [hg]; exact (below_size (by repeat (first | (with_reducible first | exact HB.out | apply below_alloc | apply pw_below_drewN | apply below_drew1 | refine below_set ?_ GE101.out | refine below_set ?_ GE102.out) | exact HB.out))) : w.heap.size ≤ gb103)); have n5_ := n4_; have n6_ := Aside0.mk ((by rw [hg]; exact Nat.ne_of_lt (blk_lt (g := gb101) (o := .cells #[.int .i64 a0_0, .int .i64 a0_1, .int .i64 a0_2, .string a0_3] 23 (0, 0)) (by (with_reducible repeat (first | refine blk_drewN ?_ _ | refine blk_drew ?_ | refine blk_alloc ?_ _)); exact BK101.out)) : gb101 ≠ gb103)); have n7_ := Aside0.mk ((by rw [hg]; exact Nat.ne_of_gt (blk_lt (g := gb101) (o := .cells #[.int .i64 a0_0, .int .i64 a0_1, .int .i64 a0_2, .string a0_3] 23 (0, 0)) (by (with_reducible repeat (first | refine blk_drewN ?_ _ | refine blk_drew ?_ | refine blk_alloc ?_ _)); exact BK101.out)) : gb103 ≠ gb101)); have n8_ := Aside0.mk ((by rw [hg]; exact Nat.ne_of_lt (blk_lt (g := gb102) (o := .cells #[.int .i64 a3_0, .int .i64 a3_1, .int .i64 a3_2, .string a3_3] 23 (0, 0)) (by (with_reducible repeat (first | refine blk_drewN ?_ _ | refine blk_drew ?_ | refine blk_alloc ?_ _)); exact BK102.out)) : gb102 ≠ gb103)); have n9_ := Aside0.mk ((by rw [hg]; exact Nat.ne_of_gt (blk_lt (g := gb102) (o := .cells #[.int .i64 a3_0, .int .i64 a3_1, .int .i64 a3_2, .string a3_3] 23 (0, 0)) (by (with_reducible repeat (first | refine blk_drewN ?_ _ | refine blk_drew ?_ | refine blk_alloc ?_ _)); exact BK102.out)) : gb103 ≠ gb102)); clear BK101; clear BK102; clear HB; have BK101 := n0_; have BK102 := n1_; have HB := n2_; have BK103 := n3_; have GW103 := n4_; have GE103 := n5_; have NB101_103 := n6_; have NB103_101 := n7_; have NB102_103 := n8_; have NB103_102 := n9_; clear n0_ n1_ n2_ n3_ n4_ n5_ n6_ n7_ n8_ n9_; clear hb hbox hg; have hnb97 := NB101_102.out; have hnc97 := NB102_101.out; have hnb98 := NB101_103.out; have hnc98 := NB103_101.out; have hcz99_0 : w96.cell? ⟨gb101, 0, none⟩ = some (.int .i64 a0_0) := (blk_cell BK101.out 0).trans rfl; have hcz99_1 : w96.cell? ⟨gb101, 1, none⟩ = some (.int .i64 a0_1) := (blk_cell BK101.out 1).trans rfl; have hcz99_2 : w96.cell? ⟨gb101, 2, none⟩ = some (.int .i64 a0_2) := (blk_cell BK101.out 2).trans rfl; have hcz99_3 : w96.cell? ⟨gb101, 3, none⟩ = some (.string a0_3) := (blk_cell BK101.out 3).trans rfl; have hfz99_0 := blk_frozen BK101.out 0; have hfz99_1 := blk_frozen BK101.out 1; have hfz99_2 := blk_frozen BK101.out 2; have hfz99_3 := blk_frozen BK101.out 3; have hnb100 := NB102_103.out; have hnc100 := NB103_102.out; have hcz101_0 : w96.cell? ⟨gb102, 0, none⟩ = some (.int .i64 a3_0) := (blk_cell BK102.out 0).trans rfl; have hcz101_1 : w96.cell? ⟨gb102, 1, none⟩ = some (.int .i64 a3_1) := (blk_cell BK102.out 1).trans rfl; have hcz101_2 : w96.cell? ⟨gb102, 2, none⟩ = some (.int .i64 a3_2) := (blk_cell BK102.out 2).trans rfl; have hcz101_3 : w96.cell? ⟨gb102, 3, none⟩ = some (.string a3_3) := (blk_cell BK102.out 3).trans rfl; have hfz101_0 := blk_frozen BK102.out 0; have hfz101_1 := blk_frozen BK102.out 1; have hfz101_2 := blk_frozen BK102.out 2; have hfz101_3 := blk_frozen BK102.out 3) | ((with_reducible refine gate_dst (N := 18) rfl ?_); (try (refine gate_guard (by rfl) ?_; dsimp only)); refine Kd.R_lit k23 _ 23 ?hg (N := 18) ?hd (xs := ([(⟨a0_0, a0_1, a0_2, a0_3⟩ : S23), (⟨a3_0, a3_1, a3_2, a3_3⟩ : S23)] : List (S23))) (inner := [.int .i64 a0_0, .int .i64 a0_1, .int .i64 a0_2, .string a0_3, .int .i64 a3_0, .int .i64 a3_1, .int .i64 a3_2, .string a3_3]) (ok := fun _ => True) (okp := fun _ => True) ?hr ?hp (fun _ hk => hk) trivial (Below.refl _ _) (Nat.le_refl _) (by simp) ?_; (case hd => rfl); (case hg => rfl); (case hr => first | (go_simp; done) | (go_simp; rfl)); (case hp => exact (Reps.c4 (show Kd.M k23 _ _ _ (⟨a0_0, a0_1, a0_2, a0_3⟩ : S23) [.int .i64 a0_0, .int .i64 a0_1, .int .i64 a0_2, .string a0_3] from (k23_mkM _ _ _ (⟨a0_0, a0_1, a0_2, a0_3⟩ : S23) )) (Reps.c4 (show Kd.M k23 _ _ _ (⟨a3_0, a3_1, a3_2, a3_3⟩ : S23) [.int .i64 a3_0, .int .i64 a3_1, .int .i64 a3_2, .string a3_3] from (k23_mkM _ _ _ (⟨a3_0, a3_1, a3_2, a3_3⟩ : S23) )) (Reps.none _ _)))); intro v105 w102 ho103 hb hg_ hnew_; clear hg_ hnew_; (first | rw [← Ny104.out] at ho103 | (simp only [Int.reduceToNat] at ho103; rw [← Ny104.out] at ho103)); have n0_ := Aside0.mk (Kd.R_lower (Kd.R_newB (Kd.R_newB (Kd.R_newB ho103 (g := gb101) (o := .cells #[.int .i64 a0_0, .int .i64 a0_1, .int .i64 a0_2, .string a0_3] 23 (0, 0)) (by (with_reducible repeat (first | refine blk_drewN ?_ _ | refine blk_drew ?_ | refine blk_alloc ?_ _)); exact BK101.out)) (g := gb102) (o := .cells #[.int .i64 a3_0, .int .i64 a3_1, .int .i64 a3_2, .string a3_3] 23 (0, 0)) (by (with_reducible repeat (first | refine blk_drewN ?_ _ | refine blk_drew ?_ | refine blk_alloc ?_ _)); exact BK102.out)) (g := gb103) (o := .cells #[.int .i64 0, .int .i64 0, .int .i64 0, .string (⟨#[]⟩ : ByteArray)] 23 (0, 0)) (by (with_reducible repeat (first | refine blk_drewN ?_ _ | refine blk_drew ?_ | refine blk_alloc ?_ _)); exact BK103.out)) (below_size (by repeat (first | (with_reducible first | exact HB.out | apply below_alloc | apply pw_below_drewN | apply below_drew1 | refine below_set ?_ GE101.out | refine below_set ?_ GE102.out | refine below_set ?_ GE103.out) | exact HB.out)))); have n1_ := Aside0.mk (blk_below (g := gb101) (o := .cells #[.int .i64 a0_0, .int .i64 a0_1, .int .i64 a0_2, .string a0_3] 23 (0, 0)) (by (with_reducible repeat (first | refine blk_drewN ?_ _ | refine blk_drew ?_ | refine blk_alloc ?_ _)); exact BK101.out) hb); have n2_ := Aside0.mk (blk_below (g := gb102) (o := .cells #[.int .i64 a3_0, .int .i64 a3_1, .int .i64 a3_2, .string a3_3] 23 (0, 0)) (by (with_reducible repeat (first | refine blk_drewN ?_ _ | refine blk_drew ?_ | refine blk_alloc ?_ _)); exact BK102.out) hb); have n3_ := Aside0.mk (blk_below (g := gb103) (o := .cells #[.int .i64 0, .int .i64 0, .int .i64 0, .string (⟨#[]⟩ : ByteArray)] 23 (0, 0)) (by (with_reducible repeat (first | refine blk_drewN ?_ _ | refine blk_drew ?_ | refine blk_alloc ?_ _)); exact BK103.out) hb); have n4_ := Aside0.mk (below_step (by repeat (first | (with_reducible first | exact HB.out | apply below_alloc | apply pw_below_drewN | apply below_drew1 | refine below_set ?_ GE101.out | refine below_set ?_ GE102.out | refine below_set ?_ GE103.out) | exact HB.out)) hb); clear BK101; clear BK102; clear BK103; clear HB; have HO106 := n0_; have BK101 := n1_; have BK102 := n2_; have BK103 := n3_; have HB := n4_; clear n0_ n1_ n2_ n3_ n4_; clear hb ho103; obtain ⟨Ao104, co104, eo104⟩ := Kd.R_slice HO106.out; subst eo104) | ((with_reducible refine gate_callee (f := 57) rfl ?_); refine goesL_ (some 19) rfl rfl Try.func57 (by kernel_rfl) rfl #[.slice Ao104 y104.length co104, .int .i64 0] rfl (by (try simp only [List.map_toArray, List.map_cons, List.map_nil]); first | done | rfl | (simp only [List.length_drop, List.length_take]; rfl)) ?_; (with_reducible refine (ironbarkref05_stringsT.calls _ _ y104 0 t107 _ ?side1 ?side2 A5.out).mono ?_); (case side1 => repeat (first | exact (Kd.R_reads' HO106.out).2.2 | (with_reducible refine Kd.C_alloc ?_ _) | (with_reducible refine Kd.C_drewN ?_ _) | (with_reducible refine Kd.C_drew ?_))); (case side2 => exact (Kd.R_reads' HO106.out).2.1); rintro e w105 ⟨rfl, hb⟩; refine ⟨_, rfl, ?_⟩; have n0_ := Aside0.mk (Kd.R_below (by (with_reducible repeat (first | apply Kd.R_alloc | apply Kd.R_drewN | apply Kd.R_drew)); exact HO106.out) hb); have n1_ := Aside0.mk (blk_below (g := gb101) (o := .cells #[.int .i64 a0_0, .int .i64 a0_1, .int .i64 a0_2, .string a0_3] 23 (0, 0)) (by (with_reducible repeat (first | refine blk_drewN ?_ _ | refine blk_drew ?_ | refine blk_alloc ?_ _)); exact BK101.out) hb); have n2_ := Aside0.mk (blk_below (g := gb102) (o := .cells #[.int .i64 a3_0, .int .i64 a3_1, .int .i64 a3_2, .string a3_3] 23 (0, 0)) (by (with_reducible repeat (first | refine blk_drewN ?_ _ | refine blk_drew ?_ | refine blk_alloc ?_ _)); exact BK102.out) hb); have n3_ := Aside0.mk (blk_below (g := gb103) (o := .cells #[.int .i64 0, .int .i64 0, .int .i64 0, .string (⟨#[]⟩ : ByteArray)] 23 (0, 0)) (by (with_reducible repeat (first | refine blk_drewN ?_ _ | refine blk_drew ?_ | refine blk_alloc ?_ _)); exact BK103.out) hb); have n4_ := Aside0.mk (below_step (by repeat (first | (with_reducible first | exact HB.out | apply below_alloc | apply pw_below_drewN | apply below_drew1 | refine below_set ?_ GE101.out | refine below_set ?_ GE102.out | refine below_set ?_ GE103.out) | exact HB.out)) hb); clear HO106; clear BK101; clear BK102; clear BK103; clear HB; have HO106 := n0_; have BK101 := n1_; have BK102 := n2_; have BK103 := n3_; have HB := n4_; clear n0_ n1_ n2_ n3_ n4_; (try clear hb); (try clear hb2); (try clear hk); (try clear hi); have hcz106_0 : w105.cell? ⟨gb103, 0, none⟩ = some (.int .i64 0) := (blk_cell BK103.out 0).trans rfl; have hcz106_1 : w105.cell? ⟨gb103, 1, none⟩ = some (.int .i64 0) := (blk_cell BK103.out 1).trans rfl; have hcz106_2 : w105.cell? ⟨gb103, 2, none⟩ = some (.int .i64 0) := (blk_cell BK103.out 2).trans rfl; have hcz106_3 : w105.cell? ⟨gb103, 3, none⟩ = some (.string (⟨#[]⟩ : ByteArray)) := (blk_cell BK103.out 3).trans rfl; have hfz106_0 := blk_frozen BK103.out 0; have hfz106_1 := blk_frozen BK103.out 1; have hfz106_2 := blk_frozen BK103.out 2; have hfz106_3 := blk_frozen BK103.out 3))
    refine bodyPost_ret (results_ctt rfl _ _ gb103 23 #[.int .i64 0, .int .i64 0, .int .i64 0, .string (⟨#[]⟩ : ByteArray)] (0, 0) _ rfl (by (with_reducible repeat (first | refine blk_drewN ?_ _ | refine blk_drew ?_ | refine blk_alloc ?_ _)); refine blk_put (cs := #[.int .i64 0, .int .i64 0, .int .i64 0, .string (⟨#[]⟩ : ByteArray)]) ?_ 3 _ rfl; (with_reducible repeat (first | refine blk_drewN ?_ _ | refine blk_drew ?_ | refine blk_alloc ?_ _)); refine blk_put (cs := #[.int .i64 0, .int .i64 0, .int .i64 0, .string (⟨#[]⟩ : ByteArray)]) ?_ 2 _ rfl; (with_reducible repeat (first | refine blk_drewN ?_ _ | refine blk_drew ?_ | refine blk_alloc ?_ _)); refine blk_put (cs := #[.int .i64 0, .int .i64 0, .int .i64 0, .string (⟨#[]⟩ : ByteArray)]) ?_ 1 _ rfl; (with_reducible repeat (first | refine blk_drewN ?_ _ | refine blk_drew ?_ | refine blk_alloc ?_ _)); refine blk_put (cs := #[.int .i64 0, .int .i64 0, .int .i64 0, .string (⟨#[]⟩ : ByteArray)]) ?_ 0 _ rfl; (with_reducible repeat (first | refine blk_drewN ?_ _ | refine blk_drew ?_ | refine blk_alloc ?_ _)); exact BK103.out) Try.underlying23 rfl (by kernel_rfl)) rfl ?_
    exact ⟨by first | rfl | (simp [errW_none, errW_some] <;> rfl) | (simp [*, errW_none, errW_some] <;> rfl), by repeat (first | (with_reducible first | exact HB.out | apply below_alloc | apply pw_below_drewN | apply below_drew1 | refine below_set ?_ GE101.out | refine below_set ?_ GE102.out | refine below_set ?_ GE103.out) | exact HB.out)⟩
end Go.Proofs.Ytnelblndidciiaa.P

-- from the text Shelf
namespace Go.Proofs
open Go.Shelf
def Try.lays105_ren : Go.Shelf.Ren := ⟨fun | 105 => 83 | 212 => 93 | 99 => 94 | 165 => 95 | 166 => 96 | 170 => 97 | 169 => 98 | 263 => 102 | 264 => 103 | 206 => 104 | 240 => 105 | 241 => 106 | 276 => 108 | 277 => 109 | n => n, fun | 9 => 9 | 3 => 3 | 4 => 4 | 20 => 20 | 0 => 0 | 46 => 92 | 109 => 93 | 5 => 5 | 72 => 98 | 76 => 102 | 51 => 108 | 146 => 109 | 53 => 111 | 148 => 112 | 70 => 96 | 37 => 77 | 75 => 101 | 127 => 114 | 164 => 115 | 80 => 105 | n => n, fun | n => n⟩
theorem Try.lays105 : Go.Proofs.Lays.n105 Try.prog Try.lays105_ren := {
  mixed := by kernel_rfl
  f99 := Try.func94.trans (congrArg some (by kernel_rfl))
  f105 := Try.func83.trans (congrArg some (by kernel_rfl))
  f165 := Try.func95.trans (congrArg some (by kernel_rfl))
  f166 := Try.func96.trans (congrArg some (by kernel_rfl))
  f169 := Try.func98.trans (congrArg some (by kernel_rfl))
  f170 := Try.func97.trans (congrArg some (by kernel_rfl))
  f206 := Try.func104.trans (congrArg some (by kernel_rfl))
  f212 := Try.func93.trans (congrArg some (by kernel_rfl))
  f240 := Try.func105.trans (congrArg some (by kernel_rfl))
  f241 := Try.func106.trans (congrArg some (by kernel_rfl))
  f263 := Try.func102.trans (congrArg some (by kernel_rfl))
  f264 := Try.func103.trans (congrArg some (by kernel_rfl))
  f276 := Try.func108.trans (congrArg some (by kernel_rfl))
  f277 := Try.func109.trans (congrArg some (by kernel_rfl))
  t0 := Try.underlying0
  a0 := Try.isAgg0
  z0 := Try.sizeOf0
  v0 := Try.zeroValue0
  t3 := Try.underlying3
  a3 := Try.isAgg3
  z3 := Try.sizeOf3
  v3 := Try.zeroValue3
  t4 := Try.underlying4
  a4 := Try.isAgg4
  z4 := Try.sizeOf4
  v4 := Try.zeroValue4
  t5 := Try.underlying5
  a5 := Try.isAgg5
  z5 := Try.sizeOf5
  v5 := Try.zeroValue5
  t9 := Try.underlying9
  a9 := Try.isAgg9
  z9 := Try.sizeOf9
  v9 := Try.zeroValue9
  t20 := Try.underlying20
  a20 := Try.isAgg20
  z20 := Try.sizeOf20
  v20 := Try.zeroValue20
  t37 := Try.underlying77
  a37 := Try.isAgg77
  z37 := Try.sizeOf77
  v37 := Try.zeroValue77
  t46 := Try.underlying92
  a46 := Try.isAgg92
  z46 := Try.sizeOf92
  v46 := Try.zeroValue92
  t51 := Try.underlying108
  a51 := Try.isAgg108
  z51 := Try.sizeOf108
  v51 := Try.zeroValue108
  t53 := Try.underlying111
  a53 := Try.isAgg111
  z53 := Try.sizeOf111
  v53 := Try.zeroValue111
  t70 := Try.underlying96
  a70 := Try.isAgg96
  z70 := Try.sizeOf96
  v70 := Try.zeroValue96
  t72 := Try.underlying98
  a72 := Try.isAgg98
  z72 := Try.sizeOf98
  v72 := Try.zeroValue98
  t75 := Try.underlying101
  a75 := Try.isAgg101
  z75 := Try.sizeOf101
  v75 := Try.zeroValue101
  t76 := Try.underlying102
  a76 := Try.isAgg102
  z76 := Try.sizeOf102
  v76 := Try.zeroValue102
  t109 := Try.underlying93
  a109 := Try.isAgg93
  z109 := Try.sizeOf93
  v109 := Try.zeroValue93
  t127 := Try.underlying114
  a127 := Try.isAgg114
  z127 := Try.sizeOf114
  v127 := Try.zeroValue114
  t146 := Try.underlying109
  a146 := Try.isAgg109
  z146 := Try.sizeOf109
  v146 := Try.zeroValue109
  t148 := Try.underlying112
  a148 := Try.isAgg112
  z148 := Try.sizeOf112
  v148 := Try.zeroValue112
  t164 := Try.underlying115
  a164 := Try.isAgg115
  z164 := Try.sizeOf115
  v164 := Try.zeroValue115 }
theorem Try.Builder_Extra_105 : Builder.Extra Try.prog Try.lays105_ren := {
  sizeBuilder := by kernel_rfl
  liesBuilder := by kernel_rfl
  t5 := Try.underlying5
  a5 := Try.isAgg5
  z5 := Try.sizeOf5
  v5 := Try.zeroValue5
  infoByte := by kernel_rfl
  cellsByte := by kernel_rfl
  sizeByte := by kernel_rfl
  neB5 := by decide }
open Go.RowKit Go.Lib in
/-- **strings.Repeat: count ≥ 0, the result within one allocation: count copies of s.** (LAID: no walk: one application.) -/
theorem Try.strings_Repeat (s : ByteArray) (c : Nat) (w : World) (hc : c ≤ 9223372036854775807) (hlen : s.size * c ≤ 140737488355328) :
    Calls Try.prog 83 #[.string s, .int .i64 c] w fun e w' => e = .returned (.string ⟨(Lib.repeatL s.data.toList c).toArray⟩) ∧ Below w.heap.size w w' := Any.strings_Repeat Try.lays105 Try.Builder_Extra_105 s c w hc hlen
end Go.Proofs

-- from the text Hf
namespace Go.Proofs.Ytnelblndidciiaa.P
open Go.RowKit Go.Proofs.YtnelblndidciiaaW.PrintWords Go.Proofs.YtnelblndidciiaaW.PrintLast Go.Proofs.YtnelblndidciiaaW.PrintMore
set_option linter.unusedVariables false
set_option linter.unusedSimpArgs false
def strings_Repeat.f (a0 : ByteArray) (a1 : Int) : Option ByteArray := if 0 ≤ a1 ∧ a1 ≤ 9223372036854775807 ∧ a0.size * a1.toNat ≤ 140737488355328 then some ⟨(Lib.repeatL a0.data.toList a1.toNat).toArray⟩ else none
theorem strings_Repeat.calls (a0 : ByteArray) (a1 : Int) (r : ByteArray) (w : World) (h : strings_Repeat.f a0 a1 = some r) :
    Calls Try.prog 83 #[.string a0, .int .i64 a1] w fun e w' => e = .returned (.string r) ∧ Below w.heap.size w w' := by
  unfold strings_Repeat.f at h
  split at h
  · rename_i hc
    obtain rfl : (⟨(Lib.repeatL a0.data.toList a1.toNat).toArray⟩ : ByteArray) = r := by simpa using h
    obtain ⟨c, rfl⟩ := Int.eq_ofNat_of_zero_le hc.1
    exact Go.Proofs.Try.strings_Repeat a0 c w (by omega) (by simpa using hc.2.2)
  · cases h
theorem toList_nil (p : ByteArray) (h : p.size = 0) : p.toList = [] := by
  rw [ByteArray.toList_eq]; exact List.eq_nil_of_length_eq_zero (by simpa using h)
theorem toList_ne (p : ByteArray) (h : 0 < p.size) : ¬ p.toList = [] := by
  rw [ByteArray.toList_eq]; intro e
  have : p.size = 0 := by rw [← data_length, e]; rfl
  omega
end Go.Proofs.Ytnelblndidciiaa.P

-- from the text Hd
namespace Go.Proofs.Ytnelblndidciiaa.P
open Go.RowKit Go.Proofs.YtnelblndidciiaaW.PrintWords Go.Proofs.YtnelblndidciiaaW.PrintLast Go.Proofs.YtnelblndidciiaaW.PrintMore
set_option linter.unusedVariables false
set_option linter.unusedSimpArgs false
theorem bytes_ext {a b : ByteArray} (h : a.size = b.size) (h2 : ∀ i : Nat, i < a.size → bt a (i : Int) = bt b (i : Int)) : a = b := by
  obtain ⟨⟨la⟩⟩ := a
  obtain ⟨⟨lb⟩⟩ := b
  have hs : la.length = lb.length := h
  have : la = lb := by
    apply List.ext_getElem hs
    intro i h1 h3
    have := h2 i h1
    rw [btN ⟨⟨la⟩⟩ i (show i < ByteArray.size ⟨⟨la⟩⟩ from h1), btN ⟨⟨lb⟩⟩ i (show i < ByteArray.size ⟨⟨lb⟩⟩ from h3)] at this
    exact UInt8.toNat.inj (by exact_mod_cast this)
  rw [this]
theorem bt_append (a b : ByteArray) (i : Nat) : bt (a ++ b) (i : Int) = if i < a.size then bt a (i : Int) else bt b ((i - a.size : Nat) : Int) := by
  by_cases h : i < (a ++ b).size
  · rw [btN _ i h]
    rw [ByteArray.size_append] at h
    by_cases h1 : i < a.size
    · rw [if_pos h1, btN _ i h1, ByteArray.getElem_append_left h1]
    · rw [if_neg h1, btN _ (i - a.size) (by omega), ByteArray.getElem_append_right (by omega)]
  · have h' := h
    rw [ByteArray.size_append] at h
    rw [if_neg (by omega)]
    unfold bt
    rw [dif_neg (by simpa using h'), dif_neg (by simp; omega)]
theorem size_extract0 (a : ByteArray) (m : Nat) : (a.extract 0 m).size = min m a.size := by simp [ByteArray.size_extract]
theorem bt_extract0 (a : ByteArray) (m i : Nat) (h : i < m) (h2 : i < a.size) : bt (a.extract 0 m) (i : Int) = bt a (i : Int) := by
  rw [btN _ i (by rw [size_extract0]; omega), btN _ i h2, ByteArray.getElem_extract]
  simp
/-- One character, n times. -/
def repC (c : UInt8) (n : Nat) : ByteArray := ⟨Array.replicate n c⟩
theorem repC_size (c : UInt8) (n : Nat) : (repC c n).size = n := by simp [repC, ByteArray.size]
theorem bt_repC (c : UInt8) (n i : Nat) (h : i < n) : bt (repC c n) (i : Int) = (c.toNat : Int) := by
  rw [btN _ i (by rw [repC_size]; exact h)]
  simp [repC, ByteArray.getElem_eq_getElem_data]
/-- A text filled up behind, or cut. -/
def fillB (kind : Int) : UInt8 := if kind = 5 then 48 else 32
theorem filler_is (kind : Int) : ironbarkref05_Filler.f kind = some (repC (fillB kind) 1) := by
  unfold ironbarkref05_Filler.f fillB
  by_cases h : kind = 5
  · rw [if_pos h, if_pos h]; rfl
  · rw [if_neg h, if_neg h]; rfl
end Go.Proofs.Ytnelblndidciiaa.P

-- from the text Hh
namespace Go.Proofs.Ytnelblndidciiaa.P
open Go.RowKit Go.Proofs.YtnelblndidciiaaW.PrintWords Go.Proofs.YtnelblndidciiaaW.PrintLast Go.Proofs.YtnelblndidciiaaW.PrintMore
set_option linter.unusedVariables false
set_option linter.unusedSimpArgs false
def validT (k p q n : Int) (v : Bool) (s : ByteArray) : Bool := (k == 4 || k == 5) && (p == 0 && (q == 0 && (decide (0 ≤ n) && (decide (n ≤ 250) && decide (s.size = 0)))))
def bits_ValidType.f (a0_0 a0_1 a0_2 a0_3 : Int) (a0_4 : Bool) (a0_5 : ByteArray) : Option Bool := some (validT a0_0 a0_1 a0_2 a0_3 a0_4 a0_5)
theorem vtype_no (k : Int) (h4 : k ≠ 4) (h5 : k ≠ 5) (p q n : Int) (v : Bool) (s : ByteArray)  (w : World) :
    Calls Try.prog 82 #[.agg #[.int .i64 k, .int .i64 p, .int .i64 q, .int .i64 n, .bool v, .string s]] w fun e w' => e = .returned (.bool false) ∧ Below w.heap.size w w' := by
  go_enter Try.func82, Try.ntmps82
  go_wp2_with (go_at_call 84; refine (of_no k h4 h5 _).mono ?_; rintro e w' ⟨rfl, rfl⟩)
  go_ret
  exact ⟨rfl, (Below.refl _ _).alloc (Nat.le_refl _) _⟩
theorem vtype_4_p (p q n : Int) (v : Bool) (s : ByteArray) (h : p ≠ 0) (w : World) :
    Calls Try.prog 82 #[.agg #[.int .i64 4, .int .i64 p, .int .i64 q, .int .i64 n, .bool v, .string s]] w fun e w' => e = .returned (.bool false) ∧ Below w.heap.size w w' := by
  have h1 : (p == 0) = false := beq_eq_false_iff_ne.2 h
  go_enter Try.func82, Try.ntmps82
  go_wp2_with (go_at_call 84; refine (of_4 _).mono ?_; rintro e w' ⟨rfl, rfl⟩)
  go_ret
  exact ⟨rfl, (Below.refl _ _).alloc (Nat.le_refl _) _⟩
theorem vtype_4_q (p q n : Int) (v : Bool) (s : ByteArray) (h : q ≠ 0) (w : World) :
    Calls Try.prog 82 #[.agg #[.int .i64 4, .int .i64 0, .int .i64 q, .int .i64 n, .bool v, .string s]] w fun e w' => e = .returned (.bool false) ∧ Below w.heap.size w w' := by
  have h1 : (q == 0) = false := beq_eq_false_iff_ne.2 h
  go_enter Try.func82, Try.ntmps82
  go_wp2_with (go_at_call 84; refine (of_4 _).mono ?_; rintro e w' ⟨rfl, rfl⟩)
  go_ret
  exact ⟨rfl, (Below.refl _ _).alloc (Nat.le_refl _) _⟩
theorem vtype_4_n (p q n : Int) (v : Bool) (s : ByteArray) (h : ¬ 0 ≤ n) (w : World) :
    Calls Try.prog 82 #[.agg #[.int .i64 4, .int .i64 0, .int .i64 0, .int .i64 n, .bool v, .string s]] w fun e w' => e = .returned (.bool false) ∧ Below w.heap.size w w' := by
  have h1 : decide (0 ≤ n) = false := decide_eq_false h
  go_enter Try.func82, Try.ntmps82
  go_wp2_with (go_at_call 84; refine (of_4 _).mono ?_; rintro e w' ⟨rfl, rfl⟩)
  go_ret
  exact ⟨rfl, (Below.refl _ _).alloc (Nat.le_refl _) _⟩
theorem vtype_4_m (p q n : Int) (v : Bool) (s : ByteArray) (h0 : 0 ≤ n) (h : ¬ n ≤ 250) (w : World) :
    Calls Try.prog 82 #[.agg #[.int .i64 4, .int .i64 0, .int .i64 0, .int .i64 n, .bool v, .string s]] w fun e w' => e = .returned (.bool false) ∧ Below w.heap.size w w' := by
  have h1 : decide (0 ≤ n) = true := decide_eq_true h0
  have h2 : decide (n ≤ 250) = false := decide_eq_false h
  go_enter Try.func82, Try.ntmps82
  go_wp2_with (go_at_call 84; refine (of_4 _).mono ?_; rintro e w' ⟨rfl, rfl⟩)
  go_ret
  exact ⟨rfl, (Below.refl _ _).alloc (Nat.le_refl _) _⟩
theorem vtype_4_s (p q n : Int) (v : Bool) (s : ByteArray) (h0 : 0 ≤ n) (h : n ≤ 250) (h2 : 0 < s.size) (w : World) :
    Calls Try.prog 82 #[.agg #[.int .i64 4, .int .i64 0, .int .i64 0, .int .i64 n, .bool v, .string s]] w fun e w' => e = .returned (.bool false) ∧ Below w.heap.size w w' := by
  have h3 : decide (0 ≤ n) = true := decide_eq_true h0
  have h4 : decide (n ≤ 250) = true := decide_eq_true h
  have h5 : s.toList.isEmpty = false := by cases e : s.toList with | nil => exact absurd e (toList_ne s h2) | cons _ _ => rfl
  have h6 := toList_ne s h2
  go_enter Try.func82, Try.ntmps82
  go_wp2_with (go_at_call 84; refine (of_4 _).mono ?_; rintro e w' ⟨rfl, rfl⟩)
  go_ret
  exact ⟨rfl, (Below.refl _ _).alloc (Nat.le_refl _) _⟩
theorem vtype_4_y (p q n : Int) (v : Bool) (s : ByteArray) (h0 : 0 ≤ n) (h : n ≤ 250) (h2 : s.size = 0) (w : World) :
    Calls Try.prog 82 #[.agg #[.int .i64 4, .int .i64 0, .int .i64 0, .int .i64 n, .bool v, .string s]] w fun e w' => e = .returned (.bool true) ∧ Below w.heap.size w w' := by
  have h3 : decide (0 ≤ n) = true := decide_eq_true h0
  have h4 : decide (n ≤ 250) = true := decide_eq_true h
  have h5 := toList_nil s h2
  clear h2
  go_enter Try.func82, Try.ntmps82
  go_wp2_with (go_at_call 84; refine (of_4 _).mono ?_; rintro e w' ⟨rfl, rfl⟩)
  go_ret
  exact ⟨rfl, (Below.refl _ _).alloc (Nat.le_refl _) _⟩
theorem vtype_5_p (p q n : Int) (v : Bool) (s : ByteArray) (h : p ≠ 0) (w : World) :
    Calls Try.prog 82 #[.agg #[.int .i64 5, .int .i64 p, .int .i64 q, .int .i64 n, .bool v, .string s]] w fun e w' => e = .returned (.bool false) ∧ Below w.heap.size w w' := by
  have h1 : (p == 0) = false := beq_eq_false_iff_ne.2 h
  go_enter Try.func82, Try.ntmps82
  go_wp2_with (go_at_call 84; refine (of_5 _).mono ?_; rintro e w' ⟨rfl, rfl⟩)
  go_ret
  exact ⟨rfl, (Below.refl _ _).alloc (Nat.le_refl _) _⟩
theorem vtype_5_q (p q n : Int) (v : Bool) (s : ByteArray) (h : q ≠ 0) (w : World) :
    Calls Try.prog 82 #[.agg #[.int .i64 5, .int .i64 0, .int .i64 q, .int .i64 n, .bool v, .string s]] w fun e w' => e = .returned (.bool false) ∧ Below w.heap.size w w' := by
  have h1 : (q == 0) = false := beq_eq_false_iff_ne.2 h
  go_enter Try.func82, Try.ntmps82
  go_wp2_with (go_at_call 84; refine (of_5 _).mono ?_; rintro e w' ⟨rfl, rfl⟩)
  go_ret
  exact ⟨rfl, (Below.refl _ _).alloc (Nat.le_refl _) _⟩
theorem vtype_5_n (p q n : Int) (v : Bool) (s : ByteArray) (h : ¬ 0 ≤ n) (w : World) :
    Calls Try.prog 82 #[.agg #[.int .i64 5, .int .i64 0, .int .i64 0, .int .i64 n, .bool v, .string s]] w fun e w' => e = .returned (.bool false) ∧ Below w.heap.size w w' := by
  have h1 : decide (0 ≤ n) = false := decide_eq_false h
  go_enter Try.func82, Try.ntmps82
  go_wp2_with (go_at_call 84; refine (of_5 _).mono ?_; rintro e w' ⟨rfl, rfl⟩)
  go_ret
  exact ⟨rfl, (Below.refl _ _).alloc (Nat.le_refl _) _⟩
theorem vtype_5_m (p q n : Int) (v : Bool) (s : ByteArray) (h0 : 0 ≤ n) (h : ¬ n ≤ 250) (w : World) :
    Calls Try.prog 82 #[.agg #[.int .i64 5, .int .i64 0, .int .i64 0, .int .i64 n, .bool v, .string s]] w fun e w' => e = .returned (.bool false) ∧ Below w.heap.size w w' := by
  have h1 : decide (0 ≤ n) = true := decide_eq_true h0
  have h2 : decide (n ≤ 250) = false := decide_eq_false h
  go_enter Try.func82, Try.ntmps82
  go_wp2_with (go_at_call 84; refine (of_5 _).mono ?_; rintro e w' ⟨rfl, rfl⟩)
  go_ret
  exact ⟨rfl, (Below.refl _ _).alloc (Nat.le_refl _) _⟩
theorem vtype_5_s (p q n : Int) (v : Bool) (s : ByteArray) (h0 : 0 ≤ n) (h : n ≤ 250) (h2 : 0 < s.size) (w : World) :
    Calls Try.prog 82 #[.agg #[.int .i64 5, .int .i64 0, .int .i64 0, .int .i64 n, .bool v, .string s]] w fun e w' => e = .returned (.bool false) ∧ Below w.heap.size w w' := by
  have h3 : decide (0 ≤ n) = true := decide_eq_true h0
  have h4 : decide (n ≤ 250) = true := decide_eq_true h
  have h5 : s.toList.isEmpty = false := by cases e : s.toList with | nil => exact absurd e (toList_ne s h2) | cons _ _ => rfl
  have h6 := toList_ne s h2
  go_enter Try.func82, Try.ntmps82
  go_wp2_with (go_at_call 84; refine (of_5 _).mono ?_; rintro e w' ⟨rfl, rfl⟩)
  go_ret
  exact ⟨rfl, (Below.refl _ _).alloc (Nat.le_refl _) _⟩
theorem vtype_5_y (p q n : Int) (v : Bool) (s : ByteArray) (h0 : 0 ≤ n) (h : n ≤ 250) (h2 : s.size = 0) (w : World) :
    Calls Try.prog 82 #[.agg #[.int .i64 5, .int .i64 0, .int .i64 0, .int .i64 n, .bool v, .string s]] w fun e w' => e = .returned (.bool true) ∧ Below w.heap.size w w' := by
  have h3 : decide (0 ≤ n) = true := decide_eq_true h0
  have h4 : decide (n ≤ 250) = true := decide_eq_true h
  have h5 := toList_nil s h2
  clear h2
  go_enter Try.func82, Try.ntmps82
  go_wp2_with (go_at_call 84; refine (of_5 _).mono ?_; rintro e w' ⟨rfl, rfl⟩)
  go_ret
  exact ⟨rfl, (Below.refl _ _).alloc (Nat.le_refl _) _⟩
theorem vtype_all (k p q n : Int) (v : Bool) (s : ByteArray) (w : World) :
    Calls Try.prog 82 #[.agg #[.int .i64 k, .int .i64 p, .int .i64 q, .int .i64 n, .bool v, .string s]] w fun e w' => e = .returned (.bool (validT k p q n v s)) ∧ Below w.heap.size w w' := by
  by_cases hk : k = 4
  · subst hk
    by_cases hp : p = 0
    · subst hp
      by_cases hq : q = 0
      · subst hq
        by_cases h0 : 0 ≤ n
        · by_cases hm : n ≤ 250
          · by_cases hs : s.size = 0
            · rw [show validT 4 0 0 n v s = true by simp [validT, h0, hm, hs]]; exact vtype_4_y 0 0 n v s h0 hm hs w
            · rw [show validT 4 0 0 n v s = false by simp [validT, hs]]; exact vtype_4_s 0 0 n v s h0 hm (by omega) w
          · rw [show validT 4 0 0 n v s = false by simp [validT, hm]]; exact vtype_4_m 0 0 n v s h0 hm w
        · rw [show validT 4 0 0 n v s = false by simp [validT, h0]]; exact vtype_4_n 0 0 n v s h0 w
      · rw [show validT 4 0 q n v s = false by simp [validT, hq]]; exact vtype_4_q 0 q n v s hq w
    · rw [show validT 4 p q n v s = false by simp [validT, hp]]; exact vtype_4_p p q n v s hp w
  by_cases hk5 : k = 5
  · subst hk5
    by_cases hp : p = 0
    · subst hp
      by_cases hq : q = 0
      · subst hq
        by_cases h0 : 0 ≤ n
        · by_cases hm : n ≤ 250
          · by_cases hs : s.size = 0
            · rw [show validT 5 0 0 n v s = true by simp [validT, h0, hm, hs]]; exact vtype_5_y 0 0 n v s h0 hm hs w
            · rw [show validT 5 0 0 n v s = false by simp [validT, hs]]; exact vtype_5_s 0 0 n v s h0 hm (by omega) w
          · rw [show validT 5 0 0 n v s = false by simp [validT, hm]]; exact vtype_5_m 0 0 n v s h0 hm w
        · rw [show validT 5 0 0 n v s = false by simp [validT, h0]]; exact vtype_5_n 0 0 n v s h0 w
      · rw [show validT 5 0 q n v s = false by simp [validT, hq]]; exact vtype_5_q 0 q n v s hq w
    · rw [show validT 5 p q n v s = false by simp [validT, hp]]; exact vtype_5_p p q n v s hp w
  · rw [show validT k p q n v s = false by simp [validT, hk, hk5]]; exact vtype_no k hk hk5 p q n v s w
theorem bits_ValidType.calls (a0_0 a0_1 a0_2 a0_3 : Int) (a0_4 : Bool) (a0_5 : ByteArray) (r : Bool) (w : World) (h : bits_ValidType.f a0_0 a0_1 a0_2 a0_3 a0_4 a0_5 = some r) :
    Calls Try.prog 82 #[.agg #[.int .i64 a0_0, .int .i64 a0_1, .int .i64 a0_2, .int .i64 a0_3, .bool a0_4, .string a0_5]] w fun e w' => e = .returned (.bool r) ∧ Below w.heap.size w w' := by
  obtain rfl : validT a0_0 a0_1 a0_2 a0_3 a0_4 a0_5 = r := by simpa [bits_ValidType.f] using h
  exact vtype_all _ _ _ _ _ _ w
end Go.Proofs.Ytnelblndidciiaa.P

-- from the text Hi
namespace Go.Proofs.Ytnelblndidciiaa.P
open Go.RowKit Go.Proofs.YtnelblndidciiaaW.PrintWords Go.Proofs.YtnelblndidciiaaW.PrintLast Go.Proofs.YtnelblndidciiaaW.PrintMore
set_option linter.unusedVariables false
set_option linter.unusedSimpArgs false
def fillU (n : Int) : UInt8 := if n = 4 then 32 else 48
def bits_Fit.f (a0_0 a0_1 a0_2 : Int) (a0_3 : ByteArray) (a1_0 a1_1 a1_2 a1_3 : Int) (a1_4 : Bool) (a1_5 : ByteArray) : Option (Int × Int × Int × ByteArray × Int × Int) :=
  if validB a0_0 a0_1 a0_2 a0_3 = true then
    (if validT a1_0 a1_1 a1_2 a1_3 a1_4 a1_5 = true then
      (if a0_0 = a1_0 then
        (if a1_3 < (a0_3.size : Int) then some (a0_0, 0, 0, a0_3.extract 0 a1_3.toNat, 6, 0)
         else if a1_4 = true then some (a0_0, a0_1, a0_2, a0_3, 0, 0)
         else some (a0_0, 0, 0, a0_3 ++ ⟨(Lib.repeatL [fillU a0_0] (a1_3.toNat - a0_3.size)).toArray⟩, 0, 0))
       else some (0, 0, 0, ⟨#[]⟩, 0, 10))
     else some (0, 0, 0, ⟨#[]⟩, 0, 1))
  else some (0, 0, 0, ⟨#[]⟩, 0, 1)
theorem valid_is (v : S23) (w : World) (b : Bool) (h : validB v.f0 v.f1 v.f2 v.f3 = b) : Calls Try.prog 62 #[.agg #[.int .i64 v.f0, .int .i64 v.f1, .int .i64 v.f2, .string v.f3]] w fun e w' => e = .returned (.bool b) ∧ Below w.heap.size w w' :=
  bits_Valid.calls _ _ _ _ b w (by rw [← h]; rfl)
theorem validT_is (t : S44) (w : World) (b : Bool) (h : validT t.f0 t.f1 t.f2 t.f3 t.f4 t.f5 = b) : Calls Try.prog 82 #[.agg #[.int .i64 t.f0, .int .i64 t.f1, .int .i64 t.f2, .int .i64 t.f3, .bool t.f4, .string t.f5]] w fun e w' => e = .returned (.bool b) ∧ Below w.heap.size w w' :=
  bits_ValidType.calls _ _ _ _ _ _ b w (by rw [← h]; rfl)
set_option maxRecDepth 100000 in
theorem fit_a (v : S23) (t : S44) (w : World) (h : validB v.f0 v.f1 v.f2 v.f3 = false) :
    Calls Try.prog 40 #[.agg #[.int .i64 v.f0, .int .i64 v.f1, .int .i64 v.f2, .string v.f3], .agg #[.int .i64 t.f0, .int .i64 t.f1, .int .i64 t.f2, .int .i64 t.f3, .bool t.f4, .string t.f5]] w fun e w' =>
      e = .returned (.tuple #[.agg #[.int .i64 0, .int .i64 0, .int .i64 0, .string ⟨#[]⟩], .int .i64 0, .int .i64 1]) ∧ Below w.heap.size w w' := by
  have H := Lib.hid h
  clear h
  go_enter Try.func40, Try.ntmps40
  go_wp2_with fail
  refine (valid_is v _ _ H.out).mono ?_
  rintro e w' ⟨rfl, hb1⟩
  have hb : Below w.heap.size w w' := ((((Below.refl _ _).alloc (Nat.le_refl _) _).alloc (by simp) _).alloc (by simp; omega) _).trans (hb1.mono (by simp; omega))
  have hZ : w'.heap[w.heap.size + 1 + 1]? = some (.cells #[.int .i64 0, .int .i64 0, .int .i64 0, .string ⟨#[]⟩] 23 (0, 0)) := blk_below (blk_at_n (by simp)) hb1
  have c0 := blk_cell hZ 0
  have c1 := blk_cell hZ 1
  have c2 := blk_cell hZ 2
  have c3 := blk_cell hZ 3
  have f0 := blk_frozen hZ 0
  have f1 := blk_frozen hZ 1
  have f2 := blk_frozen hZ 2
  have f3 := blk_frozen hZ 3
  clear hZ hb1
  go_wp2_with fail
  refine bodyPost_ret (v := .tuple #[.agg #[.int .i64 0, .int .i64 0, .int .i64 0, .string ⟨#[]⟩], .int .i64 0, .int .i64 1]) (by simp [results, Try.results40, go_sem, c0, c1, c2, c3]) rfl ⟨rfl, ?_⟩
  repeat (first | exact hb | refine Below.setCell ?_ (by simp; omega) _)
set_option maxRecDepth 100000 in
theorem fit_b (v : S23) (t : S44) (w : World) (h : validB v.f0 v.f1 v.f2 v.f3 = true) (h2 : validT t.f0 t.f1 t.f2 t.f3 t.f4 t.f5 = false) :
    Calls Try.prog 40 #[.agg #[.int .i64 v.f0, .int .i64 v.f1, .int .i64 v.f2, .string v.f3], .agg #[.int .i64 t.f0, .int .i64 t.f1, .int .i64 t.f2, .int .i64 t.f3, .bool t.f4, .string t.f5]] w fun e w' =>
      e = .returned (.tuple #[.agg #[.int .i64 0, .int .i64 0, .int .i64 0, .string ⟨#[]⟩], .int .i64 0, .int .i64 1]) ∧ Below w.heap.size w w' := by
  have H := Lib.hid h
  have H2 := Lib.hid h2
  clear h h2
  go_enter Try.func40, Try.ntmps40
  go_wp2_with fail
  refine (valid_is v _ _ H.out).mono ?_
  rintro e w' ⟨rfl, hb1⟩
  have hb : Below w.heap.size w w' := ((((Below.refl _ _).alloc (Nat.le_refl _) _).alloc (by simp) _).alloc (by simp; omega) _).trans (hb1.mono (by simp; omega))
  have hT : w'.heap[w.heap.size + 1]? = some (.cells #[.int .i64 t.f0, .int .i64 t.f1, .int .i64 t.f2, .int .i64 t.f3, .bool t.f4, .string t.f5] 44 (0, 0)) := blk_below (blk_alloc (blk_at_n (by simp)) _) hb1
  have hZ : w'.heap[w.heap.size + 1 + 1]? = some (.cells #[.int .i64 0, .int .i64 0, .int .i64 0, .string ⟨#[]⟩] 23 (0, 0)) := blk_below (blk_at_n (by simp)) hb1
  have HZ := Aside0.mk hZ
  have t0 := (blk_cell hT 0).trans rfl
  have t1 := (blk_cell hT 1).trans rfl
  have t2 := (blk_cell hT 2).trans rfl
  have t3 := (blk_cell hT 3).trans rfl
  have t4 := (blk_cell hT 4).trans rfl
  have t5 := (blk_cell hT 5).trans rfl
  clear hT hZ hb1
  go_wp2_with fail
  refine (validT_is t _ _ H2.out).mono ?_
  rintro e w2 ⟨rfl, hb2⟩
  have hZ := blk_below HZ.out hb2
  have hb3 := hb.trans (hb2.mono hb.size)
  have c0 := blk_cell hZ 0
  have c1 := blk_cell hZ 1
  have c2 := blk_cell hZ 2
  have c3 := blk_cell hZ 3
  have f0 := blk_frozen hZ 0
  have f1 := blk_frozen hZ 1
  have f2 := blk_frozen hZ 2
  have f3 := blk_frozen hZ 3
  clear hZ hb2 hb t0 t1 t2 t3 t4 t5
  go_wp2_with fail
  refine bodyPost_ret (v := .tuple #[.agg #[.int .i64 0, .int .i64 0, .int .i64 0, .string ⟨#[]⟩], .int .i64 0, .int .i64 1]) (by simp [results, Try.results40, go_sem, c0, c1, c2, c3]) rfl ⟨rfl, ?_⟩
  repeat (first | exact hb3 | refine Below.setCell ?_ (by simp; omega) _)
def fitRes (v : S23) (t : S44) : Int × Int × Int × ByteArray × Int × Int :=
  if v.f0 = t.f0 then
        (if t.f3 < (v.f3.size : Int) then (v.f0, 0, 0, v.f3.extract 0 t.f3.toNat, 6, 0)
         else if t.f4 = true then (v.f0, v.f1, v.f2, v.f3, 0, 0)
         else (v.f0, 0, 0, v.f3 ++ ⟨(Lib.repeatL [fillU v.f0] (t.f3.toNat - v.f3.size)).toArray⟩, 0, 0))
       else (0, 0, 0, ⟨#[]⟩, 0, 10)
set_option maxRecDepth 100000 in
set_option maxHeartbeats 4000000 in
theorem fit_c (v : S23) (t : S44) (w : World) (h : validB v.f0 v.f1 v.f2 v.f3 = true) (h2 : validT t.f0 t.f1 t.f2 t.f3 t.f4 t.f5 = true) (hno : ¬ (v.f0 = t.f0 ∧ ¬ t.f3 < (v.f3.size : Int) ∧ t.f4 = false)) (r : Int × Int × Int × ByteArray × Int × Int) (hr : fitRes v t = r) :
    Calls Try.prog 40 #[.agg #[.int .i64 v.f0, .int .i64 v.f1, .int .i64 v.f2, .string v.f3], .agg #[.int .i64 t.f0, .int .i64 t.f1, .int .i64 t.f2, .int .i64 t.f3, .bool t.f4, .string t.f5]] w fun e w' =>
      e = .returned (.tuple #[.agg #[.int .i64 r.1, .int .i64 r.2.1, .int .i64 r.2.2.1, .string r.2.2.2.1], .int .i64 r.2.2.2.2.1, .int .i64 r.2.2.2.2.2]) ∧ Below w.heap.size w w' := by
  have hv4 := (okV_parts (v := v) h).1
  have hv1 := (okV_parts (v := v) h).2.1
  have hv2 := (okV_parts (v := v) h).2.2.1
  have hvs := (okV_parts (v := v) h).2.2.2.1
  have ht0 : 0 ≤ t.f3 ∧ t.f3 ≤ 250 := by simp [validT] at h2; omega
  have H := Lib.hid h
  have H2 := Lib.hid h2
  have HR := Lib.hid hr
  have HV1 := Lib.hid hv1
  have HV2 := Lib.hid hv2
  obtain ⟨ht1, ht2⟩ := ht0
  have HNO := Lib.hid hno
  clear h h2 hr hv1 hv2 hno
  go_enter Try.func40, Try.ntmps40
  go_wp2_with fail
  refine (valid_is v _ _ H.out).mono ?_
  rintro e w' ⟨rfl, hb1⟩
  have hb : Below w.heap.size w w' := ((((Below.refl _ _).alloc (Nat.le_refl _) _).alloc (by simp) _).alloc (by simp; omega) _).trans (hb1.mono (by simp; omega))
  have hV : w'.heap[w.heap.size]? = some (.cells #[.int .i64 v.f0, .int .i64 v.f1, .int .i64 v.f2, .string v.f3] 23 (0, 0)) := blk_below (blk_alloc (blk_alloc (blk_at_n (by simp)) _) _) hb1
  have hT : w'.heap[w.heap.size + 1]? = some (.cells #[.int .i64 t.f0, .int .i64 t.f1, .int .i64 t.f2, .int .i64 t.f3, .bool t.f4, .string t.f5] 44 (0, 0)) := blk_below (blk_alloc (blk_at_n (by simp)) _) hb1
  have hZ : w'.heap[w.heap.size + 1 + 1]? = some (.cells #[.int .i64 0, .int .i64 0, .int .i64 0, .string ⟨#[]⟩] 23 (0, 0)) := blk_below (blk_at_n (by simp)) hb1
  have HZ := Aside0.mk hZ
  have HT := Aside0.mk hT
  have HV := Aside0.mk hV
  have t0 := (blk_cell hT 0).trans rfl
  have t1 := (blk_cell hT 1).trans rfl
  have t2 := (blk_cell hT 2).trans rfl
  have t3 := (blk_cell hT 3).trans rfl
  have t4 := (blk_cell hT 4).trans rfl
  have t5 := (blk_cell hT 5).trans rfl
  clear hT hZ hV hb1
  go_wp2_with fail
  refine (validT_is t _ _ H2.out).mono ?_
  rintro e w2 ⟨rfl, hb2⟩
  have hZ := blk_below HZ.out hb2
  have hT := blk_below HT.out hb2
  have hV := blk_below HV.out hb2
  have hb3 := Aside0.mk (hb.trans (hb2.mono hb.size))
  clear hb2 hb t0 t1 t2 t3 t4 t5 HZ HV HT
  have HZ := Aside0.mk hZ
  have t0 : w2.cell? ⟨w.heap.size + 1, 0, none⟩ = some (.int .i64 t.f0) := (blk_cell hT 0).trans rfl
  have t3 : w2.cell? ⟨w.heap.size + 1, 3, none⟩ = some (.int .i64 t.f3) := (blk_cell hT 3).trans rfl
  have t4 : w2.cell? ⟨w.heap.size + 1, 4, none⟩ = some (.bool t.f4) := (blk_cell hT 4).trans rfl
  have v0 : w2.cell? ⟨w.heap.size, 0, none⟩ = some (.int .i64 v.f0) := (blk_cell hV 0).trans rfl
  have v1 : w2.cell? ⟨w.heap.size, 1, none⟩ = some (.int .i64 v.f1) := (blk_cell hV 1).trans rfl
  have v2 : w2.cell? ⟨w.heap.size, 2, none⟩ = some (.int .i64 v.f2) := (blk_cell hV 2).trans rfl
  have v3 : w2.cell? ⟨w.heap.size, 3, none⟩ = some (.string v.f3) := (blk_cell hV 3).trans rfl
  clear hT hV hZ
  by_cases hk : v.f0 = t.f0
  · have hkb : (v.f0 != t.f0) = false := bne_eq_false_iff_eq.2 hk
    by_cases hlt : t.f3 < (v.f3.size : Int)
    · have hr := HR.out
      unfold fitRes at hr
      rw [if_pos hk, if_pos hlt] at hr
      subst hr
      clear HR hk
      have hle : t.f3 ≤ (v.f3.size : Int) := by omega
      go_wp2_with fail
      go_region_held3 (fun w' => w'.cell? ⟨w.heap.size, 0, none⟩ = some (.int .i64 v.f0) ∧ w'.cell? ⟨w.heap.size, 1, none⟩ = some (.int .i64 v.f1) ∧ w'.cell? ⟨w.heap.size, 2, none⟩ = some (.int .i64 v.f2) ∧ w'.cell? ⟨w.heap.size, 3, none⟩ = some (.string v.f3) ∧ w'.cell? ⟨w.heap.size + 1, 3, none⟩ = some (.int .i64 t.f3)) (((refine ⟨?_, ?_, ?_, ?_, ?_⟩) <;> (first | (simp [go_sem, *]; done) | (refine pw_cell_below (by assumption) ?_; first | assumption | (simp [go_sem, *]; done)))))
        ((go_at_call 65; refine (bits_with.calls _ _ _ _ _ _ _ _ _ _ (bits_with.is _ _ _ _ _)).mono ?_; rintro e w4 ⟨rfl, hb6⟩; have hZ := blk_below (blk_drew HZ.out) hb6; have c0 := blk_cell hZ 0; have c1 := blk_cell hZ 1; have c2 := blk_cell hZ 2; have c3 := blk_cell hZ 3; have f0 := blk_frozen hZ 0; have f1 := blk_frozen hZ 1; have f2 := blk_frozen hZ 2; have f3 := blk_frozen hZ 3; clear hZ))
      go_wp2_with fail
      refine bodyPost_ret (v := .tuple #[.agg #[.int .i64 v.f0, .int .i64 0, .int .i64 0, .string (v.f3.extract 0 t.f3.toNat)], .int .i64 6, .int .i64 0]) (by simp [results, Try.results40, go_sem, c0, c1, c2, c3]) rfl ⟨rfl, ?_⟩
      repeat (first | exact (hb3.out.drew.trans (hb6.mono hb3.out.size)) | refine Below.setCell ?_ (by simp; omega) _)
    · have hle : (v.f3.size : Int) ≤ t.f3 := by omega
      cases hv : t.f4 with
      | true =>
        have hr := HR.out
        unfold fitRes at hr
        rw [if_pos hk, if_neg hlt, if_pos hv] at hr
        subst hr
        rw [hv] at t4
        clear HR hk hv
        have hZ := HZ.out
        have c0 := blk_cell hZ 0
        have c1 := blk_cell hZ 1
        have c2 := blk_cell hZ 2
        have c3 := blk_cell hZ 3
        have f0 := blk_frozen hZ 0
        have f1 := blk_frozen hZ 1
        have f2 := blk_frozen hZ 2
        have f3 := blk_frozen hZ 3
        clear hZ
        go_wp2_with fail
        refine bodyPost_ret (v := .tuple #[.agg #[.int .i64 v.f0, .int .i64 v.f1, .int .i64 v.f2, .string v.f3], .int .i64 0, .int .i64 0]) (by simp [results, Try.results40, go_sem, c0, c1, c2, c3]) rfl ⟨rfl, ?_⟩
        repeat (first | exact hb3.out | refine Below.setCell ?_ (by simp; omega) _)
      | false => exact absurd ⟨hk, by omega, hv⟩ HNO.out
  · have hkb : (v.f0 != t.f0) = true := bne_iff_ne.2 hk
    have hr := HR.out
    unfold fitRes at hr
    rw [if_neg hk] at hr
    subst hr
    clear HR hk
    have hZ := HZ.out
    have c0 := blk_cell hZ 0
    have c1 := blk_cell hZ 1
    have c2 := blk_cell hZ 2
    have c3 := blk_cell hZ 3
    have f0 := blk_frozen hZ 0
    have f1 := blk_frozen hZ 1
    have f2 := blk_frozen hZ 2
    have f3 := blk_frozen hZ 3
    clear hZ
    go_wp2_with fail
    refine bodyPost_ret (v := .tuple #[.agg #[.int .i64 0, .int .i64 0, .int .i64 0, .string ⟨#[]⟩], .int .i64 0, .int .i64 10]) (by simp [results, Try.results40, go_sem, c0, c1, c2, c3]) rfl ⟨rfl, ?_⟩
    repeat (first | exact hb3.out | refine Below.setCell ?_ (by simp; omega) _)
set_option maxRecDepth 100000 in
set_option maxHeartbeats 8000000 in
theorem fit_d4 (s : ByteArray) (t : S44) (w : World) (h : validB 4 0 0 s = true) (h2 : validT t.f0 t.f1 t.f2 t.f3 t.f4 t.f5 = true) (hk : t.f0 = 4) (hle : (s.size : Int) ≤ t.f3) (hy : t.f4 = false) (out : ByteArray) (hout : s ++ ⟨(Lib.repeatL [32] (t.f3.toNat - s.size)).toArray⟩ = out) :
    Calls Try.prog 40 #[.agg #[.int .i64 4, .int .i64 0, .int .i64 0, .string s], .agg #[.int .i64 t.f0, .int .i64 t.f1, .int .i64 t.f2, .int .i64 t.f3, .bool t.f4, .string t.f5]] w fun e w' =>
      e = .returned (.tuple #[.agg #[.int .i64 4, .int .i64 0, .int .i64 0, .string out], .int .i64 0, .int .i64 0]) ∧ Below w.heap.size w w' := by
  have hvs : s.size ≤ 250 := (okV_parts (v := ⟨4, 0, 0, s⟩) h).2.2.2.1
  have ht0 : 0 ≤ t.f3 ∧ t.f3 ≤ 250 := by simp [validT] at h2; omega
  obtain ⟨ht1, ht2⟩ := ht0
  obtain ⟨rr, hrr⟩ : ∃ rr : ByteArray, (⟨(Lib.repeatL [32] (t.f3.toNat - s.size)).toArray⟩ : ByteArray) = rr := ⟨_, rfl⟩
  have hrep : strings_Repeat.f ⟨#[32]⟩ (t.f3 - s.size) = some rr := by
    unfold strings_Repeat.f
    have e : (t.f3 - (s.size : Int)).toNat = t.f3.toNat - s.size := by omega
    have e2 : (⟨#[32]⟩ : ByteArray).size = 1 := rfl
    rw [if_pos ⟨by omega, by omega, by rw [e2]; omega⟩, e]
    exact congrArg some hrr
  have hrsz : s.size + rr.size ≤ 9223372036854775807 := by
    have : rr.size = t.f3.toNat - s.size := by
      rw [← hrr]; show (Lib.repeatL [32] (t.f3.toNat - s.size)).toArray.size = _
      rw [List.size_toArray, Lib.repeatL_length]; simp
    omega
  rw [hrr] at hout
  have H := Lib.hid h
  have H2 := Lib.hid h2
  have HREP := Lib.hid hrep
  have HOUT := Lib.hid hout
  have HY := Lib.hid hy
  have HK := Lib.hid hk
  clear h h2 hrr hrep hout hy hk
  have hlt : ¬ t.f3 < (s.size : Int) := by omega
  have hmm := fmethod4
  have hcc : ∀ w : World, (convert 5 9 (.int .u8 32)).run Try.prog w = .ok (.string ⟨#[32]⟩) w := fun _ => by kernel_rfl
  go_enter Try.func40, Try.ntmps40
  go_wp2_with fail
  refine (valid_is ⟨4, 0, 0, s⟩ _ _ H.out).mono ?_
  rintro e w' ⟨rfl, hb1⟩
  have hb : Below w.heap.size w w' := ((((Below.refl _ _).alloc (Nat.le_refl _) _).alloc (by simp) _).alloc (by simp; omega) _).trans (hb1.mono (by simp; omega))
  have hV : w'.heap[w.heap.size]? = some (.cells #[.int .i64 4, .int .i64 0, .int .i64 0, .string s] 23 (0, 0)) := blk_below (blk_alloc (blk_alloc (blk_at_n (by simp)) _) _) hb1
  have hT : w'.heap[w.heap.size + 1]? = some (.cells #[.int .i64 t.f0, .int .i64 t.f1, .int .i64 t.f2, .int .i64 t.f3, .bool t.f4, .string t.f5] 44 (0, 0)) := blk_below (blk_alloc (blk_at_n (by simp)) _) hb1
  have hZ : w'.heap[w.heap.size + 1 + 1]? = some (.cells #[.int .i64 0, .int .i64 0, .int .i64 0, .string ⟨#[]⟩] 23 (0, 0)) := blk_below (blk_at_n (by simp)) hb1
  have HZ := Aside0.mk hZ
  have HT := Aside0.mk hT
  have HV := Aside0.mk hV
  have t0 := (blk_cell hT 0).trans rfl
  have t1 := (blk_cell hT 1).trans rfl
  have t2 := (blk_cell hT 2).trans rfl
  have t3 := (blk_cell hT 3).trans rfl
  have t4 := (blk_cell hT 4).trans rfl
  have t5 := (blk_cell hT 5).trans rfl
  clear hT hZ hV hb1
  go_wp2_with fail
  refine (validT_is t _ _ H2.out).mono ?_
  rintro e w2 ⟨rfl, hb2⟩
  have hZ := blk_below HZ.out hb2
  have hT := blk_below HT.out hb2
  have hV := blk_below HV.out hb2
  have hb3 := Aside0.mk (hb.trans (hb2.mono hb.size))
  clear hb2 hb t0 t1 t2 t3 t4 t5 HZ HV HT
  have HZ := Aside0.mk hZ
  have t0 : w2.cell? ⟨w.heap.size + 1, 0, none⟩ = some (.int .i64 4) := by rw [← HK.out]; exact (blk_cell hT 0).trans rfl
  have t3 : w2.cell? ⟨w.heap.size + 1, 3, none⟩ = some (.int .i64 t.f3) := (blk_cell hT 3).trans rfl
  have t4 : w2.cell? ⟨w.heap.size + 1, 4, none⟩ = some (.bool false) := by rw [← HY.out]; exact (blk_cell hT 4).trans rfl
  have v0 : w2.cell? ⟨w.heap.size, 0, none⟩ = some (.int .i64 4) := (blk_cell hV 0).trans rfl
  have v1 : w2.cell? ⟨w.heap.size, 1, none⟩ = some (.int .i64 0) := (blk_cell hV 1).trans rfl
  have v2 : w2.cell? ⟨w.heap.size, 2, none⟩ = some (.int .i64 0) := (blk_cell hV 2).trans rfl
  have v3 : w2.cell? ⟨w.heap.size, 3, none⟩ = some (.string s) := (blk_cell hV 3).trans rfl
  clear hT hV hZ
  have hw64 : IntKind.i64.wrap (t.f3 - (s.size : Int)) = t.f3 - (s.size : Int) := IntWalk.i64_in _ (by omega)
  go_wp2_with fail
  have hcat2 : ¬ (9223372036854775807 < s.size + rr.size) := by omega
  go_region_held3 (fun w' => w'.cell? ⟨w.heap.size, 0, none⟩ = some (.int .i64 4) ∧ w'.cell? ⟨w.heap.size, 1, none⟩ = some (.int .i64 0) ∧ w'.cell? ⟨w.heap.size, 2, none⟩ = some (.int .i64 0) ∧ w'.cell? ⟨w.heap.size, 3, none⟩ = some (.string s) ∧ w'.cell? ⟨w.heap.size + 1, 3, none⟩ = some (.int .i64 t.f3)) (((refine ⟨?_, ?_, ?_, ?_, ?_⟩) <;> (first | (simp [go_sem, *]; done) | (refine pw_cell_below (by assumption) ?_; first | assumption | (simp [go_sem, *]; done)))))
    ((first | (go_at_call 84; refine (of_4 _).mono ?_; rintro e w4 ⟨rfl, rfl⟩) | (go_at_call 127; refine (filler4 _).mono ?_; rintro e w5 ⟨rfl, hb5⟩) | (go_at_call 83; refine (strings_Repeat.calls _ _ _ _ HREP.out).mono ?_; rintro e w6 ⟨rfl, hb6⟩) | (go_at_call 65; refine (bits_with.calls _ _ _ _ _ _ _ _ _ _ (bits_with.is _ _ _ _ _)).mono ?_; rintro e w7 ⟨rfl, hb7⟩; have hZ := blk_below (blk_below (blk_below (blk_drew HZ.out) hb5) hb6) hb7; have c0 := blk_cell hZ 0; have c1 := blk_cell hZ 1; have c2 := blk_cell hZ 2; have c3 := blk_cell hZ 3; have f0 := blk_frozen hZ 0; have f1 := blk_frozen hZ 1; have f2 := blk_frozen hZ 2; have f3 := blk_frozen hZ 3; clear hZ)))
  go_wp2_with fail
  have hb9 : Below w.heap.size w w7 := ((hb3.out.drew.trans (hb5.mono hb3.out.size)).trans (hb6.mono (hb3.out.drew.trans (hb5.mono hb3.out.size)).size)).trans (hb7.mono ((hb3.out.drew.trans (hb5.mono hb3.out.size)).trans (hb6.mono (hb3.out.drew.trans (hb5.mono hb3.out.size)).size)).size)
  refine bodyPost_ret (v := .tuple #[.agg #[.int .i64 4, .int .i64 0, .int .i64 0, .string (s ++ rr)], .int .i64 0, .int .i64 0]) (by simp [results, Try.results40, go_sem, c0, c1, c2, c3]) rfl ⟨by rw [HOUT.out], ?_⟩
  repeat (first | exact hb9 | refine Below.setCell ?_ (by simp; omega) _)
set_option maxRecDepth 100000 in
set_option maxHeartbeats 8000000 in
theorem fit_d5 (s : ByteArray) (t : S44) (w : World) (h : validB 5 0 0 s = true) (h2 : validT t.f0 t.f1 t.f2 t.f3 t.f4 t.f5 = true) (hk : t.f0 = 5) (hle : (s.size : Int) ≤ t.f3) (hy : t.f4 = false) (out : ByteArray) (hout : s ++ ⟨(Lib.repeatL [48] (t.f3.toNat - s.size)).toArray⟩ = out) :
    Calls Try.prog 40 #[.agg #[.int .i64 5, .int .i64 0, .int .i64 0, .string s], .agg #[.int .i64 t.f0, .int .i64 t.f1, .int .i64 t.f2, .int .i64 t.f3, .bool t.f4, .string t.f5]] w fun e w' =>
      e = .returned (.tuple #[.agg #[.int .i64 5, .int .i64 0, .int .i64 0, .string out], .int .i64 0, .int .i64 0]) ∧ Below w.heap.size w w' := by
  have hvs : s.size ≤ 250 := (okV_parts (v := ⟨5, 0, 0, s⟩) h).2.2.2.1
  have ht0 : 0 ≤ t.f3 ∧ t.f3 ≤ 250 := by simp [validT] at h2; omega
  obtain ⟨ht1, ht2⟩ := ht0
  obtain ⟨rr, hrr⟩ : ∃ rr : ByteArray, (⟨(Lib.repeatL [48] (t.f3.toNat - s.size)).toArray⟩ : ByteArray) = rr := ⟨_, rfl⟩
  have hrep : strings_Repeat.f ⟨#[48]⟩ (t.f3 - s.size) = some rr := by
    unfold strings_Repeat.f
    have e : (t.f3 - (s.size : Int)).toNat = t.f3.toNat - s.size := by omega
    have e2 : (⟨#[48]⟩ : ByteArray).size = 1 := rfl
    rw [if_pos ⟨by omega, by omega, by rw [e2]; omega⟩, e]
    exact congrArg some hrr
  have hrsz : s.size + rr.size ≤ 9223372036854775807 := by
    have : rr.size = t.f3.toNat - s.size := by
      rw [← hrr]; show (Lib.repeatL [48] (t.f3.toNat - s.size)).toArray.size = _
      rw [List.size_toArray, Lib.repeatL_length]; simp
    omega
  rw [hrr] at hout
  have H := Lib.hid h
  have H2 := Lib.hid h2
  have HREP := Lib.hid hrep
  have HOUT := Lib.hid hout
  have HY := Lib.hid hy
  have HK := Lib.hid hk
  clear h h2 hrr hrep hout hy hk
  have hlt : ¬ t.f3 < (s.size : Int) := by omega
  have hmm := fmethod5
  have hcc : ∀ w : World, (convert 5 9 (.int .u8 48)).run Try.prog w = .ok (.string ⟨#[48]⟩) w := fun _ => by kernel_rfl
  go_enter Try.func40, Try.ntmps40
  go_wp2_with fail
  refine (valid_is ⟨5, 0, 0, s⟩ _ _ H.out).mono ?_
  rintro e w' ⟨rfl, hb1⟩
  have hb : Below w.heap.size w w' := ((((Below.refl _ _).alloc (Nat.le_refl _) _).alloc (by simp) _).alloc (by simp; omega) _).trans (hb1.mono (by simp; omega))
  have hV : w'.heap[w.heap.size]? = some (.cells #[.int .i64 5, .int .i64 0, .int .i64 0, .string s] 23 (0, 0)) := blk_below (blk_alloc (blk_alloc (blk_at_n (by simp)) _) _) hb1
  have hT : w'.heap[w.heap.size + 1]? = some (.cells #[.int .i64 t.f0, .int .i64 t.f1, .int .i64 t.f2, .int .i64 t.f3, .bool t.f4, .string t.f5] 44 (0, 0)) := blk_below (blk_alloc (blk_at_n (by simp)) _) hb1
  have hZ : w'.heap[w.heap.size + 1 + 1]? = some (.cells #[.int .i64 0, .int .i64 0, .int .i64 0, .string ⟨#[]⟩] 23 (0, 0)) := blk_below (blk_at_n (by simp)) hb1
  have HZ := Aside0.mk hZ
  have HT := Aside0.mk hT
  have HV := Aside0.mk hV
  have t0 := (blk_cell hT 0).trans rfl
  have t1 := (blk_cell hT 1).trans rfl
  have t2 := (blk_cell hT 2).trans rfl
  have t3 := (blk_cell hT 3).trans rfl
  have t4 := (blk_cell hT 4).trans rfl
  have t5 := (blk_cell hT 5).trans rfl
  clear hT hZ hV hb1
  go_wp2_with fail
  refine (validT_is t _ _ H2.out).mono ?_
  rintro e w2 ⟨rfl, hb2⟩
  have hZ := blk_below HZ.out hb2
  have hT := blk_below HT.out hb2
  have hV := blk_below HV.out hb2
  have hb3 := Aside0.mk (hb.trans (hb2.mono hb.size))
  clear hb2 hb t0 t1 t2 t3 t4 t5 HZ HV HT
  have HZ := Aside0.mk hZ
  have t0 : w2.cell? ⟨w.heap.size + 1, 0, none⟩ = some (.int .i64 5) := by rw [← HK.out]; exact (blk_cell hT 0).trans rfl
  have t3 : w2.cell? ⟨w.heap.size + 1, 3, none⟩ = some (.int .i64 t.f3) := (blk_cell hT 3).trans rfl
  have t4 : w2.cell? ⟨w.heap.size + 1, 4, none⟩ = some (.bool false) := by rw [← HY.out]; exact (blk_cell hT 4).trans rfl
  have v0 : w2.cell? ⟨w.heap.size, 0, none⟩ = some (.int .i64 5) := (blk_cell hV 0).trans rfl
  have v1 : w2.cell? ⟨w.heap.size, 1, none⟩ = some (.int .i64 0) := (blk_cell hV 1).trans rfl
  have v2 : w2.cell? ⟨w.heap.size, 2, none⟩ = some (.int .i64 0) := (blk_cell hV 2).trans rfl
  have v3 : w2.cell? ⟨w.heap.size, 3, none⟩ = some (.string s) := (blk_cell hV 3).trans rfl
  clear hT hV hZ
  have hw64 : IntKind.i64.wrap (t.f3 - (s.size : Int)) = t.f3 - (s.size : Int) := IntWalk.i64_in _ (by omega)
  go_wp2_with fail
  have hcat2 : ¬ (9223372036854775807 < s.size + rr.size) := by omega
  go_region_held3 (fun w' => w'.cell? ⟨w.heap.size, 0, none⟩ = some (.int .i64 5) ∧ w'.cell? ⟨w.heap.size, 1, none⟩ = some (.int .i64 0) ∧ w'.cell? ⟨w.heap.size, 2, none⟩ = some (.int .i64 0) ∧ w'.cell? ⟨w.heap.size, 3, none⟩ = some (.string s) ∧ w'.cell? ⟨w.heap.size + 1, 3, none⟩ = some (.int .i64 t.f3)) (((refine ⟨?_, ?_, ?_, ?_, ?_⟩) <;> (first | (simp [go_sem, *]; done) | (refine pw_cell_below (by assumption) ?_; first | assumption | (simp [go_sem, *]; done)))))
    ((first | (go_at_call 84; refine (of_5 _).mono ?_; rintro e w4 ⟨rfl, rfl⟩) | (go_at_call 125; refine (filler5 _).mono ?_; rintro e w5 ⟨rfl, hb5⟩) | (go_at_call 83; refine (strings_Repeat.calls _ _ _ _ HREP.out).mono ?_; rintro e w6 ⟨rfl, hb6⟩) | (go_at_call 65; refine (bits_with.calls _ _ _ _ _ _ _ _ _ _ (bits_with.is _ _ _ _ _)).mono ?_; rintro e w7 ⟨rfl, hb7⟩; have hZ := blk_below (blk_below (blk_below (blk_drew HZ.out) hb5) hb6) hb7; have c0 := blk_cell hZ 0; have c1 := blk_cell hZ 1; have c2 := blk_cell hZ 2; have c3 := blk_cell hZ 3; have f0 := blk_frozen hZ 0; have f1 := blk_frozen hZ 1; have f2 := blk_frozen hZ 2; have f3 := blk_frozen hZ 3; clear hZ)))
  go_wp2_with fail
  have hb9 : Below w.heap.size w w7 := ((hb3.out.drew.trans (hb5.mono hb3.out.size)).trans (hb6.mono (hb3.out.drew.trans (hb5.mono hb3.out.size)).size)).trans (hb7.mono ((hb3.out.drew.trans (hb5.mono hb3.out.size)).trans (hb6.mono (hb3.out.drew.trans (hb5.mono hb3.out.size)).size)).size)
  refine bodyPost_ret (v := .tuple #[.agg #[.int .i64 5, .int .i64 0, .int .i64 0, .string (s ++ rr)], .int .i64 0, .int .i64 0]) (by simp [results, Try.results40, go_sem, c0, c1, c2, c3]) rfl ⟨by rw [HOUT.out], ?_⟩
  repeat (first | exact hb9 | refine Below.setCell ?_ (by simp; omega) _)
theorem bits_Fit.calls (a0_0 a0_1 a0_2 : Int) (a0_3 : ByteArray) (a1_0 a1_1 a1_2 a1_3 : Int) (a1_4 : Bool) (a1_5 : ByteArray) (r1 r2 r3 : Int) (r4 : ByteArray) (r5 r6 : Int) (w : World)
    (h : bits_Fit.f a0_0 a0_1 a0_2 a0_3 a1_0 a1_1 a1_2 a1_3 a1_4 a1_5 = some (r1, r2, r3, r4, r5, r6)) :
    Calls Try.prog 40 #[.agg #[.int .i64 a0_0, .int .i64 a0_1, .int .i64 a0_2, .string a0_3], .agg #[.int .i64 a1_0, .int .i64 a1_1, .int .i64 a1_2, .int .i64 a1_3, .bool a1_4, .string a1_5]] w fun e w' =>
      e = .returned (.tuple #[.agg #[.int .i64 r1, .int .i64 r2, .int .i64 r3, .string r4], .int .i64 r5, .int .i64 r6]) ∧ Below w.heap.size w w' := by
  unfold bits_Fit.f at h
  cases hv : validB a0_0 a0_1 a0_2 a0_3 with
  | false =>
    rw [if_neg (by rw [hv]; decide)] at h
    simp only [Option.some.injEq, Prod.mk.injEq] at h
    obtain ⟨rfl, rfl, rfl, rfl, rfl, rfl⟩ := h
    exact fit_a ⟨a0_0, a0_1, a0_2, a0_3⟩ ⟨a1_0, a1_1, a1_2, a1_3, a1_4, a1_5⟩ w hv
  | true =>
    rw [if_pos hv] at h
    cases ht : validT a1_0 a1_1 a1_2 a1_3 a1_4 a1_5 with
    | false =>
      rw [if_neg (by rw [ht]; decide)] at h
      simp only [Option.some.injEq, Prod.mk.injEq] at h
      obtain ⟨rfl, rfl, rfl, rfl, rfl, rfl⟩ := h
      exact fit_b ⟨a0_0, a0_1, a0_2, a0_3⟩ ⟨a1_0, a1_1, a1_2, a1_3, a1_4, a1_5⟩ w hv ht
    | true =>
      rw [if_pos ht] at h
      by_cases hno : (a0_0 = a1_0 ∧ ¬ a1_3 < (a0_3.size : Int) ∧ a1_4 = false)
      · obtain ⟨h1, h2, h3⟩ := hno
        rw [if_pos h1, if_neg h2, if_neg (by rw [h3]; decide)] at h
        simp only [Option.some.injEq, Prod.mk.injEq] at h
        obtain ⟨rfl, rfl, rfl, rfl, rfl, rfl⟩ := h
        obtain ⟨k4, k1, k2, _⟩ := okV_parts (v := ⟨a0_0, a0_1, a0_2, a0_3⟩) hv
        simp only at k4 k1 k2
        subst k1; subst k2
        rcases k4 with rfl | rfl
        · exact fit_d4 a0_3 ⟨a1_0, a1_1, a1_2, a1_3, a1_4, a1_5⟩ w hv ht h1.symm (by simpa using h2) h3 _ rfl
        · exact fit_d5 a0_3 ⟨a1_0, a1_1, a1_2, a1_3, a1_4, a1_5⟩ w hv ht h1.symm (by simpa using h2) h3 _ rfl
      · have hr : fitRes ⟨a0_0, a0_1, a0_2, a0_3⟩ ⟨a1_0, a1_1, a1_2, a1_3, a1_4, a1_5⟩ = (r1, r2, r3, r4, r5, r6) := by
          have h2 : some (fitRes ⟨a0_0, a0_1, a0_2, a0_3⟩ ⟨a1_0, a1_1, a1_2, a1_3, a1_4, a1_5⟩) = some (r1, r2, r3, r4, r5, r6) := by
            rw [← h]
            unfold fitRes
            simp only
            by_cases h1 : a0_0 = a1_0
            · rw [if_pos h1, if_pos h1]
              by_cases h2 : a1_3 < (a0_3.size : Int)
              · rw [if_pos h2, if_pos h2]
              · rw [if_neg h2, if_neg h2]
                by_cases h3 : a1_4 = true
                · rw [if_pos h3, if_pos h3]
                · rw [if_neg h3, if_neg h3]
            · rw [if_neg h1, if_neg h1]
          exact Option.some.inj h2
        exact fit_c ⟨a0_0, a0_1, a0_2, a0_3⟩ ⟨a1_0, a1_1, a1_2, a1_3, a1_4, a1_5⟩ w hv ht hno (r1, r2, r3, r4, r5, r6) hr
end Go.Proofs.Ytnelblndidciiaa.P
