/- Part 8 of the proof of the law CondApplies: functions, contracts and plain laws; merged by this session's program. -/
import Derived.WalkSpells
import Derived.WalkLawsBesides
import Derived.Lib.Hide
import Derived.IntWalk
import Derived.Deep.AppendLies
import Derived.Lib.AppendZeros
import Derived.RangeFuncNested
import Derived.RangeFuncBound
import Derived.RangeFuncCalls
import Derived.RangeFuncLeaves
import Derived.Shelf.Abstract
import Derived.WalkKit
import Derived.OwnWalkIn
import Derived.TacticsInMore
import Derived.LoopNIn
import Derived.LoopIn
import Derived.Deep.Slices
import Derived.Deep.Fields
import Derived.ProofKit
import Derived.ChangeSame
import Derived.SizedLaws
import Derived.Test.YtfahpihbbkkngaaMCondApplies1
import Derived.Test.YtfahpihbbkkngaaMCondApplies2
import Derived.Test.YtfahpihbbkkngaaMCondApplies3
import Derived.Test.YtfahpihbbkkngaaMCondApplies4
import Derived.Test.YtfahpihbbkkngaaMCondApplies6
import Derived.Test.YtfahpihbbkkngaaMCondApplies7
-- from the text A28
namespace Go.Proofs.Ytfahpihbbkkngaa.P
open Go.RowKit Go.Proofs.YtfahpihbbkkngaaW.PrintWords Go.Proofs.YtfahpihbbkkngaaW.PrintLast Go.Proofs.YtfahpihbbkkngaaW.PrintMore
attribute [local go_sem] max2_int min2_int max_two min_two max_three min_three max_four min_four   -- for this text's walks alone
set_option linter.unusedVariables false
set_option linter.unusedSimpArgs false
mutual
def ironbarkref20_Apply.l0 : Nat → Int → List (S51) → Int → Option (Int × Int)
  | 0, _, _, _ => none
  | k + 1, x0, x1, x6 => if x6 < (x1.length : Int) then (if 0 ≤ x6 then ((ironbarkref20_Named.f k ((rd_T51 x1 x6).f0) ((rd_T51 x1 x6).f1)).bind fun t103 => (if t103 = true then (ironbarkref20_Apply.l0 k x0 x1 (wrap64 (x6 + 1))) else (some (0, 1)))) else (none)) else (if x0 < 0 then (ironbarkref20_Apply.j1 k x0 x1 true) else (ironbarkref20_Apply.j1 k x0 x1 (decide (x0 ≥ 2097152))))
def ironbarkref20_Apply.j1 : Nat → Int → List (S51) → Bool → Option (Int × Int)
  | 0, _, _, _ => none
  | k + 1, x0, x1, x34 => if x34 = true then (some (0, 7)) else (ironbarkref20_Apply.l1 k x0 x1 0)
def ironbarkref20_Apply.l1 : Nat → Int → List (S51) → Int → Option (Int × Int)
  | 0, _, _, _ => none
  | k + 1, x0, x1, x7 => if x7 < (x1.length : Int) then (if 0 ≤ x7 then ((ironbarkref20_Info.f k ((rd_T51 x1 x7).f0)).bind fun bt105 => (if bt105.2.2.2.1 = true then (ironbarkref20_Apply.l1 k x0 x1 (wrap64 (x7 + 1))) else (some (0, 10)))) else (none)) else (ironbarkref20_Apply.l2 k x0 x1 0)
def ironbarkref20_Apply.l2 : Nat → Int → List (S51) → Int → Option (Int × Int)
  | 0, _, _, _ => none
  | k + 1, x0, x1, x10 => if x10 < (x1.length : Int) then (if 0 ≤ x10 then ((ironbarkref20_Bit.f ((rd_T51 x1 x10).f0)).bind fun t116 => (if (rd_T51 x1 x10).f2 = true then ((ironbarkref20_Bit.f ((rd_T51 x1 x10).f0)).bind fun t119 => (ironbarkref20_Apply.l2 k (wrap64 ((Go.bits .or .i64 x0 t116) - t119)) x1 (wrap64 (x10 + 1)))) else (ironbarkref20_Apply.l2 k (Go.bits .or .i64 x0 t116) x1 (wrap64 (x10 + 1))))) else (none)) else (some (x0, 0))
end
def ironbarkref20_Apply.f (k : Nat) (a0 : Int) (l1 : List (S51)) : Option (Int × Int) := ironbarkref20_Apply.l0 k a0 l1 0
def ironbarkref20_Apply.T4 : Bool × List (List Nat × List Nat) := (true, [([], []), ([], []), ([0, 1], [0, 1]), ([2], [2]), ([3], [3]), ([], []), ([], []), ([5, 6], [5, 6]), ([7], [7]), ([8], [8]), ([4, 9], [4, 9]), ([10], [10])])
def ironbarkref20_Apply.B4 : List Nat := [0, 0, 3, 7, 15, 0, 0, 96, 224, 480, 1023, 2047]
theorem ironbarkref20_Apply.tab4 : rtab .any (opsOf Try.f28 4) = ironbarkref20_Apply.T4 := by kernel_rfl
theorem ironbarkref20_Apply.bits4 : waitsOk ironbarkref20_Apply.T4.2 ironbarkref20_Apply.B4 = true := by kernel_rfl
set_option maxHeartbeats 8000000 in
set_option maxRecDepth 100000 in
theorem ironbarkref20_Apply.calls (k : Nat) (a0 : Int) (A1 : Option Addr) (c1 : Nat) (l1 : List (S51)) (r1 : Int) (r2 : Int) (w : World) (hr1 : Kd.C k51 w A1 l1.length l1) (hc1 : l1.length ≤ c1) (h : ironbarkref20_Apply.f k a0 l1 = some (r1, r2)) :
    Calls Try.prog 28 #[.int .i64 a0, .slice A1 l1.length c1] w fun e w' => e = .returned (.tuple #[.int .i64 r1, .int .i64 r2]) ∧ Below w.heap.size w w' := by
  have hu42 := Try.underlying42
  have HR1 := Aside0.mk hr1
  have HC1 := Aside0.mk hc1
  clear hr1 hc1
  have HB := Aside0.mk (Below.refl w.heap.size w)
  have H : (ironbarkref20_Apply.l0 k a0 l1 0) = some (r1, r2) := h
  clear h
  have H' := Aside0.mk H
  clear H
  go_enter Try.func28, Try.ntmps28
  go_wp2
  go_loopg [6] k (fun kq v6 w' => ∃ (x6_1 : Int), v6 = .int .i64 x6_1 ∧ Aside0 (ironbarkref20_Apply.l0 kq a0 l1 x6_1 = some (r1, r2)) ∧ Aside0 (kq ≤ k) ∧ Aside0 (Below w.heap.size w w'))
  case atStart => exact ⟨(0), (by first | rfl | (simp; done) | (generalize ByteArray.toList _ = l_; cases l_ <;> rfl) | (simp [*]; done)), H', ⟨Nat.le_refl _⟩, ⟨by repeat (first | (with_reducible first | exact HB.out | apply below_alloc | apply pw_below_drewN | apply below_drew1) | exact HB.out)⟩⟩
  case round =>
    clear H'
    try clear c1
    try clear c2
    try clear p2
    obtain ⟨x6_1, rfl, HA, HK1, HB⟩ := hrel
    cases gk with
    | zero => exact absurd HA.out (by simp [ironbarkref20_Apply.l0])
    | succ k1 =>
      have H := HA.out
      clear HA
      simp only [ironbarkref20_Apply.l0] at H
      by_cases c3 : x6_1 < (l1.length : Int)
      · rw [if_pos c3] at H
        have c3b0 : decide (x6_1 < (l1.length : Int)) = true := decide_eq_true c3
        clear c3
        by_cases c4 : 0 ≤ x6_1
        · rw [if_pos c4] at H
          have c4b0 : decide (0 ≤ x6_1) = true := decide_eq_true c4
          clear c4
          replace H := Option.bind_eq_some_iff.mp H
          obtain ⟨t103, A50, H⟩ := H
          replace H : (if t103 = true then (ironbarkref20_Apply.l0 k1 a0 l1 (wrap64 (x6_1 + 1))) else (some (0, 1))) = some (r1, r2) := H
          have A5 := Aside0.mk A50
          clear A50
          by_cases c6 : t103 = true
          · subst c6
            have H1 : (ironbarkref20_Apply.l0 k1 a0 l1 (wrap64 (x6_1 + 1))) = some (r1, r2) := by rw [if_pos rfl] at H; exact H
            clear H
            have H := H1
            clear H1
            have H' := Aside0.mk H
            clear H
            try go_wp2
            have n0_ := Aside0.mk (below_drew1 HB.out)
            clear HB
            have HB := n0_
            clear n0_
            have p101 : 0 ≤ (x6_1 : Int) := of_decide_eq_true (by first | (with_reducible assumption) | assumption)
            have q101 : x6_1 < (l1.length : Int) := of_decide_eq_true (by first | (with_reducible assumption) | assumption)
            obtain ⟨ad101, e101, hx101_0, hx101_1, hx101_2⟩ := at_T51 HR1.out x6_1 p101 q101
            have hw101_2 := hx101_2
            have hw101_1 := hx101_1
            have hw101_0 := hx101_0
            cases e101
            replace hx101_0 := (HB.out.cell (World.block_lt_of_cell? w _ hx101_0)).trans hx101_0
            replace hx101_1 := (HB.out.cell (World.block_lt_of_cell? w _ hx101_1)).trans hx101_1
            replace hx101_2 := (HB.out.cell (World.block_lt_of_cell? w _ hx101_2)).trans hx101_2
            replace p101 := eq_true p101
            replace q101 := eq_true q101
            have p102 : 0 ≤ (x6_1 : Int) := of_decide_eq_true (by first | (with_reducible assumption) | assumption)
            have q102 : x6_1 < (l1.length : Int) := of_decide_eq_true (by first | (with_reducible assumption) | assumption)
            obtain ⟨ad102, e102, hx102_0, hx102_1, hx102_2⟩ := at_T51 HR1.out x6_1 p102 q102
            have hw102_2 := hx102_2
            have hw102_1 := hx102_1
            have hw102_0 := hx102_0
            obtain rfl : ad101 = ad102 := (by injection e102)
            replace hx102_0 := (HB.out.cell (World.block_lt_of_cell? w _ hx102_0)).trans hx102_0
            replace hx102_1 := (HB.out.cell (World.block_lt_of_cell? w _ hx102_1)).trans hx102_1
            replace hx102_2 := (HB.out.cell (World.block_lt_of_cell? w _ hx102_2)).trans hx102_2
            replace p102 := eq_true p102
            replace q102 := eq_true q102
            refine start_ (n := 12) (S := fun w' => w'.cell? (ad101.add ((x6_1).toNat * 3)) = some (.int .i64 ((rd_T51 l1 x6_1).f0)) ∧ w'.cell? ⟨(ad101.add ((x6_1).toNat * 3)).block, (ad101.add ((x6_1).toNat * 3)).off + 1, none⟩ = some (.string ((rd_T51 l1 x6_1).f1)) ∧ w'.cell? ⟨(ad101.add ((x6_1).toNat * 3)).block, (ad101.add ((x6_1).toNat * 3)).off + 2, none⟩ = some (.bool ((rd_T51 l1 x6_1).f2)) ∧ w'.cell? (ad101.add ((x6_1).toNat * 3)) = some (.int .i64 ((rd_T51 l1 x6_1).f0)) ∧ w'.cell? ⟨(ad101.add ((x6_1).toNat * 3)).block, (ad101.add ((x6_1).toNat * 3)).off + 1, none⟩ = some (.string ((rd_T51 l1 x6_1).f1)) ∧ w'.cell? ⟨(ad101.add ((x6_1).toNat * 3)).block, (ad101.add ((x6_1).toNat * 3)).off + 2, none⟩ = some (.bool ((rd_T51 l1 x6_1).f2))) (ds := []) #[false, false, false, false, false, false, false, false, false, false, false, false] (by kernel_rfl) rfl rfl ⟨((HB.out.cell (World.block_lt_of_cell? w _ hw101_0)).trans hw101_0), ((HB.out.cell (World.block_lt_of_cell? w _ hw101_1)).trans hw101_1), ((HB.out.cell (World.block_lt_of_cell? w _ hw101_2)).trans hw101_2), ((HB.out.cell (World.block_lt_of_cell? w _ hw102_0)).trans hw102_0), ((HB.out.cell (World.block_lt_of_cell? w _ hw102_1)).trans hw102_1), ((HB.out.cell (World.block_lt_of_cell? w _ hw102_2)).trans hw102_2)⟩ (fun hHeld => ?_); refine with_tabW ironbarkref20_Apply.tab4 ironbarkref20_Apply.bits4 (fun HT_ HW_ => ?_)
            generalize wr.drew = w7 at HB hx101_0 hx101_1 hx101_2 hx102_0 hx102_1 hx102_2 hHeld ⊢
            refine pure_ (i := 0) (N := some 17) (v := ?_) (a' := ?_) #[true, false, false, false, false, false, false, false, false, false, false, false] rfl rfl (any_of HT_.out (by kernel_rfl)) (fun _ _ _ h => h) (Or.inl ⟨by rfl, ?_⟩) ?_ ?_
            rotate_left
            · intro w'
              go_simp
              with_reducible rfl
            rotate_left
            · simp only [Act.put, List.setIfInBounds_toArray, List.set_cons_zero, List.set_cons_succ, i64_w, i32_w]
              rfl
            refine pure_ (i := 1) (N := some 18) (v := ?_) (a' := ?_) #[true, true, false, false, false, false, false, false, false, false, false, false] rfl rfl (any_of HT_.out (by kernel_rfl)) (fun _ _ _ h => h) (Or.inl ⟨by rfl, ?_⟩) ?_ ?_
            rotate_left
            · intro w'
              go_simp
              with_reducible rfl
            rotate_left
            · simp only [Act.put, List.setIfInBounds_toArray, List.set_cons_zero, List.set_cons_succ, i64_w, i32_w]
              rfl
            refine pure_ (i := 2) (N := some 19) (v := ?_) (a' := ?_) #[true, true, true, false, false, false, false, false, false, false, false, false] rfl rfl (any_of HT_.out (by kernel_rfl)) (fun _ _ _ h => h) (Or.inl ⟨by rfl, ?_⟩) ?_ ?_
            rotate_left
            · intro w'
              go_simp
              with_reducible rfl
            rotate_left
            · simp only [Act.put, List.setIfInBounds_toArray, List.set_cons_zero, List.set_cons_succ, i64_w, i32_w]
              rfl
            refine pure_ (i := 3) (N := some 20) (v := ?_) (a' := ?_) #[true, true, true, true, false, false, false, false, false, false, false, false] rfl rfl (any_of HT_.out (by kernel_rfl)) (fun _ _ _ h => h) (Or.inl ⟨by rfl, ?_⟩) ?_ ?_
            rotate_left
            · intro w'
              go_simp
              with_reducible rfl
            rotate_left
            · simp only [Act.put, List.setIfInBounds_toArray, List.set_cons_zero, List.set_cons_succ, i64_w, i32_w]
              rfl
            refine pure_ (i := 5) (N := some 22) (v := ?_) (a' := ?_) #[true, true, true, true, false, true, false, false, false, false, false, false] rfl rfl (any_of HT_.out (by kernel_rfl)) (fun _ _ _ h => h) (Or.inl ⟨by rfl, ?_⟩) ?_ ?_
            rotate_left
            · intro w'
              go_simp
              with_reducible rfl
            rotate_left
            · simp only [Act.put, List.setIfInBounds_toArray, List.set_cons_zero, List.set_cons_succ, i64_w, i32_w]
              rfl
            refine pure_ (i := 6) (N := some 23) (v := ?_) (a' := ?_) #[true, true, true, true, false, true, true, false, false, false, false, false] rfl rfl (any_of HT_.out (by kernel_rfl)) (fun _ _ _ h => h) (Or.inl ⟨by rfl, ?_⟩) ?_ ?_
            rotate_left
            · intro w'
              go_simp
              with_reducible rfl
            rotate_left
            · simp only [Act.put, List.setIfInBounds_toArray, List.set_cons_zero, List.set_cons_succ, i64_w, i32_w]
              rfl
            refine pure_ (i := 7) (N := some 24) (v := ?_) (a' := ?_) #[true, true, true, true, false, true, true, true, false, false, false, false] rfl rfl (any_of HT_.out (by kernel_rfl)) (fun _ _ _ h => h) (Or.inl ⟨by rfl, ?_⟩) ?_ ?_
            rotate_left
            · intro w'
              go_simp
              with_reducible rfl
            rotate_left
            · simp only [Act.put, List.setIfInBounds_toArray, List.set_cons_zero, List.set_cons_succ, i64_w, i32_w]
              rfl
            refine pure_ (i := 8) (N := some 25) (v := ?_) (a' := ?_) #[true, true, true, true, false, true, true, true, true, false, false, false] rfl rfl (any_of HT_.out (by kernel_rfl)) (fun _ _ _ h => h) (Or.inl ⟨by rfl, ?_⟩) ?_ ?_
            rotate_left
            · intro w'
              go_simp
              with_reducible rfl
            rotate_left
            · simp only [Act.put, List.setIfInBounds_toArray, List.set_cons_zero, List.set_cons_succ, i64_w, i32_w]
              rfl
            refine take_ (i := 4) (N := some 21) (v := ?_) (a' := ?_) #[true, true, true, true, true, true, true, true, true, false, false, false] rfl rfl (take_ofW HT_.out HW_.out (by kernel_rfl)) (fun _ _ _ h => h) (Or.inl ⟨by rfl, ?_⟩) hHeld ?_ ?_
            rotate_left
            · rintro w' ⟨s0, s1, s2, s3, s4, s5⟩
              go_simp
              with_reducible rfl
            rotate_left
            · simp only [Act.put, List.setIfInBounds_toArray, List.set_cons_zero, List.set_cons_succ, i64_w, i32_w]
              rfl
            refine take_ (i := 9) (N := some 26) (v := ?_) (a' := ?_) #[true, true, true, true, true, true, true, true, true, true, false, false] rfl rfl (take_ofW HT_.out HW_.out (by kernel_rfl)) (fun _ _ _ h => h) (Or.inl ⟨by rfl, ?_⟩) hHeld ?_ ?_
            rotate_left
            · rintro w' ⟨s0, s1, s2, s3, s4, s5⟩
              go_simp
              with_reducible rfl
            rotate_left
            · simp only [Act.put, List.setIfInBounds_toArray, List.set_cons_zero, List.set_cons_succ, i64_w, i32_w]
              rfl
            refine one_ (i := 10) (N := some 27) #[true, true, true, true, true, true, true, true, true, true, true, false] rfl rfl (one_of HT_.out (by kernel_rfl)) (by decide) (fun K hK => ?_)
            refine goes_ Try.func44 (by kernel_rfl) rfl #[.int .i64 ((rd_T51 l1 x6_1).f0), .string ((rd_T51 l1 x6_1).f1)] (by rfl) rfl rfl (by (try simp only [List.map_toArray, List.map_cons, List.map_nil]); first | done | rfl | (simp only [List.length_drop, List.length_take]; rfl)) ?_
            with_reducible refine (ironbarkref20_Named.calls k1 ((rd_T51 l1 x6_1).f0) ((rd_T51 l1 x6_1).f1) true _ A5.out).mono ?_
            rintro e w8 ⟨rfl, hb⟩
            refine ⟨_, rfl, ?_⟩
            have n0_ := Aside0.mk (below_step (by repeat (first | (with_reducible first | exact HB.out | apply below_alloc | apply pw_below_drewN | apply below_drew1) | exact HB.out)) hb)
            clear HB
            have HB := n0_
            clear n0_
            (try clear hb)
            (try clear hb2)
            (try clear hk)
            (try clear hi)
            refine hK.out _ _ ⟨((HB.out.cell (World.block_lt_of_cell? w _ hw101_0)).trans hw101_0), ((HB.out.cell (World.block_lt_of_cell? w _ hw101_1)).trans hw101_1), ((HB.out.cell (World.block_lt_of_cell? w _ hw101_2)).trans hw101_2), ((HB.out.cell (World.block_lt_of_cell? w _ hw102_0)).trans hw102_0), ((HB.out.cell (World.block_lt_of_cell? w _ hw102_1)).trans hw102_1), ((HB.out.cell (World.block_lt_of_cell? w _ hw102_2)).trans hw102_2)⟩ (fun hHeld => ?_)
            clear hK K
            refine norm_ (a' := ?_) ?_ ?_
            rotate_left
            · show Act.put _ (some 27) _ = _
              simp only [Act.put, List.setIfInBounds_toArray, List.set_cons_zero, List.set_cons_succ, i64_w, i32_w]
              rfl
            refine pure_ (i := 11) (N := some 28) (v := ?_) (a' := ?_) #[true, true, true, true, true, true, true, true, true, true, true, true] rfl rfl (any_of HT_.out (by kernel_rfl)) (fun _ _ _ h => h) (Or.inl ⟨by rfl, ?_⟩) ?_ ?_
            rotate_left
            · intro w'
              go_simp
              with_reducible rfl
            rotate_left
            · simp only [Act.put, List.setIfInBounds_toArray, List.set_cons_zero, List.set_cons_succ, i64_w, i32_w]
              rfl
            refine done_ (done_of HT_.out (by kernel_rfl)) ?_
            try go_wp2
            go_roundg k1
            case measure => have := HK1.out; omega
            case rel => exact ⟨(wrap64 (x6_1 + 1)), (by first | rfl | (simp; done) | (generalize ByteArray.toList _ = l_; cases l_ <;> rfl) | (simp [*]; done)), H', ⟨by have := HK1.out; omega⟩, ⟨by repeat (first | (with_reducible first | exact HB.out | apply below_alloc | apply pw_below_drewN | apply below_drew1) | exact HB.out)⟩⟩
          · replace c6 := Bool.eq_false_iff.mpr c6
            subst c6
            have H1 : (some (0, 1)) = some (r1, r2) := by rw [if_neg (show ¬ (false = true) by decide)] at H; exact H
            clear H
            have H := H1
            clear H1
            simp only [Option.some.injEq, Prod.mk.injEq] at H
            obtain ⟨rfl, rfl⟩ := H
            try go_wp2
            have n0_ := Aside0.mk (below_drew1 HB.out)
            clear HB
            have HB := n0_
            clear n0_
            have p101 : 0 ≤ (x6_1 : Int) := of_decide_eq_true (by first | (with_reducible assumption) | assumption)
            have q101 : x6_1 < (l1.length : Int) := of_decide_eq_true (by first | (with_reducible assumption) | assumption)
            obtain ⟨ad101, e101, hx101_0, hx101_1, hx101_2⟩ := at_T51 HR1.out x6_1 p101 q101
            have hw101_2 := hx101_2
            have hw101_1 := hx101_1
            have hw101_0 := hx101_0
            cases e101
            replace hx101_0 := (HB.out.cell (World.block_lt_of_cell? w _ hx101_0)).trans hx101_0
            replace hx101_1 := (HB.out.cell (World.block_lt_of_cell? w _ hx101_1)).trans hx101_1
            replace hx101_2 := (HB.out.cell (World.block_lt_of_cell? w _ hx101_2)).trans hx101_2
            replace p101 := eq_true p101
            replace q101 := eq_true q101
            have p102 : 0 ≤ (x6_1 : Int) := of_decide_eq_true (by first | (with_reducible assumption) | assumption)
            have q102 : x6_1 < (l1.length : Int) := of_decide_eq_true (by first | (with_reducible assumption) | assumption)
            obtain ⟨ad102, e102, hx102_0, hx102_1, hx102_2⟩ := at_T51 HR1.out x6_1 p102 q102
            have hw102_2 := hx102_2
            have hw102_1 := hx102_1
            have hw102_0 := hx102_0
            obtain rfl : ad101 = ad102 := (by injection e102)
            replace hx102_0 := (HB.out.cell (World.block_lt_of_cell? w _ hx102_0)).trans hx102_0
            replace hx102_1 := (HB.out.cell (World.block_lt_of_cell? w _ hx102_1)).trans hx102_1
            replace hx102_2 := (HB.out.cell (World.block_lt_of_cell? w _ hx102_2)).trans hx102_2
            replace p102 := eq_true p102
            replace q102 := eq_true q102
            refine start_ (n := 12) (S := fun w' => w'.cell? (ad101.add ((x6_1).toNat * 3)) = some (.int .i64 ((rd_T51 l1 x6_1).f0)) ∧ w'.cell? ⟨(ad101.add ((x6_1).toNat * 3)).block, (ad101.add ((x6_1).toNat * 3)).off + 1, none⟩ = some (.string ((rd_T51 l1 x6_1).f1)) ∧ w'.cell? ⟨(ad101.add ((x6_1).toNat * 3)).block, (ad101.add ((x6_1).toNat * 3)).off + 2, none⟩ = some (.bool ((rd_T51 l1 x6_1).f2)) ∧ w'.cell? (ad101.add ((x6_1).toNat * 3)) = some (.int .i64 ((rd_T51 l1 x6_1).f0)) ∧ w'.cell? ⟨(ad101.add ((x6_1).toNat * 3)).block, (ad101.add ((x6_1).toNat * 3)).off + 1, none⟩ = some (.string ((rd_T51 l1 x6_1).f1)) ∧ w'.cell? ⟨(ad101.add ((x6_1).toNat * 3)).block, (ad101.add ((x6_1).toNat * 3)).off + 2, none⟩ = some (.bool ((rd_T51 l1 x6_1).f2))) (ds := []) #[false, false, false, false, false, false, false, false, false, false, false, false] (by kernel_rfl) rfl rfl ⟨((HB.out.cell (World.block_lt_of_cell? w _ hw101_0)).trans hw101_0), ((HB.out.cell (World.block_lt_of_cell? w _ hw101_1)).trans hw101_1), ((HB.out.cell (World.block_lt_of_cell? w _ hw101_2)).trans hw101_2), ((HB.out.cell (World.block_lt_of_cell? w _ hw102_0)).trans hw102_0), ((HB.out.cell (World.block_lt_of_cell? w _ hw102_1)).trans hw102_1), ((HB.out.cell (World.block_lt_of_cell? w _ hw102_2)).trans hw102_2)⟩ (fun hHeld => ?_); refine with_tabW ironbarkref20_Apply.tab4 ironbarkref20_Apply.bits4 (fun HT_ HW_ => ?_)
            generalize wr.drew = w9 at HB hx101_0 hx101_1 hx101_2 hx102_0 hx102_1 hx102_2 hHeld ⊢
            refine pure_ (i := 0) (N := some 17) (v := ?_) (a' := ?_) #[true, false, false, false, false, false, false, false, false, false, false, false] rfl rfl (any_of HT_.out (by kernel_rfl)) (fun _ _ _ h => h) (Or.inl ⟨by rfl, ?_⟩) ?_ ?_
            rotate_left
            · intro w'
              go_simp
              with_reducible rfl
            rotate_left
            · simp only [Act.put, List.setIfInBounds_toArray, List.set_cons_zero, List.set_cons_succ, i64_w, i32_w]
              rfl
            refine pure_ (i := 1) (N := some 18) (v := ?_) (a' := ?_) #[true, true, false, false, false, false, false, false, false, false, false, false] rfl rfl (any_of HT_.out (by kernel_rfl)) (fun _ _ _ h => h) (Or.inl ⟨by rfl, ?_⟩) ?_ ?_
            rotate_left
            · intro w'
              go_simp
              with_reducible rfl
            rotate_left
            · simp only [Act.put, List.setIfInBounds_toArray, List.set_cons_zero, List.set_cons_succ, i64_w, i32_w]
              rfl
            refine pure_ (i := 2) (N := some 19) (v := ?_) (a' := ?_) #[true, true, true, false, false, false, false, false, false, false, false, false] rfl rfl (any_of HT_.out (by kernel_rfl)) (fun _ _ _ h => h) (Or.inl ⟨by rfl, ?_⟩) ?_ ?_
            rotate_left
            · intro w'
              go_simp
              with_reducible rfl
            rotate_left
            · simp only [Act.put, List.setIfInBounds_toArray, List.set_cons_zero, List.set_cons_succ, i64_w, i32_w]
              rfl
            refine pure_ (i := 3) (N := some 20) (v := ?_) (a' := ?_) #[true, true, true, true, false, false, false, false, false, false, false, false] rfl rfl (any_of HT_.out (by kernel_rfl)) (fun _ _ _ h => h) (Or.inl ⟨by rfl, ?_⟩) ?_ ?_
            rotate_left
            · intro w'
              go_simp
              with_reducible rfl
            rotate_left
            · simp only [Act.put, List.setIfInBounds_toArray, List.set_cons_zero, List.set_cons_succ, i64_w, i32_w]
              rfl
            refine pure_ (i := 5) (N := some 22) (v := ?_) (a' := ?_) #[true, true, true, true, false, true, false, false, false, false, false, false] rfl rfl (any_of HT_.out (by kernel_rfl)) (fun _ _ _ h => h) (Or.inl ⟨by rfl, ?_⟩) ?_ ?_
            rotate_left
            · intro w'
              go_simp
              with_reducible rfl
            rotate_left
            · simp only [Act.put, List.setIfInBounds_toArray, List.set_cons_zero, List.set_cons_succ, i64_w, i32_w]
              rfl
            refine pure_ (i := 6) (N := some 23) (v := ?_) (a' := ?_) #[true, true, true, true, false, true, true, false, false, false, false, false] rfl rfl (any_of HT_.out (by kernel_rfl)) (fun _ _ _ h => h) (Or.inl ⟨by rfl, ?_⟩) ?_ ?_
            rotate_left
            · intro w'
              go_simp
              with_reducible rfl
            rotate_left
            · simp only [Act.put, List.setIfInBounds_toArray, List.set_cons_zero, List.set_cons_succ, i64_w, i32_w]
              rfl
            refine pure_ (i := 7) (N := some 24) (v := ?_) (a' := ?_) #[true, true, true, true, false, true, true, true, false, false, false, false] rfl rfl (any_of HT_.out (by kernel_rfl)) (fun _ _ _ h => h) (Or.inl ⟨by rfl, ?_⟩) ?_ ?_
            rotate_left
            · intro w'
              go_simp
              with_reducible rfl
            rotate_left
            · simp only [Act.put, List.setIfInBounds_toArray, List.set_cons_zero, List.set_cons_succ, i64_w, i32_w]
              rfl
            refine pure_ (i := 8) (N := some 25) (v := ?_) (a' := ?_) #[true, true, true, true, false, true, true, true, true, false, false, false] rfl rfl (any_of HT_.out (by kernel_rfl)) (fun _ _ _ h => h) (Or.inl ⟨by rfl, ?_⟩) ?_ ?_
            rotate_left
            · intro w'
              go_simp
              with_reducible rfl
            rotate_left
            · simp only [Act.put, List.setIfInBounds_toArray, List.set_cons_zero, List.set_cons_succ, i64_w, i32_w]
              rfl
            refine take_ (i := 4) (N := some 21) (v := ?_) (a' := ?_) #[true, true, true, true, true, true, true, true, true, false, false, false] rfl rfl (take_ofW HT_.out HW_.out (by kernel_rfl)) (fun _ _ _ h => h) (Or.inl ⟨by rfl, ?_⟩) hHeld ?_ ?_
            rotate_left
            · rintro w' ⟨s0, s1, s2, s3, s4, s5⟩
              go_simp
              with_reducible rfl
            rotate_left
            · simp only [Act.put, List.setIfInBounds_toArray, List.set_cons_zero, List.set_cons_succ, i64_w, i32_w]
              rfl
            refine take_ (i := 9) (N := some 26) (v := ?_) (a' := ?_) #[true, true, true, true, true, true, true, true, true, true, false, false] rfl rfl (take_ofW HT_.out HW_.out (by kernel_rfl)) (fun _ _ _ h => h) (Or.inl ⟨by rfl, ?_⟩) hHeld ?_ ?_
            rotate_left
            · rintro w' ⟨s0, s1, s2, s3, s4, s5⟩
              go_simp
              with_reducible rfl
            rotate_left
            · simp only [Act.put, List.setIfInBounds_toArray, List.set_cons_zero, List.set_cons_succ, i64_w, i32_w]
              rfl
            refine one_ (i := 10) (N := some 27) #[true, true, true, true, true, true, true, true, true, true, true, false] rfl rfl (one_of HT_.out (by kernel_rfl)) (by decide) (fun K hK => ?_)
            refine goes_ Try.func44 (by kernel_rfl) rfl #[.int .i64 ((rd_T51 l1 x6_1).f0), .string ((rd_T51 l1 x6_1).f1)] (by rfl) rfl rfl (by (try simp only [List.map_toArray, List.map_cons, List.map_nil]); first | done | rfl | (simp only [List.length_drop, List.length_take]; rfl)) ?_
            with_reducible refine (ironbarkref20_Named.calls k1 ((rd_T51 l1 x6_1).f0) ((rd_T51 l1 x6_1).f1) false _ A5.out).mono ?_
            rintro e w10 ⟨rfl, hb⟩
            refine ⟨_, rfl, ?_⟩
            have n0_ := Aside0.mk (below_step (by repeat (first | (with_reducible first | exact HB.out | apply below_alloc | apply pw_below_drewN | apply below_drew1) | exact HB.out)) hb)
            clear HB
            have HB := n0_
            clear n0_
            (try clear hb)
            (try clear hb2)
            (try clear hk)
            (try clear hi)
            refine hK.out _ _ ⟨((HB.out.cell (World.block_lt_of_cell? w _ hw101_0)).trans hw101_0), ((HB.out.cell (World.block_lt_of_cell? w _ hw101_1)).trans hw101_1), ((HB.out.cell (World.block_lt_of_cell? w _ hw101_2)).trans hw101_2), ((HB.out.cell (World.block_lt_of_cell? w _ hw102_0)).trans hw102_0), ((HB.out.cell (World.block_lt_of_cell? w _ hw102_1)).trans hw102_1), ((HB.out.cell (World.block_lt_of_cell? w _ hw102_2)).trans hw102_2)⟩ (fun hHeld => ?_)
            clear hK K
            refine norm_ (a' := ?_) ?_ ?_
            rotate_left
            · show Act.put _ (some 27) _ = _
              simp only [Act.put, List.setIfInBounds_toArray, List.set_cons_zero, List.set_cons_succ, i64_w, i32_w]
              rfl
            refine pure_ (i := 11) (N := some 28) (v := ?_) (a' := ?_) #[true, true, true, true, true, true, true, true, true, true, true, true] rfl rfl (any_of HT_.out (by kernel_rfl)) (fun _ _ _ h => h) (Or.inl ⟨by rfl, ?_⟩) ?_ ?_
            rotate_left
            · intro w'
              go_simp
              with_reducible rfl
            rotate_left
            · simp only [Act.put, List.setIfInBounds_toArray, List.set_cons_zero, List.set_cons_succ, i64_w, i32_w]
              rfl
            refine done_ (done_of HT_.out (by kernel_rfl)) ?_
            try go_wp2
            go_ret2
            exact ⟨by first | rfl | (simp [errW_none, errW_some] <;> rfl) | (simp [*, errW_none, errW_some] <;> rfl), by repeat (first | (with_reducible first | exact HB.out | apply below_alloc | apply pw_below_drewN | apply below_drew1) | exact HB.out)⟩
        · rw [if_neg c4] at H
          exact absurd H (by simp)
      · rw [if_neg c3] at H
        have c3b0 : decide (x6_1 < (l1.length : Int)) = false := decide_eq_false c3
        clear c3
        have HC11 := Aside0.mk H
        clear H
        go_upto_region 6 with (fail)
        go_cut [34] (fun v34 wc => ∃ (kq : Nat) (x34_10 : Bool), v34 = .bool x34_10 ∧ Aside0 (ironbarkref20_Apply.j1 kq a0 l1 x34_10 = some (r1, r2)) ∧ Aside0 (kq ≤ k1) ∧ Aside0 (Below w.heap.size w wc))
        case first =>
          have H := HC11.out
          clear HC11
          by_cases c12 : a0 < 0
          · rw [if_pos c12] at H
            have c12b0 : decide (a0 < 0) = true := decide_eq_true c12
            clear c12
            (first | rw [c12b0] | (simp only [i64_w, i32_w]; rw [c12b0]) | skip)
            have H' := Aside0.mk H
            clear H
            go_wp2
            go_meet
            case rel => exact ⟨_, (true), (by first | rfl | (simp; done) | (generalize ByteArray.toList _ = l_; cases l_ <;> rfl) | (simp [*]; done)), H', ⟨by have := HK1.out; first | omega | exact Nat.le_refl _⟩, ⟨by repeat (first | (with_reducible first | exact HB.out | apply below_alloc | apply pw_below_drewN | apply below_drew1) | exact HB.out)⟩⟩
          · rw [if_neg c12] at H
            have c12b0 : decide (a0 < 0) = false := decide_eq_false c12
            clear c12
            (first | rw [c12b0] | (simp only [i64_w, i32_w]; rw [c12b0]) | skip)
            have H' := Aside0.mk H
            clear H
            go_wp2
            go_meet
            case rel => exact ⟨_, (decide (a0 ≥ 2097152)), (by first | rfl | (simp; done) | (generalize ByteArray.toList _ = l_; cases l_ <;> rfl) | (simp [*]; done)), H', ⟨by have := HK1.out; first | omega | exact Nat.le_refl _⟩, ⟨by repeat (first | (with_reducible first | exact HB.out | apply below_alloc | apply pw_below_drewN | apply below_drew1) | exact HB.out)⟩⟩
        case rest =>
          clear HC11
          try clear c1
          try clear p1
          try clear q1
          try clear hx1
          try clear c2
          try clear p2
          try clear c3
          try clear c3b0
          try clear c4
          try clear c4b0
          try clear c6
          try clear p6
          try clear p10
          try clear q10
          try clear hx10
          try clear c12
          try clear c12b0
          try clear hx101_0
          try clear hx101_1
          try clear hx101_2
          try clear hx102_0
          try clear hx102_1
          try clear hx102_2
          try clear p101
          try clear p102
          try clear p2
          try clear q101
          try clear q102
          obtain ⟨kq, x34_10, rfl, HA, HJ10, HB⟩ := hcut
          cases kq with
          | zero => exact absurd HA.out (by simp [ironbarkref20_Apply.j1])
          | succ kj10 =>
            have H := HA.out
            clear HA
            simp only [ironbarkref20_Apply.j1] at H
            by_cases c13 : x34_10 = true
            · subst c13
              have H1 : (some (0, 7)) = some (r1, r2) := by rw [if_pos rfl] at H; exact H
              clear H
              have H := H1
              clear H1
              simp only [Option.some.injEq, Prod.mk.injEq] at H
              obtain ⟨rfl, rfl⟩ := H
              go_wp2
              go_ret2
              exact ⟨by first | rfl | (simp [errW_none, errW_some] <;> rfl) | (simp [*, errW_none, errW_some] <;> rfl), by repeat (first | (with_reducible first | exact HB.out | apply below_alloc | apply pw_below_drewN | apply below_drew1) | exact HB.out)⟩
            · replace c13 := Bool.eq_false_iff.mpr c13
              subst c13
              have H1 : (ironbarkref20_Apply.l1 kj10 a0 l1 0) = some (r1, r2) := by rw [if_neg (show ¬ (false = true) by decide)] at H; exact H
              clear H
              have H := H1
              clear H1
              have H' := Aside0.mk H
              clear H
              go_wp2
              go_loopg [7] kj10 (fun kq v7 w' => ∃ (x7_3 : Int), v7 = .int .i64 x7_3 ∧ Aside0 (ironbarkref20_Apply.l1 kq a0 l1 x7_3 = some (r1, r2)) ∧ Aside0 (kq ≤ kj10) ∧ Aside0 (Below w.heap.size w w'))
              case atStart => exact ⟨(0), (by first | rfl | (simp; done) | (generalize ByteArray.toList _ = l_; cases l_ <;> rfl) | (simp [*]; done)), H', ⟨Nat.le_refl _⟩, ⟨by repeat (first | (with_reducible first | exact HB.out | apply below_alloc | apply pw_below_drewN | apply below_drew1) | exact HB.out)⟩⟩
              case round =>
                clear H'
                try clear c1
                try clear p1
                try clear q1
                try clear hx1
                try clear c2
                try clear p2
                try clear c3
                try clear c3b0
                try clear c4
                try clear c4b0
                try clear c6
                try clear p6
                try clear p10
                try clear q10
                try clear hx10
                try clear c12
                try clear c12b0
                try clear c13
                try clear hx101_0
                try clear hx101_1
                try clear hx101_2
                try clear hx102_0
                try clear hx102_1
                try clear hx102_2
                try clear p1
                try clear p10
                try clear p101
                try clear p102
                try clear p2
                try clear p6
                try clear q1
                try clear q10
                try clear q101
                try clear q102
                obtain ⟨x7_3, rfl, HA, HK3, HB⟩ := hrel
                cases gk with
                | zero => exact absurd HA.out (by simp [ironbarkref20_Apply.l1])
                | succ k3 =>
                  have H := HA.out
                  clear HA
                  simp only [ironbarkref20_Apply.l1] at H
                  by_cases c14 : x7_3 < (l1.length : Int)
                  · rw [if_pos c14] at H
                    have c14b0 : decide (x7_3 < (l1.length : Int)) = true := decide_eq_true c14
                    clear c14
                    by_cases c15 : 0 ≤ x7_3
                    · rw [if_pos c15] at H
                      have c15b0 : decide (0 ≤ x7_3) = true := decide_eq_true c15
                      clear c15
                      replace H := Option.bind_eq_some_iff.mp H
                      obtain ⟨⟨t105, t106, t107, t108, t109, t110, t111, t112, t113⟩, A160, H⟩ := H
                      replace H : (if t108 = true then (ironbarkref20_Apply.l1 k3 a0 l1 (wrap64 (x7_3 + 1))) else (some (0, 10))) = some (r1, r2) := H
                      have A16 := Aside0.mk A160
                      clear A160
                      by_cases c17 : t108 = true
                      · subst c17
                        have H1 : (ironbarkref20_Apply.l1 k3 a0 l1 (wrap64 (x7_3 + 1))) = some (r1, r2) := by rw [if_pos rfl] at H; exact H
                        clear H
                        have H := H1
                        clear H1
                        have H' := Aside0.mk H
                        clear H
                        have p104 : 0 ≤ (x7_3 : Int) := of_decide_eq_true (by first | (with_reducible assumption) | assumption)
                        have q104 : x7_3 < (l1.length : Int) := of_decide_eq_true (by first | (with_reducible assumption) | assumption)
                        obtain ⟨ad104, e104, hx104_0, hx104_1, hx104_2⟩ := at_T51 HR1.out x7_3 p104 q104
                        cases e104
                        replace hx104_0 := (HB.out.cell (World.block_lt_of_cell? w _ hx104_0)).trans hx104_0
                        replace hx104_1 := (HB.out.cell (World.block_lt_of_cell? w _ hx104_1)).trans hx104_1
                        replace hx104_2 := (HB.out.cell (World.block_lt_of_cell? w _ hx104_2)).trans hx104_2
                        replace p104 := eq_true p104
                        replace q104 := eq_true q104
                        go_wp2_with (first | ((with_reducible refine gate_callee (f := 20) rfl ?_); refine goesL_ (some 47) rfl rfl Try.func20 (by kernel_rfl) rfl #[.int .i64 ((rd_T51 l1 x7_3).f0)] rfl (by (try simp only [List.map_toArray, List.map_cons, List.map_nil]); first | done | rfl | (simp only [List.length_drop, List.length_take]; rfl)) ?_; (with_reducible refine (ironbarkref20_Info.calls k3 ((rd_T51 l1 x7_3).f0) t105 t106 t107 true t109 t110 t111 t112 t113 _ A16.out).mono ?_); rintro e w18 ⟨rfl, hb⟩; refine ⟨_, rfl, ?_⟩; have n0_ := Aside0.mk (below_step (by repeat (first | (with_reducible first | exact HB.out | apply below_alloc | apply pw_below_drewN | apply below_drew1) | exact HB.out)) hb); clear HB; have HB := n0_; clear n0_; (try clear hb); (try clear hb2); (try clear hk); (try clear hi)) | ((with_reducible refine gate_dst (N := 8) rfl ?_); refine box_event ?hg (N := 8) ?hd (cs := #[.string (⟨#[]⟩ : ByteArray), .int .i64 0, .bool false, .bool false, .bool false, .bool false, .int .i64 0, .int .i64 0]) (t := 42) ?hr ?_; (case hd => rfl); (case hg => rfl); (case hr => first | (go_simp; done) | (go_simp; rfl)); intro gb114 hg w19 hbox hb; have n0_ := Aside0.mk (below_step (by repeat (first | (with_reducible first | exact HB.out | apply below_alloc | apply pw_below_drewN | apply below_drew1) | exact HB.out)) hb); have n1_ := Aside0.mk (hbox); have n2_ := Aside0.mk ((by rw [hg]; exact (below_size (by repeat (first | (with_reducible first | exact HB.out | apply below_alloc | apply pw_below_drewN | apply below_drew1) | exact HB.out))) : w.heap.size ≤ gb114)); have n3_ := n2_; clear HB; have HB := n0_; have BK114 := n1_; have GW114 := n2_; have GE114 := n3_; clear n0_ n1_ n2_ n3_; clear hb hbox hg; have hcz20_0 : w19.cell? ⟨gb114, 0, none⟩ = some (.string (⟨#[]⟩ : ByteArray)) := (blk_cell BK114.out 0).trans rfl; have hcz20_1 : w19.cell? ⟨gb114, 1, none⟩ = some (.int .i64 0) := (blk_cell BK114.out 1).trans rfl; have hcz20_2 : w19.cell? ⟨gb114, 2, none⟩ = some (.bool false) := (blk_cell BK114.out 2).trans rfl; have hcz20_3 : w19.cell? ⟨gb114, 3, none⟩ = some (.bool false) := (blk_cell BK114.out 3).trans rfl; have hcz20_4 : w19.cell? ⟨gb114, 4, none⟩ = some (.bool false) := (blk_cell BK114.out 4).trans rfl; have hcz20_5 : w19.cell? ⟨gb114, 5, none⟩ = some (.bool false) := (blk_cell BK114.out 5).trans rfl; have hcz20_6 : w19.cell? ⟨gb114, 6, none⟩ = some (.int .i64 0) := (blk_cell BK114.out 6).trans rfl; have hcz20_7 : w19.cell? ⟨gb114, 7, none⟩ = some (.int .i64 0) := (blk_cell BK114.out 7).trans rfl; obtain ⟨hfz20_0, hfz20_1, hfz20_2, hfz20_3, hfz20_4, hfz20_5⟩ := blk_six_free BK114.out; have hfz20_6 := blk_frozen BK114.out 6; have hfz20_7 := blk_frozen BK114.out 7))
                        go_roundg k3
                        case measure => have := HK1.out; have := HJ10.out; have := HK3.out; omega
                        case rel => exact ⟨(wrap64 (x7_3 + 1)), (by first | rfl | (simp; done) | (generalize ByteArray.toList _ = l_; cases l_ <;> rfl) | (simp [*]; done)), H', ⟨by have := HK1.out; have := HJ10.out; have := HK3.out; omega⟩, ⟨by repeat (first | (with_reducible first | exact HB.out | apply below_alloc | apply pw_below_drewN | apply below_drew1 | refine below_set ?_ GE114.out) | exact HB.out)⟩⟩
                      · replace c17 := Bool.eq_false_iff.mpr c17
                        subst c17
                        have H1 : (some (0, 10)) = some (r1, r2) := by rw [if_neg (show ¬ (false = true) by decide)] at H; exact H
                        clear H
                        have H := H1
                        clear H1
                        simp only [Option.some.injEq, Prod.mk.injEq] at H
                        obtain ⟨rfl, rfl⟩ := H
                        have p104 : 0 ≤ (x7_3 : Int) := of_decide_eq_true (by first | (with_reducible assumption) | assumption)
                        have q104 : x7_3 < (l1.length : Int) := of_decide_eq_true (by first | (with_reducible assumption) | assumption)
                        obtain ⟨ad104, e104, hx104_0, hx104_1, hx104_2⟩ := at_T51 HR1.out x7_3 p104 q104
                        cases e104
                        replace hx104_0 := (HB.out.cell (World.block_lt_of_cell? w _ hx104_0)).trans hx104_0
                        replace hx104_1 := (HB.out.cell (World.block_lt_of_cell? w _ hx104_1)).trans hx104_1
                        replace hx104_2 := (HB.out.cell (World.block_lt_of_cell? w _ hx104_2)).trans hx104_2
                        replace p104 := eq_true p104
                        replace q104 := eq_true q104
                        go_wp2_with (first | ((with_reducible refine gate_callee (f := 20) rfl ?_); refine goesL_ (some 47) rfl rfl Try.func20 (by kernel_rfl) rfl #[.int .i64 ((rd_T51 l1 x7_3).f0)] rfl (by (try simp only [List.map_toArray, List.map_cons, List.map_nil]); first | done | rfl | (simp only [List.length_drop, List.length_take]; rfl)) ?_; (with_reducible refine (ironbarkref20_Info.calls k3 ((rd_T51 l1 x7_3).f0) t105 t106 t107 false t109 t110 t111 t112 t113 _ A16.out).mono ?_); rintro e w21 ⟨rfl, hb⟩; refine ⟨_, rfl, ?_⟩; have n0_ := Aside0.mk (below_step (by repeat (first | (with_reducible first | exact HB.out | apply below_alloc | apply pw_below_drewN | apply below_drew1) | exact HB.out)) hb); clear HB; have HB := n0_; clear n0_; (try clear hb); (try clear hb2); (try clear hk); (try clear hi)) | ((with_reducible refine gate_dst (N := 8) rfl ?_); refine box_event ?hg (N := 8) ?hd (cs := #[.string (⟨#[]⟩ : ByteArray), .int .i64 0, .bool false, .bool false, .bool false, .bool false, .int .i64 0, .int .i64 0]) (t := 42) ?hr ?_; (case hd => rfl); (case hg => rfl); (case hr => first | (go_simp; done) | (go_simp; rfl)); intro gb114 hg w22 hbox hb; have n0_ := Aside0.mk (below_step (by repeat (first | (with_reducible first | exact HB.out | apply below_alloc | apply pw_below_drewN | apply below_drew1) | exact HB.out)) hb); have n1_ := Aside0.mk (hbox); have n2_ := Aside0.mk ((by rw [hg]; exact (below_size (by repeat (first | (with_reducible first | exact HB.out | apply below_alloc | apply pw_below_drewN | apply below_drew1) | exact HB.out))) : w.heap.size ≤ gb114)); have n3_ := n2_; clear HB; have HB := n0_; have BK114 := n1_; have GW114 := n2_; have GE114 := n3_; clear n0_ n1_ n2_ n3_; clear hb hbox hg; have hcz23_0 : w22.cell? ⟨gb114, 0, none⟩ = some (.string (⟨#[]⟩ : ByteArray)) := (blk_cell BK114.out 0).trans rfl; have hcz23_1 : w22.cell? ⟨gb114, 1, none⟩ = some (.int .i64 0) := (blk_cell BK114.out 1).trans rfl; have hcz23_2 : w22.cell? ⟨gb114, 2, none⟩ = some (.bool false) := (blk_cell BK114.out 2).trans rfl; have hcz23_3 : w22.cell? ⟨gb114, 3, none⟩ = some (.bool false) := (blk_cell BK114.out 3).trans rfl; have hcz23_4 : w22.cell? ⟨gb114, 4, none⟩ = some (.bool false) := (blk_cell BK114.out 4).trans rfl; have hcz23_5 : w22.cell? ⟨gb114, 5, none⟩ = some (.bool false) := (blk_cell BK114.out 5).trans rfl; have hcz23_6 : w22.cell? ⟨gb114, 6, none⟩ = some (.int .i64 0) := (blk_cell BK114.out 6).trans rfl; have hcz23_7 : w22.cell? ⟨gb114, 7, none⟩ = some (.int .i64 0) := (blk_cell BK114.out 7).trans rfl; obtain ⟨hfz23_0, hfz23_1, hfz23_2, hfz23_3, hfz23_4, hfz23_5⟩ := blk_six_free BK114.out; have hfz23_6 := blk_frozen BK114.out 6; have hfz23_7 := blk_frozen BK114.out 7))
                        go_ret2
                        exact ⟨by first | rfl | (simp [errW_none, errW_some] <;> rfl) | (simp [*, errW_none, errW_some] <;> rfl), by repeat (first | (with_reducible first | exact HB.out | apply below_alloc | apply pw_below_drewN | apply below_drew1 | refine below_set ?_ GE114.out) | exact HB.out)⟩
                    · rw [if_neg c15] at H
                      exact absurd H (by simp)
                  · rw [if_neg c14] at H
                    have c14b0 : decide (x7_3 < (l1.length : Int)) = false := decide_eq_false c14
                    clear c14
                    have H' := Aside0.mk H
                    clear H
                    go_wp2
                    go_loopg [0, 10] k3 (fun kq v0 v10 w' => ∃ (x0_4 : Int) (x10_4 : Int), v0 = .int .i64 x0_4 ∧ v10 = .int .i64 x10_4 ∧ Aside0 (ironbarkref20_Apply.l2 kq x0_4 l1 x10_4 = some (r1, r2)) ∧ Aside0 (kq ≤ k3) ∧ Aside0 (Below w.heap.size w w'))
                    case atStart => exact ⟨(a0), (0), (by first | rfl | (simp; done) | (generalize ByteArray.toList _ = l_; cases l_ <;> rfl) | (simp [*]; done)), (by first | rfl | (simp; done) | (generalize ByteArray.toList _ = l_; cases l_ <;> rfl) | (simp [*]; done)), H', ⟨Nat.le_refl _⟩, ⟨by repeat (first | (with_reducible first | exact HB.out | apply below_alloc | apply pw_below_drewN | apply below_drew1) | exact HB.out)⟩⟩
                    case round =>
                      clear H'
                      try clear c1
                      try clear p1
                      try clear q1
                      try clear hx1
                      try clear c2
                      try clear p2
                      try clear c3
                      try clear c3b0
                      try clear c4
                      try clear c4b0
                      try clear c6
                      try clear p6
                      try clear p10
                      try clear q10
                      try clear hx10
                      try clear c12
                      try clear c12b0
                      try clear c13
                      try clear c14
                      try clear c14b0
                      try clear c15
                      try clear c15b0
                      try clear c17
                      try clear c20
                      try clear hcz20_0 hcz20_1 hcz20_2 hcz20_3 hcz20_4 hcz20_5 hcz20_6 hcz20_7
                      try clear hcz23_0 hcz23_1 hcz23_2 hcz23_3 hcz23_4 hcz23_5 hcz23_6 hcz23_7
                      try clear hfz20_0 hfz20_1 hfz20_2 hfz20_3 hfz20_4 hfz20_5 hfz20_6 hfz20_7
                      try clear hfz23_0 hfz23_1 hfz23_2 hfz23_3 hfz23_4 hfz23_5 hfz23_6 hfz23_7
                      try clear hx101_0
                      try clear hx101_1
                      try clear hx101_2
                      try clear hx102_0
                      try clear hx102_1
                      try clear hx102_2
                      try clear hx104_0
                      try clear hx104_1
                      try clear hx104_2
                      try clear p1
                      try clear p10
                      try clear p101
                      try clear p102
                      try clear p104
                      try clear p2
                      try clear p6
                      try clear q1
                      try clear q10
                      try clear q101
                      try clear q102
                      try clear q104
                      obtain ⟨x0_4, x10_4, rfl, rfl, HA, HK4, HB⟩ := hrel
                      cases gk with
                      | zero => exact absurd HA.out (by simp [ironbarkref20_Apply.l2])
                      | succ k4 =>
                        have H := HA.out
                        clear HA
                        simp only [ironbarkref20_Apply.l2] at H
                        by_cases c24 : x10_4 < (l1.length : Int)
                        · rw [if_pos c24] at H
                          have c24b0 : decide (x10_4 < (l1.length : Int)) = true := decide_eq_true c24
                          clear c24
                          by_cases c25 : 0 ≤ x10_4
                          · rw [if_pos c25] at H
                            have c25b0 : decide (0 ≤ x10_4) = true := decide_eq_true c25
                            clear c25
                            replace H := Option.bind_eq_some_iff.mp H
                            obtain ⟨t116, A260, H⟩ := H
                            replace H : (if (rd_T51 l1 x10_4).f2 = true then ((ironbarkref20_Bit.f ((rd_T51 l1 x10_4).f0)).bind fun t119 => (ironbarkref20_Apply.l2 k4 (wrap64 ((Go.bits .or .i64 x0_4 t116) - t119)) l1 (wrap64 (x10_4 + 1)))) else (ironbarkref20_Apply.l2 k4 (Go.bits .or .i64 x0_4 t116) l1 (wrap64 (x10_4 + 1)))) = some (r1, r2) := H
                            have A26 := Aside0.mk A260
                            clear A260
                            obtain ⟨bq27, hbq27⟩ : ∃ b_ : Bool, b_ = ((rd_T51 l1 x10_4).f2) := ⟨_, rfl⟩
                            replace H : (if bq27 = true then ((ironbarkref20_Bit.f ((rd_T51 l1 x10_4).f0)).bind fun t119 => (ironbarkref20_Apply.l2 k4 (wrap64 ((Go.bits .or .i64 x0_4 t116) - t119)) l1 (wrap64 (x10_4 + 1)))) else (ironbarkref20_Apply.l2 k4 (Go.bits .or .i64 x0_4 t116) l1 (wrap64 (x10_4 + 1)))) = some (r1, r2) := by rw [← hbq27] at H; exact H
                            have Nbq27 := Aside0.mk hbq27
                            clear hbq27
                            by_cases c28 : bq27 = true
                            · subst c28
                              have H1 : ((ironbarkref20_Bit.f ((rd_T51 l1 x10_4).f0)).bind fun t119 => (ironbarkref20_Apply.l2 k4 (wrap64 ((Go.bits .or .i64 x0_4 t116) - t119)) l1 (wrap64 (x10_4 + 1)))) = some (r1, r2) := by rw [if_pos rfl] at H; exact H
                              clear H
                              have H := H1
                              clear H1
                              replace H := Option.bind_eq_some_iff.mp H
                              obtain ⟨t119, A290, H⟩ := H
                              replace H : (ironbarkref20_Apply.l2 k4 (wrap64 ((Go.bits .or .i64 x0_4 t116) - t119)) l1 (wrap64 (x10_4 + 1))) = some (r1, r2) := H
                              have A29 := Aside0.mk A290
                              clear A290
                              have H' := Aside0.mk H
                              clear H
                              have p115 : 0 ≤ (x10_4 : Int) := of_decide_eq_true (by first | (with_reducible assumption) | assumption)
                              have q115 : x10_4 < (l1.length : Int) := of_decide_eq_true (by first | (with_reducible assumption) | assumption)
                              obtain ⟨ad115, e115, hx115_0, hx115_1, hx115_2⟩ := at_T51 HR1.out x10_4 p115 q115
                              (try rw [← Nbq27.out] at hx115_2)
                              cases e115
                              replace hx115_0 := (HB.out.cell (World.block_lt_of_cell? w _ hx115_0)).trans hx115_0
                              replace hx115_1 := (HB.out.cell (World.block_lt_of_cell? w _ hx115_1)).trans hx115_1
                              replace hx115_2 := (HB.out.cell (World.block_lt_of_cell? w _ hx115_2)).trans hx115_2
                              replace p115 := eq_true p115
                              replace q115 := eq_true q115
                              go_wp2_with (first | ((with_reducible refine gate_callee (f := 43) rfl ?_); refine goesL_ (some 65) rfl rfl Try.func43 (by kernel_rfl) rfl #[.int .i64 ((rd_T51 l1 x10_4).f0)] rfl (by (try simp only [List.map_toArray, List.map_cons, List.map_nil]); first | done | rfl | (simp only [List.length_drop, List.length_take]; rfl)) ?_; (with_reducible refine (ironbarkref20_Bit.calls ((rd_T51 l1 x10_4).f0) t116 _ A26.out).mono ?_); rintro e w' ⟨rfl, ⟨nd, rfl⟩⟩; refine ⟨_, rfl, ?_⟩; have p117 : 0 ≤ (x10_4 : Int) := of_decide_eq_true (by first | (with_reducible assumption) | assumption); have q117 : x10_4 < (l1.length : Int) := of_decide_eq_true (by first | (with_reducible assumption) | assumption); obtain ⟨ad117, e117, hx117_0, hx117_1, hx117_2⟩ := at_T51 HR1.out x10_4 p117 q117; (try rw [← Nbq27.out] at hx117_2); obtain rfl : ad115 = ad117 := (by injection e117); replace hx117_0 := (HB.out.cell (World.block_lt_of_cell? w _ hx117_0)).trans hx117_0; replace hx117_1 := (HB.out.cell (World.block_lt_of_cell? w _ hx117_1)).trans hx117_1; replace hx117_2 := (HB.out.cell (World.block_lt_of_cell? w _ hx117_2)).trans hx117_2; replace p117 := eq_true p117; replace q117 := eq_true q117; have p118 : 0 ≤ (x10_4 : Int) := of_decide_eq_true (by first | (with_reducible assumption) | assumption); have q118 : x10_4 < (l1.length : Int) := of_decide_eq_true (by first | (with_reducible assumption) | assumption); obtain ⟨ad118, e118, hx118_0, hx118_1, hx118_2⟩ := at_T51 HR1.out x10_4 p118 q118; (try rw [← Nbq27.out] at hx118_2); obtain rfl : ad115 = ad118 := (by injection e118); replace hx118_0 := (HB.out.cell (World.block_lt_of_cell? w _ hx118_0)).trans hx118_0; replace hx118_1 := (HB.out.cell (World.block_lt_of_cell? w _ hx118_1)).trans hx118_1; replace hx118_2 := (HB.out.cell (World.block_lt_of_cell? w _ hx118_2)).trans hx118_2; replace p118 := eq_true p118; replace q118 := eq_true q118) | ((with_reducible refine gate_callee (f := 43) rfl ?_); refine goesL_ (some 78) rfl rfl Try.func43 (by kernel_rfl) rfl #[.int .i64 ((rd_T51 l1 x10_4).f0)] rfl (by (try simp only [List.map_toArray, List.map_cons, List.map_nil]); first | done | rfl | (simp only [List.length_drop, List.length_take]; rfl)) ?_; (with_reducible refine (ironbarkref20_Bit.calls ((rd_T51 l1 x10_4).f0) t119 _ A29.out).mono ?_); rintro e w' ⟨rfl, ⟨nd, rfl⟩⟩; refine ⟨_, rfl, ?_⟩))
                              go_roundg k4
                              case measure => have := HK1.out; have := HJ10.out; have := HK3.out; have := HK4.out; omega
                              case rel => exact ⟨(wrap64 ((Go.bits .or .i64 x0_4 t116) - t119)), (wrap64 (x10_4 + 1)), (by first | rfl | (simp; done) | (generalize ByteArray.toList _ = l_; cases l_ <;> rfl) | (simp [*]; done)), (by first | rfl | (simp; done) | (generalize ByteArray.toList _ = l_; cases l_ <;> rfl) | (simp [*]; done)), H', ⟨by have := HK1.out; have := HJ10.out; have := HK3.out; have := HK4.out; omega⟩, ⟨by repeat (first | (with_reducible first | exact HB.out | apply below_alloc | apply pw_below_drewN | apply below_drew1) | exact HB.out)⟩⟩
                            · replace c28 := Bool.eq_false_iff.mpr c28
                              subst c28
                              have H1 : (ironbarkref20_Apply.l2 k4 (Go.bits .or .i64 x0_4 t116) l1 (wrap64 (x10_4 + 1))) = some (r1, r2) := by rw [if_neg (show ¬ (false = true) by decide)] at H; exact H
                              clear H
                              have H := H1
                              clear H1
                              have H' := Aside0.mk H
                              clear H
                              have p115 : 0 ≤ (x10_4 : Int) := of_decide_eq_true (by first | (with_reducible assumption) | assumption)
                              have q115 : x10_4 < (l1.length : Int) := of_decide_eq_true (by first | (with_reducible assumption) | assumption)
                              obtain ⟨ad115, e115, hx115_0, hx115_1, hx115_2⟩ := at_T51 HR1.out x10_4 p115 q115
                              (try rw [← Nbq27.out] at hx115_2)
                              cases e115
                              replace hx115_0 := (HB.out.cell (World.block_lt_of_cell? w _ hx115_0)).trans hx115_0
                              replace hx115_1 := (HB.out.cell (World.block_lt_of_cell? w _ hx115_1)).trans hx115_1
                              replace hx115_2 := (HB.out.cell (World.block_lt_of_cell? w _ hx115_2)).trans hx115_2
                              replace p115 := eq_true p115
                              replace q115 := eq_true q115
                              go_wp2_with (first | ((with_reducible refine gate_callee (f := 43) rfl ?_); refine goesL_ (some 65) rfl rfl Try.func43 (by kernel_rfl) rfl #[.int .i64 ((rd_T51 l1 x10_4).f0)] rfl (by (try simp only [List.map_toArray, List.map_cons, List.map_nil]); first | done | rfl | (simp only [List.length_drop, List.length_take]; rfl)) ?_; (with_reducible refine (ironbarkref20_Bit.calls ((rd_T51 l1 x10_4).f0) t116 _ A26.out).mono ?_); rintro e w' ⟨rfl, ⟨nd, rfl⟩⟩; refine ⟨_, rfl, ?_⟩; have p117 : 0 ≤ (x10_4 : Int) := of_decide_eq_true (by first | (with_reducible assumption) | assumption); have q117 : x10_4 < (l1.length : Int) := of_decide_eq_true (by first | (with_reducible assumption) | assumption); obtain ⟨ad117, e117, hx117_0, hx117_1, hx117_2⟩ := at_T51 HR1.out x10_4 p117 q117; (try rw [← Nbq27.out] at hx117_2); obtain rfl : ad115 = ad117 := (by injection e117); replace hx117_0 := (HB.out.cell (World.block_lt_of_cell? w _ hx117_0)).trans hx117_0; replace hx117_1 := (HB.out.cell (World.block_lt_of_cell? w _ hx117_1)).trans hx117_1; replace hx117_2 := (HB.out.cell (World.block_lt_of_cell? w _ hx117_2)).trans hx117_2; replace p117 := eq_true p117; replace q117 := eq_true q117))
                              go_roundg k4
                              case measure => have := HK1.out; have := HJ10.out; have := HK3.out; have := HK4.out; omega
                              case rel => exact ⟨(Go.bits .or .i64 x0_4 t116), (wrap64 (x10_4 + 1)), (by first | rfl | (simp; done) | (generalize ByteArray.toList _ = l_; cases l_ <;> rfl) | (simp [*]; done)), (by first | rfl | (simp; done) | (generalize ByteArray.toList _ = l_; cases l_ <;> rfl) | (simp [*]; done)), H', ⟨by have := HK1.out; have := HJ10.out; have := HK3.out; have := HK4.out; omega⟩, ⟨by repeat (first | (with_reducible first | exact HB.out | apply below_alloc | apply pw_below_drewN | apply below_drew1) | exact HB.out)⟩⟩
                          · rw [if_neg c25] at H
                            exact absurd H (by simp)
                        · rw [if_neg c24] at H
                          have c24b0 : decide (x10_4 < (l1.length : Int)) = false := decide_eq_false c24
                          clear c24
                          simp only [Option.some.injEq, Prod.mk.injEq] at H
                          obtain ⟨rfl, rfl⟩ := H
                          go_wp2
                          go_ret2
                          exact ⟨by first | rfl | (simp [errW_none, errW_some] <;> rfl) | (simp [*, errW_none, errW_some] <;> rfl), by repeat (first | (with_reducible first | exact HB.out | apply below_alloc | apply pw_below_drewN | apply below_drew1) | exact HB.out)⟩
end Go.Proofs.Ytfahpihbbkkngaa.P

-- from the text Pz
namespace Go.Proofs.Ytfahpihbbkkngaa.P
open Go.RowKit Go.Proofs.YtfahpihbbkkngaaW.PrintWords Go.Proofs.YtfahpihbbkkngaaW.PrintLast Go.Proofs.YtfahpihbbkkngaaW.PrintMore
set_option linter.unusedVariables false
set_option linter.unusedSimpArgs false
def stepN (m c : Nat) (off : Bool) : Nat := if off = true then (m ||| 2 ^ c) - 2 ^ c else m ||| 2 ^ c
theorem pow_lt (c : Nat) (hc : c ≤ 20) : 2 ^ c ≤ 1048576 := Nat.pow_le_pow_right (by decide) hc
theorem or_lt (m c : Nat) (hm : m < 2097152) (hc : c ≤ 20) : m ||| 2 ^ c < 2097152 := by
  have h : 2 ^ c < 2 ^ 21 := by have := pow_lt c hc; omega
  exact Nat.or_lt_two_pow (n := 21) hm h
theorem pow_i (c : Nat) : (2 : Int) ^ c = ((2 ^ c : Nat) : Int) := by simp
theorem wrap_nat (x : Nat) (h : x ≤ 4194304) : wrap64 ((x : Nat) : Int) = (x : Int) := by
  unfold wrap64
  omega
theorem wrapk_nat (x : Nat) (h : x ≤ 4194304) : IntKind.i64.wrap ((x : Nat) : Int) = (x : Int) := by
  rw [IntKind.wrap_i64]
  omega
theorem wrap_pow (c : Nat) (hc : c ≤ 20) : wrap64 (2 ^ c) = ((2 ^ c : Nat) : Int) := by
  have h := pow_lt c hc
  rw [pow_i]
  exact wrap_nat _ (by omega)
theorem bits_or_bv (x y : Int) : bits .or .i64 x y = IntKind.i64.wrap (((BitVec.ofInt 64 x ||| BitVec.ofInt 64 y).toNat : Nat) : Int) := rfl
theorem bits_andNot_bv (x y : Int) : bits .andNot .i64 x y = IntKind.i64.wrap (((BitVec.ofInt 64 x &&& ~~~ BitVec.ofInt 64 y).toNat : Nat) : Int) := rfl
theorem ofInt_nat (m : Nat) (hm : m < 18446744073709551616) : (BitVec.ofInt 64 (m : Int)).toNat = m := by
  rw [BitVec.toNat_ofInt]
  have : (2 : Nat) ^ 64 = 18446744073709551616 := by decide
  omega
theorem bits_or_n (m c : Nat) (hm : m < 2097152) (hc : c ≤ 20) : bits .or .i64 (m : Int) ((2 ^ c : Nat) : Int) = ((m ||| 2 ^ c : Nat) : Int) := by
  have h1 := pow_lt c hc
  have h2 := or_lt m c hm hc
  rw [bits_or_bv, BitVec.toNat_or, ofInt_nat _ (by omega), ofInt_nat _ (by omega), wrapk_nat _ (by omega)]
theorem andNot_nat (m c : Nat) (hm : m < 2097152) (hc : c ≤ 20) : (BitVec.ofInt 64 (m : Int) &&& ~~~ BitVec.ofInt 64 ((2 ^ c : Nat) : Int)).toNat = (m ||| 2 ^ c) - 2 ^ c := by
  have h1 := pow_lt c hc
  have h2 := or_lt m c hm hc
  have e : (BitVec.ofInt 64 (m : Int) &&& ~~~ BitVec.ofInt 64 ((2 ^ c : Nat) : Int)) + BitVec.ofInt 64 ((2 ^ c : Nat) : Int) = BitVec.ofInt 64 (m : Int) ||| BitVec.ofInt 64 ((2 ^ c : Nat) : Int) := by
    generalize BitVec.ofInt 64 (m : Int) = X
    generalize BitVec.ofInt 64 ((2 ^ c : Nat) : Int) = Y
    rw [BitVec.add_eq_or_of_and_eq_zero]
    · ext i hi
      simp only [BitVec.getElem_or, BitVec.getElem_and, BitVec.getElem_not]
      cases X[i] <;> cases Y[i] <;> rfl
    · ext i hi
      simp only [BitVec.getElem_and, BitVec.getElem_not, BitVec.getElem_zero]
      cases X[i] <;> cases Y[i] <;> rfl
  have e2 := congrArg BitVec.toNat e
  have hle : (BitVec.ofInt 64 (m : Int) &&& ~~~ BitVec.ofInt 64 ((2 ^ c : Nat) : Int)).toNat ≤ m := by
    rw [BitVec.toNat_and, ofInt_nat m (by omega)]
    exact Nat.and_le_left
  rw [BitVec.toNat_add, BitVec.toNat_or, ofInt_nat m (by omega), ofInt_nat (2 ^ c) (by omega)] at e2
  generalize (BitVec.ofInt 64 (m : Int) &&& ~~~ BitVec.ofInt 64 ((2 ^ c : Nat) : Int)).toNat = z at *
  have h64 : (2 : Nat) ^ 64 = 18446744073709551616 := by decide
  rw [h64] at e2
  generalize 2 ^ c = P at *
  generalize m ||| P = O at *
  omega
theorem bits_andNot_n (m c : Nat) (hm : m < 2097152) (hc : c ≤ 20) : bits .andNot .i64 (m : Int) ((2 ^ c : Nat) : Int) = (((m ||| 2 ^ c) - 2 ^ c : Nat) : Int) := by
  have h2 := or_lt m c hm hc
  have h3 := andNot_nat m c hm hc
  rw [bits_andNot_bv, h3, wrapk_nat _ (Nat.le_trans (Nat.sub_le _ _) (by omega))]
theorem testBit_or (m c i : Nat) : (m ||| 2 ^ c).testBit i = (m.testBit i || decide (c = i)) := by rw [Nat.testBit_or, Nat.testBit_two_pow]
theorem testBit_andNot (m c i : Nat) (hm : m < 2097152) (hc : c ≤ 20) (hi : i ≤ 20) : ((m ||| 2 ^ c) - 2 ^ c).testBit i = (m.testBit i && !decide (c = i)) := by
  have h1 := pow_lt c hc
  rw [← andNot_nat m c hm hc, BitVec.toNat_and, BitVec.toNat_not, ofInt_nat m (by omega), ofInt_nat (2 ^ c) (by omega), Nat.testBit_and]
  congr 1
  rw [show (2 ^ 64 - 1 - 2 ^ c : Nat) = 2 ^ 64 - (2 ^ c + 1) by omega, Nat.testBit_two_pow_sub_succ (by omega), Nat.testBit_two_pow]
  simp
  omega
theorem stepN_lt (m c : Nat) (off : Bool) (hm : m < 2097152) (hc : c ≤ 20) : stepN m c off < 2097152 := by
  have := or_lt m c hm hc
  unfold stepN
  split
  · exact Nat.lt_of_le_of_lt (Nat.sub_le _ _) this
  · exact this
theorem stepN_bit (m c i : Nat) (off : Bool) (hm : m < 2097152) (hc : c ≤ 20) (hi : i ≤ 20) : (stepN m c off).testBit i = if c = i then !off else m.testBit i := by
  unfold stepN
  cases off with
  | true =>
    rw [if_pos rfl, testBit_andNot m c i hm hc hi]
    by_cases h : c = i <;> simp [h]
  | false =>
    rw [if_neg (by simp), testBit_or]
    by_cases h : c = i <;> simp [h]
theorem stepM_n (m c : Nat) (s : ByteArray) (off : Bool) (hm : m < 2097152) (hc : c ≤ 20) : stepM (m : Int) ⟨(c : Int), s, off⟩ = ((stepN m c off : Nat) : Int) := by
  unfold stepM stepN
  dsimp only
  rw [Int.toNat_natCast, wrap_pow c hc]
  cases off with
  | true => rw [if_pos rfl, if_pos rfl, bits_andNot_n m c hm hc]
  | false => rw [if_neg (by simp), if_neg (by simp), bits_or_n m c hm hc]
theorem shl_n (c : Nat) (hc : c ≤ 20) : shl .i64 1 (c : Int) = ((2 ^ c : Nat) : Int) := by
  have h := pow_lt c hc
  unfold shl
  have hm : min (c : Int).toNat IntKind.i64.bits = c := by simp [IntKind.bits]; omega
  rw [hm, Int.one_mul, pow_i]
  exact wrapk_nat _ (by omega)
end Go.Proofs.Ytfahpihbbkkngaa.P

-- from the text Pl
namespace Go.Proofs.Ytfahpihbbkkngaa.P
open Go.RowKit Go.Proofs.YtfahpihbbkkngaaW.PrintWords Go.Proofs.YtfahpihbbkkngaaW.PrintLast Go.Proofs.YtfahpihbbkkngaaW.PrintMore
set_option linter.unusedVariables false
set_option linter.unusedSimpArgs false
def okR (l : List S51) : Bool := l.all (fun p => (rowC p.f0).f3)
theorem applyL_eq (m : Int) (l : List S51) : applyL m l = if okR l = true then (l.foldl stepM m, 0) else (0, 10) := by
  induction l generalizing m with
  | nil => rfl
  | cons p r ih =>
    unfold applyL
    cases h : (rowC p.f0).f3 with
    | true =>
      rw [if_pos rfl, ih]
      simp [okR, h]
    | false => simp [okR, h]
/-- Every one of the prefixes may be applied. -/
def Fit (l : List S51) : Prop := ∀ p ∈ l, 1 ≤ p.f0 ∧ p.f0 ≤ 20 ∧ (rowC p.f0).f3 = true
theorem fit_of {l : List S51} (h1 : allR l = true) (h2 : okR l = true) : Fit l := by
  intro p hp
  have a := List.all_eq_true.1 h1 p hp
  have b := List.all_eq_true.1 h2 p hp
  simp only [rightB, Bool.and_eq_true] at a
  have := (isC_iff p.f0).1 a.1
  exact ⟨this.1, this.2, b⟩
def foldN (n : Nat) (l : List S51) : Nat := l.foldl (fun n p => stepN n p.f0.toNat p.f2) n
theorem fold_n (n : Nat) (l : List S51) (hn : n < 2097152) (h : Fit l) : l.foldl stepM (n : Int) = ((foldN n l : Nat) : Int) ∧ foldN n l < 2097152 := by
  induction l generalizing n with
  | nil => exact ⟨rfl, hn⟩
  | cons p r ih =>
    have hp := h p (by simp)
    obtain ⟨f0, f1, f2⟩ := p
    dsimp only at hp
    obtain ⟨c, rfl⟩ := Int.eq_ofNat_of_zero_le (show 0 ≤ f0 by omega)
    have hs := stepM_n n c f1 f2 hn (by omega)
    have h2 := ih (stepN n c f2) (stepN_lt n c f2 hn (by omega)) (fun q hq => h q (by simp [hq]))
    unfold foldN at h2 ⊢
    rw [List.foldl_cons, List.foldl_cons, hs]
    simpa using h2
/-- What the last of the prefixes on one condition says stands. -/
theorem fold_keep (n : Nat) (l : List S51) (hn : n < 2097152) (h : Fit l) (i : Nat) (hi : i ≤ 20) (hl : ∀ p ∈ l, p.f0 ≠ (i : Int)) : (foldN n l).testBit i = n.testBit i := by
  induction l generalizing n with
  | nil => rfl
  | cons p r ih =>
    have hp := h p (by simp)
    have hq := hl p (by simp)
    obtain ⟨f0, f1, f2⟩ := p
    dsimp only at hp hq
    obtain ⟨c, rfl⟩ := Int.eq_ofNat_of_zero_le (show 0 ≤ f0 by omega)
    have h2 := ih (stepN n c f2) (stepN_lt n c f2 hn (by omega)) (fun q hq => h q (by simp [hq])) (fun q hq => hl q (by simp [hq]))
    have h3 := stepN_bit n c i f2 hn (by omega) hi
    rw [if_neg (by omega)] at h3
    unfold foldN at h2 ⊢
    rw [List.foldl_cons]
    simpa [h3] using h2
theorem apply_ok {a0 : Int} {l : List S51} {c : Int} (hl : l.length ≤ 1000) (h : cond_Apply.f a0 l = some (c, 0)) : 0 ≤ a0 ∧ a0 < 2097152 ∧ allR l = true ∧ okR l = true ∧ c = l.foldl stepM a0 := by
  unfold cond_Apply.f at h
  rw [if_neg (by omega)] at h
  split at h
  · rename_i hr
    split at h
    · simp at h
    · rename_i hm
      rw [applyL_eq] at h
      split at h
      · rename_i ho
        simp only [Option.some.injEq, Prod.mk.injEq, and_true] at h
        exact ⟨by omega, by omega, hr, ho, h.symm⟩
      · simp at h
  · simp at h
theorem apply_mk {a0 : Int} {l : List S51} (hl : l.length ≤ 1000) (h0 : 0 ≤ a0) (h1 : a0 < 2097152) (hr : allR l = true) (ho : okR l = true) : cond_Apply.f a0 l = some (l.foldl stepM a0, 0) := by
  unfold cond_Apply.f
  rw [if_neg (by omega), if_pos hr, if_neg (by omega), applyL_eq, if_pos ho]
theorem fold_int (a0 : Int) (l : List S51) (h0 : 0 ≤ a0) (h1 : a0 < 2097152) (h : Fit l) : 0 ≤ l.foldl stepM a0 ∧ l.foldl stepM a0 < 2097152 := by
  obtain ⟨n, rfl⟩ := Int.eq_ofNat_of_zero_le h0
  have := fold_n n l (by omega) h
  rw [this.1]
  omega
/-- All at once, or first the ones and then the others. -/
theorem apply_parts {a0 : Int} {l k : List S51} {a : Int} (hl : l.length + k.length ≤ 1000) (h : cond_Apply.f a0 (l ++ k) = some (a, 0)) : ∃ c, cond_Apply.f a0 l = some (c, 0) ∧ cond_Apply.f c k = some (a, 0) := by
  obtain ⟨h0, h1, hr, ho, rfl⟩ := apply_ok (by simpa using hl) h
  simp only [allR, okR, List.all_append, Bool.and_eq_true] at hr ho
  have hb := fold_int a0 l h0 h1 (fit_of hr.1 ho.1)
  refine ⟨_, apply_mk (by omega) h0 h1 hr.1 ho.1, ?_⟩
  rw [apply_mk (by omega) hb.1 hb.2 hr.2 ho.2, List.foldl_append]
theorem bit_nat (n i : Nat) (hi : i < 62) (hn : n < 2097152) : (bits .and .i64 ((n : Int) / 2 ^ i) 1 == 1) = n.testBit i := by
  have e : (2 : Int) ^ i = ((2 ^ i : Nat) : Int) := by simp
  have e2 : ((n : Int) / 2 ^ i) = ((n / 2 ^ i : Nat) : Int) := by rw [e]; rfl
  have hle : n / 2 ^ i ≤ n := Nat.div_le_self _ _
  rw [e2, bits_and_nat]
  have e3 : (((n / 2 ^ i : Nat) : Int) % 18446744073709551616).toNat = n / 2 ^ i := by
    generalize n / 2 ^ i = z at *
    omega
  rw [e3, show ((1 : Int) % 18446744073709551616).toNat = 1 by rfl, Nat.and_one_is_mod, IntKind.wrap_i64, Nat.testBit_eq_decide_div_mod_eq]
  generalize n / 2 ^ i = z at *
  have hz : z % 2 = 0 ∨ z % 2 = 1 := by omega
  rcases hz with hz | hz <;> rw [hz] <;> decide
/-- The last prefix on a condition says whether it is enabled. -/
theorem apply_last {a0 : Int} {k : List S51} {a : Int} (hl : k.length ≤ 1000) (h : cond_Apply.f a0 k = some (a, 0)) (i : Nat) (hi : i < k.length) (hlast : ∀ j, i < j → j < k.length → (rd_T51 k (j : Int)).f0 ≠ (rd_T51 k (i : Int)).f0) :
    cond_Enabled.f a (rd_T51 k (i : Int)).f0 = some (!(rd_T51 k (i : Int)).f2) := by
  obtain ⟨h0, h1, hr, ho, rfl⟩ := apply_ok hl h
  have hf := fit_of hr ho
  have hd := rd_drop k i hi
  have hk : k = k.take i ++ rd_T51 k (i : Int) :: k.drop (i + 1) := by rw [← hd, List.take_append_drop]
  have hx := hf (rd_T51 k (i : Int)) (List.mem_of_mem_drop (i := i) (by rw [hd]; simp))
  have htl : ∀ p ∈ k.drop (i + 1), p.f0 ≠ (rd_T51 k (i : Int)).f0 := by
    intro p hp
    obtain ⟨j, hj, rfl⟩ := List.getElem_of_mem hp
    have hj' : j < k.length - (i + 1) := by simpa using hj
    have := hlast (i + 1 + j) (by omega) (by omega)
    rw [show (((i + 1 + j : Nat)) : Int) = ((i + 1 + j : Nat) : Int) from rfl] at this
    unfold rd_T51 at this
    rw [Int.toNat_natCast, List.getD_eq_getElem?_getD, List.getElem?_eq_getElem (show i + 1 + j < k.length by omega)] at this
    rw [List.getElem_drop]
    exact this
  have hft : Fit (k.take i) := fun p hp => hf p (List.mem_of_mem_take hp)
  have hfd : Fit (k.drop (i + 1)) := fun p hp => hf p (List.mem_of_mem_drop hp)
  obtain ⟨n, rfl⟩ := Int.eq_ofNat_of_zero_le h0
  have hn : n < 2097152 := by omega
  have e : k.foldl stepM (n : Int) = ((foldN n k : Nat) : Int) := (fold_n n k hn hf).1
  have hlt := (fold_n n k hn hf).2
  generalize hX : rd_T51 k (i : Int) = x at *
  obtain ⟨f0, f1, f2⟩ := x
  dsimp only at hx htl ⊢
  obtain ⟨c, rfl⟩ := Int.eq_ofNat_of_zero_le (show 0 ≤ f0 by omega)
  have hc : c ≤ 20 := by omega
  have h2 := (fold_n n (k.take i) hn hft).2
  have e2 : foldN n k = foldN (stepN (foldN n (k.take i)) c f2) (k.drop (i + 1)) := by
    conv => lhs; rw [hk]
    unfold foldN
    rw [List.foldl_append, List.foldl_cons]
    rfl
  have h3 := fold_keep (stepN (foldN n (k.take i)) c f2) (k.drop (i + 1)) (stepN_lt _ c f2 h2 hc) hfd c hc htl
  rw [stepN_bit _ c c f2 h2 hc hc, if_pos rfl, ← e2] at h3
  unfold cond_Enabled.f
  rw [if_pos ((isC_iff _).2 ⟨hx.1, hx.2.1⟩), if_pos hx.2.2, e, Int.toNat_natCast, bit_nat _ c (by omega) hlt, h3]
end Go.Proofs.Ytfahpihbbkkngaa.P

-- from the text Px
namespace Go.Proofs.Ytfahpihbbkkngaa.P
open Go.RowKit Go.Proofs.YtfahpihbbkkngaaW.PrintWords Go.Proofs.YtfahpihbbkkngaaW.PrintLast Go.Proofs.YtfahpihbbkkngaaW.PrintMore
set_option linter.unusedVariables false
set_option linter.unusedSimpArgs false
theorem apply_tot (a0 : Int) (l : List S51) (hl : l.length ≤ 1000) : ∃ a e, cond_Apply.f a0 l = some (a, e) := by
  unfold cond_Apply.f
  rw [if_neg (by omega)]
  split
  · split
    · exact ⟨_, _, rfl⟩
    · exact ⟨_, _, rfl⟩
  · exact ⟨_, _, rfl⟩
theorem apply_l2 (xs : List S51) (hf : Fit xs) : ∀ (d i : Nat) (m : Int), xs.length - i = d → i ≤ xs.length → xs.length ≤ 1000 → 0 ≤ m → m < 2097152 → Ev (fun k => ironbarkref20_Apply.l2 k m xs (i : Int)) ((xs.drop i).foldl stepM m, 0)
  | 0, i, m, hd, hi, hx, h0, h1 => by
    obtain rfl : i = xs.length := by omega
    refine Ev.step (f := fun _ => some (m, 0)) (fun k => ?_) ?_
    · show ironbarkref20_Apply.l2 (k + 1) m xs (xs.length : Int) = _
      unfold ironbarkref20_Apply.l2
      rw [if_neg (by omega)]
    · simpa using Ev.now _
  | d + 1, i, m, hd, hi, hx, h0, h1 => by
    have hlt : i < xs.length := by omega
    have hp := hf (rd_T51 xs (i : Int)) (List.mem_of_mem_drop (i := i) (by rw [rd_drop xs i hlt]; simp))
    rw [rd_drop xs i hlt, List.foldl_cons]
    have hb := fold_int m [rd_T51 xs (i : Int)] h0 h1 (fun q hq => by simp only [List.mem_singleton] at hq; rw [hq]; exact hp)
    rw [List.foldl_cons, List.foldl_nil] at hb
    have hw : wrap64 ((i : Int) + 1) = ((i + 1 : Nat) : Int) := by unfold wrap64; omega
    refine Ev.step (f := fun k => ironbarkref20_Apply.l2 k (stepM m (rd_T51 xs (i : Int))) xs ((i + 1 : Nat) : Int)) (fun k => ?_) (apply_l2 xs hf d (i + 1) _ (by omega) (by omega) hx hb.1 hb.2)
    show ironbarkref20_Apply.l2 (k + 1) m xs (i : Int) = _
    conv => lhs; unfold ironbarkref20_Apply.l2
    rw [if_pos (by omega), if_pos (by omega), hw]
    generalize rd_T51 xs (i : Int) = x at *
    obtain ⟨f0, f1, f2⟩ := x
    dsimp only at hp ⊢
    obtain ⟨c, rfl⟩ := Int.eq_ofNat_of_zero_le (show 0 ≤ f0 by omega)
    obtain ⟨n, rfl⟩ := Int.eq_ofNat_of_zero_le h0
    have hn : n < 2097152 := by omega
    have hc : c ≤ 20 := by omega
    unfold ironbarkref20_Bit.f
    rw [if_pos (by omega), shl_n c hc]
    simp only [Option.bind_some]
    rw [bits_or_n n c hn hc, stepM_n n c f1 f2 hn hc]
    have := or_lt n c hn hc
    have hp2 := pow_lt c hc
    unfold stepN
    cases f2 with
    | true =>
      rw [if_pos rfl, if_pos rfl]
      congr 1
      have hle : 2 ^ c ≤ n ||| 2 ^ c := Nat.right_le_or
      have e : (((n ||| 2 ^ c : Nat) : Int) - ((2 ^ c : Nat) : Int)) = ((((n ||| 2 ^ c) - 2 ^ c : Nat)) : Int) := by omega
      rw [e, wrap_nat _ (Nat.le_trans (Nat.sub_le _ _) (by omega))]
    | false => rw [if_neg (by simp), if_neg (by simp)]
theorem apply_l1 (m : Int) (xs : List S51) (ha : allR xs = true) (hx : xs.length ≤ 1000) (h0 : 0 ≤ m) (h1 : m < 2097152) : ∀ (d i : Nat), xs.length - i = d → i ≤ xs.length → okR (xs.take i) = true → Ev (fun k => ironbarkref20_Apply.l1 k m xs (i : Int)) (applyL m xs)
  | 0, i, hd, hi, hok => by
    obtain rfl : i = xs.length := by omega
    rw [List.take_length] at hok
    rw [applyL_eq, if_pos hok]
    refine Ev.step (f := fun k => ironbarkref20_Apply.l2 k m xs ((0 : Nat) : Int)) (fun k => ?_) (apply_l2 xs (fit_of ha hok) _ 0 m rfl (by omega) hx h0 h1)
    show ironbarkref20_Apply.l1 (k + 1) m xs (xs.length : Int) = _
    conv => lhs; unfold ironbarkref20_Apply.l1
    rw [if_neg (by omega)]
    rfl
  | d + 1, i, hd, hi, hok => by
    have hlt : i < xs.length := by omega
    have hmem : rd_T51 xs (i : Int) ∈ xs := List.mem_of_mem_drop (i := i) (by rw [rd_drop xs i hlt]; simp)
    have hr := List.all_eq_true.1 ha _ hmem
    simp only [rightB, Bool.and_eq_true] at hr
    have hC := hr.1
    have hw : wrap64 ((i : Int) + 1) = ((i + 1 : Nat) : Int) := by unfold wrap64; omega
    have ht : xs.take (i + 1) = xs.take i ++ [rd_T51 xs (i : Int)] := by
      rw [List.take_add_one, List.getElem?_eq_getElem hlt]
      simp [rd_T51, List.getElem?_eq_getElem hlt]
    refine Ev.step (f := fun k => (ironbarkref20_Info.f k (rd_T51 xs (i : Int)).f0).bind fun bt105 => (if bt105.2.2.2.1 = true then (ironbarkref20_Apply.l1 k m xs ((i + 1 : Nat) : Int)) else (some (0, 10)))) (fun k => ?_) ?_
    · show ironbarkref20_Apply.l1 (k + 1) m xs (i : Int) = _
      conv => lhs; unfold ironbarkref20_Apply.l1
      rw [if_pos (by omega), if_pos (by omega), hw]
    · refine Ev.bind (f := fun k bt105 => _) (info_ev _) ?_
      unfold infoT
      simp only [hC, if_true]
      cases hf : (rowC (rd_T51 xs (i : Int)).f0).f3 with
      | true =>
        simp only [if_true]
        exact apply_l1 m xs ha hx h0 h1 d (i + 1) (by omega) (by omega) (by rw [ht]; simp only [okR, List.all_append, Bool.and_eq_true] at hok ⊢; exact ⟨hok, by simp [hf]⟩)
      | false =>
        have : okR xs = false := by
          cases ho : okR xs with
          | false => rfl
          | true => have := List.all_eq_true.1 ho _ hmem; rw [hf] at this; cases this
        rw [applyL_eq, if_neg (by simp [this])]
        simpa using Ev.now _
theorem apply_l0 (m : Int) (xs : List S51) (hx : xs.length ≤ 1000) (r : Int × Int) (h : cond_Apply.f m xs = some r) : ∀ (d i : Nat), xs.length - i = d → i ≤ xs.length → allR (xs.take i) = true → Ev (fun k => ironbarkref20_Apply.l0 k m xs (i : Int)) r
  | 0, i, hd, hi, hok => by
    obtain rfl : i = xs.length := by omega
    rw [List.take_length] at hok
    unfold cond_Apply.f at h
    rw [if_neg (by omega), if_pos hok] at h
    have hl : Ev (fun k => ironbarkref20_Apply.j1 k m xs (decide (m < 0) || decide (m ≥ 2097152))) r := by
      by_cases hm : m < 0 ∨ 2097152 ≤ m
      · rw [if_pos hm] at h
        obtain rfl := Option.some.inj h
        have hd : (decide (m < 0) || decide (m ≥ 2097152)) = true := by simpa using hm
        refine Ev.step (f := fun k => some (0, 7)) (fun k => ?_) (Ev.now _)
        show ironbarkref20_Apply.j1 (k + 1) m xs _ = _
        rw [hd]
        rfl
      · rw [if_neg hm] at h
        rw [← Option.some.inj h]
        have hd : (decide (m < 0) || decide (m ≥ 2097152)) = false := by
          simp only [not_or] at hm
          simp [hm.1, Int.not_le.1 hm.2]
        refine Ev.step (f := fun k => ironbarkref20_Apply.l1 k m xs ((0 : Nat) : Int)) (fun k => ?_) (apply_l1 m xs hok hx (by omega) (by omega) _ 0 rfl (by omega) rfl)
        show ironbarkref20_Apply.j1 (k + 1) m xs _ = _
        rw [hd]
        rfl
    refine Ev.step (f := fun k => ironbarkref20_Apply.j1 k m xs (decide (m < 0) || decide (m ≥ 2097152))) (fun k => ?_) hl
    show ironbarkref20_Apply.l0 (k + 1) m xs (xs.length : Int) = _
    conv => lhs; unfold ironbarkref20_Apply.l0
    rw [if_neg (by omega)]
    by_cases hm : m < 0
    · rw [if_pos hm]
      simp [hm]
    · rw [if_neg hm]
      simp [hm]
  | d + 1, i, hd, hi, hok => by
    have hlt : i < xs.length := by omega
    have hmem : rd_T51 xs (i : Int) ∈ xs := List.mem_of_mem_drop (i := i) (by rw [rd_drop xs i hlt]; simp)
    have hw : wrap64 ((i : Int) + 1) = ((i + 1 : Nat) : Int) := by unfold wrap64; omega
    have ht : xs.take (i + 1) = xs.take i ++ [rd_T51 xs (i : Int)] := by
      rw [List.take_add_one, List.getElem?_eq_getElem hlt]
      simp [rd_T51, List.getElem?_eq_getElem hlt]
    refine Ev.step (f := fun k => (ironbarkref20_Named.f k (rd_T51 xs (i : Int)).f0 (rd_T51 xs (i : Int)).f1).bind fun t103 => (if t103 = true then (ironbarkref20_Apply.l0 k m xs ((i + 1 : Nat) : Int)) else (some (0, 1)))) (fun k => ?_) ?_
    · show ironbarkref20_Apply.l0 (k + 1) m xs (i : Int) = _
      conv => lhs; unfold ironbarkref20_Apply.l0
      rw [if_pos (by omega), if_pos (by omega), hw]
    · refine Ev.bind (f := fun k t103 => _) (named_ev _ _) ?_
      cases hf : rightB (rd_T51 xs (i : Int)).f0 (rd_T51 xs (i : Int)).f1 with
      | true =>
        simp only [if_true]
        exact apply_l0 m xs hx r h d (i + 1) (by omega) (by omega) (by rw [ht]; simp only [allR, List.all_append, Bool.and_eq_true] at hok ⊢; exact ⟨hok, by simp [hf]⟩)
      | false =>
        have : allR xs = false := by
          cases ho : allR xs with
          | false => rfl
          | true => have := List.all_eq_true.1 ho _ hmem; rw [hf] at this; cases this
        unfold cond_Apply.f at h
        rw [if_neg (by omega), if_neg (by simp [this])] at h
        obtain rfl := Option.some.inj h
        simpa using Ev.now _
theorem apply_ref (m : Int) (xs : List S51) (hx : xs.length ≤ 1000) (r : Int × Int) (h : cond_Apply.f m xs = some r) : ∃ k, ironbarkref20_Apply.f k m xs = some r :=
  (apply_l0 m xs hx r h _ 0 rfl (by omega) rfl).rounds
end Go.Proofs.Ytfahpihbbkkngaa.P

-- from the text Ht
namespace Go.Proofs.Ytfahpihbbkkngaa.P
open Go.RowKit Go.Proofs.YtfahpihbbkkngaaW.PrintWords Go.Proofs.YtfahpihbbkkngaaW.PrintLast Go.Proofs.YtfahpihbbkkngaaW.PrintMore
set_option linter.unusedVariables false
section
variable {ops : Array Oper} {rest : List Oper} {o : Oper} {a : Act} {Q : Exit → Act → World → Prop} {W : World}
/-- append([]T(nil), ys...). -/
theorem wl_copy51 {s x : Operand} (A : Option Addr) (m c : Nat) (ys : List S51) (hgd : o.guard = none) (ho : o.op = .call { callee := .builtin .append, args := #[s, x], argTypes := #[47, 47] })
    (hs : a.eval s = .slice none 0 0) (hx : a.eval x = .slice A m c) (HR : Kd.C k51 W A m ys) (hl : m * 32 ≤ 140737488355328)
    (h : ∀ A1 c1 w1, Kd.R k51 51 w1 W.heap.size (fun _ => True) (.slice A1 ys.length c1) ys → Kd.C k51 w1 A1 ys.length ys → ys.length ≤ c1 → Below W.heap.size W w1 → wpList Try.prog ops Q rest (a.put o.dst (.slice A1 ys.length c1)) w1) : wpList Try.prog ops Q (o :: rest) a W := by
  refine Kd.R_append_rows k51 (w0 := W) W.heap.size hgd s x 47 51 _ 32 ho Try.underlying47 info51 rfl (by decide) (by decide) (.slice none 0 0) [] ys A m c (fun _ => True) (fun _ => False) hs hx (Kd.R_nil _ _ _ _ _) HR (fun x cs hk => by obtain rfl := k51_open hk; exact k51_mkM _ _ _ _) (fun _ hk => hk.elim) (fun _ _ => trivial) (Below.refl _ _) (Nat.le_refl _) (by simpa using hl) ?_
  intro v1 w1 hR hb hg hat
  rw [List.nil_append] at hR
  obtain ⟨A1, c1, rfl, hle, hC⟩ := Kd.R_reads hR
  exact h A1 c1 w1 hR hC hle hb
/-- append(xs, ys...), xs made behind w. -/
theorem wl_more51 {s x : Operand} {w : World} {v : Value} (A : Option Addr) (m c : Nat) (xs ys b : List S51) (hxy : xs ++ ys = b) (hgd : o.guard = none) (ho : o.op = .call { callee := .builtin .append, args := #[s, x], argTypes := #[47, 47] })
    (hs : a.eval s = v) (hx : a.eval x = .slice A m c) (HO : Kd.R k51 51 W w.heap.size (fun _ => True) v xs) (HB : Below w.heap.size w W) (HR : Kd.C k51 W A m ys) (hl : (xs.length + m) * 32 ≤ 140737488355328)
    (h : ∀ A1 c1 w1, Kd.C k51 w1 A1 b.length b → b.length ≤ c1 → Below w.heap.size w w1 → wpList Try.prog ops Q rest (a.put o.dst (.slice A1 b.length c1)) w1) : wpList Try.prog ops Q (o :: rest) a W := by
  subst hxy
  refine Kd.R_append_rows k51 (w0 := w) w.heap.size hgd s x 47 51 _ 32 ho Try.underlying47 info51 rfl (by decide) (by decide) v xs ys A m c (fun _ => True) (fun _ => False) hs hx HO HR (fun x cs hk => by obtain rfl := k51_open hk; exact k51_mkM _ _ _ _) (fun _ hk => hk.elim) (fun _ _ => trivial) HB HB.size hl ?_
  intro v1 w1 hR hb hg hat
  obtain ⟨A1, c1, rfl, hle, hC⟩ := Kd.R_reads hR
  exact h A1 c1 w1 hC hle hb
end
end Go.Proofs.Ytfahpihbbkkngaa.P

-- from the text Hh
namespace Go.Proofs.Ytfahpihbbkkngaa.P
open Go.RowKit Go.Proofs.YtfahpihbbkkngaaW.PrintWords Go.Proofs.YtfahpihbbkkngaaW.PrintLast Go.Proofs.YtfahpihbbkkngaaW.PrintMore
set_option linter.unusedVariables false
set_option linter.unusedSimpArgs false
/-- A frame. -/
structure Fr where
  us : List S24
  rc : Int
  rn : ByteArray
  bl : Int
def fr0 : Fr := ⟨[], 0, ⟨#[]⟩, 0⟩
def cU (u : S24) : List Value := [.int .i64 u.f0, .string u.f1, .int .i64 u.f2]
def cF (x : Value × Fr) : List Value := [x.1, .int .i64 x.2.rc, .string x.2.rn, .int .i64 x.2.bl]
def cUs (l : List S24) : List Value := l.flatMap cU
def cFs (l : List (Value × Fr)) : List Value := l.flatMap cF
theorem len_cUs : ∀ l : List S24, (cUs l).length = l.length * 3
  | [] => rfl
  | x :: l => by
    have := len_cUs l
    simp only [cUs, List.flatMap_cons, List.length_append, List.length_cons] at this ⊢
    simp only [cU, List.length_cons, List.length_nil]
    omega
theorem len_cFs : ∀ l : List (Value × Fr), (cFs l).length = l.length * 4
  | [] => rfl
  | x :: l => by
    have := len_cFs l
    simp only [cFs, List.flatMap_cons, List.length_append, List.length_cons] at this ⊢
    simp only [cF, List.length_cons, List.length_nil]
    omega
/-- What a call may turn: blocks of F, and what is laid anew. -/
structure Turn (F : Nat → Prop) (w w' : World) : Prop where
  os : w'.os = w.os
  tape : w'.tape = w.tape
  output : w'.output = w.output
  size : w.heap.size ≤ w'.heap.size
  block : ∀ k, k < w.heap.size → ¬ F k → w'.heap[k]? = w.heap[k]?
def More (F : Nat → Prop) (n m : Nat) (k : Nat) : Prop := F k ∨ (n ≤ k ∧ k < m)
theorem Turn.refl (F : Nat → Prop) (w : World) : Turn F w w := ⟨rfl, rfl, rfl, Nat.le_refl _, fun _ _ _ => rfl⟩
theorem Turn.of_below {F : Nat → Prop} {w w' : World} (h : Below w.heap.size w w') : Turn F w w' := ⟨h.os, h.tape, h.output, h.size, fun k hk _ => h.block k hk⟩
theorem Turn.trans {F : Nat → Prop} {a b c : World} (h : Turn F a b) (k : Turn (More F a.heap.size b.heap.size) b c) : Turn F a c :=
  ⟨k.os.trans h.os, k.tape.trans h.tape, k.output.trans h.output, Nat.le_trans h.size k.size, fun i hi hn => (k.block i (Nat.lt_of_lt_of_le hi h.size) (fun e => e.elim hn (fun e => by omega))).trans (h.block i hi hn)⟩
theorem Turn.set {F : Nat → Prop} {a b : World} (h : Turn F a b) {p : Addr} (hp : F p.block) (v : Value) : Turn F a (b.setCell p v) :=
  ⟨h.os, h.tape, h.output, by rw [World.size_setCell]; exact h.size, fun k hk hn => (Below.heap_setCell b p v k (fun e => hn (e ▸ hp))).trans (h.block k hk hn)⟩
theorem Turn.below {F : Nat → Prop} {a b : World} (h : Turn F a b) {B : Nat} (hB : ∀ k, F k → B ≤ k) (hs : B ≤ a.heap.size) : Below B a b :=
  ⟨h.os, h.tape, h.output, h.size, fun k hk => h.block k (by omega) (fun e => by have := hB k e; omega)⟩
theorem Turn.step {F : Nat → Prop} {a b c : World} (h : Turn F a b) (hb : Below b.heap.size b c) : Turn F a c :=
  ⟨hb.os.trans h.os, hb.tape.trans h.tape, hb.output.trans h.output, Nat.le_trans h.size hb.size, fun k hk hn => (hb.block k (Nat.lt_of_lt_of_le hk h.size)).trans (h.block k hk hn)⟩
theorem Turn.grown {F : Nat → Prop} {a b c : World} {row : Option Nat} (h : Turn F a b) (hg : b.grownBy c row) (hr : ∀ k, row = some k → F k ∨ a.heap.size ≤ k) : Turn F a c :=
  ⟨hg.os.trans h.os, hg.tape.trans h.tape, hg.output.trans h.output, Nat.le_trans h.size hg.size, fun k hk hn => (hg.block k (Nat.lt_of_lt_of_le hk h.size) (fun e => (hr k e.symm).elim hn (fun e => by omega))).trans (h.block k hk hn)⟩
/-- A row lies as it lay where its block does. -/
theorem ownsRow_kept {w w' : World} {base : Nat} {e : TypeId} {size : Nat} {v : Value} {n : Nat} {xs : List Value} (h : w.ownsRow base e size v n xs) (hk : ∀ k, v.ownBlock = some k → w'.heap[k]? = w.heap[k]?) : w'.ownsRow base e size v n xs := by
  refine ⟨h.1, h.2.imp id ?_⟩
  rintro ⟨g, cap, cur, rfl, hb, hg, rest⟩
  exact ⟨g, cap, cur, rfl, hb, (hk g rfl).trans hg, rest⟩
theorem ownsRow_base {w : World} {base b' : Nat} {e : TypeId} {size : Nat} {v : Value} {n : Nat} {xs : List Value} (h : w.ownsRow base e size v n xs) (hb : b' ≤ base) : w.ownsRow b' e size v n xs := by
  refine ⟨h.1, h.2.imp id ?_⟩
  rintro ⟨g, cap, cur, rfl, hg, rest⟩
  exact ⟨g, cap, cur, rfl, Nat.le_trans hb hg, rest⟩
/-- A cell of an owned row. -/
theorem ownsRow_cell {w : World} {base : Nat} {e : TypeId} {size : Nat} {g : Nat} {n cap : Nat} {xs : List Value} (h : w.ownsRow base e size (.slice (some ⟨g, 0, none⟩) n cap) n xs) {j : Nat} {u : Value} (hj : xs[j]? = some u) : w.cell? ⟨g, j, none⟩ = some u := by
  rcases h.2 with ⟨h0, _⟩ | ⟨g', cap', cur, hv, _, hg, _, _, _, ht⟩
  · cases h0
  · cases hv
    have hj2 : cur[j]? = some u := by
      rw [← ht, List.getElem?_take] at hj
      split at hj
      · simpa using hj
      · cases hj
    exact (blk_cell hg j).trans hj2
/-- The stack at block s: its frames' row fv, each frame with the row of its units. -/
structure Stk (w : World) (s : Nat) (fv : Value) (D : List (Value × Fr)) : Prop where
  head : w.heap[s]? = some (.cells #[fv] 76 (0, 0))
  row : w.ownsRow 0 73 4 fv D.length (cFs D)
  units : ∀ x ∈ D, w.ownsRow 0 24 3 x.1 x.2.us.length (cUs x.2.us)
  apart : D.Pairwise (fun x y => ∀ b, x.1.ownBlock = some b → y.1.ownBlock ≠ some b)
def foot (s : Nat) (fv : Value) (D : List (Value × Fr)) (k : Nat) : Prop := k = s ∨ fv.ownBlock = some k ∨ ∃ x ∈ D, x.1.ownBlock = some k
theorem Stk.kept {w w' : World} {s : Nat} {fv : Value} {D : List (Value × Fr)} (h : Stk w s fv D) (hk : ∀ k, foot s fv D k → w'.heap[k]? = w.heap[k]?) : Stk w' s fv D :=
  ⟨(hk s (.inl rfl)).trans h.head, ownsRow_kept h.row (fun k e => hk k (.inr (.inl e))), fun x hx => ownsRow_kept (h.units x hx) (fun k e => hk k (.inr (.inr ⟨x, hx, e⟩))), h.apart⟩
theorem blk_lt' {w : World} {k : Nat} {o : Obj} (h : w.heap[k]? = some o) : k < w.heap.size := (Array.getElem?_eq_some_iff.1 h).1
theorem Stk.foot_lt {w : World} {s : Nat} {fv : Value} {D : List (Value × Fr)} (h : Stk w s fv D) {k : Nat} (hk : foot s fv D k) : k < w.heap.size := by
  rcases hk with rfl | hk | ⟨x, hx, hk⟩
  · exact blk_lt' h.head
  · exact (h.row.lt k hk).2
  · exact ((h.units x hx).lt k hk).2
/-- The three kinds of blocks differ. -/
theorem own_type {w : World} {base : Nat} {e : TypeId} {size : Nat} {v : Value} {n : Nat} {xs : List Value} (h : w.ownsRow base e size v n xs) {k : Nat} (hk : v.ownBlock = some k) : ∃ cur, w.heap[k]? = some (.cells cur e (0, 0)) := by
  rcases h.2 with ⟨rfl, _⟩ | ⟨g, cap, cur, rfl, _, hg, _⟩
  · cases hk
  · cases hk
    exact ⟨cur, hg⟩
theorem Stk.row_ne {w : World} {s : Nat} {fv : Value} {D : List (Value × Fr)} (h : Stk w s fv D) : fv.ownBlock ≠ some s := fun e => by
  obtain ⟨cur, hc⟩ := own_type h.row e
  have := h.head.symm.trans hc
  simp at this
theorem Stk.unit_ne {w : World} {s : Nat} {fv : Value} {D : List (Value × Fr)} (h : Stk w s fv D) {x : Value × Fr} (hx : x ∈ D) : x.1.ownBlock ≠ some s := fun e => by
  obtain ⟨cur, hc⟩ := own_type (h.units x hx) e
  have := h.head.symm.trans hc
  simp at this
theorem Stk.unit_row {w : World} {s : Nat} {fv : Value} {D : List (Value × Fr)} (h : Stk w s fv D) {x : Value × Fr} (hx : x ∈ D) {k : Nat} (hk : fv.ownBlock = some k) : x.1.ownBlock ≠ some k := fun e => by
  obtain ⟨cur, hc⟩ := own_type (h.units x hx) e
  obtain ⟨cur', hc'⟩ := own_type h.row hk
  have := hc'.symm.trans hc
  simp at this
/-- The stack's frames are L, its blocks are of F. -/
def St (w : World) (s : Nat) (L : List Fr) (F : Nat → Prop) : Prop := ∃ fv D, Stk w s fv D ∧ D.map Prod.snd = L ∧ ∀ k, foot s fv D k → F k
theorem St.below {w w' : World} {s : Nat} {L : List Fr} {F : Nat → Prop} (h : St w s L F) (hb : Below w.heap.size w w') : St w' s L F := by
  obtain ⟨fv, D, h1, h2, h3⟩ := h
  exact ⟨fv, D, h1.kept (fun k hk => hb.block k (h1.foot_lt hk)), h2, h3⟩
theorem St.turn {w w' : World} {s : Nat} {L : List Fr} {F G : Nat → Prop} (h : St w s L F) (ht : Turn G w w') (hd : ∀ k, F k → ¬ G k) : St w' s L F := by
  obtain ⟨fv, D, h1, h2, h3⟩ := h
  exact ⟨fv, D, h1.kept (fun k hk => ht.block k (h1.foot_lt hk) (hd k (h3 k hk))), h2, h3⟩
theorem St.mono {w : World} {s : Nat} {L : List Fr} {F G : Nat → Prop} (h : St w s L F) (hd : ∀ k, F k → G k) : St w s L G := by
  obtain ⟨fv, D, h1, h2, h3⟩ := h
  exact ⟨fv, D, h1, h2, fun k hk => hd k (h3 k hk)⟩
end Go.Proofs.Ytfahpihbbkkngaa.P

-- from the text Hi
namespace Go.Proofs.Ytfahpihbbkkngaa.P
open Go.RowKit Go.Proofs.YtfahpihbbkkngaaW.PrintWords Go.Proofs.YtfahpihbbkkngaaW.PrintLast Go.Proofs.YtfahpihbbkkngaaW.PrintMore
set_option linter.unusedVariables false
set_option linter.unusedSimpArgs false
section
variable {ops : Array Oper} {rest : List Oper} {o : Oper} {a : Act} {Q : Exit → Act → World → Prop} {W : World}
/-- One frame more. -/
theorem wl_append73 {s x : Operand} {fv : Value} {n : Nat} {xs : List Value} (g0 : Nat) (b c d : Value) (v : Value) (hgd : o.guard = none) (ho : o.op = .call { callee := .builtin .append, args := #[s, x], argTypes := #[74, 74] })
    (hs : a.eval s = fv) (hrow : W.ownsRow 0 73 4 fv n xs) (hx : a.eval x = .slice (some ⟨g0, 0, none⟩) 1 1) (hb : W.heap[g0]? = some (.cells #[v, b, c, d] 73 (0, 0)))
    (h1 : v.oneCell' = true ∧ b.oneCell' = true ∧ c.oneCell' = true ∧ d.oneCell' = true) (hn : n ≤ 1000000)
    (h : ∀ g cap w', w'.ownsRow 0 73 4 (.slice (some ⟨g, 0, none⟩) (n + 1) cap) (n + 1) (xs ++ [v, b, c, d]) → W.grownBy w' fv.ownBlock → (fv.ownBlock = some g ∨ g = W.heap.size) → g < w'.heap.size → wpList Try.prog ops Q rest (a.put o.dst (.slice (some ⟨g, 0, none⟩) (n + 1) cap)) w') : wpList Try.prog ops Q (o :: rest) a W := by
  obtain ⟨i0, hi, hz0, hz1, hz2⟩ := info_parts info73
  exact wpList_append_lies W hgd s x 74 ho 0 73 i0 _ 4 56 Try.underlying74 hi hz0 hz1 hz2 rfl (by decide) fv n xs hs hrow ⟨g0, 0, none⟩ 1 1 [v, b, c, d] hx rfl
    (fun j u hj => by rw [add_plain]; exact (blk_cell hb j).trans (by simpa using hj)) (by simp [h1]) (by decide) (by simp only [maxLen]; omega) (by omega) (Nat.zero_le _) _ rfl h
end
set_option maxRecDepth 100000 in
set_option maxHeartbeats 4000000 in
theorem new_is (w : World) : Calls Try.prog 11 #[] w fun e w' => ∃ s, e = .returned (.pointer (some ⟨s, 0, none⟩)) ∧ St w' s [fr0] (More (fun _ => False) w.heap.size w'.heap.size) ∧ Below w.heap.size w w' := by
  go_enter Try.func11, Try.ntmps11
  go_wp2_with fail
  go_ret
  have h1 := blk_new w (.cells #[.slice none 0 0, .int .i64 0, .string ⟨#[]⟩, .int .i64 0] 73 (0, 0))
  have h2 := blk_alloc h1 (.cells #[.slice (some ⟨w.heap.size, 0, none⟩) 1 1] 76 (0, 0))
  have h3 := blk_new (w.alloc (.cells #[.slice none 0 0, .int .i64 0, .string ⟨#[]⟩, .int .i64 0] 73 (0, 0))) (.cells #[.slice (some ⟨w.heap.size, 0, none⟩) 1 1] 76 (0, 0))
  rw [World.size_alloc] at h3
  refine ⟨w.heap.size + 1, rfl, ⟨.slice (some ⟨w.heap.size, 0, none⟩) 1 1, [(.slice none 0 0, fr0)], ⟨h3, ⟨rfl, .inr ⟨_, _, _, rfl, Nat.zero_le _, h2, by simp, by simp [maxLen], rfl, rfl⟩⟩, ?_, by simp⟩, rfl, ?_⟩, ?_⟩
  · intro x hx
    simp only [List.mem_singleton] at hx
    subst hx
    exact ⟨rfl, .inl ⟨rfl, rfl⟩⟩
  · intro k hk
    refine .inr ?_
    rcases hk with rfl | hk | ⟨x, hx, hk⟩
    · simp
    · cases hk
      simp only [World.size_alloc]
      omega
    · simp only [List.mem_singleton] at hx
      subst hx
      cases hk
  · exact ((Below.refl _ _).alloc (Nat.le_refl _) _).alloc (by simp) _
/-- What the stack's head tells. -/
theorem St.open_ {w : World} {s : Nat} {L : List Fr} {F : Nat → Prop} (h : St w s L F) : ∃ fv D, Stk w s fv D ∧ D.map Prod.snd = L ∧ (∀ k, foot s fv D k → F k) ∧ (∃ p c, fv = .slice p L.length c) ∧ w.cell? ⟨s, 0, none⟩ = some fv ∧ w.frozen? ⟨s, 0, none⟩ = false := by
  obtain ⟨fv, D, h1, h2, h3⟩ := h
  have hl : D.length = L.length := by rw [← h2]; simp
  refine ⟨fv, D, h1, h2, h3, ?_, (blk_cell h1.head 0).trans rfl, blk_frozen h1.head 0⟩
  rcases h1.row.2 with ⟨rfl, h0⟩ | ⟨g, cap, cur, rfl, _⟩
  · exact ⟨none, 0, by rw [← hl, h0]⟩
  · exact ⟨_, _, by rw [← hl]⟩
/-- A frame is put on top. -/
theorem St.pushed {w W w2 : World} {s g cap : Nat} {fv : Value} {D : List (Value × Fr)} {L : List Fr} {F : Nat → Prop} {f : Fr} (h : Stk w s fv D) (h2 : D.map Prod.snd = L) (h3 : ∀ k, foot s fv D k → F k) (hf : f.us = []) (hW : Below w.heap.size w W)
    (hown : w2.ownsRow 0 73 4 (.slice (some ⟨g, 0, none⟩) (D.length + 1) cap) (D.length + 1) (cFs D ++ cF (.slice none 0 0, f))) (hgrow : W.grownBy w2 fv.ownBlock) (hat : fv.ownBlock = some g ∨ g = W.heap.size) (hlt : g < w2.heap.size) :
    St (w2.setCell ⟨s, 0, none⟩ (.slice (some ⟨g, 0, none⟩) (D.length + 1) cap)) s (L ++ [f]) (More F w.heap.size (w2.setCell ⟨s, 0, none⟩ (.slice (some ⟨g, 0, none⟩) (D.length + 1) cap)).heap.size) ∧ Turn F w (w2.setCell ⟨s, 0, none⟩ (.slice (some ⟨g, 0, none⟩) (D.length + 1) cap)) := by
  have hs : s < w.heap.size := blk_lt' h.head
  have hk2 : ∀ k, k < w.heap.size → fv.ownBlock ≠ some k → w2.heap[k]? = w.heap[k]? := fun k hk hn => (hgrow.block k (Nat.lt_of_lt_of_le hk hW.size) (fun e => hn e.symm)).trans (hW.block k hk)
  have hh := (hk2 s hs h.row_ne).trans h.head
  have hgs : g ≠ s := by
    rintro rfl
    rcases hat with e | e
    · exact h.row_ne e
    · have := hW.size
      omega
  refine ⟨⟨.slice (some ⟨g, 0, none⟩) (D.length + 1) cap, D ++ [(.slice none 0 0, f)], ⟨blk_put hh 0 _ rfl, ?_, ?_, ?_⟩, by simp [h2], ?_⟩, ?_⟩
  · have e1 : (D ++ [((Value.slice none 0 0 : Value), f)]).length = D.length + 1 := by simp
    have e2 : cFs (D ++ [((Value.slice none 0 0 : Value), f)]) = cFs D ++ cF (.slice none 0 0, f) := by simp [cFs]
    rw [e1, e2]
    exact ownsRow_kept hown (fun k hk => by cases hk; exact Below.heap_setCell _ _ _ _ hgs)
  · intro x hx
    rcases List.mem_append.1 hx with hx | hx
    · exact ownsRow_kept (h.units x hx) (fun k hk => (Below.heap_setCell w2 _ _ _ (fun e => h.unit_ne hx (hk.trans (congrArg some e)))).trans (hk2 k ((h.units x hx).lt k hk).2 (fun e => h.unit_row hx e hk)))
    · simp only [List.mem_singleton] at hx
      subst hx
      exact ⟨by simp [hf, cUs], .inl ⟨rfl, by simp [hf]⟩⟩
  · refine List.pairwise_append.2 ⟨h.apart, by simp, fun x hx y hy b hb => ?_⟩
    simp only [List.mem_singleton] at hy
    subst hy
    simp [Value.ownBlock]
  · rw [World.size_setCell]
    rintro k (rfl | hk | ⟨x, hx, hk⟩)
    · exact .inl (h3 _ (.inl rfl))
    · cases hk
      rcases hat with e | e
      · exact .inl (h3 _ (.inr (.inl e)))
      · exact .inr ⟨e ▸ hW.size, hlt⟩
    · rcases List.mem_append.1 hx with hx | hx
      · exact .inl (h3 _ (.inr (.inr ⟨x, hx, hk⟩)))
      · simp only [List.mem_singleton] at hx
        subst hx
        cases hk
  · exact Turn.set (Turn.grown (Turn.of_below hW) hgrow (fun k hk => .inl (h3 k (.inr (.inl hk))))) (h3 s (.inl rfl)) _
set_option maxRecDepth 100000 in
set_option maxHeartbeats 4000000 in
theorem push_is (s : Nat) (L : List Fr) (F : Nat → Prop) (w : World) (h : St w s L F) (hl : L.length < 60) : Calls Try.prog 12 #[.pointer (some ⟨s, 0, none⟩)] w fun e w' => e = .returned (.int .i64 0) ∧ St w' s (L ++ [fr0]) (More F w.heap.size w'.heap.size) ∧ Turn F w w' := by
  obtain ⟨fv, D, h1, h2, h3, hv, hc, hf⟩ := h.open_
  have hd : decide (60 ≤ (L.length : Int)) = false := decide_eq_false (by omega)
  have hL : D.length = L.length := by rw [← h2]; simp
  have H1 := Aside0.mk h1
  have H2 := Aside0.mk h2
  have H3 := Aside0.mk h3
  have HR := Aside0.mk (ownsRow_kept (w' := w.alloc (.cells #[.slice none 0 0, .int .i64 0, .string ⟨#[]⟩, .int .i64 0] 73 (0, 0))) h1.row (fun k hk => Below.heap_alloc w _ k (h1.row.lt k hk).2))
  have HN := Aside0.mk (blk_new w (.cells #[.slice none 0 0, .int .i64 0, .string ⟨#[]⟩, .int .i64 0] 73 (0, 0)))
  have HH0 := Aside0.mk ((Below.heap_alloc w (.cells #[.slice none 0 0, .int .i64 0, .string ⟨#[]⟩, .int .i64 0] 73 (0, 0)) s (blk_lt' h1.head)).trans h1.head)
  have HB0 := Aside0.mk ((Below.refl w.heap.size w).alloc (Nat.le_refl _) (.cells #[.slice none 0 0, .int .i64 0, .string ⟨#[]⟩, .int .i64 0] 73 (0, 0)))
  have HS := Aside0.mk (show s < (w.alloc (.cells #[.slice none 0 0, .int .i64 0, .string ⟨#[]⟩, .int .i64 0] 73 (0, 0))).heap.size by rw [World.size_alloc]; exact Nat.lt_succ_of_lt (blk_lt' h1.head))
  obtain ⟨p, c, hv⟩ := hv
  subst hv
  clear h1 h2 h3
  go_enter Try.func12, Try.ntmps12
  go_wp2_with (((with_reducible refine gate_dst (N := 18) rfl ?_); refine wl_append73 w.heap.size _ _ _ _ rfl rfl rfl HR.out rfl HN.out ⟨rfl, rfl, rfl, rfl⟩ (by omega) ?_; intro g cap w2 hown hgrow hat hlt; have HH := Aside0.mk ((hgrow.block s HS.out (fun e => H1.out.row_ne e.symm)).trans HH0.out); have HF := Aside0.mk (St.pushed (f := fr0) H1.out H2.out H3.out rfl HB0.out hown hgrow hat hlt); clear hown hgrow hat hlt; have hc2 := (blk_cell HH.out 0).trans rfl; have hf2 := blk_frozen HH.out 0))
  go_ret
  rw [hL] at HF
  exact ⟨rfl, HF.out⟩
end Go.Proofs.Ytfahpihbbkkngaa.P

-- from the text Hj
namespace Go.Proofs.Ytfahpihbbkkngaa.P
open Go.RowKit Go.Proofs.YtfahpihbbkkngaaW.PrintWords Go.Proofs.YtfahpihbbkkngaaW.PrintLast Go.Proofs.YtfahpihbbkkngaaW.PrintMore
set_option linter.unusedVariables false
set_option linter.unusedSimpArgs false
attribute [local go_sem high] eqA71
/-- Whether a unit is for a condition and name. -/
def hit (c : Int) (s : ByteArray) (u : S24) : Bool := u.f0 == c && (u.f1.toList == s.toList)
/-- Where the first such unit stands. -/
def idxU (c : Int) (s : ByteArray) : List S24 → Nat → Option Nat
  | [], _ => none
  | u :: r, k => if hit c s u = true then some k else idxU c s r (k + 1)
theorem idxU_cons (c : Int) (s : ByteArray) (u : S24) (r : List S24) (k : Nat) : idxU c s (u :: r) k = if hit c s u = true then some k else idxU c s r (k + 1) := rfl
def idxI : Option Nat → Int
  | some k => (k : Int)
  | none => -1
theorem cUs_at (i : Nat) (hi : i < 3) : ∀ (us : List S24) (k : Nat) (u : S24), us[k]? = some u → (cUs us)[k * 3 + i]? = (cU u)[i]?
  | [], k, u, h => by simp at h
  | x :: us, 0, u, h => by
    simp at h
    subst h
    simp only [cUs, List.flatMap_cons, Nat.zero_mul, Nat.zero_add]
    rw [List.getElem?_append_left (by simpa [cU] using hi)]
  | x :: us, k + 1, u, h => by
    have := cUs_at i hi us k u (by simpa using h)
    simp only [cUs, List.flatMap_cons] at this ⊢
    rw [List.getElem?_append_right (by simp [cU]; omega)]
    have e : (k + 1) * 3 + i - (cU x).length = k * 3 + i := by simp [cU]; omega
    rw [e, this]
set_option maxRecDepth 100000 in
set_option maxHeartbeats 4000000 in
theorem place1_is (c : Int) (s : ByteArray) (x : S24) (B : Nat) (W : World) (hB : W.heap[B]? = some (.cells #[.int .i64 c, .string s] 71 (0, 0))) :
    Calls Try.prog 59 #[.agg #[.int .i64 x.f0, .string x.f1, .int .i64 x.f2], .pointer (some ⟨B, 0, none⟩)] W fun e w' => e = .returned (.bool (hit c s x)) ∧ Below W.heap.size W w' := by
  have HA := Aside0.mk (blk_alloc hB (.cells #[.int .i64 x.f0, .string x.f1, .int .i64 x.f2] 24 (0, 0)))
  have b0 := (blk_cell HA.out 0).trans rfl
  have b1 := (blk_cell HA.out 1).trans rfl
  go_enter Try.func59, Try.ntmps59
  go_wp2
  go_ret
  exact ⟨rfl, (Below.refl _ _).alloc (Nat.le_refl _) _⟩
set_option maxRecDepth 100000 in
set_option maxHeartbeats 4000000 in
theorem index_u (c : Int) (s : ByteArray) (us : List S24) (fv : Value) (B : Nat) (w : World) (hB : w.heap[B]? = some (.cells #[.int .i64 c, .string s] 71 (0, 0))) (hr : w.ownsRow 0 24 3 fv us.length (cUs us)) (hl : us.length ≤ 1000000) :
    Calls Try.prog 58 #[fv, .func (.func 59) #[] #[.pointer (some ⟨B, 0, none⟩)]] w fun e w' => e = .returned (.int .i64 (idxI (idxU c s us 0))) ∧ Below w.heap.size w w' := by
  have hv : ∃ p cap, fv = .slice p us.length cap := by
    rcases hr.2 with ⟨rfl, h0⟩ | ⟨g, cap, cur, rfl, _⟩
    · exact ⟨none, 0, by rw [h0]⟩
    · exact ⟨_, _, rfl⟩
  obtain ⟨p, cap, rfl⟩ := hv
  have HR := Aside0.mk hr
  have HB := Aside0.mk hB
  clear hr hB
  go_enter Try.func58, Try.ntmps58
  go_wp2_with fail
  go_loopw [5, 8] (fun _ v wr => ∃ k : Nat, k ≤ us.length ∧ v = .int .i64 (k : Int) ∧ Aside0 (idxU c s (us.drop k) k = idxU c s us 0) ∧ Aside0 (Below w.heap.size w wr)) (fun _ v _ => us.length - (intOf v).toNat)
  case atStart => exact ⟨0, Nat.zero_le _, rfl, ⟨rfl⟩, ⟨Below.refl _ _⟩⟩
  case round =>
    obtain ⟨k, hk, rfl, HA, HW⟩ := hrel
    by_cases hlt : k < us.length
    · have hlt' : (k : Int) < (us.length : Int) := by omega
      have h0 : (0 : Int) ≤ (k : Int) := by omega
      have hform : ∃ g, p = some ⟨g, 0, none⟩ := by
        obtain ⟨g, cap', hv, _⟩ := HR.out.form (by omega)
        cases hv
        exact ⟨g, rfl⟩
      obtain ⟨g, rfl⟩ := hform
      have hu : us[k]? = some us[k] := List.getElem?_eq_getElem hlt
      have HD := List.drop_eq_getElem_cons hlt
      generalize us[k] = u at hu HD
      have x0 := HW.out.cell (World.block_lt_of_cell? w _ (ownsRow_cell HR.out ((cUs_at 0 (by omega) us k u hu).trans rfl))) |>.trans (ownsRow_cell HR.out ((cUs_at 0 (by omega) us k u hu).trans rfl))
      have x1 := HW.out.cell (World.block_lt_of_cell? w _ (ownsRow_cell HR.out ((cUs_at 1 (by omega) us k u hu).trans rfl))) |>.trans (ownsRow_cell HR.out ((cUs_at 1 (by omega) us k u hu).trans rfl))
      have x2 := HW.out.cell (World.block_lt_of_cell? w _ (ownsRow_cell HR.out ((cUs_at 2 (by omega) us k u hu).trans rfl))) |>.trans (ownsRow_cell HR.out ((cUs_at 2 (by omega) us k u hu).trans rfl))
      rw [Nat.add_zero] at x0
      have HC := Aside0.mk (place1_is c s u B wr (blk_below HB.out HW.out))
      have HA := HA.out
      rw [HD] at HA
      rw [idxU_cons] at HA
      clear hu HD
      cases hq : hit c s u with
      | true =>
        rw [hq] at HC
        rw [if_pos hq] at HA
        replace HA := Aside0.mk HA
        clear hq
        go_wp2_with fail
        refine HC.out.mono ?_
        rintro e w' ⟨rfl, hb'⟩
        go_wp2_with fail
        go_ret
        rw [← HA.out]
        exact ⟨rfl, HW.out.trans (hb'.mono HW.out.size)⟩
      | false =>
        rw [hq] at HC
        rw [if_neg (by simp [hq])] at HA
        replace HA := Aside0.mk HA
        clear hq
        go_wp2_with fail
        refine HC.out.mono ?_
        rintro e w' ⟨rfl, hb'⟩
        go_wp2_with fail
        go_roundw
        case rel => exact ⟨k + 1, hlt, by rfl, HA, Aside0.mk (HW.out.trans (hb'.mono HW.out.size))⟩
        case measure => simp [intOf]; omega
    · obtain rfl : k = us.length := by omega
      have hn : idxU c s us 0 = none := by rw [← HA.out]; simp [idxU]
      replace hn := Aside0.mk hn
      go_wp2_with fail
      go_ret
      rw [hn.out]
      exact ⟨rfl, HW.out⟩
set_option maxRecDepth 100000 in
set_option maxHeartbeats 4000000 in
theorem place_is (c : Int) (s : ByteArray) (us : List S24) (fv : Value) (w : World) (hr : w.ownsRow 0 24 3 fv us.length (cUs us)) (hl : us.length ≤ 1000000) :
    Calls Try.prog 38 #[.agg #[fv], .agg #[.int .i64 c, .string s]] w fun e w' => e = .returned (.int .i64 (idxI (idxU c s us 0))) ∧ Below w.heap.size w w' := by
  have h1 := Aside0.mk ((Below.refl w.heap.size w).alloc (Nat.le_refl _) (.cells #[fv] 69 (0, 0)))
  have h2 := Aside0.mk (h1.out.alloc h1.out.size (.cells #[.int .i64 c, .string s] 71 (0, 0)))
  have HB := Aside0.mk (blk_new (w.alloc (.cells #[fv] 69 (0, 0))) (.cells #[.int .i64 c, .string s] 71 (0, 0)))
  rw [World.size_alloc] at HB
  have HF := Aside0.mk (blk_alloc (blk_new w (.cells #[fv] 69 (0, 0))) (.cells #[.int .i64 c, .string s] 71 (0, 0)))
  have f0 := (blk_cell HF.out 0).trans rfl
  have HC := Aside0.mk (index_u c s us fv (w.heap.size + 1) _ HB.out (ownsRow_kept hr (fun k hk => h2.out.block k (hr.lt k hk).2)) hl)
  have hmf : ∀ (fn : Fn) (first cap : Array Value) (w : World), (Instr.makeFunc fn first cap).run Try.prog w = .ok (.func fn first cap) w := fun _ _ _ _ => rfl
  clear hr
  go_enter Try.func38, Try.ntmps38
  go_wp2_with fail
  refine HC.out.mono ?_
  rintro e w' ⟨rfl, hb⟩
  go_wp2_with fail
  go_ret
  exact ⟨rfl, h2.out.trans (hb.mono h2.out.size)⟩
end Go.Proofs.Ytfahpihbbkkngaa.P

-- from the text Hk
namespace Go.Proofs.Ytfahpihbbkkngaa.P
open Go.RowKit Go.Proofs.YtfahpihbbkkngaaW.PrintWords Go.Proofs.YtfahpihbbkkngaaW.PrintLast Go.Proofs.YtfahpihbbkkngaaW.PrintMore
set_option linter.unusedVariables false
set_option linter.unusedSimpArgs false
theorem zero24 (m : Nat) : ∀ u ∈ (Builtin.zeroCells (Value.agg #[(.int .i64 0), (.string ⟨#[]⟩), (.int .i64 0)]).cells m).toList, u.oneCell' = true := by
  intro u hu
  simp only [Builtin.zeroCells, Array.mem_toList_iff, Array.mem_map] at hu
  obtain ⟨i, _, rfl⟩ := hu
  have h3 : i % (Value.agg #[(.int .i64 0), (.string ⟨#[]⟩), (.int .i64 0)]).cells.size < 3 := Nat.mod_lt _ (by decide)
  generalize i % (Value.agg #[(.int .i64 0), (.string ⟨#[]⟩), (.int .i64 0)]).cells.size = q at h3 ⊢
  match q, h3 with
  | 0, _ => rfl
  | 1, _ => rfl
  | 2, _ => rfl
set_option maxRecDepth 100000 in
set_option maxHeartbeats 4000000 in
theorem grow_is (n : Nat) (hn : n ≤ 1000000) (w : World) : Calls Try.prog 67 #[.slice none 0 0, .int .i64 (n : Int)] w fun e w' => ∃ v, e = .returned v ∧ w'.ownsRow w.heap.size 24 3 v 0 [] ∧ Below w.heap.size w w' := by
  by_cases h0 : n = 0
  · subst h0
    go_enter Try.func67, Try.ntmps67
    go_wp2_with fail
    go_ret
    exact ⟨_, rfl, World.ownsRow_nil _ _ _ _, Below.refl _ _⟩
  · have hp : (0 : Int) < (n : Int) := by omega
    have hnn : ¬ ((n : Int) < 0) := by omega
    have hw : wrap64 (n : Int) = (n : Int) := by unfold wrap64; omega
    obtain ⟨i0, hi, hz0, hz1, hz2⟩ := info_parts info24
    obtain ⟨v', w1, hr, hown, hgrow, _⟩ := run_append_zeros (P := Try.prog) w w.heap.size 64 3 64 24 i0 _ 3 32 Try.underlying64 Try.underlying3 hi hz0 hz1 hz2 rfl (by decide) (by decide) (.slice none 0 0) 0 [] (World.ownsRow_nil _ _ _ _) .i64 n (zero24 n) (by omega) (Nat.le_refl _)
    rcases hown.2 with ⟨_, hbad⟩ | ⟨g, cap, cur, rfl, hb, hg, hc1, hc2, hsz, ht⟩
    · omega
    have HG := Aside0.mk (show w1.ownsRow w.heap.size 24 3 (.slice (some ⟨g, 0, none⟩) 0 cap) 0 [] from ⟨rfl, .inr ⟨g, cap, cur, rfl, hb, hg, Nat.zero_le _, hc2, hsz, by simp⟩⟩)
    have HB := Aside0.mk ((Below.refl w.heap.size w).grown hgrow (Nat.le_refl _) (fun k hk => by cases hk))
    have HR := Aside0.mk hr
    rw [Nat.zero_add] at HR hc1
    have hcap : (0 : Int) ≤ (cap : Int) := by omega
    clear hr hown hgrow hz0 hz1 hz2 hi ht hsz hg hc2
    go_enter Try.func67, Try.ntmps67
    go_wp2_with ((with_reducible refine gate_dst (N := 22) rfl ?_); refine Lib.wpList_append_run _ rfl _ _ 64 3 rfl _ _ rfl rfl _ _ HR.out ?_)
    go_ret
    exact ⟨_, rfl, HG.out, HB.out⟩
theorem oneCell_cUs (l : List S24) : ∀ u ∈ cUs l, u.oneCell' = true := by
  intro u hu
  simp only [cUs, List.mem_flatMap] at hu
  obtain ⟨x, _, hu⟩ := hu
  simp only [cU, List.mem_cons, List.not_mem_nil, or_false] at hu
  rcases hu with rfl | rfl | rfl <;> rfl
section
variable {ops : Array Oper} {rest : List Oper} {o : Oper} {a : Act} {Q : Exit → Act → World → Prop} {W : World}
theorem wl_appendU {s x : Operand} {v : Value} {base n : Nat} {xs : List Value} (m c : Nat) (ad : Addr) (us : List S24) (hgd : o.guard = none) (ho : o.op = .call { callee := .builtin .append, args := #[s, x], argTypes := #[64, 64] })
    (hs : a.eval s = v) (hrow : W.ownsRow base 24 3 v n xs) (hx : a.eval x = .slice (some ad) m c) (hl : us.length = m) (hnews : ∀ j u, (cUs us)[j]? = some u → W.cell? (ad.add j) = some u) (hn : n + m ≤ 1000000) (hb : base ≤ W.heap.size)
    (h : ∀ v' w', w'.ownsRow base 24 3 v' (n + m) (xs ++ cUs us) → W.grownBy w' v.ownBlock → wpList Try.prog ops Q rest (a.put o.dst v') w') : wpList Try.prog ops Q (o :: rest) a W := by
  obtain ⟨i0, hi, hz0, hz1, hz2⟩ := info_parts info24
  exact wpList_append_own W hgd s x 64 ho base 24 i0 _ 3 32 Try.underlying64 hi hz0 hz1 hz2 rfl (by decide) v n xs hs hrow ad m c (cUs us) hx (by rw [len_cUs, hl]) hnews (oneCell_cUs us) (by simp only [maxLen]; omega) (by omega) hb (fun v' w' h1 h2 _ => h v' w' h1 h2)
end
set_option maxRecDepth 100000 in
set_option maxHeartbeats 4000000 in
theorem concat_is (sl : Nat) (a1 a2 : Addr) (c1 c2 : Nat) (x1 x2 : List S24) (w : World) (hsl : w.heap[sl]? = some (.cells #[.slice (some a1) x1.length c1, .slice (some a2) x2.length c2] 64 (0, 0)))
    (h1 : ∀ j u, (cUs x1)[j]? = some u → w.cell? (a1.add j) = some u) (h2 : ∀ j u, (cUs x2)[j]? = some u → w.cell? (a2.add j) = some u) (hn : x1.length + x2.length ≤ 1000000) :
    Calls Try.prog 53 #[.slice (some ⟨sl, 0, none⟩) 2 2] w fun e w' => ∃ v, e = .returned v ∧ w'.ownsRow w.heap.size 24 3 v (x1.length + x2.length) (cUs (x1 ++ x2)) ∧ Below w.heap.size w w' := by
  have HS := Aside0.mk hsl
  have H1 := Aside0.mk h1
  have H2 := Aside0.mk h2
  have HGR := Aside0.mk (grow_is (x1.length + x2.length) hn)
  clear hsl h1 h2
  go_enter Try.func53, Try.ntmps53
  go_wp2_with fail
  go_loopw [3, 11] (fun t p wr => ∃ k n : Nat, p = .int .i64 (k : Int) ∧ t = .int .i64 (n : Int) ∧ Aside0 ((k = 0 ∧ n = 0) ∨ (k = 1 ∧ n = x1.length) ∨ (k = 2 ∧ n = x1.length + x2.length)) ∧ Aside0 (Below w.heap.size w wr)) (fun _ p _ => 2 - (intOf p).toNat)
  case atStart => exact ⟨0, 0, rfl, rfl, ⟨.inl ⟨rfl, rfl⟩⟩, ⟨Below.refl _ _⟩⟩
  case round =>
    obtain ⟨k, n, rfl, rfl, HK, HB⟩ := hrel
    rcases HK.out with ⟨rfl, rfl⟩ | ⟨rfl, rfl⟩ | ⟨rfl, rfl⟩
    · have HSL := Aside0.mk (blk_below HS.out HB.out)
      have s0 := (blk_cell HSL.out 0).trans rfl
      have hnn : ¬ ((x1.length : Int) < 0) := by omega
      go_wp2_with fail
      go_roundw
      case rel => exact ⟨1, x1.length, rfl, by simp, ⟨.inr (.inl ⟨rfl, rfl⟩)⟩, HB⟩
      case measure => simp [intOf]
    · have HSL := Aside0.mk (blk_below HS.out HB.out)
      have s1 := (blk_cell HSL.out 1).trans rfl
      have hnn : ¬ ((x1.length : Int) + (x2.length : Int) < 0) := by omega
      go_wp2_with fail
      go_roundw
      case rel => exact ⟨2, x1.length + x2.length, rfl, by simp, ⟨.inr (.inr ⟨rfl, rfl⟩)⟩, HB⟩
      case measure => simp [intOf]
    · have HG := Aside0.mk (HGR.out wr)
      go_wp2_with fail
      refine HG.out.mono ?_
      rintro e w1 ⟨v, rfl, hv, hb⟩
      have HV := Aside0.mk (ownsRow_base hv HB.out.size)
      have HB1 := Aside0.mk (HB.out.trans (hb.mono HB.out.size))
      clear hv hb
      go_wp2_with fail
      clear HGR HG
      go_loopw [6, 27] (fun v p wr => ∃ (k : Nat) (n : Nat) (xs : List S24), p = .int .i64 (k : Int) ∧ Aside0 ((k = 0 ∧ n = 0 ∧ xs = []) ∨ (k = 1 ∧ n = x1.length ∧ xs = x1) ∨ (k = 2 ∧ n = x1.length + x2.length ∧ xs = x1 ++ x2)) ∧ Aside0 (wr.ownsRow w.heap.size 24 3 v n (cUs xs)) ∧ Aside0 (Below w.heap.size w wr)) (fun _ p _ => 2 - (intOf p).toNat)
      case atStart => exact ⟨0, 0, [], rfl, ⟨.inl ⟨rfl, rfl, rfl⟩⟩, HV, HB1⟩
      case round =>
        clear HV HB1 HB
        obtain ⟨k, n, xs, rfl, HK, HV, HB⟩ := hrel
        rcases HK.out with ⟨rfl, rfl, rfl⟩ | ⟨rfl, rfl, rfl⟩ | ⟨rfl, rfl, rfl⟩
        · have HSL := Aside0.mk (blk_below HS.out HB.out)
          have s0 := (blk_cell HSL.out 0).trans rfl
          have HX := Aside0.mk (fun j u (hj : (cUs x1)[j]? = some u) => pw_cell_below HB.out (H1.out j u hj))
          go_wp2_with ((with_reducible refine gate_dst (N := 33) rfl ?_); refine wl_appendU _ _ _ x1 rfl rfl rfl HV.out rfl rfl HX.out (by omega) HB.out.size ?_; intro v' w' hv' hgr; have HV' := Aside0.mk hv'; have HB' := Aside0.mk (HB.out.grown hgr HB.out.size (fun k hk => (HV.out.lt k hk).1)); clear hv' hgr)
          go_roundw
          case rel => exact ⟨1, x1.length, x1, rfl, ⟨.inr (.inl ⟨rfl, rfl, rfl⟩)⟩, ⟨by simpa [cUs] using HV'.out⟩, HB'⟩
          case measure => simp [intOf]
        · have HSL := Aside0.mk (blk_below HS.out HB.out)
          have s1 := (blk_cell HSL.out 1).trans rfl
          have HX := Aside0.mk (fun j u (hj : (cUs x2)[j]? = some u) => pw_cell_below HB.out (H2.out j u hj))
          go_wp2_with ((with_reducible refine gate_dst (N := 33) rfl ?_); refine wl_appendU _ _ _ x2 rfl rfl rfl HV.out rfl rfl HX.out (by omega) HB.out.size ?_; intro v' w' hv' hgr; have HV' := Aside0.mk hv'; have HB' := Aside0.mk (HB.out.grown hgr HB.out.size (fun k hk => (HV.out.lt k hk).1)); clear hv' hgr)
          go_roundw
          case rel => exact ⟨2, _, _, rfl, ⟨.inr (.inr ⟨rfl, rfl, rfl⟩)⟩, ⟨by simpa [cUs] using HV'.out⟩, HB'⟩
          case measure => simp [intOf]
        · go_wp2_with fail
          go_ret
          exact ⟨_, rfl, HV.out, HB.out⟩
end Go.Proofs.Ytfahpihbbkkngaa.P

-- from the text Hl
namespace Go.Proofs.Ytfahpihbbkkngaa.P
open Go.RowKit Go.Proofs.YtfahpihbbkkngaaW.PrintWords Go.Proofs.YtfahpihbbkkngaaW.PrintLast Go.Proofs.YtfahpihbbkkngaaW.PrintMore
set_option linter.unusedVariables false
set_option linter.unusedSimpArgs false
/-- The units without the first one for a condition and name. -/
def revU (c : Int) (s : ByteArray) (us : List S24) : List S24 :=
  match idxU c s us 0 with
  | some k => us.take k ++ us.drop (k + 1)
  | none => us
theorem idxU_lt (c : Int) (s : ByteArray) : ∀ (us : List S24) (i k : Nat), idxU c s us i = some k → i ≤ k ∧ k < i + us.length
  | [], i, k, h => by simp [idxU] at h
  | u :: r, i, k, h => by
    rw [idxU_cons] at h
    split at h
    · cases h
      simp
    · have := idxU_lt c s r (i + 1) k h
      simp
      omega
theorem ownsRow_frozen {w : World} {base : Nat} {e : TypeId} {size : Nat} {g : Nat} {n cap : Nat} {xs : List Value} (h : w.ownsRow base e size (.slice (some ⟨g, 0, none⟩) n cap) n xs) (j : Nat) : w.frozen? ⟨g, j, none⟩ = false := by
  rcases h.2 with ⟨h0, _⟩ | ⟨g', cap', cur, hv, _, hg, _⟩
  · cases h0
  · cases hv
    exact blk_frozen hg j
/-- The newest frame. -/
theorem St.top {w : World} {s : Nat} {L0 : List Fr} {f : Fr} {F : Nat → Prop} (h : St w s (L0 ++ [f]) F) : ∃ fv D0 v, Stk w s fv (D0 ++ [(v, f)]) ∧ D0.map Prod.snd = L0 ∧ (∀ k, foot s fv (D0 ++ [(v, f)]) k → F k) ∧
    (∃ g cap, fv = .slice (some ⟨g, 0, none⟩) (L0.length + 1) cap ∧ w.cell? ⟨g, L0.length * 4, none⟩ = some v ∧ w.frozen? ⟨g, L0.length * 4, none⟩ = false) ∧ w.cell? ⟨s, 0, none⟩ = some fv := by
  obtain ⟨fv, D, h1, h2, h3⟩ := h
  obtain ⟨D0, D1, rfl, h4, h5⟩ := List.map_eq_append_iff.1 h2
  obtain ⟨⟨v, f'⟩, D2, rfl, h6, h7⟩ := List.map_eq_cons_iff.1 h5
  obtain rfl : D2 = [] := List.map_eq_nil_iff.1 h7
  obtain rfl : f' = f := h6
  have hlen : (D0 ++ [(v, f')]).length = L0.length + 1 := by rw [← h4]; simp
  refine ⟨fv, D0, v, h1, h4, h3, ?_, (blk_cell h1.head 0).trans rfl⟩
  have hr := h1.row
  rw [hlen] at hr
  obtain ⟨g, cap, rfl, _, _⟩ := hr.form (by omega)
  refine ⟨g, cap, rfl, ownsRow_cell hr ?_, ownsRow_frozen hr _⟩
  have e : (cFs D0).length = L0.length * 4 := by rw [len_cFs, ← h4]; simp
  have e2 : cFs (D0 ++ [(v, f')]) = cFs D0 ++ cF (v, f') := by simp [cFs]
  rw [e2, List.getElem?_append_right (by omega), e, Nat.sub_self]
  rfl
theorem concat_n (sl : Nat) (a1 a2 : Addr) (n1 n2 c1 c2 : Nat) (x1 x2 us' : List S24) (w : World) (hus : x1 ++ x2 = us') (e1 : x1.length = n1) (e2 : x2.length = n2) (hsl : w.heap[sl]? = some (.cells #[.slice (some a1) n1 c1, .slice (some a2) n2 c2] 64 (0, 0)))
    (h1 : ∀ j u, (cUs x1)[j]? = some u → w.cell? (a1.add j) = some u) (h2 : ∀ j u, (cUs x2)[j]? = some u → w.cell? (a2.add j) = some u) (hn : n1 + n2 ≤ 1000000) :
    Calls Try.prog 53 #[.slice (some ⟨sl, 0, none⟩) 2 2] w fun e w' => ∃ v, e = .returned v ∧ w'.ownsRow w.heap.size 24 3 v us'.length (cUs us') ∧ Below w.heap.size w w' := by
  subst e1
  subst e2
  subst hus
  rw [List.length_append]
  exact concat_is sl a1 a2 c1 c2 x1 x2 w hsl h1 h2 hn
theorem cUs_take : ∀ (us : List S24) (k : Nat), cUs (us.take k) = (cUs us).take (k * 3)
  | [], k => by simp [cUs]
  | x :: us, 0 => by simp [cUs]
  | x :: us, k + 1 => by
    have := cUs_take us k
    have e : (k + 1) * 3 = k * 3 + 3 := by omega
    simp only [cUs, List.take_succ_cons, List.flatMap_cons] at this ⊢
    rw [this, e]
    rfl
theorem cUs_drop : ∀ (us : List S24) (k : Nat), cUs (us.drop k) = (cUs us).drop (k * 3)
  | [], k => by simp [cUs]
  | x :: us, 0 => by simp [cUs]
  | x :: us, k + 1 => by
    have := cUs_drop us k
    have e : (k + 1) * 3 = k * 3 + 3 := by omega
    simp only [cUs, List.drop_succ_cons, List.flatMap_cons] at this ⊢
    rw [this, e]
    rfl
/-- Another unit row in the newest frame. -/
theorem St.retop {w W : World} {s g cap : Nat} {D0 : List (Value × Fr)} {v v' : Value} {f : Fr} {us' : List S24} {L0 : List Fr} {F : Nat → Prop} (h : Stk w s (.slice (some ⟨g, 0, none⟩) (L0.length + 1) cap) (D0 ++ [(v, f)])) (h2 : D0.map Prod.snd = L0) (h3 : ∀ k, foot s (.slice (some ⟨g, 0, none⟩) (L0.length + 1) cap) (D0 ++ [(v, f)]) k → F k)
    (ht : Turn F w W) (hk : ∀ k, k < w.heap.size → v.ownBlock ≠ some k → W.heap[k]? = w.heap[k]?) (hv : W.ownsRow 0 24 3 v' us'.length (cUs us')) (hat : ∀ k, v'.ownBlock = some k → v.ownBlock = some k ∨ w.heap.size ≤ k) :
    St (W.setCell ⟨g, L0.length * 4, none⟩ v') s (L0 ++ [{ f with us := us' }]) (More F w.heap.size (W.setCell ⟨g, L0.length * 4, none⟩ v').heap.size) ∧ Turn F w (W.setCell ⟨g, L0.length * 4, none⟩ v') := by
  have hgF : F g := h3 g (.inr (.inl rfl))
  have hx : (v, f) ∈ D0 ++ [(v, f)] := by simp
  have hvg : v.ownBlock ≠ some g := h.unit_row hx rfl
  have hs : s < w.heap.size := blk_lt' h.head
  have hsv : v.ownBlock ≠ some s := h.unit_ne hx
  have hgs : g ≠ s := fun e => h.row_ne (congrArg some e)
  have hg : g < w.heap.size := (h.row.lt g rfl).2
  have hv'g : v'.ownBlock ≠ some g := fun e => (hat g e).elim hvg (fun e => by omega)
  have hv's : v'.ownBlock ≠ some s := fun e => (hat s e).elim hsv (fun e => by omega)
  have hlen : (D0 ++ [(v, f)]).length = L0.length + 1 := by rw [← h2]; simp
  have hD0 : D0.length = L0.length := by rw [← h2]; simp
  refine ⟨⟨.slice (some ⟨g, 0, none⟩) (L0.length + 1) cap, D0 ++ [(v', { f with us := us' })], ⟨?_, ?_, ?_, ?_⟩, by simp [h2], ?_⟩, ht.set hgF _⟩
  · rw [Below.heap_setCell _ _ _ _ (fun e => hgs e.symm), hk s hs hsv]
    exact h.head
  · have hr := h.row
    rw [hlen] at hr
    have e1 : (D0 ++ [(v', { f with us := us' })]).length = L0.length + 1 := by simp [hD0]
    rw [e1]
    rcases hr.2 with ⟨hbad, _⟩ | ⟨g', cap', cur, he, hb, hgc, hc1, hc2, hcs, hct⟩
    · cases hbad
    · cases he
      have hcur : W.heap[g]? = some (.cells cur 73 (0, 0)) := (hk g hg hvg).trans hgc
      refine ⟨by rw [len_cFs, e1], .inr ⟨g, cap, cur.setIfInBounds (L0.length * 4) v', rfl, hb, blk_put hcur _ _ rfl, hc1, hc2, by simp [hcs], ?_⟩⟩
      have e2 : cFs (D0 ++ [(v, f)]) = cFs D0 ++ (v :: [.int .i64 f.rc, .string f.rn, .int .i64 f.bl]) := by simp [cFs, cF]
      have e3 : cFs (D0 ++ [(v', { f with us := us' })]) = cFs D0 ++ (v' :: [.int .i64 f.rc, .string f.rn, .int .i64 f.bl]) := by simp [cFs, cF]
      have e4 : (cFs D0).length = L0.length * 4 := by rw [len_cFs, hD0]
      rw [Array.toList_setIfInBounds, List.take_set, hct, e2, e3, ← e4, List.set_append_right _ _ (Nat.le_refl _), Nat.sub_self, List.set_cons_zero]
  · intro x hx
    rcases List.mem_append.1 hx with hx | hx
    · have hx2 : x ∈ D0 ++ [(v, f)] := List.mem_append_left _ hx
      refine ownsRow_kept (h.units x hx2) (fun k hk' => ?_)
      have hkg : k ≠ g := fun e => h.unit_row hx2 (show (Value.slice (some ⟨g, 0, none⟩) (L0.length + 1) cap).ownBlock = some g from rfl) (hk'.trans (congrArg some e))
      rw [Below.heap_setCell _ _ _ _ hkg]
      exact hk k ((h.units x hx2).lt k hk').2 ((List.pairwise_append.1 h.apart).2.2 x hx (v, f) (by simp) k hk')
    · simp only [List.mem_singleton] at hx
      subst hx
      exact ownsRow_kept hv (fun k hk' => Below.heap_setCell _ _ _ _ (fun e => hv'g (hk'.trans (congrArg some e))))
  · obtain ⟨p1, p2, p3⟩ := List.pairwise_append.1 h.apart
    refine List.pairwise_append.2 ⟨p1, by simp, fun x hx y hy b hb hyb => ?_⟩
    simp only [List.mem_singleton] at hy
    subst hy
    rcases hat b hyb with e | e
    · exact p3 x hx (v, f) (by simp) b hb e
    · have := ((h.units x (List.mem_append_left _ hx)).lt b hb).2
      omega
  · rw [World.size_setCell]
    rintro k (rfl | hk' | ⟨x, hx, hk'⟩)
    · exact .inl (h3 _ (.inl rfl))
    · exact .inl (h3 _ (.inr (.inl hk')))
    · rcases List.mem_append.1 hx with hx | hx
      · exact .inl (h3 _ (.inr (.inr ⟨x, List.mem_append_left _ hx, hk'⟩)))
      · simp only [List.mem_singleton] at hx
        subst hx
        rcases hat k hk' with e | e
        · exact .inl (h3 _ (.inr (.inr ⟨(v, f), by simp, e⟩)))
        · exact .inr ⟨e, (hv.lt k hk').2⟩
theorem ownsRow_slice {w : World} {base : Nat} {e : TypeId} {size : Nat} {v : Value} {n : Nat} {xs : List Value} (h : w.ownsRow base e size v n xs) : ∃ p c, v = .slice p n c := by
  rcases h.2 with ⟨rfl, rfl⟩ | ⟨g, cap, cur, rfl, _⟩
  · exact ⟨none, 0, rfl⟩
  · exact ⟨_, _, rfl⟩
set_option maxRecDepth 100000 in
set_option maxHeartbeats 8000000 in
theorem revert_is (s : Nat) (c : Int) (n : ByteArray) (L0 : List Fr) (f : Fr) (F : Nat → Prop) (w : World) (hr : rightB c n = true) (h : St w s (L0 ++ [f]) F) (hl : f.us.length ≤ 1000) (hL : L0.length ≤ 1000) :
    Calls Try.prog 32 #[.pointer (some ⟨s, 0, none⟩), .int .i64 c, .string n] w fun e w' => e = .returned (.int .i64 0) ∧ St w' s (L0 ++ [{ f with us := revU c n f.us }]) (More F w.heap.size w'.heap.size) ∧ Turn F w w' := by
  have HR := Aside0.mk (fun W => right_is c n W)
  rw [hr] at HR
  clear hr
  obtain ⟨fv, D0, v, h1, h2, h3, ⟨g, cap, rfl, hcv, hfv⟩, hc0⟩ := h.top
  have HST := Aside0.mk h1
  have H2 := Aside0.mk h2
  have H3 := Aside0.mk h3
  have hU := h1.units (v, f) (by simp)
  have HU := Aside0.mk hU
  have hpos : (0 : Int) ≤ (L0.length : Int) := by omega
  have hlt : (L0.length : Int) < (L0.length : Int) + 1 := by omega
  have HW := Aside0.mk ((Below.refl w.heap.size w).alloc (Nat.le_refl _) (.cells #[.int .i64 c, .string n] 71 (0, 0)))
  have HN := Aside0.mk (blk_new w (.cells #[.int .i64 c, .string n] 71 (0, 0)))
  have hlt0 : w.heap.size < (w.alloc (.cells #[.int .i64 c, .string n] 71 (0, 0))).heap.size := by simp
  generalize hRV : revU c n f.us = us'
  have HRV := Aside0.mk hRV
  clear h1 h2 h3 hU hRV
  go_enter Try.func32, Try.ntmps32
  go_wp2_with fail
  refine (HR.out _).mono ?_
  rintro e w1 ⟨rfl, hb⟩
  have HB := Aside0.mk (HW.out.trans (hb.mono HW.out.size))
  have HN := Aside0.mk (blk_below HN.out hb)
  have HT0 := Aside0.mk hc0
  have HT1 := Aside0.mk hcv
  clear hb HW
  replace hc0 := pw_cell_below HB.out hc0
  replace hcv := pw_cell_below HB.out hcv
  go_wp2_with fail
  go_quiet (fail)
  go_wp2_with fail
  have HB := Aside0.mk (pw_below_drewN HB.out nq)
  have HN := Aside0.mk (blk_drewN HN.out nq)
  replace hcv : (w1.drewN nq).cell? ⟨g, L0.length * 4, none⟩ = some v := hcv
  clear hc0
  generalize w1.drewN nq = w2 at HB HN hcv ⊢
  refine start_ (n := 7) (S := fun W => W.cell? ⟨g, L0.length * 4, none⟩ = some v ∧ W.heap[w.heap.size]? = some (.cells #[.int .i64 c, .string n] 71 (0, 0)) ∧ Below w.heap.size w W) (ds := [6]) #[false, false, false, false, false, false, false] (by kernel_rfl) rfl rfl ⟨hcv, blk_drew HN.out, Below.drew HB.out⟩ (fun hHeld => ?_)
  generalize w2.drew = w3 at hHeld ⊢
  clear HN HB hcv
  refine pure_ (i := 0) (N := some 31) (v := ?_) (a' := ?_) #[true, false, false, false, false, false, false] rfl rfl (by kernel_rfl) (fun _ _ _ h => h) (Or.inl ⟨by rfl, ?_⟩) ?_ ?_
  rotate_left
  · intro w_
    go_simp
    with_reducible rfl
  rotate_left
  · simp only [Act.put, List.setIfInBounds_toArray, List.set_cons_zero, List.set_cons_succ, i64_w, i32_w]
    rfl
  refine pure_ (i := 1) (N := some 32) (v := ?_) (a' := ?_) #[true, true, false, false, false, false, false] rfl rfl (by kernel_rfl) (fun _ _ _ h => h) (Or.inl ⟨by rfl, ?_⟩) ?_ ?_
  rotate_left
  · intro w_
    go_simp
    with_reducible rfl
  rotate_left
  · simp only [Act.put, List.setIfInBounds_toArray, List.set_cons_zero, List.set_cons_succ, i64_w, i32_w]
    rfl
  refine pure_ (i := 2) (N := some 33) (v := ?_) (a' := ?_) #[true, true, true, false, false, false, false] rfl rfl (by kernel_rfl) (fun _ _ _ h => h) (Or.inl ⟨by rfl, ?_⟩) ?_ ?_
  rotate_left
  · intro w_
    go_simp
    with_reducible rfl
  rotate_left
  · simp only [Act.put, List.setIfInBounds_toArray, List.set_cons_zero, List.set_cons_succ, i64_w, i32_w]
    rfl
  refine take_ (i := 3) (N := some 34) (v := ?_) (a' := ?_) #[true, true, true, true, false, false, false] rfl rfl (by kernel_rfl) (fun _ _ _ h => h) (Or.inl ⟨by rfl, ?_⟩) hHeld ?_ ?_
  rotate_left
  · rintro w_ ⟨s0, _⟩
    go_simp
    with_reducible rfl
  rotate_left
  · simp only [Act.put, List.setIfInBounds_toArray, List.set_cons_zero, List.set_cons_succ, i64_w, i32_w]
    rfl
  refine take_ (i := 4) (N := some 35) (v := ?_) (a' := ?_) #[true, true, true, true, true, false, false] rfl rfl (by kernel_rfl) (fun _ _ _ h => h) (Or.inl ⟨by rfl, ?_⟩) hHeld ?_ ?_
  rotate_left
  · rintro w_ ⟨_, hs_, _⟩
    have s0 := (blk_cell hs_ 0).trans rfl
    have s1 := (blk_cell hs_ 1).trans rfl
    go_simp
    with_reducible rfl
  rotate_left
  · simp only [Act.put, List.setIfInBounds_toArray, List.set_cons_zero, List.set_cons_succ, i64_w, i32_w]
    rfl
  refine one_ (i := 5) (N := some 36) #[true, true, true, true, true, true, false] rfl rfl (by kernel_rfl) (by decide) (fun K' hK => ?_)
  refine goes_ Try.func38 (by kernel_rfl) rfl #[.agg #[v], .agg #[.int .i64 c, .string n]] (by rfl) rfl rfl (by (try simp only [List.map_toArray, List.map_cons, List.map_nil]); first | done | rfl) ?_
  refine (place_is c n f.us v w3 (ownsRow_kept HU.out (fun k hk => hHeld.2.2.block k (HU.out.lt k hk).2)) (by omega)).mono ?_
  rintro e w4 ⟨rfl, hb⟩
  refine ⟨_, rfl, ?_⟩
  refine hK.out _ _ ⟨pw_cell_below hb hHeld.1, blk_below hHeld.2.1 hb, hHeld.2.2.trans (hb.mono hHeld.2.2.size)⟩ (fun hHeld => ?_)
  clear hb hK K'
  refine norm_ (a' := ?_) ?_ ?_
  rotate_left
  · show Act.put _ (some 36) _ = _
    simp only [Act.put, List.setIfInBounds_toArray, List.set_cons_zero, List.set_cons_succ, i64_w, i32_w]
    rfl
  refine pure_ (i := 6) (N := some 9) (v := ?_) (a' := ?_) #[true, true, true, true, true, true, true] rfl rfl (by kernel_rfl) (fun _ _ _ h => h) (Or.inl ⟨by rfl, ?_⟩) ?_ ?_
  rotate_left
  · intro w_
    go_simp
    with_reducible rfl
  rotate_left
  · simp only [Act.put, List.setIfInBounds_toArray, List.set_cons_zero, List.set_cons_succ, i64_w, i32_w]
    rfl
  refine done_ (by kernel_rfl) ?_
  have HCV := Aside0.mk hHeld.1
  have HB := Aside0.mk hHeld.2.2
  clear hHeld
  generalize hq : idxU c n f.us 0 = q
  cases q with
  | none =>
    have hR : revU c n f.us = f.us := by simp [revU, hq]
    have HE := Aside0.mk (St.mono (h.below HB.out) (fun k hk => (.inl hk : More F w.heap.size w4.heap.size k)))
    have HT := Aside0.mk (Turn.of_below (F := F) HB.out)
    have HRE := Aside0.mk (hR.symm.trans HRV.out)
    clear hq hR
    unfold idxI
    go_wp2_with fail
    go_ret
    rw [← HRE.out]
    exact ⟨rfl, HE.out, HT.out⟩
  | some k =>
    have hk := idxU_lt c n f.us 0 k hq
    have hR : revU c n f.us = f.us.take k ++ f.us.drop (k + 1) := by simp [revU, hq]
    have HRE := Aside0.mk (hR.symm.trans HRV.out)
    clear hq hR
    unfold idxI
    dsimp only
    have hk0 : (0 : Int) ≤ (k : Int) := by omega
    obtain ⟨cur0, hcur0⟩ := own_type HST.out.row (show (Value.slice (some ⟨g, 0, none⟩) (L0.length + 1) cap).ownBlock = some g from rfl)
    have HG := Aside0.mk hcur0
    have HVG := HST.out.unit_row (x := (v, f)) (by simp) (show (Value.slice (some ⟨g, 0, none⟩) (L0.length + 1) cap).ownBlock = some g from rfl)
    obtain ⟨gu, cu, rfl, _, _⟩ := HU.out.form (by omega)
    have hcu : f.us.length ≤ cu := by
      rcases HU.out.2 with ⟨hbad, _⟩ | ⟨_, _, _, he, _, _, h1, _⟩
      · cases hbad
      · cases he
        exact h1
    have hk1 : (k : Int) ≤ (cu : Int) := by omega
    have hk2 : (k : Int) + 1 ≤ (f.us.length : Int) := by omega
    have hk3 : (0 : Int) ≤ (k : Int) + 1 := by omega
    have hk4 : (f.us.length : Int) ≤ (cu : Int) := by omega
    have hsum : IntKind.i64.wrap ((k : Int) + 1) = (k : Int) + 1 := by rw [IntKind.wrap_i64]; omega
    have hsum2 : wrap64 ((k : Int) + 1) = (k : Int) + 1 := by unfold wrap64; omega
    clear hcur0
    obtain ⟨ad2, had2, had⟩ : ∃ ad2 : Addr, (if cu = k + 1 then some (⟨gu, 0, none⟩ : Addr) else some (⟨gu, (k + 1) * 3, none⟩ : Addr)) = some ad2 ∧ ∀ j u, (cUs (f.us.drop (k + 1)))[j]? = some u → w.cell? (ad2.add j) = some u := by
      by_cases hce : cu = k + 1
      · refine ⟨_, if_pos hce, fun j u hj => ?_⟩
        rw [List.drop_eq_nil_of_le (by omega)] at hj
        simp [cUs] at hj
      · refine ⟨_, if_neg hce, fun j u hj => ?_⟩
        rw [cUs_drop, List.getElem?_drop] at hj
        rw [Addr.add_lit]
        exact ownsRow_cell HU.out hj
    have HAD := Aside0.mk had
    clear had
    go_wp2_with fail
    refine start_ (n := 22) (S := fun W => W.cell? ⟨g, L0.length * 4, none⟩ = some (.slice (some ⟨gu, 0, none⟩) f.us.length cu) ∧ Below w.heap.size w W) (ds := [21]) #[false, false, false, false, false, false, false, false, false, false, false, false, false, false, false, false, false, false, false, false, false, false] (by kernel_rfl) rfl rfl ⟨HCV.out, Below.drew HB.out⟩ (fun hHeld => ?_)
    generalize w4.drew = w5 at hHeld ⊢
    clear HCV HB
    have hW5 := hHeld.2
    refine pure_ (i := 0) (N := some 39) (v := ?_) (a' := ?_) #[true, false, false, false, false, false, false, false, false, false, false, false, false, false, false, false, false, false, false, false, false, false] rfl rfl (by kernel_rfl) (fun _ _ _ h => h) (Or.inl ⟨by rfl, ?_⟩) ?_ ?_
    rotate_left
    · intro w_
      go_simp
      with_reducible rfl
    rotate_left
    · simp only [Act.put, List.setIfInBounds_toArray, List.set_cons_zero, List.set_cons_succ, i64_w, i32_w]
      rfl
    refine pure_ (i := 1) (N := some 40) (v := ?_) (a' := ?_) #[true, true, false, false, false, false, false, false, false, false, false, false, false, false, false, false, false, false, false, false, false, false] rfl rfl (by kernel_rfl) (fun _ _ _ h => h) (Or.inl ⟨by rfl, ?_⟩) ?_ ?_
    rotate_left
    · intro w_
      go_simp
      with_reducible rfl
    rotate_left
    · simp only [Act.put, List.setIfInBounds_toArray, List.set_cons_zero, List.set_cons_succ, i64_w, i32_w]
      rfl
    refine pure_ (i := 2) (N := some 41) (v := ?_) (a' := ?_) #[true, true, true, false, false, false, false, false, false, false, false, false, false, false, false, false, false, false, false, false, false, false] rfl rfl (by kernel_rfl) (fun _ _ _ h => h) (Or.inl ⟨by rfl, ?_⟩) ?_ ?_
    rotate_left
    · intro w_
      go_simp
      with_reducible rfl
    rotate_left
    · simp only [Act.put, List.setIfInBounds_toArray, List.set_cons_zero, List.set_cons_succ, i64_w, i32_w]
      rfl
    refine pure_ (i := 3) (N := some 42) (v := ?_) (a' := ?_) #[true, true, true, true, false, false, false, false, false, false, false, false, false, false, false, false, false, false, false, false, false, false] rfl rfl (by kernel_rfl) (fun _ _ _ h => h) (Or.inl ⟨by rfl, ?_⟩) ?_ ?_
    rotate_left
    · intro w_
      go_simp
      with_reducible rfl
    rotate_left
    · simp only [Act.put, List.setIfInBounds_toArray, List.set_cons_zero, List.set_cons_succ, i64_w, i32_w]
      rfl
    refine pure_ (i := 4) (N := some 43) (v := ?_) (a' := ?_) #[true, true, true, true, true, false, false, false, false, false, false, false, false, false, false, false, false, false, false, false, false, false] rfl rfl (by kernel_rfl) (fun _ _ _ h => h) (Or.inl ⟨by rfl, ?_⟩) ?_ ?_
    rotate_left
    · intro w_
      go_simp
      with_reducible rfl
    rotate_left
    · simp only [Act.put, List.setIfInBounds_toArray, List.set_cons_zero, List.set_cons_succ, i64_w, i32_w]
      rfl
    refine take_ (i := 5) (N := some 44) (v := ?_) (a' := ?_) #[true, true, true, true, true, true, false, false, false, false, false, false, false, false, false, false, false, false, false, false, false, false] rfl rfl (by kernel_rfl) (fun _ _ _ h => h) (Or.inl ⟨by rfl, ?_⟩) hHeld ?_ ?_
    rotate_left
    · rintro w_ ⟨s0, _⟩
      go_simp
      with_reducible rfl
    rotate_left
    · simp only [Act.put, List.setIfInBounds_toArray, List.set_cons_zero, List.set_cons_succ, i64_w, i32_w]
      rfl
    refine pure_ (i := 6) (N := some 45) (v := ?_) (a' := ?_) #[true, true, true, true, true, true, true, false, false, false, false, false, false, false, false, false, false, false, false, false, false, false] rfl rfl (by kernel_rfl) (fun _ _ _ h => h) (Or.inl ⟨by rfl, ?_⟩) ?_ ?_
    rotate_left
    · intro w_
      go_simp
      with_reducible rfl
    rotate_left
    · simp only [Act.put, List.setIfInBounds_toArray, List.set_cons_zero, List.set_cons_succ, i64_w, i32_w]
      rfl
    refine pure_ (i := 7) (N := some 46) (v := ?_) (a' := ?_) #[true, true, true, true, true, true, true, true, false, false, false, false, false, false, false, false, false, false, false, false, false, false] rfl rfl (by kernel_rfl) (fun _ _ _ h => h) (Or.inl ⟨by rfl, ?_⟩) ?_ ?_
    rotate_left
    · intro w_
      go_simp
      with_reducible rfl
    rotate_left
    · simp only [Act.put, List.setIfInBounds_toArray, List.set_cons_zero, List.set_cons_succ, i64_w, i32_w]
      rfl
    refine pure_ (i := 8) (N := some 47) (v := ?_) (a' := ?_) #[true, true, true, true, true, true, true, true, true, false, false, false, false, false, false, false, false, false, false, false, false, false] rfl rfl (by kernel_rfl) (fun _ _ _ h => h) (Or.inl ⟨by rfl, ?_⟩) ?_ ?_
    rotate_left
    · intro w_
      go_simp
      with_reducible rfl
    rotate_left
    · simp only [Act.put, List.setIfInBounds_toArray, List.set_cons_zero, List.set_cons_succ, i64_w, i32_w]
      rfl
    refine pure_ (i := 9) (N := some 48) (v := ?_) (a' := ?_) #[true, true, true, true, true, true, true, true, true, true, false, false, false, false, false, false, false, false, false, false, false, false] rfl rfl (by kernel_rfl) (fun _ _ _ h => h) (Or.inl ⟨by rfl, ?_⟩) ?_ ?_
    rotate_left
    · intro w_
      go_simp
      with_reducible rfl
    rotate_left
    · simp only [Act.put, List.setIfInBounds_toArray, List.set_cons_zero, List.set_cons_succ, i64_w, i32_w]
      rfl
    refine pure_ (i := 10) (N := some 49) (v := ?_) (a' := ?_) #[true, true, true, true, true, true, true, true, true, true, true, false, false, false, false, false, false, false, false, false, false, false] rfl rfl (by kernel_rfl) (fun _ _ _ h => h) (Or.inl ⟨by rfl, ?_⟩) ?_ ?_
    rotate_left
    · intro w_
      go_simp
      with_reducible rfl
    rotate_left
    · simp only [Act.put, List.setIfInBounds_toArray, List.set_cons_zero, List.set_cons_succ, i64_w, i32_w]
      rfl
    refine pure_ (i := 11) (N := some 50) (v := ?_) (a' := ?_) #[true, true, true, true, true, true, true, true, true, true, true, true, false, false, false, false, false, false, false, false, false, false] rfl rfl (by kernel_rfl) (fun _ _ _ h => h) (Or.inl ⟨by rfl, ?_⟩) ?_ ?_
    rotate_left
    · intro w_
      go_simp
      with_reducible rfl
    rotate_left
    · simp only [Act.put, List.setIfInBounds_toArray, List.set_cons_zero, List.set_cons_succ, i64_w, i32_w]
      rfl
    refine take_ (i := 12) (N := some 51) (v := ?_) (a' := ?_) #[true, true, true, true, true, true, true, true, true, true, true, true, true, false, false, false, false, false, false, false, false, false] rfl rfl (by kernel_rfl) (fun _ _ _ h => h) (Or.inl ⟨by rfl, ?_⟩) hHeld ?_ ?_
    rotate_left
    · rintro w_ ⟨s0, _⟩
      go_simp
      with_reducible rfl
    rotate_left
    · simp only [Act.put, List.setIfInBounds_toArray, List.set_cons_zero, List.set_cons_succ, i64_w, i32_w]
      rfl
    refine pure_ (i := 13) (N := some 52) (v := ?_) (a' := ?_) #[true, true, true, true, true, true, true, true, true, true, true, true, true, true, false, false, false, false, false, false, false, false] rfl rfl (by kernel_rfl) (fun _ _ _ h => h) (Or.inl ⟨by rfl, ?_⟩) ?_ ?_
    rotate_left
    · intro w_
      go_simp
      with_reducible rfl
    rotate_left
    · simp only [Act.put, List.setIfInBounds_toArray, List.set_cons_zero, List.set_cons_succ, i64_w, i32_w]
      rfl
    refine pure_ (i := 14) (N := some 53) (v := ?_) (a' := ?_) #[true, true, true, true, true, true, true, true, true, true, true, true, true, true, true, false, false, false, false, false, false, false] rfl rfl (by kernel_rfl) (fun _ _ _ h => h) (Or.inl ⟨by rfl, ?_⟩) ?_ ?_
    rotate_left
    · intro w_
      go_simp
      with_reducible rfl
    rotate_left
    · simp only [Act.put, List.setIfInBounds_toArray, List.set_cons_zero, List.set_cons_succ, i64_w, i32_w]
      rfl
    refine pure_ (i := 15) (N := some 54) (v := ?_) (a' := ?_) #[true, true, true, true, true, true, true, true, true, true, true, true, true, true, true, true, false, false, false, false, false, false] rfl rfl (by kernel_rfl) (fun _ _ _ h => h) (Or.inl ⟨by rfl, ?_⟩) ?_ ?_
    rotate_left
    · intro w_
      go_simp
      with_reducible rfl
    rotate_left
    · simp only [Act.put, List.setIfInBounds_toArray, List.set_cons_zero, List.set_cons_succ, i64_w, i32_w]
      rfl
    refine one_ (i := 16) (N := some 55) #[true, true, true, true, true, true, true, true, true, true, true, true, true, true, true, true, true, false, false, false, false, false] rfl rfl (by kernel_rfl) (by decide) (fun K' hK => ?_)
    refine value_ (w1 := w5.alloc (.cells #[.slice (some ⟨gu, 0, none⟩) k cu, .slice (some ad2) (f.us.length - (k + 1)) (cu - (k + 1))] 64 (0, 0))) (v := .slice (some ⟨w5.heap.size, 0, none⟩) 2 2) (by rfl) rfl ?_ ?_
    · go_simp
    have HSL := Aside0.mk (blk_new w5 (.cells #[.slice (some ⟨gu, 0, none⟩) k cu, .slice (some ad2) (f.us.length - (k + 1)) (cu - (k + 1))] 64 (0, 0)))
    have hb5 := (Below.refl w5.heap.size w5).alloc (Nat.le_refl _) (.cells #[.slice (some ⟨gu, 0, none⟩) k cu, .slice (some ad2) (f.us.length - (k + 1)) (cu - (k + 1))] 64 (0, 0))
    refine hK.out _ _ ⟨pw_cell_below hb5 hHeld.1, hHeld.2.trans (hb5.mono hHeld.2.size)⟩ (fun hHeld => ?_)
    clear hK K'
    refine norm_ (a' := ?_) ?_ ?_
    rotate_left
    · show Act.put _ (some 55) _ = _
      simp only [Act.put, List.setIfInBounds_toArray, List.set_cons_zero, List.set_cons_succ, i64_w, i32_w]
      rfl
    refine one_ (i := 17) (N := some 56) #[true, true, true, true, true, true, true, true, true, true, true, true, true, true, true, true, true, true, false, false, false, false] rfl rfl (by kernel_rfl) (by decide) (fun K' hK => ?_)
    refine goes_ Try.func53 (by kernel_rfl) rfl #[.slice (some ⟨w5.heap.size, 0, none⟩) 2 2] (by rfl) rfl rfl (by (try simp only [List.map_toArray, List.map_cons, List.map_nil]); first | done | rfl) ?_
    refine (concat_n w5.heap.size ⟨gu, 0, none⟩ ad2 k (f.us.length - (k + 1)) cu (cu - (k + 1)) (f.us.take k) (f.us.drop (k + 1)) us' _ HRE.out (by simp; omega) (by simp) HSL.out ?_ ?_ (by omega)).mono ?_
    · intro j u hj
      rw [cUs_take, List.getElem?_take] at hj
      split at hj
      · rw [add_plain]
        exact pw_cell_below hb5 (pw_cell_below hW5 (ownsRow_cell HU.out hj))
      · cases hj
    · intro j u hj
      exact pw_cell_below hb5 (pw_cell_below hW5 (HAD.out j u hj))
    rintro e w6 ⟨v', rfl, hv', hb⟩
    obtain ⟨p', c', rfl⟩ := ownsRow_slice hv'
    refine ⟨_, rfl, ?_⟩
    refine hK.out _ _ ⟨pw_cell_below hb hHeld.1, hHeld.2.trans (hb.mono hHeld.2.size)⟩ (fun hHeld => ?_)
    clear hK K' HSL hb5
    refine norm_ (a' := ?_) ?_ ?_
    rotate_left
    · show Act.put _ (some 56) _ = _
      simp only [Act.put, List.setIfInBounds_toArray, List.set_cons_zero, List.set_cons_succ, i64_w, i32_w]
      rfl
    refine pure_ (i := 18) (N := some 57) (v := ?_) (a' := ?_) #[true, true, true, true, true, true, true, true, true, true, true, true, true, true, true, true, true, true, true, false, false, false] rfl rfl (by kernel_rfl) (fun _ _ _ h => h) (Or.inl ⟨by rfl, ?_⟩) ?_ ?_
    rotate_left
    · intro w_
      go_simp
      with_reducible rfl
    rotate_left
    · simp only [Act.put, List.setIfInBounds_toArray, List.set_cons_zero, List.set_cons_succ, i64_w, i32_w]
      rfl
    refine pure_ (i := 19) (N := some 58) (v := ?_) (a' := ?_) #[true, true, true, true, true, true, true, true, true, true, true, true, true, true, true, true, true, true, true, true, false, false] rfl rfl (by kernel_rfl) (fun _ _ _ h => h) (Or.inl ⟨by rfl, ?_⟩) ?_ ?_
    rotate_left
    · intro w_
      go_simp
      with_reducible rfl
    rotate_left
    · simp only [Act.put, List.setIfInBounds_toArray, List.set_cons_zero, List.set_cons_succ, i64_w, i32_w]
      rfl
    refine pure_ (i := 20) (N := some 59) (v := ?_) (a' := ?_) #[true, true, true, true, true, true, true, true, true, true, true, true, true, true, true, true, true, true, true, true, true, false] rfl rfl (by kernel_rfl) (fun _ _ _ h => h) (Or.inl ⟨by rfl, ?_⟩) ?_ ?_
    rotate_left
    · intro w_
      go_simp
      with_reducible rfl
    rotate_left
    · simp only [Act.put, List.setIfInBounds_toArray, List.set_cons_zero, List.set_cons_succ, i64_w, i32_w]
      rfl
    refine last_ (i := 21) (N := none) #[true, true, true, true, true, true, true, true, true, true, true, true, true, true, true, true, true, true, true, true, true, true] rfl rfl (by kernel_rfl) (by decide) (fun K' hK => ?_)
    have hc6 := hHeld.1
    have hf6 := blk_frozen ((hHeld.2.block g (blk_lt HG.out)).trans HG.out) (L0.length * 4)
    refine skip_ (w1 := ?_) (by rfl) rfl ?_ ?_
    rotate_left
    · go_simp
      rfl
    refine hK.out _ _ ?_
    clear hK K'
    refine done_ (by kernel_rfl) ?_
    have HFIN := Aside0.mk (St.retop HST.out H2.out H3.out (Turn.of_below hHeld.2) (fun k hk _ => hHeld.2.block k hk) (ownsRow_base hv' (Nat.zero_le _)) (fun k hk => .inr (Nat.le_trans (by rw [World.size_alloc]; exact Nat.le_succ_of_le hW5.size) (hv'.lt k hk).1)))
    clear hHeld hv' hb
    go_wp2_with fail
    go_ret
    exact ⟨rfl, HFIN.out⟩
end Go.Proofs.Ytfahpihbbkkngaa.P

-- from the text Hm
namespace Go.Proofs.Ytfahpihbbkkngaa.P
open Go.RowKit Go.Proofs.YtfahpihbbkkngaaW.PrintWords Go.Proofs.YtfahpihbbkkngaaW.PrintLast Go.Proofs.YtfahpihbbkkngaaW.PrintMore
set_option linter.unusedVariables false
set_option linter.unusedSimpArgs false
theorem St.cut {w : World} {s : Nat} {L : List Fr} {F : Nat → Prop} (h : St w s L F) : St w s L (fun k => F k ∧ k < w.heap.size) := by
  obtain ⟨fv, D, h1, h2, h3⟩ := h
  exact ⟨fv, D, h1, h2, fun k hk => ⟨h3 k hk, h1.foot_lt hk⟩⟩
theorem Turn.mono {F G : Nat → Prop} {a b : World} (h : Turn F a b) (hd : ∀ k, F k → G k) : Turn G a b := ⟨h.os, h.tape, h.output, h.size, fun k hk hn => h.block k hk (fun e => hn (hd k e))⟩
theorem More.mono {F G : Nat → Prop} {n m n' m' : Nat} (hd : ∀ k, F k → G k ∨ (n' ≤ k ∧ k < m')) (h1 : n' ≤ n) (h2 : m ≤ m') (k : Nat) (h : More F n m k) : More G n' m' k := h.elim (hd k) (fun e => .inr ⟨by omega, by omega⟩)
theorem step_append24 {ops : Array Oper} {o : Oper} {a : Act} {K : Act → World → Prop} {Q : Exit → Act → World → Prop} {W : World} {s x : Operand} {fv : Value} {n : Nat} {xs : List Value} {N : Tmp} (g0 : Nat) (v b c : Value) (hw : Region.wanted o (yielded ops a.tmps) = true) (hN : o.dst = some N) (ho : o.op = .call { callee := .builtin .append, args := #[s, x], argTypes := #[64, 64] })
    (hs : a.eval s = fv) (hrow : W.ownsRow 0 24 3 fv n xs) (hx : a.eval x = .slice (some ⟨g0, 0, none⟩) 1 1) (hb : W.heap[g0]? = some (.cells #[v, b, c] 24 (0, 0)))
    (h1 : v.oneCell' = true ∧ b.oneCell' = true ∧ c.oneCell' = true) (hn : n ≤ 1000000)
    (h : ∀ g cap w', w'.ownsRow 0 24 3 (.slice (some ⟨g, 0, none⟩) (n + 1) cap) (n + 1) (xs ++ [v, b, c]) → W.grownBy w' fv.ownBlock → (fv.ownBlock = some g ∨ g = W.heap.size) → g < w'.heap.size → K (a.put (some N) (.slice (some ⟨g, 0, none⟩) (n + 1) cap)) w') : if Region.wanted o (yielded ops a.tmps) = true then Oper.wp Try.prog o a W K Q else K (a.put (some N) undef) W := by
  obtain ⟨i0, hi, hz0, hz1, hz2⟩ := info_parts info24
  rw [if_pos hw]
  refine wp_append_lies W s x 64 ho 0 24 i0 _ 3 32 Try.underlying64 hi hz0 hz1 hz2 rfl (by decide) fv n xs hs hrow ⟨g0, 0, none⟩ 1 1 [v, b, c] hx rfl
    (fun j u hj => by rw [add_plain]; exact (blk_cell hb j).trans (by simpa using hj)) (by simp [h1]) (by decide) (by simp only [maxLen]; omega) (by omega) (Nat.zero_le _) _ rfl ?_
  rw [hN]
  exact h
set_option maxRecDepth 100000 in
set_option maxHeartbeats 8000000 in
theorem on_is (s : Nat) (u : S24) (L0 : List Fr) (f : Fr) (F : Nat → Prop) (w : World) (hr : rightB u.f0 u.f1 = true) (hp : -2 ≤ u.f2) (h : St w s (L0 ++ [f]) F) (hl : f.us.length ≤ 1000) (hL : L0.length ≤ 1000) :
    Calls Try.prog 13 #[.pointer (some ⟨s, 0, none⟩), .agg #[.int .i64 u.f0, .string u.f1, .int .i64 u.f2]] w fun e w' => e = .returned (.int .i64 0) ∧ St w' s (L0 ++ [{ f with us := revU u.f0 u.f1 f.us ++ [u] }]) (More F w.heap.size w'.heap.size) ∧ Turn F w w' := by
  have HR := Aside0.mk (fun W => right_is u.f0 u.f1 W)
  rw [hr] at HR
  have HRV := Aside0.mk (fun W G (hW : St W s (L0 ++ [f]) G) => revert_is s u.f0 u.f1 L0 f G W hr hW hl hL)
  have hrl : (revU u.f0 u.f1 f.us).length ≤ 1000 := by
    unfold revU
    split
    · simp
      omega
    · exact hl
  have hd : decide (u.f2 < -2) = false := decide_eq_false (by omega)
  generalize revU u.f0 u.f1 f.us = us1 at *
  clear hr hp hl
  have hW := Aside0.mk (((Below.refl w.heap.size w).alloc (Nat.le_refl _) (.cells #[.int .i64 u.f0, .string u.f1, .int .i64 u.f2] 24 (0, 0))).alloc (by simp) (.cells #[.int .i64 u.f0, .string u.f1] 71 (0, 0)))
  have HU := Aside0.mk (blk_alloc (blk_new w (.cells #[.int .i64 u.f0, .string u.f1, .int .i64 u.f2] 24 (0, 0))) (.cells #[.int .i64 u.f0, .string u.f1] 71 (0, 0)))
  have HH := Aside0.mk h.cut
  clear h
  go_enter Try.func13, Try.ntmps13
  go_wp2_with fail
  refine (HR.out _).mono ?_
  rintro e w1 ⟨rfl, hb⟩
  have HB := Aside0.mk (hW.out.trans (hb.mono hW.out.size))
  have HU := Aside0.mk (blk_below HU.out hb)
  clear hb hW
  have u0 := (blk_cell HU.out 0).trans rfl
  have u1 := (blk_cell HU.out 1).trans rfl
  have u2 := (blk_cell HU.out 2).trans rfl
  go_wp2_with fail
  refine (HRV.out w1 _ (HH.out.below HB.out)).mono ?_
  rintro e w2 ⟨rfl, hst, ht⟩
  have HU := Aside0.mk ((ht.block _ (blk_lt HU.out) (fun e => by have := e.2; omega)).trans HU.out)
  have HT := Aside0.mk (((Turn.of_below HB.out).trans (ht.mono (fun k hk => .inl hk))).mono (fun k hk => hk.1))
  have HSz := Aside0.mk HB.out.size
  have HT2 := Aside0.mk ht.size
  have HF0 := Aside0.mk (fun k (hk : More (fun k => F k ∧ k < w.heap.size) w1.heap.size w2.heap.size k) => More.mono (G := F) (n' := w.heap.size) (m' := w2.heap.size) (fun k hk => .inl hk.1) HSz.out (Nat.le_refl _) k hk)
  obtain ⟨fv, D0, v, h1, h2, h3, ⟨g, cap, rfl, hcv, hfv⟩, hc0⟩ := hst.top
  clear ht hst u0 u1 u2 HB HRV HR
  have HST := Aside0.mk h1
  have H2 := Aside0.mk h2
  have H3 := Aside0.mk h3
  have hUr := h1.units (v, { f with us := us1 }) (by simp)
  dsimp only at hUr
  have HUR := Aside0.mk hUr
  have hpos : (0 : Int) ≤ (L0.length : Int) := by omega
  have hlt : (L0.length : Int) < (L0.length : Int) + 1 := by omega
  clear h1 h2 h3 hUr
  obtain ⟨cur0, hcur0⟩ := own_type HST.out.row (show (Value.slice (some ⟨g, 0, none⟩) (L0.length + 1) cap).ownBlock = some g from rfl)
  have HG := Aside0.mk hcur0
  have HVG := HST.out.unit_row (x := (v, { f with us := us1 })) (by simp) (show (Value.slice (some ⟨g, 0, none⟩) (L0.length + 1) cap).ownBlock = some g from rfl)
  dsimp only at HVG
  clear hcur0
  go_wp2_with fail
  go_quiet (fail)
  go_wp2_with fail
  have HB := Aside0.mk (pw_below_drewN (Below.refl w2.heap.size w2) nq)
  have HUN := Aside0.mk (blk_drewN HU.out nq)
  replace hcv : (w2.drewN nq).cell? ⟨g, L0.length * 4, none⟩ = some v := hcv
  clear hc0
  generalize w2.drewN nq = w3 at HB HUN hcv ⊢
  refine start_ (n := 13) (S := fun W => W.cell? ⟨g, L0.length * 4, none⟩ = some v ∧ W.heap[w.heap.size]? = some (.cells #[.int .i64 u.f0, .string u.f1, .int .i64 u.f2] 24 (0, 0)) ∧ Below w2.heap.size w2 W) (ds := [8, 12]) #[false, false, false, false, false, false, false, false, false, false, false, false, false] (by kernel_rfl) rfl rfl ⟨hcv, blk_drew HUN.out, Below.drew HB.out⟩ (fun hHeld => ?_)
  generalize w3.drew = w4 at hHeld ⊢
  clear HUN HB hcv
  refine pure_ (i := 0) (N := some 41) (v := ?_) (a' := ?_) #[true, false, false, false, false, false, false, false, false, false, false, false, false] rfl rfl (by kernel_rfl) (fun _ _ _ h => h) (Or.inl ⟨by rfl, ?_⟩) ?_ ?_
  rotate_left
  · intro w_
    go_simp
    with_reducible rfl
  rotate_left
  · simp only [Act.put, List.setIfInBounds_toArray, List.set_cons_zero, List.set_cons_succ, i64_w, i32_w]
    rfl
  refine pure_ (i := 1) (N := some 42) (v := ?_) (a' := ?_) #[true, true, false, false, false, false, false, false, false, false, false, false, false] rfl rfl (by kernel_rfl) (fun _ _ _ h => h) (Or.inl ⟨by rfl, ?_⟩) ?_ ?_
  rotate_left
  · intro w_
    go_simp
    with_reducible rfl
  rotate_left
  · simp only [Act.put, List.setIfInBounds_toArray, List.set_cons_zero, List.set_cons_succ, i64_w, i32_w]
    rfl
  refine pure_ (i := 2) (N := some 43) (v := ?_) (a' := ?_) #[true, true, true, false, false, false, false, false, false, false, false, false, false] rfl rfl (by kernel_rfl) (fun _ _ _ h => h) (Or.inl ⟨by rfl, ?_⟩) ?_ ?_
  rotate_left
  · intro w_
    go_simp
    with_reducible rfl
  rotate_left
  · simp only [Act.put, List.setIfInBounds_toArray, List.set_cons_zero, List.set_cons_succ, i64_w, i32_w]
    rfl
  refine pure_ (i := 3) (N := some 44) (v := ?_) (a' := ?_) #[true, true, true, true, false, false, false, false, false, false, false, false, false] rfl rfl (by kernel_rfl) (fun _ _ _ h => h) (Or.inl ⟨by rfl, ?_⟩) ?_ ?_
  rotate_left
  · intro w_
    go_simp
    with_reducible rfl
  rotate_left
  · simp only [Act.put, List.setIfInBounds_toArray, List.set_cons_zero, List.set_cons_succ, i64_w, i32_w]
    rfl
  refine pure_ (i := 4) (N := some 45) (v := ?_) (a' := ?_) #[true, true, true, true, true, false, false, false, false, false, false, false, false] rfl rfl (by kernel_rfl) (fun _ _ _ h => h) (Or.inl ⟨by rfl, ?_⟩) ?_ ?_
  rotate_left
  · intro w_
    go_simp
    with_reducible rfl
  rotate_left
  · simp only [Act.put, List.setIfInBounds_toArray, List.set_cons_zero, List.set_cons_succ, i64_w, i32_w]
    rfl
  refine take_ (i := 5) (N := some 46) (v := ?_) (a' := ?_) #[true, true, true, true, true, true, false, false, false, false, false, false, false] rfl rfl (by kernel_rfl) (fun _ _ _ h => h) (Or.inl ⟨by rfl, ?_⟩) hHeld ?_ ?_
  rotate_left
  · rintro w_ ⟨s0, _⟩
    go_simp
    with_reducible rfl
  rotate_left
  · simp only [Act.put, List.setIfInBounds_toArray, List.set_cons_zero, List.set_cons_succ, i64_w, i32_w]
    rfl
  refine take_ (i := 6) (N := some 47) (v := ?_) (a' := ?_) #[true, true, true, true, true, true, true, false, false, false, false, false, false] rfl rfl (by kernel_rfl) (fun _ _ _ h => h) (Or.inl ⟨by rfl, ?_⟩) hHeld ?_ ?_
  rotate_left
  · rintro w_ ⟨_, hs_, _⟩
    have s0 := (blk_cell hs_ 0).trans rfl
    have s1 := (blk_cell hs_ 1).trans rfl
    have s2 := (blk_cell hs_ 2).trans rfl
    go_simp
    with_reducible rfl
  rotate_left
  · simp only [Act.put, List.setIfInBounds_toArray, List.set_cons_zero, List.set_cons_succ, i64_w, i32_w]
    rfl
  refine one_ (i := 7) (N := some 48) #[true, true, true, true, true, true, true, true, false, false, false, false, false] rfl rfl (by kernel_rfl) (by decide) (fun K' hK => ?_)
  refine value_ (w1 := w4.alloc (.cells #[.int .i64 u.f0, .string u.f1, .int .i64 u.f2] 24 (0, 0))) (v := .slice (some ⟨w4.heap.size, 0, none⟩) 1 1) (by rfl) rfl ?_ ?_
  · go_simp
  have HN := Aside0.mk (blk_new w4 (.cells #[.int .i64 u.f0, .string u.f1, .int .i64 u.f2] 24 (0, 0)))
  have hb5 := (Below.refl w4.heap.size w4).alloc (Nat.le_refl _) (.cells #[.int .i64 u.f0, .string u.f1, .int .i64 u.f2] 24 (0, 0))
  refine hK.out _ _ ⟨pw_cell_below hb5 hHeld.1, blk_below hHeld.2.1 hb5, hHeld.2.2.trans (hb5.mono hHeld.2.2.size)⟩ (fun hHeld => ?_)
  clear hK K'
  refine norm_ (a' := ?_) ?_ ?_
  rotate_left
  · show Act.put _ (some 48) _ = _
    simp only [Act.put, List.setIfInBounds_toArray, List.set_cons_zero, List.set_cons_succ, i64_w, i32_w]
    rfl
  refine last_ (i := 8) (N := some 49) #[true, true, true, true, true, true, true, true, true, false, false, false, false] rfl rfl (by kernel_rfl) (by decide) (fun K' hK => ?_)
  refine step_append24 w4.heap.size _ _ _ (by rfl) rfl rfl rfl (ownsRow_kept HUR.out (fun k hk => hHeld.2.2.block k (HUR.out.lt k hk).2)) rfl HN.out ⟨rfl, rfl, rfl⟩ (by omega) ?_
  intro g2 cap2 w6 hown hgrow hat hlt2
  refine hK.out _ _ ?_
  clear hK K'
  refine norm_ (a' := ?_) ?_ ?_
  rotate_left
  · show Act.put _ (some 49) _ = _
    simp only [Act.put, List.setIfInBounds_toArray, List.set_cons_zero, List.set_cons_succ, i64_w, i32_w]
    rfl
  refine pure_ (i := 9) (N := some 50) (v := ?_) (a' := ?_) #[true, true, true, true, true, true, true, true, true, true, false, false, false] rfl rfl (by kernel_rfl) (fun _ _ _ h => h) (Or.inl ⟨by rfl, ?_⟩) ?_ ?_
  rotate_left
  · intro w_
    go_simp
    with_reducible rfl
  rotate_left
  · simp only [Act.put, List.setIfInBounds_toArray, List.set_cons_zero, List.set_cons_succ, i64_w, i32_w]
    rfl
  refine pure_ (i := 10) (N := some 51) (v := ?_) (a' := ?_) #[true, true, true, true, true, true, true, true, true, true, true, false, false] rfl rfl (by kernel_rfl) (fun _ _ _ h => h) (Or.inl ⟨by rfl, ?_⟩) ?_ ?_
  rotate_left
  · intro w_
    go_simp
    with_reducible rfl
  rotate_left
  · simp only [Act.put, List.setIfInBounds_toArray, List.set_cons_zero, List.set_cons_succ, i64_w, i32_w]
    rfl
  refine pure_ (i := 11) (N := some 52) (v := ?_) (a' := ?_) #[true, true, true, true, true, true, true, true, true, true, true, true, false] rfl rfl (by kernel_rfl) (fun _ _ _ h => h) (Or.inl ⟨by rfl, ?_⟩) ?_ ?_
  rotate_left
  · intro w_
    go_simp
    with_reducible rfl
  rotate_left
  · simp only [Act.put, List.setIfInBounds_toArray, List.set_cons_zero, List.set_cons_succ, i64_w, i32_w]
    rfl
  have hB5 := hHeld.2.2
  have hg6 := (hgrow.block g (Nat.lt_of_lt_of_le (blk_lt HG.out) hB5.size) (fun e => HVG e.symm)).trans ((hB5.block g (blk_lt HG.out)).trans HG.out)
  have hc6 := (hgrow.cell hHeld.1 (fun e => HVG e.symm))
  have hf6 := blk_frozen hg6 (L0.length * 4)
  refine last_ (i := 12) (N := none) #[true, true, true, true, true, true, true, true, true, true, true, true, true] rfl rfl (by kernel_rfl) (by decide) (fun K' hK => ?_)
  refine skip_ (w1 := ?_) (by rfl) rfl ?_ ?_
  rotate_left
  · go_simp
    rfl
  refine hK.out _ _ ?_
  clear hK K'
  refine done_ (by kernel_rfl) ?_
  have hv6 : w6.ownsRow 0 24 3 (.slice (some ⟨g2, 0, none⟩) (us1.length + 1) cap2) (us1 ++ [u]).length (cUs (us1 ++ [u])) := by
    have e1 : (us1 ++ [u]).length = us1.length + 1 := by simp
    have e2 : cUs (us1 ++ [u]) = cUs us1 ++ [.int .i64 u.f0, .string u.f1, .int .i64 u.f2] := by simp [cUs, cU]
    rw [e1, e2]
    exact hown
  have hat6 : ∀ k, (Value.slice (some ⟨g2, 0, none⟩) (us1.length + 1) cap2).ownBlock = some k → v.ownBlock = some k ∨ w2.heap.size ≤ k := by
    intro k hk
    cases hk
    rcases hat with e | e
    · exact .inl e
    · exact .inr (by rw [e]; exact hB5.size)
  have HFIN := Aside0.mk (St.retop (us' := us1 ++ [u]) HST.out H2.out H3.out (Turn.grown (Turn.of_below hB5) hgrow (fun k hk => .inl (H3.out k (.inr (.inr ⟨_, List.mem_append_right _ (List.mem_singleton.2 rfl), hk⟩))))) (fun k hk hn => (hgrow.block k (Nat.lt_of_lt_of_le hk hB5.size) (fun e => hn e.symm)).trans (hB5.block k hk)) hv6 hat6)
  clear hHeld hown hgrow hat hlt2 hB5 hg6 hc6 hf6 hv6
  go_wp2_with fail
  go_ret
  refine ⟨rfl, HFIN.out.1.mono (fun k hk => ?_), HT.out.trans (HFIN.out.2.mono HF0.out)⟩
  refine More.mono (G := F) (fun k hk => ?_) (Nat.le_trans HSz.out HT2.out) (Nat.le_refl _) k hk
  rcases HF0.out k hk with e | e
  · exact .inl e
  · exact .inr ⟨e.1, Nat.lt_of_lt_of_le e.2 (HFIN.out.2.size)⟩
end Go.Proofs.Ytfahpihbbkkngaa.P

-- from the text Hn
namespace Go.Proofs.Ytfahpihbbkkngaa.P
open Go.RowKit Go.Proofs.YtfahpihbbkkngaaW.PrintWords Go.Proofs.YtfahpihbbkkngaaW.PrintLast Go.Proofs.YtfahpihbbkkngaaW.PrintMore
set_option linter.unusedVariables false
set_option linter.unusedSimpArgs false
attribute [local go_sem high] eqA71
theorem cFs_at (i : Nat) (hi : i < 4) : ∀ (us : List (Value × Fr)) (k : Nat) (u : Value × Fr), us[k]? = some u → (cFs us)[k * 4 + i]? = (cF u)[i]?
  | [], k, u, h => by simp at h
  | x :: us, 0, u, h => by
    simp at h
    subst h
    simp only [cFs, List.flatMap_cons, Nat.zero_mul, Nat.zero_add]
    rw [List.getElem?_append_left (by simpa [cF] using hi)]
  | x :: us, k + 1, u, h => by
    have := cFs_at i hi us k u (by simpa using h)
    simp only [cFs, List.flatMap_cons] at this ⊢
    rw [List.getElem?_append_right (by simp [cF]; omega)]
    have e : (k + 1) * 4 + i - (cF x).length = k * 4 + i := by simp [cF]; omega
    rw [e, this]
/-- Whether a frame runs a unit for a condition and name. -/
def runs (c : Int) (n : ByteArray) (f : Fr) : Bool := f.rc == c && (f.rn.toList == n.toList)
def fromL (c : Int) (n : ByteArray) (m : Int) : List Fr → Int
  | [] => m
  | f :: r => fromL c n (if runs c n f = true then (if f.bl - 1 < m then f.bl - 1 else m) else m) r
theorem fromL_cons (c : Int) (n : ByteArray) (m : Int) (f : Fr) (r : List Fr) : fromL c n m (f :: r) = fromL c n (if runs c n f = true then (if f.bl - 1 < m then f.bl - 1 else m) else m) r := rfl
/-- A frame of the stack. -/
theorem Stk.frame {w : World} {s : Nat} {fv : Value} {D : List (Value × Fr)} (h : Stk w s fv D) {k : Nat} (hk : k < D.length) : ∃ g cap v f, fv = .slice (some ⟨g, 0, none⟩) D.length cap ∧ D.length ≤ cap ∧ D[k]? = some (v, f) ∧
    w.cell? ⟨g, k * 4, none⟩ = some v ∧ w.cell? ⟨g, k * 4 + 1, none⟩ = some (.int .i64 f.rc) ∧ w.cell? ⟨g, k * 4 + 2, none⟩ = some (.string f.rn) ∧ w.cell? ⟨g, k * 4 + 3, none⟩ = some (.int .i64 f.bl) := by
  have hd : D[k]? = some D[k] := List.getElem?_eq_getElem hk
  have hr := h.row
  rcases hr.2 with ⟨_, h0⟩ | ⟨g, cap, cur, rfl, _, _, hc, _⟩
  · omega
  · refine ⟨g, cap, D[k].1, D[k].2, rfl, hc, hd, ?_, ?_, ?_, ?_⟩
    · exact ownsRow_cell hr ((cFs_at 0 (by omega) D k _ hd).trans rfl)
    · exact ownsRow_cell hr ((cFs_at 1 (by omega) D k _ hd).trans rfl)
    · exact ownsRow_cell hr ((cFs_at 2 (by omega) D k _ hd).trans rfl)
    · exact ownsRow_cell hr ((cFs_at 3 (by omega) D k _ hd).trans rfl)
set_option maxRecDepth 100000 in
set_option maxHeartbeats 8000000 in
theorem down_is (s : Nat) (c : Int) (n : ByteArray) (L : List Fr) (F : Nat → Prop) (w : World) (h : St w s L F) (hL : L.length ≤ 1000) (hb : ∀ f ∈ L, 0 ≤ f.bl ∧ f.bl ≤ 1000) :
    Calls Try.prog 37 #[.pointer (some ⟨s, 0, none⟩), .agg #[.int .i64 c, .string n]] w fun e w' => e = .returned (.func (.func 57) #[] #[.pointer (some ⟨w.heap.size + 1 + 1, 0, none⟩), .pointer (some ⟨w.heap.size, 0, none⟩)]) ∧
      w'.heap[w.heap.size]? = some (.cells #[.pointer (some ⟨s, 0, none⟩)] 26 (0, 0)) ∧ w'.heap[w.heap.size + 1 + 1]? = some (.cells #[.int .i64 (fromL c n ((L.length : Int) - 1) L)] 3 (0, 0)) ∧ Below w.heap.size w w' := by
  obtain ⟨fv, D, h1, h2, h3, ⟨p, cap, rfl⟩, hc, hf⟩ := h.open_
  have hD : D.length = L.length := by rw [← h2]; simp
  have HST := Aside0.mk h1
  have H2 := Aside0.mk h2
  have hs := blk_lt h1.head
  have hmf : ∀ (fn : Fn) (first cap : Array Value) (w : World), (Instr.makeFunc fn first cap).run Try.prog w = .ok (.func fn first cap) w := fun _ _ _ _ => rfl
  have hw1 : wrap64 ((L.length : Int) - 1) = (L.length : Int) - 1 := by unfold wrap64; omega
  have hw2 : IntKind.i64.wrap ((L.length : Int) - 1) = (L.length : Int) - 1 := by rw [IntKind.wrap_i64]; omega
  have B0 := Aside0.mk ((Below.refl w.heap.size w).alloc (Nat.le_refl _) (.cells #[.pointer (some ⟨s, 0, none⟩)] 26 (0, 0)))
  have B1 := Aside0.mk (B0.out.alloc B0.out.size (.cells #[.int .i64 c, .string n] 71 (0, 0)))
  have B2 := Aside0.mk (B1.out.alloc B1.out.size (.cells #[.int .i64 ((L.length : Int) - 1)] 3 (0, 0)))
  have hcA := pw_cell_below B1.out hc
  have hcB := pw_cell_below B2.out hc
  have P2 := Aside0.mk (blk_alloc (blk_alloc (blk_new w (.cells #[.pointer (some ⟨s, 0, none⟩)] 26 (0, 0))) (.cells #[.int .i64 c, .string n] 71 (0, 0))) (.cells #[.int .i64 ((L.length : Int) - 1)] 3 (0, 0)))
  have P3 := Aside0.mk (blk_alloc (blk_new (w.alloc (.cells #[.pointer (some ⟨s, 0, none⟩)] 26 (0, 0))) (.cells #[.int .i64 c, .string n] 71 (0, 0))) (.cells #[.int .i64 ((L.length : Int) - 1)] 3 (0, 0)))
  have P5 := Aside0.mk (blk_new ((w.alloc (.cells #[.pointer (some ⟨s, 0, none⟩)] 26 (0, 0))).alloc (.cells #[.int .i64 c, .string n] 71 (0, 0))) (.cells #[.int .i64 ((L.length : Int) - 1)] 3 (0, 0)))
  rw [World.size_alloc] at P3
  rw [World.size_alloc, World.size_alloc] at P5
  clear h1 h2 h3
  go_enter Try.func37, Try.ntmps37
  go_wp2_with fail
  go_loopw [19] (fun q wr => ∃ (k : Nat) (m : Int), k ≤ L.length ∧ q = .int .i64 (k : Int) ∧ Aside0 (fromL c n m (L.drop k) = fromL c n ((L.length : Int) - 1) L) ∧ Aside0 (Below w.heap.size w wr) ∧ Aside0 (wr.heap[w.heap.size]? = some (.cells #[.pointer (some ⟨s, 0, none⟩)] 26 (0, 0))) ∧ Aside0 (wr.heap[w.heap.size + 1]? = some (.cells #[.int .i64 c, .string n] 71 (0, 0))) ∧ Aside0 (wr.heap[w.heap.size + 1 + 1]? = some (.cells #[.int .i64 m] 3 (0, 0)))) (fun q _ => L.length - (intOf q).toNat)
  case atStart => exact ⟨0, (L.length : Int) - 1, Nat.zero_le _, rfl, ⟨rfl⟩, B2, P2, P3, P5⟩
  case round =>
    clear P2 P3 P5 B2 B1 B0 hcA hcB hc hf
    obtain ⟨k, m, hk, rfl, HA, HB, P2, P3, P5⟩ := hrel
    by_cases hlt : k < L.length
    · have hlt' : (k : Int) < (L.length : Int) := by omega
      have h0 : (0 : Int) ≤ (k : Int) := by omega
      obtain ⟨g, cap', v, f, hv, hcp, hdk, x0, x1, x2, x3⟩ := HST.out.frame (k := k) (by omega)
      rw [hD] at hv hcp
      cases hv
      have hvs := HST.out.units (v, f) (List.mem_of_getElem? hdk)
      dsimp only at hvs
      obtain ⟨pv, cv, rfl⟩ := ownsRow_slice hvs
      have hLk : L[k]? = some f := by rw [← H2.out, List.getElem?_map, hdk]; rfl
      have hbf := hb f (List.mem_of_getElem? hLk)
      replace x0 := pw_cell_below HB.out x0
      replace x1 := pw_cell_below HB.out x1
      replace x2 := pw_cell_below HB.out x2
      replace x3 := pw_cell_below HB.out x3
      have HD : L.drop k = f :: L.drop (k + 1) := by
        rw [List.drop_eq_getElem_cons hlt]
        congr 1
        rw [List.getElem?_eq_getElem hlt] at hLk
        exact Option.some.inj hLk
      have hA := HA.out
      rw [HD, fromL_cons] at hA
      have hs1 : wrap64 (f.bl - 1) = f.bl - 1 := by unfold wrap64; omega
      have hs2 : IntKind.i64.wrap (f.bl - 1) = f.bl - 1 := by rw [IntKind.wrap_i64]; omega
      have HBx := Aside0.mk (HB.out.alloc HB.out.size (.cells #[.slice pv f.us.length cv, .int .i64 f.rc, .string f.rn, .int .i64 f.bl] 73 (0, 0)))
      have N7 := Aside0.mk (blk_new wr (.cells #[.slice pv f.us.length cv, .int .i64 f.rc, .string f.rn, .int .i64 f.bl] 73 (0, 0)))
      have N2 := Aside0.mk (blk_alloc P2.out (.cells #[.slice pv f.us.length cv, .int .i64 f.rc, .string f.rn, .int .i64 f.bl] 73 (0, 0)))
      have N3 := Aside0.mk (blk_alloc P3.out (.cells #[.slice pv f.us.length cv, .int .i64 f.rc, .string f.rn, .int .i64 f.bl] 73 (0, 0)))
      have N5 := Aside0.mk (blk_alloc P5.out (.cells #[.slice pv f.us.length cv, .int .i64 f.rc, .string f.rn, .int .i64 f.bl] 73 (0, 0)))
      have y1 := (blk_cell N7.out 1).trans rfl
      have y2 := (blk_cell N7.out 2).trans rfl
      have y3 := (blk_cell N7.out 3).trans rfl
      have z0 := (blk_cell N3.out 0).trans rfl
      have z1 := (blk_cell N3.out 1).trans rfl
      have m0 := (blk_cell N5.out 0).trans rfl
      have mf := blk_frozen N5.out 0
      cases hq : runs c n f with
      | true =>
        rw [if_pos hq] at hA
        replace hA := Aside0.mk hA
        unfold runs at hq
        go_wp2_with fail
        refine ⟨⟨k + 1, _, hlt, rfl, hA, Aside0.mk (HBx.out.setCell (p := ⟨w.heap.size + 1 + 1, 0, none⟩) (by show w.heap.size ≤ w.heap.size + 1 + 1; omega) _), Aside0.mk (blk_far N2.out (p := ⟨w.heap.size + 1 + 1, 0, none⟩) (by show w.heap.size ≠ w.heap.size + 1 + 1; omega) _), Aside0.mk (blk_far N3.out (p := ⟨w.heap.size + 1 + 1, 0, none⟩) (by show w.heap.size + 1 ≠ w.heap.size + 1 + 1; omega) _), Aside0.mk (blk_put N5.out 0 _ rfl)⟩, by simp [intOf]; omega⟩
      | false =>
        rw [if_neg (by simp [hq])] at hA
        replace hA := Aside0.mk hA
        unfold runs at hq
        go_wp2_with fail
        exact ⟨⟨k + 1, _, hlt, rfl, hA, HBx, N2, N3, N5⟩, by simp [intOf]; omega⟩
    · obtain rfl : k = L.length := by omega
      have hA : m = fromL c n ((L.length : Int) - 1) L := by rw [← HA.out]; simp [fromL]
      replace hA := Aside0.mk hA
      go_wp2_with fail
      go_ret
      rw [← hA.out]
      exact ⟨rfl, P2.out, P5.out, HB.out⟩
end Go.Proofs.Ytfahpihbbkkngaa.P

-- from the text Hq
namespace Go.Proofs.Ytfahpihbbkkngaa.P
open Go.RowKit Go.Proofs.YtfahpihbbkkngaaW.PrintWords Go.Proofs.YtfahpihbbkkngaaW.PrintLast Go.Proofs.YtfahpihbbkkngaaW.PrintMore
set_option linter.unusedVariables false
set_option linter.unusedSimpArgs false
theorem step_append73 {ops : Array Oper} {o : Oper} {a : Act} {K : Act → World → Prop} {Q : Exit → Act → World → Prop} {W : World} {s x : Operand} {fv : Value} {n : Nat} {xs : List Value} {N : Tmp} (g0 : Nat) (v b c d : Value) (hw : Region.wanted o (yielded ops a.tmps) = true) (hN : o.dst = some N) (ho : o.op = .call { callee := .builtin .append, args := #[s, x], argTypes := #[74, 74] })
    (hs : a.eval s = fv) (hrow : W.ownsRow 0 73 4 fv n xs) (hx : a.eval x = .slice (some ⟨g0, 0, none⟩) 1 1) (hb : W.heap[g0]? = some (.cells #[v, b, c, d] 73 (0, 0)))
    (h1 : v.oneCell' = true ∧ b.oneCell' = true ∧ c.oneCell' = true ∧ d.oneCell' = true) (hn : n ≤ 1000000)
    (h : ∀ g cap w', w'.ownsRow 0 73 4 (.slice (some ⟨g, 0, none⟩) (n + 1) cap) (n + 1) (xs ++ [v, b, c, d]) → W.grownBy w' fv.ownBlock → (fv.ownBlock = some g ∨ g = W.heap.size) → g < w'.heap.size → K (a.put (some N) (.slice (some ⟨g, 0, none⟩) (n + 1) cap)) w') : if Region.wanted o (yielded ops a.tmps) = true then Oper.wp Try.prog o a W K Q else K (a.put (some N) undef) W := by
  obtain ⟨i0, hi, hz0, hz1, hz2⟩ := info_parts info73
  rw [if_pos hw]
  refine wp_append_lies W s x 74 ho 0 73 i0 _ 4 56 Try.underlying74 hi hz0 hz1 hz2 rfl (by decide) fv n xs hs hrow ⟨g0, 0, none⟩ 1 1 [v, b, c, d] hx rfl
    (fun j u hj => by rw [add_plain]; exact (blk_cell hb j).trans (by simpa using hj)) (by simp [h1]) (by decide) (by simp only [maxLen]; omega) (by omega) (Nat.zero_le _) _ rfl ?_
  rw [hN]
  exact h
set_option maxRecDepth 100000 in
set_option maxHeartbeats 8000000 in
theorem begin_is (s : Nat) (c : Int) (n : ByteArray) (k : Nat) (L : List Fr) (F : Nat → Prop) (w : World) (hr : rightB c n = true) (h : St w s L F) (hk : k < L.length) (hl : L.length < 60) (hu : (L.getD k fr0).us.length ≤ 1000) :
    Calls Try.prog 16 #[.pointer (some ⟨s, 0, none⟩), .int .i64 c, .string n, .int .i64 (k : Int)] w fun e w' => (idxU c n (L.getD k fr0).us 0 = none → e = .returned (.int .i64 8) ∧ Below w.heap.size w w') ∧
      (idxU c n (L.getD k fr0).us 0 ≠ none → e = .returned (.int .i64 0) ∧ St w' s (L ++ [⟨[], c, n, (k : Int)⟩]) (More F w.heap.size w'.heap.size) ∧ Turn F w w') := by
  have HR := Aside0.mk (fun W => right_is c n W)
  rw [hr] at HR
  clear hr
  have h1 := Aside0.mk ((Below.refl w.heap.size w).alloc (Nat.le_refl _) (.cells #[.int .i64 c, .string n] 71 (0, 0)))
  have HN := Aside0.mk (blk_new w (.cells #[.int .i64 c, .string n] 71 (0, 0)))
  obtain ⟨fv, D, i1, i2, i3, _, hc, hf⟩ := h.open_
  have hDL : D.length = L.length := by rw [← i2]; simp
  obtain ⟨g, cap, v, f, rfl, hcap, hdk, y0, y1, y2, y3⟩ := i1.frame (k := k) (by omega)
  have hvr := i1.units (v, f) (List.mem_of_getElem? hdk)
  have hfL : L.getD k fr0 = f := by rw [← i2, List.getD_eq_getElem?_getD, List.getElem?_map, hdk]; rfl
  rw [hfL] at hu ⊢
  dsimp only at hvr
  have HST := Aside0.mk i1
  have H2 := Aside0.mk i2
  have H3 := Aside0.mk i3
  have HVR := Aside0.mk hvr
  have d1 : decide ((k : Int) < 0) = false := decide_eq_false (by omega)
  have d2 : decide ((L.length : Int) ≤ (k : Int)) = false := decide_eq_false (by omega)
  have d3 : decide (60 ≤ (L.length : Int)) = false := decide_eq_false (by omega)
  have k0 : (0 : Int) ≤ (k : Int) := by omega
  have k1 : (k : Int) < (L.length : Int) := by omega
  have HROW := Aside0.mk i1.row
  rw [hDL] at hc HST H3 HROW
  clear i1 i2 i3 h hvr y1 y2 y3
  go_enter Try.func16, Try.ntmps16
  go_wp2_with fail
  refine (HR.out _).mono ?_
  rintro e w1 ⟨rfl, hb⟩
  have HB := Aside0.mk (h1.out.trans (hb.mono h1.out.size))
  have HN := Aside0.mk (blk_below HN.out hb)
  have C0 := Aside0.mk hc
  replace hc := pw_cell_below HB.out hc
  replace y0 := pw_cell_below HB.out y0
  clear hb h1
  go_wp2_with fail
  refine start_ (n := 12) (S := fun W => W.cell? ⟨s, 0, none⟩ = some (.slice (some ⟨g, 0, none⟩) L.length cap) ∧ W.cell? ⟨g, k * 4, none⟩ = some v ∧ W.heap[w.heap.size]? = some (.cells #[.int .i64 c, .string n] 71 (0, 0)) ∧ Below w.heap.size w W) (ds := []) #[false, false, false, false, false, false, false, false, false, false, false, false] (by kernel_rfl) rfl rfl ⟨hc, y0, blk_drew HN.out, Below.drew HB.out⟩ (fun hHeld => ?_)
  generalize w1.drew = w2 at hHeld ⊢
  clear HN HB hc y0
  refine pure_ (i := 0) (N := some 41) (v := ?_) (a' := ?_) #[true, false, false, false, false, false, false, false, false, false, false, false] rfl rfl (by kernel_rfl) (fun _ _ _ h => h) (Or.inl ⟨by rfl, ?_⟩) ?_ ?_
  rotate_left
  · intro w_
    go_simp
    with_reducible rfl
  rotate_left
  · simp only [Act.put, List.setIfInBounds_toArray, List.set_cons_zero, List.set_cons_succ, i64_w, i32_w]
    rfl
  refine pure_ (i := 1) (N := some 42) (v := ?_) (a' := ?_) #[true, true, false, false, false, false, false, false, false, false, false, false] rfl rfl (by kernel_rfl) (fun _ _ _ h => h) (Or.inl ⟨by rfl, ?_⟩) ?_ ?_
  rotate_left
  · intro w_
    go_simp
    with_reducible rfl
  rotate_left
  · simp only [Act.put, List.setIfInBounds_toArray, List.set_cons_zero, List.set_cons_succ, i64_w, i32_w]
    rfl
  refine pure_ (i := 2) (N := some 43) (v := ?_) (a' := ?_) #[true, true, true, false, false, false, false, false, false, false, false, false] rfl rfl (by kernel_rfl) (fun _ _ _ h => h) (Or.inl ⟨by rfl, ?_⟩) ?_ ?_
  rotate_left
  · intro w_
    go_simp
    with_reducible rfl
  rotate_left
  · simp only [Act.put, List.setIfInBounds_toArray, List.set_cons_zero, List.set_cons_succ, i64_w, i32_w]
    rfl
  refine take_ (i := 3) (N := some 44) (v := ?_) (a' := ?_) #[true, true, true, true, false, false, false, false, false, false, false, false] rfl rfl (by kernel_rfl) (fun _ _ _ h => h) (Or.inl ⟨by rfl, ?_⟩) hHeld ?_ ?_
  rotate_left
  · rintro w_ ⟨s0, _⟩
    go_simp
    with_reducible rfl
  rotate_left
  · simp only [Act.put, List.setIfInBounds_toArray, List.set_cons_zero, List.set_cons_succ, i64_w, i32_w]
    rfl
  refine pure_ (i := 4) (N := some 45) (v := ?_) (a' := ?_) #[true, true, true, true, true, false, false, false, false, false, false, false] rfl rfl (by kernel_rfl) (fun _ _ _ h => h) (Or.inl ⟨by rfl, ?_⟩) ?_ ?_
  rotate_left
  · intro w_
    go_simp
    with_reducible rfl
  rotate_left
  · simp only [Act.put, List.setIfInBounds_toArray, List.set_cons_zero, List.set_cons_succ, i64_w, i32_w]
    rfl
  refine pure_ (i := 5) (N := some 46) (v := ?_) (a' := ?_) #[true, true, true, true, true, true, false, false, false, false, false, false] rfl rfl (by kernel_rfl) (fun _ _ _ h => h) (Or.inl ⟨by rfl, ?_⟩) ?_ ?_
  rotate_left
  · intro w_
    go_simp
    with_reducible rfl
  rotate_left
  · simp only [Act.put, List.setIfInBounds_toArray, List.set_cons_zero, List.set_cons_succ, i64_w, i32_w]
    rfl
  refine pure_ (i := 6) (N := some 47) (v := ?_) (a' := ?_) #[true, true, true, true, true, true, true, false, false, false, false, false] rfl rfl (by kernel_rfl) (fun _ _ _ h => h) (Or.inl ⟨by rfl, ?_⟩) ?_ ?_
  rotate_left
  · intro w_
    go_simp
    with_reducible rfl
  rotate_left
  · simp only [Act.put, List.setIfInBounds_toArray, List.set_cons_zero, List.set_cons_succ, i64_w, i32_w]
    rfl
  refine take_ (i := 7) (N := some 48) (v := ?_) (a' := ?_) #[true, true, true, true, true, true, true, true, false, false, false, false] rfl rfl (by kernel_rfl) (fun _ _ _ h => h) (Or.inl ⟨by rfl, ?_⟩) hHeld ?_ ?_
  rotate_left
  · rintro w_ ⟨_, s0, _⟩
    go_simp
    with_reducible rfl
  rotate_left
  · simp only [Act.put, List.setIfInBounds_toArray, List.set_cons_zero, List.set_cons_succ, i64_w, i32_w]
    rfl
  refine take_ (i := 8) (N := some 49) (v := ?_) (a' := ?_) #[true, true, true, true, true, true, true, true, true, false, false, false] rfl rfl (by kernel_rfl) (fun _ _ _ h => h) (Or.inl ⟨by rfl, ?_⟩) hHeld ?_ ?_
  rotate_left
  · rintro w_ ⟨_, _, hs_, _⟩
    have s0 := (blk_cell hs_ 0).trans rfl
    have s1 := (blk_cell hs_ 1).trans rfl
    go_simp
    with_reducible rfl
  rotate_left
  · simp only [Act.put, List.setIfInBounds_toArray, List.set_cons_zero, List.set_cons_succ, i64_w, i32_w]
    rfl
  refine one_ (i := 9) (N := some 50) #[true, true, true, true, true, true, true, true, true, true, false, false] rfl rfl (by kernel_rfl) (by decide) (fun K' hK => ?_)
  refine goes_ Try.func38 (by kernel_rfl) rfl #[.agg #[v], .agg #[.int .i64 c, .string n]] (by rfl) rfl rfl (by (try simp only [List.map_toArray, List.map_cons, List.map_nil]); first | done | rfl) ?_
  refine (place_is c n f.us v w2 (ownsRow_kept HVR.out (fun k hk => hHeld.2.2.2.block k (HVR.out.lt k hk).2)) (by omega)).mono ?_
  rintro e w3 ⟨rfl, hb⟩
  refine ⟨_, rfl, ?_⟩
  refine hK.out _ _ ⟨pw_cell_below hb hHeld.1, pw_cell_below hb hHeld.2.1, blk_below hHeld.2.2.1 hb, hHeld.2.2.2.trans (hb.mono hHeld.2.2.2.size)⟩ (fun hHeld => ?_)
  clear hb hK K'
  refine norm_ (a' := ?_) ?_ ?_
  rotate_left
  · show Act.put _ (some 50) _ = _
    simp only [Act.put, List.setIfInBounds_toArray, List.set_cons_zero, List.set_cons_succ, i64_w, i32_w]
    rfl
  generalize hq : idxU c n f.us 0 = q at hHeld ⊢
  cases q with
  | none =>
    unfold idxI
    dsimp only
    refine pure_ (i := 10) (N := some 51) (v := ?_) (a' := ?_) #[true, true, true, true, true, true, true, true, true, true, true, false] rfl rfl (by kernel_rfl) (fun _ _ _ h => h) (Or.inl ⟨by rfl, ?_⟩) ?_ ?_
    rotate_left
    · intro w_
      go_simp
      with_reducible rfl
    rotate_left
    · simp only [Act.put, List.setIfInBounds_toArray, List.set_cons_zero, List.set_cons_succ, i64_w, i32_w]
      rfl
    refine pure_ (i := 11) (N := some 40) (v := ?_) (a' := ?_) #[true, true, true, true, true, true, true, true, true, true, true, true] rfl rfl (by kernel_rfl) (fun _ _ _ h => h) (Or.inl ⟨by rfl, ?_⟩) ?_ ?_
    rotate_left
    · intro w_
      go_simp
      with_reducible rfl
    rotate_left
    · simp only [Act.put, List.setIfInBounds_toArray, List.set_cons_zero, List.set_cons_succ, i64_w, i32_w]
      rfl
    refine done_ (by kernel_rfl) ?_
    have HQ := Aside0.mk hq
    have HB2 := Aside0.mk hHeld.2.2.2
    clear hq hHeld
    go_wp2_with fail
    go_ret
    exact ⟨fun _ => ⟨rfl, HB2.out⟩, fun e => absurd HQ.out e⟩
  | some i =>
    have i0 : decide ((i : Int) < 0) = false := decide_eq_false (by omega)
    unfold idxI
    dsimp only
    refine pure_ (i := 10) (N := some 51) (v := ?_) (a' := ?_) #[true, true, true, true, true, true, true, true, true, true, true, false] rfl rfl (by kernel_rfl) (fun _ _ _ h => h) (Or.inl ⟨by rfl, ?_⟩) ?_ ?_
    rotate_left
    · intro w_
      go_simp
      with_reducible rfl
    rotate_left
    · simp only [Act.put, List.setIfInBounds_toArray, List.set_cons_zero, List.set_cons_succ, i64_w, i32_w]
      rfl
    refine pure_ (i := 11) (N := some 40) (v := ?_) (a' := ?_) #[true, true, true, true, true, true, true, true, true, true, true, true] rfl rfl (by kernel_rfl) (fun _ _ _ h => h) (Or.inl ⟨by rfl, ?_⟩) ?_ ?_
    rotate_left
    · intro w_
      go_simp
      with_reducible rfl
    rotate_left
    · simp only [Act.put, List.setIfInBounds_toArray, List.set_cons_zero, List.set_cons_succ, i64_w, i32_w]
      rfl
    refine done_ (by kernel_rfl) ?_
    have HQ := Aside0.mk (show idxU c n f.us 0 ≠ none by rw [hq]; simp)
    have hc := hHeld.1
    have HN := Aside0.mk hHeld.2.2.1
    have HB := Aside0.mk hHeld.2.2.2
    clear hq hHeld
    go_wp2_with fail
    refine start_ (n := 13) (S := fun W => W.cell? ⟨s, 0, none⟩ = some (.slice (some ⟨g, 0, none⟩) L.length cap) ∧ W.heap[w.heap.size]? = some (.cells #[.int .i64 c, .string n] 71 (0, 0)) ∧ Below w.heap.size w W) (ds := [9, 12]) #[false, false, false, false, false, false, false, false, false, false, false, false, false] (by kernel_rfl) rfl rfl ⟨hc, blk_drew HN.out, Below.drew HB.out⟩ (fun hHeld => ?_)
    generalize w3.drew = w4 at hHeld ⊢
    clear HN HB hc
    refine pure_ (i := 0) (N := some 52) (v := ?_) (a' := ?_) #[true, false, false, false, false, false, false, false, false, false, false, false, false] rfl rfl (by kernel_rfl) (fun _ _ _ h => h) (Or.inl ⟨by rfl, ?_⟩) ?_ ?_
    rotate_left
    · intro w_
      go_simp
      with_reducible rfl
    rotate_left
    · simp only [Act.put, List.setIfInBounds_toArray, List.set_cons_zero, List.set_cons_succ, i64_w, i32_w]
      rfl
    refine pure_ (i := 1) (N := some 53) (v := ?_) (a' := ?_) #[true, true, false, false, false, false, false, false, false, false, false, false, false] rfl rfl (by kernel_rfl) (fun _ _ _ h => h) (Or.inl ⟨by rfl, ?_⟩) ?_ ?_
    rotate_left
    · intro w_
      go_simp
      with_reducible rfl
    rotate_left
    · simp only [Act.put, List.setIfInBounds_toArray, List.set_cons_zero, List.set_cons_succ, i64_w, i32_w]
      rfl
    refine pure_ (i := 2) (N := some 54) (v := ?_) (a' := ?_) #[true, true, true, false, false, false, false, false, false, false, false, false, false] rfl rfl (by kernel_rfl) (fun _ _ _ h => h) (Or.inl ⟨by rfl, ?_⟩) ?_ ?_
    rotate_left
    · intro w_
      go_simp
      with_reducible rfl
    rotate_left
    · simp only [Act.put, List.setIfInBounds_toArray, List.set_cons_zero, List.set_cons_succ, i64_w, i32_w]
      rfl
    refine pure_ (i := 3) (N := some 55) (v := ?_) (a' := ?_) #[true, true, true, true, false, false, false, false, false, false, false, false, false] rfl rfl (by kernel_rfl) (fun _ _ _ h => h) (Or.inl ⟨by rfl, ?_⟩) ?_ ?_
    rotate_left
    · intro w_
      go_simp
      with_reducible rfl
    rotate_left
    · simp only [Act.put, List.setIfInBounds_toArray, List.set_cons_zero, List.set_cons_succ, i64_w, i32_w]
      rfl
    refine take_ (i := 4) (N := some 56) (v := ?_) (a' := ?_) #[true, true, true, true, true, false, false, false, false, false, false, false, false] rfl rfl (by kernel_rfl) (fun _ _ _ h => h) (Or.inl ⟨by rfl, ?_⟩) hHeld ?_ ?_
    rotate_left
    · rintro w_ ⟨s0, _⟩
      go_simp
      with_reducible rfl
    rotate_left
    · simp only [Act.put, List.setIfInBounds_toArray, List.set_cons_zero, List.set_cons_succ, i64_w, i32_w]
      rfl
    refine take_ (i := 5) (N := some 57) (v := ?_) (a' := ?_) #[true, true, true, true, true, true, false, false, false, false, false, false, false] rfl rfl (by kernel_rfl) (fun _ _ _ h => h) (Or.inl ⟨by rfl, ?_⟩) hHeld ?_ ?_
    rotate_left
    · rintro w_ ⟨_, hs_, _⟩
      have s0 := (blk_cell hs_ 0).trans rfl
      have s1 := (blk_cell hs_ 1).trans rfl
      go_simp
      with_reducible rfl
    rotate_left
    · simp only [Act.put, List.setIfInBounds_toArray, List.set_cons_zero, List.set_cons_succ, i64_w, i32_w]
      rfl
    refine pure_ (i := 6) (N := some 58) (v := ?_) (a' := ?_) #[true, true, true, true, true, true, true, false, false, false, false, false, false] rfl rfl (by kernel_rfl) (fun _ _ _ h => h) (Or.inl ⟨by rfl, ?_⟩) ?_ ?_
    rotate_left
    · intro w_
      go_simp
      with_reducible rfl
    rotate_left
    · simp only [Act.put, List.setIfInBounds_toArray, List.set_cons_zero, List.set_cons_succ, i64_w, i32_w]
      rfl
    refine pure_ (i := 7) (N := some 59) (v := ?_) (a' := ?_) #[true, true, true, true, true, true, true, true, false, false, false, false, false] rfl rfl (by kernel_rfl) (fun _ _ _ h => h) (Or.inl ⟨by rfl, ?_⟩) ?_ ?_
    rotate_left
    · intro w_
      go_simp
      with_reducible rfl
    rotate_left
    · simp only [Act.put, List.setIfInBounds_toArray, List.set_cons_zero, List.set_cons_succ, i64_w, i32_w]
      rfl
    refine one_ (i := 8) (N := some 60) #[true, true, true, true, true, true, true, true, true, false, false, false, false] rfl rfl (by kernel_rfl) (by decide) (fun K' hK => ?_)
    refine value_ (w1 := w4.alloc (.cells #[.slice none 0 0, .int .i64 c, .string n, .int .i64 (k : Int)] 73 (0, 0))) (v := .slice (some ⟨w4.heap.size, 0, none⟩) 1 1) (by rfl) rfl ?_ ?_
    · go_simp
    have HN := Aside0.mk (blk_new w4 (.cells #[.slice none 0 0, .int .i64 c, .string n, .int .i64 (k : Int)] 73 (0, 0)))
    have hb5 := (Below.refl w4.heap.size w4).alloc (Nat.le_refl _) (.cells #[.slice none 0 0, .int .i64 c, .string n, .int .i64 (k : Int)] 73 (0, 0))
    refine hK.out _ _ ⟨pw_cell_below hb5 hHeld.1, blk_below hHeld.2.1 hb5, hHeld.2.2.trans (hb5.mono hHeld.2.2.size)⟩ (fun hHeld => ?_)
    clear hK K'
    refine norm_ (a' := ?_) ?_ ?_
    rotate_left
    · show Act.put _ (some 60) _ = _
      simp only [Act.put, List.setIfInBounds_toArray, List.set_cons_zero, List.set_cons_succ, i64_w, i32_w]
      rfl
    refine last_ (i := 9) (N := some 61) #[true, true, true, true, true, true, true, true, true, true, false, false, false] rfl rfl (by kernel_rfl) (by decide) (fun K' hK => ?_)
    refine step_append73 w4.heap.size _ _ _ _ (by rfl) rfl rfl rfl (ownsRow_kept HROW.out (fun k hk => hHeld.2.2.block k (HROW.out.lt k hk).2)) rfl HN.out ⟨rfl, rfl, rfl, rfl⟩ (by omega) ?_
    intro g2 cap2 w6 hown hgrow hat hlt2
    refine hK.out _ _ ?_
    clear hK K'
    refine norm_ (a' := ?_) ?_ ?_
    rotate_left
    · show Act.put _ (some 61) _ = _
      simp only [Act.put, List.setIfInBounds_toArray, List.set_cons_zero, List.set_cons_succ, i64_w, i32_w]
      rfl
    refine pure_ (i := 10) (N := some 62) (v := ?_) (a' := ?_) #[true, true, true, true, true, true, true, true, true, true, true, false, false] rfl rfl (by kernel_rfl) (fun _ _ _ h => h) (Or.inl ⟨by rfl, ?_⟩) ?_ ?_
    rotate_left
    · intro w_
      go_simp
      with_reducible rfl
    rotate_left
    · simp only [Act.put, List.setIfInBounds_toArray, List.set_cons_zero, List.set_cons_succ, i64_w, i32_w]
      rfl
    refine pure_ (i := 11) (N := some 63) (v := ?_) (a' := ?_) #[true, true, true, true, true, true, true, true, true, true, true, true, false] rfl rfl (by kernel_rfl) (fun _ _ _ h => h) (Or.inl ⟨by rfl, ?_⟩) ?_ ?_
    rotate_left
    · intro w_
      go_simp
      with_reducible rfl
    rotate_left
    · simp only [Act.put, List.setIfInBounds_toArray, List.set_cons_zero, List.set_cons_succ, i64_w, i32_w]
      rfl
    have hB5 := hHeld.2.2
    have hs6 := (hgrow.block s (Nat.lt_of_lt_of_le (blk_lt HST.out.head) hB5.size) (fun e => HST.out.row_ne e.symm)).trans ((hB5.block s (blk_lt HST.out.head)).trans HST.out.head)
    have hc6 := (blk_cell hs6 0).trans rfl
    have hf6 := blk_frozen hs6 0
    refine last_ (i := 12) (N := none) #[true, true, true, true, true, true, true, true, true, true, true, true, true] rfl rfl (by kernel_rfl) (by decide) (fun K' hK => ?_)
    refine skip_ (w1 := ?_) (by rfl) rfl ?_ ?_
    rotate_left
    · go_simp
      rfl
    refine hK.out _ _ ?_
    clear hK K'
    refine done_ (by kernel_rfl) ?_
    have hown2 : w6.ownsRow 0 73 4 (.slice (some ⟨g2, 0, none⟩) (D.length + 1) cap2) (D.length + 1) (cFs D ++ cF (.slice none 0 0, ⟨[], c, n, (k : Int)⟩)) := by
      rw [hDL]
      exact hown
    have hgrow2 : (w4.alloc (.cells #[.slice none 0 0, .int .i64 c, .string n, .int .i64 (k : Int)] 73 (0, 0))).grownBy w6 (Value.slice (some ⟨g, 0, none⟩) L.length cap).ownBlock := hgrow
    have hat2 : (Value.slice (some ⟨g, 0, none⟩) L.length cap).ownBlock = some g2 ∨ g2 = (w4.alloc (.cells #[.slice none 0 0, .int .i64 c, .string n, .int .i64 (k : Int)] 73 (0, 0))).heap.size := hat
    have HFIN := Aside0.mk (St.pushed (f := ⟨[], c, n, (k : Int)⟩) HST.out H2.out H3.out rfl hB5 hown2 hgrow2 hat2 hlt2)
    rw [hDL] at HFIN
    clear hown2 hgrow2 hat2
    clear hHeld hown hgrow hat hlt2 hB5 hs6 hc6 hf6
    go_wp2_with fail
    go_ret
    exact ⟨fun e => absurd e HQ.out, fun _ => ⟨rfl, HFIN.out⟩⟩
end Go.Proofs.Ytfahpihbbkkngaa.P

-- from the text Ho
namespace Go.Proofs.Ytfahpihbbkkngaa.P
open Go.RowKit Go.Shelf Go.Proofs.YtfahpihbbkkngaaW.PrintWords Go.Proofs.YtfahpihbbkkngaaW.PrintLast Go.Proofs.YtfahpihbbkkngaaW.PrintMore
set_option linter.unusedVariables false
set_option linter.unusedSimpArgs false
attribute [local go_sem] Oper.semAt_some
/-- The places below n, the greatest one first. -/
def downTo : Nat → List Nat
  | 0 => []
  | n + 1 => n :: downTo n
theorem downTo_length : ∀ n, (downTo n).length = n
  | 0 => rfl
  | n + 1 => by simp [downTo, downTo_length n]
def frD (D : List (Value × Fr)) (k : Nat) : Value × Fr := D.getD k (.slice none 0 0, fr0)
def encD (D : List (Value × Fr)) (k : Nat) : Array Value := #[.int .i64 (k : Int), .agg #[(frD D k).1, .int .i64 (frD D k).2.rc, .string (frD D k).2.rn, .int .i64 (frD D k).2.bl]]
set_option maxRecDepth 100000 in
set_option maxHeartbeats 4000000 in
theorem down1_in (F : Fence) (n : Nat) (h57 : F.fn 57) (hro : F.round = none) (hn : 1 ≤ n) (l b5 b2 n₀ s N : Nat) (fv : Value) (D : List (Value × Fr)) (J Jx : List Nat → World → Prop)
    (hY : ∀ pre x W, J pre W → pre.length < N → YieldAt F (n - 1) Try.prog l (encD D x) W fun e W' =>
      (e = .returned (.bool true) ∧ J (pre ++ [x]) W' ∧ Below n₀ W W') ∨ (e = .returned (.bool false) ∧ Jx (pre ++ [x]) W'))
    (W : World) (hb5 : W.heap[b5]? = some (.cells #[.int .i64 ((N : Int) - 1)] 3 (0, 0))) (hb2 : W.heap[b2]? = some (.cells #[.pointer (some ⟨s, 0, none⟩)] 26 (0, 0))) (hl5 : b5 < n₀) (hl2 : b2 < n₀)
    (hS : Stk W s fv D) (hlt : ∀ k, foot s fv D k → k < n₀) (hN : N ≤ D.length) (hD : D.length ≤ 1000) (h0 : J [] W) :
    CallsIn F n Try.prog 57 #[.func (.yield l) #[] #[], .pointer (some ⟨b5, 0, none⟩), .pointer (some ⟨b2, 0, none⟩)] W fun e W' => (∃ v, e = .returned v) ∧
      ((∃ ys, ys = downTo N ∧ J ys W') ∨ (∃ pre, pre <+: downTo N ∧ Jx pre W')) := by
  refine callsIn_of_wp Try.func57 rfl h57 ?_ hro
  simp only [Try.ntmps57, List.size_toArray, List.length_cons, List.length_nil, Nat.reduceAdd, Nat.reduceSub, Array.replicate_succ, Array.replicate_zero, List.push_toArray, List.append_toArray, List.nil_append, List.cons_append]
  have q5 := (blk_cell hb5 0).trans rfl
  gi_wp2
  gi_loopw [4] (fun i wr => ∃ (j : Nat) (pre : List Nat), i = .int .i64 ((j : Int) - 1) ∧ pre ++ downTo j = downTo N ∧ J pre wr ∧ Below n₀ W wr)
    (fun i _ => (intOf i + 1).toNat)
  case atStart => exact ⟨N, [], rfl, by simp, h0, Below.refl _ _⟩
  case round =>
    obtain ⟨j, pre, rfl, hp, hJs, hnx⟩ := hrel
    have hlen : pre.length + j = N := by
      have := congrArg List.length hp
      rw [List.length_append, downTo_length, downTo_length] at this
      exact this
    cases j with
    | zero =>
      rw [show ((0 : Nat) : Int) - 1 = -1 from rfl]
      have hpre : pre = downTo N := by rw [← hp]; simp [downTo]
      gi_wp2
      go_end0
      exact ⟨⟨_, rfl⟩, .inl ⟨pre, hpre, hJs⟩⟩
    | succ j =>
      rw [show ((j + 1 : Nat) : Int) - 1 = (j : Int) by omega]
      have hSw := hS.kept (fun k hk => hnx.block k (hlt k hk))
      have hh := (blk_cell hSw.head 0).trans rfl
      obtain ⟨g, cap, v, f, rfl, hcap, hdj, x0, x1, x2, x3⟩ := hSw.frame (k := j) (by omega)
      have hx : frD D j = (v, f) := by unfold frD; rw [List.getD_eq_getElem?_getD, hdj]; rfl
      obtain ⟨fn, tmps, assign, body, hy, hR⟩ := hY pre j wr hJs (by omega)
      simp only [encD, hx] at hy hR
      have r2 := (blk_cell ((hnx.block b2 hl2).trans hb2) 0).trans rfl
      have j0 : (0 : Int) ≤ (j : Int) := by omega
      have j1 : (j : Int) < (D.length : Int) := by omega
      have jm : IntKind.i64.wrap ((j : Int) - 1) = (j : Int) - 1 := by rw [IntKind.wrap_i64]; omega
      have jw : wrap64 ((j : Int) - 1) = (j : Int) - 1 := by unfold wrap64; omega
      have hp2 : (pre ++ [j]) ++ downTo j = downTo N := by
        rw [← hp]
        simp only [downTo, List.append_assoc, List.singleton_append]
      gi_wp2
      refine hR.mono ?_
      rintro e W3 (⟨rfl, hJ3, hk3⟩ | ⟨rfl, hJx3⟩)
      · gi_wp2
        go_roundw
        case rel => exact ⟨j, pre ++ [j], rfl, hp2, hJ3, hnx.trans hk3⟩
        case measure => simp [intOf]
      · gi_wp2
        refine bodyPost_ret (results_none rfl _ _ _) rfl ?_
        exact ⟨⟨_, rfl⟩, .inr ⟨_, ⟨downTo j, hp2⟩, hJx3⟩⟩
/-- What the iterator tells. -/
theorem down_stops (F : Fence) (n : Nat) (h57 : F.fn 57) (hro : F.round = none) (hn : 1 ≤ n) (b5 b2 s N : Nat) (fv : Value) (D : List (Value × Fr)) (w : World) (hb5 : w.heap[b5]? = some (.cells #[.int .i64 ((N : Int) - 1)] 3 (0, 0))) (hb2 : w.heap[b2]? = some (.cells #[.pointer (some ⟨s, 0, none⟩)] 26 (0, 0)))
    (hS : Stk w s fv D) (hN : N ≤ D.length) (hD : D.length ≤ 1000) :
    SeqStopsK F n Try.prog 57 #[.pointer (some ⟨b5, 0, none⟩), .pointer (some ⟨b2, 0, none⟩)] (encD D) (Below w.heap.size) (fun ys => ys = downTo N) (fun pre => pre <+: downTo N) N w := fun l J Jx W hW _ _ hY h0 =>
  down1_in F n h57 hro hn l b5 b2 w.heap.size s N fv D J Jx hY W (blk_below hb5 hW) (blk_below hb2 hW) (blk_lt hb5) (blk_lt hb2) (hS.kept (fun k hk => hW.block k (hS.foot_lt hk))) (fun k hk => hS.foot_lt hk) hN hD h0
end Go.Proofs.Ytfahpihbbkkngaa.P

-- from the text Hp
namespace Go.Proofs.Ytfahpihbbkkngaa.P
open Go.RowKit Go.Shelf Go.Proofs.YtfahpihbbkkngaaW.PrintWords Go.Proofs.YtfahpihbbkkngaaW.PrintLast Go.Proofs.YtfahpihbbkkngaaW.PrintMore
set_option linter.unusedVariables false
set_option linter.unusedSimpArgs false
attribute [local go_sem] Oper.semAt_some
theorem fromL_bounds (c : Int) (n : ByteArray) : ∀ (L : List Fr) (m : Int), -1 ≤ m → (∀ f ∈ L, 0 ≤ f.bl ∧ f.bl ≤ 1000) → -1 ≤ fromL c n m L ∧ fromL c n m L ≤ m
  | [], m, h, _ => ⟨h, Int.le_refl _⟩
  | f :: r, m, h, hb => by
    have hf := hb f (by simp)
    have ih := fromL_bounds c n r (if runs c n f = true then (if f.bl - 1 < m then f.bl - 1 else m) else m) (by split <;> (try split) <;> omega) (fun g hg => hb g (by simp [hg]))
    rw [fromL_cons]
    refine ⟨ih.1, Int.le_trans ih.2 ?_⟩
    split <;> (try split) <;> omega
/-- The first frame from the n-th one down that has a unit for a condition and name. -/
def findL (c : Int) (n : ByteArray) (L : List Fr) : Nat → Option (Nat × S24)
  | 0 => none
  | k + 1 => match idxU c n (L.getD k fr0).us 0 with
    | some i => some (k, ((L.getD k fr0).us[i]?).getD z24)
    | none => findL c n L k
def miss (c : Int) (n : ByteArray) (L : List Fr) (k : Nat) : Prop := idxU c n (L.getD k fr0).us 0 = none
def found (c : Int) (n : ByteArray) (L : List Fr) (k : Nat) (u : S24) : Prop := ∃ i, idxU c n (L.getD k fr0).us 0 = some i ∧ (L.getD k fr0).us[i]? = some u
theorem find_none (c : Int) (n : ByteArray) (L : List Fr) : ∀ N, (∀ x ∈ downTo N, miss c n L x) → findL c n L N = none
  | 0, _ => rfl
  | N + 1, h => by
    have h0 : miss c n L N := h N (by simp [downTo])
    unfold miss at h0
    simp only [findL, h0]
    exact find_none c n L N (fun x hx => h x (by simp [downTo, hx]))
theorem find_some (c : Int) (n : ByteArray) (L : List Fr) (k : Nat) (u : S24) (hf : found c n L k u) : ∀ (N : Nat) (pre : List Nat), pre ++ [k] <+: downTo N → (∀ x ∈ pre, miss c n L x) → findL c n L N = some (k, u)
  | 0, pre, h, _ => by
    have := h.length_le
    simp [downTo] at this
  | N + 1, [], h, _ => by
    obtain ⟨t, ht⟩ := h
    simp only [downTo, List.nil_append, List.singleton_append, List.cons.injEq] at ht
    obtain ⟨rfl, _⟩ := ht
    obtain ⟨i, h1, h2⟩ := hf
    simp only [findL, h1, h2, Option.getD_some]
  | N + 1, x :: pre, h, hm => by
    obtain ⟨t, ht⟩ := h
    simp only [downTo, List.cons_append, List.cons.injEq] at ht
    obtain ⟨rfl, ht⟩ := ht
    have h0 : miss c n L x := hm x (by simp)
    unfold miss at h0
    simp only [findL, h0]
    exact find_some c n L k u hf x pre ⟨t, ht⟩ (fun y hy => hm y (by simp [hy]))
theorem own_blk {A B : World} {row : Option Nat} {n : Nat} (hg : A.grownBy B row) (hr : ∀ r, row = some r → n ≤ r ∧ ∃ o : Obj, A.heap[r]? = some o ∧ o.isCells = false) {b : Nat} {cs : Array Value} {t : TypeId} {fr : Nat × Nat} (h : A.heap[b]? = some (.cells cs t fr)) : B.heap[b]? = some (.cells cs t fr) :=
  (hg.block b (blk_lt h) (fun e => by obtain ⟨_, o, ho, hc⟩ := hr b e.symm; rw [h] at ho; cases ho; cases hc)).trans h
theorem keepsFrom_of {B : Nat} {W W' : World} (h : Below W.heap.size W W') : KeepsFrom B W W' := ⟨h.size, fun k o _ hk _ => blk_below hk h⟩
theorem frD_snd (D : List (Value × Fr)) (k : Nat) : (frD D k).2 = (D.map Prod.snd).getD k fr0 := by
  unfold frD
  rw [List.getD_eq_getElem?_getD, List.getD_eq_getElem?_getD, List.getElem?_map]
  cases D[k]? <;> rfl
/-- What lies in a frame's place. -/
theorem Stk.frD_row {w : World} {s : Nat} {fv : Value} {D : List (Value × Fr)} (h : Stk w s fv D) (k : Nat) : w.ownsRow 0 24 3 (frD D k).1 (frD D k).2.us.length (cUs (frD D k).2.us) := by
  unfold frD
  rw [List.getD_eq_getElem?_getD]
  cases hk : D[k]? with
  | none => exact World.ownsRow_nil _ _ _ _
  | some x => exact h.units x (List.mem_of_getElem? hk)
def meetV : Option (Nat × S24) → Value
  | some (k, u) => .tuple #[.agg #[.int .i64 u.f0, .string u.f1, .int .i64 u.f2], .int .i64 (k : Int), .int .i64 0]
  | none => .tuple #[.agg #[.int .i64 0, .string ⟨#[]⟩, .int .i64 0], .int .i64 0, .int .i64 8]
set_option maxRecDepth 100000 in
set_option maxHeartbeats 8000000 in
theorem meet_is (s : Nat) (c : Int) (n : ByteArray) (L : List Fr) (F : Nat → Prop) (w : World) (hr : rightB c n = true) (h : St w s L F) (hL : L.length ≤ 1000) (hb : ∀ f ∈ L, 0 ≤ f.bl ∧ f.bl ≤ 1000) (hu : ∀ f ∈ L, f.us.length ≤ 1000) :
    Calls Try.prog 14 #[.pointer (some ⟨s, 0, none⟩), .int .i64 c, .string n] w fun e w' => e = .returned (meetV (findL c n L (fromL c n ((L.length : Int) - 1) L + 1).toNat)) ∧ Below w.heap.size w w' := by
  have HR := Aside0.mk (fun W => right_is c n W)
  rw [hr] at HR
  have HD := Aside0.mk (fun W (hW : St W s L F) => down_is s c n L F W hW hL hb)
  clear hr
  have A1 := Aside0.mk ((Below.refl w.heap.size w).alloc (Nat.le_refl _) (.cells #[.int .i64 0, .string ⟨#[]⟩, .int .i64 0] 24 (0, 0)))
  have A2 := Aside0.mk (A1.out.alloc A1.out.size (.cells #[.int .i64 0] 3 (0, 0)))
  have A3 := Aside0.mk (A2.out.alloc A2.out.size (.cells #[.int .i64 0] 30 (0, 0)))
  have A4 := Aside0.mk (A3.out.alloc A3.out.size (.cells #[.int .i64 c, .string n] 71 (0, 0)))
  have R6 := Aside0.mk (blk_alloc (blk_alloc (blk_alloc (blk_new w (.cells #[.int .i64 0, .string ⟨#[]⟩, .int .i64 0] 24 (0, 0))) (.cells #[.int .i64 0] 3 (0, 0))) (.cells #[.int .i64 0] 30 (0, 0))) (.cells #[.int .i64 c, .string n] 71 (0, 0)))
  have R7 := Aside0.mk (blk_alloc (blk_alloc (blk_new (w.alloc (.cells #[.int .i64 0, .string ⟨#[]⟩, .int .i64 0] 24 (0, 0))) (.cells #[.int .i64 0] 3 (0, 0))) (.cells #[.int .i64 0] 30 (0, 0))) (.cells #[.int .i64 c, .string n] 71 (0, 0)))
  have R8 := Aside0.mk (blk_alloc (blk_new ((w.alloc (.cells #[.int .i64 0, .string ⟨#[]⟩, .int .i64 0] 24 (0, 0))).alloc (.cells #[.int .i64 0] 3 (0, 0))) (.cells #[.int .i64 0] 30 (0, 0))) (.cells #[.int .i64 c, .string n] 71 (0, 0)))
  have R9 := Aside0.mk (blk_new (((w.alloc (.cells #[.int .i64 0, .string ⟨#[]⟩, .int .i64 0] 24 (0, 0))).alloc (.cells #[.int .i64 0] 3 (0, 0))).alloc (.cells #[.int .i64 0] 30 (0, 0))) (.cells #[.int .i64 c, .string n] 71 (0, 0)))
  simp only [World.size_alloc] at R7 R8 R9
  have hfb := fromL_bounds c n L ((L.length : Int) - 1) (by omega) hb
  obtain ⟨N, hN⟩ : ∃ N : Nat, fromL c n ((L.length : Int) - 1) L = (N : Int) - 1 := ⟨(fromL c n ((L.length : Int) - 1) L + 1).toNat, by omega⟩
  have hN2 : N ≤ L.length := by omega
  have hN3 : (fromL c n ((L.length : Int) - 1) L + 1).toNat = N := by omega
  rw [hN3]
  rw [hN] at HD
  clear hfb hN3 hN
  have HH := Aside0.mk h
  clear h A1 A2 A3
  refine (callsIn_wide (n := 9)).1 ?_
  refine callsIn_of_wp_marks Try.func14 rfl trivial ?_ rfl
  simp only [Try.ntmps14, List.size_toArray, List.length_cons, List.length_nil, Nat.reduceAdd, Nat.reduceSub, Array.replicate_succ, Array.replicate_zero, List.push_toArray, List.append_toArray, List.nil_append, List.cons_append]
  gi_wp2_with (first | (refine ⟨trivial, ?_⟩; gi_at_call 36; refine (callsIn_wide.2 (HR.out _)).mono ?_; rintro e w1 ⟨rfl, hb1⟩; have B1 := Aside0.mk (A4.out.trans (hb1.mono A4.out.size)); have S6 := Aside0.mk (blk_below R6.out hb1); have S7 := Aside0.mk (blk_below R7.out hb1); have S8 := Aside0.mk (blk_below R8.out hb1); have S9 := Aside0.mk (blk_below R9.out hb1); clear hb1; have s90 := (blk_cell S9.out 0).trans rfl; have s91 := (blk_cell S9.out 1).trans rfl) | (refine ⟨trivial, ?_⟩; gi_at_call 37; refine (callsIn_wide.2 (HD.out _ (HH.out.below B1.out))).mono ?_; rintro e w2 ⟨rfl, hx2, hx5, hb2⟩; have T6 := Aside0.mk (blk_below S6.out hb2); have T7 := Aside0.mk (blk_below S7.out hb2); have T8 := Aside0.mk (blk_below S8.out hb2); have T9 := Aside0.mk (blk_below S9.out hb2); have B2 := Aside0.mk (B1.out.trans (hb2.mono B1.out.size)); have X2 := Aside0.mk hx2; have X5 := Aside0.mk hx5; clear hx2 hx5 hb2 s90 s91))
  clear HR HD R6 R7 R8 R9 S6 S7 S8 S9
  obtain ⟨fv, D, h1, h2, h3⟩ := (HH.out.below B2.out)
  have hDL : D.length = L.length := by rw [← h2]; simp
  have hfd : ∀ k, (frD D k).2 = L.getD k fr0 := fun k => by rw [frD_snd, h2]
  have hsz2 : w.heap.size ≤ w2.heap.size := B2.out.size
  have hl6 := blk_lt T6.out
  have hl9 := blk_lt T9.out
  refine wpIn_rangeFunc_ownH rfl (by omega) (gf := 57) (lb := #[.pointer (some ⟨w1.heap.size + 1 + 1, 0, none⟩), .pointer (some ⟨w1.heap.size, 0, none⟩)]) rfl trivial (enters_of Try.func57 (by kernel_rfl) rfl)
    (down_stops Fence.wide (9 - 1) trivial rfl (by omega) (w1.heap.size + 1 + 1) w1.heap.size s N fv D w2 X5.out X2.out h1 (by omega) (by omega)) belowK_t (belowK_b (Nat.le_refl _)) (Below.refl _ _) (fun _ => rfl)
    (fun pre W => (∀ x ∈ pre, miss c n L x) ∧ Below w2.heap.size w2 W)
    (fun cd pre W => (cd = .ret ∧ ∃ pre0 k u, pre = pre0 ++ [k] ∧ (∀ x ∈ pre0, miss c n L x) ∧ found c n L k u ∧ W.heap[w.heap.size]? = some (.cells #[.int .i64 u.f0, .string u.f1, .int .i64 u.f2] 24 (0, 0)) ∧ W.heap[w.heap.size + 1]? = some (.cells #[.int .i64 (k : Int)] 3 (0, 0)) ∧ W.heap[w.heap.size + 1 + 1]? = some (.cells #[.int .i64 0] 30 (0, 0))) ∧ Below w.heap.size w W)
    (OwnFrom.and (ownFrom_pure _ _) (ownFrom_below (Nat.le_refl _) (Nat.le_refl _)))
    (fun cd => OwnFrom.and (fun s A B row hs hg hr => by
      obtain ⟨hcd, pre0, k, u, e1, e2, e3, e4, e5, e6⟩ := hs
      exact ⟨hcd, pre0, k, u, e1, e2, e3, own_blk hg hr e4, own_blk hg hr e5, own_blk hg hr e6⟩) (ownFrom_below (Nat.le_refl _) hsz2))
    ⟨by simp, Below.refl _ _⟩
    (fun x a' W => ∃ Bx, w2.heap.size ≤ Bx ∧ W.heap[Bx]? = some (.cells #[(frD D x).1, .int .i64 (frD D x).2.rc, .string (frD D x).2.rn, .int .i64 (frD D x).2.bl] 73 (0, 0)) ∧ a' = { tmps := #[.pointer (some ⟨s, 0, none⟩), .int .i64 c, .string n, undef, undef, undef, .pointer (some ⟨w.heap.size, 0, none⟩), .pointer (some ⟨w.heap.size + 1, 0, none⟩), .pointer (some ⟨w.heap.size + 1 + 1, 0, none⟩), .pointer (some ⟨w.heap.size + 1 + 1 + 1, 0, none⟩), .int .i64 (x : Int), .pointer (some ⟨Bx, 0, none⟩), undef, .int .i64 c, .string n, .agg #[.int .i64 c, .string n], .pointer (some ⟨s, 0, none⟩), .bool false, .bool false, .agg #[.int .i64 c, .string n], .bool true, .bool false, .bool false, undef, .pointer (some ⟨s, 0, none⟩), .agg #[.int .i64 c, .string n], .func (.func 57) #[] #[.pointer (some ⟨w1.heap.size + 1 + 1, 0, none⟩), .pointer (some ⟨w1.heap.size, 0, none⟩)], .int .i64 (x : Int), .agg #[(frD D x).1, .int .i64 (frD D x).2.rc, .string (frD D x).2.rn, .int .i64 (frD D x).2.bl], undef, undef, undef, undef, undef, undef, undef, undef, undef, undef, undef, undef, undef, undef], defers := [] })
    (fun x a' s A B row hs hg hr => by
      obtain ⟨Bx, e1, e2, e3⟩ := hs
      exact ⟨Bx, e1, own_blk hg hr e2, e3⟩)
    ?assign ?body ?done ?stop
  case assign =>
    rintro l pre x W K ⟨hm, hB⟩ hK
    obtain ⟨pv, cv, hpv⟩ := ownsRow_slice (h1.frD_row x)
    unfold encD
    generalize frD D x = y at hpv hK ⊢
    obtain ⟨v, f⟩ := y
    dsimp only at hpv hK ⊢
    subst hpv
    gi_wp2
    exact hK _ _ ((KeepsOthers.alloc _ _).from _) ((Below.refl _ W).alloc hB.size _) ⟨hm, hB.alloc hB.size _⟩ ⟨W.heap.size, hB.size, blk_new _ _, rfl⟩
  case body =>
    rintro l pre x a' W hl ⟨r, hr⟩ ⟨hm, hB⟩ ⟨Bx, hBx, bX, rfl⟩ hlt
    have hrow := ownsRow_kept (h1.frD_row x) (fun k hk => hB.block k ((h1.frD_row x).lt k hk).2)
    have hul : (frD D x).2.us.length ≤ 1000 := by
      rw [hfd, List.getD_eq_getElem?_getD]
      cases hk : L[x]? with
      | none => simp [fr0]
      | some f => exact hu f (List.mem_of_getElem? hk)
    have hfx := hfd x
    have hb9 := blk_below T9.out hB
    have n0 := (blk_cell hb9 0).trans rfl
    have n1 := (blk_cell hb9 1).trans rfl
    have x0 := (blk_cell bX 0).trans rfl
    generalize frD D x = y at *
    obtain ⟨v, f⟩ := y
    dsimp only at hrow hul hfx bX x0 ⊢
    have HR := Aside0.mk hrow
    have HX := Aside0.mk bX
    have HM := Aside0.mk hm
    have HBW := Aside0.mk hB
    have hPL := Aside0.mk (place_is c n f.us v W hrow (by omega))
    have hF := Aside0.mk hfx
    clear hrow bX hm hB hfx
    cases hq : idxU c n f.us 0 with
    | none =>
      rw [hq] at hPL
      have HQ := Aside0.mk hq
      clear hq
      gi_wp2_with (refine ⟨trivial, ?_⟩; gi_at_call 38; refine (CallsIn.inRound l (callsIn_wide.2 hPL.out)).mono ?_; rintro e w3 ⟨rfl, hb3⟩)
      refine ⟨keepsFrom_of hb3, hb3.mono HBW.out.size, fun x' hx' => ?_, HBW.out.trans (hb3.mono HBW.out.size)⟩
      rcases List.mem_append.1 hx' with hx' | hx'
      · exact HM.out x' hx'
      · simp only [List.mem_singleton] at hx'
        subst hx'
        unfold miss
        rw [← hF.out]
        exact HQ.out
    | some i =>
      rw [hq] at hPL
      have hi := (idxU_lt c n f.us 0 i hq).2
      rw [Nat.zero_add] at hi
      have HQ := Aside0.mk hq
      clear hq
      obtain ⟨u, huu⟩ : ∃ u, f.us[i]? = some u := ⟨_, List.getElem?_eq_getElem hi⟩
      obtain ⟨gu, cu, rfl, _, _⟩ := HR.out.form (by omega)
      have hi0 : (0 : Int) ≤ (i : Int) := by omega
      have hi1 : (i : Int) < (f.us.length : Int) := by omega
      unfold idxI at hPL
      gi_wp2_with (refine ⟨trivial, ?_⟩; gi_at_call 38; refine (CallsIn.inRound l (callsIn_wide.2 hPL.out)).mono ?_; rintro e w3 ⟨rfl, hb3⟩; have y0 := (blk_cell (blk_below HX.out hb3) 0).trans rfl; have c0 := pw_cell_below hb3 (ownsRow_cell HR.out ((cUs_at 0 (by omega) f.us i u huu).trans rfl)); have c1 := pw_cell_below hb3 (ownsRow_cell HR.out ((cUs_at 1 (by omega) f.us i u huu).trans rfl)); have c2 := pw_cell_below hb3 (ownsRow_cell HR.out ((cUs_at 2 (by omega) f.us i u huu).trans rfl)); rw [Nat.add_zero] at c0; have Q6 := Aside0.mk (blk_below (blk_below T6.out HBW.out) hb3); have Q7 := Aside0.mk (blk_below (blk_below T7.out HBW.out) hb3); have Q8 := Aside0.mk (blk_below (blk_below T8.out HBW.out) hb3); have q60 := (blk_cell Q6.out 0).trans rfl; have q61 := (blk_cell Q6.out 1).trans rfl; have q62 := (blk_cell Q6.out 2).trans rfl; have q70 := (blk_cell Q7.out 0).trans rfl; have q80 := (blk_cell Q8.out 0).trans rfl; have g60 := blk_frozen Q6.out 0; have g61 := blk_frozen Q6.out 1; have g62 := blk_frozen Q6.out 2; have g70 := blk_frozen Q7.out 0; have g80 := blk_frozen Q8.out 0)
      have e6 := blk_far (blk_far (blk_put (blk_put (blk_put Q6.out 0 (.int .i64 u.f0) rfl) 1 (.string u.f1) rfl) 2 (.int .i64 u.f2) rfl) (p := ⟨w.heap.size + 1, 0, none⟩) (by show w.heap.size ≠ w.heap.size + 1; omega) (.int .i64 (x : Int))) (p := ⟨w.heap.size + 1 + 1, 0, none⟩) (by show w.heap.size ≠ w.heap.size + 1 + 1; omega) (.int .i64 0)
      have e7 := blk_far (blk_put (blk_far (blk_far (blk_far Q7.out (p := ⟨w.heap.size, 0, none⟩) (by show w.heap.size + 1 ≠ w.heap.size; omega) (.int .i64 u.f0)) (p := ⟨w.heap.size, 1, none⟩) (by show w.heap.size + 1 ≠ w.heap.size; omega) (.string u.f1)) (p := ⟨w.heap.size, 2, none⟩) (by show w.heap.size + 1 ≠ w.heap.size; omega) (.int .i64 u.f2)) 0 (.int .i64 (x : Int)) rfl) (p := ⟨w.heap.size + 1 + 1, 0, none⟩) (by show w.heap.size + 1 ≠ w.heap.size + 1 + 1; omega) (.int .i64 0)
      have e8 := blk_put (blk_far (blk_far (blk_far (blk_far Q8.out (p := ⟨w.heap.size, 0, none⟩) (by show w.heap.size + 1 + 1 ≠ w.heap.size; omega) (.int .i64 u.f0)) (p := ⟨w.heap.size, 1, none⟩) (by show w.heap.size + 1 + 1 ≠ w.heap.size; omega) (.string u.f1)) (p := ⟨w.heap.size, 2, none⟩) (by show w.heap.size + 1 + 1 ≠ w.heap.size; omega) (.int .i64 u.f2)) (p := ⟨w.heap.size + 1, 0, none⟩) (by show w.heap.size + 1 + 1 ≠ w.heap.size + 1; omega) (.int .i64 (x : Int))) 0 (.int .i64 0) rfl
      have hbw : Below w.heap.size w w3 := B2.out.trans ((HBW.out.mono hsz2).trans (hb3.mono (Nat.le_trans hsz2 HBW.out.size)))
      refine ⟨(keepsFrom_of hb3).trans ((((((KeepsOthers.setCell _ _ _).trans (KeepsOthers.setCell _ _ _)).trans (KeepsOthers.setCell _ _ _)).trans (KeepsOthers.setCell _ _ _)).trans (KeepsOthers.setCell _ _ _)).from _), ⟨rfl, pre, x, u, rfl, HM.out, ⟨i, by rw [← hF.out]; exact HQ.out, by rw [← hF.out]; exact huu⟩, e6, e7, e8⟩, ?_⟩
      exact ((((hbw.setCell (p := ⟨w.heap.size, 0, none⟩) (Nat.le_refl _) _).setCell (p := ⟨w.heap.size, 1, none⟩) (Nat.le_refl _) _).setCell (p := ⟨w.heap.size, 2, none⟩) (Nat.le_refl _) _).setCell (p := ⟨w.heap.size + 1, 0, none⟩) (Nat.le_succ _) _).setCell (p := ⟨w.heap.size + 1 + 1, 0, none⟩) (by show w.heap.size ≤ w.heap.size + 1 + 1; omega) _
  case done =>
    rintro Dd ys W hD rfl ⟨hm, hB⟩ hK
    have hfn := Aside0.mk (find_none c n L N hm)
    have Q6 := Aside0.mk (blk_below T6.out hB)
    have Q7 := Aside0.mk (blk_below T7.out hB)
    have Q8 := Aside0.mk (blk_below T8.out hB)
    have q60 := (blk_cell Q6.out 0).trans rfl
    have q61 := (blk_cell Q6.out 1).trans rfl
    have q62 := (blk_cell Q6.out 2).trans rfl
    have q70 := (blk_cell Q7.out 0).trans rfl
    have q80 := (blk_cell Q8.out 0).trans rfl
    have g60 := blk_frozen Q6.out 0
    have g61 := blk_frozen Q6.out 1
    have g62 := blk_frozen Q6.out 2
    have g70 := blk_frozen Q7.out 0
    have g80 := blk_frozen Q8.out 0
    gi_wp2
    have e6 := blk_far (blk_far (blk_put (blk_put (blk_put Q6.out 0 (.int .i64 0) rfl) 1 (.string ⟨#[]⟩) rfl) 2 (.int .i64 0) rfl) (p := ⟨w.heap.size + 1, 0, none⟩) (by show w.heap.size ≠ w.heap.size + 1; omega) (.int .i64 0)) (p := ⟨w.heap.size + 1 + 1, 0, none⟩) (by show w.heap.size ≠ w.heap.size + 1 + 1; omega) (.int .i64 8)
    have e7 := blk_far (blk_put (blk_far (blk_far (blk_far Q7.out (p := ⟨w.heap.size, 0, none⟩) (by show w.heap.size + 1 ≠ w.heap.size; omega) (.int .i64 0)) (p := ⟨w.heap.size, 1, none⟩) (by show w.heap.size + 1 ≠ w.heap.size; omega) (.string ⟨#[]⟩)) (p := ⟨w.heap.size, 2, none⟩) (by show w.heap.size + 1 ≠ w.heap.size; omega) (.int .i64 0)) 0 (.int .i64 0) rfl) (p := ⟨w.heap.size + 1 + 1, 0, none⟩) (by show w.heap.size + 1 ≠ w.heap.size + 1 + 1; omega) (.int .i64 8)
    have e8 := blk_put (blk_far (blk_far (blk_far (blk_far Q8.out (p := ⟨w.heap.size, 0, none⟩) (by show w.heap.size + 1 + 1 ≠ w.heap.size; omega) (.int .i64 0)) (p := ⟨w.heap.size, 1, none⟩) (by show w.heap.size + 1 + 1 ≠ w.heap.size; omega) (.string ⟨#[]⟩)) (p := ⟨w.heap.size, 2, none⟩) (by show w.heap.size + 1 + 1 ≠ w.heap.size; omega) (.int .i64 0)) (p := ⟨w.heap.size + 1, 0, none⟩) (by show w.heap.size + 1 + 1 ≠ w.heap.size + 1; omega) (.int .i64 0)) 0 (.int .i64 8) rfl
    have hK' := ((((((KeepsOthers.setCell W ⟨w.heap.size, 0, none⟩ (.int .i64 0)).trans (KeepsOthers.setCell _ ⟨w.heap.size, 1, none⟩ (.string ⟨#[]⟩))).trans (KeepsOthers.setCell _ ⟨w.heap.size, 2, none⟩ (.int .i64 0))).trans (KeepsOthers.setCell _ ⟨w.heap.size + 1, 0, none⟩ (.int .i64 0))).trans (KeepsOthers.setCell _ ⟨w.heap.size + 1 + 1, 0, none⟩ (.int .i64 8)))).same Dd _ hK rfl
    have hbw : Below w.heap.size w W := B2.out.trans (hB.mono hsz2)
    have hbw2 := ((((hbw.setCell (p := ⟨w.heap.size, 0, none⟩) (Nat.le_refl _) (.int .i64 0)).setCell (p := ⟨w.heap.size, 1, none⟩) (Nat.le_refl _) (.string ⟨#[]⟩)).setCell (p := ⟨w.heap.size, 2, none⟩) (Nat.le_refl _) (.int .i64 0)).setCell (p := ⟨w.heap.size + 1, 0, none⟩) (Nat.le_succ _) (.int .i64 0)).setCell (p := ⟨w.heap.size + 1 + 1, 0, none⟩) (by show w.heap.size ≤ w.heap.size + 1 + 1; omega) (.int .i64 8)
    refine ⟨by simp, .inl ⟨_, _, rfl, run_takeDeferred hK', ?_⟩⟩
    rw [hfn.out]
    have hrr : ∀ r, (some Dd : Option Nat) = some r → 0 ≤ r ∧ ∃ o : Obj, (((((W.setCell ⟨w.heap.size, 0, none⟩ (.int .i64 0)).setCell ⟨w.heap.size, 1, none⟩ (.string ⟨#[]⟩)).setCell ⟨w.heap.size, 2, none⟩ (.int .i64 0)).setCell ⟨w.heap.size + 1, 0, none⟩ (.int .i64 0)).setCell ⟨w.heap.size + 1 + 1, 0, none⟩ (.int .i64 8)).heap[r]? = some o ∧ o.isCells = false := fun r e => by cases e; exact ⟨Nat.zero_le _, _, hK', rfl⟩
    have f6 := own_blk (grownBy_putObj' _ Dd (.deferred none)) hrr e6
    have f7 := own_blk (grownBy_putObj' _ Dd (.deferred none)) hrr e7
    have f8 := own_blk (grownBy_putObj' _ Dd (.deferred none)) hrr e8
    have v60 := (blk_cell f6 0).trans rfl
    have v61 := (blk_cell f6 1).trans rfl
    have v62 := (blk_cell f6 2).trans rfl
    have v70 := (blk_cell f7 0).trans rfl
    have v80 := (blk_cell f8 0).trans rfl
    refine ⟨meetV none, ?_, rfl, hbw2.trans (belowK_b (w := w) (Nat.le_refl _) _ Dd _ _ (Nat.le_trans hsz2 hD) hK' rfl rfl)⟩
    unfold meetV
    simp [results, Try.f14, Try.results14, go_sem, v60, v61, v62, v70, v80]
  case stop =>
    rintro Dd cd pre W hD hpre ⟨⟨rfl, pre0, k, u, rfl, e2, e3, e4, e5, e6⟩, hB⟩ hK
    have hfn := Aside0.mk (find_some c n L k u e3 N pre0 hpre e2)
    gi_wp2
    refine ⟨by simp, .inl ⟨_, _, rfl, run_takeDeferred hK, ?_⟩⟩
    rw [hfn.out]
    have hrr : ∀ r, (some Dd : Option Nat) = some r → 0 ≤ r ∧ ∃ o : Obj, W.heap[r]? = some o ∧ o.isCells = false := fun r e => by cases e; exact ⟨Nat.zero_le _, _, hK, rfl⟩
    have f6 := own_blk (grownBy_putObj' _ Dd (.deferred none)) hrr e4
    have f7 := own_blk (grownBy_putObj' _ Dd (.deferred none)) hrr e5
    have f8 := own_blk (grownBy_putObj' _ Dd (.deferred none)) hrr e6
    have v60 := (blk_cell f6 0).trans rfl
    have v61 := (blk_cell f6 1).trans rfl
    have v62 := (blk_cell f6 2).trans rfl
    have v70 := (blk_cell f7 0).trans rfl
    have v80 := (blk_cell f8 0).trans rfl
    refine ⟨meetV (some (k, u)), ?_, rfl, hB.trans (belowK_b (w := w) (Nat.le_refl _) _ Dd _ _ (Nat.le_trans hsz2 hD) hK rfl rfl)⟩
    unfold meetV
    simp [results, Try.f14, Try.results14, go_sem, v60, v61, v62, v70, v80]
end Go.Proofs.Ytfahpihbbkkngaa.P

-- from the text Hr
namespace Go.Proofs.Ytfahpihbbkkngaa.P
open Go.RowKit Go.Proofs.YtfahpihbbkkngaaW.PrintWords Go.Proofs.YtfahpihbbkkngaaW.PrintLast Go.Proofs.YtfahpihbbkkngaaW.PrintMore
set_option linter.unusedVariables false
set_option linter.unusedSimpArgs false
abbrev nm0 : ByteArray := ⟨#[]⟩
def u1 : S24 := ⟨19, nm0, 1⟩
def u2 : S24 := ⟨19, nm0, 2⟩
def f1 : Fr := ⟨[u1], 0, nm0, 0⟩
def f2 : Fr := ⟨[u2], 0, nm0, 0⟩
def f3 : Fr := ⟨[], 19, nm0, 1⟩
theorem right_19 : rightB 19 nm0 = true := by kernel_rfl
theorem hit_1 : hit 19 nm0 u1 = true := by simp [hit, u1]
theorem hit_2 : hit 19 nm0 u2 = true := by simp [hit, u2]
theorem meet_1 : meetV (findL 19 nm0 [f1, f2] (fromL 19 nm0 (([f1, f2].length : Int) - 1) [f1, f2] + 1).toNat) = .tuple #[.agg #[.int .i64 19, .string nm0, .int .i64 2], .int .i64 1, .int .i64 0] := by
  have e1 : fromL 19 nm0 (([f1, f2].length : Int) - 1) [f1, f2] = 1 := by simp [fromL, runs, f1, f2]
  rw [e1]
  have e2 : idxU 19 nm0 f2.us 0 = some 0 := by simp [idxU, f2, hit_2]
  have e3 : findL 19 nm0 [f1, f2] 2 = some (1, u2) := by simp [findL, e2]; rfl
  show meetV (findL 19 nm0 [f1, f2] 2) = _
  rw [e3]
  rfl
theorem meet_2 : meetV (findL 19 nm0 [f1, f2, f3] (fromL 19 nm0 (([f1, f2, f3].length : Int) - 1) [f1, f2, f3] + 1).toNat) = .tuple #[.agg #[.int .i64 19, .string nm0, .int .i64 1], .int .i64 0, .int .i64 0] := by
  have e1 : fromL 19 nm0 (([f1, f2, f3].length : Int) - 1) [f1, f2, f3] = 0 := by simp [fromL, runs, f1, f2, f3]
  rw [e1]
  have e2 : idxU 19 nm0 f1.us 0 = some 0 := by simp [idxU, f1, hit_1]
  have e3 : findL 19 nm0 [f1, f2, f3] 1 = some (0, u1) := by simp [findL, e2]; rfl
  show meetV (findL 19 nm0 [f1, f2, f3] 1) = _
  rw [e3]
  rfl
theorem bl_ok (L : List Fr) (h : L = [f1, f2] ∨ L = [f1, f2, f3]) : (∀ f ∈ L, 0 ≤ f.bl ∧ f.bl ≤ 1000) ∧ ∀ f ∈ L, f.us.length ≤ 1000 := by
  rcases h with rfl | rfl <;> simp [f1, f2, f3]
theorem below_of {F : Nat → Prop} {w a b : World} (hF : ∀ k, F k → w.heap.size ≤ k) (h : Below w.heap.size w a) (ht : Turn F a b) : Below w.heap.size w b := h.trans (ht.below hF h.size)
set_option maxRecDepth 100000 in
set_option maxHeartbeats 8000000 in
theorem awake_is (w : World) : Calls Try.prog 10 #[] w fun e w' => e = .returned (.bool true) ∧ Below w.heap.size w w' := by
  have hF : ∀ k, (fun k => w.heap.size ≤ k) k → w.heap.size ≤ k := fun k h => h
  go_enter Try.func10, Try.ntmps10
  go_wp2_with fail
  refine (new_is _).mono ?_
  rintro e w1 ⟨s, rfl, hst, hb⟩
  have S1 := Aside0.mk (St.mono (G := fun k => w.heap.size ≤ k) hst (fun k hk => hk.elim (fun e => e.elim) (fun e => e.1)))
  have B1 := Aside0.mk hb
  clear hst hb
  go_wp2_with fail
  refine (on_is s u1 [] fr0 _ w1 right_19 (by decide) S1.out (by simp [fr0]) (by simp)).mono ?_
  rintro e w2 ⟨rfl, hst, ht⟩
  have S2 := Aside0.mk (show St w2 s [f1] (fun k => w.heap.size ≤ k) from hst.mono (fun k hk => hk.elim id (fun e => Nat.le_trans B1.out.size e.1)))
  have B2 := Aside0.mk (below_of hF B1.out ht)
  clear hst ht
  go_wp2_with fail
  refine (push_is s [f1] _ w2 S2.out (by simp)).mono ?_
  rintro e w3 ⟨rfl, hst, ht⟩
  have S3 := Aside0.mk (show St w3 s [f1, fr0] (fun k => w.heap.size ≤ k) from hst.mono (fun k hk => hk.elim id (fun e => Nat.le_trans B2.out.size e.1)))
  have B3 := Aside0.mk (below_of hF B2.out ht)
  clear hst ht
  go_wp2_with fail
  refine (on_is s u2 [f1] fr0 _ w3 right_19 (by decide) S3.out (by simp [fr0]) (by simp)).mono ?_
  rintro e w4 ⟨rfl, hst, ht⟩
  have S4 := Aside0.mk (show St w4 s [f1, f2] (fun k => w.heap.size ≤ k) from hst.mono (fun k hk => hk.elim id (fun e => Nat.le_trans B3.out.size e.1)))
  have B4 := Aside0.mk (below_of hF B3.out ht)
  clear hst ht
  go_wp2_with fail
  refine (meet_is s 19 nm0 [f1, f2] _ w4 right_19 S4.out (by simp) (bl_ok _ (.inl rfl)).1 (bl_ok _ (.inl rfl)).2).mono ?_
  rw [meet_1]
  rintro e w5 ⟨rfl, hb⟩
  have S5 := Aside0.mk (S4.out.below hb)
  have B5 := Aside0.mk (B4.out.trans (hb.mono B4.out.size))
  clear hb
  go_wp2_with fail
  have HX := Aside0.mk (blk_new w5 (.cells #[.int .i64 19, .string nm0, .int .i64 2] 24 (0, 0)))
  have hbx := (Below.refl w5.heap.size w5).alloc (Nat.le_refl _) (.cells #[.int .i64 19, .string nm0, .int .i64 2] 24 (0, 0))
  have S6 := Aside0.mk (S5.out.cut.below hbx)
  have B6 := Aside0.mk (B5.out.trans (hbx.mono B5.out.size))
  clear hbx
  refine (begin_is s 19 nm0 1 [f1, f2] _ _ right_19 S6.out (by simp) (by simp) (by simp [f2])).mono ?_
  rintro e w6 ⟨_, hok⟩
  obtain ⟨rfl, hst, ht⟩ := hok (by simp [idxU, f2, hit_2])
  have S7 := Aside0.mk (show St w6 s [f1, f2, f3] (fun k => w.heap.size ≤ k) from hst.mono (fun k hk => hk.elim (fun e => e.1) (fun e => Nat.le_trans B6.out.size e.1)))
  have B7 := Aside0.mk (below_of (fun k hk => hk.1) B6.out ht)
  have HX := Aside0.mk ((ht.block _ (blk_lt HX.out) (fun e => absurd e.2 (Nat.lt_irrefl _))).trans HX.out)
  clear hst ht hok
  go_wp2_with fail
  refine (meet_is s 19 nm0 [f1, f2, f3] _ w6 right_19 S7.out (by simp) (bl_ok _ (.inr rfl)).1 (bl_ok _ (.inr rfl)).2).mono ?_
  rw [meet_2]
  rintro e w7 ⟨rfl, hb⟩
  have B8 := Aside0.mk (B7.out.trans (hb.mono B7.out.size))
  have HX := Aside0.mk (blk_below HX.out hb)
  have hx0 := (blk_cell HX.out 0).trans rfl
  have hx1 := (blk_cell HX.out 1).trans rfl
  have hx2 := (blk_cell HX.out 2).trans rfl
  have hg0 := blk_frozen HX.out 0
  have hg1 := blk_frozen HX.out 1
  have hg2 := blk_frozen HX.out 2
  clear hb
  go_wp2_with fail
  refine (cond_Word.calls 4 ⟨#[83, 73, 90, 69]⟩ _ (by kernel_rfl)).mono ?_
  rintro e w8 ⟨rfl, hb⟩
  go_wp2_with fail
  go_ret
  refine ⟨rfl, ?_⟩
  have h5 : w.heap.size ≤ w5.heap.size := B5.out.size
  have hs := ((B8.out.setCell (p := ⟨w5.heap.size, 0, none⟩) h5 (.int .i64 19)).setCell (p := ⟨w5.heap.size, 1, none⟩) h5 (.string nm0)).setCell (p := ⟨w5.heap.size, 2, none⟩) h5 (.int .i64 1)
  exact hs.trans (hb.mono hs.size)
end Go.Proofs.Ytfahpihbbkkngaa.P

-- from the text Q
namespace Go.Proofs.Ytfahpihbbkkngaa.P
open Go.RowKit Go.ChangeShapes Go.WideShapes Go.ChangeAt Go.Deep Go.Proofs.YtfahpihbbkkngaaW.PrintWords Go.Proofs.YtfahpihbbkkngaaW.PrintLast Go.Proofs.YtfahpihbbkkngaaW.PrintMore
set_option linter.unusedVariables false
set_option linter.unusedSimpArgs false
set_option maxRecDepth 100000
theorem list_of {α : Type} {p : Nat → α → Prop} : ∀ n : Nat, (∀ i, i < n → ∃ x, p i x) → ∃ l : List α, l.length = n ∧ ∀ i x, l[i]? = some x → p i x
  | 0, _ => ⟨[], rfl, fun i x h => by simp at h⟩
  | n + 1, h => by
    obtain ⟨l, hl, hp⟩ := list_of n (fun i hi => h i (by omega))
    obtain ⟨x, hx⟩ := h n (by omega)
    refine ⟨l ++ [x], by simp [hl], fun i y hy => ?_⟩
    rcases Nat.lt_trichotomy i n with h1 | h1 | h1
    · exact hp i y (by rw [List.getElem?_append_left (by omega)] at hy; exact hy)
    · subst h1; rw [List.getElem?_append_right (by omega), hl] at hy; simp at hy; subst hy; exact hx
    · rw [List.getElem?_eq_none (by simp; omega)] at hy; cases hy
section
variable {H : Type} {enc : TypeId × Value → H} {w : World} {base : Nat} {spare : Nat → Bool} {held : Bool} {fuel : Nat} {cs : List Value} {x : DataW H × List MemPlace}
theorem sized_any {P : Program} {t e : TypeId} {a : Option Addr} {len cap : Nat} {d : DataW H} {ps : List MemPlace} {ts : List TypeId} {ds : List (DataW H)} {j : Nat} (hsz : (DataW.weightsEach P ts ds).all (· ≤ reachBytes) = true) (ht : ts[j]? = some t) (hd : ds[j]? = some d) (hu : P.underlying t = some (.slice e)) {B : Nat} (hB : P.bytesOf e = B) (h : DataW.Trod enc P w base spare held t (.slice a len cap) d ps) : len * B ≤ 140737488351232 := by
  obtain ⟨fuel, hf⟩ := h
  rcases open_slice hu hf with ⟨hcs, _⟩ | ⟨a', len', cap', m, n, D, Pl, hcs, _, hl, _, _, hx, _⟩
  · simp [Value.cells] at hcs
    obtain ⟨rfl, rfl, rfl⟩ := hcs
    simp
  · simp [Value.cells] at hcs
    obtain ⟨rfl, rfl, rfl⟩ := hcs
    obtain ⟨hx, _⟩ := Prod.mk.inj hx
    subst hx
    have z := sized_slice hsz ht hd hu
    rw [hB, List.length_map, List.length_range] at z
    exact Nat.le_trans (Nat.mul_le_mul_right _ (Nat.le_add_right _ _)) z
def Wf71 (x : S71) : Prop := (Lit.int .i64 x.f0).wf = true ∧ x.f1.size ≤ maxLen
theorem cells71 : Try.prog.cellsOf 71 = 2 := by kernel_rfl
theorem trod71 (h : DataW.trod enc Try.prog w base spare held fuel 71 cs = some x) : ∃ s : S71, cs = [.int .i64 s.f0, .string s.f1] ∧ Wf71 s := by
  obtain ⟨xs, n, _, _, hlen, hxl, hf⟩ := DataW.trod_struct Try.underlying71 h
  rw [cells71] at hlen
  match cs, hlen, xs, hxl with
  | [c0, c1], _, [y0, y1], _ =>
    have g0 : DataW.trod enc Try.prog w base spare held n 3 (List.take (Try.prog.cellsOf 3) (List.drop 0 [c0, c1])) = some y0 := hf 0 _ rfl
    rw [show Try.prog.cellsOf 3 = 1 from by kernel_rfl] at g0
    replace g0 : DataW.trod enc Try.prog w base spare held n 3 [c0] = some y0 := g0
    have g1 : DataW.trod enc Try.prog w base spare held n 9 (List.take (Try.prog.cellsOf 9) (List.drop 1 [c0, c1])) = some y1 := hf 1 _ rfl
    rw [show Try.prog.cellsOf 9 = 1 from by kernel_rfl] at g1
    replace g1 : DataW.trod enc Try.prog w base spare held n 9 [c1] = some y1 := g1
    obtain ⟨s0, e0, -, w0⟩ := DataW.trod_int Try.underlying3 g0
    simp only [List.cons.injEq, and_true] at e0
    subst e0
    obtain ⟨s1, e1, -, w1⟩ := DataW.trod_string Try.underlying9 g1
    simp only [List.cons.injEq, and_true] at e1
    subst e1
    exact ⟨⟨s0, s1⟩, rfl, w0, w1⟩
theorem arg71 {W : World} {r : Reach} {b0 : Nat} {v : Value} {d : DataW H} {p : List MemPlace} (hv : Value.okWide Try.prog W r b0 71 v) (h : DataW.Trod enc Try.prog w base spare held 71 v d p) : ∃ s : S71, v = .agg #[.int .i64 s.f0, .string s.f1] ∧ Wf71 s := by
  obtain ⟨cs, rfl, _⟩ := okWide_struct Try.underlying71 hv
  obtain ⟨fuel, hf⟩ := h
  obtain ⟨s, e, hw⟩ := trod71 hf
  refine ⟨s, ?_, hw⟩
  have e2 : cs.toList = _ := e
  rw [← e2]
def Wf51 (x : S51) : Prop := (Lit.int .i64 x.f0).wf = true ∧ x.f1.size ≤ maxLen ∧ True
theorem cells51 : Try.prog.cellsOf 51 = 3 := by kernel_rfl
theorem trod51 (h : DataW.trod enc Try.prog w base spare held fuel 51 cs = some x) : ∃ s : S51, cs = [.int .i64 s.f0, .string s.f1, .bool s.f2] ∧ Wf51 s := by
  obtain ⟨xs, n, _, _, hlen, hxl, hf⟩ := DataW.trod_struct Try.underlying51 h
  rw [cells51] at hlen
  match cs, hlen, xs, hxl with
  | [c0, c1, c2], _, [y0, y1, y2], _ =>
    have g0 : DataW.trod enc Try.prog w base spare held n 3 (List.take (Try.prog.cellsOf 3) (List.drop 0 [c0, c1, c2])) = some y0 := hf 0 _ rfl
    rw [show Try.prog.cellsOf 3 = 1 from by kernel_rfl] at g0
    replace g0 : DataW.trod enc Try.prog w base spare held n 3 [c0] = some y0 := g0
    have g1 : DataW.trod enc Try.prog w base spare held n 9 (List.take (Try.prog.cellsOf 9) (List.drop 1 [c0, c1, c2])) = some y1 := hf 1 _ rfl
    rw [show Try.prog.cellsOf 9 = 1 from by kernel_rfl] at g1
    replace g1 : DataW.trod enc Try.prog w base spare held n 9 [c1] = some y1 := g1
    have g2 : DataW.trod enc Try.prog w base spare held n 4 (List.take (Try.prog.cellsOf 4) (List.drop 2 [c0, c1, c2])) = some y2 := hf 2 _ rfl
    rw [show Try.prog.cellsOf 4 = 1 from by kernel_rfl] at g2
    replace g2 : DataW.trod enc Try.prog w base spare held n 4 [c2] = some y2 := g2
    obtain ⟨s0, e0, -, w0⟩ := DataW.trod_int Try.underlying3 g0
    simp only [List.cons.injEq, and_true] at e0
    subst e0
    obtain ⟨s1, e1, -, w1⟩ := DataW.trod_string Try.underlying9 g1
    simp only [List.cons.injEq, and_true] at e1
    subst e1
    obtain ⟨s2, e2, -⟩ := DataW.trod_bool Try.underlying4 g2
    simp only [List.cons.injEq, and_true] at e2
    subst e2
    exact ⟨⟨s0, s1, s2⟩, rfl, w0, w1, trivial⟩
theorem arg51 {W : World} {r : Reach} {b0 : Nat} {v : Value} {d : DataW H} {p : List MemPlace} (hv : Value.okWide Try.prog W r b0 51 v) (h : DataW.Trod enc Try.prog w base spare held 51 v d p) : ∃ s : S51, v = .agg #[.int .i64 s.f0, .string s.f1, .bool s.f2] ∧ Wf51 s := by
  obtain ⟨cs, rfl, _⟩ := okWide_struct Try.underlying51 hv
  obtain ⟨fuel, hf⟩ := h
  obtain ⟨s, e, hw⟩ := trod51 hf
  refine ⟨s, ?_, hw⟩
  have e2 : cs.toList = _ := e
  rw [← e2]
def Wf24 (x : S24) : Prop := (Lit.int .i64 x.f0).wf = true ∧ x.f1.size ≤ maxLen ∧ (Lit.int .i64 x.f2).wf = true
theorem cells24 : Try.prog.cellsOf 24 = 3 := by kernel_rfl
theorem trod24 (h : DataW.trod enc Try.prog w base spare held fuel 24 cs = some x) : ∃ s : S24, cs = [.int .i64 s.f0, .string s.f1, .int .i64 s.f2] ∧ Wf24 s := by
  obtain ⟨xs, n, _, _, hlen, hxl, hf⟩ := DataW.trod_struct Try.underlying24 h
  rw [cells24] at hlen
  match cs, hlen, xs, hxl with
  | [c0, c1, c2], _, [y0, y1, y2], _ =>
    have g0 : DataW.trod enc Try.prog w base spare held n 3 (List.take (Try.prog.cellsOf 3) (List.drop 0 [c0, c1, c2])) = some y0 := hf 0 _ rfl
    rw [show Try.prog.cellsOf 3 = 1 from by kernel_rfl] at g0
    replace g0 : DataW.trod enc Try.prog w base spare held n 3 [c0] = some y0 := g0
    have g1 : DataW.trod enc Try.prog w base spare held n 9 (List.take (Try.prog.cellsOf 9) (List.drop 1 [c0, c1, c2])) = some y1 := hf 1 _ rfl
    rw [show Try.prog.cellsOf 9 = 1 from by kernel_rfl] at g1
    replace g1 : DataW.trod enc Try.prog w base spare held n 9 [c1] = some y1 := g1
    have g2 : DataW.trod enc Try.prog w base spare held n 3 (List.take (Try.prog.cellsOf 3) (List.drop 2 [c0, c1, c2])) = some y2 := hf 2 _ rfl
    rw [show Try.prog.cellsOf 3 = 1 from by kernel_rfl] at g2
    replace g2 : DataW.trod enc Try.prog w base spare held n 3 [c2] = some y2 := g2
    obtain ⟨s0, e0, -, w0⟩ := DataW.trod_int Try.underlying3 g0
    simp only [List.cons.injEq, and_true] at e0
    subst e0
    obtain ⟨s1, e1, -, w1⟩ := DataW.trod_string Try.underlying9 g1
    simp only [List.cons.injEq, and_true] at e1
    subst e1
    obtain ⟨s2, e2, -, w2⟩ := DataW.trod_int Try.underlying3 g2
    simp only [List.cons.injEq, and_true] at e2
    subst e2
    exact ⟨⟨s0, s1, s2⟩, rfl, w0, w1, w2⟩
theorem arg24 {W : World} {r : Reach} {b0 : Nat} {v : Value} {d : DataW H} {p : List MemPlace} (hv : Value.okWide Try.prog W r b0 24 v) (h : DataW.Trod enc Try.prog w base spare held 24 v d p) : ∃ s : S24, v = .agg #[.int .i64 s.f0, .string s.f1, .int .i64 s.f2] ∧ Wf24 s := by
  obtain ⟨cs, rfl, _⟩ := okWide_struct Try.underlying24 hv
  obtain ⟨fuel, hf⟩ := h
  obtain ⟨s, e, hw⟩ := trod24 hf
  refine ⟨s, ?_, hw⟩
  have e2 : cs.toList = _ := e
  rw [← e2]
def Wf29 (x : S29) : Prop := (Lit.int .u8 x.f0).wf = true ∧ (Lit.int .i64 x.f1).wf = true ∧ Wf24 x.f2
theorem cells29 : Try.prog.cellsOf 29 = 5 := by kernel_rfl
theorem trod29 (h : DataW.trod enc Try.prog w base spare held fuel 29 cs = some x) : ∃ s : S29, cs = [.int .u8 s.f0, .int .i64 s.f1, .int .i64 s.f2.f0, .string s.f2.f1, .int .i64 s.f2.f2] ∧ Wf29 s := by
  obtain ⟨xs, n, _, _, hlen, hxl, hf⟩ := DataW.trod_struct Try.underlying29 h
  rw [cells29] at hlen
  match cs, hlen, xs, hxl with
  | [c0, c1, c2, c3, c4], _, [y0, y1, y2], _ =>
    have g0 : DataW.trod enc Try.prog w base spare held n 5 (List.take (Try.prog.cellsOf 5) (List.drop 0 [c0, c1, c2, c3, c4])) = some y0 := hf 0 _ rfl
    rw [show Try.prog.cellsOf 5 = 1 from by kernel_rfl] at g0
    replace g0 : DataW.trod enc Try.prog w base spare held n 5 [c0] = some y0 := g0
    have g1 : DataW.trod enc Try.prog w base spare held n 3 (List.take (Try.prog.cellsOf 3) (List.drop 1 [c0, c1, c2, c3, c4])) = some y1 := hf 1 _ rfl
    rw [show Try.prog.cellsOf 3 = 1 from by kernel_rfl] at g1
    replace g1 : DataW.trod enc Try.prog w base spare held n 3 [c1] = some y1 := g1
    have g2 : DataW.trod enc Try.prog w base spare held n 24 (List.take (Try.prog.cellsOf 24) (List.drop 2 [c0, c1, c2, c3, c4])) = some y2 := hf 2 _ rfl
    rw [show Try.prog.cellsOf 24 = 3 from by kernel_rfl] at g2
    replace g2 : DataW.trod enc Try.prog w base spare held n 24 [c2, c3, c4] = some y2 := g2
    obtain ⟨s0, e0, -, w0⟩ := DataW.trod_int Try.underlying5 g0
    simp only [List.cons.injEq, and_true] at e0
    subst e0
    obtain ⟨s1, e1, -, w1⟩ := DataW.trod_int Try.underlying3 g1
    simp only [List.cons.injEq, and_true] at e1
    subst e1
    obtain ⟨s2, e2, w2⟩ := trod24 g2
    simp only [List.cons.injEq, and_true] at e2
    obtain ⟨rfl, rfl, rfl⟩ := e2
    exact ⟨⟨s0, s1, s2⟩, rfl, w0, w1, w2⟩
theorem arg29 {W : World} {r : Reach} {b0 : Nat} {v : Value} {d : DataW H} {p : List MemPlace} (hv : Value.okWide Try.prog W r b0 29 v) (h : DataW.Trod enc Try.prog w base spare held 29 v d p) : ∃ s : S29, v = .agg #[.int .u8 s.f0, .int .i64 s.f1, .int .i64 s.f2.f0, .string s.f2.f1, .int .i64 s.f2.f2] ∧ Wf29 s := by
  obtain ⟨cs, rfl, _⟩ := okWide_struct Try.underlying29 hv
  obtain ⟨fuel, hf⟩ := h
  obtain ⟨s, e, hw⟩ := trod29 hf
  refine ⟨s, ?_, hw⟩
  have e2 : cs.toList = _ := e
  rw [← e2]
def Wf42 (x : S42) : Prop := x.f0.size ≤ maxLen ∧ (Lit.int .i64 x.f1).wf = true ∧ True ∧ True ∧ True ∧ True ∧ (Lit.int .i64 x.f6).wf = true ∧ (Lit.int .i64 x.f7).wf = true
theorem cells42 : Try.prog.cellsOf 42 = 8 := by kernel_rfl
theorem trod42 (h : DataW.trod enc Try.prog w base spare held fuel 42 cs = some x) : ∃ s : S42, cs = [.string s.f0, .int .i64 s.f1, .bool s.f2, .bool s.f3, .bool s.f4, .bool s.f5, .int .i64 s.f6, .int .i64 s.f7] ∧ Wf42 s := by
  obtain ⟨xs, n, _, _, hlen, hxl, hf⟩ := DataW.trod_struct Try.underlying42 h
  rw [cells42] at hlen
  match cs, hlen, xs, hxl with
  | [c0, c1, c2, c3, c4, c5, c6, c7], _, [y0, y1, y2, y3, y4, y5, y6, y7], _ =>
    have g0 : DataW.trod enc Try.prog w base spare held n 9 (List.take (Try.prog.cellsOf 9) (List.drop 0 [c0, c1, c2, c3, c4, c5, c6, c7])) = some y0 := hf 0 _ rfl
    rw [show Try.prog.cellsOf 9 = 1 from by kernel_rfl] at g0
    replace g0 : DataW.trod enc Try.prog w base spare held n 9 [c0] = some y0 := g0
    have g1 : DataW.trod enc Try.prog w base spare held n 3 (List.take (Try.prog.cellsOf 3) (List.drop 1 [c0, c1, c2, c3, c4, c5, c6, c7])) = some y1 := hf 1 _ rfl
    rw [show Try.prog.cellsOf 3 = 1 from by kernel_rfl] at g1
    replace g1 : DataW.trod enc Try.prog w base spare held n 3 [c1] = some y1 := g1
    have g2 : DataW.trod enc Try.prog w base spare held n 4 (List.take (Try.prog.cellsOf 4) (List.drop 2 [c0, c1, c2, c3, c4, c5, c6, c7])) = some y2 := hf 2 _ rfl
    rw [show Try.prog.cellsOf 4 = 1 from by kernel_rfl] at g2
    replace g2 : DataW.trod enc Try.prog w base spare held n 4 [c2] = some y2 := g2
    have g3 : DataW.trod enc Try.prog w base spare held n 4 (List.take (Try.prog.cellsOf 4) (List.drop 3 [c0, c1, c2, c3, c4, c5, c6, c7])) = some y3 := hf 3 _ rfl
    rw [show Try.prog.cellsOf 4 = 1 from by kernel_rfl] at g3
    replace g3 : DataW.trod enc Try.prog w base spare held n 4 [c3] = some y3 := g3
    have g4 : DataW.trod enc Try.prog w base spare held n 4 (List.take (Try.prog.cellsOf 4) (List.drop 4 [c0, c1, c2, c3, c4, c5, c6, c7])) = some y4 := hf 4 _ rfl
    rw [show Try.prog.cellsOf 4 = 1 from by kernel_rfl] at g4
    replace g4 : DataW.trod enc Try.prog w base spare held n 4 [c4] = some y4 := g4
    have g5 : DataW.trod enc Try.prog w base spare held n 4 (List.take (Try.prog.cellsOf 4) (List.drop 5 [c0, c1, c2, c3, c4, c5, c6, c7])) = some y5 := hf 5 _ rfl
    rw [show Try.prog.cellsOf 4 = 1 from by kernel_rfl] at g5
    replace g5 : DataW.trod enc Try.prog w base spare held n 4 [c5] = some y5 := g5
    have g6 : DataW.trod enc Try.prog w base spare held n 3 (List.take (Try.prog.cellsOf 3) (List.drop 6 [c0, c1, c2, c3, c4, c5, c6, c7])) = some y6 := hf 6 _ rfl
    rw [show Try.prog.cellsOf 3 = 1 from by kernel_rfl] at g6
    replace g6 : DataW.trod enc Try.prog w base spare held n 3 [c6] = some y6 := g6
    have g7 : DataW.trod enc Try.prog w base spare held n 3 (List.take (Try.prog.cellsOf 3) (List.drop 7 [c0, c1, c2, c3, c4, c5, c6, c7])) = some y7 := hf 7 _ rfl
    rw [show Try.prog.cellsOf 3 = 1 from by kernel_rfl] at g7
    replace g7 : DataW.trod enc Try.prog w base spare held n 3 [c7] = some y7 := g7
    obtain ⟨s0, e0, -, w0⟩ := DataW.trod_string Try.underlying9 g0
    simp only [List.cons.injEq, and_true] at e0
    subst e0
    obtain ⟨s1, e1, -, w1⟩ := DataW.trod_int Try.underlying3 g1
    simp only [List.cons.injEq, and_true] at e1
    subst e1
    obtain ⟨s2, e2, -⟩ := DataW.trod_bool Try.underlying4 g2
    simp only [List.cons.injEq, and_true] at e2
    subst e2
    obtain ⟨s3, e3, -⟩ := DataW.trod_bool Try.underlying4 g3
    simp only [List.cons.injEq, and_true] at e3
    subst e3
    obtain ⟨s4, e4, -⟩ := DataW.trod_bool Try.underlying4 g4
    simp only [List.cons.injEq, and_true] at e4
    subst e4
    obtain ⟨s5, e5, -⟩ := DataW.trod_bool Try.underlying4 g5
    simp only [List.cons.injEq, and_true] at e5
    subst e5
    obtain ⟨s6, e6, -, w6⟩ := DataW.trod_int Try.underlying3 g6
    simp only [List.cons.injEq, and_true] at e6
    subst e6
    obtain ⟨s7, e7, -, w7⟩ := DataW.trod_int Try.underlying3 g7
    simp only [List.cons.injEq, and_true] at e7
    subst e7
    exact ⟨⟨s0, s1, s2, s3, s4, s5, s6, s7⟩, rfl, w0, w1, trivial, trivial, trivial, trivial, w6, w7⟩
theorem arg42 {W : World} {r : Reach} {b0 : Nat} {v : Value} {d : DataW H} {p : List MemPlace} (hv : Value.okWide Try.prog W r b0 42 v) (h : DataW.Trod enc Try.prog w base spare held 42 v d p) : ∃ s : S42, v = .agg #[.string s.f0, .int .i64 s.f1, .bool s.f2, .bool s.f3, .bool s.f4, .bool s.f5, .int .i64 s.f6, .int .i64 s.f7] ∧ Wf42 s := by
  obtain ⟨cs, rfl, _⟩ := okWide_struct Try.underlying42 hv
  obtain ⟨fuel, hf⟩ := h
  obtain ⟨s, e, hw⟩ := trod42 hf
  refine ⟨s, ?_, hw⟩
  have e2 : cs.toList = _ := e
  rw [← e2]
def Wf90 (x : S90) : Prop := (Lit.int .i64 x.f0).wf = true ∧ Wf42 x.f1
theorem cells90 : Try.prog.cellsOf 90 = 9 := by kernel_rfl
theorem trod90 (h : DataW.trod enc Try.prog w base spare held fuel 90 cs = some x) : ∃ s : S90, cs = [.int .i64 s.f0, .string s.f1.f0, .int .i64 s.f1.f1, .bool s.f1.f2, .bool s.f1.f3, .bool s.f1.f4, .bool s.f1.f5, .int .i64 s.f1.f6, .int .i64 s.f1.f7] ∧ Wf90 s := by
  obtain ⟨xs, n, _, _, hlen, hxl, hf⟩ := DataW.trod_struct Try.underlying90 h
  rw [cells90] at hlen
  match cs, hlen, xs, hxl with
  | [c0, c1, c2, c3, c4, c5, c6, c7, c8], _, [y0, y1], _ =>
    have g0 : DataW.trod enc Try.prog w base spare held n 3 (List.take (Try.prog.cellsOf 3) (List.drop 0 [c0, c1, c2, c3, c4, c5, c6, c7, c8])) = some y0 := hf 0 _ rfl
    rw [show Try.prog.cellsOf 3 = 1 from by kernel_rfl] at g0
    replace g0 : DataW.trod enc Try.prog w base spare held n 3 [c0] = some y0 := g0
    have g1 : DataW.trod enc Try.prog w base spare held n 42 (List.take (Try.prog.cellsOf 42) (List.drop 1 [c0, c1, c2, c3, c4, c5, c6, c7, c8])) = some y1 := hf 1 _ rfl
    rw [show Try.prog.cellsOf 42 = 8 from by kernel_rfl] at g1
    replace g1 : DataW.trod enc Try.prog w base spare held n 42 [c1, c2, c3, c4, c5, c6, c7, c8] = some y1 := g1
    obtain ⟨s0, e0, -, w0⟩ := DataW.trod_int Try.underlying3 g0
    simp only [List.cons.injEq, and_true] at e0
    subst e0
    obtain ⟨s1, e1, w1⟩ := trod42 g1
    simp only [List.cons.injEq, and_true] at e1
    obtain ⟨rfl, rfl, rfl, rfl, rfl, rfl, rfl, rfl⟩ := e1
    exact ⟨⟨s0, s1⟩, rfl, w0, w1⟩
theorem arg90 {W : World} {r : Reach} {b0 : Nat} {v : Value} {d : DataW H} {p : List MemPlace} (hv : Value.okWide Try.prog W r b0 90 v) (h : DataW.Trod enc Try.prog w base spare held 90 v d p) : ∃ s : S90, v = .agg #[.int .i64 s.f0, .string s.f1.f0, .int .i64 s.f1.f1, .bool s.f1.f2, .bool s.f1.f3, .bool s.f1.f4, .bool s.f1.f5, .int .i64 s.f1.f6, .int .i64 s.f1.f7] ∧ Wf90 s := by
  obtain ⟨cs, rfl, _⟩ := okWide_struct Try.underlying90 hv
  obtain ⟨fuel, hf⟩ := h
  obtain ⟨s, e, hw⟩ := trod90 hf
  refine ⟨s, ?_, hw⟩
  have e2 : cs.toList = _ := e
  rw [← e2]
theorem arg22 {W : World} {r : Reach} {b0 : Nat} {v : Value} {d : DataW H} {p : List MemPlace} (hv : Value.okWide Try.prog W r b0 22 v) (h : DataW.Trod enc Try.prog w base (fun _ => true) held 22 v d p) : ∃ (A : Option Addr) (cap : Nat) (l : List S29), v = .slice A l.length cap ∧ Kd.C k29 w A l.length l ∧ l.length ≤ cap ∧ ∀ y ∈ l, Wf29 y := by
  obtain ⟨a0, len0, cap0, rfl⟩ := okWide_slice Try.underlying22 hv
  obtain ⟨fuel, hf⟩ := h
  rcases open_slice Try.underlying22 hf with ⟨hcs, _⟩ | ⟨a, len, cap, m, n, D, Pl, hcs, _, hl, hm, hmm, _, hi⟩
  · simp [Value.cells] at hcs
    obtain ⟨rfl, rfl, rfl⟩ := hcs
    exact ⟨none, 0, [], rfl, ⟨rfl, by simp, fun h => absurd h (by simp)⟩, Nat.le_refl _, fun y hy => by cases hy⟩
  · simp [Value.cells] at hcs
    obtain ⟨rfl, rfl, rfl⟩ := hcs
    simp only [if_true] at hmm
    subst hmm
    obtain ⟨l, hll, hp⟩ := list_of (p := fun i (s : S29) => (∀ j u, ([.int .u8 s.f0, .int .i64 s.f1, .int .i64 s.f2.f0, .string s.f2.f1, .int .i64 s.f2.f2] : List Value)[j]? = some u → w.cell? (a.add (i * 5 + j)) = some u) ∧ Wf29 s) len0 (fun i him => by
      obtain ⟨cs', hc, ht⟩ := hi i (by omega)
      rw [show Try.prog.cellsOf 29 = 5 from by kernel_rfl] at hc
      obtain ⟨_, hcl, hat⟩ := World.cells?_some hc
      obtain ⟨s, rfl, hw⟩ := trod29 ht
      refine ⟨s, fun j u hj => ?_, hw⟩
      have hjn : j < 5 := by rcases Nat.lt_or_ge j 5 with h | h; exact h; rw [List.getElem?_eq_none (by simpa using h)] at hj; cases hj
      rw [← Go.Deep.add_add, hat j hjn]; exact hj)
    subst hll
    refine ⟨some a, _, l, rfl, ⟨rfl, by simp only [maxLen] at hm; omega, fun _ => ⟨a, rfl, fun j q hq => ⟨_, rfl, k29_mk w q, fun i u hu => (hp j q hq).1 i u hu⟩⟩⟩, hl, fun y hy => ?_⟩
    obtain ⟨i, hi, rfl⟩ := List.getElem_of_mem hy
    exact (hp i _ (List.getElem?_eq_getElem hi)).2
theorem arg47 {W : World} {r : Reach} {b0 : Nat} {v : Value} {d : DataW H} {p : List MemPlace} (hv : Value.okWide Try.prog W r b0 47 v) (h : DataW.Trod enc Try.prog w base (fun _ => true) held 47 v d p) : ∃ (A : Option Addr) (cap : Nat) (l : List S51), v = .slice A l.length cap ∧ Kd.C k51 w A l.length l ∧ l.length ≤ cap ∧ ∀ y ∈ l, Wf51 y := by
  obtain ⟨a0, len0, cap0, rfl⟩ := okWide_slice Try.underlying47 hv
  obtain ⟨fuel, hf⟩ := h
  rcases open_slice Try.underlying47 hf with ⟨hcs, _⟩ | ⟨a, len, cap, m, n, D, Pl, hcs, _, hl, hm, hmm, _, hi⟩
  · simp [Value.cells] at hcs
    obtain ⟨rfl, rfl, rfl⟩ := hcs
    exact ⟨none, 0, [], rfl, ⟨rfl, by simp, fun h => absurd h (by simp)⟩, Nat.le_refl _, fun y hy => by cases hy⟩
  · simp [Value.cells] at hcs
    obtain ⟨rfl, rfl, rfl⟩ := hcs
    simp only [if_true] at hmm
    subst hmm
    obtain ⟨l, hll, hp⟩ := list_of (p := fun i (s : S51) => (∀ j u, ([.int .i64 s.f0, .string s.f1, .bool s.f2] : List Value)[j]? = some u → w.cell? (a.add (i * 3 + j)) = some u) ∧ Wf51 s) len0 (fun i him => by
      obtain ⟨cs', hc, ht⟩ := hi i (by omega)
      rw [show Try.prog.cellsOf 51 = 3 from by kernel_rfl] at hc
      obtain ⟨_, hcl, hat⟩ := World.cells?_some hc
      obtain ⟨s, rfl, hw⟩ := trod51 ht
      refine ⟨s, fun j u hj => ?_, hw⟩
      have hjn : j < 3 := by rcases Nat.lt_or_ge j 3 with h | h; exact h; rw [List.getElem?_eq_none (by simpa using h)] at hj; cases hj
      rw [← Go.Deep.add_add, hat j hjn]; exact hj)
    subst hll
    refine ⟨some a, _, l, rfl, ⟨rfl, by simp only [maxLen] at hm; omega, fun _ => ⟨a, rfl, fun j q hq => ⟨_, rfl, k51_mk w q, fun i u hu => (hp j q hq).1 i u hu⟩⟩⟩, hl, fun y hy => ?_⟩
    obtain ⟨i, hi, rfl⟩ := List.getElem_of_mem hy
    exact (hp i _ (List.getElem?_eq_getElem hi)).2
theorem arg64 {W : World} {r : Reach} {b0 : Nat} {v : Value} {d : DataW H} {p : List MemPlace} (hv : Value.okWide Try.prog W r b0 64 v) (h : DataW.Trod enc Try.prog w base (fun _ => true) held 64 v d p) : ∃ (A : Option Addr) (cap : Nat) (l : List S24), v = .slice A l.length cap ∧ Kd.C k24 w A l.length l ∧ l.length ≤ cap ∧ ∀ y ∈ l, Wf24 y := by
  obtain ⟨a0, len0, cap0, rfl⟩ := okWide_slice Try.underlying64 hv
  obtain ⟨fuel, hf⟩ := h
  rcases open_slice Try.underlying64 hf with ⟨hcs, _⟩ | ⟨a, len, cap, m, n, D, Pl, hcs, _, hl, hm, hmm, _, hi⟩
  · simp [Value.cells] at hcs
    obtain ⟨rfl, rfl, rfl⟩ := hcs
    exact ⟨none, 0, [], rfl, ⟨rfl, by simp, fun h => absurd h (by simp)⟩, Nat.le_refl _, fun y hy => by cases hy⟩
  · simp [Value.cells] at hcs
    obtain ⟨rfl, rfl, rfl⟩ := hcs
    simp only [if_true] at hmm
    subst hmm
    obtain ⟨l, hll, hp⟩ := list_of (p := fun i (s : S24) => (∀ j u, ([.int .i64 s.f0, .string s.f1, .int .i64 s.f2] : List Value)[j]? = some u → w.cell? (a.add (i * 3 + j)) = some u) ∧ Wf24 s) len0 (fun i him => by
      obtain ⟨cs', hc, ht⟩ := hi i (by omega)
      rw [show Try.prog.cellsOf 24 = 3 from by kernel_rfl] at hc
      obtain ⟨_, hcl, hat⟩ := World.cells?_some hc
      obtain ⟨s, rfl, hw⟩ := trod24 ht
      refine ⟨s, fun j u hj => ?_, hw⟩
      have hjn : j < 3 := by rcases Nat.lt_or_ge j 3 with h | h; exact h; rw [List.getElem?_eq_none (by simpa using h)] at hj; cases hj
      rw [← Go.Deep.add_add, hat j hjn]; exact hj)
    subst hll
    refine ⟨some a, _, l, rfl, ⟨rfl, by simp only [maxLen] at hm; omega, fun _ => ⟨a, rfl, fun j q hq => ⟨_, rfl, k24_mk w q, fun i u hu => (hp j q hq).1 i u hu⟩⟩⟩, hl, fun y hy => ?_⟩
    obtain ⟨i, hi, rfl⟩ := List.getElem_of_mem hy
    exact (hp i _ (List.getElem?_eq_getElem hi)).2
theorem arg87 {W : World} {r : Reach} {b0 : Nat} {v : Value} {d : DataW H} {p : List MemPlace} (hv : Value.okWide Try.prog W r b0 87 v) (h : DataW.Trod enc Try.prog w base (fun _ => true) held 87 v d p) : ∃ (A : Option Addr) (cap : Nat) (l : List S90), v = .slice A l.length cap ∧ Kd.C k90 w A l.length l ∧ l.length ≤ cap ∧ ∀ y ∈ l, Wf90 y := by
  obtain ⟨a0, len0, cap0, rfl⟩ := okWide_slice Try.underlying87 hv
  obtain ⟨fuel, hf⟩ := h
  rcases open_slice Try.underlying87 hf with ⟨hcs, _⟩ | ⟨a, len, cap, m, n, D, Pl, hcs, _, hl, hm, hmm, _, hi⟩
  · simp [Value.cells] at hcs
    obtain ⟨rfl, rfl, rfl⟩ := hcs
    exact ⟨none, 0, [], rfl, ⟨rfl, by simp, fun h => absurd h (by simp)⟩, Nat.le_refl _, fun y hy => by cases hy⟩
  · simp [Value.cells] at hcs
    obtain ⟨rfl, rfl, rfl⟩ := hcs
    simp only [if_true] at hmm
    subst hmm
    obtain ⟨l, hll, hp⟩ := list_of (p := fun i (s : S90) => (∀ j u, ([.int .i64 s.f0, .string s.f1.f0, .int .i64 s.f1.f1, .bool s.f1.f2, .bool s.f1.f3, .bool s.f1.f4, .bool s.f1.f5, .int .i64 s.f1.f6, .int .i64 s.f1.f7] : List Value)[j]? = some u → w.cell? (a.add (i * 9 + j)) = some u) ∧ Wf90 s) len0 (fun i him => by
      obtain ⟨cs', hc, ht⟩ := hi i (by omega)
      rw [show Try.prog.cellsOf 90 = 9 from by kernel_rfl] at hc
      obtain ⟨_, hcl, hat⟩ := World.cells?_some hc
      obtain ⟨s, rfl, hw⟩ := trod90 ht
      refine ⟨s, fun j u hj => ?_, hw⟩
      have hjn : j < 9 := by rcases Nat.lt_or_ge j 9 with h | h; exact h; rw [List.getElem?_eq_none (by simpa using h)] at hj; cases hj
      rw [← Go.Deep.add_add, hat j hjn]; exact hj)
    subst hll
    refine ⟨some a, _, l, rfl, ⟨rfl, by simp only [maxLen] at hm; omega, fun _ => ⟨a, rfl, fun j q hq => ⟨_, rfl, k90_mk w q, fun i u hu => (hp j q hq).1 i u hu⟩⟩⟩, hl, fun y hy => ?_⟩
    obtain ⟨i, hi, rfl⟩ := List.getElem_of_mem hy
    exact (hp i _ (List.getElem?_eq_getElem hi)).2
end
end Go.Proofs.Ytfahpihbbkkngaa.P

-- from the text Pv
namespace Go.Proofs.Ytfahpihbbkkngaa.P
open Go.RowKit Go.Proofs.YtfahpihbbkkngaaW.PrintWords Go.Proofs.YtfahpihbbkkngaaW.PrintLast Go.Proofs.YtfahpihbbkkngaaW.PrintMore
set_option linter.unusedVariables false
set_option linter.unusedSimpArgs false
set_option maxRecDepth 100000 in
set_option maxHeartbeats 8000000 in
theorem CondApplies_walk (a0 : Int) (A1 : Option Addr) (c1 : Nat) (l : List S51) (A2 : Option Addr) (c2 : Nat) (k : List S51) (w : World) (_ : (Lit.int .i64 a0).wf = true) (hr1 : Kd.C k51 w A1 l.length l) (hc1 : l.length ≤ c1) (y1 : l.length * 32 ≤ 140737488351232) (_ : ∀ y ∈ l, Wf51 y) (hr2 : Kd.C k51 w A2 k.length k) (hc2 : k.length ≤ c2) (y2 : k.length * 32 ≤ 140737488351232) (_ : ∀ y ∈ k, Wf51 y) :
    Calls Try.prog 6 #[.int .i64 a0, .slice A1 l.length c1, .slice A2 k.length c2] w fun e w' => e = .returned (.bool true) ∧ Below w.heap.size w w' := by
  have HR1 := Aside0.mk hr1
  have HR2 := Aside0.mk hr2
  have HC1 := Aside0.mk hc1
  have HC2 := Aside0.mk hc2
  clear hr1 hr2 hc1 hc2
  have hwr : wrap64 ((l.length : Int) + (k.length : Int)) = (l.length : Int) + (k.length : Int) := by unfold wrap64; omega
  have HW := Aside0.mk (fun W => awake_is W)
  go_enter Try.func6, Try.ntmps6
  go_wp2_with fail
  refine (HW.out _).mono ?_
  rintro e w1 ⟨rfl, hb⟩
  have HB1 := Aside0.mk hb
  clear hb HW
  by_cases hL : 100 < l.length + k.length
  · have d1 : decide ((l.length : Int) + (k.length : Int) > 100) = true := decide_eq_true (by omega)
    go_wp2_with fail
    go_ret
    exact ⟨rfl, HB1.out⟩
  have d1 : decide ((l.length : Int) + (k.length : Int) > 100) = false := decide_eq_false (by omega)
  have HS1 := Aside0.mk (show l.length * 32 ≤ 140737488355328 by omega)
  have HS2 := Aside0.mk (show k.length * 32 ≤ 140737488355328 by omega)
  have HS3 := Aside0.mk (show (l.length + k.length) * 32 ≤ 140737488355328 by omega)
  obtain ⟨b, hb⟩ : ∃ b, l ++ k = b := ⟨_, rfl⟩
  have HS4 := Aside0.mk (show b.length * 32 ≤ 140737488355328 by rw [← hb]; simp; omega)
  have HS5 := Aside0.mk (show b.length ≤ 1000 by rw [← hb]; simp; omega)
  have HBE := Aside0.mk hb
  clear hb
  have HSk := Aside0.mk (show k.length ≤ 100 by omega)
  have HSl := Aside0.mk (show l.length + k.length ≤ 1000 by omega)
  clear hL y1 y2
  obtain ⟨a, e0, hA⟩ := apply_tot a0 b HS5.out
  obtain ⟨K, hK⟩ := apply_ref a0 b HS5.out _ hA
  have HA := Aside0.mk hA
  have HKR := Aside0.mk hK
  clear hA hK
  have HC := Aside0.mk (Kd.C_below HR1.out HB1.out)
  have HC' := Aside0.mk (Kd.C_below HR2.out HB1.out)
  go_wp2_with (first
    | ((with_reducible refine gate_dst (N := 26) rfl ?_); refine wl_copy51 A1 l.length c1 l rfl rfl rfl rfl HC.out HS1.out ?_; intro A3 c3 w2 hR hC hle hb2; have HO := Aside0.mk (Kd.R_lower hR HB1.out.size); have HB2 := Aside0.mk (HB1.out.trans (hb2.mono HB1.out.size)); have HR2' := Aside0.mk (Kd.C_below HR2.out HB2.out); clear hR hC hle hb2)
    | ((with_reducible refine gate_dst (N := 28) rfl ?_); refine wl_more51 A2 k.length c2 l k b HBE.out rfl rfl rfl rfl HO.out HB2.out HR2'.out HS3.out ?_; intro A4 c4 w3 hC hle hb2; have HCb := Aside0.mk hC; have HLb := Aside0.mk hle; have HB3 := Aside0.mk hb2; clear hC hle hb2)
    | ((with_reducible refine gate_dst (N := 32) rfl ?_); refine wl_copy51 A4 b.length c4 b rfl rfl rfl rfl HCb.out HS4.out ?_; intro A5 c5 w4 hR hC hle hb2; have HCc := Aside0.mk hC; have HLc := Aside0.mk hle; have HB4 := Aside0.mk (HB3.out.trans (hb2.mono HB3.out.size)); have HCd := Aside0.mk (Kd.C_below HCb.out hb2); clear hR hC hle hb2)
    | fail)
  refine (cond_Apply.calls a0 A5 c5 b a e0 _ HCc.out HLc.out HA.out).mono ?_
  rintro e w5 ⟨rfl, hb⟩
  have HB5 := Aside0.mk (HB4.out.trans (hb.mono HB4.out.size))
  have HCe := Aside0.mk (Kd.C_below HCd.out hb)
  clear hb HCc HCd
  go_wp2_with fail
  refine (ironbarkref20_Apply.calls K a0 A4 c4 b a e0 _ HCe.out HLb.out HKR.out).mono ?_
  rintro e w6 ⟨rfl, hb⟩
  have HB6 := Aside0.mk (HB5.out.trans (hb.mono HB5.out.size))
  clear hb HCe HKR HB5 HB4 HB3 HB2 HO HR2' HC HC'
  by_cases he : e0 ≠ 0
  · have d2 : decide (e0 = 0) = false := decide_eq_false he
    go_wp2_with fail
    go_ret
    exact ⟨rfl, HB6.out⟩
  obtain rfl : e0 = 0 := Decidable.not_not.1 he
  clear he
  have hA := HA.out
  rw [← HBE.out] at hA
  obtain ⟨c, hp1, hp2⟩ := apply_parts HSl.out hA
  have HP1 := Aside0.mk hp1
  have HP2 := Aside0.mk hp2
  have HLAST := Aside0.mk (fun i hi hlast => apply_last (Nat.le_trans HSk.out (by decide)) hp2 i hi hlast)
  clear hA hp1 hp2 HA HBE
  have HC := Aside0.mk (Kd.C_below HR1.out HB6.out)
  go_wp2_with (first
    | ((with_reducible refine gate_dst (N := 55) rfl ?_); refine wl_copy51 A1 l.length c1 l rfl rfl rfl rfl HC.out HS1.out ?_; intro A6 c6 w7 hR hC hle hb2; have HCc := Aside0.mk hC; have HLc := Aside0.mk hle; have HB7 := Aside0.mk (HB6.out.trans (hb2.mono HB6.out.size)); clear hR hC hle hb2)
    | fail)
  refine (cond_Apply.calls a0 A6 c6 l c 0 _ HCc.out HLc.out HP1.out).mono ?_
  rintro e w8 ⟨rfl, hb⟩
  have HB8 := Aside0.mk (HB7.out.trans (hb.mono HB7.out.size))
  clear hb HCc HLc HC HB7 HB6
  have HC := Aside0.mk (Kd.C_below HR2.out HB8.out)
  go_wp2_with (first
    | ((with_reducible refine gate_dst (N := 64) rfl ?_); refine wl_copy51 A2 k.length c2 k rfl rfl rfl rfl HC.out HS2.out ?_; intro A7 c7 w9 hR hC hle hb2; have HCc := Aside0.mk hC; have HLc := Aside0.mk hle; have HB9 := Aside0.mk (HB8.out.trans (hb2.mono HB8.out.size)); clear hR hC hle hb2)
    | fail)
  refine (cond_Apply.calls c A7 c7 k a 0 _ HCc.out HLc.out HP2.out).mono ?_
  rintro e w10 ⟨rfl, hb⟩
  have HB10 := Aside0.mk (HB9.out.trans (hb.mono HB9.out.size))
  clear hb HCc HLc HC HB9 HB8
  go_wp2_with fail
  clear HP1 HP2 HS1 HS2 HS3 HS4 HS5 HSl HC1 HC2 HLb HCb HB1 d1 hwr
  go_loopw [14] (fun p wr => ∃ i : Nat, i ≤ k.length ∧ p = .int .i64 (i : Int) ∧ Aside0 (Below w.heap.size w wr)) (fun p _ => k.length - (intOf p).toNat)
  case atStart => exact ⟨0, by omega, rfl, HB10⟩
  case round =>
    obtain ⟨i, hi, rfl, HB⟩ := hrel
    clear HB10
    by_cases hlt : i < k.length
    · have hlt' : (i : Int) < (k.length : Int) := by omega
      have hsk := HSk.out
      have h0 : (0 : Int) ≤ (i : Int) := by omega
      have hwi : wrap64 ((i : Int) + 1) = ((i + 1 : Nat) : Int) := by unfold wrap64; omega
      have HLI := Aside0.mk (HLAST.out i hlt)
      obtain ⟨ad, rfl, x0, _, x2⟩ := at_T51 HR2.out (i : Int) h0 hlt'
      go_wp2_with fail
      go_loopw [15, 16] (fun q p wr2 => ∃ (j : Nat) (t : Bool), i + 1 ≤ j ∧ j ≤ k.length ∧ q = .bool t ∧ p = .int .i64 (j : Int) ∧ Aside0 (t = true → ∀ j' : Nat, i < j' → j' < j → (rd_T51 k (j' : Int)).f0 ≠ (rd_T51 k (i : Int)).f0) ∧ Aside0 (Below w.heap.size w wr2)) (fun _ p _ => k.length - (intOf p).toNat)
      case atStart => exact ⟨i + 1, true, by omega, by omega, rfl, rfl, ⟨fun _ j' h1 h2 => by omega⟩, HB⟩
      case round =>
        obtain ⟨j, t, hij, hj, rfl, rfl, HN, HB2⟩ := hrel
        clear HB
        by_cases hjt : j < k.length
        · have hjt' : (j : Int) < (k.length : Int) := by omega
          have h0j : (0 : Int) ≤ (j : Int) := by omega
          have hwj : wrap64 ((j : Int) + 1) = ((j + 1 : Nat) : Int) := by unfold wrap64; omega
          cases t with
          | false =>
            have HD2 := Aside0.mk (fun q => pw_below_drewN HB2.out q)
            go_wp2_with fail
            go_quiet (fail)
            go_wp2_with fail
            rw [show ((j : Int) + 1) = ((j + 1 : Nat) : Int) from by omega]
            exact ⟨⟨j + 1, false, by omega, hjt, rfl, rfl, ⟨fun h => by cases h⟩, ⟨HD2.out _⟩⟩, by simp [intOf]; omega⟩
          | true =>
            have HD2 := Aside0.mk (fun q => pw_below_drewN HB2.out q)
            obtain ⟨ad', he, z0, _, _⟩ := at_T51 HR2.out (j : Int) h0j hjt'
            obtain rfl := Option.some.inj he
            replace z0 := (HB2.out.cell (World.block_lt_of_cell? w _ z0)).trans z0
            replace x0 := (HB2.out.cell (World.block_lt_of_cell? w _ x0)).trans x0
            simp only [Int.toNat_natCast] at x0 z0
            go_wp2_with fail
            go_quiet (fail)
            go_wp2_with fail
            rw [show ((j : Int) + 1) = ((j + 1 : Nat) : Int) from by omega]
            refine ⟨⟨j + 1, _, by omega, hjt, rfl, rfl, ⟨fun h j' h1 h2 => ?_⟩, ⟨HD2.out _⟩⟩, by simp [intOf]; omega⟩
            by_cases hjj : j' = j
            · subst hjj
              simpa using h
            · exact HN.out (by simp) j' h1 (by omega)
        · obtain rfl : j = k.length := by omega
          cases t with
          | false =>
            have HD2 := Aside0.mk (fun q => pw_below_drewN HB2.out q)
            go_wp2_with fail
            go_quiet (fail)
            go_wp2_with fail
            rw [show ((i : Int) + 1) = ((i + 1 : Nat) : Int) from by omega]
            exact ⟨⟨i + 1, by omega, rfl, ⟨HD2.out _⟩⟩, by simp [intOf]; omega⟩
          | true =>
            have HE := Aside0.mk (HLI.out (HN.out (by simp)))
            replace x0 := (HB2.out.cell (World.block_lt_of_cell? w _ x0)).trans x0
            replace x2 := (HB2.out.cell (World.block_lt_of_cell? w _ x2)).trans x2
            simp only [Int.toNat_natCast] at x0 x2
            have HB3 := Aside0.mk (below_drew HB2.out)
            have X0 := Aside0.mk (pw_cell_below (below_drew (Below.refl _ _)) x0)
            have X2 := Aside0.mk (pw_cell_below (below_drew (Below.refl _ _)) x2)
            clear x0 x2
            go_wp2_with fail
            refine start_ (n := 16) (S := fun W => W.cell? (ad.add (i * 3)) = some (.int .i64 (rd_T51 k (i : Int)).f0) ∧ W.cell? ⟨(ad.add (i * 3)).block, (ad.add (i * 3)).off + 2, none⟩ = some (.bool (rd_T51 k (i : Int)).f2) ∧ Below w.heap.size w W) (ds := []) #[false, false, false, false, false, false, false, false, false, false, false, false, false, false, false, false] (by kernel_rfl) rfl rfl ⟨X0.out, X2.out, HB3.out⟩ (fun hHeld => ?_)
            generalize wr.drew = w1 at hHeld ⊢
            refine pure_ (i := 0) (N := some 103) (v := ?_) (a' := ?_) #[true, false, false, false, false, false, false, false, false, false, false, false, false, false, false, false] rfl rfl (by kernel_rfl) (fun _ _ _ h => h) (Or.inl ⟨by rfl, ?_⟩) ?_ ?_
            rotate_left
            · intro w_
              go_simp
              with_reducible rfl
            rotate_left
            · simp only [Act.put, List.setIfInBounds_toArray, List.set_cons_zero, List.set_cons_succ, i64_w, i32_w]
              rfl
            refine pure_ (i := 1) (N := some 104) (v := ?_) (a' := ?_) #[true, true, false, false, false, false, false, false, false, false, false, false, false, false, false, false] rfl rfl (by kernel_rfl) (fun _ _ _ h => h) (Or.inl ⟨by rfl, ?_⟩) ?_ ?_
            rotate_left
            · intro w_
              go_simp
              with_reducible rfl
            rotate_left
            · simp only [Act.put, List.setIfInBounds_toArray, List.set_cons_zero, List.set_cons_succ, i64_w, i32_w]
              rfl
            refine pure_ (i := 2) (N := some 105) (v := ?_) (a' := ?_) #[true, true, true, false, false, false, false, false, false, false, false, false, false, false, false, false] rfl rfl (by kernel_rfl) (fun _ _ _ h => h) (Or.inl ⟨by rfl, ?_⟩) ?_ ?_
            rotate_left
            · intro w_
              go_simp
              with_reducible rfl
            rotate_left
            · simp only [Act.put, List.setIfInBounds_toArray, List.set_cons_zero, List.set_cons_succ, i64_w, i32_w]
              rfl
            refine pure_ (i := 3) (N := some 106) (v := ?_) (a' := ?_) #[true, true, true, true, false, false, false, false, false, false, false, false, false, false, false, false] rfl rfl (by kernel_rfl) (fun _ _ _ h => h) (Or.inl ⟨by rfl, ?_⟩) ?_ ?_
            rotate_left
            · intro w_
              go_simp
              with_reducible rfl
            rotate_left
            · simp only [Act.put, List.setIfInBounds_toArray, List.set_cons_zero, List.set_cons_succ, i64_w, i32_w]
              rfl
            refine pure_ (i := 4) (N := some 107) (v := ?_) (a' := ?_) #[true, true, true, true, true, false, false, false, false, false, false, false, false, false, false, false] rfl rfl (by kernel_rfl) (fun _ _ _ h => h) (Or.inl ⟨by rfl, ?_⟩) ?_ ?_
            rotate_left
            · intro w_
              go_simp
              with_reducible rfl
            rotate_left
            · simp only [Act.put, List.setIfInBounds_toArray, List.set_cons_zero, List.set_cons_succ, i64_w, i32_w]
              rfl
            refine pure_ (i := 5) (N := some 108) (v := ?_) (a' := ?_) #[true, true, true, true, true, true, false, false, false, false, false, false, false, false, false, false] rfl rfl (by kernel_rfl) (fun _ _ _ h => h) (Or.inl ⟨by rfl, ?_⟩) ?_ ?_
            rotate_left
            · intro w_
              go_simp
              with_reducible rfl
            rotate_left
            · simp only [Act.put, List.setIfInBounds_toArray, List.set_cons_zero, List.set_cons_succ, i64_w, i32_w]
              rfl
            refine pure_ (i := 6) (N := some 109) (v := ?_) (a' := ?_) #[true, true, true, true, true, true, true, false, false, false, false, false, false, false, false, false] rfl rfl (by kernel_rfl) (fun _ _ _ h => h) (Or.inl ⟨by rfl, ?_⟩) ?_ ?_
            rotate_left
            · intro w_
              go_simp
              with_reducible rfl
            rotate_left
            · simp only [Act.put, List.setIfInBounds_toArray, List.set_cons_zero, List.set_cons_succ, i64_w, i32_w]
              rfl
            refine take_ (i := 7) (N := some 110) (v := ?_) (a' := ?_) #[true, true, true, true, true, true, true, true, false, false, false, false, false, false, false, false] rfl rfl (by kernel_rfl) (fun _ _ _ h => h) (Or.inl ⟨by rfl, ?_⟩) hHeld ?_ ?_
            rotate_left
            · rintro w_ ⟨s0, s2, _⟩
              go_simp
              with_reducible rfl
            rotate_left
            · simp only [Act.put, List.setIfInBounds_toArray, List.set_cons_zero, List.set_cons_succ, i64_w, i32_w]
              rfl
            refine pure_ (i := 9) (N := some 112) (v := ?_) (a' := ?_) #[true, true, true, true, true, true, true, true, false, true, false, false, false, false, false, false] rfl rfl (by kernel_rfl) (fun _ _ _ h => h) (Or.inl ⟨by rfl, ?_⟩) ?_ ?_
            rotate_left
            · intro w_
              go_simp
              with_reducible rfl
            rotate_left
            · simp only [Act.put, List.setIfInBounds_toArray, List.set_cons_zero, List.set_cons_succ, i64_w, i32_w]
              rfl
            refine pure_ (i := 10) (N := some 113) (v := ?_) (a' := ?_) #[true, true, true, true, true, true, true, true, false, true, true, false, false, false, false, false] rfl rfl (by kernel_rfl) (fun _ _ _ h => h) (Or.inl ⟨by rfl, ?_⟩) ?_ ?_
            rotate_left
            · intro w_
              go_simp
              with_reducible rfl
            rotate_left
            · simp only [Act.put, List.setIfInBounds_toArray, List.set_cons_zero, List.set_cons_succ, i64_w, i32_w]
              rfl
            refine pure_ (i := 11) (N := some 114) (v := ?_) (a' := ?_) #[true, true, true, true, true, true, true, true, false, true, true, true, false, false, false, false] rfl rfl (by kernel_rfl) (fun _ _ _ h => h) (Or.inl ⟨by rfl, ?_⟩) ?_ ?_
            rotate_left
            · intro w_
              go_simp
              with_reducible rfl
            rotate_left
            · simp only [Act.put, List.setIfInBounds_toArray, List.set_cons_zero, List.set_cons_succ, i64_w, i32_w]
              rfl
            refine pure_ (i := 12) (N := some 115) (v := ?_) (a' := ?_) #[true, true, true, true, true, true, true, true, false, true, true, true, true, false, false, false] rfl rfl (by kernel_rfl) (fun _ _ _ h => h) (Or.inl ⟨by rfl, ?_⟩) ?_ ?_
            rotate_left
            · intro w_
              go_simp
              with_reducible rfl
            rotate_left
            · simp only [Act.put, List.setIfInBounds_toArray, List.set_cons_zero, List.set_cons_succ, i64_w, i32_w]
              rfl
            refine take_ (i := 13) (N := some 116) (v := ?_) (a' := ?_) #[true, true, true, true, true, true, true, true, false, true, true, true, true, true, false, false] rfl rfl (by kernel_rfl) (fun _ _ _ h => h) (Or.inl ⟨by rfl, ?_⟩) hHeld ?_ ?_
            rotate_left
            · rintro w_ ⟨s0, s2, _⟩
              go_simp
              with_reducible rfl
            rotate_left
            · simp only [Act.put, List.setIfInBounds_toArray, List.set_cons_zero, List.set_cons_succ, i64_w, i32_w]
              rfl
            refine one_ (i := 8) (N := some 111) #[true, true, true, true, true, true, true, true, true, true, true, true, true, true, false, false] rfl rfl (by kernel_rfl) (by decide) (fun K' hK => ?_)
            refine goes_ Try.func23 (by kernel_rfl) rfl #[.int .i64 a, .int .i64 (rd_T51 k (i : Int)).f0] (by rfl) rfl rfl (by (try simp only [List.map_toArray, List.map_cons, List.map_nil]); first | done | rfl) ?_
            refine (cond_Enabled.calls a (rd_T51 k (i : Int)).f0 _ _ HE.out).mono ?_
            rintro e w4 ⟨rfl, hb⟩
            refine ⟨_, rfl, ?_⟩
            refine hK.out _ _ ⟨pw_cell_below (hb.mono (Nat.le_refl _)) hHeld.1, pw_cell_below hb hHeld.2.1, hHeld.2.2.trans (hb.mono hHeld.2.2.size)⟩ (fun hHeld => ?_)
            clear hb hK K'
            refine norm_ (a' := ?_) ?_ ?_
            rotate_left
            · show Act.put _ (some 111) _ = _
              simp only [Act.put, List.setIfInBounds_toArray, List.set_cons_zero, List.set_cons_succ, i64_w, i32_w]
              rfl
            refine pure_ (i := 14) (N := some 117) (v := ?_) (a' := ?_) #[true, true, true, true, true, true, true, true, true, true, true, true, true, true, true, false] rfl rfl (by kernel_rfl) (fun _ _ _ h => h) (Or.inl ⟨by rfl, ?_⟩) ?_ ?_
            rotate_left
            · intro w_
              go_simp
              with_reducible rfl
            rotate_left
            · simp only [Act.put, List.setIfInBounds_toArray, List.set_cons_zero, List.set_cons_succ, i64_w, i32_w]
              rfl
            refine pure_ (i := 15) (N := some 118) (v := ?_) (a' := ?_) #[true, true, true, true, true, true, true, true, true, true, true, true, true, true, true, true] rfl rfl (by kernel_rfl) (fun _ _ _ h => h) (Or.inl ⟨by rfl, ?_⟩) ?_ ?_
            rotate_left
            · intro w_
              go_simp
              with_reducible rfl
            rotate_left
            · simp only [Act.put, List.setIfInBounds_toArray, List.set_cons_zero, List.set_cons_succ, i64_w, i32_w]
              rfl
            refine done_ (by kernel_rfl) ?_
            have HB4 := Aside0.mk hHeld.2.2
            clear hHeld
            generalize (rd_T51 k (i : Int)).f2 = z
            have hz : ((!z) == z) = false := by cases z <;> rfl
            go_wp2_with fail
            rw [show ((i : Int) + 1) = ((i + 1 : Nat) : Int) from by omega]
            exact ⟨⟨i + 1, by omega, rfl, HB4⟩, by simp [intOf]; omega⟩
    · obtain rfl : i = k.length := by omega
      go_wp2_with fail
      go_ret
      exact ⟨rfl, HB.out⟩
end Go.Proofs.Ytfahpihbbkkngaa.P
