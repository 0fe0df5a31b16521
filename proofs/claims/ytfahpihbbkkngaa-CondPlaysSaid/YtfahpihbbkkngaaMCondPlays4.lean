/- Part 4 of the proof of the law CondPlays: functions, contracts and plain laws; merged by this session's program. -/
import Derived.WalkSpells
import Derived.WalkLawsBesides
import Derived.Lib.Hide
import Derived.IntWalk
import Derived.Test.YtfahpihbbkkngaaMCondPlays1
import Derived.Test.YtfahpihbbkkngaaMCondPlays2
import Derived.Test.YtfahpihbbkkngaaMCondPlays3
-- from the text Hb
namespace Go.Proofs.Ytfahpihbbkkngaa.P
open Go.RowKit Go.Proofs.YtfahpihbbkkngaaW.PrintWords Go.Proofs.YtfahpihbbkkngaaW.PrintLast Go.Proofs.YtfahpihbbkkngaaW.PrintMore
set_option linter.unusedVariables false
set_option linter.unusedSimpArgs false
def rows90 : List S90 := [⟨1, ⟨⟨#[67, 79, 78, 86, 69, 82, 83, 73, 79, 78]⟩, 600, true, true, false, false, 1, 2⟩⟩,
  ⟨2, ⟨⟨#[70, 73, 88, 69, 68, 79, 86, 69, 82, 70, 76, 79, 87]⟩, 310, true, true, false, false, 1, 1⟩⟩,
  ⟨3, ⟨⟨#[79, 86, 69, 82, 70, 76, 79, 87]⟩, 300, true, true, false, false, 1, 1⟩⟩,
  ⟨4, ⟨⟨#[83, 73, 90, 69]⟩, 340, false, true, false, false, 1, 1⟩⟩,
  ⟨5, ⟨⟨#[83, 84, 82, 73, 78, 71, 82, 65, 78, 71, 69]⟩, 350, false, true, false, false, 2, 1⟩⟩,
  ⟨6, ⟨⟨#[83, 84, 82, 73, 78, 71, 83, 73, 90, 69]⟩, 150, false, true, false, false, 2, 1⟩⟩,
  ⟨7, ⟨⟨#[83, 85, 66, 83, 67, 82, 73, 80, 84, 82, 65, 78, 71, 69]⟩, 520, false, true, false, false, 1, 3⟩⟩,
  ⟨8, ⟨⟨#[85, 78, 68, 69, 82, 70, 76, 79, 87]⟩, 330, true, true, false, false, 2, 1⟩⟩,
  ⟨9, ⟨⟨#[90, 69, 82, 79, 68, 73, 86, 73, 68, 69]⟩, 320, true, true, false, false, 1, 1⟩⟩,
  ⟨10, ⟨⟨#[69, 78, 68, 70, 73, 76, 69]⟩, 70, true, false, true, false, 1, 1⟩⟩,
  ⟨11, ⟨⟨#[69, 78, 68, 80, 65, 71, 69]⟩, 90, true, false, true, false, 2, 1⟩⟩,
  ⟨12, ⟨⟨#[75, 69, 89]⟩, 50, true, false, true, false, 1, 1⟩⟩,
  ⟨13, ⟨⟨#[82, 69, 67, 79, 82, 68]⟩, 20, true, false, true, false, 1, 1⟩⟩,
  ⟨14, ⟨⟨#[78, 65, 77, 69]⟩, 10, true, false, true, false, 2, 1⟩⟩,
  ⟨15, ⟨⟨#[85, 78, 68, 69, 70, 73, 78, 69, 68, 70, 73, 76, 69]⟩, 80, true, false, true, false, 1, 1⟩⟩,
  ⟨16, ⟨⟨#[65, 82, 69, 65]⟩, 360, true, false, false, false, 1, 2⟩⟩,
  ⟨17, ⟨⟨#[83, 84, 79, 82, 65, 71, 69]⟩, 450, true, false, false, false, 1, 1⟩⟩,
  ⟨18, ⟨⟨#[67, 79, 78, 68, 73, 84, 73, 79, 78]⟩, 500, true, false, false, true, 2, 1⟩⟩,
  ⟨19, ⟨⟨#[69, 82, 82, 79, 82]⟩, 9, true, false, false, false, 3, 4⟩⟩,
  ⟨20, ⟨⟨#[70, 73, 78, 73, 83, 72]⟩, 4, true, false, false, false, 3, 4⟩⟩]
def cellsR90 (x : S90) : List Value := [.int .i64 x.f0, .string x.f1.f0, .int .i64 x.f1.f1, .bool x.f1.f2, .bool x.f1.f3, .bool x.f1.f4, .bool x.f1.f5, .int .i64 x.f1.f6, .int .i64 x.f1.f7]
def inner90 : List Value := rows90.flatMap cellsR90
theorem reps_flat90 (W : World) (base : Nat) (ok : Nat → Prop) : ∀ l : List S90, Reps (Kd.M k90 W base ok) 9 l (l.flatMap cellsR90)
  | [] => Reps.none _ _
  | x :: l => Reps.c9 (k90_mkM W base ok x) (reps_flat90 W base ok l)
def ironbarkref20_Table.f : Option (List S90) := some rows90
set_option maxHeartbeats 8000000 in
set_option maxRecDepth 100000 in
theorem ironbarkref20_Table.calls (r : List S90) (w : World) (h : ironbarkref20_Table.f = some r) :
    Calls Try.prog 42 #[] w fun e w' => ∃ v0_ : Value, e = .returned (v0_) ∧ Kd.R k90 90 w' w.heap.size (fun _ => True) v0_ r ∧ Below w.heap.size w w' := by
  obtain rfl : rows90 = r := by simpa [ironbarkref20_Table.f] using h
  clear h
  go_enter Try.func42, Try.ntmps42
  go_wp2_with ((with_reducible refine gate_dst (N := 41) rfl ?_); refine Kd.R_lit k90 w.heap.size 90 ?hg (N := 41) ?hd (w0 := w) (xs := rows90) (inner := inner90) (ok := fun _ => True) (okp := fun _ => True) ?hr ?hp (fun _ hk => hk) trivial (Below.refl _ _) (Nat.le_refl _) (by decide) ?_; (case hd => rfl); (case hg => rfl); (case hr => kernel_rfl); (case hp => exact reps_flat90 _ _ _ _); intro v102 w1 ho2 hb hg_ hnew_; have HO := Aside0.mk ho2; have HB := Aside0.mk hb; clear hg_ hnew_ ho2 hb)
  go_ret
  exact ⟨_, rfl, HO.out, HB.out⟩
end Go.Proofs.Ytfahpihbbkkngaa.P

-- from the text A20
namespace Go.Proofs.Ytfahpihbbkkngaa.P
open Go.RowKit Go.Proofs.YtfahpihbbkkngaaW.PrintWords Go.Proofs.YtfahpihbbkkngaaW.PrintLast Go.Proofs.YtfahpihbbkkngaaW.PrintMore
attribute [local go_sem] max2_int min2_int max_two min_two max_three min_three max_four min_four   -- for this text's walks alone
set_option linter.unusedVariables false
set_option linter.unusedSimpArgs false
def ironbarkref20_Info.l0 : Nat → Int → List (S90) → Int → Option (ByteArray × Int × Bool × Bool × Bool × Bool × Int × Int × Int)
  | 0, _, _, _ => none
  | k + 1, x0, x4, x5 => if x5 < (x4.length : Int) then (if 0 ≤ x5 then (if ((rd_T90 x4 x5).f0) = x0 then (some ((rd_T90 x4 x5).f1.f0, (rd_T90 x4 x5).f1.f1, (rd_T90 x4 x5).f1.f2, (rd_T90 x4 x5).f1.f3, (rd_T90 x4 x5).f1.f4, (rd_T90 x4 x5).f1.f5, (rd_T90 x4 x5).f1.f6, (rd_T90 x4 x5).f1.f7, 0)) else (ironbarkref20_Info.l0 k x0 x4 (wrap64 (x5 + 1)))) else (none)) else (some ((⟨#[]⟩ : ByteArray), 0, false, false, false, false, 0, 0, 1))
def ironbarkref20_Info.f (k : Nat) (a0 : Int) : Option (ByteArray × Int × Bool × Bool × Bool × Bool × Int × Int × Int) := (ironbarkref20_Table.f).bind fun t102 => (ironbarkref20_Info.l0 k a0 t102 0)
theorem ironbarkref20_Info.mono_l : ∀ k, (∀ y0 y1 y2, LeO (ironbarkref20_Info.l0 k y0 y1 y2) (ironbarkref20_Info.l0 (k + 1) y0 y1 y2))
  | 0 => fun _ _ _ r h => by simp [ironbarkref20_Info.l0] at h
  | k + 1 => by
    have ih0 := ironbarkref20_Info.mono_l k
    · intro y0 y1 y2
      unfold ironbarkref20_Info.l0
      repeat' first
      | (with_reducible exact ih0 _ _ _)
      | (with_reducible exact LeO.refl _)
      | (with_reducible exact LeO.none _)
      | (with_reducible refine LeO.ite ?_ ?_)
      | (with_reducible refine LeO.bind ?_ (fun _ => ?_))
      | exact ih0 _ _ _
      | exact LeO.none _
      | refine LeO.ite ?_ ?_
      | refine LeO.bind ?_ (fun _ => ?_)
theorem ironbarkref20_Info.mono : ∀ a0 k, LeO (ironbarkref20_Info.f k a0) (ironbarkref20_Info.f (k + 1) a0) := by
  intro a0 k
  have ih0 := ironbarkref20_Info.mono_l k
  unfold ironbarkref20_Info.f
  repeat' first
      | (with_reducible exact ih0 _ _ _)
      | (with_reducible exact LeO.refl _)
      | (with_reducible exact LeO.none _)
      | (with_reducible refine LeO.ite ?_ ?_)
      | (with_reducible refine LeO.bind ?_ (fun _ => ?_))
      | exact ih0 _ _ _
      | exact LeO.none _
      | refine LeO.ite ?_ ?_
      | refine LeO.bind ?_ (fun _ => ?_)
set_option maxHeartbeats 8000000 in
set_option maxRecDepth 100000 in
theorem ironbarkref20_Info.calls (k : Nat) (a0 : Int) (r1 : ByteArray) (r2 : Int) (r3 : Bool) (r4 : Bool) (r5 : Bool) (r6 : Bool) (r7 : Int) (r8 : Int) (r9 : Int) (w : World) (h : ironbarkref20_Info.f k a0 = some (r1, r2, r3, r4, r5, r6, r7, r8, r9)) :
    Calls Try.prog 20 #[.int .i64 a0] w fun e w' => e = .returned (.tuple #[.agg #[.string r1, .int .i64 r2, .bool r3, .bool r4, .bool r5, .bool r6, .int .i64 r7, .int .i64 r8], .int .i64 r9]) ∧ Below w.heap.size w w' := by
  have hu42 := Try.underlying42
  have HB := Aside0.mk (Below.refl w.heap.size w)
  have H : ((ironbarkref20_Table.f).bind fun t102 => (ironbarkref20_Info.l0 k a0 t102 0)) = some (r1, r2, r3, r4, r5, r6, r7, r8, r9) := h
  clear h
  replace H := Option.bind_eq_some_iff.mp H
  obtain ⟨t102, A20, H⟩ := H
  replace H : (ironbarkref20_Info.l0 k a0 t102 0) = some (r1, r2, r3, r4, r5, r6, r7, r8, r9) := H
  have A2 := Aside0.mk A20
  clear A20
  have H' := Aside0.mk H
  clear H
  go_enter Try.func20, Try.ntmps20
  go_wp2_with (first | ((with_reducible refine gate_dst (N := 2) rfl ?_); refine box_event ?hg (N := 2) ?hd (cs := #[.string (⟨#[]⟩ : ByteArray), .int .i64 0, .bool false, .bool false, .bool false, .bool false, .int .i64 0, .int .i64 0]) (t := 42) ?hr ?_; (case hd => rfl); (case hg => rfl); (case hr => first | (go_simp; done) | (go_simp; rfl)); intro gb101 hg w3 hbox hb; have n0_ := Aside0.mk (below_step (by repeat (first | (with_reducible first | exact HB.out | apply below_alloc | apply pw_below_drewN | apply below_drew1) | exact HB.out)) hb); have n1_ := Aside0.mk (hbox); have n2_ := Aside0.mk ((by rw [hg]; exact (below_size (by repeat (first | (with_reducible first | exact HB.out | apply below_alloc | apply pw_below_drewN | apply below_drew1) | exact HB.out))) : w.heap.size ≤ gb101)); have n3_ := n2_; clear HB; have HB := n0_; have BK101 := n1_; have GW101 := n2_; have GE101 := n3_; clear n0_ n1_ n2_ n3_; clear hb hbox hg) | ((with_reducible refine gate_callee (f := 42) rfl ?_); refine goesL_ (some 6) rfl rfl Try.func42 (by kernel_rfl) rfl #[] rfl (by (try simp only [List.map_toArray, List.map_cons, List.map_nil]); first | done | rfl | (simp only [List.length_drop, List.length_take]; rfl)) ?_; (with_reducible refine (ironbarkref20_Table.calls  t102 _ A2.out).mono ?_); rintro e w4 ⟨v103, rfl, ho0, hb⟩; refine ⟨_, rfl, ?_⟩; have n0_ := Aside0.mk (Kd.R_lower ho0 (below_size (by repeat (first | (with_reducible first | exact HB.out | apply below_alloc | apply pw_below_drewN | apply below_drew1 | refine below_set ?_ GE101.out) | exact HB.out)))); have n1_ := Aside0.mk (blk_below (zk BK101.out) hb); have n2_ := Aside0.mk (below_step (by repeat (first | (with_reducible first | exact HB.out | apply below_alloc | apply pw_below_drewN | apply below_drew1 | refine below_set ?_ GE101.out) | exact HB.out)) hb); clear BK101; clear HB; have HO104 := n0_; have BK101 := n1_; have HB := n2_; clear n0_ n1_ n2_; (try clear hb); (try clear hb2); (try clear hk); (try clear hi); (try clear ho0)))
  go_loopg [5] k (fun kq v5 w' => ∃ (x5_1 : Int) (x102000_1 : ByteArray) (x102001_1 : Int) (x102002_1 : Bool) (x102003_1 : Bool) (x102004_1 : Bool) (x102005_1 : Bool) (x102006_1 : Int) (x102007_1 : Int), v5 = .int .i64 x5_1 ∧ Aside0 (ironbarkref20_Info.l0 kq a0 t102 x5_1 = some (r1, r2, r3, r4, r5, r6, r7, r8, r9)) ∧ Aside0 (kq ≤ k) ∧ Aside0 (Kd.R k90 90 w' w.heap.size (fun _ => True) v103 t102) ∧ Aside0 (w'.heap[gb101]? = some (.cells #[.string x102000_1, .int .i64 x102001_1, .bool x102002_1, .bool x102003_1, .bool x102004_1, .bool x102005_1, .int .i64 x102006_1, .int .i64 x102007_1] 42 (0, 0))) ∧ Aside0 (Below w.heap.size w w'))
  case atStart => exact ⟨(0), ((⟨#[]⟩ : ByteArray)), (0), (false), (false), (false), (false), (0), (0), (by first | rfl | (simp; done) | (generalize ByteArray.toList _ = l_; cases l_ <;> rfl) | (simp [*]; done)), H', ⟨Nat.le_refl _⟩, ⟨by (with_reducible repeat (first | apply Kd.R_alloc | apply Kd.R_drewN | apply Kd.R_drew)); exact HO104.out⟩, ⟨zk BK101.out⟩, ⟨by repeat (first | (with_reducible first | exact HB.out | apply below_alloc | apply pw_below_drewN | apply below_drew1 | refine below_set ?_ GE101.out) | exact HB.out)⟩⟩
  case round =>
    clear H'
    try clear c2
    try clear p2
    try clear c4
    obtain ⟨x5_1, x102000_1, x102001_1, x102002_1, x102003_1, x102004_1, x102005_1, x102006_1, x102007_1, rfl, HA, HK1, HO_4, BK101, HB⟩ := hrel
    cases gk with
    | zero => exact absurd HA.out (by simp [ironbarkref20_Info.l0])
    | succ k1 =>
      have H := HA.out
      clear HA
      simp only [ironbarkref20_Info.l0] at H
      by_cases c5 : x5_1 < (t102.length : Int)
      · rw [if_pos c5] at H
        have c5b0 : decide (x5_1 < (t102.length : Int)) = true := decide_eq_true c5
        clear c5
        by_cases c6 : 0 ≤ x5_1
        · rw [if_pos c6] at H
          have c6b0 : decide (0 ≤ x5_1) = true := decide_eq_true c6
          clear c6
          by_cases c7 : ((rd_T90 t102 x5_1).f0) = a0
          · rw [if_pos c7] at H
            have c7b0 : (((rd_T90 t102 x5_1).f0) == a0) = true := beq_iff_eq.mpr c7
            have c7b1 : (((rd_T90 t102 x5_1).f0) != a0) = false := bne_eq_false_iff_eq.mpr c7
            clear c7
            simp only [Option.some.injEq, Prod.mk.injEq] at H
            obtain ⟨rfl, rfl, rfl, rfl, rfl, rfl, rfl, rfl, rfl⟩ := H
            obtain ⟨Ao8, co8, eo8⟩ := Kd.R_slice HO_4.out
            subst eo8
            have p105 : 0 ≤ (x5_1 : Int) := of_decide_eq_true (by first | (with_reducible assumption) | assumption)
            have q105 : x5_1 < (t102.length : Int) := of_decide_eq_true (by first | (with_reducible assumption) | assumption)
            obtain ⟨ad105, e105, hx105_0, hx105_1, hx105_2, hx105_3, hx105_4, hx105_5, hx105_6, hx105_7, hx105_8⟩ := at_T90 (Kd.R_reads' HO_4.out).2.2 x5_1 p105 q105
            cases e105
            replace p105 := eq_true p105
            replace q105 := eq_true q105
            have p106 : 0 ≤ (x5_1 : Int) := of_decide_eq_true (by first | (with_reducible assumption) | assumption)
            have q106 : x5_1 < (t102.length : Int) := of_decide_eq_true (by first | (with_reducible assumption) | assumption)
            obtain ⟨ad106, e106, hx106_0, hx106_1, hx106_2, hx106_3, hx106_4, hx106_5, hx106_6, hx106_7, hx106_8⟩ := at_T90 (Kd.R_reads' HO_4.out).2.2 x5_1 p106 q106
            obtain rfl : ad105 = ad106 := (by injection e106)
            replace p106 := eq_true p106
            replace q106 := eq_true q106
            have hcz9_0 : wr.cell? ⟨gb101, 0, none⟩ = some (.string x102000_1) := (blk_cell BK101.out 0).trans rfl
            have hcz9_1 : wr.cell? ⟨gb101, 1, none⟩ = some (.int .i64 x102001_1) := (blk_cell BK101.out 1).trans rfl
            have hcz9_2 : wr.cell? ⟨gb101, 2, none⟩ = some (.bool x102002_1) := (blk_cell BK101.out 2).trans rfl
            have hcz9_3 : wr.cell? ⟨gb101, 3, none⟩ = some (.bool x102003_1) := (blk_cell BK101.out 3).trans rfl
            have hcz9_4 : wr.cell? ⟨gb101, 4, none⟩ = some (.bool x102004_1) := (blk_cell BK101.out 4).trans rfl
            have hcz9_5 : wr.cell? ⟨gb101, 5, none⟩ = some (.bool x102005_1) := (blk_cell BK101.out 5).trans rfl
            have hcz9_6 : wr.cell? ⟨gb101, 6, none⟩ = some (.int .i64 x102006_1) := (blk_cell BK101.out 6).trans rfl
            have hcz9_7 : wr.cell? ⟨gb101, 7, none⟩ = some (.int .i64 x102007_1) := (blk_cell BK101.out 7).trans rfl
            have hfz9_0 := blk_frozen BK101.out 0
            have hfz9_1 := blk_frozen BK101.out 1
            have hfz9_2 := blk_frozen BK101.out 2
            have hfz9_3 := blk_frozen BK101.out 3
            have hfz9_4 := blk_frozen BK101.out 4
            have hfz9_5 := blk_frozen BK101.out 5
            have hfz9_6 := blk_frozen BK101.out 6
            have hfz9_7 := blk_frozen BK101.out 7
            go_wp2
            refine bodyPost_ret (results_ct rfl _ _ gb101 42 #[.string ((rd_T90 t102 x5_1).f1.f0), .int .i64 ((rd_T90 t102 x5_1).f1.f1), .bool ((rd_T90 t102 x5_1).f1.f2), .bool ((rd_T90 t102 x5_1).f1.f3), .bool ((rd_T90 t102 x5_1).f1.f4), .bool ((rd_T90 t102 x5_1).f1.f5), .int .i64 ((rd_T90 t102 x5_1).f1.f6), .int .i64 ((rd_T90 t102 x5_1).f1.f7)] (0, 0) _ rfl (by refine zk ?_; refine blk_put (cs := #[.string ((rd_T90 t102 x5_1).f1.f0), .int .i64 ((rd_T90 t102 x5_1).f1.f1), .bool ((rd_T90 t102 x5_1).f1.f2), .bool ((rd_T90 t102 x5_1).f1.f3), .bool ((rd_T90 t102 x5_1).f1.f4), .bool ((rd_T90 t102 x5_1).f1.f5), .int .i64 ((rd_T90 t102 x5_1).f1.f6), .int .i64 x102007_1]) ?_ 7 _ rfl; refine zk ?_; refine blk_put (cs := #[.string ((rd_T90 t102 x5_1).f1.f0), .int .i64 ((rd_T90 t102 x5_1).f1.f1), .bool ((rd_T90 t102 x5_1).f1.f2), .bool ((rd_T90 t102 x5_1).f1.f3), .bool ((rd_T90 t102 x5_1).f1.f4), .bool ((rd_T90 t102 x5_1).f1.f5), .int .i64 x102006_1, .int .i64 x102007_1]) ?_ 6 _ rfl; refine zk ?_; refine blk_put (cs := #[.string ((rd_T90 t102 x5_1).f1.f0), .int .i64 ((rd_T90 t102 x5_1).f1.f1), .bool ((rd_T90 t102 x5_1).f1.f2), .bool ((rd_T90 t102 x5_1).f1.f3), .bool ((rd_T90 t102 x5_1).f1.f4), .bool x102005_1, .int .i64 x102006_1, .int .i64 x102007_1]) ?_ 5 _ rfl; refine zk ?_; refine blk_put (cs := #[.string ((rd_T90 t102 x5_1).f1.f0), .int .i64 ((rd_T90 t102 x5_1).f1.f1), .bool ((rd_T90 t102 x5_1).f1.f2), .bool ((rd_T90 t102 x5_1).f1.f3), .bool x102004_1, .bool x102005_1, .int .i64 x102006_1, .int .i64 x102007_1]) ?_ 4 _ rfl; refine zk ?_; refine blk_put (cs := #[.string ((rd_T90 t102 x5_1).f1.f0), .int .i64 ((rd_T90 t102 x5_1).f1.f1), .bool ((rd_T90 t102 x5_1).f1.f2), .bool x102003_1, .bool x102004_1, .bool x102005_1, .int .i64 x102006_1, .int .i64 x102007_1]) ?_ 3 _ rfl; refine zk ?_; refine blk_put (cs := #[.string ((rd_T90 t102 x5_1).f1.f0), .int .i64 ((rd_T90 t102 x5_1).f1.f1), .bool x102002_1, .bool x102003_1, .bool x102004_1, .bool x102005_1, .int .i64 x102006_1, .int .i64 x102007_1]) ?_ 2 _ rfl; refine zk ?_; refine blk_put (cs := #[.string ((rd_T90 t102 x5_1).f1.f0), .int .i64 x102001_1, .bool x102002_1, .bool x102003_1, .bool x102004_1, .bool x102005_1, .int .i64 x102006_1, .int .i64 x102007_1]) ?_ 1 _ rfl; refine zk ?_; refine blk_put (cs := #[.string x102000_1, .int .i64 x102001_1, .bool x102002_1, .bool x102003_1, .bool x102004_1, .bool x102005_1, .int .i64 x102006_1, .int .i64 x102007_1]) ?_ 0 _ rfl; refine zk ?_; exact BK101.out) Try.underlying42 rfl (by kernel_rfl)) rfl ?_
            exact ⟨by first | rfl | (simp [errW_none, errW_some] <;> rfl) | (simp [*, errW_none, errW_some] <;> rfl), by repeat (first | (with_reducible first | exact HB.out | apply below_alloc | apply pw_below_drewN | apply below_drew1 | refine below_set ?_ GE101.out) | exact HB.out)⟩
          · rw [if_neg c7] at H
            have c7b0 : (((rd_T90 t102 x5_1).f0) == a0) = false := beq_eq_false_iff_ne.mpr c7
            have c7b1 : (((rd_T90 t102 x5_1).f0) != a0) = true := bne_iff_ne.mpr c7
            have H' := Aside0.mk H
            clear H
            obtain ⟨Ao10, co10, eo10⟩ := Kd.R_slice HO_4.out
            subst eo10
            have p105 : 0 ≤ (x5_1 : Int) := of_decide_eq_true (by first | (with_reducible assumption) | assumption)
            have q105 : x5_1 < (t102.length : Int) := of_decide_eq_true (by first | (with_reducible assumption) | assumption)
            obtain ⟨ad105, e105, hx105_0, hx105_1, hx105_2, hx105_3, hx105_4, hx105_5, hx105_6, hx105_7, hx105_8⟩ := at_T90 (Kd.R_reads' HO_4.out).2.2 x5_1 p105 q105
            cases e105
            replace p105 := eq_true p105
            replace q105 := eq_true q105
            go_wp2
            go_roundg k1
            case measure => have := HK1.out; omega
            case rel => exact ⟨(wrap64 (x5_1 + 1)), (x102000_1), (x102001_1), (x102002_1), (x102003_1), (x102004_1), (x102005_1), (x102006_1), (x102007_1), (by first | rfl | (simp; done) | (generalize ByteArray.toList _ = l_; cases l_ <;> rfl) | (simp [*]; done)), H', ⟨by have := HK1.out; omega⟩, ⟨by (with_reducible repeat (first | apply Kd.R_alloc | apply Kd.R_drewN | apply Kd.R_drew)); exact HO_4.out⟩, ⟨zk BK101.out⟩, ⟨by repeat (first | (with_reducible first | exact HB.out | apply below_alloc | apply pw_below_drewN | apply below_drew1 | refine below_set ?_ GE101.out) | exact HB.out)⟩⟩
        · rw [if_neg c6] at H
          exact absurd H (by simp)
      · rw [if_neg c5] at H
        have c5b0 : decide (x5_1 < (t102.length : Int)) = false := decide_eq_false c5
        clear c5
        simp only [Option.some.injEq, Prod.mk.injEq] at H
        obtain ⟨rfl, rfl, rfl, rfl, rfl, rfl, rfl, rfl, rfl⟩ := H
        obtain ⟨Ao11, co11, eo11⟩ := Kd.R_slice HO_4.out
        subst eo11
        have hcz12_0 : wr.cell? ⟨gb101, 0, none⟩ = some (.string x102000_1) := (blk_cell BK101.out 0).trans rfl
        have hcz12_1 : wr.cell? ⟨gb101, 1, none⟩ = some (.int .i64 x102001_1) := (blk_cell BK101.out 1).trans rfl
        have hcz12_2 : wr.cell? ⟨gb101, 2, none⟩ = some (.bool x102002_1) := (blk_cell BK101.out 2).trans rfl
        have hcz12_3 : wr.cell? ⟨gb101, 3, none⟩ = some (.bool x102003_1) := (blk_cell BK101.out 3).trans rfl
        have hcz12_4 : wr.cell? ⟨gb101, 4, none⟩ = some (.bool x102004_1) := (blk_cell BK101.out 4).trans rfl
        have hcz12_5 : wr.cell? ⟨gb101, 5, none⟩ = some (.bool x102005_1) := (blk_cell BK101.out 5).trans rfl
        have hcz12_6 : wr.cell? ⟨gb101, 6, none⟩ = some (.int .i64 x102006_1) := (blk_cell BK101.out 6).trans rfl
        have hcz12_7 : wr.cell? ⟨gb101, 7, none⟩ = some (.int .i64 x102007_1) := (blk_cell BK101.out 7).trans rfl
        have hfz12_0 := blk_frozen BK101.out 0
        have hfz12_1 := blk_frozen BK101.out 1
        have hfz12_2 := blk_frozen BK101.out 2
        have hfz12_3 := blk_frozen BK101.out 3
        have hfz12_4 := blk_frozen BK101.out 4
        have hfz12_5 := blk_frozen BK101.out 5
        have hfz12_6 := blk_frozen BK101.out 6
        have hfz12_7 := blk_frozen BK101.out 7
        go_wp2
        refine bodyPost_ret (results_ct rfl _ _ gb101 42 #[.string (⟨#[]⟩ : ByteArray), .int .i64 0, .bool false, .bool false, .bool false, .bool false, .int .i64 0, .int .i64 0] (0, 0) _ rfl (by refine zk ?_; refine blk_put (cs := #[.string (⟨#[]⟩ : ByteArray), .int .i64 0, .bool false, .bool false, .bool false, .bool false, .int .i64 0, .int .i64 x102007_1]) ?_ 7 _ rfl; refine zk ?_; refine blk_put (cs := #[.string (⟨#[]⟩ : ByteArray), .int .i64 0, .bool false, .bool false, .bool false, .bool false, .int .i64 x102006_1, .int .i64 x102007_1]) ?_ 6 _ rfl; refine zk ?_; refine blk_put (cs := #[.string (⟨#[]⟩ : ByteArray), .int .i64 0, .bool false, .bool false, .bool false, .bool x102005_1, .int .i64 x102006_1, .int .i64 x102007_1]) ?_ 5 _ rfl; refine zk ?_; refine blk_put (cs := #[.string (⟨#[]⟩ : ByteArray), .int .i64 0, .bool false, .bool false, .bool x102004_1, .bool x102005_1, .int .i64 x102006_1, .int .i64 x102007_1]) ?_ 4 _ rfl; refine zk ?_; refine blk_put (cs := #[.string (⟨#[]⟩ : ByteArray), .int .i64 0, .bool false, .bool x102003_1, .bool x102004_1, .bool x102005_1, .int .i64 x102006_1, .int .i64 x102007_1]) ?_ 3 _ rfl; refine zk ?_; refine blk_put (cs := #[.string (⟨#[]⟩ : ByteArray), .int .i64 0, .bool x102002_1, .bool x102003_1, .bool x102004_1, .bool x102005_1, .int .i64 x102006_1, .int .i64 x102007_1]) ?_ 2 _ rfl; refine zk ?_; refine blk_put (cs := #[.string (⟨#[]⟩ : ByteArray), .int .i64 x102001_1, .bool x102002_1, .bool x102003_1, .bool x102004_1, .bool x102005_1, .int .i64 x102006_1, .int .i64 x102007_1]) ?_ 1 _ rfl; refine zk ?_; refine blk_put (cs := #[.string x102000_1, .int .i64 x102001_1, .bool x102002_1, .bool x102003_1, .bool x102004_1, .bool x102005_1, .int .i64 x102006_1, .int .i64 x102007_1]) ?_ 0 _ rfl; refine zk ?_; exact BK101.out) Try.underlying42 rfl (by kernel_rfl)) rfl ?_
        exact ⟨by first | rfl | (simp [errW_none, errW_some] <;> rfl) | (simp [*, errW_none, errW_some] <;> rfl), by repeat (first | (with_reducible first | exact HB.out | apply below_alloc | apply pw_below_drewN | apply below_drew1 | refine below_set ?_ GE101.out) | exact HB.out)⟩
end Go.Proofs.Ytfahpihbbkkngaa.P
