/- Part 6 of the proof of the law CondPlays: functions, contracts and plain laws; merged by this session's program. -/
import Derived.RangeFuncNested
import Derived.RangeFuncBound
import Derived.RangeFuncCalls
import Derived.RangeFuncLeaves
import Derived.Shelf.Abstract
import Derived.WalkKit
import Derived.OwnWalkIn
import Derived.TacticsInMore
import Derived.LoopNIn
import Derived.LoopIn
import Derived.Test.YtfahpihbbkkngaaMCondPlays1
import Derived.Test.YtfahpihbbkkngaaMCondPlays2
import Derived.Test.YtfahpihbbkkngaaMCondPlays3
import Derived.Test.YtfahpihbbkkngaaMCondPlays4
import Derived.Test.YtfahpihbbkkngaaMCondPlays5
-- from the text A44
namespace Go.Proofs.Ytfahpihbbkkngaa.P
open Go.RowKit Go.Proofs.YtfahpihbbkkngaaW.PrintWords Go.Proofs.YtfahpihbbkkngaaW.PrintLast Go.Proofs.YtfahpihbbkkngaaW.PrintMore
attribute [local go_sem] max2_int min2_int max_two min_two max_three min_three max_four min_four   -- for this text's walks alone
set_option linter.unusedVariables false
set_option linter.unusedSimpArgs false
def ironbarkref20_Named.f (k : Nat) (a0 : Int) (a1 : ByteArray) : Option (Bool) := (ironbarkref20_Info.f k a0).bind fun bt101 => (if bt101.2.2.2.2.2.2.2.2 = 0 then (if bt101.2.2.2.2.1 = true then (if (a1.size : Int) ≥ 1 then (some (decide ((a1.size : Int) ≤ 31))) else (some false)) else (if bt101.2.2.2.2.2.1 = true then (if (a1.size : Int) ≥ 1 then (some (decide ((a1.size : Int) ≤ 31))) else (some false)) else (some (a1.toList == ([] : List UInt8))))) else (some false))
set_option maxHeartbeats 8000000 in
set_option maxRecDepth 100000 in
theorem ironbarkref20_Named.calls (k : Nat) (a0 : Int) (a1 : ByteArray) (r : Bool) (w : World) (h : ironbarkref20_Named.f k a0 a1 = some r) :
    Calls Try.prog 44 #[.int .i64 a0, .string a1] w fun e w' => e = .returned (.bool r) ∧ Below w.heap.size w w' := by
  have hu42 := Try.underlying42
  have HB := Aside0.mk (Below.refl w.heap.size w)
  have H : ((ironbarkref20_Info.f k a0).bind fun bt101 => (if bt101.2.2.2.2.2.2.2.2 = 0 then (if bt101.2.2.2.2.1 = true then (if (a1.size : Int) ≥ 1 then (some (decide ((a1.size : Int) ≤ 31))) else (some false)) else (if bt101.2.2.2.2.2.1 = true then (if (a1.size : Int) ≥ 1 then (some (decide ((a1.size : Int) ≤ 31))) else (some false)) else (some (a1.toList == ([] : List UInt8))))) else (some false))) = some r := h
  clear h
  replace H := Option.bind_eq_some_iff.mp H
  obtain ⟨⟨t101, t102, t103, t104, t105, t106, t107, t108, t109⟩, A30, H⟩ := H
  replace H : (if t109 = 0 then (if t105 = true then (if (a1.size : Int) ≥ 1 then (some (decide ((a1.size : Int) ≤ 31))) else (some false)) else (if t106 = true then (if (a1.size : Int) ≥ 1 then (some (decide ((a1.size : Int) ≤ 31))) else (some false)) else (some (a1.toList == ([] : List UInt8))))) else (some false)) = some r := H
  have A3 := Aside0.mk A30
  clear A30
  by_cases c4 : t109 = 0
  · rw [if_pos c4] at H
    have c4b0 : (t109 == 0) = true := beq_iff_eq.mpr c4
    have c4b1 : (t109 != 0) = false := bne_eq_false_iff_eq.mpr c4
    clear c4
    by_cases c5 : t105 = true
    · subst c5
      have H1 : (if (a1.size : Int) ≥ 1 then (some (decide ((a1.size : Int) ≤ 31))) else (some false)) = some r := by rw [if_pos rfl] at H; exact H
      clear H
      have H := H1
      clear H1
      by_cases c6 : (a1.size : Int) ≥ 1
      · rw [if_pos c6] at H
        have c6b0 : decide (1 ≤ (a1.size : Int)) = true := decide_eq_true c6
        have c6b1 : decide (1 ≤ a1.size) = true := decide_eq_true (by omega)
        clear c6
        obtain rfl := Option.some.inj H
        go_enter Try.func44, Try.ntmps44
        go_wp2_with (first | ((with_reducible refine gate_callee (f := 20) rfl ?_); refine goesL_ (some 9) rfl rfl Try.func20 (by kernel_rfl) rfl #[.int .i64 a0] rfl (by (try simp only [List.map_toArray, List.map_cons, List.map_nil]); first | done | rfl | (simp only [List.length_drop, List.length_take]; rfl)) ?_; (with_reducible refine (ironbarkref20_Info.calls k a0 t101 t102 t103 t104 true t106 t107 t108 t109 _ A3.out).mono ?_); rintro e w7 ⟨rfl, hb⟩; refine ⟨_, rfl, ?_⟩; have n0_ := Aside0.mk (below_step (by repeat (first | (with_reducible first | exact HB.out | apply below_alloc | apply pw_below_drewN | apply below_drew1) | exact HB.out)) hb); clear HB; have HB := n0_; clear n0_; (try clear hb); (try clear hb2); (try clear hk); (try clear hi)) | ((with_reducible refine gate_dst (N := 5) rfl ?_); (try (refine gate_guard (by rfl) ?_; dsimp only)); refine box_event ?hg (N := 5) ?hd (cs := #[.string (⟨#[]⟩ : ByteArray), .int .i64 0, .bool false, .bool false, .bool false, .bool false, .int .i64 0, .int .i64 0]) (t := 42) ?hr ?_; (case hd => rfl); (case hg => rfl); (case hr => first | (go_simp; done) | (go_simp; rfl)); intro gb110 hg w8 hbox hb; have n0_ := Aside0.mk (below_step (by repeat (first | (with_reducible first | exact HB.out | apply below_alloc | apply pw_below_drewN | apply below_drew1) | exact HB.out)) hb); have n1_ := Aside0.mk (hbox); have n2_ := Aside0.mk ((by rw [hg]; exact (below_size (by repeat (first | (with_reducible first | exact HB.out | apply below_alloc | apply pw_below_drewN | apply below_drew1) | exact HB.out))) : w.heap.size ≤ gb110)); have n3_ := n2_; clear HB; have HB := n0_; have BK110 := n1_; have GW110 := n2_; have GE110 := n3_; clear n0_ n1_ n2_ n3_; clear hb hbox hg; have hcz9_0 : w8.cell? ⟨gb110, 0, none⟩ = some (.string (⟨#[]⟩ : ByteArray)) := (blk_cell BK110.out 0).trans rfl; have hcz9_1 : w8.cell? ⟨gb110, 1, none⟩ = some (.int .i64 0) := (blk_cell BK110.out 1).trans rfl; have hcz9_2 : w8.cell? ⟨gb110, 2, none⟩ = some (.bool false) := (blk_cell BK110.out 2).trans rfl; have hcz9_3 : w8.cell? ⟨gb110, 3, none⟩ = some (.bool false) := (blk_cell BK110.out 3).trans rfl; have hcz9_4 : w8.cell? ⟨gb110, 4, none⟩ = some (.bool false) := (blk_cell BK110.out 4).trans rfl; have hcz9_5 : w8.cell? ⟨gb110, 5, none⟩ = some (.bool false) := (blk_cell BK110.out 5).trans rfl; have hcz9_6 : w8.cell? ⟨gb110, 6, none⟩ = some (.int .i64 0) := (blk_cell BK110.out 6).trans rfl; have hcz9_7 : w8.cell? ⟨gb110, 7, none⟩ = some (.int .i64 0) := (blk_cell BK110.out 7).trans rfl; obtain ⟨hfz9_0, hfz9_1, hfz9_2, hfz9_3, hfz9_4, hfz9_5⟩ := blk_six_free BK110.out; have hfz9_6 := blk_frozen BK110.out 6; have hfz9_7 := blk_frozen BK110.out 7))
        go_ret
        exact ⟨by first | rfl | (simp [errW_none, errW_some] <;> rfl) | (simp [*, errW_none, errW_some] <;> rfl), by repeat (first | (with_reducible first | exact HB.out | apply below_alloc | apply pw_below_drewN | apply below_drew1 | refine below_set ?_ GE110.out) | exact HB.out)⟩
      · rw [if_neg c6] at H
        have c6b0 : decide (1 ≤ (a1.size : Int)) = false := decide_eq_false c6
        have c6b1 : decide (1 ≤ a1.size) = false := decide_eq_false (by omega)
        clear c6
        obtain rfl := Option.some.inj H
        go_enter Try.func44, Try.ntmps44
        go_wp2_with (first | ((with_reducible refine gate_callee (f := 20) rfl ?_); refine goesL_ (some 9) rfl rfl Try.func20 (by kernel_rfl) rfl #[.int .i64 a0] rfl (by (try simp only [List.map_toArray, List.map_cons, List.map_nil]); first | done | rfl | (simp only [List.length_drop, List.length_take]; rfl)) ?_; (with_reducible refine (ironbarkref20_Info.calls k a0 t101 t102 t103 t104 true t106 t107 t108 t109 _ A3.out).mono ?_); rintro e w10 ⟨rfl, hb⟩; refine ⟨_, rfl, ?_⟩; have n0_ := Aside0.mk (below_step (by repeat (first | (with_reducible first | exact HB.out | apply below_alloc | apply pw_below_drewN | apply below_drew1) | exact HB.out)) hb); clear HB; have HB := n0_; clear n0_; (try clear hb); (try clear hb2); (try clear hk); (try clear hi)) | ((with_reducible refine gate_dst (N := 5) rfl ?_); (try (refine gate_guard (by rfl) ?_; dsimp only)); refine box_event ?hg (N := 5) ?hd (cs := #[.string (⟨#[]⟩ : ByteArray), .int .i64 0, .bool false, .bool false, .bool false, .bool false, .int .i64 0, .int .i64 0]) (t := 42) ?hr ?_; (case hd => rfl); (case hg => rfl); (case hr => first | (go_simp; done) | (go_simp; rfl)); intro gb110 hg w11 hbox hb; have n0_ := Aside0.mk (below_step (by repeat (first | (with_reducible first | exact HB.out | apply below_alloc | apply pw_below_drewN | apply below_drew1) | exact HB.out)) hb); have n1_ := Aside0.mk (hbox); have n2_ := Aside0.mk ((by rw [hg]; exact (below_size (by repeat (first | (with_reducible first | exact HB.out | apply below_alloc | apply pw_below_drewN | apply below_drew1) | exact HB.out))) : w.heap.size ≤ gb110)); have n3_ := n2_; clear HB; have HB := n0_; have BK110 := n1_; have GW110 := n2_; have GE110 := n3_; clear n0_ n1_ n2_ n3_; clear hb hbox hg; have hcz12_0 : w11.cell? ⟨gb110, 0, none⟩ = some (.string (⟨#[]⟩ : ByteArray)) := (blk_cell BK110.out 0).trans rfl; have hcz12_1 : w11.cell? ⟨gb110, 1, none⟩ = some (.int .i64 0) := (blk_cell BK110.out 1).trans rfl; have hcz12_2 : w11.cell? ⟨gb110, 2, none⟩ = some (.bool false) := (blk_cell BK110.out 2).trans rfl; have hcz12_3 : w11.cell? ⟨gb110, 3, none⟩ = some (.bool false) := (blk_cell BK110.out 3).trans rfl; have hcz12_4 : w11.cell? ⟨gb110, 4, none⟩ = some (.bool false) := (blk_cell BK110.out 4).trans rfl; have hcz12_5 : w11.cell? ⟨gb110, 5, none⟩ = some (.bool false) := (blk_cell BK110.out 5).trans rfl; have hcz12_6 : w11.cell? ⟨gb110, 6, none⟩ = some (.int .i64 0) := (blk_cell BK110.out 6).trans rfl; have hcz12_7 : w11.cell? ⟨gb110, 7, none⟩ = some (.int .i64 0) := (blk_cell BK110.out 7).trans rfl; obtain ⟨hfz12_0, hfz12_1, hfz12_2, hfz12_3, hfz12_4, hfz12_5⟩ := blk_six_free BK110.out; have hfz12_6 := blk_frozen BK110.out 6; have hfz12_7 := blk_frozen BK110.out 7))
        go_ret
        exact ⟨by first | rfl | (simp [errW_none, errW_some] <;> rfl) | (simp [*, errW_none, errW_some] <;> rfl), by repeat (first | (with_reducible first | exact HB.out | apply below_alloc | apply pw_below_drewN | apply below_drew1 | refine below_set ?_ GE110.out) | exact HB.out)⟩
    · replace c5 := Bool.eq_false_iff.mpr c5
      subst c5
      have H1 : (if t106 = true then (if (a1.size : Int) ≥ 1 then (some (decide ((a1.size : Int) ≤ 31))) else (some false)) else (some (a1.toList == ([] : List UInt8)))) = some r := by rw [if_neg (show ¬ (false = true) by decide)] at H; exact H
      clear H
      have H := H1
      clear H1
      by_cases c13 : t106 = true
      · subst c13
        have H1 : (if (a1.size : Int) ≥ 1 then (some (decide ((a1.size : Int) ≤ 31))) else (some false)) = some r := by rw [if_pos rfl] at H; exact H
        clear H
        have H := H1
        clear H1
        by_cases c14 : (a1.size : Int) ≥ 1
        · rw [if_pos c14] at H
          have c14b0 : decide (1 ≤ (a1.size : Int)) = true := decide_eq_true c14
          have c14b1 : decide (1 ≤ a1.size) = true := decide_eq_true (by omega)
          clear c14
          obtain rfl := Option.some.inj H
          go_enter Try.func44, Try.ntmps44
          go_wp2_with (first | ((with_reducible refine gate_callee (f := 20) rfl ?_); refine goesL_ (some 9) rfl rfl Try.func20 (by kernel_rfl) rfl #[.int .i64 a0] rfl (by (try simp only [List.map_toArray, List.map_cons, List.map_nil]); first | done | rfl | (simp only [List.length_drop, List.length_take]; rfl)) ?_; (with_reducible refine (ironbarkref20_Info.calls k a0 t101 t102 t103 t104 false true t107 t108 t109 _ A3.out).mono ?_); rintro e w15 ⟨rfl, hb⟩; refine ⟨_, rfl, ?_⟩; have n0_ := Aside0.mk (below_step (by repeat (first | (with_reducible first | exact HB.out | apply below_alloc | apply pw_below_drewN | apply below_drew1) | exact HB.out)) hb); clear HB; have HB := n0_; clear n0_; (try clear hb); (try clear hb2); (try clear hk); (try clear hi)) | ((with_reducible refine gate_dst (N := 5) rfl ?_); (try (refine gate_guard (by rfl) ?_; dsimp only)); refine box_event ?hg (N := 5) ?hd (cs := #[.string (⟨#[]⟩ : ByteArray), .int .i64 0, .bool false, .bool false, .bool false, .bool false, .int .i64 0, .int .i64 0]) (t := 42) ?hr ?_; (case hd => rfl); (case hg => rfl); (case hr => first | (go_simp; done) | (go_simp; rfl)); intro gb110 hg w16 hbox hb; have n0_ := Aside0.mk (below_step (by repeat (first | (with_reducible first | exact HB.out | apply below_alloc | apply pw_below_drewN | apply below_drew1) | exact HB.out)) hb); have n1_ := Aside0.mk (hbox); have n2_ := Aside0.mk ((by rw [hg]; exact (below_size (by repeat (first | (with_reducible first | exact HB.out | apply below_alloc | apply pw_below_drewN | apply below_drew1) | exact HB.out))) : w.heap.size ≤ gb110)); have n3_ := n2_; clear HB; have HB := n0_; have BK110 := n1_; have GW110 := n2_; have GE110 := n3_; clear n0_ n1_ n2_ n3_; clear hb hbox hg; have hcz17_0 : w16.cell? ⟨gb110, 0, none⟩ = some (.string (⟨#[]⟩ : ByteArray)) := (blk_cell BK110.out 0).trans rfl; have hcz17_1 : w16.cell? ⟨gb110, 1, none⟩ = some (.int .i64 0) := (blk_cell BK110.out 1).trans rfl; have hcz17_2 : w16.cell? ⟨gb110, 2, none⟩ = some (.bool false) := (blk_cell BK110.out 2).trans rfl; have hcz17_3 : w16.cell? ⟨gb110, 3, none⟩ = some (.bool false) := (blk_cell BK110.out 3).trans rfl; have hcz17_4 : w16.cell? ⟨gb110, 4, none⟩ = some (.bool false) := (blk_cell BK110.out 4).trans rfl; have hcz17_5 : w16.cell? ⟨gb110, 5, none⟩ = some (.bool false) := (blk_cell BK110.out 5).trans rfl; have hcz17_6 : w16.cell? ⟨gb110, 6, none⟩ = some (.int .i64 0) := (blk_cell BK110.out 6).trans rfl; have hcz17_7 : w16.cell? ⟨gb110, 7, none⟩ = some (.int .i64 0) := (blk_cell BK110.out 7).trans rfl; obtain ⟨hfz17_0, hfz17_1, hfz17_2, hfz17_3, hfz17_4, hfz17_5⟩ := blk_six_free BK110.out; have hfz17_6 := blk_frozen BK110.out 6; have hfz17_7 := blk_frozen BK110.out 7))
          go_ret
          exact ⟨by first | rfl | (simp [errW_none, errW_some] <;> rfl) | (simp [*, errW_none, errW_some] <;> rfl), by repeat (first | (with_reducible first | exact HB.out | apply below_alloc | apply pw_below_drewN | apply below_drew1 | refine below_set ?_ GE110.out) | exact HB.out)⟩
        · rw [if_neg c14] at H
          have c14b0 : decide (1 ≤ (a1.size : Int)) = false := decide_eq_false c14
          have c14b1 : decide (1 ≤ a1.size) = false := decide_eq_false (by omega)
          clear c14
          obtain rfl := Option.some.inj H
          go_enter Try.func44, Try.ntmps44
          go_wp2_with (first | ((with_reducible refine gate_callee (f := 20) rfl ?_); refine goesL_ (some 9) rfl rfl Try.func20 (by kernel_rfl) rfl #[.int .i64 a0] rfl (by (try simp only [List.map_toArray, List.map_cons, List.map_nil]); first | done | rfl | (simp only [List.length_drop, List.length_take]; rfl)) ?_; (with_reducible refine (ironbarkref20_Info.calls k a0 t101 t102 t103 t104 false true t107 t108 t109 _ A3.out).mono ?_); rintro e w18 ⟨rfl, hb⟩; refine ⟨_, rfl, ?_⟩; have n0_ := Aside0.mk (below_step (by repeat (first | (with_reducible first | exact HB.out | apply below_alloc | apply pw_below_drewN | apply below_drew1) | exact HB.out)) hb); clear HB; have HB := n0_; clear n0_; (try clear hb); (try clear hb2); (try clear hk); (try clear hi)) | ((with_reducible refine gate_dst (N := 5) rfl ?_); (try (refine gate_guard (by rfl) ?_; dsimp only)); refine box_event ?hg (N := 5) ?hd (cs := #[.string (⟨#[]⟩ : ByteArray), .int .i64 0, .bool false, .bool false, .bool false, .bool false, .int .i64 0, .int .i64 0]) (t := 42) ?hr ?_; (case hd => rfl); (case hg => rfl); (case hr => first | (go_simp; done) | (go_simp; rfl)); intro gb110 hg w19 hbox hb; have n0_ := Aside0.mk (below_step (by repeat (first | (with_reducible first | exact HB.out | apply below_alloc | apply pw_below_drewN | apply below_drew1) | exact HB.out)) hb); have n1_ := Aside0.mk (hbox); have n2_ := Aside0.mk ((by rw [hg]; exact (below_size (by repeat (first | (with_reducible first | exact HB.out | apply below_alloc | apply pw_below_drewN | apply below_drew1) | exact HB.out))) : w.heap.size ≤ gb110)); have n3_ := n2_; clear HB; have HB := n0_; have BK110 := n1_; have GW110 := n2_; have GE110 := n3_; clear n0_ n1_ n2_ n3_; clear hb hbox hg; have hcz20_0 : w19.cell? ⟨gb110, 0, none⟩ = some (.string (⟨#[]⟩ : ByteArray)) := (blk_cell BK110.out 0).trans rfl; have hcz20_1 : w19.cell? ⟨gb110, 1, none⟩ = some (.int .i64 0) := (blk_cell BK110.out 1).trans rfl; have hcz20_2 : w19.cell? ⟨gb110, 2, none⟩ = some (.bool false) := (blk_cell BK110.out 2).trans rfl; have hcz20_3 : w19.cell? ⟨gb110, 3, none⟩ = some (.bool false) := (blk_cell BK110.out 3).trans rfl; have hcz20_4 : w19.cell? ⟨gb110, 4, none⟩ = some (.bool false) := (blk_cell BK110.out 4).trans rfl; have hcz20_5 : w19.cell? ⟨gb110, 5, none⟩ = some (.bool false) := (blk_cell BK110.out 5).trans rfl; have hcz20_6 : w19.cell? ⟨gb110, 6, none⟩ = some (.int .i64 0) := (blk_cell BK110.out 6).trans rfl; have hcz20_7 : w19.cell? ⟨gb110, 7, none⟩ = some (.int .i64 0) := (blk_cell BK110.out 7).trans rfl; obtain ⟨hfz20_0, hfz20_1, hfz20_2, hfz20_3, hfz20_4, hfz20_5⟩ := blk_six_free BK110.out; have hfz20_6 := blk_frozen BK110.out 6; have hfz20_7 := blk_frozen BK110.out 7))
          go_ret
          exact ⟨by first | rfl | (simp [errW_none, errW_some] <;> rfl) | (simp [*, errW_none, errW_some] <;> rfl), by repeat (first | (with_reducible first | exact HB.out | apply below_alloc | apply pw_below_drewN | apply below_drew1 | refine below_set ?_ GE110.out) | exact HB.out)⟩
      · replace c13 := Bool.eq_false_iff.mpr c13
        subst c13
        have H1 : (some (a1.toList == ([] : List UInt8))) = some r := by rw [if_neg (show ¬ (false = true) by decide)] at H; exact H
        clear H
        have H := H1
        clear H1
        obtain rfl := Option.some.inj H
        go_enter Try.func44, Try.ntmps44
        go_wp2_with (first | ((with_reducible refine gate_callee (f := 20) rfl ?_); refine goesL_ (some 9) rfl rfl Try.func20 (by kernel_rfl) rfl #[.int .i64 a0] rfl (by (try simp only [List.map_toArray, List.map_cons, List.map_nil]); first | done | rfl | (simp only [List.length_drop, List.length_take]; rfl)) ?_; (with_reducible refine (ironbarkref20_Info.calls k a0 t101 t102 t103 t104 false false t107 t108 t109 _ A3.out).mono ?_); rintro e w21 ⟨rfl, hb⟩; refine ⟨_, rfl, ?_⟩; have n0_ := Aside0.mk (below_step (by repeat (first | (with_reducible first | exact HB.out | apply below_alloc | apply pw_below_drewN | apply below_drew1) | exact HB.out)) hb); clear HB; have HB := n0_; clear n0_; (try clear hb); (try clear hb2); (try clear hk); (try clear hi)) | ((with_reducible refine gate_dst (N := 5) rfl ?_); (try (refine gate_guard (by rfl) ?_; dsimp only)); refine box_event ?hg (N := 5) ?hd (cs := #[.string (⟨#[]⟩ : ByteArray), .int .i64 0, .bool false, .bool false, .bool false, .bool false, .int .i64 0, .int .i64 0]) (t := 42) ?hr ?_; (case hd => rfl); (case hg => rfl); (case hr => first | (go_simp; done) | (go_simp; rfl)); intro gb110 hg w22 hbox hb; have n0_ := Aside0.mk (below_step (by repeat (first | (with_reducible first | exact HB.out | apply below_alloc | apply pw_below_drewN | apply below_drew1) | exact HB.out)) hb); have n1_ := Aside0.mk (hbox); have n2_ := Aside0.mk ((by rw [hg]; exact (below_size (by repeat (first | (with_reducible first | exact HB.out | apply below_alloc | apply pw_below_drewN | apply below_drew1) | exact HB.out))) : w.heap.size ≤ gb110)); have n3_ := n2_; clear HB; have HB := n0_; have BK110 := n1_; have GW110 := n2_; have GE110 := n3_; clear n0_ n1_ n2_ n3_; clear hb hbox hg; have hcz23_0 : w22.cell? ⟨gb110, 0, none⟩ = some (.string (⟨#[]⟩ : ByteArray)) := (blk_cell BK110.out 0).trans rfl; have hcz23_1 : w22.cell? ⟨gb110, 1, none⟩ = some (.int .i64 0) := (blk_cell BK110.out 1).trans rfl; have hcz23_2 : w22.cell? ⟨gb110, 2, none⟩ = some (.bool false) := (blk_cell BK110.out 2).trans rfl; have hcz23_3 : w22.cell? ⟨gb110, 3, none⟩ = some (.bool false) := (blk_cell BK110.out 3).trans rfl; have hcz23_4 : w22.cell? ⟨gb110, 4, none⟩ = some (.bool false) := (blk_cell BK110.out 4).trans rfl; have hcz23_5 : w22.cell? ⟨gb110, 5, none⟩ = some (.bool false) := (blk_cell BK110.out 5).trans rfl; have hcz23_6 : w22.cell? ⟨gb110, 6, none⟩ = some (.int .i64 0) := (blk_cell BK110.out 6).trans rfl; have hcz23_7 : w22.cell? ⟨gb110, 7, none⟩ = some (.int .i64 0) := (blk_cell BK110.out 7).trans rfl; obtain ⟨hfz23_0, hfz23_1, hfz23_2, hfz23_3, hfz23_4, hfz23_5⟩ := blk_six_free BK110.out; have hfz23_6 := blk_frozen BK110.out 6; have hfz23_7 := blk_frozen BK110.out 7))
        go_ret
        exact ⟨by first | rfl | (simp [errW_none, errW_some] <;> rfl) | (simp [*, errW_none, errW_some] <;> rfl), by repeat (first | (with_reducible first | exact HB.out | apply below_alloc | apply pw_below_drewN | apply below_drew1 | refine below_set ?_ GE110.out) | exact HB.out)⟩
  · rw [if_neg c4] at H
    have c4b0 : (t109 == 0) = false := beq_eq_false_iff_ne.mpr c4
    have c4b1 : (t109 != 0) = true := bne_iff_ne.mpr c4
    obtain rfl := Option.some.inj H
    go_enter Try.func44, Try.ntmps44
    go_wp2_with (first | ((with_reducible refine gate_callee (f := 20) rfl ?_); refine goesL_ (some 9) rfl rfl Try.func20 (by kernel_rfl) rfl #[.int .i64 a0] rfl (by (try simp only [List.map_toArray, List.map_cons, List.map_nil]); first | done | rfl | (simp only [List.length_drop, List.length_take]; rfl)) ?_; (with_reducible refine (ironbarkref20_Info.calls k a0 t101 t102 t103 t104 t105 t106 t107 t108 t109 _ A3.out).mono ?_); rintro e w24 ⟨rfl, hb⟩; refine ⟨_, rfl, ?_⟩; have n0_ := Aside0.mk (below_step (by repeat (first | (with_reducible first | exact HB.out | apply below_alloc | apply pw_below_drewN | apply below_drew1) | exact HB.out)) hb); clear HB; have HB := n0_; clear n0_; (try clear hb); (try clear hb2); (try clear hk); (try clear hi)) | ((with_reducible refine gate_dst (N := 5) rfl ?_); (try (refine gate_guard (by rfl) ?_; dsimp only)); refine box_event ?hg (N := 5) ?hd (cs := #[.string (⟨#[]⟩ : ByteArray), .int .i64 0, .bool false, .bool false, .bool false, .bool false, .int .i64 0, .int .i64 0]) (t := 42) ?hr ?_; (case hd => rfl); (case hg => rfl); (case hr => first | (go_simp; done) | (go_simp; rfl)); intro gb110 hg w25 hbox hb; have n0_ := Aside0.mk (below_step (by repeat (first | (with_reducible first | exact HB.out | apply below_alloc | apply pw_below_drewN | apply below_drew1) | exact HB.out)) hb); have n1_ := Aside0.mk (hbox); have n2_ := Aside0.mk ((by rw [hg]; exact (below_size (by repeat (first | (with_reducible first | exact HB.out | apply below_alloc | apply pw_below_drewN | apply below_drew1) | exact HB.out))) : w.heap.size ≤ gb110)); have n3_ := n2_; clear HB; have HB := n0_; have BK110 := n1_; have GW110 := n2_; have GE110 := n3_; clear n0_ n1_ n2_ n3_; clear hb hbox hg; have hcz26_0 : w25.cell? ⟨gb110, 0, none⟩ = some (.string (⟨#[]⟩ : ByteArray)) := (blk_cell BK110.out 0).trans rfl; have hcz26_1 : w25.cell? ⟨gb110, 1, none⟩ = some (.int .i64 0) := (blk_cell BK110.out 1).trans rfl; have hcz26_2 : w25.cell? ⟨gb110, 2, none⟩ = some (.bool false) := (blk_cell BK110.out 2).trans rfl; have hcz26_3 : w25.cell? ⟨gb110, 3, none⟩ = some (.bool false) := (blk_cell BK110.out 3).trans rfl; have hcz26_4 : w25.cell? ⟨gb110, 4, none⟩ = some (.bool false) := (blk_cell BK110.out 4).trans rfl; have hcz26_5 : w25.cell? ⟨gb110, 5, none⟩ = some (.bool false) := (blk_cell BK110.out 5).trans rfl; have hcz26_6 : w25.cell? ⟨gb110, 6, none⟩ = some (.int .i64 0) := (blk_cell BK110.out 6).trans rfl; have hcz26_7 : w25.cell? ⟨gb110, 7, none⟩ = some (.int .i64 0) := (blk_cell BK110.out 7).trans rfl; obtain ⟨hfz26_0, hfz26_1, hfz26_2, hfz26_3, hfz26_4, hfz26_5⟩ := blk_six_free BK110.out; have hfz26_6 := blk_frozen BK110.out 6; have hfz26_7 := blk_frozen BK110.out 7))
    go_ret
    exact ⟨by first | rfl | (simp [errW_none, errW_some] <;> rfl) | (simp [*, errW_none, errW_some] <;> rfl), by repeat (first | (with_reducible first | exact HB.out | apply below_alloc | apply pw_below_drewN | apply below_drew1 | refine below_set ?_ GE110.out) | exact HB.out)⟩
/-- THE ONE PURE STATEMENT of ironbarkref20_Named: yours. -/
def ironbarkref20_Named.Pure : Prop := ∀ (a0 : Int) (a1 : ByteArray), (Lit.int .i64 a0).wf = true → a1.size ≤ 140737488351232 → ∃ k, ironbarkref20_Named.f k a0 a1 = some true
theorem ironbarkref20_Named.walk (P : ironbarkref20_Named.Pure) (a0 : Int) (a1 : ByteArray) (w : World) (w0 : (Lit.int .i64 a0).wf = true) (w1 : a1.size ≤ 140737488351232) :
    Calls Try.prog 44 #[.int .i64 a0, .string a1] w fun e w' => e = .returned (.bool true) ∧ Below w.heap.size w w' := by
  obtain ⟨k, h⟩ := P a0 a1 w0 w1
  refine (ironbarkref20_Named.calls k a0 a1 true w h).mono ?_
  rintro e w' ⟨rfl, hd⟩
  exact ⟨rfl, hd⟩
end Go.Proofs.Ytfahpihbbkkngaa.P

-- from the text A41
namespace Go.Proofs.Ytfahpihbbkkngaa.P
open Go.RowKit Go.Proofs.YtfahpihbbkkngaaW.PrintWords Go.Proofs.YtfahpihbbkkngaaW.PrintLast Go.Proofs.YtfahpihbbkkngaaW.PrintMore
attribute [local go_sem] max2_int min2_int max_two min_two max_three min_three max_four min_four   -- for this text's walks alone
set_option linter.unusedVariables false
set_option linter.unusedSimpArgs false
def ironbarkref20_Valid.f (k : Nat) (a0_0 : Int) (a0_1 : ByteArray) (a0_2 : Int) : Option (Bool) := (ironbarkref20_Named.f k a0_0 a0_1).bind fun t102 => (if t102 = true then (some (decide (a0_2 ≥ (-2)))) else (some false))
set_option maxHeartbeats 8000000 in
set_option maxRecDepth 100000 in
theorem ironbarkref20_Valid.calls (k : Nat) (a0_0 : Int) (a0_1 : ByteArray) (a0_2 : Int) (r : Bool) (w : World) (h : ironbarkref20_Valid.f k a0_0 a0_1 a0_2 = some r) :
    Calls Try.prog 41 #[.agg #[.int .i64 a0_0, .string a0_1, .int .i64 a0_2]] w fun e w' => e = .returned (.bool r) ∧ Below w.heap.size w w' := by
  have hu24 := Try.underlying24
  have HB := Aside0.mk (Below.refl w.heap.size w)
  have H : ((ironbarkref20_Named.f k a0_0 a0_1).bind fun t102 => (if t102 = true then (some (decide (a0_2 ≥ (-2)))) else (some false))) = some r := h
  clear h
  replace H := Option.bind_eq_some_iff.mp H
  obtain ⟨t102, A20, H⟩ := H
  replace H : (if t102 = true then (some (decide (a0_2 ≥ (-2)))) else (some false)) = some r := H
  have A2 := Aside0.mk A20
  clear A20
  by_cases c3 : t102 = true
  · subst c3
    have H1 : (some (decide (a0_2 ≥ (-2)))) = some r := by rw [if_pos rfl] at H; exact H
    clear H
    have H := H1
    clear H1
    obtain rfl := Option.some.inj H
    go_enter Try.func41, Try.ntmps41
    go_wp2_with (first | ((with_reducible refine gate_dst (N := 1) rfl ?_); refine box_event ?hg (N := 1) ?hd (cs := #[.int .i64 a0_0, .string a0_1, .int .i64 a0_2]) (t := 24) ?hr ?_; (case hd => rfl); (case hg => rfl); (case hr => first | (go_simp; done) | (go_simp; rfl)); intro gb101 hg w4 hbox hb; have n0_ := Aside0.mk (below_step (by repeat (first | (with_reducible first | exact HB.out | apply below_alloc | apply pw_below_drewN | apply below_drew1) | exact HB.out)) hb); have n1_ := Aside0.mk (hbox); have n2_ := Aside0.mk ((by rw [hg]; exact (below_size (by repeat (first | (with_reducible first | exact HB.out | apply below_alloc | apply pw_below_drewN | apply below_drew1) | exact HB.out))) : w.heap.size ≤ gb101)); have n3_ := n2_; clear HB; have HB := n0_; have BK101 := n1_; have GW101 := n2_; have GE101 := n3_; clear n0_ n1_ n2_ n3_; clear hb hbox hg; have hcz5_0 : w4.cell? ⟨gb101, 0, none⟩ = some (.int .i64 a0_0) := (blk_cell BK101.out 0).trans rfl; have hcz5_1 : w4.cell? ⟨gb101, 1, none⟩ = some (.string a0_1) := (blk_cell BK101.out 1).trans rfl; have hcz5_2 : w4.cell? ⟨gb101, 2, none⟩ = some (.int .i64 a0_2) := (blk_cell BK101.out 2).trans rfl; have hfz5_0 := blk_frozen BK101.out 0; have hfz5_1 := blk_frozen BK101.out 1; have hfz5_2 := blk_frozen BK101.out 2) | ((with_reducible refine gate_callee (f := 44) rfl ?_); refine goesL_ (some 7) rfl rfl Try.func44 (by kernel_rfl) rfl #[.int .i64 a0_0, .string a0_1] rfl (by (try simp only [List.map_toArray, List.map_cons, List.map_nil]); first | done | rfl | (simp only [List.length_drop, List.length_take]; rfl)) ?_; (with_reducible refine (ironbarkref20_Named.calls k a0_0 a0_1 true _ A2.out).mono ?_); rintro e w6 ⟨rfl, hb⟩; refine ⟨_, rfl, ?_⟩; have n0_ := Aside0.mk (blk_below (zk BK101.out) hb); have n1_ := Aside0.mk (below_step (by repeat (first | (with_reducible first | exact HB.out | apply below_alloc | apply pw_below_drewN | apply below_drew1 | refine below_set ?_ GE101.out) | exact HB.out)) hb); clear BK101; clear HB; have BK101 := n0_; have HB := n1_; clear n0_ n1_; (try clear hb); (try clear hb2); (try clear hk); (try clear hi); have hcz7_0 : w6.cell? ⟨gb101, 0, none⟩ = some (.int .i64 a0_0) := (blk_cell BK101.out 0).trans rfl; have hcz7_1 : w6.cell? ⟨gb101, 1, none⟩ = some (.string a0_1) := (blk_cell BK101.out 1).trans rfl; have hcz7_2 : w6.cell? ⟨gb101, 2, none⟩ = some (.int .i64 a0_2) := (blk_cell BK101.out 2).trans rfl; have hfz7_0 := blk_frozen BK101.out 0; have hfz7_1 := blk_frozen BK101.out 1; have hfz7_2 := blk_frozen BK101.out 2))
    go_ret
    exact ⟨by first | rfl | (simp [errW_none, errW_some] <;> rfl) | (simp [*, errW_none, errW_some] <;> rfl), by repeat (first | (with_reducible first | exact HB.out | apply below_alloc | apply pw_below_drewN | apply below_drew1 | refine below_set ?_ GE101.out) | exact HB.out)⟩
  · replace c3 := Bool.eq_false_iff.mpr c3
    subst c3
    have H1 : (some false) = some r := by rw [if_neg (show ¬ (false = true) by decide)] at H; exact H
    clear H
    have H := H1
    clear H1
    obtain rfl := Option.some.inj H
    go_enter Try.func41, Try.ntmps41
    go_wp2_with (first | ((with_reducible refine gate_dst (N := 1) rfl ?_); refine box_event ?hg (N := 1) ?hd (cs := #[.int .i64 a0_0, .string a0_1, .int .i64 a0_2]) (t := 24) ?hr ?_; (case hd => rfl); (case hg => rfl); (case hr => first | (go_simp; done) | (go_simp; rfl)); intro gb101 hg w8 hbox hb; have n0_ := Aside0.mk (below_step (by repeat (first | (with_reducible first | exact HB.out | apply below_alloc | apply pw_below_drewN | apply below_drew1) | exact HB.out)) hb); have n1_ := Aside0.mk (hbox); have n2_ := Aside0.mk ((by rw [hg]; exact (below_size (by repeat (first | (with_reducible first | exact HB.out | apply below_alloc | apply pw_below_drewN | apply below_drew1) | exact HB.out))) : w.heap.size ≤ gb101)); have n3_ := n2_; clear HB; have HB := n0_; have BK101 := n1_; have GW101 := n2_; have GE101 := n3_; clear n0_ n1_ n2_ n3_; clear hb hbox hg; have hcz9_0 : w8.cell? ⟨gb101, 0, none⟩ = some (.int .i64 a0_0) := (blk_cell BK101.out 0).trans rfl; have hcz9_1 : w8.cell? ⟨gb101, 1, none⟩ = some (.string a0_1) := (blk_cell BK101.out 1).trans rfl; have hcz9_2 : w8.cell? ⟨gb101, 2, none⟩ = some (.int .i64 a0_2) := (blk_cell BK101.out 2).trans rfl; have hfz9_0 := blk_frozen BK101.out 0; have hfz9_1 := blk_frozen BK101.out 1; have hfz9_2 := blk_frozen BK101.out 2) | ((with_reducible refine gate_callee (f := 44) rfl ?_); refine goesL_ (some 7) rfl rfl Try.func44 (by kernel_rfl) rfl #[.int .i64 a0_0, .string a0_1] rfl (by (try simp only [List.map_toArray, List.map_cons, List.map_nil]); first | done | rfl | (simp only [List.length_drop, List.length_take]; rfl)) ?_; (with_reducible refine (ironbarkref20_Named.calls k a0_0 a0_1 false _ A2.out).mono ?_); rintro e w10 ⟨rfl, hb⟩; refine ⟨_, rfl, ?_⟩; have n0_ := Aside0.mk (blk_below (zk BK101.out) hb); have n1_ := Aside0.mk (below_step (by repeat (first | (with_reducible first | exact HB.out | apply below_alloc | apply pw_below_drewN | apply below_drew1 | refine below_set ?_ GE101.out) | exact HB.out)) hb); clear BK101; clear HB; have BK101 := n0_; have HB := n1_; clear n0_ n1_; (try clear hb); (try clear hb2); (try clear hk); (try clear hi)))
    go_ret
    exact ⟨by first | rfl | (simp [errW_none, errW_some] <;> rfl) | (simp [*, errW_none, errW_some] <;> rfl), by repeat (first | (with_reducible first | exact HB.out | apply below_alloc | apply pw_below_drewN | apply below_drew1 | refine below_set ?_ GE101.out) | exact HB.out)⟩
end Go.Proofs.Ytfahpihbbkkngaa.P

-- from the text A43
namespace Go.Proofs.Ytfahpihbbkkngaa.P
open Go.RowKit Go.Proofs.YtfahpihbbkkngaaW.PrintWords Go.Proofs.YtfahpihbbkkngaaW.PrintLast Go.Proofs.YtfahpihbbkkngaaW.PrintMore
attribute [local go_sem] max2_int min2_int max_two min_two max_three min_three max_four min_four   -- for this text's walks alone
set_option linter.unusedVariables false
set_option linter.unusedSimpArgs false
def ironbarkref20_Bit.f (a0 : Int) : Option (Int) := if 0 ≤ a0 then (some (shl .i64 1 a0)) else (none)
set_option maxHeartbeats 8000000 in
set_option maxRecDepth 100000 in
theorem ironbarkref20_Bit.calls (a0 : Int) (r : Int) (w : World) (h : ironbarkref20_Bit.f a0 = some r) :
    Calls Try.prog 43 #[.int .i64 a0] w fun e w' => e = .returned (.int .i64 r) ∧ Drawn0 w w' := by
  have H : (if 0 ≤ a0 then (some (shl .i64 1 a0)) else (none)) = some r := h
  clear h
  by_cases c2 : 0 ≤ a0
  · rw [if_pos c2] at H
    have c2b0 := eq_true c2
    have c2b1 : decide (0 ≤ a0) = true := decide_eq_true c2
    clear c2
    obtain ⟨ji3, hji3⟩ : ∃ j_ : Int, (shl .i64 1 a0) = j_ := ⟨_, rfl⟩
    replace H : (some ji3) = some r := by first | (rw [hji3] at H; exact H) | (simp only [hji3] at H ⊢; exact H)
    have hji3_ : (IntKind.i64.wrap (1 * 2 ^ min a0.toNat 64)) = ji3 := hji3
    have hji3z : a0 ≤ 64 → (IntKind.i64.wrap (1 * 2 ^ a0.toNat)) = ji3 := shl_small hji3
    have hji3u : (IntKind.i64.wrap (2 ^ min a0.toNat 64)) = ji3 := by have h_ := hji3_; rw [Int.one_mul] at h_; exact h_
    have hji3v : a0 ≤ 64 → (IntKind.i64.wrap (2 ^ a0.toNat)) = ji3 := fun hle_ => by have h_ := hji3z hle_; rw [Int.one_mul] at h_; exact h_
    have hji3y : (wrap64 (1 * 2 ^ min a0.toNat 64)) = ji3 := (i64_w _).symm.trans hji3_
    have hji3x : a0 ≤ 64 → (wrap64 (1 * 2 ^ a0.toNat)) = ji3 := fun h_ => (i64_w _).symm.trans (hji3z h_)
    obtain rfl := Option.some.inj H
    go_enter Try.func43, Try.ntmps43
    go_wp2
    go_ret
    exact ⟨by first | rfl | (simp; done) | (simp only [← hji3] <;> (first | rfl | simp)) | (simp [*]; done), by repeat (first | exact Drawn0.refl _ | apply Drawn0.step)⟩
  · rw [if_neg c2] at H
    exact absurd H (by simp)
end Go.Proofs.Ytfahpihbbkkngaa.P

-- from the text A24
namespace Go.Proofs.Ytfahpihbbkkngaa.P
open Go.RowKit Go.Proofs.YtfahpihbbkkngaaW.PrintWords Go.Proofs.YtfahpihbbkkngaaW.PrintLast Go.Proofs.YtfahpihbbkkngaaW.PrintMore
attribute [local go_sem] max2_int min2_int max_two min_two max_three min_three max_four min_four   -- for this text's walks alone
set_option linter.unusedVariables false
set_option linter.unusedSimpArgs false
def ironbarkref20_Enabled.f (k : Nat) (a0 : Int) (a1 : Int) : Option (Bool) := (ironbarkref20_Info.f k a1).bind fun bt101 => (if bt101.2.2.2.2.2.2.2.2 = 0 then (if bt101.2.2.2.1 = true then ((ironbarkref20_Bit.f a1).bind fun t111 => (some ((Go.bits .and .i64 a0 t111) != 0))) else (some true)) else (some false))
set_option maxHeartbeats 8000000 in
set_option maxRecDepth 100000 in
theorem ironbarkref20_Enabled.calls (k : Nat) (a0 : Int) (a1 : Int) (r : Bool) (w : World) (h : ironbarkref20_Enabled.f k a0 a1 = some r) :
    Calls Try.prog 24 #[.int .i64 a0, .int .i64 a1] w fun e w' => e = .returned (.bool r) ∧ Below w.heap.size w w' := by
  have hu42 := Try.underlying42
  have HB := Aside0.mk (Below.refl w.heap.size w)
  have H : ((ironbarkref20_Info.f k a1).bind fun bt101 => (if bt101.2.2.2.2.2.2.2.2 = 0 then (if bt101.2.2.2.1 = true then ((ironbarkref20_Bit.f a1).bind fun t111 => (some ((Go.bits .and .i64 a0 t111) != 0))) else (some true)) else (some false))) = some r := h
  clear h
  replace H := Option.bind_eq_some_iff.mp H
  obtain ⟨⟨t101, t102, t103, t104, t105, t106, t107, t108, t109⟩, A30, H⟩ := H
  replace H : (if t109 = 0 then (if t104 = true then ((ironbarkref20_Bit.f a1).bind fun t111 => (some ((Go.bits .and .i64 a0 t111) != 0))) else (some true)) else (some false)) = some r := H
  have A3 := Aside0.mk A30
  clear A30
  by_cases c4 : t109 = 0
  · rw [if_pos c4] at H
    have c4b0 : (t109 == 0) = true := beq_iff_eq.mpr c4
    have c4b1 : (t109 != 0) = false := bne_eq_false_iff_eq.mpr c4
    clear c4
    by_cases c5 : t104 = true
    · subst c5
      have H1 : ((ironbarkref20_Bit.f a1).bind fun t111 => (some ((Go.bits .and .i64 a0 t111) != 0))) = some r := by rw [if_pos rfl] at H; exact H
      clear H
      have H := H1
      clear H1
      replace H := Option.bind_eq_some_iff.mp H
      obtain ⟨t111, A60, H⟩ := H
      replace H : (some ((Go.bits .and .i64 a0 t111) != 0)) = some r := H
      have A6 := Aside0.mk A60
      clear A60
      obtain rfl := Option.some.inj H
      go_enter Try.func24, Try.ntmps24
      go_wp2_with (first | ((with_reducible refine gate_callee (f := 20) rfl ?_); refine goesL_ (some 9) rfl rfl Try.func20 (by kernel_rfl) rfl #[.int .i64 a1] rfl (by (try simp only [List.map_toArray, List.map_cons, List.map_nil]); first | done | rfl | (simp only [List.length_drop, List.length_take]; rfl)) ?_; (with_reducible refine (ironbarkref20_Info.calls k a1 t101 t102 t103 true t105 t106 t107 t108 t109 _ A3.out).mono ?_); rintro e w7 ⟨rfl, hb⟩; refine ⟨_, rfl, ?_⟩; have n0_ := Aside0.mk (below_step (by repeat (first | (with_reducible first | exact HB.out | apply below_alloc | apply pw_below_drewN | apply below_drew1) | exact HB.out)) hb); clear HB; have HB := n0_; clear n0_; (try clear hb); (try clear hb2); (try clear hk); (try clear hi)) | ((with_reducible refine gate_dst (N := 5) rfl ?_); refine box_event ?hg (N := 5) ?hd (cs := #[.string (⟨#[]⟩ : ByteArray), .int .i64 0, .bool false, .bool false, .bool false, .bool false, .int .i64 0, .int .i64 0]) (t := 42) ?hr ?_; (case hd => rfl); (case hg => rfl); (case hr => first | (go_simp; done) | (go_simp; rfl)); intro gb110 hg w8 hbox hb; have n0_ := Aside0.mk (below_step (by repeat (first | (with_reducible first | exact HB.out | apply below_alloc | apply pw_below_drewN | apply below_drew1) | exact HB.out)) hb); have n1_ := Aside0.mk (hbox); have n2_ := Aside0.mk ((by rw [hg]; exact (below_size (by repeat (first | (with_reducible first | exact HB.out | apply below_alloc | apply pw_below_drewN | apply below_drew1) | exact HB.out))) : w.heap.size ≤ gb110)); have n3_ := n2_; clear HB; have HB := n0_; have BK110 := n1_; have GW110 := n2_; have GE110 := n3_; clear n0_ n1_ n2_ n3_; clear hb hbox hg; have hcz9_0 : w8.cell? ⟨gb110, 0, none⟩ = some (.string (⟨#[]⟩ : ByteArray)) := (blk_cell BK110.out 0).trans rfl; have hcz9_1 : w8.cell? ⟨gb110, 1, none⟩ = some (.int .i64 0) := (blk_cell BK110.out 1).trans rfl; have hcz9_2 : w8.cell? ⟨gb110, 2, none⟩ = some (.bool false) := (blk_cell BK110.out 2).trans rfl; have hcz9_3 : w8.cell? ⟨gb110, 3, none⟩ = some (.bool false) := (blk_cell BK110.out 3).trans rfl; have hcz9_4 : w8.cell? ⟨gb110, 4, none⟩ = some (.bool false) := (blk_cell BK110.out 4).trans rfl; have hcz9_5 : w8.cell? ⟨gb110, 5, none⟩ = some (.bool false) := (blk_cell BK110.out 5).trans rfl; have hcz9_6 : w8.cell? ⟨gb110, 6, none⟩ = some (.int .i64 0) := (blk_cell BK110.out 6).trans rfl; have hcz9_7 : w8.cell? ⟨gb110, 7, none⟩ = some (.int .i64 0) := (blk_cell BK110.out 7).trans rfl; obtain ⟨hfz9_0, hfz9_1, hfz9_2, hfz9_3, hfz9_4, hfz9_5⟩ := blk_six_free BK110.out; have hfz9_6 := blk_frozen BK110.out 6; have hfz9_7 := blk_frozen BK110.out 7) | (go_at_call 43; (with_reducible refine (ironbarkref20_Bit.calls a1 t111 _ A6.out).mono ?_); rintro e w' ⟨rfl, ⟨nd, rfl⟩⟩))
      go_ret
      exact ⟨by first | rfl | (simp [errW_none, errW_some] <;> rfl) | (simp [*, errW_none, errW_some] <;> rfl), by repeat (first | (with_reducible first | exact HB.out | apply below_alloc | apply pw_below_drewN | apply below_drew1 | refine below_set ?_ GE110.out) | exact HB.out)⟩
    · replace c5 := Bool.eq_false_iff.mpr c5
      subst c5
      have H1 : (some true) = some r := by rw [if_neg (show ¬ (false = true) by decide)] at H; exact H
      clear H
      have H := H1
      clear H1
      obtain rfl := Option.some.inj H
      go_enter Try.func24, Try.ntmps24
      go_wp2_with (first | ((with_reducible refine gate_callee (f := 20) rfl ?_); refine goesL_ (some 9) rfl rfl Try.func20 (by kernel_rfl) rfl #[.int .i64 a1] rfl (by (try simp only [List.map_toArray, List.map_cons, List.map_nil]); first | done | rfl | (simp only [List.length_drop, List.length_take]; rfl)) ?_; (with_reducible refine (ironbarkref20_Info.calls k a1 t101 t102 t103 false t105 t106 t107 t108 t109 _ A3.out).mono ?_); rintro e w10 ⟨rfl, hb⟩; refine ⟨_, rfl, ?_⟩; have n0_ := Aside0.mk (below_step (by repeat (first | (with_reducible first | exact HB.out | apply below_alloc | apply pw_below_drewN | apply below_drew1) | exact HB.out)) hb); clear HB; have HB := n0_; clear n0_; (try clear hb); (try clear hb2); (try clear hk); (try clear hi)) | ((with_reducible refine gate_dst (N := 5) rfl ?_); refine box_event ?hg (N := 5) ?hd (cs := #[.string (⟨#[]⟩ : ByteArray), .int .i64 0, .bool false, .bool false, .bool false, .bool false, .int .i64 0, .int .i64 0]) (t := 42) ?hr ?_; (case hd => rfl); (case hg => rfl); (case hr => first | (go_simp; done) | (go_simp; rfl)); intro gb110 hg w11 hbox hb; have n0_ := Aside0.mk (below_step (by repeat (first | (with_reducible first | exact HB.out | apply below_alloc | apply pw_below_drewN | apply below_drew1) | exact HB.out)) hb); have n1_ := Aside0.mk (hbox); have n2_ := Aside0.mk ((by rw [hg]; exact (below_size (by repeat (first | (with_reducible first | exact HB.out | apply below_alloc | apply pw_below_drewN | apply below_drew1) | exact HB.out))) : w.heap.size ≤ gb110)); have n3_ := n2_; clear HB; have HB := n0_; have BK110 := n1_; have GW110 := n2_; have GE110 := n3_; clear n0_ n1_ n2_ n3_; clear hb hbox hg; have hcz12_0 : w11.cell? ⟨gb110, 0, none⟩ = some (.string (⟨#[]⟩ : ByteArray)) := (blk_cell BK110.out 0).trans rfl; have hcz12_1 : w11.cell? ⟨gb110, 1, none⟩ = some (.int .i64 0) := (blk_cell BK110.out 1).trans rfl; have hcz12_2 : w11.cell? ⟨gb110, 2, none⟩ = some (.bool false) := (blk_cell BK110.out 2).trans rfl; have hcz12_3 : w11.cell? ⟨gb110, 3, none⟩ = some (.bool false) := (blk_cell BK110.out 3).trans rfl; have hcz12_4 : w11.cell? ⟨gb110, 4, none⟩ = some (.bool false) := (blk_cell BK110.out 4).trans rfl; have hcz12_5 : w11.cell? ⟨gb110, 5, none⟩ = some (.bool false) := (blk_cell BK110.out 5).trans rfl; have hcz12_6 : w11.cell? ⟨gb110, 6, none⟩ = some (.int .i64 0) := (blk_cell BK110.out 6).trans rfl; have hcz12_7 : w11.cell? ⟨gb110, 7, none⟩ = some (.int .i64 0) := (blk_cell BK110.out 7).trans rfl; obtain ⟨hfz12_0, hfz12_1, hfz12_2, hfz12_3, hfz12_4, hfz12_5⟩ := blk_six_free BK110.out; have hfz12_6 := blk_frozen BK110.out 6; have hfz12_7 := blk_frozen BK110.out 7))
      go_ret
      exact ⟨by first | rfl | (simp [errW_none, errW_some] <;> rfl) | (simp [*, errW_none, errW_some] <;> rfl), by repeat (first | (with_reducible first | exact HB.out | apply below_alloc | apply pw_below_drewN | apply below_drew1 | refine below_set ?_ GE110.out) | exact HB.out)⟩
  · rw [if_neg c4] at H
    have c4b0 : (t109 == 0) = false := beq_eq_false_iff_ne.mpr c4
    have c4b1 : (t109 != 0) = true := bne_iff_ne.mpr c4
    obtain rfl := Option.some.inj H
    go_enter Try.func24, Try.ntmps24
    go_wp2_with (first | ((with_reducible refine gate_callee (f := 20) rfl ?_); refine goesL_ (some 9) rfl rfl Try.func20 (by kernel_rfl) rfl #[.int .i64 a1] rfl (by (try simp only [List.map_toArray, List.map_cons, List.map_nil]); first | done | rfl | (simp only [List.length_drop, List.length_take]; rfl)) ?_; (with_reducible refine (ironbarkref20_Info.calls k a1 t101 t102 t103 t104 t105 t106 t107 t108 t109 _ A3.out).mono ?_); rintro e w13 ⟨rfl, hb⟩; refine ⟨_, rfl, ?_⟩; have n0_ := Aside0.mk (below_step (by repeat (first | (with_reducible first | exact HB.out | apply below_alloc | apply pw_below_drewN | apply below_drew1) | exact HB.out)) hb); clear HB; have HB := n0_; clear n0_; (try clear hb); (try clear hb2); (try clear hk); (try clear hi)) | ((with_reducible refine gate_dst (N := 5) rfl ?_); refine box_event ?hg (N := 5) ?hd (cs := #[.string (⟨#[]⟩ : ByteArray), .int .i64 0, .bool false, .bool false, .bool false, .bool false, .int .i64 0, .int .i64 0]) (t := 42) ?hr ?_; (case hd => rfl); (case hg => rfl); (case hr => first | (go_simp; done) | (go_simp; rfl)); intro gb110 hg w14 hbox hb; have n0_ := Aside0.mk (below_step (by repeat (first | (with_reducible first | exact HB.out | apply below_alloc | apply pw_below_drewN | apply below_drew1) | exact HB.out)) hb); have n1_ := Aside0.mk (hbox); have n2_ := Aside0.mk ((by rw [hg]; exact (below_size (by repeat (first | (with_reducible first | exact HB.out | apply below_alloc | apply pw_below_drewN | apply below_drew1) | exact HB.out))) : w.heap.size ≤ gb110)); have n3_ := n2_; clear HB; have HB := n0_; have BK110 := n1_; have GW110 := n2_; have GE110 := n3_; clear n0_ n1_ n2_ n3_; clear hb hbox hg; have hcz15_0 : w14.cell? ⟨gb110, 0, none⟩ = some (.string (⟨#[]⟩ : ByteArray)) := (blk_cell BK110.out 0).trans rfl; have hcz15_1 : w14.cell? ⟨gb110, 1, none⟩ = some (.int .i64 0) := (blk_cell BK110.out 1).trans rfl; have hcz15_2 : w14.cell? ⟨gb110, 2, none⟩ = some (.bool false) := (blk_cell BK110.out 2).trans rfl; have hcz15_3 : w14.cell? ⟨gb110, 3, none⟩ = some (.bool false) := (blk_cell BK110.out 3).trans rfl; have hcz15_4 : w14.cell? ⟨gb110, 4, none⟩ = some (.bool false) := (blk_cell BK110.out 4).trans rfl; have hcz15_5 : w14.cell? ⟨gb110, 5, none⟩ = some (.bool false) := (blk_cell BK110.out 5).trans rfl; have hcz15_6 : w14.cell? ⟨gb110, 6, none⟩ = some (.int .i64 0) := (blk_cell BK110.out 6).trans rfl; have hcz15_7 : w14.cell? ⟨gb110, 7, none⟩ = some (.int .i64 0) := (blk_cell BK110.out 7).trans rfl; obtain ⟨hfz15_0, hfz15_1, hfz15_2, hfz15_3, hfz15_4, hfz15_5⟩ := blk_six_free BK110.out; have hfz15_6 := blk_frozen BK110.out 6; have hfz15_7 := blk_frozen BK110.out 7))
    go_ret
    exact ⟨by first | rfl | (simp [errW_none, errW_some] <;> rfl) | (simp [*, errW_none, errW_some] <;> rfl), by repeat (first | (with_reducible first | exact HB.out | apply below_alloc | apply pw_below_drewN | apply below_drew1 | refine below_set ?_ GE110.out) | exact HB.out)⟩
/-- THE ONE PURE STATEMENT of ironbarkref20_Enabled: yours. -/
def ironbarkref20_Enabled.Pure : Prop := ∀ (a0 : Int) (a1 : Int), (Lit.int .i64 a0).wf = true → (Lit.int .i64 a1).wf = true → ∃ k, ironbarkref20_Enabled.f k a0 a1 = some true
theorem ironbarkref20_Enabled.walk (P : ironbarkref20_Enabled.Pure) (a0 : Int) (a1 : Int) (w : World) (w0 : (Lit.int .i64 a0).wf = true) (w1 : (Lit.int .i64 a1).wf = true) :
    Calls Try.prog 24 #[.int .i64 a0, .int .i64 a1] w fun e w' => e = .returned (.bool true) ∧ Below w.heap.size w w' := by
  obtain ⟨k, h⟩ := P a0 a1 w0 w1
  refine (ironbarkref20_Enabled.calls k a0 a1 true w h).mono ?_
  rintro e w' ⟨rfl, hd⟩
  exact ⟨rfl, hd⟩
end Go.Proofs.Ytfahpihbbkkngaa.P

-- from the text Pq
namespace Go.Proofs.Ytfahpihbbkkngaa.P
open Go.RowKit Go.Proofs.YtfahpihbbkkngaaW.PrintWords Go.Proofs.YtfahpihbbkkngaaW.PrintLast Go.Proofs.YtfahpihbbkkngaaW.PrintMore
set_option linter.unusedVariables false
set_option linter.unusedSimpArgs false
def infoT (n : Int) : ByteArray × Int × Bool × Bool × Bool × Bool × Int × Int × Int :=
  if isC n = true then ((rowC n).f0, (rowC n).f1, (rowC n).f2, (rowC n).f3, (rowC n).f4, (rowC n).f5, (rowC n).f6, (rowC n).f7, 0) else (⟨#[]⟩, 0, false, false, false, false, 0, 0, 1)
theorem info_l0_miss (n : Int) (l : List S90) (hl : l.length ≤ 1000) : ∀ (k i : Nat), l.length - i < k → (∀ r ∈ l.drop i, r.f0 ≠ n) → ironbarkref20_Info.l0 k n l (i : Int) = some (⟨#[]⟩, 0, false, false, false, false, 0, 0, 1)
  | 0, i, h, _ => by omega
  | k + 1, i, h, hm => by
    simp only [ironbarkref20_Info.l0]
    by_cases hi : i < l.length
    · have hd := List.drop_eq_getElem_cons hi
      rw [if_pos (by omega), if_pos (by omega)]
      have hr : rd_T90 l (i : Int) = l[i] := by simp [rd_T90, List.getElem?_eq_getElem hi]
      rw [if_neg (by rw [hr]; exact hm _ (by rw [hd]; exact List.mem_cons_self)), show wrap64 ((i : Int) + 1) = ((i + 1 : Nat) : Int) by unfold wrap64; omega]
      exact info_l0_miss n l hl k (i + 1) (by omega) (fun r hr' => hm r (by rw [hd]; exact List.mem_cons_of_mem _ hr'))
    · rw [if_neg (by omega)]
theorem info_n : ∀ n : Nat, 1 ≤ n → n ≤ 20 → ironbarkref20_Info.f 25 (n : Int) = some (infoT (n : Int))
  | 1, _, _ => by kernel_rfl
  | 2, _, _ => by kernel_rfl
  | 3, _, _ => by kernel_rfl
  | 4, _, _ => by kernel_rfl
  | 5, _, _ => by kernel_rfl
  | 6, _, _ => by kernel_rfl
  | 7, _, _ => by kernel_rfl
  | 8, _, _ => by kernel_rfl
  | 9, _, _ => by kernel_rfl
  | 10, _, _ => by kernel_rfl
  | 11, _, _ => by kernel_rfl
  | 12, _, _ => by kernel_rfl
  | 13, _, _ => by kernel_rfl
  | 14, _, _ => by kernel_rfl
  | 15, _, _ => by kernel_rfl
  | 16, _, _ => by kernel_rfl
  | 17, _, _ => by kernel_rfl
  | 18, _, _ => by kernel_rfl
  | 19, _, _ => by kernel_rfl
  | 20, _, _ => by kernel_rfl
  | n + 21, _, h => absurd h (by omega)
  | 0, h, _ => absurd h (by omega)
theorem info_ev (n : Int) : Ev (fun k => ironbarkref20_Info.f k n) (infoT n) := by
  cases hC : isC n with
  | true =>
    obtain ⟨h0, h1⟩ := (isC_iff n).1 hC
    obtain ⟨m, rfl⟩ := Int.eq_ofNat_of_zero_le (show 0 ≤ n by omega)
    exact Ev.of (fun k => ironbarkref20_Info.mono _ k) (info_n m (by omega) (by omega))
  | false =>
    have hn : ¬ (1 ≤ n ∧ n ≤ 20) := fun e => by rw [(isC_iff n).2 e] at hC; cases hC
    have hT : infoT n = (⟨#[]⟩, 0, false, false, false, false, 0, 0, 1) := by unfold infoT; rw [if_neg (by simp [hC])]
    rw [hT]
    refine Ev.of (fun k => ironbarkref20_Info.mono _ k) (k := 25) ?_
    show ironbarkref20_Info.l0 25 n rows90 ((0 : Nat) : Int) = _
    refine info_l0_miss n rows90 (by decide) 25 0 (by decide) ?_
    have hall : ∀ r ∈ rows90, 1 ≤ r.f0 ∧ r.f0 ≤ 20 := by decide
    intro r hr e
    have := hall r (by simpa using hr)
    omega
theorem named_ev (c : Int) (s : ByteArray) : Ev (fun k => ironbarkref20_Named.f k c s) (rightB c s) := by
  refine Ev.bind (f := fun k bt101 => _) (info_ev c) ?_
  unfold infoT rightB
  cases hC : isC c with
  | false => exact Ev.now _
  | true =>
    simp only [if_true, Bool.true_and]
    refine Ev.congr (f := fun _ => some _) (fun k => ?_) (Ev.now _)
    cases (rowC c).f4 <;> cases (rowC c).f5 <;> simp only [if_true, if_false, Bool.or_self, Bool.or_true, Bool.or_false, Bool.false_eq_true]
    · cases h : s.toList <;> rfl
    all_goals
      by_cases h1 : 1 ≤ s.size
      · rw [if_pos (by omega)]
        simp only [h1, decide_true, Bool.true_and, Option.some.injEq, decide_eq_decide]
        omega
      · rw [if_neg (by omega)]
        simp [h1]
theorem valid_ev (c : Int) (s : ByteArray) (p : Int) : Ev (fun k => ironbarkref20_Valid.f k c s p) (rightB c s && decide (-2 ≤ p)) := by
  refine Ev.bind (f := fun k t => _) (named_ev c s) ?_
  cases rightB c s with
  | false => exact Ev.now _
  | true => exact Ev.now _
end Go.Proofs.Ytfahpihbbkkngaa.P

-- from the text Hy
namespace Go.Proofs.Ytfahpihbbkkngaa.P
open Go.RowKit Go.Proofs.YtfahpihbbkkngaaW.PrintWords Go.Proofs.YtfahpihbbkkngaaW.PrintLast Go.Proofs.YtfahpihbbkkngaaW.PrintMore
set_option linter.unusedVariables false
set_option linter.unusedSimpArgs false
/-- A stack of the reference: the frames l, told by the blocks of G. -/
def RD (w : World) (G : Nat → Prop) (v : Value) (l : List S94) : Prop := ∃ A c, v = .slice A l.length c ∧ l.length ≤ c ∧ Kd.F k94 w G A l.length l
theorem RD.mono {w : World} {G G' : Nat → Prop} {v : Value} {l : List S94} (h : RD w G v l) (hG : ∀ k, G k → G' k) : RD w G' v l := by
  obtain ⟨A, c, e, hc, hF⟩ := h
  exact ⟨A, c, e, hc, Kd.F_mono hF hG⟩
theorem RD.step {w w' : World} {G : Nat → Prop} {v : Value} {l : List S94} (h : RD w G v l) (hm : ∀ k, G k → k < w.heap.size → w'.heap[k]? = w.heap[k]?) : RD w' G v l := by
  obtain ⟨A, c, e, hc, hF⟩ := h
  exact ⟨A, c, e, hc, Kd.F_step hF hm⟩
theorem RD.below {w w' : World} {G : Nat → Prop} {v : Value} {l : List S94} (h : RD w G v l) (hb : Below w.heap.size w w') : RD w' G v l := h.step (fun k _ hk => hb.block k hk)
theorem RD.cut {w : World} {G : Nat → Prop} {v : Value} {l : List S94} (h : RD w G v l) : RD w (fun k => G k ∧ k < w.heap.size) v l := by
  obtain ⟨A, c, e, hc, hF⟩ := h
  exact ⟨A, c, e, hc, Kd.F_bound hF⟩
theorem RD.turn {w w' : World} {G F : Nat → Prop} {v : Value} {l : List S94} (h : RD w G v l) (ht : Turn F w w') (hd : ∀ k, G k → ¬ F k) : RD w' G v l := h.step (fun k hk hlt => ht.block k hlt (hd k hk))
theorem RD.slice {w : World} {G : Nat → Prop} {v : Value} {l : List S94} (h : RD w G v l) : ∃ A c, v = .slice A l.length c ∧ l.length ≤ c ∧ Kd.C k94 w A l.length l := by
  obtain ⟨A, c, e, hc, hF⟩ := h
  exact ⟨A, c, e, hc, Kd.F_now hF⟩
theorem RD.of_N {w : World} {base n c : Nat} {ok G : Nat → Prop} {A : Option Addr} {l : List S94} (h : Kd.N k94 94 w base ok (.slice A n c) l) (hG : ∀ k, ok k → k < w.heap.size → G k) : RD w G (.slice A n c) l := by
  have h2 := Kd.N_reads' h
  have h3 := Kd.N_F (Kd.N_bound h)
  obtain rfl := h2.1
  exact ⟨A, c, rfl, h2.2.1, Kd.F_mono h3 (fun k hk => hG k hk.1 hk.2)⟩
/-- A row of one element. -/
theorem F_box {w : World} {G : Nat → Prop} {x : S94} {cs : List Value} (g : Nat) (hb : w.heap[g]? = some (.cells cs.toArray 94 (0, 0))) (hx : Kd.FK k94 w G x cs) (hl : cs.length = 5) : Kd.F k94 w (fun k => G k ∨ k = g) (some ⟨g, 0, none⟩) 1 [x] := by
  intro W hW
  refine ⟨rfl, by decide, fun _ => ⟨⟨g, 0, none⟩, rfl, fun j p hj => ?_⟩⟩
  have hg : W.heap[g]? = some (.cells cs.toArray 94 (0, 0)) := (hW g (.inr rfl) (blk_lt hb)).trans hb
  have hj0 : j = 0 := by
    have := (List.getElem?_eq_some_iff.1 hj).1
    simp at this
    exact this
  subst hj0
  obtain rfl : x = p := by simpa using hj
  refine ⟨cs, hl, hx W (fun k hk hlt => hW k (.inl hk) hlt), fun i u hu => ?_⟩
  rw [add_plain]
  refine (blk_cell hg (0 * k94.sz + i)).trans ?_
  simpa using hu
theorem fk_plain (w : World) (b : Bool) (c : Int) (n : ByteArray) (m : Int) : Kd.FK k94 w (fun _ => False) ⟨[], b, c, n, m⟩ [.slice none 0 0, .bool b, .int .i64 c, .string n, .int .i64 m] :=
  k94_mkF w _ ⟨[], b, c, n, m⟩ (Nat.zero_le _) (Kd.F_nil k24 w _)
set_option maxRecDepth 100000 in
set_option maxHeartbeats 4000000 in
theorem rnew_is (w : World) : Calls Try.prog 29 #[] w fun e w' => ∃ v, e = .returned (.agg #[v]) ∧ RD w' (More (fun _ => False) w.heap.size w'.heap.size) v [z94] ∧ Below w.heap.size w w' := by
  go_enter Try.func29, Try.ntmps29
  go_wp2_with fail
  have h1 := blk_new (w.alloc (.cells #[.slice (some ⟨w.heap.size + 1, 0, none⟩) 1 1] 55 (0, 0))) (.cells #[.slice none 0 0, .bool false, .int .i64 0, .string ⟨#[]⟩, .int .i64 0] 94 (0, 0))
  have h0 := blk_alloc (blk_new w (.cells #[.slice (some ⟨w.heap.size + 1, 0, none⟩) 1 1] 55 (0, 0))) (.cells #[.slice none 0 0, .bool false, .int .i64 0, .string ⟨#[]⟩, .int .i64 0] 94 (0, 0))
  rw [World.size_alloc] at h1
  refine bodyPost_ret (results_cell_row rfl _ _ w.heap.size 55 #[.slice (some ⟨w.heap.size + 1, 0, none⟩) 1 1] (0, 0) _ rfl h0 Try.underlying55 rfl (by kernel_rfl)) rfl ?_
  refine ⟨_, rfl, RD.mono ⟨some ⟨w.heap.size + 1, 0, none⟩, 1, rfl, Nat.le_refl _, F_box (G := fun _ => False) (w.heap.size + 1) h1 (fk_plain _ false 0 ⟨#[]⟩ 0) rfl⟩ (fun k hk => ?_), ((Below.refl _ _).alloc (Nat.le_refl _) _).alloc (by simp) _⟩
  rcases hk with hk | rfl
  · exact .inl hk
  · exact .inr (by simp)
section
variable {ops : Array Oper} {o : Oper} {a : Act} {Kc : Act → World → Prop} {Q : Exit → Act → World → Prop} {W w : World}
theorem app53 {ok : Nat → Prop} {v : Value} (xs ys : List S94) (A : Option Addr) (m : Nat) (okp : Nat → Prop) {s x : Operand} {c : Nat} (ho : o.op = .call { callee := .builtin .append, args := #[s, x], argTypes := #[53, 53] })
    (hs : a.eval s = v) (hx : a.eval x = .slice A m c) (HO : Kd.N k94 94 W w.heap.size ok v xs) (HR : Kd.F k94 W okp A m ys) (hokp : ∀ k, okp k → ok k ∧ some k ≠ v.ownBlock) (hfresh : ∀ k, W.heap.size ≤ k → ok k) (HB : Below w.heap.size w W)
    (hl : xs.length + m ≤ 1000000) (N : Tmp) (hN : o.dst = some N) (hw : Region.wanted o (yielded ops a.tmps) = true)
    (h : ∀ v1 w1, Kd.N k94 94 w1 w.heap.size ok v1 (xs ++ ys) → Below w.heap.size w w1 → W.grownBy w1 v.ownBlock → (v1.ownBlock = v.ownBlock ∨ ∃ b, v1.ownBlock = some b ∧ W.heap.size ≤ b) → Kc (a.put (some N) v1) w1) :
    if Region.wanted o (yielded ops a.tmps) = true then Oper.wp Try.prog o a W Kc Q else Kc (a.put (some N) undef) W := by
  have := Kd.N_append_rows_step (P := Try.prog) (Q := Q) k94 (w0 := w) (W := W) (Kc := Kc) (ops := ops) (o := o) (a := a) w.heap.size hw s x 53 94 _ 64 ho Try.underlying53 info94 rfl (by decide) (by decide) v xs ys A m c ok okp hs hx HO HR hokp hfresh HB HB.size (by omega)
  rw [hN] at this
  exact this h
theorem appl53 {rest : List Oper} {ok : Nat → Prop} {v : Value} (xs ys : List S94) (A : Option Addr) (m : Nat) (okp : Nat → Prop) {s x : Operand} {c : Nat} (hgd : o.guard = none) (ho : o.op = .call { callee := .builtin .append, args := #[s, x], argTypes := #[53, 53] })
    (hs : a.eval s = v) (hx : a.eval x = .slice A m c) (HO : Kd.N k94 94 W w.heap.size ok v xs) (HR : Kd.F k94 W okp A m ys) (hokp : ∀ k, okp k → ok k ∧ some k ≠ v.ownBlock) (hfresh : ∀ k, W.heap.size ≤ k → ok k) (HB : Below w.heap.size w W)
    (hl : xs.length + m ≤ 1000000)
    (h : ∀ v1 w1, Kd.N k94 94 w1 w.heap.size ok v1 (xs ++ ys) → Below w.heap.size w w1 → W.grownBy w1 v.ownBlock → (v1.ownBlock = v.ownBlock ∨ ∃ b, v1.ownBlock = some b ∧ W.heap.size ≤ b) → wpList Try.prog ops Q rest (a.put o.dst v1) w1) :
    wpList Try.prog ops Q (o :: rest) a W :=
  Kd.N_append_rows (P := Try.prog) k94 (w0 := w) w.heap.size hgd s x 53 94 _ 64 ho Try.underlying53 info94 rfl (by decide) (by decide) v xs ys A m c ok okp hs hx HO HR hokp hfresh HB HB.size (by omega) h
end
set_option maxRecDepth 100000 in
set_option maxHeartbeats 4000000 in
theorem more_full (v : Value) (l : List S94) (G : Nat → Prop) (b : Bool) (c : Int) (n : ByteArray) (m : Int) (w : World) (h : RD w G v l) (hl : 60 ≤ l.length) :
    Calls Try.prog 63 #[.agg #[v], .agg #[.slice none 0 0, .bool b, .int .i64 c, .string n, .int .i64 m]] w fun e w' => e = .returned (.tuple #[.agg #[v], .int .i64 4]) ∧ Below w.heap.size w w' := by
  obtain ⟨A, cp, rfl, hc, hF⟩ := h
  have hd : decide ((l.length : Int) ≥ 60) = true := decide_eq_true (by omega)
  clear hF
  have h1 := Aside0.mk ((Below.refl w.heap.size w).alloc (Nat.le_refl _) (.cells #[.slice A l.length cp] 55 (0, 0)))
  have h2 := Aside0.mk (h1.out.alloc h1.out.size (.cells #[.slice none 0 0, .bool b, .int .i64 c, .string n, .int .i64 m] 94 (0, 0)))
  have h3 := Aside0.mk (h2.out.alloc h2.out.size (.cells #[.slice none 0 0] 55 (0, 0)))
  go_enter Try.func63, Try.ntmps63
  go_wp2_with fail
  have h4 := blk_new ((w.alloc (.cells #[.slice A l.length cp] 55 (0, 0))).alloc (.cells #[.slice none 0 0, .bool b, .int .i64 c, .string n, .int .i64 m] 94 (0, 0))) (.cells #[.slice A l.length cp] 55 (0, 0))
  simp only [World.size_alloc] at h4
  refine bodyPost_ret (results_ct rfl _ _ (w.heap.size + 1 + 1) 55 #[.slice A l.length cp] (0, 0) _ rfl h4 Try.underlying55 rfl (by kernel_rfl)) rfl ?_
  exact ⟨rfl, h2.out.alloc h2.out.size _⟩
set_option maxRecDepth 100000 in
set_option maxHeartbeats 4000000 in
theorem more_is (v : Value) (l : List S94) (G : Nat → Prop) (b : Bool) (c : Int) (n : ByteArray) (m : Int) (w : World) (h : RD w G v l) (hl : l.length < 60) :
    Calls Try.prog 63 #[.agg #[v], .agg #[.slice none 0 0, .bool b, .int .i64 c, .string n, .int .i64 m]] w fun e w' => ∃ v', e = .returned (.tuple #[.agg #[v'], .int .i64 0]) ∧ RD w' (More G w.heap.size w'.heap.size) v' (l ++ [⟨[], b, c, n, m⟩]) ∧ Below w.heap.size w w' := by
  obtain ⟨A, cp, rfl, hc, hF⟩ := h
  have hd : decide ((l.length : Int) ≥ 60) = false := decide_eq_false (by omega)
  have HF := Aside0.mk (Kd.F_bound hF)
  clear hF
  have h1 := Aside0.mk ((Below.refl w.heap.size w).alloc (Nat.le_refl _) (.cells #[.slice A l.length cp] 55 (0, 0)))
  have h2 := Aside0.mk (h1.out.alloc h1.out.size (.cells #[.slice none 0 0, .bool b, .int .i64 c, .string n, .int .i64 m] 94 (0, 0)))
  have h3 := Aside0.mk (h2.out.alloc h2.out.size (.cells #[.slice none 0 0] 55 (0, 0)))
  go_enter Try.func63, Try.ntmps63
  go_wp2_with fail
  have b0 := Aside0.mk (blk_alloc (blk_alloc (blk_new w (.cells #[.slice A l.length cp] 55 (0, 0))) (.cells #[.slice none 0 0, .bool b, .int .i64 c, .string n, .int .i64 m] 94 (0, 0))) (.cells #[.slice none 0 0] 55 (0, 0)))
  have b1 := blk_alloc (blk_new (w.alloc (.cells #[.slice A l.length cp] 55 (0, 0))) (.cells #[.slice none 0 0, .bool b, .int .i64 c, .string n, .int .i64 m] 94 (0, 0))) (.cells #[.slice none 0 0] 55 (0, 0))
  have b2 := blk_new ((w.alloc (.cells #[.slice A l.length cp] 55 (0, 0))).alloc (.cells #[.slice none 0 0, .bool b, .int .i64 c, .string n, .int .i64 m] 94 (0, 0))) (.cells #[.slice none 0 0] 55 (0, 0))
  simp only [World.size_alloc] at b1 b2
  replace b1 := Aside0.mk b1
  replace b2 := Aside0.mk b2
  refine start_ (n := 9) (S := fun W => W.heap[w.heap.size]? = some (.cells #[.slice A l.length cp] 55 (0, 0)) ∧ W.heap[w.heap.size + 1]? = some (.cells #[.slice none 0 0, .bool b, .int .i64 c, .string n, .int .i64 m] 94 (0, 0)) ∧ W.heap[w.heap.size + 1 + 1]? = some (.cells #[.slice none 0 0] 55 (0, 0)) ∧ Below w.heap.size w W) (ds := [5, 7]) #[false, false, false, false, false, false, false, false, false] (by kernel_rfl) rfl rfl ⟨blk_drew b0.out, blk_drew b1.out, blk_drew b2.out, Below.drew h3.out⟩ (fun hHeld => ?_)
  generalize (((w.alloc (.cells #[.slice A l.length cp] 55 (0, 0))).alloc (.cells #[.slice none 0 0, .bool b, .int .i64 c, .string n, .int .i64 m] 94 (0, 0))).alloc (.cells #[.slice none 0 0] 55 (0, 0))).drew = w1 at hHeld ⊢
  clear b0 b1 b2 h1 h2 h3
  refine pure_ (i := 0) (N := some 11) (v := ?_) (a' := ?_) #[true, false, false, false, false, false, false, false, false] rfl rfl (by kernel_rfl) (fun _ _ _ h => h) (Or.inl ⟨by rfl, ?_⟩) ?_ ?_
  rotate_left
  · intro w_
    go_simp
    with_reducible rfl
  rotate_left
  · simp only [Act.put, List.setIfInBounds_toArray, List.set_cons_zero, List.set_cons_succ, i64_w, i32_w]
    rfl
  refine take_ (i := 1) (N := some 12) (v := ?_) (a' := ?_) #[true, true, false, false, false, false, false, false, false] rfl rfl (by kernel_rfl) (fun _ _ _ h => h) (Or.inl ⟨by rfl, ?_⟩) hHeld ?_ ?_
  rotate_left
  · rintro w_ ⟨hs_, _⟩
    have s0 := (blk_cell hs_ 0).trans rfl
    go_simp
    with_reducible rfl
  rotate_left
  · simp only [Act.put, List.setIfInBounds_toArray, List.set_cons_zero, List.set_cons_succ, i64_w, i32_w]
    rfl
  refine take_ (i := 3) (N := some 14) (v := ?_) (a' := ?_) #[true, true, false, true, false, false, false, false, false] rfl rfl (by kernel_rfl) (fun _ _ _ h => h) (Or.inl ⟨by rfl, ?_⟩) hHeld ?_ ?_
  rotate_left
  · rintro w_ ⟨_, hs_, _⟩
    have s0 := (blk_cell hs_ 0).trans rfl
    have s1 := (blk_cell hs_ 1).trans rfl
    have s2 := (blk_cell hs_ 2).trans rfl
    have s3 := (blk_cell hs_ 3).trans rfl
    have s4 := (blk_cell hs_ 4).trans rfl
    go_simp
    with_reducible rfl
  rotate_left
  · simp only [Act.put, List.setIfInBounds_toArray, List.set_cons_zero, List.set_cons_succ, i64_w, i32_w]
    rfl
  refine join_ (σ := Value × Nat) 4 #[true, true, true, true, true, false, false, false, false] (fun q => [(13, q.1), (15, .slice (some ⟨q.2, 0, none⟩) 1 1)]) (fun q W => Kd.N k94 94 W w.heap.size (fun k => (G k ∧ k < w.heap.size) ∨ w.heap.size + 1 + 1 < k) q.1 l ∧ W.heap[q.2]? = some (.cells #[.slice none 0 0, .bool b, .int .i64 c, .string n, .int .i64 m] 94 (0, 0)) ∧ W.heap[w.heap.size + 1 + 1]? = some (.cells #[.slice none 0 0] 55 (0, 0)) ∧ Below w.heap.size w W ∧ w.heap.size + 1 + 1 < q.2 ∧ some q.2 ≠ q.1.ownBlock) ?_ ?_
  · rintro ⟨v1, g⟩ W ⟨hN, hG, hR, hB, hlt, hne⟩
    dsimp only at hN hG hlt hne
    refine norm_ (a' := ?_) ?_ ?_
    rotate_left
    · simp only [putAll, Act.put, List.setIfInBounds_toArray, List.set_cons_zero, List.set_cons_succ, i64_w, i32_w]
      rfl
    refine last_ (i := 5) (N := some 16) #[true, true, true, true, true, true, false, false, false] rfl rfl (by kernel_rfl) (by decide) (fun K' hK => ?_)
    refine app53 (w := w) l [(⟨[], b, c, n, m⟩ : S94)] (some ⟨g, 0, none⟩) 1 (fun k => False ∨ k = g) rfl rfl rfl hN (F_box g hG (fk_plain W b c n m) rfl) (fun k hk => hk.elim (fun e => e.elim) (fun e => by subst e; exact ⟨.inr hlt, hne⟩)) (fun k hk => .inr (by have := blk_lt hG; omega)) hB (by omega) 16 rfl (by rfl) ?_
    intro v2 w3 hN2 hB3 hgrow hat
    obtain ⟨p2, c2, rfl⟩ := Kd.N_slice hN2
    have hne55 := Kd.N_ne hN hR (by decide)
    have hR3 := (hgrow.block _ (blk_lt hR) hne55).trans hR
    refine hK.out _ _ ?_
    clear hK K' hHeld hN hB hgrow hat hne hne55 hG hR
    refine norm_ (a' := ?_) ?_ ?_
    rotate_left
    · show Act.put _ (some 16) _ = _
      simp only [Act.put, List.setIfInBounds_toArray, List.set_cons_zero, List.set_cons_succ, i64_w, i32_w]
      rfl
    refine pure_ (i := 6) (N := some 17) (v := ?_) (a' := ?_) #[true, true, true, true, true, true, true, false, false] rfl rfl (by kernel_rfl) (fun _ _ _ h => h) (Or.inl ⟨by rfl, ?_⟩) ?_ ?_
    rotate_left
    · intro w_
      go_simp
      with_reducible rfl
    rotate_left
    · simp only [Act.put, List.setIfInBounds_toArray, List.set_cons_zero, List.set_cons_succ, i64_w, i32_w]
      rfl
    have hc3 := (blk_cell hR3 0).trans rfl
    have hf3 := blk_frozen hR3 0
    refine last_ (i := 7) (N := none) #[true, true, true, true, true, true, true, true, false] rfl rfl (by kernel_rfl) (by decide) (fun K' hK => ?_)
    refine skip_ (w1 := ?_) (by rfl) rfl ?_ ?_
    rotate_left
    · go_simp
      rfl
    refine hK.out _ _ ?_
    clear hK K'
    refine pure_ (i := 8) (N := some 5) (v := ?_) (a' := ?_) #[true, true, true, true, true, true, true, true, true] rfl rfl (by kernel_rfl) (fun _ _ _ h => h) (Or.inl ⟨by rfl, ?_⟩) ?_ ?_
    rotate_left
    · intro w_
      go_simp
      with_reducible rfl
    rotate_left
    · simp only [Act.put, List.setIfInBounds_toArray, List.set_cons_zero, List.set_cons_succ, i64_w, i32_w]
      rfl
    refine done_ (by kernel_rfl) ?_
    have HN3 := Aside0.mk (Kd.N_far (p := ⟨w.heap.size + 1 + 1, 0, none⟩) hN2 (fun k hk e => by dsimp only at e; subst e; rcases hk with hk | hk <;> omega) (.slice p2 (l ++ [(⟨[], b, c, n, m⟩ : S94)]).length c2))
    have HB3 := Aside0.mk (below_set (j := 0) (v := .slice p2 (l ++ [(⟨[], b, c, n, m⟩ : S94)]).length c2) hB3 (show w.heap.size ≤ w.heap.size + 1 + 1 by omega))
    have HR3 := Aside0.mk (blk_put hR3 0 (.slice p2 (l ++ [(⟨[], b, c, n, m⟩ : S94)]).length c2) rfl)
    clear hN2 hB3 hR3 hc3 hf3
    simp only [List.length_append, List.length_cons, List.length_nil, Nat.zero_add] at HN3 HB3 HR3
    go_wp2_with fail
    refine bodyPost_ret (results_ct rfl _ _ (w.heap.size + 1 + 1) 55 #[.slice p2 (l.length + 1) c2] (0, 0) _ rfl HR3.out Try.underlying55 rfl (by kernel_rfl)) rfl ?_
    exact ⟨_, rfl, RD.of_N HN3.out (fun k hk hlt2 => hk.elim (fun e => .inl e.1) (fun e => .inr ⟨by omega, hlt2⟩)), HB3.out⟩
  · intro hj
    refine two_ (i := 2) (j := 4) (Ni := some 13) (Nj := some 15) #[true, true, true, true, false, false, false, false, false] #[true, true, false, true, true, false, false, false, false] rfl rfl rfl rfl (by kernel_rfl) (by decide) (by decide) (fun K' hK => ?_) (fun K' hK => ?_)
    · refine app53 (w := w) (v := .slice none 0 0) (ok := (fun k => (G k ∧ k < w.heap.size) ∨ w.heap.size + 1 + 1 < k)) [] l A l.length (fun k => G k ∧ k < w.heap.size) rfl rfl rfl (Kd.N_nil _ _ _ _ _) (Kd.F_step HF.out (fun k hk _ => hHeld.2.2.2.block k hk.2)) (fun k hk => ⟨.inl hk, by simp [Value.ownBlock]⟩) (fun k hk => .inr (by have := blk_lt hHeld.2.2.1; omega)) hHeld.2.2.2 (by simp; omega) 13 rfl (by rfl) ?_
      intro v1 w2 hN hB2 hgrow hat
      rw [List.nil_append] at hN
      refine hK.out _ _ ⟨(hgrow.block _ (blk_lt hHeld.1) (by simp [Value.ownBlock])).trans hHeld.1, (hgrow.block _ (blk_lt hHeld.2.1) (by simp [Value.ownBlock])).trans hHeld.2.1, (hgrow.block _ (blk_lt hHeld.2.2.1) (by simp [Value.ownBlock])).trans hHeld.2.2.1, hB2⟩ (fun hHeld => ?_)
      clear hK K' hgrow
      refine norm_ (a' := ?_) ?_ ?_
      rotate_left
      · show Act.put _ (some 13) _ = _
        simp only [Act.put, List.setIfInBounds_toArray, List.set_cons_zero, List.set_cons_succ, i64_w, i32_w]
        rfl
      refine one_ (i := 4) (N := some 15) #[true, true, true, true, true, false, false, false, false] rfl rfl (by kernel_rfl) (by decide) (fun K' hK => ?_)
      refine value_ (w1 := w2.alloc (.cells #[.slice none 0 0, .bool b, .int .i64 c, .string n, .int .i64 m] 94 (0, 0))) (v := .slice (some ⟨w2.heap.size, 0, none⟩) 1 1) (by rfl) rfl ?_ ?_
      · go_simp
      refine hK.out _ _ ⟨blk_alloc hHeld.1 _, blk_alloc hHeld.2.1 _, blk_alloc hHeld.2.2.1 _, hHeld.2.2.2.alloc hHeld.2.2.2.size _⟩ (fun _ => ?_)
      clear hK K'
      refine norm_ ?_ (hj (v1, w2.heap.size) _ ⟨Kd.N_alloc hN _, blk_new _ _, blk_alloc hHeld.2.2.1 _, hHeld.2.2.2.alloc hHeld.2.2.2.size _, blk_lt hHeld.2.2.1, fun e => by have := Kd.N_lt hN _ e.symm; omega⟩)
      simp only [putAll, Act.put, List.setIfInBounds_toArray, List.set_cons_zero, List.set_cons_succ]
    · refine value_ (w1 := w1.alloc (.cells #[.slice none 0 0, .bool b, .int .i64 c, .string n, .int .i64 m] 94 (0, 0))) (v := .slice (some ⟨w1.heap.size, 0, none⟩) 1 1) (by rfl) rfl ?_ ?_
      · go_simp
      have hg := blk_new w1 (.cells #[.slice none 0 0, .bool b, .int .i64 c, .string n, .int .i64 m] 94 (0, 0))
      have hlt := blk_lt hHeld.2.2.1
      refine hK.out _ _ ⟨blk_alloc hHeld.1 _, blk_alloc hHeld.2.1 _, blk_alloc hHeld.2.2.1 _, hHeld.2.2.2.alloc hHeld.2.2.2.size _⟩ (fun hHeld => ?_)
      clear hK K'
      refine norm_ (a' := ?_) ?_ ?_
      rotate_left
      · show Act.put _ (some 15) _ = _
        simp only [Act.put, List.setIfInBounds_toArray, List.set_cons_zero, List.set_cons_succ, i64_w, i32_w]
        rfl
      refine one_ (i := 2) (N := some 13) #[true, true, true, true, true, false, false, false, false] rfl rfl (by kernel_rfl) (by decide) (fun K' hK => ?_)
      refine app53 (w := w) (v := .slice none 0 0) (ok := (fun k => (G k ∧ k < w.heap.size) ∨ w.heap.size + 1 + 1 < k)) [] l A l.length (fun k => G k ∧ k < w.heap.size) rfl rfl rfl (Kd.N_nil _ _ _ _ _) (Kd.F_step HF.out (fun k hk _ => hHeld.2.2.2.block k hk.2)) (fun k hk => ⟨.inl hk, by simp [Value.ownBlock]⟩) (fun k hk => .inr (by have := blk_lt hHeld.2.2.1; omega)) hHeld.2.2.2 (by simp; omega) 13 rfl (by rfl) ?_
      intro v1 w2 hN hB2 hgrow hat
      rw [List.nil_append] at hN
      have hne : some w1.heap.size ≠ v1.ownBlock := fun e => by
        rcases hat with h | ⟨q, h, hle⟩
        · rw [h] at e; simp [Value.ownBlock] at e
        · rw [h] at e
          simp only [World.size_alloc] at hle
          have := Option.some.inj e
          omega
      refine hK.out _ _ ⟨(hgrow.block _ (blk_lt hHeld.1) (by simp [Value.ownBlock])).trans hHeld.1, (hgrow.block _ (blk_lt hHeld.2.1) (by simp [Value.ownBlock])).trans hHeld.2.1, (hgrow.block _ (blk_lt hHeld.2.2.1) (by simp [Value.ownBlock])).trans hHeld.2.2.1, hB2⟩ (fun hHeld => ?_)
      clear hK K'
      refine norm_ ?_ (hj (v1, w1.heap.size) _ ⟨hN, (hgrow.block _ (blk_lt hg) (by simp [Value.ownBlock])).trans hg, hHeld.2.2.1, hHeld.2.2.2, hlt, hne⟩)
      simp only [putAll, Act.put, List.setIfInBounds_toArray, List.set_cons_zero, List.set_cons_succ]
end Go.Proofs.Ytfahpihbbkkngaa.P

-- from the text Hz
namespace Go.Proofs.Ytfahpihbbkkngaa.P
open Go.RowKit Go.Proofs.YtfahpihbbkkngaaW.PrintWords Go.Proofs.YtfahpihbbkkngaaW.PrintLast Go.Proofs.YtfahpihbbkkngaaW.PrintMore
set_option linter.unusedVariables false
set_option linter.unusedSimpArgs false
theorem RD.set {w : World} {G : Nat → Prop} {v : Value} {l : List S94} (h : RD w G v l) {p : Addr} (hp : ∀ k, G k → k ≠ p.block) (u : Value) : RD (w.setCell p u) G v l := h.step (fun k hk _ => Below.heap_setCell w p u k (hp k hk))
theorem RD.more {w w' : World} {G : Nat → Prop} {v : Value} {l : List S94} (h : RD w G v l) (hb : Below w.heap.size w w') : RD w' (More G w.heap.size w'.heap.size) v l := (h.below hb).mono (fun k hk => .inl hk)
def moreL (l : List S94) (x : S94) : List S94 := if 60 ≤ l.length then l else l ++ [x]
def moreE (l : List S94) : Int := if 60 ≤ l.length then 4 else 0
theorem more_any (v : Value) (l : List S94) (G : Nat → Prop) (b : Bool) (c : Int) (n : ByteArray) (m : Int) (w : World) (h : RD w G v l) :
    Calls Try.prog 63 #[.agg #[v], .agg #[.slice none 0 0, .bool b, .int .i64 c, .string n, .int .i64 m]] w fun e w' => ∃ v', e = .returned (.tuple #[.agg #[v'], .int .i64 (moreE l)]) ∧ RD w' (More G w.heap.size w'.heap.size) v' (moreL l ⟨[], b, c, n, m⟩) ∧ Below w.heap.size w w' := by
  unfold moreL moreE
  by_cases hl : 60 ≤ l.length
  · rw [if_pos hl, if_pos hl]
    exact (more_full v l G b c n m w h hl).mono fun e w' ⟨he, hb⟩ => ⟨v, he, h.more hb, hb⟩
  · rw [if_neg hl, if_neg hl]
    exact more_is v l G b c n m w h (by omega)
set_option maxRecDepth 100000 in
set_option maxHeartbeats 4000000 in
theorem rpush_is (v : Value) (l : List S94) (G : Nat → Prop) (w : World) (h : RD w G v l) :
    Calls Try.prog 45 #[.agg #[v]] w fun e w' => ∃ v', e = .returned (.tuple #[.agg #[v'], .int .i64 (moreE l)]) ∧ RD w' (More G w.heap.size w'.heap.size) v' (moreL l z94) ∧ Below w.heap.size w w' := by
  obtain ⟨A, cp, rfl, _, _⟩ := h.slice
  have h1 := Aside0.mk ((Below.refl w.heap.size w).alloc (Nat.le_refl _) (.cells #[.slice A l.length cp] 55 (0, 0)))
  have h2 := Aside0.mk (h1.out.alloc h1.out.size (.cells #[.slice none 0 0] 55 (0, 0)))
  have b2 := blk_new (w.alloc (.cells #[.slice A l.length cp] 55 (0, 0))) (.cells #[.slice none 0 0] 55 (0, 0))
  simp only [World.size_alloc] at b2
  replace b2 := Aside0.mk b2
  have hR := Aside0.mk (h.cut.below h2.out)
  clear h
  go_enter Try.func45, Try.ntmps45
  go_wp2_with fail
  refine (more_any _ l (fun k => G k ∧ k < w.heap.size) false 0 ⟨#[]⟩ 0 _ hR.out).mono ?_
  rintro e w2 ⟨v', rfl, hD, hb⟩
  obtain ⟨p2, c2, rfl, _, _⟩ := hD.slice
  have b3 := Aside0.mk (blk_below b2.out hb)
  have q0 := (blk_cell b3.out 0).trans rfl
  have q1 := blk_frozen b3.out 0
  have hB := Aside0.mk (h2.out.trans (hb.mono h2.out.size))
  have hD := Aside0.mk hD.cut
  simp only [World.size_alloc] at hD
  have hS := Aside0.mk (show w.heap.size + 1 + 1 ≤ w2.heap.size by have := hb.size; simpa using this)
  clear hb
  go_wp2_with fail
  refine bodyPost_ret (results_ct rfl _ _ (w.heap.size + 1) 55 #[.slice p2 (moreL l z94).length c2] (0, 0) _ rfl (blk_put b3.out 0 _ rfl) Try.underlying55 rfl (by kernel_rfl)) rfl ?_
  refine ⟨_, rfl, (hD.out.set (fun k hk e => ?_) _).mono (fun k hk => ?_), below_set hB.out (Nat.le_succ _)⟩
  · dsimp only at e
    rcases hk.1 with h | h <;> omega
  · rw [World.size_setCell]
    rcases hk.1 with h | h
    · exact .inl h.1
    · exact .inr ⟨by omega, hk.2⟩
set_option maxRecDepth 100000 in
set_option maxHeartbeats 4000000 in
theorem rpop_bad (v : Value) (k : Int) (l : List S94) (G : Nat → Prop) (w : World) (h : RD w G v l) (hk : k < 1 ∨ (l.length : Int) < k) :
    Calls Try.prog 46 #[.agg #[v], .int .i64 k] w fun e w' => e = .returned (.tuple #[.agg #[v], .int .i64 7]) ∧ Below w.heap.size w w' := by
  obtain ⟨A, cp, rfl, _, _⟩ := h.slice
  have h1 := Aside0.mk ((Below.refl w.heap.size w).alloc (Nat.le_refl _) (.cells #[.slice A l.length cp] 55 (0, 0)))
  have h2 := Aside0.mk (h1.out.alloc h1.out.size (.cells #[.slice A l.length cp] 55 (0, 0)))
  have b2 := blk_new (w.alloc (.cells #[.slice A l.length cp] 55 (0, 0))) (.cells #[.slice A l.length cp] 55 (0, 0))
  simp only [World.size_alloc] at b2
  clear h
  by_cases h3 : k < 1
  · have d1 : decide (k < 1) = true := decide_eq_true h3
    go_enter Try.func46, Try.ntmps46
    go_wp2_with fail
    refine bodyPost_ret (results_ct rfl _ _ (w.heap.size + 1) 55 #[.slice A l.length cp] (0, 0) _ rfl b2 Try.underlying55 rfl (by kernel_rfl)) rfl ?_
    exact ⟨rfl, h2.out⟩
  · have d1 : decide (k < 1) = false := decide_eq_false h3
    have d2 : decide (k > (l.length : Int)) = true := decide_eq_true (by omega)
    go_enter Try.func46, Try.ntmps46
    go_wp2_with fail
    refine bodyPost_ret (results_ct rfl _ _ (w.heap.size + 1) 55 #[.slice A l.length cp] (0, 0) _ rfl b2 Try.underlying55 rfl (by kernel_rfl)) rfl ?_
    exact ⟨rfl, h2.out⟩
set_option maxRecDepth 100000 in
set_option maxHeartbeats 4000000 in
theorem rpop_is (v : Value) (k : Nat) (l : List S94) (G : Nat → Prop) (w : World) (h : RD w G v l) (h1 : 1 ≤ k) (h2 : k ≤ l.length) (hl : l.length ≤ 1000) :
    Calls Try.prog 46 #[.agg #[v], .int .i64 (k : Int)] w fun e w' => ∃ v', e = .returned (.tuple #[.agg #[v'], .int .i64 0]) ∧ RD w' (More G w.heap.size w'.heap.size) v' (l.take k) ∧ Below w.heap.size w w' := by
  obtain ⟨A, cp, rfl, hc, hF⟩ := h
  have hF := Aside0.mk (Kd.F_take (Kd.F_bound hF) h2)
  have hk : (l.take k).length = k := by simp; omega
  rw [hk] at hF
  have H1 := Aside0.mk ((Below.refl w.heap.size w).alloc (Nat.le_refl _) (.cells #[.slice A l.length cp] 55 (0, 0)))
  have H2 := Aside0.mk (H1.out.alloc H1.out.size (.cells #[.slice none 0 0] 55 (0, 0)))
  have b2 := blk_new (w.alloc (.cells #[.slice A l.length cp] 55 (0, 0))) (.cells #[.slice none 0 0] 55 (0, 0))
  simp only [World.size_alloc] at b2
  replace b2 := Aside0.mk b2
  have d1 : decide ((k : Int) < 1) = false := decide_eq_false (by omega)
  have d2 : decide ((k : Int) > (l.length : Int)) = false := decide_eq_false (by omega)
  have k0 : (0 : Int) ≤ (k : Int) := by omega
  have k1 : (k : Int) ≤ (cp : Int) := by omega
  go_enter Try.func46, Try.ntmps46
  go_wp2_with ((with_reducible refine gate_dst (N := 20) rfl ?_); refine appl53 (w := w) (v := .slice none 0 0) (ok := fun k => (G k ∧ k < w.heap.size) ∨ w.heap.size + 1 < k) [] (l.take k) A k (fun k => G k ∧ k < w.heap.size) rfl rfl rfl rfl (Kd.N_nil _ _ _ _ _) (Kd.F_step hF.out (fun q hq _ => H2.out.block q hq.2)) (fun q hq => ⟨.inl hq, by simp [Value.ownBlock]⟩) (fun q hq => .inr (by simp only [World.size_alloc] at hq; omega)) H2.out (by simp; omega) ?_; intro v1 w2 hN hB2 hgrow hat; obtain ⟨p2, c2, rfl⟩ := Kd.N_slice hN; have b3 := Aside0.mk ((hgrow.block _ (blk_lt b2.out) (by simp [Value.ownBlock])).trans b2.out); have q0 := (blk_cell b3.out 0).trans rfl; have q1 := blk_frozen b3.out 0; rw [List.nil_append] at hN; have HN := Aside0.mk hN; have HB := Aside0.mk hB2; clear hN hB2 hgrow hat)
  rw [hk] at HN
  have HF := Aside0.mk (Kd.N_far (p := ⟨w.heap.size + 1, 0, none⟩) HN.out (fun q hq e => by dsimp only at e; subst e; rcases hq with hq | hq <;> omega) (.slice p2 k c2))
  refine bodyPost_ret (results_ct rfl _ _ (w.heap.size + 1) 55 #[.slice p2 k c2] (0, 0) _ rfl (blk_put b3.out 0 _ rfl) Try.underlying55 rfl (by kernel_rfl)) rfl ?_
  exact ⟨_, rfl, RD.of_N HF.out (fun q hq hlt => hq.elim (fun e => .inl e.1) (fun e => .inr ⟨by omega, hlt⟩)), below_set HB.out (Nat.le_succ _)⟩
end Go.Proofs.Ytfahpihbbkkngaa.P

-- from the text Ra
namespace Go.Proofs.Ytfahpihbbkkngaa.P
open Go.RowKit Go.Proofs.YtfahpihbbkkngaaW.PrintWords Go.Proofs.YtfahpihbbkkngaaW.PrintLast Go.Proofs.YtfahpihbbkkngaaW.PrintMore
set_option linter.unusedVariables false
set_option linter.unusedSimpArgs false
/-- Units of the reference. -/
def RU (w : World) (G : Nat → Prop) (v : Value) (us : List S24) : Prop := ∃ A c, v = .slice A us.length c ∧ us.length ≤ c ∧ Kd.F k24 w G A us.length us
theorem RU.mono {w : World} {G G' : Nat → Prop} {v : Value} {l : List S24} (h : RU w G v l) (hG : ∀ k, G k → G' k) : RU w G' v l := by
  obtain ⟨A, c, e, hc, hF⟩ := h
  exact ⟨A, c, e, hc, Kd.F_mono hF hG⟩
theorem RU.step {w w' : World} {G : Nat → Prop} {v : Value} {l : List S24} (h : RU w G v l) (hm : ∀ k, G k → k < w.heap.size → w'.heap[k]? = w.heap[k]?) : RU w' G v l := by
  obtain ⟨A, c, e, hc, hF⟩ := h
  exact ⟨A, c, e, hc, Kd.F_step hF hm⟩
theorem RU.below {w w' : World} {G : Nat → Prop} {v : Value} {l : List S24} (h : RU w G v l) (hb : Below w.heap.size w w') : RU w' G v l := h.step (fun k _ hk => hb.block k hk)
theorem RU.cut {w : World} {G : Nat → Prop} {v : Value} {l : List S24} (h : RU w G v l) : RU w (fun k => G k ∧ k < w.heap.size) v l := by
  obtain ⟨A, c, e, hc, hF⟩ := h
  exact ⟨A, c, e, hc, Kd.F_bound hF⟩
theorem set_last (l0 : List S94) (x y : S94) : (l0 ++ [x]).set l0.length y = l0 ++ [y] := by
  rw [List.set_append_right _ _ (Nat.le_refl _), Nat.sub_self, List.set_cons_zero]
theorem newest_facts {w W w2 : World} {G : Nat → Prop} {l0 l : List S94} {x : S94} {us : List S24} {Au A : Option Addr} {cu cp g c2 : Nat} (hle : l0 ++ [x] = l) (hcu : us.length ≤ cu) (HFU : Kd.F k24 w (fun k => G k ∧ k < w.heap.size) Au us.length us)
    (i0 : (0 : Int) ≤ (l0.length : Int)) (i1 : (l0.length : Int) < (l.length : Int)) (hW : W.heap.size = w.heap.size + 1 + 1) (b1 : W.heap[w.heap.size]? = some (.cells #[.slice A l.length cp] 55 (0, 0))) (b2 : W.heap[w.heap.size + 1]? = some (.cells #[.slice none 0 0] 55 (0, 0)))
    (hN : Kd.N k94 94 w2 w.heap.size (fun k => (G k ∧ k < w.heap.size) ∨ w.heap.size + 1 < k) (.slice (some ⟨g, 0, none⟩) l.length c2) l) (hB2 : Below w.heap.size w w2) (hgrow : W.grownBy w2 none) (hg : w.heap.size + 1 < g) :
    ∃ A0 c0, w2.cell? ⟨w.heap.size, 0, none⟩ = some (.slice A l.length cp) ∧ w2.frozen? ⟨w.heap.size, 0, none⟩ = false ∧
      (w2.setCell ⟨w.heap.size, 0, none⟩ (.slice (some ⟨g, 0, none⟩) l.length c2)).cell? ⟨g, l0.length * 5, none⟩ = some (.slice A0 x.f0.length c0) ∧
      (w2.setCell ⟨w.heap.size, 0, none⟩ (.slice (some ⟨g, 0, none⟩) l.length c2)).frozen? ⟨g, l0.length * 5, none⟩ = false ∧
      ((w2.setCell ⟨w.heap.size, 0, none⟩ (.slice (some ⟨g, 0, none⟩) l.length c2)).setCell ⟨g, l0.length * 5, none⟩ (.slice Au us.length cu)).cell? ⟨w.heap.size, 0, none⟩ = some (.slice (some ⟨g, 0, none⟩) l.length c2) ∧
      ((w2.setCell ⟨w.heap.size, 0, none⟩ (.slice (some ⟨g, 0, none⟩) l.length c2)).setCell ⟨g, l0.length * 5, none⟩ (.slice Au us.length cu)).heap[w.heap.size + 1]? = some (.cells #[.slice none 0 0] 55 (0, 0)) ∧
      Aside0 (Kd.N k94 94 ((w2.setCell ⟨w.heap.size, 0, none⟩ (.slice (some ⟨g, 0, none⟩) l.length c2)).setCell ⟨g, l0.length * 5, none⟩ (.slice Au us.length cu)) w.heap.size (fun k => (G k ∧ k < w.heap.size) ∨ w.heap.size + 1 < k) (.slice (some ⟨g, 0, none⟩) l.length c2) (l0 ++ [{ x with f0 := us }])) ∧
      Aside0 (Below w.heap.size w ((w2.setCell ⟨w.heap.size, 0, none⟩ (.slice (some ⟨g, 0, none⟩) l.length c2)).setCell ⟨g, l0.length * 5, none⟩ (.slice Au us.length cu))) := by
  have b3 := (hgrow.block _ (blk_lt b1) (by simp)).trans b1
  have b4 := (hgrow.block _ (blk_lt b2) (by simp)).trans b2
  have D1 := Kd.N_far (p := ⟨w.heap.size, 0, none⟩) hN (fun q hq e => by dsimp only at e; subst e; rcases hq with hq | hq <;> omega) (.slice (some ⟨g, 0, none⟩) l.length c2)
  obtain ⟨cs, hcl, hFK, hcc, hfr⟩ := Kd.N_elem D1 z94 (l0.length : Int) i0 i1
  have hget : l.getD (l0.length : Int).toNat z94 = x := by rw [← hle]; simp
  rw [hget] at hFK
  obtain ⟨A0, c0, rfl, _, _⟩ := k94_openF hFK
  have hFU2 := Kd.F_step (W1 := w2.setCell ⟨w.heap.size, 0, none⟩ (.slice (some ⟨g, 0, none⟩) l.length c2)) HFU (fun q hq _ => (Below.heap_setCell w2 _ _ _ (by have := hq.2; dsimp only; omega)).trans (hB2.block q hq.2))
  have D2 := (Kd.N_seg D1 (l0.length : Int) i0 i1 (seg := [.slice Au us.length cu]) (j := 0) (x' := { x with f0 := us }) (okp := fun k => G k ∧ k < w.heap.size) hcl hcc (show 0 + 1 ≤ 5 by decide) (k94_mkF _ _ { x with f0 := us } hcu hFU2) (fun q hq => ⟨.inl hq, by have := hq.2; omega⟩)).1
  rw [show l.set (l0.length : Int).toNat { x with f0 := us } = l0 ++ [{ x with f0 := us }] by rw [← hle, Int.toNat_natCast, set_last]] at D2
  have b5 := blk_far (p := ⟨g, l0.length * 5, none⟩) (blk_far (p := ⟨w.heap.size, 0, none⟩) b4 (by dsimp only; omega) (.slice (some ⟨g, 0, none⟩) l.length c2)) (by dsimp only; omega) (.slice Au us.length cu)
  exact ⟨A0, c0, (blk_cell b3 0).trans rfl, blk_frozen b3 0, hcc 0 _ rfl, hfr 0, (blk_cell (blk_far (p := ⟨g, l0.length * 5, none⟩) (blk_put b3 0 (.slice (some ⟨g, 0, none⟩) l.length c2) rfl) (by dsimp only; omega) (.slice Au us.length cu)) 0).trans rfl, b5, ⟨D2⟩,
    ⟨below_set (j := l0.length * 5) (v := .slice Au us.length cu) (below_set (j := 0) (v := .slice (some ⟨g, 0, none⟩) l.length c2) hB2 (Nat.le_refl w.heap.size)) (by omega)⟩⟩
set_option maxRecDepth 100000 in
set_option maxHeartbeats 4000000 in
theorem rnewest_is (v u : Value) (l0 : List S94) (x : S94) (us : List S24) (G : Nat → Prop) (w : World) (h : RD w G v (l0 ++ [x])) (hu : RU w G u us) (hl : l0.length ≤ 1000) :
    Calls Try.prog 64 #[.agg #[v], u] w fun e w' => ∃ v', e = .returned (.agg #[v']) ∧ RD w' (More G w.heap.size w'.heap.size) v' (l0 ++ [{ x with f0 := us }]) ∧ Below w.heap.size w w' := by
  obtain ⟨A, cp, rfl, hc, hF⟩ := h
  obtain ⟨Au, cu, rfl, hcu, hFu⟩ := hu
  have hlen : (l0 ++ [x]).length = l0.length + 1 := by simp
  obtain ⟨l, hle⟩ : ∃ l, l0 ++ [x] = l := ⟨_, rfl⟩
  rw [hle] at hF hc hlen ⊢
  have hF := Aside0.mk (Kd.F_bound hF)
  have HFU := Aside0.mk (Kd.F_bound hFu)
  have hwr : wrap64 ((l.length : Int) - 1) = (l0.length : Int) := by unfold wrap64; omega
  have i0 : (0 : Int) ≤ (l0.length : Int) := by omega
  have i1 : (l0.length : Int) < (l.length : Int) := by omega
  have H1 := Aside0.mk ((Below.refl w.heap.size w).alloc (Nat.le_refl _) (.cells #[.slice A l.length cp] 55 (0, 0)))
  have H2 := Aside0.mk (H1.out.alloc H1.out.size (.cells #[.slice none 0 0] 55 (0, 0)))
  have b1 := Aside0.mk (blk_alloc (blk_new w (.cells #[.slice A l.length cp] 55 (0, 0))) (.cells #[.slice none 0 0] 55 (0, 0)))
  have b2 := blk_new (w.alloc (.cells #[.slice A l.length cp] 55 (0, 0))) (.cells #[.slice none 0 0] 55 (0, 0))
  simp only [World.size_alloc] at b2
  replace b2 := Aside0.mk b2
  have HLM := Aside0.mk (show ([] : List S94).length + l.length ≤ 1000000 by simp; omega)
  replace hlen := Aside0.mk hlen
  replace hle := Aside0.mk hle
  clear hFu
  go_enter Try.func64, Try.ntmps64
  go_wp2_with (first
    | ((with_reducible refine gate_dst (N := 7) rfl ?_); refine appl53 (w := w) (v := .slice none 0 0) (ok := fun k => (G k ∧ k < w.heap.size) ∨ w.heap.size + 1 < k) [] l A l.length (fun k => G k ∧ k < w.heap.size) rfl rfl rfl rfl (Kd.N_nil _ _ _ _ _) (Kd.F_step hF.out (fun q hq _ => H2.out.block q hq.2)) (fun q hq => ⟨.inl hq, by simp [Value.ownBlock]⟩) (fun q hq => .inr (by simp only [World.size_alloc] at hq; omega)) H2.out HLM.out ?_
       intro v1 w2 hN hB2 hgrow hat
       rw [List.nil_append] at hN
       obtain ⟨g, c2, rfl, hg1, hg2, cells, hgc⟩ := Kd.N_form hN (by omega)
       have hgg : w.heap.size + 1 < g := by
         rcases hat with h | ⟨q, h, hle⟩
         · simp [Value.ownBlock] at h
         · simp only [World.size_alloc] at hle
           have := Option.some.inj (show some g = some q from h)
           omega
       obtain ⟨A0, c0, q0, q1, e0, e1, r0, b5, D2, HB⟩ := newest_facts (Au := Au) (us := us) (cu := cu) hle.out hcu HFU.out i0 i1 (by simp) b1.out b2.out hN hB2 hgrow hgg
       have b6 := Aside0.mk b5
       have r1 := (blk_cell b5 0).trans rfl
       have r2 := blk_frozen b5 0
       have HGG := Aside0.mk hgg
       clear hN hB2 hgrow hat hgc hgg b5)
    | fail)
  have HF := Aside0.mk (Kd.N_far (p := ⟨w.heap.size + 1, 0, none⟩) D2.out (fun q hq e => by dsimp only at e; subst e; rcases hq with hq | hq <;> omega) (.slice (some ⟨g, 0, none⟩) l.length c2))
  refine bodyPost_ret (results_cell_row rfl _ _ (w.heap.size + 1) 55 #[.slice (some ⟨g, 0, none⟩) l.length c2] (0, 0) _ rfl (blk_put b6.out 0 _ rfl) Try.underlying55 rfl (by kernel_rfl)) rfl ?_
  exact ⟨_, rfl, RD.of_N HF.out (fun q hq hlt => hq.elim (fun e => .inl e.1) (fun e => .inr ⟨by omega, hlt⟩)), below_set HB.out (Nat.le_succ _)⟩
end Go.Proofs.Ytfahpihbbkkngaa.P

-- from the text Hn
namespace Go.Proofs.Ytfahpihbbkkngaa.P
open Go.RowKit Go.Proofs.YtfahpihbbkkngaaW.PrintWords Go.Proofs.YtfahpihbbkkngaaW.PrintLast Go.Proofs.YtfahpihbbkkngaaW.PrintMore
set_option linter.unusedVariables false
set_option linter.unusedSimpArgs false
attribute [local go_sem high] eqA71
theorem cFs_at (i : Nat) (hi : i < 4) : ∀ (us : List (Value × Fr)) (k : Nat) (u : Value × Fr), us[k]? = some u → (cFs us)[k * 4 + i]? = (cF u)[i]?
  | [], k, u, h => by simp at h
  | x :: us, 0, u, h => by
    simp at h
    subst h
    simp only [cFs, List.flatMap_cons, Nat.zero_mul, Nat.zero_add]
    rw [List.getElem?_append_left (by simpa [cF] using hi)]
  | x :: us, k + 1, u, h => by
    have := cFs_at i hi us k u (by simpa using h)
    simp only [cFs, List.flatMap_cons] at this ⊢
    rw [List.getElem?_append_right (by simp [cF]; omega)]
    have e : (k + 1) * 4 + i - (cF x).length = k * 4 + i := by simp [cF]; omega
    rw [e, this]
/-- Whether a frame runs a unit for a condition and name. -/
def runs (c : Int) (n : ByteArray) (f : Fr) : Bool := f.rc == c && (f.rn.toList == n.toList)
def fromL (c : Int) (n : ByteArray) (m : Int) : List Fr → Int
  | [] => m
  | f :: r => fromL c n (if runs c n f = true then (if f.bl - 1 < m then f.bl - 1 else m) else m) r
theorem fromL_cons (c : Int) (n : ByteArray) (m : Int) (f : Fr) (r : List Fr) : fromL c n m (f :: r) = fromL c n (if runs c n f = true then (if f.bl - 1 < m then f.bl - 1 else m) else m) r := rfl
/-- A frame of the stack. -/
theorem Stk.frame {w : World} {s : Nat} {fv : Value} {D : List (Value × Fr)} (h : Stk w s fv D) {k : Nat} (hk : k < D.length) : ∃ g cap v f, fv = .slice (some ⟨g, 0, none⟩) D.length cap ∧ D.length ≤ cap ∧ D[k]? = some (v, f) ∧
    w.cell? ⟨g, k * 4, none⟩ = some v ∧ w.cell? ⟨g, k * 4 + 1, none⟩ = some (.int .i64 f.rc) ∧ w.cell? ⟨g, k * 4 + 2, none⟩ = some (.string f.rn) ∧ w.cell? ⟨g, k * 4 + 3, none⟩ = some (.int .i64 f.bl) := by
  have hd : D[k]? = some D[k] := List.getElem?_eq_getElem hk
  have hr := h.row
  rcases hr.2 with ⟨_, h0⟩ | ⟨g, cap, cur, rfl, _, _, hc, _⟩
  · omega
  · refine ⟨g, cap, D[k].1, D[k].2, rfl, hc, hd, ?_, ?_, ?_, ?_⟩
    · exact ownsRow_cell hr ((cFs_at 0 (by omega) D k _ hd).trans rfl)
    · exact ownsRow_cell hr ((cFs_at 1 (by omega) D k _ hd).trans rfl)
    · exact ownsRow_cell hr ((cFs_at 2 (by omega) D k _ hd).trans rfl)
    · exact ownsRow_cell hr ((cFs_at 3 (by omega) D k _ hd).trans rfl)
set_option maxRecDepth 100000 in
set_option maxHeartbeats 8000000 in
theorem down_is (s : Nat) (c : Int) (n : ByteArray) (L : List Fr) (F : Nat → Prop) (w : World) (h : St w s L F) (hL : L.length ≤ 1000) (hb : ∀ f ∈ L, 0 ≤ f.bl ∧ f.bl ≤ 1000) :
    Calls Try.prog 37 #[.pointer (some ⟨s, 0, none⟩), .agg #[.int .i64 c, .string n]] w fun e w' => e = .returned (.func (.func 57) #[] #[.pointer (some ⟨w.heap.size + 1 + 1, 0, none⟩), .pointer (some ⟨w.heap.size, 0, none⟩)]) ∧
      w'.heap[w.heap.size]? = some (.cells #[.pointer (some ⟨s, 0, none⟩)] 26 (0, 0)) ∧ w'.heap[w.heap.size + 1 + 1]? = some (.cells #[.int .i64 (fromL c n ((L.length : Int) - 1) L)] 3 (0, 0)) ∧ Below w.heap.size w w' := by
  obtain ⟨fv, D, h1, h2, h3, ⟨p, cap, rfl⟩, hc, hf⟩ := h.open_
  have hD : D.length = L.length := by rw [← h2]; simp
  have HST := Aside0.mk h1
  have H2 := Aside0.mk h2
  have hs := blk_lt h1.head
  have hmf : ∀ (fn : Fn) (first cap : Array Value) (w : World), (Instr.makeFunc fn first cap).run Try.prog w = .ok (.func fn first cap) w := fun _ _ _ _ => rfl
  have hw1 : wrap64 ((L.length : Int) - 1) = (L.length : Int) - 1 := by unfold wrap64; omega
  have hw2 : IntKind.i64.wrap ((L.length : Int) - 1) = (L.length : Int) - 1 := by rw [IntKind.wrap_i64]; omega
  have B0 := Aside0.mk ((Below.refl w.heap.size w).alloc (Nat.le_refl _) (.cells #[.pointer (some ⟨s, 0, none⟩)] 26 (0, 0)))
  have B1 := Aside0.mk (B0.out.alloc B0.out.size (.cells #[.int .i64 c, .string n] 71 (0, 0)))
  have B2 := Aside0.mk (B1.out.alloc B1.out.size (.cells #[.int .i64 ((L.length : Int) - 1)] 3 (0, 0)))
  have hcA := pw_cell_below B1.out hc
  have hcB := pw_cell_below B2.out hc
  have P2 := Aside0.mk (blk_alloc (blk_alloc (blk_new w (.cells #[.pointer (some ⟨s, 0, none⟩)] 26 (0, 0))) (.cells #[.int .i64 c, .string n] 71 (0, 0))) (.cells #[.int .i64 ((L.length : Int) - 1)] 3 (0, 0)))
  have P3 := Aside0.mk (blk_alloc (blk_new (w.alloc (.cells #[.pointer (some ⟨s, 0, none⟩)] 26 (0, 0))) (.cells #[.int .i64 c, .string n] 71 (0, 0))) (.cells #[.int .i64 ((L.length : Int) - 1)] 3 (0, 0)))
  have P5 := Aside0.mk (blk_new ((w.alloc (.cells #[.pointer (some ⟨s, 0, none⟩)] 26 (0, 0))).alloc (.cells #[.int .i64 c, .string n] 71 (0, 0))) (.cells #[.int .i64 ((L.length : Int) - 1)] 3 (0, 0)))
  rw [World.size_alloc] at P3
  rw [World.size_alloc, World.size_alloc] at P5
  clear h1 h2 h3
  go_enter Try.func37, Try.ntmps37
  go_wp2_with fail
  go_loopw [19] (fun q wr => ∃ (k : Nat) (m : Int), k ≤ L.length ∧ q = .int .i64 (k : Int) ∧ Aside0 (fromL c n m (L.drop k) = fromL c n ((L.length : Int) - 1) L) ∧ Aside0 (Below w.heap.size w wr) ∧ Aside0 (wr.heap[w.heap.size]? = some (.cells #[.pointer (some ⟨s, 0, none⟩)] 26 (0, 0))) ∧ Aside0 (wr.heap[w.heap.size + 1]? = some (.cells #[.int .i64 c, .string n] 71 (0, 0))) ∧ Aside0 (wr.heap[w.heap.size + 1 + 1]? = some (.cells #[.int .i64 m] 3 (0, 0)))) (fun q _ => L.length - (intOf q).toNat)
  case atStart => exact ⟨0, (L.length : Int) - 1, Nat.zero_le _, rfl, ⟨rfl⟩, B2, P2, P3, P5⟩
  case round =>
    clear P2 P3 P5 B2 B1 B0 hcA hcB hc hf
    obtain ⟨k, m, hk, rfl, HA, HB, P2, P3, P5⟩ := hrel
    by_cases hlt : k < L.length
    · have hlt' : (k : Int) < (L.length : Int) := by omega
      have h0 : (0 : Int) ≤ (k : Int) := by omega
      obtain ⟨g, cap', v, f, hv, hcp, hdk, x0, x1, x2, x3⟩ := HST.out.frame (k := k) (by omega)
      rw [hD] at hv hcp
      cases hv
      have hvs := HST.out.units (v, f) (List.mem_of_getElem? hdk)
      dsimp only at hvs
      obtain ⟨pv, cv, rfl⟩ := ownsRow_slice hvs
      have hLk : L[k]? = some f := by rw [← H2.out, List.getElem?_map, hdk]; rfl
      have hbf := hb f (List.mem_of_getElem? hLk)
      replace x0 := pw_cell_below HB.out x0
      replace x1 := pw_cell_below HB.out x1
      replace x2 := pw_cell_below HB.out x2
      replace x3 := pw_cell_below HB.out x3
      have HD : L.drop k = f :: L.drop (k + 1) := by
        rw [List.drop_eq_getElem_cons hlt]
        congr 1
        rw [List.getElem?_eq_getElem hlt] at hLk
        exact Option.some.inj hLk
      have hA := HA.out
      rw [HD, fromL_cons] at hA
      have hs1 : wrap64 (f.bl - 1) = f.bl - 1 := by unfold wrap64; omega
      have hs2 : IntKind.i64.wrap (f.bl - 1) = f.bl - 1 := by rw [IntKind.wrap_i64]; omega
      have HBx := Aside0.mk (HB.out.alloc HB.out.size (.cells #[.slice pv f.us.length cv, .int .i64 f.rc, .string f.rn, .int .i64 f.bl] 73 (0, 0)))
      have N7 := Aside0.mk (blk_new wr (.cells #[.slice pv f.us.length cv, .int .i64 f.rc, .string f.rn, .int .i64 f.bl] 73 (0, 0)))
      have N2 := Aside0.mk (blk_alloc P2.out (.cells #[.slice pv f.us.length cv, .int .i64 f.rc, .string f.rn, .int .i64 f.bl] 73 (0, 0)))
      have N3 := Aside0.mk (blk_alloc P3.out (.cells #[.slice pv f.us.length cv, .int .i64 f.rc, .string f.rn, .int .i64 f.bl] 73 (0, 0)))
      have N5 := Aside0.mk (blk_alloc P5.out (.cells #[.slice pv f.us.length cv, .int .i64 f.rc, .string f.rn, .int .i64 f.bl] 73 (0, 0)))
      have y1 := (blk_cell N7.out 1).trans rfl
      have y2 := (blk_cell N7.out 2).trans rfl
      have y3 := (blk_cell N7.out 3).trans rfl
      have z0 := (blk_cell N3.out 0).trans rfl
      have z1 := (blk_cell N3.out 1).trans rfl
      have m0 := (blk_cell N5.out 0).trans rfl
      have mf := blk_frozen N5.out 0
      cases hq : runs c n f with
      | true =>
        rw [if_pos hq] at hA
        replace hA := Aside0.mk hA
        unfold runs at hq
        go_wp2_with fail
        refine ⟨⟨k + 1, _, hlt, rfl, hA, Aside0.mk (HBx.out.setCell (p := ⟨w.heap.size + 1 + 1, 0, none⟩) (by show w.heap.size ≤ w.heap.size + 1 + 1; omega) _), Aside0.mk (blk_far N2.out (p := ⟨w.heap.size + 1 + 1, 0, none⟩) (by show w.heap.size ≠ w.heap.size + 1 + 1; omega) _), Aside0.mk (blk_far N3.out (p := ⟨w.heap.size + 1 + 1, 0, none⟩) (by show w.heap.size + 1 ≠ w.heap.size + 1 + 1; omega) _), Aside0.mk (blk_put N5.out 0 _ rfl)⟩, by simp [intOf]; omega⟩
      | false =>
        rw [if_neg (by simp [hq])] at hA
        replace hA := Aside0.mk hA
        unfold runs at hq
        go_wp2_with fail
        exact ⟨⟨k + 1, _, hlt, rfl, hA, HBx, N2, N3, N5⟩, by simp [intOf]; omega⟩
    · obtain rfl : k = L.length := by omega
      have hA : m = fromL c n ((L.length : Int) - 1) L := by rw [← HA.out]; simp [fromL]
      replace hA := Aside0.mk hA
      go_wp2_with fail
      go_ret
      rw [← hA.out]
      exact ⟨rfl, P2.out, P5.out, HB.out⟩
end Go.Proofs.Ytfahpihbbkkngaa.P

-- from the text Ho
namespace Go.Proofs.Ytfahpihbbkkngaa.P
open Go.RowKit Go.Shelf Go.Proofs.YtfahpihbbkkngaaW.PrintWords Go.Proofs.YtfahpihbbkkngaaW.PrintLast Go.Proofs.YtfahpihbbkkngaaW.PrintMore
set_option linter.unusedVariables false
set_option linter.unusedSimpArgs false
attribute [local go_sem] Oper.semAt_some
/-- The places below n, the greatest one first. -/
def downTo : Nat → List Nat
  | 0 => []
  | n + 1 => n :: downTo n
theorem downTo_length : ∀ n, (downTo n).length = n
  | 0 => rfl
  | n + 1 => by simp [downTo, downTo_length n]
def frD (D : List (Value × Fr)) (k : Nat) : Value × Fr := D.getD k (.slice none 0 0, fr0)
def encD (D : List (Value × Fr)) (k : Nat) : Array Value := #[.int .i64 (k : Int), .agg #[(frD D k).1, .int .i64 (frD D k).2.rc, .string (frD D k).2.rn, .int .i64 (frD D k).2.bl]]
set_option maxRecDepth 100000 in
set_option maxHeartbeats 4000000 in
theorem down1_in (F : Fence) (n : Nat) (h57 : F.fn 57) (hro : F.round = none) (hn : 1 ≤ n) (l b5 b2 n₀ s N : Nat) (fv : Value) (D : List (Value × Fr)) (J Jx : List Nat → World → Prop)
    (hY : ∀ pre x W, J pre W → pre.length < N → YieldAt F (n - 1) Try.prog l (encD D x) W fun e W' =>
      (e = .returned (.bool true) ∧ J (pre ++ [x]) W' ∧ Below n₀ W W') ∨ (e = .returned (.bool false) ∧ Jx (pre ++ [x]) W'))
    (W : World) (hb5 : W.heap[b5]? = some (.cells #[.int .i64 ((N : Int) - 1)] 3 (0, 0))) (hb2 : W.heap[b2]? = some (.cells #[.pointer (some ⟨s, 0, none⟩)] 26 (0, 0))) (hl5 : b5 < n₀) (hl2 : b2 < n₀)
    (hS : Stk W s fv D) (hlt : ∀ k, foot s fv D k → k < n₀) (hN : N ≤ D.length) (hD : D.length ≤ 1000) (h0 : J [] W) :
    CallsIn F n Try.prog 57 #[.func (.yield l) #[] #[], .pointer (some ⟨b5, 0, none⟩), .pointer (some ⟨b2, 0, none⟩)] W fun e W' => (∃ v, e = .returned v) ∧
      ((∃ ys, ys = downTo N ∧ J ys W') ∨ (∃ pre, pre <+: downTo N ∧ Jx pre W')) := by
  refine callsIn_of_wp Try.func57 rfl h57 ?_ hro
  simp only [Try.ntmps57, List.size_toArray, List.length_cons, List.length_nil, Nat.reduceAdd, Nat.reduceSub, Array.replicate_succ, Array.replicate_zero, List.push_toArray, List.append_toArray, List.nil_append, List.cons_append]
  have q5 := (blk_cell hb5 0).trans rfl
  gi_wp2
  gi_loopw [4] (fun i wr => ∃ (j : Nat) (pre : List Nat), i = .int .i64 ((j : Int) - 1) ∧ pre ++ downTo j = downTo N ∧ J pre wr ∧ Below n₀ W wr)
    (fun i _ => (intOf i + 1).toNat)
  case atStart => exact ⟨N, [], rfl, by simp, h0, Below.refl _ _⟩
  case round =>
    obtain ⟨j, pre, rfl, hp, hJs, hnx⟩ := hrel
    have hlen : pre.length + j = N := by
      have := congrArg List.length hp
      rw [List.length_append, downTo_length, downTo_length] at this
      exact this
    cases j with
    | zero =>
      rw [show ((0 : Nat) : Int) - 1 = -1 from rfl]
      have hpre : pre = downTo N := by rw [← hp]; simp [downTo]
      gi_wp2
      go_end0
      exact ⟨⟨_, rfl⟩, .inl ⟨pre, hpre, hJs⟩⟩
    | succ j =>
      rw [show ((j + 1 : Nat) : Int) - 1 = (j : Int) by omega]
      have hSw := hS.kept (fun k hk => hnx.block k (hlt k hk))
      have hh := (blk_cell hSw.head 0).trans rfl
      obtain ⟨g, cap, v, f, rfl, hcap, hdj, x0, x1, x2, x3⟩ := hSw.frame (k := j) (by omega)
      have hx : frD D j = (v, f) := by unfold frD; rw [List.getD_eq_getElem?_getD, hdj]; rfl
      obtain ⟨fn, tmps, assign, body, hy, hR⟩ := hY pre j wr hJs (by omega)
      simp only [encD, hx] at hy hR
      have r2 := (blk_cell ((hnx.block b2 hl2).trans hb2) 0).trans rfl
      have j0 : (0 : Int) ≤ (j : Int) := by omega
      have j1 : (j : Int) < (D.length : Int) := by omega
      have jm : IntKind.i64.wrap ((j : Int) - 1) = (j : Int) - 1 := by rw [IntKind.wrap_i64]; omega
      have jw : wrap64 ((j : Int) - 1) = (j : Int) - 1 := by unfold wrap64; omega
      have hp2 : (pre ++ [j]) ++ downTo j = downTo N := by
        rw [← hp]
        simp only [downTo, List.append_assoc, List.singleton_append]
      gi_wp2
      refine hR.mono ?_
      rintro e W3 (⟨rfl, hJ3, hk3⟩ | ⟨rfl, hJx3⟩)
      · gi_wp2
        go_roundw
        case rel => exact ⟨j, pre ++ [j], rfl, hp2, hJ3, hnx.trans hk3⟩
        case measure => simp [intOf]
      · gi_wp2
        refine bodyPost_ret (results_none rfl _ _ _) rfl ?_
        exact ⟨⟨_, rfl⟩, .inr ⟨_, ⟨downTo j, hp2⟩, hJx3⟩⟩
/-- What the iterator tells. -/
theorem down_stops (F : Fence) (n : Nat) (h57 : F.fn 57) (hro : F.round = none) (hn : 1 ≤ n) (b5 b2 s N : Nat) (fv : Value) (D : List (Value × Fr)) (w : World) (hb5 : w.heap[b5]? = some (.cells #[.int .i64 ((N : Int) - 1)] 3 (0, 0))) (hb2 : w.heap[b2]? = some (.cells #[.pointer (some ⟨s, 0, none⟩)] 26 (0, 0)))
    (hS : Stk w s fv D) (hN : N ≤ D.length) (hD : D.length ≤ 1000) :
    SeqStopsK F n Try.prog 57 #[.pointer (some ⟨b5, 0, none⟩), .pointer (some ⟨b2, 0, none⟩)] (encD D) (Below w.heap.size) (fun ys => ys = downTo N) (fun pre => pre <+: downTo N) N w := fun l J Jx W hW _ _ hY h0 =>
  down1_in F n h57 hro hn l b5 b2 w.heap.size s N fv D J Jx hY W (blk_below hb5 hW) (blk_below hb2 hW) (blk_lt hb5) (blk_lt hb2) (hS.kept (fun k hk => hW.block k (hS.foot_lt hk))) (fun k hk => hS.foot_lt hk) hN hD h0
end Go.Proofs.Ytfahpihbbkkngaa.P

-- from the text Hp
namespace Go.Proofs.Ytfahpihbbkkngaa.P
open Go.RowKit Go.Shelf Go.Proofs.YtfahpihbbkkngaaW.PrintWords Go.Proofs.YtfahpihbbkkngaaW.PrintLast Go.Proofs.YtfahpihbbkkngaaW.PrintMore
set_option linter.unusedVariables false
set_option linter.unusedSimpArgs false
attribute [local go_sem] Oper.semAt_some
theorem fromL_bounds (c : Int) (n : ByteArray) : ∀ (L : List Fr) (m : Int), -1 ≤ m → (∀ f ∈ L, 0 ≤ f.bl ∧ f.bl ≤ 1000) → -1 ≤ fromL c n m L ∧ fromL c n m L ≤ m
  | [], m, h, _ => ⟨h, Int.le_refl _⟩
  | f :: r, m, h, hb => by
    have hf := hb f (by simp)
    have ih := fromL_bounds c n r (if runs c n f = true then (if f.bl - 1 < m then f.bl - 1 else m) else m) (by split <;> (try split) <;> omega) (fun g hg => hb g (by simp [hg]))
    rw [fromL_cons]
    refine ⟨ih.1, Int.le_trans ih.2 ?_⟩
    split <;> (try split) <;> omega
/-- The first frame from the n-th one down that has a unit for a condition and name. -/
def findL (c : Int) (n : ByteArray) (L : List Fr) : Nat → Option (Nat × S24)
  | 0 => none
  | k + 1 => match idxU c n (L.getD k fr0).us 0 with
    | some i => some (k, ((L.getD k fr0).us[i]?).getD z24)
    | none => findL c n L k
def miss (c : Int) (n : ByteArray) (L : List Fr) (k : Nat) : Prop := idxU c n (L.getD k fr0).us 0 = none
def found (c : Int) (n : ByteArray) (L : List Fr) (k : Nat) (u : S24) : Prop := ∃ i, idxU c n (L.getD k fr0).us 0 = some i ∧ (L.getD k fr0).us[i]? = some u
theorem find_none (c : Int) (n : ByteArray) (L : List Fr) : ∀ N, (∀ x ∈ downTo N, miss c n L x) → findL c n L N = none
  | 0, _ => rfl
  | N + 1, h => by
    have h0 : miss c n L N := h N (by simp [downTo])
    unfold miss at h0
    simp only [findL, h0]
    exact find_none c n L N (fun x hx => h x (by simp [downTo, hx]))
theorem find_some (c : Int) (n : ByteArray) (L : List Fr) (k : Nat) (u : S24) (hf : found c n L k u) : ∀ (N : Nat) (pre : List Nat), pre ++ [k] <+: downTo N → (∀ x ∈ pre, miss c n L x) → findL c n L N = some (k, u)
  | 0, pre, h, _ => by
    have := h.length_le
    simp [downTo] at this
  | N + 1, [], h, _ => by
    obtain ⟨t, ht⟩ := h
    simp only [downTo, List.nil_append, List.singleton_append, List.cons.injEq] at ht
    obtain ⟨rfl, _⟩ := ht
    obtain ⟨i, h1, h2⟩ := hf
    simp only [findL, h1, h2, Option.getD_some]
  | N + 1, x :: pre, h, hm => by
    obtain ⟨t, ht⟩ := h
    simp only [downTo, List.cons_append, List.cons.injEq] at ht
    obtain ⟨rfl, ht⟩ := ht
    have h0 : miss c n L x := hm x (by simp)
    unfold miss at h0
    simp only [findL, h0]
    exact find_some c n L k u hf x pre ⟨t, ht⟩ (fun y hy => hm y (by simp [hy]))
theorem own_blk {A B : World} {row : Option Nat} {n : Nat} (hg : A.grownBy B row) (hr : ∀ r, row = some r → n ≤ r ∧ ∃ o : Obj, A.heap[r]? = some o ∧ o.isCells = false) {b : Nat} {cs : Array Value} {t : TypeId} {fr : Nat × Nat} (h : A.heap[b]? = some (.cells cs t fr)) : B.heap[b]? = some (.cells cs t fr) :=
  (hg.block b (blk_lt h) (fun e => by obtain ⟨_, o, ho, hc⟩ := hr b e.symm; rw [h] at ho; cases ho; cases hc)).trans h
theorem keepsFrom_of {B : Nat} {W W' : World} (h : Below W.heap.size W W') : KeepsFrom B W W' := ⟨h.size, fun k o _ hk _ => blk_below hk h⟩
theorem frD_snd (D : List (Value × Fr)) (k : Nat) : (frD D k).2 = (D.map Prod.snd).getD k fr0 := by
  unfold frD
  rw [List.getD_eq_getElem?_getD, List.getD_eq_getElem?_getD, List.getElem?_map]
  cases D[k]? <;> rfl
/-- What lies in a frame's place. -/
theorem Stk.frD_row {w : World} {s : Nat} {fv : Value} {D : List (Value × Fr)} (h : Stk w s fv D) (k : Nat) : w.ownsRow 0 24 3 (frD D k).1 (frD D k).2.us.length (cUs (frD D k).2.us) := by
  unfold frD
  rw [List.getD_eq_getElem?_getD]
  cases hk : D[k]? with
  | none => exact World.ownsRow_nil _ _ _ _
  | some x => exact h.units x (List.mem_of_getElem? hk)
def meetV : Option (Nat × S24) → Value
  | some (k, u) => .tuple #[.agg #[.int .i64 u.f0, .string u.f1, .int .i64 u.f2], .int .i64 (k : Int), .int .i64 0]
  | none => .tuple #[.agg #[.int .i64 0, .string ⟨#[]⟩, .int .i64 0], .int .i64 0, .int .i64 8]
set_option maxRecDepth 100000 in
set_option maxHeartbeats 8000000 in
theorem meet_is (s : Nat) (c : Int) (n : ByteArray) (L : List Fr) (F : Nat → Prop) (w : World) (hr : rightB c n = true) (h : St w s L F) (hL : L.length ≤ 1000) (hb : ∀ f ∈ L, 0 ≤ f.bl ∧ f.bl ≤ 1000) (hu : ∀ f ∈ L, f.us.length ≤ 1000) :
    Calls Try.prog 14 #[.pointer (some ⟨s, 0, none⟩), .int .i64 c, .string n] w fun e w' => e = .returned (meetV (findL c n L (fromL c n ((L.length : Int) - 1) L + 1).toNat)) ∧ Below w.heap.size w w' := by
  have HR := Aside0.mk (fun W => right_is c n W)
  rw [hr] at HR
  have HD := Aside0.mk (fun W (hW : St W s L F) => down_is s c n L F W hW hL hb)
  clear hr
  have A1 := Aside0.mk ((Below.refl w.heap.size w).alloc (Nat.le_refl _) (.cells #[.int .i64 0, .string ⟨#[]⟩, .int .i64 0] 24 (0, 0)))
  have A2 := Aside0.mk (A1.out.alloc A1.out.size (.cells #[.int .i64 0] 3 (0, 0)))
  have A3 := Aside0.mk (A2.out.alloc A2.out.size (.cells #[.int .i64 0] 30 (0, 0)))
  have A4 := Aside0.mk (A3.out.alloc A3.out.size (.cells #[.int .i64 c, .string n] 71 (0, 0)))
  have R6 := Aside0.mk (blk_alloc (blk_alloc (blk_alloc (blk_new w (.cells #[.int .i64 0, .string ⟨#[]⟩, .int .i64 0] 24 (0, 0))) (.cells #[.int .i64 0] 3 (0, 0))) (.cells #[.int .i64 0] 30 (0, 0))) (.cells #[.int .i64 c, .string n] 71 (0, 0)))
  have R7 := Aside0.mk (blk_alloc (blk_alloc (blk_new (w.alloc (.cells #[.int .i64 0, .string ⟨#[]⟩, .int .i64 0] 24 (0, 0))) (.cells #[.int .i64 0] 3 (0, 0))) (.cells #[.int .i64 0] 30 (0, 0))) (.cells #[.int .i64 c, .string n] 71 (0, 0)))
  have R8 := Aside0.mk (blk_alloc (blk_new ((w.alloc (.cells #[.int .i64 0, .string ⟨#[]⟩, .int .i64 0] 24 (0, 0))).alloc (.cells #[.int .i64 0] 3 (0, 0))) (.cells #[.int .i64 0] 30 (0, 0))) (.cells #[.int .i64 c, .string n] 71 (0, 0)))
  have R9 := Aside0.mk (blk_new (((w.alloc (.cells #[.int .i64 0, .string ⟨#[]⟩, .int .i64 0] 24 (0, 0))).alloc (.cells #[.int .i64 0] 3 (0, 0))).alloc (.cells #[.int .i64 0] 30 (0, 0))) (.cells #[.int .i64 c, .string n] 71 (0, 0)))
  simp only [World.size_alloc] at R7 R8 R9
  have hfb := fromL_bounds c n L ((L.length : Int) - 1) (by omega) hb
  obtain ⟨N, hN⟩ : ∃ N : Nat, fromL c n ((L.length : Int) - 1) L = (N : Int) - 1 := ⟨(fromL c n ((L.length : Int) - 1) L + 1).toNat, by omega⟩
  have hN2 : N ≤ L.length := by omega
  have hN3 : (fromL c n ((L.length : Int) - 1) L + 1).toNat = N := by omega
  rw [hN3]
  rw [hN] at HD
  clear hfb hN3 hN
  have HH := Aside0.mk h
  clear h A1 A2 A3
  refine (callsIn_wide (n := 9)).1 ?_
  refine callsIn_of_wp_marks Try.func14 rfl trivial ?_ rfl
  simp only [Try.ntmps14, List.size_toArray, List.length_cons, List.length_nil, Nat.reduceAdd, Nat.reduceSub, Array.replicate_succ, Array.replicate_zero, List.push_toArray, List.append_toArray, List.nil_append, List.cons_append]
  gi_wp2_with (first | (refine ⟨trivial, ?_⟩; gi_at_call 36; refine (callsIn_wide.2 (HR.out _)).mono ?_; rintro e w1 ⟨rfl, hb1⟩; have B1 := Aside0.mk (A4.out.trans (hb1.mono A4.out.size)); have S6 := Aside0.mk (blk_below R6.out hb1); have S7 := Aside0.mk (blk_below R7.out hb1); have S8 := Aside0.mk (blk_below R8.out hb1); have S9 := Aside0.mk (blk_below R9.out hb1); clear hb1; have s90 := (blk_cell S9.out 0).trans rfl; have s91 := (blk_cell S9.out 1).trans rfl) | (refine ⟨trivial, ?_⟩; gi_at_call 37; refine (callsIn_wide.2 (HD.out _ (HH.out.below B1.out))).mono ?_; rintro e w2 ⟨rfl, hx2, hx5, hb2⟩; have T6 := Aside0.mk (blk_below S6.out hb2); have T7 := Aside0.mk (blk_below S7.out hb2); have T8 := Aside0.mk (blk_below S8.out hb2); have T9 := Aside0.mk (blk_below S9.out hb2); have B2 := Aside0.mk (B1.out.trans (hb2.mono B1.out.size)); have X2 := Aside0.mk hx2; have X5 := Aside0.mk hx5; clear hx2 hx5 hb2 s90 s91))
  clear HR HD R6 R7 R8 R9 S6 S7 S8 S9
  obtain ⟨fv, D, h1, h2, h3⟩ := (HH.out.below B2.out)
  have hDL : D.length = L.length := by rw [← h2]; simp
  have hfd : ∀ k, (frD D k).2 = L.getD k fr0 := fun k => by rw [frD_snd, h2]
  have hsz2 : w.heap.size ≤ w2.heap.size := B2.out.size
  have hl6 := blk_lt T6.out
  have hl9 := blk_lt T9.out
  refine wpIn_rangeFunc_ownH rfl (by omega) (gf := 57) (lb := #[.pointer (some ⟨w1.heap.size + 1 + 1, 0, none⟩), .pointer (some ⟨w1.heap.size, 0, none⟩)]) rfl trivial (enters_of Try.func57 (by kernel_rfl) rfl)
    (down_stops Fence.wide (9 - 1) trivial rfl (by omega) (w1.heap.size + 1 + 1) w1.heap.size s N fv D w2 X5.out X2.out h1 (by omega) (by omega)) belowK_t (belowK_b (Nat.le_refl _)) (Below.refl _ _) (fun _ => rfl)
    (fun pre W => (∀ x ∈ pre, miss c n L x) ∧ Below w2.heap.size w2 W)
    (fun cd pre W => (cd = .ret ∧ ∃ pre0 k u, pre = pre0 ++ [k] ∧ (∀ x ∈ pre0, miss c n L x) ∧ found c n L k u ∧ W.heap[w.heap.size]? = some (.cells #[.int .i64 u.f0, .string u.f1, .int .i64 u.f2] 24 (0, 0)) ∧ W.heap[w.heap.size + 1]? = some (.cells #[.int .i64 (k : Int)] 3 (0, 0)) ∧ W.heap[w.heap.size + 1 + 1]? = some (.cells #[.int .i64 0] 30 (0, 0))) ∧ Below w.heap.size w W)
    (OwnFrom.and (ownFrom_pure _ _) (ownFrom_below (Nat.le_refl _) (Nat.le_refl _)))
    (fun cd => OwnFrom.and (fun s A B row hs hg hr => by
      obtain ⟨hcd, pre0, k, u, e1, e2, e3, e4, e5, e6⟩ := hs
      exact ⟨hcd, pre0, k, u, e1, e2, e3, own_blk hg hr e4, own_blk hg hr e5, own_blk hg hr e6⟩) (ownFrom_below (Nat.le_refl _) hsz2))
    ⟨by simp, Below.refl _ _⟩
    (fun x a' W => ∃ Bx, w2.heap.size ≤ Bx ∧ W.heap[Bx]? = some (.cells #[(frD D x).1, .int .i64 (frD D x).2.rc, .string (frD D x).2.rn, .int .i64 (frD D x).2.bl] 73 (0, 0)) ∧ a' = { tmps := #[.pointer (some ⟨s, 0, none⟩), .int .i64 c, .string n, undef, undef, undef, .pointer (some ⟨w.heap.size, 0, none⟩), .pointer (some ⟨w.heap.size + 1, 0, none⟩), .pointer (some ⟨w.heap.size + 1 + 1, 0, none⟩), .pointer (some ⟨w.heap.size + 1 + 1 + 1, 0, none⟩), .int .i64 (x : Int), .pointer (some ⟨Bx, 0, none⟩), undef, .int .i64 c, .string n, .agg #[.int .i64 c, .string n], .pointer (some ⟨s, 0, none⟩), .bool false, .bool false, .agg #[.int .i64 c, .string n], .bool true, .bool false, .bool false, undef, .pointer (some ⟨s, 0, none⟩), .agg #[.int .i64 c, .string n], .func (.func 57) #[] #[.pointer (some ⟨w1.heap.size + 1 + 1, 0, none⟩), .pointer (some ⟨w1.heap.size, 0, none⟩)], .int .i64 (x : Int), .agg #[(frD D x).1, .int .i64 (frD D x).2.rc, .string (frD D x).2.rn, .int .i64 (frD D x).2.bl], undef, undef, undef, undef, undef, undef, undef, undef, undef, undef, undef, undef, undef, undef], defers := [] })
    (fun x a' s A B row hs hg hr => by
      obtain ⟨Bx, e1, e2, e3⟩ := hs
      exact ⟨Bx, e1, own_blk hg hr e2, e3⟩)
    ?assign ?body ?done ?stop
  case assign =>
    rintro l pre x W K ⟨hm, hB⟩ hK
    obtain ⟨pv, cv, hpv⟩ := ownsRow_slice (h1.frD_row x)
    unfold encD
    generalize frD D x = y at hpv hK ⊢
    obtain ⟨v, f⟩ := y
    dsimp only at hpv hK ⊢
    subst hpv
    gi_wp2
    exact hK _ _ ((KeepsOthers.alloc _ _).from _) ((Below.refl _ W).alloc hB.size _) ⟨hm, hB.alloc hB.size _⟩ ⟨W.heap.size, hB.size, blk_new _ _, rfl⟩
  case body =>
    rintro l pre x a' W hl ⟨r, hr⟩ ⟨hm, hB⟩ ⟨Bx, hBx, bX, rfl⟩ hlt
    have hrow := ownsRow_kept (h1.frD_row x) (fun k hk => hB.block k ((h1.frD_row x).lt k hk).2)
    have hul : (frD D x).2.us.length ≤ 1000 := by
      rw [hfd, List.getD_eq_getElem?_getD]
      cases hk : L[x]? with
      | none => simp [fr0]
      | some f => exact hu f (List.mem_of_getElem? hk)
    have hfx := hfd x
    have hb9 := blk_below T9.out hB
    have n0 := (blk_cell hb9 0).trans rfl
    have n1 := (blk_cell hb9 1).trans rfl
    have x0 := (blk_cell bX 0).trans rfl
    generalize frD D x = y at *
    obtain ⟨v, f⟩ := y
    dsimp only at hrow hul hfx bX x0 ⊢
    have HR := Aside0.mk hrow
    have HX := Aside0.mk bX
    have HM := Aside0.mk hm
    have HBW := Aside0.mk hB
    have hPL := Aside0.mk (place_is c n f.us v W hrow (by omega))
    have hF := Aside0.mk hfx
    clear hrow bX hm hB hfx
    cases hq : idxU c n f.us 0 with
    | none =>
      rw [hq] at hPL
      have HQ := Aside0.mk hq
      clear hq
      gi_wp2_with (refine ⟨trivial, ?_⟩; gi_at_call 38; refine (CallsIn.inRound l (callsIn_wide.2 hPL.out)).mono ?_; rintro e w3 ⟨rfl, hb3⟩)
      refine ⟨keepsFrom_of hb3, hb3.mono HBW.out.size, fun x' hx' => ?_, HBW.out.trans (hb3.mono HBW.out.size)⟩
      rcases List.mem_append.1 hx' with hx' | hx'
      · exact HM.out x' hx'
      · simp only [List.mem_singleton] at hx'
        subst hx'
        unfold miss
        rw [← hF.out]
        exact HQ.out
    | some i =>
      rw [hq] at hPL
      have hi := (idxU_lt c n f.us 0 i hq).2
      rw [Nat.zero_add] at hi
      have HQ := Aside0.mk hq
      clear hq
      obtain ⟨u, huu⟩ : ∃ u, f.us[i]? = some u := ⟨_, List.getElem?_eq_getElem hi⟩
      obtain ⟨gu, cu, rfl, _, _⟩ := HR.out.form (by omega)
      have hi0 : (0 : Int) ≤ (i : Int) := by omega
      have hi1 : (i : Int) < (f.us.length : Int) := by omega
      unfold idxI at hPL
      gi_wp2_with (refine ⟨trivial, ?_⟩; gi_at_call 38; refine (CallsIn.inRound l (callsIn_wide.2 hPL.out)).mono ?_; rintro e w3 ⟨rfl, hb3⟩; have y0 := (blk_cell (blk_below HX.out hb3) 0).trans rfl; have c0 := pw_cell_below hb3 (ownsRow_cell HR.out ((cUs_at 0 (by omega) f.us i u huu).trans rfl)); have c1 := pw_cell_below hb3 (ownsRow_cell HR.out ((cUs_at 1 (by omega) f.us i u huu).trans rfl)); have c2 := pw_cell_below hb3 (ownsRow_cell HR.out ((cUs_at 2 (by omega) f.us i u huu).trans rfl)); rw [Nat.add_zero] at c0; have Q6 := Aside0.mk (blk_below (blk_below T6.out HBW.out) hb3); have Q7 := Aside0.mk (blk_below (blk_below T7.out HBW.out) hb3); have Q8 := Aside0.mk (blk_below (blk_below T8.out HBW.out) hb3); have q60 := (blk_cell Q6.out 0).trans rfl; have q61 := (blk_cell Q6.out 1).trans rfl; have q62 := (blk_cell Q6.out 2).trans rfl; have q70 := (blk_cell Q7.out 0).trans rfl; have q80 := (blk_cell Q8.out 0).trans rfl; have g60 := blk_frozen Q6.out 0; have g61 := blk_frozen Q6.out 1; have g62 := blk_frozen Q6.out 2; have g70 := blk_frozen Q7.out 0; have g80 := blk_frozen Q8.out 0)
      have e6 := blk_far (blk_far (blk_put (blk_put (blk_put Q6.out 0 (.int .i64 u.f0) rfl) 1 (.string u.f1) rfl) 2 (.int .i64 u.f2) rfl) (p := ⟨w.heap.size + 1, 0, none⟩) (by show w.heap.size ≠ w.heap.size + 1; omega) (.int .i64 (x : Int))) (p := ⟨w.heap.size + 1 + 1, 0, none⟩) (by show w.heap.size ≠ w.heap.size + 1 + 1; omega) (.int .i64 0)
      have e7 := blk_far (blk_put (blk_far (blk_far (blk_far Q7.out (p := ⟨w.heap.size, 0, none⟩) (by show w.heap.size + 1 ≠ w.heap.size; omega) (.int .i64 u.f0)) (p := ⟨w.heap.size, 1, none⟩) (by show w.heap.size + 1 ≠ w.heap.size; omega) (.string u.f1)) (p := ⟨w.heap.size, 2, none⟩) (by show w.heap.size + 1 ≠ w.heap.size; omega) (.int .i64 u.f2)) 0 (.int .i64 (x : Int)) rfl) (p := ⟨w.heap.size + 1 + 1, 0, none⟩) (by show w.heap.size + 1 ≠ w.heap.size + 1 + 1; omega) (.int .i64 0)
      have e8 := blk_put (blk_far (blk_far (blk_far (blk_far Q8.out (p := ⟨w.heap.size, 0, none⟩) (by show w.heap.size + 1 + 1 ≠ w.heap.size; omega) (.int .i64 u.f0)) (p := ⟨w.heap.size, 1, none⟩) (by show w.heap.size + 1 + 1 ≠ w.heap.size; omega) (.string u.f1)) (p := ⟨w.heap.size, 2, none⟩) (by show w.heap.size + 1 + 1 ≠ w.heap.size; omega) (.int .i64 u.f2)) (p := ⟨w.heap.size + 1, 0, none⟩) (by show w.heap.size + 1 + 1 ≠ w.heap.size + 1; omega) (.int .i64 (x : Int))) 0 (.int .i64 0) rfl
      have hbw : Below w.heap.size w w3 := B2.out.trans ((HBW.out.mono hsz2).trans (hb3.mono (Nat.le_trans hsz2 HBW.out.size)))
      refine ⟨(keepsFrom_of hb3).trans ((((((KeepsOthers.setCell _ _ _).trans (KeepsOthers.setCell _ _ _)).trans (KeepsOthers.setCell _ _ _)).trans (KeepsOthers.setCell _ _ _)).trans (KeepsOthers.setCell _ _ _)).from _), ⟨rfl, pre, x, u, rfl, HM.out, ⟨i, by rw [← hF.out]; exact HQ.out, by rw [← hF.out]; exact huu⟩, e6, e7, e8⟩, ?_⟩
      exact ((((hbw.setCell (p := ⟨w.heap.size, 0, none⟩) (Nat.le_refl _) _).setCell (p := ⟨w.heap.size, 1, none⟩) (Nat.le_refl _) _).setCell (p := ⟨w.heap.size, 2, none⟩) (Nat.le_refl _) _).setCell (p := ⟨w.heap.size + 1, 0, none⟩) (Nat.le_succ _) _).setCell (p := ⟨w.heap.size + 1 + 1, 0, none⟩) (by show w.heap.size ≤ w.heap.size + 1 + 1; omega) _
  case done =>
    rintro Dd ys W hD rfl ⟨hm, hB⟩ hK
    have hfn := Aside0.mk (find_none c n L N hm)
    have Q6 := Aside0.mk (blk_below T6.out hB)
    have Q7 := Aside0.mk (blk_below T7.out hB)
    have Q8 := Aside0.mk (blk_below T8.out hB)
    have q60 := (blk_cell Q6.out 0).trans rfl
    have q61 := (blk_cell Q6.out 1).trans rfl
    have q62 := (blk_cell Q6.out 2).trans rfl
    have q70 := (blk_cell Q7.out 0).trans rfl
    have q80 := (blk_cell Q8.out 0).trans rfl
    have g60 := blk_frozen Q6.out 0
    have g61 := blk_frozen Q6.out 1
    have g62 := blk_frozen Q6.out 2
    have g70 := blk_frozen Q7.out 0
    have g80 := blk_frozen Q8.out 0
    gi_wp2
    have e6 := blk_far (blk_far (blk_put (blk_put (blk_put Q6.out 0 (.int .i64 0) rfl) 1 (.string ⟨#[]⟩) rfl) 2 (.int .i64 0) rfl) (p := ⟨w.heap.size + 1, 0, none⟩) (by show w.heap.size ≠ w.heap.size + 1; omega) (.int .i64 0)) (p := ⟨w.heap.size + 1 + 1, 0, none⟩) (by show w.heap.size ≠ w.heap.size + 1 + 1; omega) (.int .i64 8)
    have e7 := blk_far (blk_put (blk_far (blk_far (blk_far Q7.out (p := ⟨w.heap.size, 0, none⟩) (by show w.heap.size + 1 ≠ w.heap.size; omega) (.int .i64 0)) (p := ⟨w.heap.size, 1, none⟩) (by show w.heap.size + 1 ≠ w.heap.size; omega) (.string ⟨#[]⟩)) (p := ⟨w.heap.size, 2, none⟩) (by show w.heap.size + 1 ≠ w.heap.size; omega) (.int .i64 0)) 0 (.int .i64 0) rfl) (p := ⟨w.heap.size + 1 + 1, 0, none⟩) (by show w.heap.size + 1 ≠ w.heap.size + 1 + 1; omega) (.int .i64 8)
    have e8 := blk_put (blk_far (blk_far (blk_far (blk_far Q8.out (p := ⟨w.heap.size, 0, none⟩) (by show w.heap.size + 1 + 1 ≠ w.heap.size; omega) (.int .i64 0)) (p := ⟨w.heap.size, 1, none⟩) (by show w.heap.size + 1 + 1 ≠ w.heap.size; omega) (.string ⟨#[]⟩)) (p := ⟨w.heap.size, 2, none⟩) (by show w.heap.size + 1 + 1 ≠ w.heap.size; omega) (.int .i64 0)) (p := ⟨w.heap.size + 1, 0, none⟩) (by show w.heap.size + 1 + 1 ≠ w.heap.size + 1; omega) (.int .i64 0)) 0 (.int .i64 8) rfl
    have hK' := ((((((KeepsOthers.setCell W ⟨w.heap.size, 0, none⟩ (.int .i64 0)).trans (KeepsOthers.setCell _ ⟨w.heap.size, 1, none⟩ (.string ⟨#[]⟩))).trans (KeepsOthers.setCell _ ⟨w.heap.size, 2, none⟩ (.int .i64 0))).trans (KeepsOthers.setCell _ ⟨w.heap.size + 1, 0, none⟩ (.int .i64 0))).trans (KeepsOthers.setCell _ ⟨w.heap.size + 1 + 1, 0, none⟩ (.int .i64 8)))).same Dd _ hK rfl
    have hbw : Below w.heap.size w W := B2.out.trans (hB.mono hsz2)
    have hbw2 := ((((hbw.setCell (p := ⟨w.heap.size, 0, none⟩) (Nat.le_refl _) (.int .i64 0)).setCell (p := ⟨w.heap.size, 1, none⟩) (Nat.le_refl _) (.string ⟨#[]⟩)).setCell (p := ⟨w.heap.size, 2, none⟩) (Nat.le_refl _) (.int .i64 0)).setCell (p := ⟨w.heap.size + 1, 0, none⟩) (Nat.le_succ _) (.int .i64 0)).setCell (p := ⟨w.heap.size + 1 + 1, 0, none⟩) (by show w.heap.size ≤ w.heap.size + 1 + 1; omega) (.int .i64 8)
    refine ⟨by simp, .inl ⟨_, _, rfl, run_takeDeferred hK', ?_⟩⟩
    rw [hfn.out]
    have hrr : ∀ r, (some Dd : Option Nat) = some r → 0 ≤ r ∧ ∃ o : Obj, (((((W.setCell ⟨w.heap.size, 0, none⟩ (.int .i64 0)).setCell ⟨w.heap.size, 1, none⟩ (.string ⟨#[]⟩)).setCell ⟨w.heap.size, 2, none⟩ (.int .i64 0)).setCell ⟨w.heap.size + 1, 0, none⟩ (.int .i64 0)).setCell ⟨w.heap.size + 1 + 1, 0, none⟩ (.int .i64 8)).heap[r]? = some o ∧ o.isCells = false := fun r e => by cases e; exact ⟨Nat.zero_le _, _, hK', rfl⟩
    have f6 := own_blk (grownBy_putObj' _ Dd (.deferred none)) hrr e6
    have f7 := own_blk (grownBy_putObj' _ Dd (.deferred none)) hrr e7
    have f8 := own_blk (grownBy_putObj' _ Dd (.deferred none)) hrr e8
    have v60 := (blk_cell f6 0).trans rfl
    have v61 := (blk_cell f6 1).trans rfl
    have v62 := (blk_cell f6 2).trans rfl
    have v70 := (blk_cell f7 0).trans rfl
    have v80 := (blk_cell f8 0).trans rfl
    refine ⟨meetV none, ?_, rfl, hbw2.trans (belowK_b (w := w) (Nat.le_refl _) _ Dd _ _ (Nat.le_trans hsz2 hD) hK' rfl rfl)⟩
    unfold meetV
    simp [results, Try.f14, Try.results14, go_sem, v60, v61, v62, v70, v80]
  case stop =>
    rintro Dd cd pre W hD hpre ⟨⟨rfl, pre0, k, u, rfl, e2, e3, e4, e5, e6⟩, hB⟩ hK
    have hfn := Aside0.mk (find_some c n L k u e3 N pre0 hpre e2)
    gi_wp2
    refine ⟨by simp, .inl ⟨_, _, rfl, run_takeDeferred hK, ?_⟩⟩
    rw [hfn.out]
    have hrr : ∀ r, (some Dd : Option Nat) = some r → 0 ≤ r ∧ ∃ o : Obj, W.heap[r]? = some o ∧ o.isCells = false := fun r e => by cases e; exact ⟨Nat.zero_le _, _, hK, rfl⟩
    have f6 := own_blk (grownBy_putObj' _ Dd (.deferred none)) hrr e4
    have f7 := own_blk (grownBy_putObj' _ Dd (.deferred none)) hrr e5
    have f8 := own_blk (grownBy_putObj' _ Dd (.deferred none)) hrr e6
    have v60 := (blk_cell f6 0).trans rfl
    have v61 := (blk_cell f6 1).trans rfl
    have v62 := (blk_cell f6 2).trans rfl
    have v70 := (blk_cell f7 0).trans rfl
    have v80 := (blk_cell f8 0).trans rfl
    refine ⟨meetV (some (k, u)), ?_, rfl, hB.trans (belowK_b (w := w) (Nat.le_refl _) _ Dd _ _ (Nat.le_trans hsz2 hD) hK rfl rfl)⟩
    unfold meetV
    simp [results, Try.f14, Try.results14, go_sem, v60, v61, v62, v70, v80]
set_option maxRecDepth 100000 in
set_option maxHeartbeats 4000000 in
theorem meet_bad (s : Nat) (c : Int) (n : ByteArray) (w : World) (hr : rightB c n = false) : Calls Try.prog 14 #[.pointer (some ⟨s, 0, none⟩), .int .i64 c, .string n] w fun e w' => e = .returned (.tuple #[.agg #[.int .i64 0, .string ⟨#[]⟩, .int .i64 0], .int .i64 0, .int .i64 1]) ∧ Below w.heap.size w w' := by
  have HR := Aside0.mk (fun W => right_is c n W)
  rw [hr] at HR
  clear hr
  have A1 := Aside0.mk ((Below.refl w.heap.size w).alloc (Nat.le_refl _) (.cells #[.int .i64 0, .string ⟨#[]⟩, .int .i64 0] 24 (0, 0)))
  have A2 := Aside0.mk (A1.out.alloc A1.out.size (.cells #[.int .i64 0] 3 (0, 0)))
  have A3 := Aside0.mk (A2.out.alloc A2.out.size (.cells #[.int .i64 0] 30 (0, 0)))
  have A4 := Aside0.mk (A3.out.alloc A3.out.size (.cells #[.int .i64 c, .string n] 71 (0, 0)))
  have R6 := Aside0.mk (blk_alloc (blk_alloc (blk_alloc (blk_new w (.cells #[.int .i64 0, .string ⟨#[]⟩, .int .i64 0] 24 (0, 0))) (.cells #[.int .i64 0] 3 (0, 0))) (.cells #[.int .i64 0] 30 (0, 0))) (.cells #[.int .i64 c, .string n] 71 (0, 0)))
  have R7 := Aside0.mk (blk_alloc (blk_alloc (blk_new (w.alloc (.cells #[.int .i64 0, .string ⟨#[]⟩, .int .i64 0] 24 (0, 0))) (.cells #[.int .i64 0] 3 (0, 0))) (.cells #[.int .i64 0] 30 (0, 0))) (.cells #[.int .i64 c, .string n] 71 (0, 0)))
  have R8 := Aside0.mk (blk_alloc (blk_new ((w.alloc (.cells #[.int .i64 0, .string ⟨#[]⟩, .int .i64 0] 24 (0, 0))).alloc (.cells #[.int .i64 0] 3 (0, 0))) (.cells #[.int .i64 0] 30 (0, 0))) (.cells #[.int .i64 c, .string n] 71 (0, 0)))
  simp only [World.size_alloc] at R7 R8
  go_enter Try.func14, Try.ntmps14
  go_wp2_with fail
  refine (HR.out _).mono ?_
  rintro e w1 ⟨rfl, hb⟩
  have S6 := Aside0.mk (blk_below R6.out hb)
  have S7 := Aside0.mk (blk_below R7.out hb)
  have S8 := Aside0.mk (blk_below R8.out hb)
  have B1 := Aside0.mk (A4.out.trans (hb.mono A4.out.size))
  have q60 := (blk_cell S6.out 0).trans rfl
  have q61 := (blk_cell S6.out 1).trans rfl
  have q62 := (blk_cell S6.out 2).trans rfl
  have q70 := (blk_cell S7.out 0).trans rfl
  have q80 := (blk_cell S8.out 0).trans rfl
  have g60 := blk_frozen S6.out 0
  have g61 := blk_frozen S6.out 1
  have g62 := blk_frozen S6.out 2
  have g70 := blk_frozen S7.out 0
  have g80 := blk_frozen S8.out 0
  go_wp2_with fail
  have e6 := blk_far (blk_far (blk_put (blk_put (blk_put S6.out 0 (.int .i64 0) rfl) 1 (.string ⟨#[]⟩) rfl) 2 (.int .i64 0) rfl) (p := ⟨w.heap.size + 1, 0, none⟩) (by show w.heap.size ≠ w.heap.size + 1; omega) (.int .i64 0)) (p := ⟨w.heap.size + 1 + 1, 0, none⟩) (by show w.heap.size ≠ w.heap.size + 1 + 1; omega) (.int .i64 1)
  have e7 := blk_far (blk_put (blk_far (blk_far (blk_far S7.out (p := ⟨w.heap.size, 0, none⟩) (by show w.heap.size + 1 ≠ w.heap.size; omega) (.int .i64 0)) (p := ⟨w.heap.size, 1, none⟩) (by show w.heap.size + 1 ≠ w.heap.size; omega) (.string ⟨#[]⟩)) (p := ⟨w.heap.size, 2, none⟩) (by show w.heap.size + 1 ≠ w.heap.size; omega) (.int .i64 0)) 0 (.int .i64 0) rfl) (p := ⟨w.heap.size + 1 + 1, 0, none⟩) (by show w.heap.size + 1 ≠ w.heap.size + 1 + 1; omega) (.int .i64 1)
  have e8 := blk_put (blk_far (blk_far (blk_far (blk_far S8.out (p := ⟨w.heap.size, 0, none⟩) (by show w.heap.size + 1 + 1 ≠ w.heap.size; omega) (.int .i64 0)) (p := ⟨w.heap.size, 1, none⟩) (by show w.heap.size + 1 + 1 ≠ w.heap.size; omega) (.string ⟨#[]⟩)) (p := ⟨w.heap.size, 2, none⟩) (by show w.heap.size + 1 + 1 ≠ w.heap.size; omega) (.int .i64 0)) (p := ⟨w.heap.size + 1, 0, none⟩) (by show w.heap.size + 1 + 1 ≠ w.heap.size + 1; omega) (.int .i64 0)) 0 (.int .i64 1) rfl
  have v60 := (blk_cell e6 0).trans rfl
  have v61 := (blk_cell e6 1).trans rfl
  have v62 := (blk_cell e6 2).trans rfl
  have v70 := (blk_cell e7 0).trans rfl
  have v80 := (blk_cell e8 0).trans rfl
  have hbw2 := (((((B1.out).setCell (p := ⟨w.heap.size, 0, none⟩) (Nat.le_refl _) (.int .i64 0)).setCell (p := ⟨w.heap.size, 1, none⟩) (Nat.le_refl _) (.string ⟨#[]⟩)).setCell (p := ⟨w.heap.size, 2, none⟩) (Nat.le_refl _) (.int .i64 0)).setCell (p := ⟨w.heap.size + 1, 0, none⟩) (Nat.le_succ _) (.int .i64 0)).setCell (p := ⟨w.heap.size + 1 + 1, 0, none⟩) (by show w.heap.size ≤ w.heap.size + 1 + 1; omega) (.int .i64 1)
  refine bodyPost_ret (v := .tuple #[.agg #[.int .i64 0, .string ⟨#[]⟩, .int .i64 0], .int .i64 0, .int .i64 1]) (by simp [results, Try.f14, Try.results14, go_sem, v60, v61, v62, v70, v80]) rfl ⟨rfl, hbw2⟩
end Go.Proofs.Ytfahpihbbkkngaa.P

-- from the text Hq
namespace Go.Proofs.Ytfahpihbbkkngaa.P
open Go.RowKit Go.Proofs.YtfahpihbbkkngaaW.PrintWords Go.Proofs.YtfahpihbbkkngaaW.PrintLast Go.Proofs.YtfahpihbbkkngaaW.PrintMore
set_option linter.unusedVariables false
set_option linter.unusedSimpArgs false
theorem step_append73 {ops : Array Oper} {o : Oper} {a : Act} {K : Act → World → Prop} {Q : Exit → Act → World → Prop} {W : World} {s x : Operand} {fv : Value} {n : Nat} {xs : List Value} {N : Tmp} (g0 : Nat) (v b c d : Value) (hw : Region.wanted o (yielded ops a.tmps) = true) (hN : o.dst = some N) (ho : o.op = .call { callee := .builtin .append, args := #[s, x], argTypes := #[74, 74] })
    (hs : a.eval s = fv) (hrow : W.ownsRow 0 73 4 fv n xs) (hx : a.eval x = .slice (some ⟨g0, 0, none⟩) 1 1) (hb : W.heap[g0]? = some (.cells #[v, b, c, d] 73 (0, 0)))
    (h1 : v.oneCell' = true ∧ b.oneCell' = true ∧ c.oneCell' = true ∧ d.oneCell' = true) (hn : n ≤ 1000000)
    (h : ∀ g cap w', w'.ownsRow 0 73 4 (.slice (some ⟨g, 0, none⟩) (n + 1) cap) (n + 1) (xs ++ [v, b, c, d]) → W.grownBy w' fv.ownBlock → (fv.ownBlock = some g ∨ g = W.heap.size) → g < w'.heap.size → K (a.put (some N) (.slice (some ⟨g, 0, none⟩) (n + 1) cap)) w') : if Region.wanted o (yielded ops a.tmps) = true then Oper.wp Try.prog o a W K Q else K (a.put (some N) undef) W := by
  obtain ⟨i0, hi, hz0, hz1, hz2⟩ := info_parts info73
  rw [if_pos hw]
  refine wp_append_lies W s x 74 ho 0 73 i0 _ 4 56 Try.underlying74 hi hz0 hz1 hz2 rfl (by decide) fv n xs hs hrow ⟨g0, 0, none⟩ 1 1 [v, b, c, d] hx rfl
    (fun j u hj => by rw [add_plain]; exact (blk_cell hb j).trans (by simpa using hj)) (by simp [h1]) (by decide) (by simp only [maxLen]; omega) (by omega) (Nat.zero_le _) _ rfl ?_
  rw [hN]
  exact h
set_option maxRecDepth 100000 in
set_option maxHeartbeats 4000000 in
theorem begin_bad (s : Nat) (c : Int) (n : ByteArray) (k : Int) (w : World) (hr : rightB c n = false) : Calls Try.prog 16 #[.pointer (some ⟨s, 0, none⟩), .int .i64 c, .string n, .int .i64 k] w fun e w' => e = .returned (.int .i64 1) ∧ Below w.heap.size w w' := by
  have HR := Aside0.mk (fun W => right_is c n W)
  rw [hr] at HR
  clear hr
  have h1 := Aside0.mk ((Below.refl w.heap.size w).alloc (Nat.le_refl _) (.cells #[.int .i64 c, .string n] 71 (0, 0)))
  go_enter Try.func16, Try.ntmps16
  go_wp2_with fail
  refine (HR.out _).mono ?_
  rintro e w1 ⟨rfl, hb⟩
  go_wp2_with fail
  go_ret
  exact ⟨rfl, h1.out.trans (hb.mono h1.out.size)⟩
set_option maxRecDepth 100000 in
set_option maxHeartbeats 4000000 in
theorem begin_range (s : Nat) (c : Int) (n : ByteArray) (k : Int) (L : List Fr) (F : Nat → Prop) (w : World) (hr : rightB c n = true) (h : St w s L F) (hk : k < 0 ∨ (L.length : Int) ≤ k) : Calls Try.prog 16 #[.pointer (some ⟨s, 0, none⟩), .int .i64 c, .string n, .int .i64 k] w fun e w' => e = .returned (.int .i64 7) ∧ Below w.heap.size w w' := by
  have HR := Aside0.mk (fun W => right_is c n W)
  rw [hr] at HR
  clear hr
  have h1 := Aside0.mk ((Below.refl w.heap.size w).alloc (Nat.le_refl _) (.cells #[.int .i64 c, .string n] 71 (0, 0)))
  obtain ⟨fv, D, i1, i2, i3, ⟨p, cc, rfl⟩, hc, hf⟩ := h.open_
  clear i1 i2 i3 h
  by_cases hk0 : k < 0
  · have d1 : decide (k < 0) = true := decide_eq_true hk0
    clear hk
    go_enter Try.func16, Try.ntmps16
    go_wp2_with fail
    refine (HR.out _).mono ?_
    rintro e w1 ⟨rfl, hb⟩
    go_wp2_with fail
    go_ret
    exact ⟨rfl, h1.out.trans (hb.mono h1.out.size)⟩
  · have d1 : decide (k < 0) = false := decide_eq_false hk0
    have d2 : decide ((L.length : Int) ≤ k) = true := decide_eq_true (by omega)
    clear hk
    go_enter Try.func16, Try.ntmps16
    go_wp2_with fail
    refine (HR.out _).mono ?_
    rintro e w1 ⟨rfl, hb⟩
    have HB := Aside0.mk (h1.out.trans (hb.mono h1.out.size))
    replace hc := pw_cell_below HB.out hc
    clear hb
    go_wp2_with fail
    go_ret
    exact ⟨rfl, HB.out⟩
set_option maxRecDepth 100000 in
set_option maxHeartbeats 4000000 in
theorem begin_full (s : Nat) (c : Int) (n : ByteArray) (k : Nat) (L : List Fr) (F : Nat → Prop) (w : World) (hr : rightB c n = true) (h : St w s L F) (hk : k < L.length) (hl : 60 ≤ L.length) : Calls Try.prog 16 #[.pointer (some ⟨s, 0, none⟩), .int .i64 c, .string n, .int .i64 (k : Int)] w fun e w' => e = .returned (.int .i64 4) ∧ Below w.heap.size w w' := by
  have HR := Aside0.mk (fun W => right_is c n W)
  rw [hr] at HR
  clear hr
  have h1 := Aside0.mk ((Below.refl w.heap.size w).alloc (Nat.le_refl _) (.cells #[.int .i64 c, .string n] 71 (0, 0)))
  obtain ⟨fv, D, i1, i2, i3, ⟨p, cc, rfl⟩, hc, hf⟩ := h.open_
  clear i1 i2 i3 h
  have d1 : decide ((k : Int) < 0) = false := decide_eq_false (by omega)
  have d2 : decide ((L.length : Int) ≤ (k : Int)) = false := decide_eq_false (by omega)
  have d3 : decide (60 ≤ (L.length : Int)) = true := decide_eq_true (by omega)
  have d2n : decide (L.length ≤ k) = false := decide_eq_false (by omega)
  clear hk hl
  go_enter Try.func16, Try.ntmps16
  go_wp2_with fail
  refine (HR.out _).mono ?_
  rintro e w1 ⟨rfl, hb⟩
  have HB := Aside0.mk (h1.out.trans (hb.mono h1.out.size))
  replace hc := pw_cell_below HB.out hc
  clear hb
  go_wp2_with fail
  go_ret
  exact ⟨rfl, HB.out⟩
set_option maxRecDepth 100000 in
set_option maxHeartbeats 8000000 in
theorem begin_is (s : Nat) (c : Int) (n : ByteArray) (k : Nat) (L : List Fr) (F : Nat → Prop) (w : World) (hr : rightB c n = true) (h : St w s L F) (hk : k < L.length) (hl : L.length < 60) (hu : (L.getD k fr0).us.length ≤ 1000) :
    Calls Try.prog 16 #[.pointer (some ⟨s, 0, none⟩), .int .i64 c, .string n, .int .i64 (k : Int)] w fun e w' => (idxU c n (L.getD k fr0).us 0 = none → e = .returned (.int .i64 8) ∧ Below w.heap.size w w') ∧
      (idxU c n (L.getD k fr0).us 0 ≠ none → e = .returned (.int .i64 0) ∧ St w' s (L ++ [⟨[], c, n, (k : Int)⟩]) (More F w.heap.size w'.heap.size) ∧ Turn F w w') := by
  have HR := Aside0.mk (fun W => right_is c n W)
  rw [hr] at HR
  clear hr
  have h1 := Aside0.mk ((Below.refl w.heap.size w).alloc (Nat.le_refl _) (.cells #[.int .i64 c, .string n] 71 (0, 0)))
  have HN := Aside0.mk (blk_new w (.cells #[.int .i64 c, .string n] 71 (0, 0)))
  obtain ⟨fv, D, i1, i2, i3, _, hc, hf⟩ := h.open_
  have hDL : D.length = L.length := by rw [← i2]; simp
  obtain ⟨g, cap, v, f, rfl, hcap, hdk, y0, y1, y2, y3⟩ := i1.frame (k := k) (by omega)
  have hvr := i1.units (v, f) (List.mem_of_getElem? hdk)
  have hfL : L.getD k fr0 = f := by rw [← i2, List.getD_eq_getElem?_getD, List.getElem?_map, hdk]; rfl
  rw [hfL] at hu ⊢
  dsimp only at hvr
  have HST := Aside0.mk i1
  have H2 := Aside0.mk i2
  have H3 := Aside0.mk i3
  have HVR := Aside0.mk hvr
  have d1 : decide ((k : Int) < 0) = false := decide_eq_false (by omega)
  have d2 : decide ((L.length : Int) ≤ (k : Int)) = false := decide_eq_false (by omega)
  have d3 : decide (60 ≤ (L.length : Int)) = false := decide_eq_false (by omega)
  have k0 : (0 : Int) ≤ (k : Int) := by omega
  have k1 : (k : Int) < (L.length : Int) := by omega
  have HROW := Aside0.mk i1.row
  rw [hDL] at hc HST H3 HROW
  clear i1 i2 i3 h hvr y1 y2 y3
  go_enter Try.func16, Try.ntmps16
  go_wp2_with fail
  refine (HR.out _).mono ?_
  rintro e w1 ⟨rfl, hb⟩
  have HB := Aside0.mk (h1.out.trans (hb.mono h1.out.size))
  have HN := Aside0.mk (blk_below HN.out hb)
  have C0 := Aside0.mk hc
  replace hc := pw_cell_below HB.out hc
  replace y0 := pw_cell_below HB.out y0
  clear hb h1
  go_wp2_with fail
  refine start_ (n := 12) (S := fun W => W.cell? ⟨s, 0, none⟩ = some (.slice (some ⟨g, 0, none⟩) L.length cap) ∧ W.cell? ⟨g, k * 4, none⟩ = some v ∧ W.heap[w.heap.size]? = some (.cells #[.int .i64 c, .string n] 71 (0, 0)) ∧ Below w.heap.size w W) (ds := []) #[false, false, false, false, false, false, false, false, false, false, false, false] (by kernel_rfl) rfl rfl ⟨hc, y0, blk_drew HN.out, Below.drew HB.out⟩ (fun hHeld => ?_)
  generalize w1.drew = w2 at hHeld ⊢
  clear HN HB hc y0
  refine pure_ (i := 0) (N := some 41) (v := ?_) (a' := ?_) #[true, false, false, false, false, false, false, false, false, false, false, false] rfl rfl (by kernel_rfl) (fun _ _ _ h => h) (Or.inl ⟨by rfl, ?_⟩) ?_ ?_
  rotate_left
  · intro w_
    go_simp
    with_reducible rfl
  rotate_left
  · simp only [Act.put, List.setIfInBounds_toArray, List.set_cons_zero, List.set_cons_succ, i64_w, i32_w]
    rfl
  refine pure_ (i := 1) (N := some 42) (v := ?_) (a' := ?_) #[true, true, false, false, false, false, false, false, false, false, false, false] rfl rfl (by kernel_rfl) (fun _ _ _ h => h) (Or.inl ⟨by rfl, ?_⟩) ?_ ?_
  rotate_left
  · intro w_
    go_simp
    with_reducible rfl
  rotate_left
  · simp only [Act.put, List.setIfInBounds_toArray, List.set_cons_zero, List.set_cons_succ, i64_w, i32_w]
    rfl
  refine pure_ (i := 2) (N := some 43) (v := ?_) (a' := ?_) #[true, true, true, false, false, false, false, false, false, false, false, false] rfl rfl (by kernel_rfl) (fun _ _ _ h => h) (Or.inl ⟨by rfl, ?_⟩) ?_ ?_
  rotate_left
  · intro w_
    go_simp
    with_reducible rfl
  rotate_left
  · simp only [Act.put, List.setIfInBounds_toArray, List.set_cons_zero, List.set_cons_succ, i64_w, i32_w]
    rfl
  refine take_ (i := 3) (N := some 44) (v := ?_) (a' := ?_) #[true, true, true, true, false, false, false, false, false, false, false, false] rfl rfl (by kernel_rfl) (fun _ _ _ h => h) (Or.inl ⟨by rfl, ?_⟩) hHeld ?_ ?_
  rotate_left
  · rintro w_ ⟨s0, _⟩
    go_simp
    with_reducible rfl
  rotate_left
  · simp only [Act.put, List.setIfInBounds_toArray, List.set_cons_zero, List.set_cons_succ, i64_w, i32_w]
    rfl
  refine pure_ (i := 4) (N := some 45) (v := ?_) (a' := ?_) #[true, true, true, true, true, false, false, false, false, false, false, false] rfl rfl (by kernel_rfl) (fun _ _ _ h => h) (Or.inl ⟨by rfl, ?_⟩) ?_ ?_
  rotate_left
  · intro w_
    go_simp
    with_reducible rfl
  rotate_left
  · simp only [Act.put, List.setIfInBounds_toArray, List.set_cons_zero, List.set_cons_succ, i64_w, i32_w]
    rfl
  refine pure_ (i := 5) (N := some 46) (v := ?_) (a' := ?_) #[true, true, true, true, true, true, false, false, false, false, false, false] rfl rfl (by kernel_rfl) (fun _ _ _ h => h) (Or.inl ⟨by rfl, ?_⟩) ?_ ?_
  rotate_left
  · intro w_
    go_simp
    with_reducible rfl
  rotate_left
  · simp only [Act.put, List.setIfInBounds_toArray, List.set_cons_zero, List.set_cons_succ, i64_w, i32_w]
    rfl
  refine pure_ (i := 6) (N := some 47) (v := ?_) (a' := ?_) #[true, true, true, true, true, true, true, false, false, false, false, false] rfl rfl (by kernel_rfl) (fun _ _ _ h => h) (Or.inl ⟨by rfl, ?_⟩) ?_ ?_
  rotate_left
  · intro w_
    go_simp
    with_reducible rfl
  rotate_left
  · simp only [Act.put, List.setIfInBounds_toArray, List.set_cons_zero, List.set_cons_succ, i64_w, i32_w]
    rfl
  refine take_ (i := 7) (N := some 48) (v := ?_) (a' := ?_) #[true, true, true, true, true, true, true, true, false, false, false, false] rfl rfl (by kernel_rfl) (fun _ _ _ h => h) (Or.inl ⟨by rfl, ?_⟩) hHeld ?_ ?_
  rotate_left
  · rintro w_ ⟨_, s0, _⟩
    go_simp
    with_reducible rfl
  rotate_left
  · simp only [Act.put, List.setIfInBounds_toArray, List.set_cons_zero, List.set_cons_succ, i64_w, i32_w]
    rfl
  refine take_ (i := 8) (N := some 49) (v := ?_) (a' := ?_) #[true, true, true, true, true, true, true, true, true, false, false, false] rfl rfl (by kernel_rfl) (fun _ _ _ h => h) (Or.inl ⟨by rfl, ?_⟩) hHeld ?_ ?_
  rotate_left
  · rintro w_ ⟨_, _, hs_, _⟩
    have s0 := (blk_cell hs_ 0).trans rfl
    have s1 := (blk_cell hs_ 1).trans rfl
    go_simp
    with_reducible rfl
  rotate_left
  · simp only [Act.put, List.setIfInBounds_toArray, List.set_cons_zero, List.set_cons_succ, i64_w, i32_w]
    rfl
  refine one_ (i := 9) (N := some 50) #[true, true, true, true, true, true, true, true, true, true, false, false] rfl rfl (by kernel_rfl) (by decide) (fun K' hK => ?_)
  refine goes_ Try.func38 (by kernel_rfl) rfl #[.agg #[v], .agg #[.int .i64 c, .string n]] (by rfl) rfl rfl (by (try simp only [List.map_toArray, List.map_cons, List.map_nil]); first | done | rfl) ?_
  refine (place_is c n f.us v w2 (ownsRow_kept HVR.out (fun k hk => hHeld.2.2.2.block k (HVR.out.lt k hk).2)) (by omega)).mono ?_
  rintro e w3 ⟨rfl, hb⟩
  refine ⟨_, rfl, ?_⟩
  refine hK.out _ _ ⟨pw_cell_below hb hHeld.1, pw_cell_below hb hHeld.2.1, blk_below hHeld.2.2.1 hb, hHeld.2.2.2.trans (hb.mono hHeld.2.2.2.size)⟩ (fun hHeld => ?_)
  clear hb hK K'
  refine norm_ (a' := ?_) ?_ ?_
  rotate_left
  · show Act.put _ (some 50) _ = _
    simp only [Act.put, List.setIfInBounds_toArray, List.set_cons_zero, List.set_cons_succ, i64_w, i32_w]
    rfl
  generalize hq : idxU c n f.us 0 = q at hHeld ⊢
  cases q with
  | none =>
    unfold idxI
    dsimp only
    refine pure_ (i := 10) (N := some 51) (v := ?_) (a' := ?_) #[true, true, true, true, true, true, true, true, true, true, true, false] rfl rfl (by kernel_rfl) (fun _ _ _ h => h) (Or.inl ⟨by rfl, ?_⟩) ?_ ?_
    rotate_left
    · intro w_
      go_simp
      with_reducible rfl
    rotate_left
    · simp only [Act.put, List.setIfInBounds_toArray, List.set_cons_zero, List.set_cons_succ, i64_w, i32_w]
      rfl
    refine pure_ (i := 11) (N := some 40) (v := ?_) (a' := ?_) #[true, true, true, true, true, true, true, true, true, true, true, true] rfl rfl (by kernel_rfl) (fun _ _ _ h => h) (Or.inl ⟨by rfl, ?_⟩) ?_ ?_
    rotate_left
    · intro w_
      go_simp
      with_reducible rfl
    rotate_left
    · simp only [Act.put, List.setIfInBounds_toArray, List.set_cons_zero, List.set_cons_succ, i64_w, i32_w]
      rfl
    refine done_ (by kernel_rfl) ?_
    have HQ := Aside0.mk hq
    have HB2 := Aside0.mk hHeld.2.2.2
    clear hq hHeld
    go_wp2_with fail
    go_ret
    exact ⟨fun _ => ⟨rfl, HB2.out⟩, fun e => absurd HQ.out e⟩
  | some i =>
    have i0 : decide ((i : Int) < 0) = false := decide_eq_false (by omega)
    unfold idxI
    dsimp only
    refine pure_ (i := 10) (N := some 51) (v := ?_) (a' := ?_) #[true, true, true, true, true, true, true, true, true, true, true, false] rfl rfl (by kernel_rfl) (fun _ _ _ h => h) (Or.inl ⟨by rfl, ?_⟩) ?_ ?_
    rotate_left
    · intro w_
      go_simp
      with_reducible rfl
    rotate_left
    · simp only [Act.put, List.setIfInBounds_toArray, List.set_cons_zero, List.set_cons_succ, i64_w, i32_w]
      rfl
    refine pure_ (i := 11) (N := some 40) (v := ?_) (a' := ?_) #[true, true, true, true, true, true, true, true, true, true, true, true] rfl rfl (by kernel_rfl) (fun _ _ _ h => h) (Or.inl ⟨by rfl, ?_⟩) ?_ ?_
    rotate_left
    · intro w_
      go_simp
      with_reducible rfl
    rotate_left
    · simp only [Act.put, List.setIfInBounds_toArray, List.set_cons_zero, List.set_cons_succ, i64_w, i32_w]
      rfl
    refine done_ (by kernel_rfl) ?_
    have HQ := Aside0.mk (show idxU c n f.us 0 ≠ none by rw [hq]; simp)
    have hc := hHeld.1
    have HN := Aside0.mk hHeld.2.2.1
    have HB := Aside0.mk hHeld.2.2.2
    clear hq hHeld
    go_wp2_with fail
    refine start_ (n := 13) (S := fun W => W.cell? ⟨s, 0, none⟩ = some (.slice (some ⟨g, 0, none⟩) L.length cap) ∧ W.heap[w.heap.size]? = some (.cells #[.int .i64 c, .string n] 71 (0, 0)) ∧ Below w.heap.size w W) (ds := [9, 12]) #[false, false, false, false, false, false, false, false, false, false, false, false, false] (by kernel_rfl) rfl rfl ⟨hc, blk_drew HN.out, Below.drew HB.out⟩ (fun hHeld => ?_)
    generalize w3.drew = w4 at hHeld ⊢
    clear HN HB hc
    refine pure_ (i := 0) (N := some 52) (v := ?_) (a' := ?_) #[true, false, false, false, false, false, false, false, false, false, false, false, false] rfl rfl (by kernel_rfl) (fun _ _ _ h => h) (Or.inl ⟨by rfl, ?_⟩) ?_ ?_
    rotate_left
    · intro w_
      go_simp
      with_reducible rfl
    rotate_left
    · simp only [Act.put, List.setIfInBounds_toArray, List.set_cons_zero, List.set_cons_succ, i64_w, i32_w]
      rfl
    refine pure_ (i := 1) (N := some 53) (v := ?_) (a' := ?_) #[true, true, false, false, false, false, false, false, false, false, false, false, false] rfl rfl (by kernel_rfl) (fun _ _ _ h => h) (Or.inl ⟨by rfl, ?_⟩) ?_ ?_
    rotate_left
    · intro w_
      go_simp
      with_reducible rfl
    rotate_left
    · simp only [Act.put, List.setIfInBounds_toArray, List.set_cons_zero, List.set_cons_succ, i64_w, i32_w]
      rfl
    refine pure_ (i := 2) (N := some 54) (v := ?_) (a' := ?_) #[true, true, true, false, false, false, false, false, false, false, false, false, false] rfl rfl (by kernel_rfl) (fun _ _ _ h => h) (Or.inl ⟨by rfl, ?_⟩) ?_ ?_
    rotate_left
    · intro w_
      go_simp
      with_reducible rfl
    rotate_left
    · simp only [Act.put, List.setIfInBounds_toArray, List.set_cons_zero, List.set_cons_succ, i64_w, i32_w]
      rfl
    refine pure_ (i := 3) (N := some 55) (v := ?_) (a' := ?_) #[true, true, true, true, false, false, false, false, false, false, false, false, false] rfl rfl (by kernel_rfl) (fun _ _ _ h => h) (Or.inl ⟨by rfl, ?_⟩) ?_ ?_
    rotate_left
    · intro w_
      go_simp
      with_reducible rfl
    rotate_left
    · simp only [Act.put, List.setIfInBounds_toArray, List.set_cons_zero, List.set_cons_succ, i64_w, i32_w]
      rfl
    refine take_ (i := 4) (N := some 56) (v := ?_) (a' := ?_) #[true, true, true, true, true, false, false, false, false, false, false, false, false] rfl rfl (by kernel_rfl) (fun _ _ _ h => h) (Or.inl ⟨by rfl, ?_⟩) hHeld ?_ ?_
    rotate_left
    · rintro w_ ⟨s0, _⟩
      go_simp
      with_reducible rfl
    rotate_left
    · simp only [Act.put, List.setIfInBounds_toArray, List.set_cons_zero, List.set_cons_succ, i64_w, i32_w]
      rfl
    refine take_ (i := 5) (N := some 57) (v := ?_) (a' := ?_) #[true, true, true, true, true, true, false, false, false, false, false, false, false] rfl rfl (by kernel_rfl) (fun _ _ _ h => h) (Or.inl ⟨by rfl, ?_⟩) hHeld ?_ ?_
    rotate_left
    · rintro w_ ⟨_, hs_, _⟩
      have s0 := (blk_cell hs_ 0).trans rfl
      have s1 := (blk_cell hs_ 1).trans rfl
      go_simp
      with_reducible rfl
    rotate_left
    · simp only [Act.put, List.setIfInBounds_toArray, List.set_cons_zero, List.set_cons_succ, i64_w, i32_w]
      rfl
    refine pure_ (i := 6) (N := some 58) (v := ?_) (a' := ?_) #[true, true, true, true, true, true, true, false, false, false, false, false, false] rfl rfl (by kernel_rfl) (fun _ _ _ h => h) (Or.inl ⟨by rfl, ?_⟩) ?_ ?_
    rotate_left
    · intro w_
      go_simp
      with_reducible rfl
    rotate_left
    · simp only [Act.put, List.setIfInBounds_toArray, List.set_cons_zero, List.set_cons_succ, i64_w, i32_w]
      rfl
    refine pure_ (i := 7) (N := some 59) (v := ?_) (a' := ?_) #[true, true, true, true, true, true, true, true, false, false, false, false, false] rfl rfl (by kernel_rfl) (fun _ _ _ h => h) (Or.inl ⟨by rfl, ?_⟩) ?_ ?_
    rotate_left
    · intro w_
      go_simp
      with_reducible rfl
    rotate_left
    · simp only [Act.put, List.setIfInBounds_toArray, List.set_cons_zero, List.set_cons_succ, i64_w, i32_w]
      rfl
    refine one_ (i := 8) (N := some 60) #[true, true, true, true, true, true, true, true, true, false, false, false, false] rfl rfl (by kernel_rfl) (by decide) (fun K' hK => ?_)
    refine value_ (w1 := w4.alloc (.cells #[.slice none 0 0, .int .i64 c, .string n, .int .i64 (k : Int)] 73 (0, 0))) (v := .slice (some ⟨w4.heap.size, 0, none⟩) 1 1) (by rfl) rfl ?_ ?_
    · go_simp
    have HN := Aside0.mk (blk_new w4 (.cells #[.slice none 0 0, .int .i64 c, .string n, .int .i64 (k : Int)] 73 (0, 0)))
    have hb5 := (Below.refl w4.heap.size w4).alloc (Nat.le_refl _) (.cells #[.slice none 0 0, .int .i64 c, .string n, .int .i64 (k : Int)] 73 (0, 0))
    refine hK.out _ _ ⟨pw_cell_below hb5 hHeld.1, blk_below hHeld.2.1 hb5, hHeld.2.2.trans (hb5.mono hHeld.2.2.size)⟩ (fun hHeld => ?_)
    clear hK K'
    refine norm_ (a' := ?_) ?_ ?_
    rotate_left
    · show Act.put _ (some 60) _ = _
      simp only [Act.put, List.setIfInBounds_toArray, List.set_cons_zero, List.set_cons_succ, i64_w, i32_w]
      rfl
    refine last_ (i := 9) (N := some 61) #[true, true, true, true, true, true, true, true, true, true, false, false, false] rfl rfl (by kernel_rfl) (by decide) (fun K' hK => ?_)
    refine step_append73 w4.heap.size _ _ _ _ (by rfl) rfl rfl rfl (ownsRow_kept HROW.out (fun k hk => hHeld.2.2.block k (HROW.out.lt k hk).2)) rfl HN.out ⟨rfl, rfl, rfl, rfl⟩ (by omega) ?_
    intro g2 cap2 w6 hown hgrow hat hlt2
    refine hK.out _ _ ?_
    clear hK K'
    refine norm_ (a' := ?_) ?_ ?_
    rotate_left
    · show Act.put _ (some 61) _ = _
      simp only [Act.put, List.setIfInBounds_toArray, List.set_cons_zero, List.set_cons_succ, i64_w, i32_w]
      rfl
    refine pure_ (i := 10) (N := some 62) (v := ?_) (a' := ?_) #[true, true, true, true, true, true, true, true, true, true, true, false, false] rfl rfl (by kernel_rfl) (fun _ _ _ h => h) (Or.inl ⟨by rfl, ?_⟩) ?_ ?_
    rotate_left
    · intro w_
      go_simp
      with_reducible rfl
    rotate_left
    · simp only [Act.put, List.setIfInBounds_toArray, List.set_cons_zero, List.set_cons_succ, i64_w, i32_w]
      rfl
    refine pure_ (i := 11) (N := some 63) (v := ?_) (a' := ?_) #[true, true, true, true, true, true, true, true, true, true, true, true, false] rfl rfl (by kernel_rfl) (fun _ _ _ h => h) (Or.inl ⟨by rfl, ?_⟩) ?_ ?_
    rotate_left
    · intro w_
      go_simp
      with_reducible rfl
    rotate_left
    · simp only [Act.put, List.setIfInBounds_toArray, List.set_cons_zero, List.set_cons_succ, i64_w, i32_w]
      rfl
    have hB5 := hHeld.2.2
    have hs6 := (hgrow.block s (Nat.lt_of_lt_of_le (blk_lt HST.out.head) hB5.size) (fun e => HST.out.row_ne e.symm)).trans ((hB5.block s (blk_lt HST.out.head)).trans HST.out.head)
    have hc6 := (blk_cell hs6 0).trans rfl
    have hf6 := blk_frozen hs6 0
    refine last_ (i := 12) (N := none) #[true, true, true, true, true, true, true, true, true, true, true, true, true] rfl rfl (by kernel_rfl) (by decide) (fun K' hK => ?_)
    refine skip_ (w1 := ?_) (by rfl) rfl ?_ ?_
    rotate_left
    · go_simp
      rfl
    refine hK.out _ _ ?_
    clear hK K'
    refine done_ (by kernel_rfl) ?_
    have hown2 : w6.ownsRow 0 73 4 (.slice (some ⟨g2, 0, none⟩) (D.length + 1) cap2) (D.length + 1) (cFs D ++ cF (.slice none 0 0, ⟨[], c, n, (k : Int)⟩)) := by
      rw [hDL]
      exact hown
    have hgrow2 : (w4.alloc (.cells #[.slice none 0 0, .int .i64 c, .string n, .int .i64 (k : Int)] 73 (0, 0))).grownBy w6 (Value.slice (some ⟨g, 0, none⟩) L.length cap).ownBlock := hgrow
    have hat2 : (Value.slice (some ⟨g, 0, none⟩) L.length cap).ownBlock = some g2 ∨ g2 = (w4.alloc (.cells #[.slice none 0 0, .int .i64 c, .string n, .int .i64 (k : Int)] 73 (0, 0))).heap.size := hat
    have HFIN := Aside0.mk (St.pushed (f := ⟨[], c, n, (k : Int)⟩) HST.out H2.out H3.out rfl hB5 hown2 hgrow2 hat2 hlt2)
    rw [hDL] at HFIN
    clear hown2 hgrow2 hat2
    clear hHeld hown hgrow hat hlt2 hB5 hs6 hc6 hf6
    go_wp2_with fail
    go_ret
    exact ⟨fun e => absurd e HQ.out, fun _ => ⟨rfl, HFIN.out⟩⟩
end Go.Proofs.Ytfahpihbbkkngaa.P

-- from the text Hs
namespace Go.Proofs.Ytfahpihbbkkngaa.P
open Go.RowKit Go.Proofs.YtfahpihbbkkngaaW.PrintWords Go.Proofs.YtfahpihbbkkngaaW.PrintLast Go.Proofs.YtfahpihbbkkngaaW.PrintMore
set_option linter.unusedVariables false
set_option linter.unusedSimpArgs false
/-- No two units are for the same. -/
def Uniq (us : List S24) : Prop := us.Pairwise (fun a b => ∀ c n, hit c n a = true → hit c n b = false)
theorem hit_iff (c : Int) (n : ByteArray) (u : S24) : hit c n u = true ↔ u.f0 = c ∧ u.f1.toList = n.toList := by simp [hit]
theorem hit_two {c : Int} {n : ByteArray} {a u : S24} (h1 : hit c n a = true) (h2 : hit c n u = true) : hit u.f0 u.f1 a = true := by
  rw [hit_iff] at *
  exact ⟨h1.1.trans h2.1.symm, h1.2.trans h2.2.symm⟩
theorem idxU_none (c : Int) (n : ByteArray) : ∀ (us : List S24) (i : Nat), idxU c n us i = none ↔ ∀ u ∈ us, hit c n u = false
  | [], i => by simp [idxU]
  | u :: r, i => by
    rw [idxU_cons]
    cases h : hit c n u with
    | true => simp [h]
    | false =>
      rw [if_neg (by simp), idxU_none c n r (i + 1)]
      simp [h]
theorem idxU_some (c : Int) (n : ByteArray) : ∀ (us : List S24) (i k : Nat), idxU c n us i = some k → ∃ a u b, us = a ++ u :: b ∧ k = i + a.length ∧ hit c n u = true ∧ ∀ x ∈ a, hit c n x = false
  | [], i, k, h => by simp [idxU] at h
  | u :: r, i, k, h => by
    rw [idxU_cons] at h
    cases hh : hit c n u with
    | true =>
      rw [hh, if_pos rfl] at h
      cases h
      exact ⟨[], u, r, rfl, rfl, hh, by simp⟩
    | false =>
      rw [hh, if_neg (by simp)] at h
      obtain ⟨a, x, b, rfl, h1, h2, h3⟩ := idxU_some c n r (i + 1) k h
      refine ⟨u :: a, x, b, rfl, by simp; omega, h2, ?_⟩
      intro y hy
      rcases List.mem_cons.1 hy with rfl | hy
      · exact hh
      · exact h3 y hy
theorem revU_cases (c : Int) (n : ByteArray) (us : List S24) : (revU c n us = us ∧ ∀ u ∈ us, hit c n u = false) ∨ ∃ a u b, us = a ++ u :: b ∧ revU c n us = a ++ b ∧ hit c n u = true ∧ ∀ x ∈ a, hit c n x = false := by
  unfold revU
  cases h : idxU c n us 0 with
  | none => exact .inl ⟨rfl, (idxU_none c n us 0).1 h⟩
  | some k =>
    obtain ⟨a, u, b, rfl, rfl, h2, h3⟩ := idxU_some c n us 0 k h
    refine .inr ⟨a, u, b, rfl, ?_, h2, h3⟩
    simp only [Nat.zero_add, List.take_left']
    have e : (a ++ u :: b).drop (a.length + 1) = b := by
      rw [show a ++ u :: b = (a ++ [u]) ++ b by simp]
      exact List.drop_left' (by simp)
    rw [e]
theorem revU_sub (c : Int) (n : ByteArray) (us : List S24) : List.Sublist (revU c n us) us := by
  rcases revU_cases c n us with ⟨h, _⟩ | ⟨a, u, b, rfl, h, _⟩
  · rw [h]
    exact List.Sublist.refl _
  · rw [h]
    exact List.Sublist.append (List.Sublist.refl _) (List.sublist_cons_self _ _)
theorem revU_no (c : Int) (n : ByteArray) (us : List S24) (h : Uniq us) : ∀ x ∈ revU c n us, hit c n x = false := by
  rcases revU_cases c n us with ⟨e, h1⟩ | ⟨a, u, b, rfl, e, h2, h3⟩
  · rw [e]
    exact h1
  · rw [e]
    intro x hx
    rcases List.mem_append.1 hx with hx | hx
    · exact h3 x hx
    · have := (List.pairwise_append.1 h).2.1
      exact (List.pairwise_cons.1 this).1 x hx c n h2
theorem Uniq.rev {us : List S24} (h : Uniq us) (c : Int) (n : ByteArray) : Uniq (revU c n us) := List.Pairwise.sublist (revU_sub c n us) h
theorem Uniq.on {us : List S24} (h : Uniq us) (u : S24) : Uniq (revU u.f0 u.f1 us ++ [u]) := by
  refine List.pairwise_append.2 ⟨h.rev _ _, by simp, fun a ha b hb c n h1 => ?_⟩
  simp only [List.mem_singleton] at hb
  subst hb
  cases h2 : hit c n b with
  | false => rfl
  | true =>
    have := revU_no b.f0 b.f1 us h a ha
    rw [hit_two h1 h2] at this
    cases this
/-- The frames of a stack on which nothing was begun. -/
structure Flat (L : List Fr) (m : Nat) : Prop where
  pos : 1 ≤ L.length
  len : L.length ≤ 60
  plain : ∀ f ∈ L, f.bl = 0 ∧ f.rc = 0
  us : ∀ f ∈ L, f.us.length ≤ m ∧ Uniq f.us
theorem Flat.new : Flat [fr0] 0 := ⟨by simp, by simp, by simp [fr0], by simp [fr0, Uniq]⟩
theorem Flat.more {L : List Fr} {m m' : Nat} (h : Flat L m) (hm : m ≤ m') : Flat L m' := ⟨h.pos, h.len, h.plain, fun f hf => ⟨Nat.le_trans (h.us f hf).1 hm, (h.us f hf).2⟩⟩
theorem Flat.on {L0 : List Fr} {f : Fr} {m : Nat} (h : Flat (L0 ++ [f]) m) (u : S24) : Flat (L0 ++ [{ f with us := revU u.f0 u.f1 f.us ++ [u] }]) (m + 1) := by
  have hf := h.us f (by simp)
  refine ⟨by simp, by have := h.len; simpa using this, fun g hg => ?_, fun g hg => ?_⟩
  · rcases List.mem_append.1 hg with hg | hg
    · exact h.plain g (by simp [hg])
    · simp only [List.mem_singleton] at hg
      subst hg
      exact h.plain f (by simp)
  · rcases List.mem_append.1 hg with hg | hg
    · have := h.us g (by simp [hg])
      exact ⟨by omega, this.2⟩
    · simp only [List.mem_singleton] at hg
      subst hg
      have := (revU_sub u.f0 u.f1 f.us).length_le
      exact ⟨by simp; omega, hf.2.on u⟩
where
  fromL_low (c : Int) (n : ByteArray) : ∀ (L : List Fr) (m : Int), fromL c n m L ≤ m
    | [], m => Int.le_refl _
    | g :: r, m => by
      rw [fromL_cons]
      refine Int.le_trans (fromL_low c n r _) ?_
      split <;> (try split) <;> omega
end Go.Proofs.Ytfahpihbbkkngaa.P

-- from the text A65
namespace Go.Proofs.Ytfahpihbbkkngaa.P
open Go.RowKit Go.Proofs.YtfahpihbbkkngaaW.PrintWords Go.Proofs.YtfahpihbbkkngaaW.PrintLast Go.Proofs.YtfahpihbbkkngaaW.PrintMore
attribute [local go_sem] max2_int min2_int max_two min_two max_three min_three max_four min_four   -- for this text's walks alone
set_option linter.unusedVariables false
set_option linter.unusedSimpArgs false
def ironbarkref20_without.l0 : Nat → List (S24) → Int → ByteArray → List (S24) → Int → Option ((List (S24)))
  | 0, _, _, _, _, _ => none
  | k + 1, x0, x1, x2, x7, x8 => if x8 < (x0.length : Int) then (if 0 ≤ x8 then (if ((rd_T24 x0 x8).f0) = x1 then (if ((rd_T24 x0 x8).f1).toList = x2.toList then (ironbarkref20_without.l0 k x0 x1 x2 x7 (wrap64 (x8 + 1))) else (if x7.length < 4398046511104 then (ironbarkref20_without.l0 k x0 x1 x2 (x7 ++ [(⟨(rd_T24 x0 x8).f0, (rd_T24 x0 x8).f1, (rd_T24 x0 x8).f2⟩ : S24)]) (wrap64 (x8 + 1))) else (none))) else (if x7.length < 4398046511104 then (ironbarkref20_without.l0 k x0 x1 x2 (x7 ++ [(⟨(rd_T24 x0 x8).f0, (rd_T24 x0 x8).f1, (rd_T24 x0 x8).f2⟩ : S24)]) (wrap64 (x8 + 1))) else (none))) else (none)) else (some x7)
def ironbarkref20_without.f (k : Nat) (l0 : List (S24)) (a1 : Int) (a2 : ByteArray) : Option ((List (S24))) := ironbarkref20_without.l0 k l0 a1 a2 ([] : List (S24)) 0
set_option maxHeartbeats 8000000 in
set_option maxRecDepth 100000 in
theorem ironbarkref20_without.calls (k : Nat) (A0 : Option Addr) (c0 : Nat) (l0 : List (S24)) (a1 : Int) (a2 : ByteArray) (r : List (S24)) (w : World) (hr0 : Kd.C k24 w A0 l0.length l0) (hc0 : l0.length ≤ c0) (h : ironbarkref20_without.f k l0 a1 a2 = some r) :
    Calls Try.prog 65 #[.slice A0 l0.length c0, .int .i64 a1, .string a2] w fun e w' => ∃ v0_ : Value, e = .returned (v0_) ∧ Kd.R k24 24 w' w.heap.size (fun _ => True) v0_ r ∧ Below w.heap.size w w' := by
  have hu24 := Try.underlying24
  have HR0 := Aside0.mk hr0
  have HC0 := Aside0.mk hc0
  clear hr0 hc0
  have HB := Aside0.mk (Below.refl w.heap.size w)
  have H : (ironbarkref20_without.l0 k l0 a1 a2 ([] : List (S24)) 0) = some r := h
  clear h
  have H' := Aside0.mk H
  clear H
  go_enter Try.func65, Try.ntmps65
  go_wp2
  go_loopg [7, 8] k (fun kq v7 v8 w' => ∃ (x7_1 : List (S24)) (x8_1 : Int), v8 = .int .i64 x8_1 ∧ Aside0 (ironbarkref20_without.l0 kq l0 a1 a2 x7_1 x8_1 = some r) ∧ Aside0 (kq ≤ k) ∧ Aside0 (Kd.R k24 24 w' w.heap.size (fun _ => True) v7 x7_1) ∧ Aside0 (Below w.heap.size w w'))
  case atStart => exact ⟨(([] : List (S24))), (0), (by first | rfl | (simp; done) | (generalize ByteArray.toList _ = l_; cases l_ <;> rfl) | (simp [*]; done)), H', ⟨Nat.le_refl _⟩, ⟨by first | exact Kd.R_nil _ _ _ _ _ | exact Kd.N_nil _ _ _ _ _ | exact Kd.V_nil _ _ _ _ _ | exact Kd.Q_nil _ _ _ _ _ | exact Kd.S_nil _ _ _ _ _⟩, ⟨by repeat (first | (with_reducible first | exact HB.out | apply below_alloc | apply pw_below_drewN | apply below_drew1) | exact HB.out)⟩⟩
  case round =>
    clear H'
    try clear p2
    obtain ⟨x7_1, x8_1, rfl, HA, HK1, HO_7, HB⟩ := hrel
    cases gk with
    | zero => exact absurd HA.out (by simp [ironbarkref20_without.l0])
    | succ k1 =>
      have H := HA.out
      clear HA
      simp only [ironbarkref20_without.l0] at H
      by_cases c4 : x8_1 < (l0.length : Int)
      · rw [if_pos c4] at H
        have c4b0 : decide (x8_1 < (l0.length : Int)) = true := decide_eq_true c4
        clear c4
        by_cases c5 : 0 ≤ x8_1
        · rw [if_pos c5] at H
          have c5b0 : decide (0 ≤ x8_1) = true := decide_eq_true c5
          clear c5
          by_cases c6 : ((rd_T24 l0 x8_1).f0) = a1
          · rw [if_pos c6] at H
            have c6b0 : (((rd_T24 l0 x8_1).f0) == a1) = true := beq_iff_eq.mpr c6
            have c6b1 : (((rd_T24 l0 x8_1).f0) != a1) = false := bne_eq_false_iff_eq.mpr c6
            clear c6
            by_cases c7 : ((rd_T24 l0 x8_1).f1).toList = a2.toList
            · rw [if_pos c7] at H
              have c7b0 : (((rd_T24 l0 x8_1).f1).toList == a2.toList) = true := beq_iff_eq.mpr c7
              have c7b1 : (((rd_T24 l0 x8_1).f1).toList != a2.toList) = false := bne_eq_false_iff_eq.mpr c7
              clear c7
              have H' := Aside0.mk H
              clear H
              have p101 : 0 ≤ (x8_1 : Int) := of_decide_eq_true (by first | (with_reducible assumption) | assumption)
              have q101 : x8_1 < (l0.length : Int) := of_decide_eq_true (by first | (with_reducible assumption) | assumption)
              obtain ⟨ad101, e101, hx101_0, hx101_1, hx101_2⟩ := at_T24 HR0.out x8_1 p101 q101
              cases e101
              replace hx101_0 := (HB.out.cell (World.block_lt_of_cell? w _ hx101_0)).trans hx101_0
              replace hx101_1 := (HB.out.cell (World.block_lt_of_cell? w _ hx101_1)).trans hx101_1
              replace hx101_2 := (HB.out.cell (World.block_lt_of_cell? w _ hx101_2)).trans hx101_2
              replace p101 := eq_true p101
              replace q101 := eq_true q101
              have p102 : 0 ≤ (x8_1 : Int) := of_decide_eq_true (by first | (with_reducible assumption) | assumption)
              have q102 : x8_1 < (l0.length : Int) := of_decide_eq_true (by first | (with_reducible assumption) | assumption)
              obtain ⟨ad102, e102, hx102_0, hx102_1, hx102_2⟩ := at_T24 HR0.out x8_1 p102 q102
              obtain rfl : ad101 = ad102 := (by injection e102)
              replace hx102_0 := (HB.out.cell (World.block_lt_of_cell? w _ hx102_0)).trans hx102_0
              replace hx102_1 := (HB.out.cell (World.block_lt_of_cell? w _ hx102_1)).trans hx102_1
              replace hx102_2 := (HB.out.cell (World.block_lt_of_cell? w _ hx102_2)).trans hx102_2
              replace p102 := eq_true p102
              replace q102 := eq_true q102
              go_wp2
              go_roundg k1
              case measure => have := HK1.out; omega
              case rel => exact ⟨(x7_1), (wrap64 (x8_1 + 1)), (by first | rfl | (simp; done) | (generalize ByteArray.toList _ = l_; cases l_ <;> rfl) | (simp [*]; done)), H', ⟨by have := HK1.out; omega⟩, ⟨by (with_reducible repeat (first | apply Kd.R_alloc | apply Kd.R_drewN | apply Kd.R_drew)); exact HO_7.out⟩, ⟨by repeat (first | (with_reducible first | exact HB.out | apply below_alloc | apply pw_below_drewN | apply below_drew1) | exact HB.out)⟩⟩
            · rw [if_neg c7] at H
              have c7b0 : (((rd_T24 l0 x8_1).f1).toList == a2.toList) = false := beq_eq_false_iff_ne.mpr c7
              have c7b1 : (((rd_T24 l0 x8_1).f1).toList != a2.toList) = true := bne_iff_ne.mpr c7
              by_cases c8 : x7_1.length < 4398046511104
              · rw [if_pos c8] at H
                have LMc8 := Aside0.mk c8
                clear c8
                obtain ⟨y104, hy104⟩ : ∃ y_ : List (S24), y_ = (x7_1 ++ [(⟨(rd_T24 l0 x8_1).f0, (rd_T24 l0 x8_1).f1, (rd_T24 l0 x8_1).f2⟩ : S24)]) := ⟨_, rfl⟩
                replace H : (ironbarkref20_without.l0 k1 l0 a1 a2 y104 (wrap64 (x8_1 + 1))) = some r := by first | (rw [hy104]; with_reducible exact H) | (have H2_ := (Option.bind_some _ _).symm.trans H; rw [hy104]; with_reducible exact H2_) | (have H2_ := (Option.bind_some _ _).symm.trans H; with_reducible exact H2_) | with_reducible exact H | (rw [hy104]; exact H) | exact H
                have Ny104 := Aside0.mk hy104
                clear hy104
                have H' := Aside0.mk H
                clear H
                have p101 : 0 ≤ (x8_1 : Int) := of_decide_eq_true (by first | (with_reducible assumption) | assumption)
                have q101 : x8_1 < (l0.length : Int) := of_decide_eq_true (by first | (with_reducible assumption) | assumption)
                obtain ⟨ad101, e101, hx101_0, hx101_1, hx101_2⟩ := at_T24 HR0.out x8_1 p101 q101
                cases e101
                replace hx101_0 := (HB.out.cell (World.block_lt_of_cell? w _ hx101_0)).trans hx101_0
                replace hx101_1 := (HB.out.cell (World.block_lt_of_cell? w _ hx101_1)).trans hx101_1
                replace hx101_2 := (HB.out.cell (World.block_lt_of_cell? w _ hx101_2)).trans hx101_2
                replace p101 := eq_true p101
                replace q101 := eq_true q101
                have p102 : 0 ≤ (x8_1 : Int) := of_decide_eq_true (by first | (with_reducible assumption) | assumption)
                have q102 : x8_1 < (l0.length : Int) := of_decide_eq_true (by first | (with_reducible assumption) | assumption)
                obtain ⟨ad102, e102, hx102_0, hx102_1, hx102_2⟩ := at_T24 HR0.out x8_1 p102 q102
                obtain rfl : ad101 = ad102 := (by injection e102)
                replace hx102_0 := (HB.out.cell (World.block_lt_of_cell? w _ hx102_0)).trans hx102_0
                replace hx102_1 := (HB.out.cell (World.block_lt_of_cell? w _ hx102_1)).trans hx102_1
                replace hx102_2 := (HB.out.cell (World.block_lt_of_cell? w _ hx102_2)).trans hx102_2
                replace p102 := eq_true p102
                replace q102 := eq_true q102
                have p103 : 0 ≤ (x8_1 : Int) := of_decide_eq_true (by first | (with_reducible assumption) | assumption)
                have q103 : x8_1 < (l0.length : Int) := of_decide_eq_true (by first | (with_reducible assumption) | assumption)
                obtain ⟨ad103, e103, hx103_0, hx103_1, hx103_2⟩ := at_T24 HR0.out x8_1 p103 q103
                obtain rfl : ad101 = ad103 := (by injection e103)
                replace hx103_0 := (HB.out.cell (World.block_lt_of_cell? w _ hx103_0)).trans hx103_0
                replace hx103_1 := (HB.out.cell (World.block_lt_of_cell? w _ hx103_1)).trans hx103_1
                replace hx103_2 := (HB.out.cell (World.block_lt_of_cell? w _ hx103_2)).trans hx103_2
                replace p103 := eq_true p103
                replace q103 := eq_true q103
                go_wp2_with (first | ((with_reducible refine gate_builtin (b := .append) (xs := #[.tmp 31, .tmp 36]) rfl ?_); at_builtin; refine Kd.R_append k24 (w0 := w) w.heap.size rfl (.tmp 31) (.tmp 36) 64 24 (.agg #[(.int .i64 0), (.string ⟨#[]⟩), (.int .i64 0)]) 32 rfl Try.underlying64 info24 rfl (by decide) (by omega) u7 x7_1 (⟨(rd_T24 l0 x8_1).f0, (rd_T24 l0 x8_1).f1, (rd_T24 l0 x8_1).f2⟩ : S24) [.int .i64 ((rd_T24 l0 x8_1).f0), .string ((rd_T24 l0 x8_1).f1), .int .i64 ((rd_T24 l0 x8_1).f2)] (fun _ => True) (fun _ => False) rfl rfl ?aP (fun _ hk => hk.elim) ?aF ?aO ?aB ?aS ?aL ?_; (case aP => exact k24_mkM _ _ _ (⟨(rd_T24 l0 x8_1).f0, (rd_T24 l0 x8_1).f1, (rd_T24 l0 x8_1).f2⟩ : S24)); (case aB => exact (by repeat (first | (with_reducible first | exact HB.out | apply below_alloc | apply pw_below_drewN | apply below_drew1) | exact HB.out))); (case aF => exact (fun _ _ => trivial)); (case aO => exact (by (with_reducible repeat (first | apply Kd.R_alloc | apply Kd.R_drewN | apply Kd.R_drew)); exact HO_7.out)); (case aS => exact (below_size (by repeat (first | (with_reducible first | exact HB.out | apply below_alloc | apply pw_below_drewN | apply below_drew1) | exact HB.out)))); (case aL => have := LMc8.out; omega); intro v105 w9 ho hb hg hat; rw [← Ny104.out] at ho; have n0_ := Aside0.mk (hb); have n1_ := Aside0.mk (ho); clear HB; clear HO_7; have HB := n0_; have HO106 := n1_; clear n0_ n1_; clear ho hb hg hat))
                go_roundg k1
                case measure => have := HK1.out; omega
                case rel => exact ⟨(y104), (wrap64 (x8_1 + 1)), (by first | rfl | (simp; done) | (generalize ByteArray.toList _ = l_; cases l_ <;> rfl) | (simp [*]; done)), H', ⟨by have := HK1.out; omega⟩, ⟨by (with_reducible repeat (first | apply Kd.R_alloc | apply Kd.R_drewN | apply Kd.R_drew)); exact HO106.out⟩, ⟨by repeat (first | (with_reducible first | exact HB.out | apply below_alloc | apply pw_below_drewN | apply below_drew1) | exact HB.out)⟩⟩
              · rw [if_neg c8] at H
                exact absurd H (by simp)
          · rw [if_neg c6] at H
            have c6b0 : (((rd_T24 l0 x8_1).f0) == a1) = false := beq_eq_false_iff_ne.mpr c6
            have c6b1 : (((rd_T24 l0 x8_1).f0) != a1) = true := bne_iff_ne.mpr c6
            by_cases c10 : x7_1.length < 4398046511104
            · rw [if_pos c10] at H
              have LMc10 := Aside0.mk c10
              clear c10
              obtain ⟨y108, hy108⟩ : ∃ y_ : List (S24), y_ = (x7_1 ++ [(⟨(rd_T24 l0 x8_1).f0, (rd_T24 l0 x8_1).f1, (rd_T24 l0 x8_1).f2⟩ : S24)]) := ⟨_, rfl⟩
              replace H : (ironbarkref20_without.l0 k1 l0 a1 a2 y108 (wrap64 (x8_1 + 1))) = some r := by first | (rw [hy108]; with_reducible exact H) | (have H2_ := (Option.bind_some _ _).symm.trans H; rw [hy108]; with_reducible exact H2_) | (have H2_ := (Option.bind_some _ _).symm.trans H; with_reducible exact H2_) | with_reducible exact H | (rw [hy108]; exact H) | exact H
              have Ny108 := Aside0.mk hy108
              clear hy108
              have H' := Aside0.mk H
              clear H
              have p101 : 0 ≤ (x8_1 : Int) := of_decide_eq_true (by first | (with_reducible assumption) | assumption)
              have q101 : x8_1 < (l0.length : Int) := of_decide_eq_true (by first | (with_reducible assumption) | assumption)
              obtain ⟨ad101, e101, hx101_0, hx101_1, hx101_2⟩ := at_T24 HR0.out x8_1 p101 q101
              cases e101
              replace hx101_0 := (HB.out.cell (World.block_lt_of_cell? w _ hx101_0)).trans hx101_0
              replace hx101_1 := (HB.out.cell (World.block_lt_of_cell? w _ hx101_1)).trans hx101_1
              replace hx101_2 := (HB.out.cell (World.block_lt_of_cell? w _ hx101_2)).trans hx101_2
              replace p101 := eq_true p101
              replace q101 := eq_true q101
              have p107 : 0 ≤ (x8_1 : Int) := of_decide_eq_true (by first | (with_reducible assumption) | assumption)
              have q107 : x8_1 < (l0.length : Int) := of_decide_eq_true (by first | (with_reducible assumption) | assumption)
              obtain ⟨ad107, e107, hx107_0, hx107_1, hx107_2⟩ := at_T24 HR0.out x8_1 p107 q107
              obtain rfl : ad101 = ad107 := (by injection e107)
              replace hx107_0 := (HB.out.cell (World.block_lt_of_cell? w _ hx107_0)).trans hx107_0
              replace hx107_1 := (HB.out.cell (World.block_lt_of_cell? w _ hx107_1)).trans hx107_1
              replace hx107_2 := (HB.out.cell (World.block_lt_of_cell? w _ hx107_2)).trans hx107_2
              replace p107 := eq_true p107
              replace q107 := eq_true q107
              go_wp2_with (first | ((with_reducible refine gate_builtin (b := .append) (xs := #[.tmp 31, .tmp 36]) rfl ?_); at_builtin; refine Kd.R_append k24 (w0 := w) w.heap.size rfl (.tmp 31) (.tmp 36) 64 24 (.agg #[(.int .i64 0), (.string ⟨#[]⟩), (.int .i64 0)]) 32 rfl Try.underlying64 info24 rfl (by decide) (by omega) u7 x7_1 (⟨(rd_T24 l0 x8_1).f0, (rd_T24 l0 x8_1).f1, (rd_T24 l0 x8_1).f2⟩ : S24) [.int .i64 ((rd_T24 l0 x8_1).f0), .string ((rd_T24 l0 x8_1).f1), .int .i64 ((rd_T24 l0 x8_1).f2)] (fun _ => True) (fun _ => False) rfl rfl ?aP (fun _ hk => hk.elim) ?aF ?aO ?aB ?aS ?aL ?_; (case aP => exact k24_mkM _ _ _ (⟨(rd_T24 l0 x8_1).f0, (rd_T24 l0 x8_1).f1, (rd_T24 l0 x8_1).f2⟩ : S24)); (case aB => exact (by repeat (first | (with_reducible first | exact HB.out | apply below_alloc | apply pw_below_drewN | apply below_drew1) | exact HB.out))); (case aF => exact (fun _ _ => trivial)); (case aO => exact (by (with_reducible repeat (first | apply Kd.R_alloc | apply Kd.R_drewN | apply Kd.R_drew)); exact HO_7.out)); (case aS => exact (below_size (by repeat (first | (with_reducible first | exact HB.out | apply below_alloc | apply pw_below_drewN | apply below_drew1) | exact HB.out)))); (case aL => have := LMc10.out; omega); intro v109 w11 ho hb hg hat; rw [← Ny108.out] at ho; have n0_ := Aside0.mk (hb); have n1_ := Aside0.mk (ho); clear HB; clear HO_7; have HB := n0_; have HO110 := n1_; clear n0_ n1_; clear ho hb hg hat))
              go_roundg k1
              case measure => have := HK1.out; omega
              case rel => exact ⟨(y108), (wrap64 (x8_1 + 1)), (by first | rfl | (simp; done) | (generalize ByteArray.toList _ = l_; cases l_ <;> rfl) | (simp [*]; done)), H', ⟨by have := HK1.out; omega⟩, ⟨by (with_reducible repeat (first | apply Kd.R_alloc | apply Kd.R_drewN | apply Kd.R_drew)); exact HO110.out⟩, ⟨by repeat (first | (with_reducible first | exact HB.out | apply below_alloc | apply pw_below_drewN | apply below_drew1) | exact HB.out)⟩⟩
            · rw [if_neg c10] at H
              exact absurd H (by simp)
        · rw [if_neg c5] at H
          exact absurd H (by simp)
      · rw [if_neg c4] at H
        have c4b0 : decide (x8_1 < (l0.length : Int)) = false := decide_eq_false c4
        clear c4
        obtain rfl := Option.some.inj H
        go_wp2
        go_ret
        exact ⟨_, by first | rfl | (simp [errW_none, errW_some] <;> rfl) | (simp [*, errW_none, errW_some] <;> rfl), by (with_reducible repeat (first | apply Kd.R_alloc | apply Kd.R_drewN | apply Kd.R_drew)); exact HO_7.out, by repeat (first | (with_reducible first | exact HB.out | apply below_alloc | apply pw_below_drewN | apply below_drew1) | exact HB.out)⟩
end Go.Proofs.Ytfahpihbbkkngaa.P

-- from the text A66
namespace Go.Proofs.Ytfahpihbbkkngaa.P
open Go.RowKit Go.Proofs.YtfahpihbbkkngaaW.PrintWords Go.Proofs.YtfahpihbbkkngaaW.PrintLast Go.Proofs.YtfahpihbbkkngaaW.PrintMore
attribute [local go_sem] max2_int min2_int max_two min_two max_three min_three max_four min_four   -- for this text's walks alone
set_option linter.unusedVariables false
set_option linter.unusedSimpArgs false
def ironbarkref20_of.l0 : Nat → Int → ByteArray → Int → List (S24) → Bool → Int → ByteArray → Int → Option (Int × ByteArray × Int × Bool)
  | 0, _, _, _, _, _, _, _, _ => none
  | k + 1, x1, x2, x8, x102000, x102001, x102002, x102003, x102004 => if x8 < (x102000.length : Int) then (if 0 ≤ x8 then (if ((rd_T24 x102000 x8).f0) = x1 then (if ((rd_T24 x102000 x8).f1).toList = x2.toList then (some ((rd_T24 x102000 x8).f0, (rd_T24 x102000 x8).f1, (rd_T24 x102000 x8).f2, true)) else (ironbarkref20_of.l0 k x1 x2 (wrap64 (x8 + 1)) x102000 x102001 x102002 x102003 x102004)) else (ironbarkref20_of.l0 k x1 x2 (wrap64 (x8 + 1)) x102000 x102001 x102002 x102003 x102004)) else (none)) else (some (0, (⟨#[]⟩ : ByteArray), 0, false))
def ironbarkref20_of.f (k : Nat) (l0_0 : List (S24)) (a0_1 : Bool) (a0_2 : Int) (a0_3 : ByteArray) (a0_4 : Int) (a1 : Int) (a2 : ByteArray) : Option (Int × ByteArray × Int × Bool) := ironbarkref20_of.l0 k a1 a2 0 l0_0 a0_1 a0_2 a0_3 a0_4
set_option maxHeartbeats 8000000 in
set_option maxRecDepth 100000 in
theorem ironbarkref20_of.calls (k : Nat) (A0_0 : Option Addr) (c0_0 : Nat) (l0_0 : List (S24)) (a0_1 : Bool) (a0_2 : Int) (a0_3 : ByteArray) (a0_4 : Int) (a1 : Int) (a2 : ByteArray) (r1 : Int) (r2 : ByteArray) (r3 : Int) (r4 : Bool) (w : World) (hr0_0 : Kd.C k24 w A0_0 l0_0.length l0_0) (hc0_0 : l0_0.length ≤ c0_0) (h : ironbarkref20_of.f k l0_0 a0_1 a0_2 a0_3 a0_4 a1 a2 = some (r1, r2, r3, r4)) :
    Calls Try.prog 66 #[.agg #[.slice A0_0 l0_0.length c0_0, .bool a0_1, .int .i64 a0_2, .string a0_3, .int .i64 a0_4], .int .i64 a1, .string a2] w fun e w' => e = .returned (.tuple #[.agg #[.int .i64 r1, .string r2, .int .i64 r3], .bool r4]) ∧ Below w.heap.size w w' := by
  have hu94 := Try.underlying94
  have hu24 := Try.underlying24
  have HR0_0 := Aside0.mk hr0_0
  have HC0_0 := Aside0.mk hc0_0
  clear hr0_0 hc0_0
  have HB := Aside0.mk (Below.refl w.heap.size w)
  have H : (ironbarkref20_of.l0 k a1 a2 0 l0_0 a0_1 a0_2 a0_3 a0_4) = some (r1, r2, r3, r4) := h
  clear h
  have H' := Aside0.mk H
  clear H
  go_enter Try.func66, Try.ntmps66
  go_wp2_with (first | ((with_reducible refine gate_dst (N := 3) rfl ?_); refine box_event ?hg (N := 3) ?hd (cs := #[.slice A0_0 l0_0.length c0_0, .bool a0_1, .int .i64 a0_2, .string a0_3, .int .i64 a0_4]) (t := 94) ?hr ?_; (case hd => rfl); (case hg => rfl); (case hr => first | (go_simp; done) | (go_simp; rfl)); intro gb101 hg w4 hbox hb; have n0_ := Aside0.mk (below_step (by repeat (first | (with_reducible first | exact HB.out | apply below_alloc | apply pw_below_drewN | apply below_drew1) | exact HB.out)) hb); have n1_ := Aside0.mk (hbox); have n2_ := Aside0.mk ((by rw [hg]; exact (below_size (by repeat (first | (with_reducible first | exact HB.out | apply below_alloc | apply pw_below_drewN | apply below_drew1) | exact HB.out))) : w.heap.size ≤ gb101)); have n3_ := n2_; clear HB; have HB := n0_; have BK101 := n1_; have GW101 := n2_; have GE101 := n3_; clear n0_ n1_ n2_ n3_; clear hb hbox hg) | ((with_reducible refine gate_dst (N := 6) rfl ?_); refine box_event ?hg (N := 6) ?hd (cs := #[.int .i64 0, .string (⟨#[]⟩ : ByteArray), .int .i64 0]) (t := 24) ?hr ?_; (case hd => rfl); (case hg => rfl); (case hr => first | (go_simp; done) | (go_simp; rfl)); intro gb102 hg w5 hbox hb; have n0_ := Aside0.mk (blk_below (zk BK101.out) hb); have n1_ := Aside0.mk (below_step (by repeat (first | (with_reducible first | exact HB.out | apply below_alloc | apply pw_below_drewN | apply below_drew1 | refine below_set ?_ GE101.out) | exact HB.out)) hb); have n2_ := Aside0.mk (hbox); have n3_ := Aside0.mk ((by rw [hg]; exact (below_size (by repeat (first | (with_reducible first | exact HB.out | apply below_alloc | apply pw_below_drewN | apply below_drew1 | refine below_set ?_ GE101.out) | exact HB.out))) : w.heap.size ≤ gb102)); have n4_ := n3_; have n5_ := Aside0.mk ((by rw [hg]; exact Nat.ne_of_lt (blk_lt (zk BK101.out)) : gb101 ≠ gb102)); have n6_ := Aside0.mk ((by rw [hg]; exact Nat.ne_of_gt (blk_lt (zk BK101.out)) : gb102 ≠ gb101)); clear BK101; clear HB; have BK101 := n0_; have HB := n1_; have BK102 := n2_; have GW102 := n3_; have GE102 := n4_; have NB101_102 := n5_; have NB102_101 := n6_; clear n0_ n1_ n2_ n3_ n4_ n5_ n6_; clear hb hbox hg))
  go_loopg [8] k (fun kq v8 w' => ∃ (x8_1 : Int) (x103000_1 : Int) (x103001_1 : ByteArray) (x103002_1 : Int), v8 = .int .i64 x8_1 ∧ Aside0 (ironbarkref20_of.l0 kq a1 a2 x8_1 l0_0 a0_1 a0_2 a0_3 a0_4 = some (r1, r2, r3, r4)) ∧ Aside0 (kq ≤ k) ∧ Aside0 (w'.heap[gb101]? = some (.cells #[(.slice A0_0 l0_0.length c0_0), .bool a0_1, .int .i64 a0_2, .string a0_3, .int .i64 a0_4] 94 (0, 0))) ∧ Aside0 (w'.heap[gb102]? = some (.cells #[.int .i64 x103000_1, .string x103001_1, .int .i64 x103002_1] 24 (0, 0))) ∧ Aside0 (Below w.heap.size w w'))
  case atStart => exact ⟨(0), (0), ((⟨#[]⟩ : ByteArray)), (0), (by first | rfl | (simp; done) | (generalize ByteArray.toList _ = l_; cases l_ <;> rfl) | (simp [*]; done)), H', ⟨Nat.le_refl _⟩, ⟨zk BK101.out⟩, ⟨zk BK102.out⟩, ⟨by repeat (first | (with_reducible first | exact HB.out | apply below_alloc | apply pw_below_drewN | apply below_drew1 | refine below_set ?_ GE101.out | refine below_set ?_ GE102.out) | exact HB.out)⟩⟩
  case round =>
    clear H'
    try clear p2
    obtain ⟨x8_1, x103000_1, x103001_1, x103002_1, rfl, HA, HK1, BK101, BK102, HB⟩ := hrel
    cases gk with
    | zero => exact absurd HA.out (by simp [ironbarkref20_of.l0])
    | succ k1 =>
      have H := HA.out
      clear HA
      simp only [ironbarkref20_of.l0] at H
      by_cases c6 : x8_1 < (l0_0.length : Int)
      · rw [if_pos c6] at H
        have c6b0 : decide (x8_1 < (l0_0.length : Int)) = true := decide_eq_true c6
        clear c6
        by_cases c7 : 0 ≤ x8_1
        · rw [if_pos c7] at H
          have c7b0 : decide (0 ≤ x8_1) = true := decide_eq_true c7
          clear c7
          by_cases c8 : ((rd_T24 l0_0 x8_1).f0) = a1
          · rw [if_pos c8] at H
            have c8b0 : (((rd_T24 l0_0 x8_1).f0) == a1) = true := beq_iff_eq.mpr c8
            have c8b1 : (((rd_T24 l0_0 x8_1).f0) != a1) = false := bne_eq_false_iff_eq.mpr c8
            clear c8
            by_cases c9 : ((rd_T24 l0_0 x8_1).f1).toList = a2.toList
            · rw [if_pos c9] at H
              have c9b0 : (((rd_T24 l0_0 x8_1).f1).toList == a2.toList) = true := beq_iff_eq.mpr c9
              have c9b1 : (((rd_T24 l0_0 x8_1).f1).toList != a2.toList) = false := bne_eq_false_iff_eq.mpr c9
              clear c9
              simp only [Option.some.injEq, Prod.mk.injEq] at H
              obtain ⟨rfl, rfl, rfl, rfl⟩ := H
              have hnb10 := NB101_102.out
              have hnc10 := NB102_101.out
              have hcz11_0 : wr.cell? ⟨gb101, 0, none⟩ = some (.slice A0_0 l0_0.length c0_0) := (blk_cell BK101.out 0).trans rfl
              have hcz11_1 : wr.cell? ⟨gb101, 1, none⟩ = some (.bool a0_1) := (blk_cell BK101.out 1).trans rfl
              have hcz11_2 : wr.cell? ⟨gb101, 2, none⟩ = some (.int .i64 a0_2) := (blk_cell BK101.out 2).trans rfl
              have hcz11_3 : wr.cell? ⟨gb101, 3, none⟩ = some (.string a0_3) := (blk_cell BK101.out 3).trans rfl
              have hcz11_4 : wr.cell? ⟨gb101, 4, none⟩ = some (.int .i64 a0_4) := (blk_cell BK101.out 4).trans rfl
              have hfz11_0 := blk_frozen BK101.out 0
              have hfz11_1 := blk_frozen BK101.out 1
              have hfz11_2 := blk_frozen BK101.out 2
              have hfz11_3 := blk_frozen BK101.out 3
              have hfz11_4 := blk_frozen BK101.out 4
              have p103 : 0 ≤ (x8_1 : Int) := of_decide_eq_true (by first | (with_reducible assumption) | assumption)
              have q103 : x8_1 < (l0_0.length : Int) := of_decide_eq_true (by first | (with_reducible assumption) | assumption)
              obtain ⟨ad103, e103, hx103_0, hx103_1, hx103_2⟩ := at_T24 HR0_0.out x8_1 p103 q103
              cases e103
              replace hx103_0 := (HB.out.cell (World.block_lt_of_cell? w _ hx103_0)).trans hx103_0
              replace hx103_1 := (HB.out.cell (World.block_lt_of_cell? w _ hx103_1)).trans hx103_1
              replace hx103_2 := (HB.out.cell (World.block_lt_of_cell? w _ hx103_2)).trans hx103_2
              replace p103 := eq_true p103
              replace q103 := eq_true q103
              have p104 : 0 ≤ (x8_1 : Int) := of_decide_eq_true (by first | (with_reducible assumption) | assumption)
              have q104 : x8_1 < (l0_0.length : Int) := of_decide_eq_true (by first | (with_reducible assumption) | assumption)
              obtain ⟨ad104, e104, hx104_0, hx104_1, hx104_2⟩ := at_T24 HR0_0.out x8_1 p104 q104
              obtain rfl : ad103 = ad104 := (by injection e104)
              replace hx104_0 := (HB.out.cell (World.block_lt_of_cell? w _ hx104_0)).trans hx104_0
              replace hx104_1 := (HB.out.cell (World.block_lt_of_cell? w _ hx104_1)).trans hx104_1
              replace hx104_2 := (HB.out.cell (World.block_lt_of_cell? w _ hx104_2)).trans hx104_2
              replace p104 := eq_true p104
              replace q104 := eq_true q104
              have p105 : 0 ≤ (x8_1 : Int) := of_decide_eq_true (by first | (with_reducible assumption) | assumption)
              have q105 : x8_1 < (l0_0.length : Int) := of_decide_eq_true (by first | (with_reducible assumption) | assumption)
              obtain ⟨ad105, e105, hx105_0, hx105_1, hx105_2⟩ := at_T24 HR0_0.out x8_1 p105 q105
              obtain rfl : ad103 = ad105 := (by injection e105)
              replace hx105_0 := (HB.out.cell (World.block_lt_of_cell? w _ hx105_0)).trans hx105_0
              replace hx105_1 := (HB.out.cell (World.block_lt_of_cell? w _ hx105_1)).trans hx105_1
              replace hx105_2 := (HB.out.cell (World.block_lt_of_cell? w _ hx105_2)).trans hx105_2
              replace p105 := eq_true p105
              replace q105 := eq_true q105
              have hcz12_0 : wr.cell? ⟨gb102, 0, none⟩ = some (.int .i64 x103000_1) := (blk_cell BK102.out 0).trans rfl
              have hcz12_1 : wr.cell? ⟨gb102, 1, none⟩ = some (.string x103001_1) := (blk_cell BK102.out 1).trans rfl
              have hcz12_2 : wr.cell? ⟨gb102, 2, none⟩ = some (.int .i64 x103002_1) := (blk_cell BK102.out 2).trans rfl
              have hfz12_0 := blk_frozen BK102.out 0
              have hfz12_1 := blk_frozen BK102.out 1
              have hfz12_2 := blk_frozen BK102.out 2
              go_wp2
              refine bodyPost_ret (results_ct rfl _ _ gb102 24 #[.int .i64 ((rd_T24 l0_0 x8_1).f0), .string ((rd_T24 l0_0 x8_1).f1), .int .i64 ((rd_T24 l0_0 x8_1).f2)] (0, 0) _ rfl (by refine zk ?_; refine blk_put (cs := #[.int .i64 ((rd_T24 l0_0 x8_1).f0), .string ((rd_T24 l0_0 x8_1).f1), .int .i64 x103002_1]) ?_ 2 _ rfl; refine zk ?_; refine blk_put (cs := #[.int .i64 ((rd_T24 l0_0 x8_1).f0), .string x103001_1, .int .i64 x103002_1]) ?_ 1 _ rfl; refine zk ?_; refine blk_put (cs := #[.int .i64 x103000_1, .string x103001_1, .int .i64 x103002_1]) ?_ 0 _ rfl; refine zk ?_; exact BK102.out) Try.underlying24 rfl (by kernel_rfl)) rfl ?_
              exact ⟨by first | rfl | (simp [errW_none, errW_some] <;> rfl) | (simp [*, errW_none, errW_some] <;> rfl), by repeat (first | (with_reducible first | exact HB.out | apply below_alloc | apply pw_below_drewN | apply below_drew1 | refine below_set ?_ GE101.out | refine below_set ?_ GE102.out) | exact HB.out)⟩
            · rw [if_neg c9] at H
              have c9b0 : (((rd_T24 l0_0 x8_1).f1).toList == a2.toList) = false := beq_eq_false_iff_ne.mpr c9
              have c9b1 : (((rd_T24 l0_0 x8_1).f1).toList != a2.toList) = true := bne_iff_ne.mpr c9
              have H' := Aside0.mk H
              clear H
              have hnb13 := NB101_102.out
              have hnc13 := NB102_101.out
              have hcz14_0 : wr.cell? ⟨gb101, 0, none⟩ = some (.slice A0_0 l0_0.length c0_0) := (blk_cell BK101.out 0).trans rfl
              have hcz14_1 : wr.cell? ⟨gb101, 1, none⟩ = some (.bool a0_1) := (blk_cell BK101.out 1).trans rfl
              have hcz14_2 : wr.cell? ⟨gb101, 2, none⟩ = some (.int .i64 a0_2) := (blk_cell BK101.out 2).trans rfl
              have hcz14_3 : wr.cell? ⟨gb101, 3, none⟩ = some (.string a0_3) := (blk_cell BK101.out 3).trans rfl
              have hcz14_4 : wr.cell? ⟨gb101, 4, none⟩ = some (.int .i64 a0_4) := (blk_cell BK101.out 4).trans rfl
              have hfz14_0 := blk_frozen BK101.out 0
              have hfz14_1 := blk_frozen BK101.out 1
              have hfz14_2 := blk_frozen BK101.out 2
              have hfz14_3 := blk_frozen BK101.out 3
              have hfz14_4 := blk_frozen BK101.out 4
              have p103 : 0 ≤ (x8_1 : Int) := of_decide_eq_true (by first | (with_reducible assumption) | assumption)
              have q103 : x8_1 < (l0_0.length : Int) := of_decide_eq_true (by first | (with_reducible assumption) | assumption)
              obtain ⟨ad103, e103, hx103_0, hx103_1, hx103_2⟩ := at_T24 HR0_0.out x8_1 p103 q103
              cases e103
              replace hx103_0 := (HB.out.cell (World.block_lt_of_cell? w _ hx103_0)).trans hx103_0
              replace hx103_1 := (HB.out.cell (World.block_lt_of_cell? w _ hx103_1)).trans hx103_1
              replace hx103_2 := (HB.out.cell (World.block_lt_of_cell? w _ hx103_2)).trans hx103_2
              replace p103 := eq_true p103
              replace q103 := eq_true q103
              have p104 : 0 ≤ (x8_1 : Int) := of_decide_eq_true (by first | (with_reducible assumption) | assumption)
              have q104 : x8_1 < (l0_0.length : Int) := of_decide_eq_true (by first | (with_reducible assumption) | assumption)
              obtain ⟨ad104, e104, hx104_0, hx104_1, hx104_2⟩ := at_T24 HR0_0.out x8_1 p104 q104
              obtain rfl : ad103 = ad104 := (by injection e104)
              replace hx104_0 := (HB.out.cell (World.block_lt_of_cell? w _ hx104_0)).trans hx104_0
              replace hx104_1 := (HB.out.cell (World.block_lt_of_cell? w _ hx104_1)).trans hx104_1
              replace hx104_2 := (HB.out.cell (World.block_lt_of_cell? w _ hx104_2)).trans hx104_2
              replace p104 := eq_true p104
              replace q104 := eq_true q104
              go_wp2
              go_roundg k1
              case measure => have := HK1.out; omega
              case rel => exact ⟨(wrap64 (x8_1 + 1)), (x103000_1), (x103001_1), (x103002_1), (by first | rfl | (simp; done) | (generalize ByteArray.toList _ = l_; cases l_ <;> rfl) | (simp [*]; done)), H', ⟨by have := HK1.out; omega⟩, ⟨zk BK101.out⟩, ⟨zk BK102.out⟩, ⟨by repeat (first | (with_reducible first | exact HB.out | apply below_alloc | apply pw_below_drewN | apply below_drew1 | refine below_set ?_ GE101.out | refine below_set ?_ GE102.out) | exact HB.out)⟩⟩
          · rw [if_neg c8] at H
            have c8b0 : (((rd_T24 l0_0 x8_1).f0) == a1) = false := beq_eq_false_iff_ne.mpr c8
            have c8b1 : (((rd_T24 l0_0 x8_1).f0) != a1) = true := bne_iff_ne.mpr c8
            have H' := Aside0.mk H
            clear H
            have hnb15 := NB101_102.out
            have hnc15 := NB102_101.out
            have hcz16_0 : wr.cell? ⟨gb101, 0, none⟩ = some (.slice A0_0 l0_0.length c0_0) := (blk_cell BK101.out 0).trans rfl
            have hcz16_1 : wr.cell? ⟨gb101, 1, none⟩ = some (.bool a0_1) := (blk_cell BK101.out 1).trans rfl
            have hcz16_2 : wr.cell? ⟨gb101, 2, none⟩ = some (.int .i64 a0_2) := (blk_cell BK101.out 2).trans rfl
            have hcz16_3 : wr.cell? ⟨gb101, 3, none⟩ = some (.string a0_3) := (blk_cell BK101.out 3).trans rfl
            have hcz16_4 : wr.cell? ⟨gb101, 4, none⟩ = some (.int .i64 a0_4) := (blk_cell BK101.out 4).trans rfl
            have hfz16_0 := blk_frozen BK101.out 0
            have hfz16_1 := blk_frozen BK101.out 1
            have hfz16_2 := blk_frozen BK101.out 2
            have hfz16_3 := blk_frozen BK101.out 3
            have hfz16_4 := blk_frozen BK101.out 4
            have p103 : 0 ≤ (x8_1 : Int) := of_decide_eq_true (by first | (with_reducible assumption) | assumption)
            have q103 : x8_1 < (l0_0.length : Int) := of_decide_eq_true (by first | (with_reducible assumption) | assumption)
            obtain ⟨ad103, e103, hx103_0, hx103_1, hx103_2⟩ := at_T24 HR0_0.out x8_1 p103 q103
            cases e103
            replace hx103_0 := (HB.out.cell (World.block_lt_of_cell? w _ hx103_0)).trans hx103_0
            replace hx103_1 := (HB.out.cell (World.block_lt_of_cell? w _ hx103_1)).trans hx103_1
            replace hx103_2 := (HB.out.cell (World.block_lt_of_cell? w _ hx103_2)).trans hx103_2
            replace p103 := eq_true p103
            replace q103 := eq_true q103
            go_wp2
            go_roundg k1
            case measure => have := HK1.out; omega
            case rel => exact ⟨(wrap64 (x8_1 + 1)), (x103000_1), (x103001_1), (x103002_1), (by first | rfl | (simp; done) | (generalize ByteArray.toList _ = l_; cases l_ <;> rfl) | (simp [*]; done)), H', ⟨by have := HK1.out; omega⟩, ⟨zk BK101.out⟩, ⟨zk BK102.out⟩, ⟨by repeat (first | (with_reducible first | exact HB.out | apply below_alloc | apply pw_below_drewN | apply below_drew1 | refine below_set ?_ GE101.out | refine below_set ?_ GE102.out) | exact HB.out)⟩⟩
        · rw [if_neg c7] at H
          exact absurd H (by simp)
      · rw [if_neg c6] at H
        have c6b0 : decide (x8_1 < (l0_0.length : Int)) = false := decide_eq_false c6
        clear c6
        simp only [Option.some.injEq, Prod.mk.injEq] at H
        obtain ⟨rfl, rfl, rfl, rfl⟩ := H
        have hnb17 := NB101_102.out
        have hnc17 := NB102_101.out
        have hcz18_0 : wr.cell? ⟨gb101, 0, none⟩ = some (.slice A0_0 l0_0.length c0_0) := (blk_cell BK101.out 0).trans rfl
        have hcz18_1 : wr.cell? ⟨gb101, 1, none⟩ = some (.bool a0_1) := (blk_cell BK101.out 1).trans rfl
        have hcz18_2 : wr.cell? ⟨gb101, 2, none⟩ = some (.int .i64 a0_2) := (blk_cell BK101.out 2).trans rfl
        have hcz18_3 : wr.cell? ⟨gb101, 3, none⟩ = some (.string a0_3) := (blk_cell BK101.out 3).trans rfl
        have hcz18_4 : wr.cell? ⟨gb101, 4, none⟩ = some (.int .i64 a0_4) := (blk_cell BK101.out 4).trans rfl
        have hfz18_0 := blk_frozen BK101.out 0
        have hfz18_1 := blk_frozen BK101.out 1
        have hfz18_2 := blk_frozen BK101.out 2
        have hfz18_3 := blk_frozen BK101.out 3
        have hfz18_4 := blk_frozen BK101.out 4
        have hcz19_0 : wr.cell? ⟨gb102, 0, none⟩ = some (.int .i64 x103000_1) := (blk_cell BK102.out 0).trans rfl
        have hcz19_1 : wr.cell? ⟨gb102, 1, none⟩ = some (.string x103001_1) := (blk_cell BK102.out 1).trans rfl
        have hcz19_2 : wr.cell? ⟨gb102, 2, none⟩ = some (.int .i64 x103002_1) := (blk_cell BK102.out 2).trans rfl
        have hfz19_0 := blk_frozen BK102.out 0
        have hfz19_1 := blk_frozen BK102.out 1
        have hfz19_2 := blk_frozen BK102.out 2
        go_wp2
        refine bodyPost_ret (results_ct rfl _ _ gb102 24 #[.int .i64 0, .string (⟨#[]⟩ : ByteArray), .int .i64 0] (0, 0) _ rfl (by refine zk ?_; refine blk_put (cs := #[.int .i64 0, .string (⟨#[]⟩ : ByteArray), .int .i64 x103002_1]) ?_ 2 _ rfl; refine zk ?_; refine blk_put (cs := #[.int .i64 0, .string x103001_1, .int .i64 x103002_1]) ?_ 1 _ rfl; refine zk ?_; refine blk_put (cs := #[.int .i64 x103000_1, .string x103001_1, .int .i64 x103002_1]) ?_ 0 _ rfl; refine zk ?_; exact BK102.out) Try.underlying24 rfl (by kernel_rfl)) rfl ?_
        exact ⟨by first | rfl | (simp [errW_none, errW_some] <;> rfl) | (simp [*, errW_none, errW_some] <;> rfl), by repeat (first | (with_reducible first | exact HB.out | apply below_alloc | apply pw_below_drewN | apply below_drew1 | refine below_set ?_ GE101.out | refine below_set ?_ GE102.out) | exact HB.out)⟩
end Go.Proofs.Ytfahpihbbkkngaa.P

-- from the text A49
namespace Go.Proofs.Ytfahpihbbkkngaa.P
open Go.RowKit Go.Proofs.YtfahpihbbkkngaaW.PrintWords Go.Proofs.YtfahpihbbkkngaaW.PrintLast Go.Proofs.YtfahpihbbkkngaaW.PrintMore
attribute [local go_sem] max2_int min2_int max_two min_two max_three min_three max_four min_four   -- for this text's walks alone
set_option linter.unusedVariables false
set_option linter.unusedSimpArgs false
mutual
def ironbarkref20_Meet.l0 : Nat → Int → ByteArray → Int → Int → List (S94) → Option (Int × ByteArray × Int × Int × Int)
  | 0, _, _, _, _, _ => none
  | k + 1, x1, x2, x9, x10, x102000 => if x10 < (x102000.length : Int) then (if 0 ≤ x10 then (if (rd_T94 x102000 x10).f1 = true then (if ((rd_T94 x102000 x10).f2) = x1 then (if ((rd_T94 x102000 x10).f3).toList = x2.toList then (if ((rd_T94 x102000 x10).f4) < x9 then (ironbarkref20_Meet.l0 k x1 x2 ((rd_T94 x102000 x10).f4) (wrap64 (x10 + 1)) x102000) else (ironbarkref20_Meet.l0 k x1 x2 x9 (wrap64 (x10 + 1)) x102000)) else (ironbarkref20_Meet.l0 k x1 x2 x9 (wrap64 (x10 + 1)) x102000)) else (ironbarkref20_Meet.l0 k x1 x2 x9 (wrap64 (x10 + 1)) x102000)) else (ironbarkref20_Meet.l0 k x1 x2 x9 (wrap64 (x10 + 1)) x102000)) else (none)) else (ironbarkref20_Meet.l1 k x1 x2 (wrap64 (x9 - 1)) x102000)
def ironbarkref20_Meet.l1 : Nat → Int → ByteArray → Int → List (S94) → Option (Int × ByteArray × Int × Int × Int)
  | 0, _, _, _, _ => none
  | k + 1, x1, x2, x12, x102000 => if x12 ≥ 0 then (if 0 ≤ x12 then (if x12 < (x102000.length : Int) then ((ironbarkref20_of.f k ((rd_T94 x102000 x12).f0) ((rd_T94 x102000 x12).f1) ((rd_T94 x102000 x12).f2) ((rd_T94 x102000 x12).f3) ((rd_T94 x102000 x12).f4) x1 x2).bind fun bt107 => (if bt107.2.2.2 = true then (some (bt107.1, bt107.2.1, bt107.2.2.1, x12, 0)) else (ironbarkref20_Meet.l1 k x1 x2 (wrap64 (x12 - 1)) x102000))) else (none)) else (none)) else (some (0, (⟨#[]⟩ : ByteArray), 0, 0, 8))
end
def ironbarkref20_Meet.f (k : Nat) (l0_0 : List (S94)) (a1 : Int) (a2 : ByteArray) : Option (Int × ByteArray × Int × Int × Int) := (ironbarkref20_Named.f k a1 a2).bind fun t103 => (if t103 = true then (ironbarkref20_Meet.l0 k a1 a2 (l0_0.length : Int) 0 l0_0) else (some (0, (⟨#[]⟩ : ByteArray), 0, 0, 1)))
set_option maxHeartbeats 8000000 in
set_option maxRecDepth 100000 in
theorem ironbarkref20_Meet.calls (k : Nat) (A0_0 : Option Addr) (c0_0 : Nat) (l0_0 : List (S94)) (a1 : Int) (a2 : ByteArray) (r1 : Int) (r2 : ByteArray) (r3 : Int) (r4 : Int) (r5 : Int) (w : World) (hr0_0 : Kd.C k94 w A0_0 l0_0.length l0_0) (hc0_0 : l0_0.length ≤ c0_0) (h : ironbarkref20_Meet.f k l0_0 a1 a2 = some (r1, r2, r3, r4, r5)) :
    Calls Try.prog 49 #[.agg #[.slice A0_0 l0_0.length c0_0], .int .i64 a1, .string a2] w fun e w' => e = .returned (.tuple #[.agg #[.int .i64 r1, .string r2, .int .i64 r3], .int .i64 r4, .int .i64 r5]) ∧ Below w.heap.size w w' := by
  have hu55 := Try.underlying55
  have hu24 := Try.underlying24
  have hu94 := Try.underlying94
  have HR0_0 := Aside0.mk hr0_0
  have HC0_0 := Aside0.mk hc0_0
  clear hr0_0 hc0_0
  have HB := Aside0.mk (Below.refl w.heap.size w)
  have H : ((ironbarkref20_Named.f k a1 a2).bind fun t103 => (if t103 = true then (ironbarkref20_Meet.l0 k a1 a2 (l0_0.length : Int) 0 l0_0) else (some (0, (⟨#[]⟩ : ByteArray), 0, 0, 1)))) = some (r1, r2, r3, r4, r5) := h
  clear h
  replace H := Option.bind_eq_some_iff.mp H
  obtain ⟨t103, A40, H⟩ := H
  replace H : (if t103 = true then (ironbarkref20_Meet.l0 k a1 a2 (l0_0.length : Int) 0 l0_0) else (some (0, (⟨#[]⟩ : ByteArray), 0, 0, 1))) = some (r1, r2, r3, r4, r5) := H
  have A4 := Aside0.mk A40
  clear A40
  by_cases c5 : t103 = true
  · subst c5
    have H1 : (ironbarkref20_Meet.l0 k a1 a2 (l0_0.length : Int) 0 l0_0) = some (r1, r2, r3, r4, r5) := by rw [if_pos rfl] at H; exact H
    clear H
    have H := H1
    clear H1
    have H' := Aside0.mk H
    clear H
    go_enter Try.func49, Try.ntmps49
    go_wp2_with (first | ((with_reducible refine gate_dst (N := 3) rfl ?_); refine box_event ?hg (N := 3) ?hd (cs := #[.slice A0_0 l0_0.length c0_0]) (t := 55) ?hr ?_; (case hd => rfl); (case hg => rfl); (case hr => first | (go_simp; done) | (go_simp; rfl)); intro gb101 hg w6 hbox hb; have n0_ := Aside0.mk (below_step (by repeat (first | (with_reducible first | exact HB.out | apply below_alloc | apply pw_below_drewN | apply below_drew1) | exact HB.out)) hb); have n1_ := Aside0.mk (hbox); have n2_ := Aside0.mk ((by rw [hg]; exact (below_size (by repeat (first | (with_reducible first | exact HB.out | apply below_alloc | apply pw_below_drewN | apply below_drew1) | exact HB.out))) : w.heap.size ≤ gb101)); have n3_ := n2_; clear HB; have HB := n0_; have BK101 := n1_; have GW101 := n2_; have GE101 := n3_; clear n0_ n1_ n2_ n3_; clear hb hbox hg) | ((with_reducible refine gate_dst (N := 6) rfl ?_); refine box_event ?hg (N := 6) ?hd (cs := #[.int .i64 0, .string (⟨#[]⟩ : ByteArray), .int .i64 0]) (t := 24) ?hr ?_; (case hd => rfl); (case hg => rfl); (case hr => first | (go_simp; done) | (go_simp; rfl)); intro gb102 hg w7 hbox hb; have n0_ := Aside0.mk (blk_below (zk BK101.out) hb); have n1_ := Aside0.mk (below_step (by repeat (first | (with_reducible first | exact HB.out | apply below_alloc | apply pw_below_drewN | apply below_drew1 | refine below_set ?_ GE101.out) | exact HB.out)) hb); have n2_ := Aside0.mk (hbox); have n3_ := Aside0.mk ((by rw [hg]; exact (below_size (by repeat (first | (with_reducible first | exact HB.out | apply below_alloc | apply pw_below_drewN | apply below_drew1 | refine below_set ?_ GE101.out) | exact HB.out))) : w.heap.size ≤ gb102)); have n4_ := n3_; have n5_ := Aside0.mk ((by rw [hg]; exact Nat.ne_of_lt (blk_lt (zk BK101.out)) : gb101 ≠ gb102)); have n6_ := Aside0.mk ((by rw [hg]; exact Nat.ne_of_gt (blk_lt (zk BK101.out)) : gb102 ≠ gb101)); clear BK101; clear HB; have BK101 := n0_; have HB := n1_; have BK102 := n2_; have GW102 := n3_; have GE102 := n4_; have NB101_102 := n5_; have NB102_101 := n6_; clear n0_ n1_ n2_ n3_ n4_ n5_ n6_; clear hb hbox hg) | ((with_reducible refine gate_callee (f := 44) rfl ?_); refine goesL_ (some 17) rfl rfl Try.func44 (by kernel_rfl) rfl #[.int .i64 a1, .string a2] rfl (by (try simp only [List.map_toArray, List.map_cons, List.map_nil]); first | done | rfl | (simp only [List.length_drop, List.length_take]; rfl)) ?_; (with_reducible refine (ironbarkref20_Named.calls k a1 a2 true _ A4.out).mono ?_); rintro e w8 ⟨rfl, hb⟩; refine ⟨_, rfl, ?_⟩; have n0_ := Aside0.mk (blk_below (zk BK101.out) hb); have n1_ := Aside0.mk (blk_below (zk BK102.out) hb); have n2_ := Aside0.mk (below_step (by repeat (first | (with_reducible first | exact HB.out | apply below_alloc | apply pw_below_drewN | apply below_drew1 | refine below_set ?_ GE101.out | refine below_set ?_ GE102.out) | exact HB.out)) hb); clear BK101; clear BK102; clear HB; have BK101 := n0_; have BK102 := n1_; have HB := n2_; clear n0_ n1_ n2_; (try clear hb); (try clear hb2); (try clear hk); (try clear hi); have hnb9 := NB101_102.out; have hnc9 := NB102_101.out; have hcz10_0 : w8.cell? ⟨gb101, 0, none⟩ = some (.slice A0_0 l0_0.length c0_0) := (blk_cell BK101.out 0).trans rfl; have hfz10_0 := blk_frozen BK101.out 0))
    go_loopg [9, 10] k (fun kq v9 v10 w' => ∃ (x9_1 : Int) (x10_1 : Int), v9 = .int .i64 x9_1 ∧ v10 = .int .i64 x10_1 ∧ Aside0 (ironbarkref20_Meet.l0 kq a1 a2 x9_1 x10_1 l0_0 = some (r1, r2, r3, r4, r5)) ∧ Aside0 (kq ≤ k) ∧ Aside0 (w'.heap[gb101]? = some (.cells #[(.slice A0_0 l0_0.length c0_0)] 55 (0, 0))) ∧ Aside0 (w'.heap[gb102]? = some (.cells #[.int .i64 0, .string (⟨#[]⟩ : ByteArray), .int .i64 0] 24 (0, 0))) ∧ Aside0 (Below w.heap.size w w'))
    case atStart => exact ⟨((l0_0.length : Int)), (0), (by first | rfl | (simp; done) | (generalize ByteArray.toList _ = l_; cases l_ <;> rfl) | (simp [*]; done)), (by first | rfl | (simp; done) | (generalize ByteArray.toList _ = l_; cases l_ <;> rfl) | (simp [*]; done)), H', ⟨Nat.le_refl _⟩, ⟨zk BK101.out⟩, ⟨zk BK102.out⟩, ⟨by repeat (first | (with_reducible first | exact HB.out | apply below_alloc | apply pw_below_drewN | apply below_drew1 | refine below_set ?_ GE101.out | refine below_set ?_ GE102.out) | exact HB.out)⟩⟩
    case round =>
      clear H'
      try clear p2
      try clear c4
      try clear c5
      try clear c9
      try clear hcz10_0
      try clear hfz10_0
      obtain ⟨x9_1, x10_1, rfl, rfl, HA, HK1, BK101, BK102, HB⟩ := hrel
      cases gk with
      | zero => exact absurd HA.out (by simp [ironbarkref20_Meet.l0])
      | succ k1 =>
        have H := HA.out
        clear HA
        simp only [ironbarkref20_Meet.l0] at H
        by_cases c11 : x10_1 < (l0_0.length : Int)
        · rw [if_pos c11] at H
          have c11b0 : decide (x10_1 < (l0_0.length : Int)) = true := decide_eq_true c11
          clear c11
          by_cases c12 : 0 ≤ x10_1
          · rw [if_pos c12] at H
            have c12b0 : decide (0 ≤ x10_1) = true := decide_eq_true c12
            clear c12
            obtain ⟨bq13, hbq13⟩ : ∃ b_ : Bool, b_ = ((rd_T94 l0_0 x10_1).f1) := ⟨_, rfl⟩
            replace H : (if bq13 = true then (if ((rd_T94 l0_0 x10_1).f2) = a1 then (if ((rd_T94 l0_0 x10_1).f3).toList = a2.toList then (if ((rd_T94 l0_0 x10_1).f4) < x9_1 then (ironbarkref20_Meet.l0 k1 a1 a2 ((rd_T94 l0_0 x10_1).f4) (wrap64 (x10_1 + 1)) l0_0) else (ironbarkref20_Meet.l0 k1 a1 a2 x9_1 (wrap64 (x10_1 + 1)) l0_0)) else (ironbarkref20_Meet.l0 k1 a1 a2 x9_1 (wrap64 (x10_1 + 1)) l0_0)) else (ironbarkref20_Meet.l0 k1 a1 a2 x9_1 (wrap64 (x10_1 + 1)) l0_0)) else (ironbarkref20_Meet.l0 k1 a1 a2 x9_1 (wrap64 (x10_1 + 1)) l0_0)) = some (r1, r2, r3, r4, r5) := by rw [← hbq13] at H; exact H
            have Nbq13 := Aside0.mk hbq13
            clear hbq13
            by_cases c14 : bq13 = true
            · subst c14
              have H1 : (if ((rd_T94 l0_0 x10_1).f2) = a1 then (if ((rd_T94 l0_0 x10_1).f3).toList = a2.toList then (if ((rd_T94 l0_0 x10_1).f4) < x9_1 then (ironbarkref20_Meet.l0 k1 a1 a2 ((rd_T94 l0_0 x10_1).f4) (wrap64 (x10_1 + 1)) l0_0) else (ironbarkref20_Meet.l0 k1 a1 a2 x9_1 (wrap64 (x10_1 + 1)) l0_0)) else (ironbarkref20_Meet.l0 k1 a1 a2 x9_1 (wrap64 (x10_1 + 1)) l0_0)) else (ironbarkref20_Meet.l0 k1 a1 a2 x9_1 (wrap64 (x10_1 + 1)) l0_0)) = some (r1, r2, r3, r4, r5) := by rw [if_pos rfl] at H; exact H
              clear H
              have H := H1
              clear H1
              by_cases c15 : ((rd_T94 l0_0 x10_1).f2) = a1
              · rw [if_pos c15] at H
                have c15b0 : (((rd_T94 l0_0 x10_1).f2) == a1) = true := beq_iff_eq.mpr c15
                have c15b1 : (((rd_T94 l0_0 x10_1).f2) != a1) = false := bne_eq_false_iff_eq.mpr c15
                clear c15
                by_cases c16 : ((rd_T94 l0_0 x10_1).f3).toList = a2.toList
                · rw [if_pos c16] at H
                  have c16b0 : (((rd_T94 l0_0 x10_1).f3).toList == a2.toList) = true := beq_iff_eq.mpr c16
                  have c16b1 : (((rd_T94 l0_0 x10_1).f3).toList != a2.toList) = false := bne_eq_false_iff_eq.mpr c16
                  clear c16
                  by_cases c17 : ((rd_T94 l0_0 x10_1).f4) < x9_1
                  · rw [if_pos c17] at H
                    have c17b0 : decide (((rd_T94 l0_0 x10_1).f4) < x9_1) = true := decide_eq_true c17
                    clear c17
                    have H' := Aside0.mk H
                    clear H
                    have hnb18 := NB101_102.out
                    have hnc18 := NB102_101.out
                    have hcz19_0 : wr.cell? ⟨gb101, 0, none⟩ = some (.slice A0_0 l0_0.length c0_0) := (blk_cell BK101.out 0).trans rfl
                    have hfz19_0 := blk_frozen BK101.out 0
                    have p104 : 0 ≤ (x10_1 : Int) := of_decide_eq_true (by first | (with_reducible assumption) | assumption)
                    have q104 : x10_1 < (l0_0.length : Int) := of_decide_eq_true (by first | (with_reducible assumption) | assumption)
                    obtain ⟨ad104, A104_0, c104_0, e104, hx104_0, hx104_1, hx104_2, hx104_3, hx104_4, hl104_0, hi104_0⟩ := at_T94 HR0_0.out x10_1 p104 q104
                    (try rw [← Nbq13.out] at hx104_1)
                    cases e104
                    replace hx104_0 := (HB.out.cell (World.block_lt_of_cell? w _ hx104_0)).trans hx104_0
                    replace hx104_1 := (HB.out.cell (World.block_lt_of_cell? w _ hx104_1)).trans hx104_1
                    replace hx104_2 := (HB.out.cell (World.block_lt_of_cell? w _ hx104_2)).trans hx104_2
                    replace hx104_3 := (HB.out.cell (World.block_lt_of_cell? w _ hx104_3)).trans hx104_3
                    replace hx104_4 := (HB.out.cell (World.block_lt_of_cell? w _ hx104_4)).trans hx104_4
                    have HR104_0 := Aside0.mk hi104_0
                    have HC104_0 := Aside0.mk hl104_0
                    clear hi104_0 hl104_0
                    replace p104 := eq_true p104
                    replace q104 := eq_true q104
                    go_wp2_with (first | ((with_reducible refine gate_dst (N := 11) rfl ?_); refine box_event ?hg (N := 11) ?hd (cs := #[.slice none 0 0, .bool false, .int .i64 0, .string (⟨#[]⟩ : ByteArray), .int .i64 0]) (t := 94) ?hr ?_; (case hd => rfl); (case hg => rfl); (case hr => first | (go_simp; done) | (go_simp; rfl)); intro gb105 hg w20 hbox hb; have n0_ := Aside0.mk (blk_below (zk BK101.out) hb); have n1_ := Aside0.mk (blk_below (zk BK102.out) hb); have n2_ := Aside0.mk (below_step (by repeat (first | (with_reducible first | exact HB.out | apply below_alloc | apply pw_below_drewN | apply below_drew1 | refine below_set ?_ GE101.out | refine below_set ?_ GE102.out) | exact HB.out)) hb); have n3_ := Aside0.mk (hbox); have n4_ := Aside0.mk ((by rw [hg]; exact (below_size (by repeat (first | (with_reducible first | exact HB.out | apply below_alloc | apply pw_below_drewN | apply below_drew1 | refine below_set ?_ GE101.out | refine below_set ?_ GE102.out) | exact HB.out))) : w.heap.size ≤ gb105)); have n5_ := n4_; have n6_ := Aside0.mk ((by rw [hg]; exact Nat.ne_of_lt (blk_lt (zk BK101.out)) : gb101 ≠ gb105)); have n7_ := Aside0.mk ((by rw [hg]; exact Nat.ne_of_gt (blk_lt (zk BK101.out)) : gb105 ≠ gb101)); have n8_ := Aside0.mk ((by rw [hg]; exact Nat.ne_of_lt (blk_lt (zk BK102.out)) : gb102 ≠ gb105)); have n9_ := Aside0.mk ((by rw [hg]; exact Nat.ne_of_gt (blk_lt (zk BK102.out)) : gb105 ≠ gb102)); clear BK101; clear BK102; clear HB; have BK101 := n0_; have BK102 := n1_; have HB := n2_; have BK105 := n3_; have GW105 := n4_; have GE105 := n5_; have NB101_105 := n6_; have NB105_101 := n7_; have NB102_105 := n8_; have NB105_102 := n9_; clear n0_ n1_ n2_ n3_ n4_ n5_ n6_ n7_ n8_ n9_; clear hb hbox hg; have hnb21 := NB105_101.out; have hnc21 := NB101_105.out; have hnb22 := NB105_102.out; have hnc22 := NB102_105.out; have hcz23_0 : w20.cell? ⟨gb105, 0, none⟩ = some (.slice none 0 0) := (blk_cell BK105.out 0).trans rfl; have hcz23_1 : w20.cell? ⟨gb105, 1, none⟩ = some (.bool false) := (blk_cell BK105.out 1).trans rfl; have hcz23_2 : w20.cell? ⟨gb105, 2, none⟩ = some (.int .i64 0) := (blk_cell BK105.out 2).trans rfl; have hcz23_3 : w20.cell? ⟨gb105, 3, none⟩ = some (.string (⟨#[]⟩ : ByteArray)) := (blk_cell BK105.out 3).trans rfl; have hcz23_4 : w20.cell? ⟨gb105, 4, none⟩ = some (.int .i64 0) := (blk_cell BK105.out 4).trans rfl; have hfz23_0 := blk_frozen BK105.out 0; have hfz23_1 := blk_frozen BK105.out 1; have hfz23_2 := blk_frozen BK105.out 2; have hfz23_3 := blk_frozen BK105.out 3; have hfz23_4 := blk_frozen BK105.out 4))
                    go_roundg k1
                    case measure => have := HK1.out; omega
                    case rel => exact ⟨((rd_T94 l0_0 x10_1).f4), (wrap64 (x10_1 + 1)), (by first | rfl | (simp; done) | (generalize ByteArray.toList _ = l_; cases l_ <;> rfl) | (simp [*]; done)), (by first | rfl | (simp; done) | (generalize ByteArray.toList _ = l_; cases l_ <;> rfl) | (simp [*]; done)), H', ⟨by have := HK1.out; omega⟩, ⟨by refine zk ?_; refine blk_far ?_ NB101_105.out _; refine zk ?_; refine blk_far ?_ NB101_105.out _; refine zk ?_; refine blk_far ?_ NB101_105.out _; refine zk ?_; refine blk_far ?_ NB101_105.out _; refine zk ?_; refine blk_far ?_ NB101_105.out _; refine zk ?_; exact BK101.out⟩, ⟨by refine zk ?_; refine blk_far ?_ NB102_105.out _; refine zk ?_; refine blk_far ?_ NB102_105.out _; refine zk ?_; refine blk_far ?_ NB102_105.out _; refine zk ?_; refine blk_far ?_ NB102_105.out _; refine zk ?_; refine blk_far ?_ NB102_105.out _; refine zk ?_; exact BK102.out⟩, ⟨by repeat (first | (with_reducible first | exact HB.out | apply below_alloc | apply pw_below_drewN | apply below_drew1 | refine below_set ?_ GE101.out | refine below_set ?_ GE102.out | refine below_set ?_ GE105.out) | exact HB.out)⟩⟩
                  · rw [if_neg c17] at H
                    have c17b0 : decide (((rd_T94 l0_0 x10_1).f4) < x9_1) = false := decide_eq_false c17
                    clear c17
                    have H' := Aside0.mk H
                    clear H
                    have hnb24 := NB101_102.out
                    have hnc24 := NB102_101.out
                    have hcz25_0 : wr.cell? ⟨gb101, 0, none⟩ = some (.slice A0_0 l0_0.length c0_0) := (blk_cell BK101.out 0).trans rfl
                    have hfz25_0 := blk_frozen BK101.out 0
                    have p104 : 0 ≤ (x10_1 : Int) := of_decide_eq_true (by first | (with_reducible assumption) | assumption)
                    have q104 : x10_1 < (l0_0.length : Int) := of_decide_eq_true (by first | (with_reducible assumption) | assumption)
                    obtain ⟨ad104, A104_0, c104_0, e104, hx104_0, hx104_1, hx104_2, hx104_3, hx104_4, hl104_0, hi104_0⟩ := at_T94 HR0_0.out x10_1 p104 q104
                    (try rw [← Nbq13.out] at hx104_1)
                    cases e104
                    replace hx104_0 := (HB.out.cell (World.block_lt_of_cell? w _ hx104_0)).trans hx104_0
                    replace hx104_1 := (HB.out.cell (World.block_lt_of_cell? w _ hx104_1)).trans hx104_1
                    replace hx104_2 := (HB.out.cell (World.block_lt_of_cell? w _ hx104_2)).trans hx104_2
                    replace hx104_3 := (HB.out.cell (World.block_lt_of_cell? w _ hx104_3)).trans hx104_3
                    replace hx104_4 := (HB.out.cell (World.block_lt_of_cell? w _ hx104_4)).trans hx104_4
                    have HR104_0 := Aside0.mk hi104_0
                    have HC104_0 := Aside0.mk hl104_0
                    clear hi104_0 hl104_0
                    replace p104 := eq_true p104
                    replace q104 := eq_true q104
                    go_wp2_with (first | ((with_reducible refine gate_dst (N := 11) rfl ?_); refine box_event ?hg (N := 11) ?hd (cs := #[.slice none 0 0, .bool false, .int .i64 0, .string (⟨#[]⟩ : ByteArray), .int .i64 0]) (t := 94) ?hr ?_; (case hd => rfl); (case hg => rfl); (case hr => first | (go_simp; done) | (go_simp; rfl)); intro gb105 hg w26 hbox hb; have n0_ := Aside0.mk (blk_below (zk BK101.out) hb); have n1_ := Aside0.mk (blk_below (zk BK102.out) hb); have n2_ := Aside0.mk (below_step (by repeat (first | (with_reducible first | exact HB.out | apply below_alloc | apply pw_below_drewN | apply below_drew1 | refine below_set ?_ GE101.out | refine below_set ?_ GE102.out) | exact HB.out)) hb); have n3_ := Aside0.mk (hbox); have n4_ := Aside0.mk ((by rw [hg]; exact (below_size (by repeat (first | (with_reducible first | exact HB.out | apply below_alloc | apply pw_below_drewN | apply below_drew1 | refine below_set ?_ GE101.out | refine below_set ?_ GE102.out) | exact HB.out))) : w.heap.size ≤ gb105)); have n5_ := n4_; have n6_ := Aside0.mk ((by rw [hg]; exact Nat.ne_of_lt (blk_lt (zk BK101.out)) : gb101 ≠ gb105)); have n7_ := Aside0.mk ((by rw [hg]; exact Nat.ne_of_gt (blk_lt (zk BK101.out)) : gb105 ≠ gb101)); have n8_ := Aside0.mk ((by rw [hg]; exact Nat.ne_of_lt (blk_lt (zk BK102.out)) : gb102 ≠ gb105)); have n9_ := Aside0.mk ((by rw [hg]; exact Nat.ne_of_gt (blk_lt (zk BK102.out)) : gb105 ≠ gb102)); clear BK101; clear BK102; clear HB; have BK101 := n0_; have BK102 := n1_; have HB := n2_; have BK105 := n3_; have GW105 := n4_; have GE105 := n5_; have NB101_105 := n6_; have NB105_101 := n7_; have NB102_105 := n8_; have NB105_102 := n9_; clear n0_ n1_ n2_ n3_ n4_ n5_ n6_ n7_ n8_ n9_; clear hb hbox hg; have hnb27 := NB105_101.out; have hnc27 := NB101_105.out; have hnb28 := NB105_102.out; have hnc28 := NB102_105.out; have hcz29_0 : w26.cell? ⟨gb105, 0, none⟩ = some (.slice none 0 0) := (blk_cell BK105.out 0).trans rfl; have hcz29_1 : w26.cell? ⟨gb105, 1, none⟩ = some (.bool false) := (blk_cell BK105.out 1).trans rfl; have hcz29_2 : w26.cell? ⟨gb105, 2, none⟩ = some (.int .i64 0) := (blk_cell BK105.out 2).trans rfl; have hcz29_3 : w26.cell? ⟨gb105, 3, none⟩ = some (.string (⟨#[]⟩ : ByteArray)) := (blk_cell BK105.out 3).trans rfl; have hcz29_4 : w26.cell? ⟨gb105, 4, none⟩ = some (.int .i64 0) := (blk_cell BK105.out 4).trans rfl; have hfz29_0 := blk_frozen BK105.out 0; have hfz29_1 := blk_frozen BK105.out 1; have hfz29_2 := blk_frozen BK105.out 2; have hfz29_3 := blk_frozen BK105.out 3; have hfz29_4 := blk_frozen BK105.out 4))
                    go_roundg k1
                    case measure => have := HK1.out; omega
                    case rel => exact ⟨(x9_1), (wrap64 (x10_1 + 1)), (by first | rfl | (simp; done) | (generalize ByteArray.toList _ = l_; cases l_ <;> rfl) | (simp [*]; done)), (by first | rfl | (simp; done) | (generalize ByteArray.toList _ = l_; cases l_ <;> rfl) | (simp [*]; done)), H', ⟨by have := HK1.out; omega⟩, ⟨by refine zk ?_; refine blk_far ?_ NB101_105.out _; refine zk ?_; refine blk_far ?_ NB101_105.out _; refine zk ?_; refine blk_far ?_ NB101_105.out _; refine zk ?_; refine blk_far ?_ NB101_105.out _; refine zk ?_; refine blk_far ?_ NB101_105.out _; refine zk ?_; exact BK101.out⟩, ⟨by refine zk ?_; refine blk_far ?_ NB102_105.out _; refine zk ?_; refine blk_far ?_ NB102_105.out _; refine zk ?_; refine blk_far ?_ NB102_105.out _; refine zk ?_; refine blk_far ?_ NB102_105.out _; refine zk ?_; refine blk_far ?_ NB102_105.out _; refine zk ?_; exact BK102.out⟩, ⟨by repeat (first | (with_reducible first | exact HB.out | apply below_alloc | apply pw_below_drewN | apply below_drew1 | refine below_set ?_ GE101.out | refine below_set ?_ GE102.out | refine below_set ?_ GE105.out) | exact HB.out)⟩⟩
                · rw [if_neg c16] at H
                  have c16b0 : (((rd_T94 l0_0 x10_1).f3).toList == a2.toList) = false := beq_eq_false_iff_ne.mpr c16
                  have c16b1 : (((rd_T94 l0_0 x10_1).f3).toList != a2.toList) = true := bne_iff_ne.mpr c16
                  have H' := Aside0.mk H
                  clear H
                  have hnb30 := NB101_102.out
                  have hnc30 := NB102_101.out
                  have hcz31_0 : wr.cell? ⟨gb101, 0, none⟩ = some (.slice A0_0 l0_0.length c0_0) := (blk_cell BK101.out 0).trans rfl
                  have hfz31_0 := blk_frozen BK101.out 0
                  have p104 : 0 ≤ (x10_1 : Int) := of_decide_eq_true (by first | (with_reducible assumption) | assumption)
                  have q104 : x10_1 < (l0_0.length : Int) := of_decide_eq_true (by first | (with_reducible assumption) | assumption)
                  obtain ⟨ad104, A104_0, c104_0, e104, hx104_0, hx104_1, hx104_2, hx104_3, hx104_4, hl104_0, hi104_0⟩ := at_T94 HR0_0.out x10_1 p104 q104
                  (try rw [← Nbq13.out] at hx104_1)
                  cases e104
                  replace hx104_0 := (HB.out.cell (World.block_lt_of_cell? w _ hx104_0)).trans hx104_0
                  replace hx104_1 := (HB.out.cell (World.block_lt_of_cell? w _ hx104_1)).trans hx104_1
                  replace hx104_2 := (HB.out.cell (World.block_lt_of_cell? w _ hx104_2)).trans hx104_2
                  replace hx104_3 := (HB.out.cell (World.block_lt_of_cell? w _ hx104_3)).trans hx104_3
                  replace hx104_4 := (HB.out.cell (World.block_lt_of_cell? w _ hx104_4)).trans hx104_4
                  have HR104_0 := Aside0.mk hi104_0
                  have HC104_0 := Aside0.mk hl104_0
                  clear hi104_0 hl104_0
                  replace p104 := eq_true p104
                  replace q104 := eq_true q104
                  go_wp2_with (first | ((with_reducible refine gate_dst (N := 11) rfl ?_); refine box_event ?hg (N := 11) ?hd (cs := #[.slice none 0 0, .bool false, .int .i64 0, .string (⟨#[]⟩ : ByteArray), .int .i64 0]) (t := 94) ?hr ?_; (case hd => rfl); (case hg => rfl); (case hr => first | (go_simp; done) | (go_simp; rfl)); intro gb105 hg w32 hbox hb; have n0_ := Aside0.mk (blk_below (zk BK101.out) hb); have n1_ := Aside0.mk (blk_below (zk BK102.out) hb); have n2_ := Aside0.mk (below_step (by repeat (first | (with_reducible first | exact HB.out | apply below_alloc | apply pw_below_drewN | apply below_drew1 | refine below_set ?_ GE101.out | refine below_set ?_ GE102.out) | exact HB.out)) hb); have n3_ := Aside0.mk (hbox); have n4_ := Aside0.mk ((by rw [hg]; exact (below_size (by repeat (first | (with_reducible first | exact HB.out | apply below_alloc | apply pw_below_drewN | apply below_drew1 | refine below_set ?_ GE101.out | refine below_set ?_ GE102.out) | exact HB.out))) : w.heap.size ≤ gb105)); have n5_ := n4_; have n6_ := Aside0.mk ((by rw [hg]; exact Nat.ne_of_lt (blk_lt (zk BK101.out)) : gb101 ≠ gb105)); have n7_ := Aside0.mk ((by rw [hg]; exact Nat.ne_of_gt (blk_lt (zk BK101.out)) : gb105 ≠ gb101)); have n8_ := Aside0.mk ((by rw [hg]; exact Nat.ne_of_lt (blk_lt (zk BK102.out)) : gb102 ≠ gb105)); have n9_ := Aside0.mk ((by rw [hg]; exact Nat.ne_of_gt (blk_lt (zk BK102.out)) : gb105 ≠ gb102)); clear BK101; clear BK102; clear HB; have BK101 := n0_; have BK102 := n1_; have HB := n2_; have BK105 := n3_; have GW105 := n4_; have GE105 := n5_; have NB101_105 := n6_; have NB105_101 := n7_; have NB102_105 := n8_; have NB105_102 := n9_; clear n0_ n1_ n2_ n3_ n4_ n5_ n6_ n7_ n8_ n9_; clear hb hbox hg; have hnb33 := NB105_101.out; have hnc33 := NB101_105.out; have hnb34 := NB105_102.out; have hnc34 := NB102_105.out; have hcz35_0 : w32.cell? ⟨gb105, 0, none⟩ = some (.slice none 0 0) := (blk_cell BK105.out 0).trans rfl; have hcz35_1 : w32.cell? ⟨gb105, 1, none⟩ = some (.bool false) := (blk_cell BK105.out 1).trans rfl; have hcz35_2 : w32.cell? ⟨gb105, 2, none⟩ = some (.int .i64 0) := (blk_cell BK105.out 2).trans rfl; have hcz35_3 : w32.cell? ⟨gb105, 3, none⟩ = some (.string (⟨#[]⟩ : ByteArray)) := (blk_cell BK105.out 3).trans rfl; have hcz35_4 : w32.cell? ⟨gb105, 4, none⟩ = some (.int .i64 0) := (blk_cell BK105.out 4).trans rfl; have hfz35_0 := blk_frozen BK105.out 0; have hfz35_1 := blk_frozen BK105.out 1; have hfz35_2 := blk_frozen BK105.out 2; have hfz35_3 := blk_frozen BK105.out 3; have hfz35_4 := blk_frozen BK105.out 4))
                  go_roundg k1
                  case measure => have := HK1.out; omega
                  case rel => exact ⟨(x9_1), (wrap64 (x10_1 + 1)), (by first | rfl | (simp; done) | (generalize ByteArray.toList _ = l_; cases l_ <;> rfl) | (simp [*]; done)), (by first | rfl | (simp; done) | (generalize ByteArray.toList _ = l_; cases l_ <;> rfl) | (simp [*]; done)), H', ⟨by have := HK1.out; omega⟩, ⟨by refine zk ?_; refine blk_far ?_ NB101_105.out _; refine zk ?_; refine blk_far ?_ NB101_105.out _; refine zk ?_; refine blk_far ?_ NB101_105.out _; refine zk ?_; refine blk_far ?_ NB101_105.out _; refine zk ?_; refine blk_far ?_ NB101_105.out _; refine zk ?_; exact BK101.out⟩, ⟨by refine zk ?_; refine blk_far ?_ NB102_105.out _; refine zk ?_; refine blk_far ?_ NB102_105.out _; refine zk ?_; refine blk_far ?_ NB102_105.out _; refine zk ?_; refine blk_far ?_ NB102_105.out _; refine zk ?_; refine blk_far ?_ NB102_105.out _; refine zk ?_; exact BK102.out⟩, ⟨by repeat (first | (with_reducible first | exact HB.out | apply below_alloc | apply pw_below_drewN | apply below_drew1 | refine below_set ?_ GE101.out | refine below_set ?_ GE102.out | refine below_set ?_ GE105.out) | exact HB.out)⟩⟩
              · rw [if_neg c15] at H
                have c15b0 : (((rd_T94 l0_0 x10_1).f2) == a1) = false := beq_eq_false_iff_ne.mpr c15
                have c15b1 : (((rd_T94 l0_0 x10_1).f2) != a1) = true := bne_iff_ne.mpr c15
                have H' := Aside0.mk H
                clear H
                have hnb36 := NB101_102.out
                have hnc36 := NB102_101.out
                have hcz37_0 : wr.cell? ⟨gb101, 0, none⟩ = some (.slice A0_0 l0_0.length c0_0) := (blk_cell BK101.out 0).trans rfl
                have hfz37_0 := blk_frozen BK101.out 0
                have p104 : 0 ≤ (x10_1 : Int) := of_decide_eq_true (by first | (with_reducible assumption) | assumption)
                have q104 : x10_1 < (l0_0.length : Int) := of_decide_eq_true (by first | (with_reducible assumption) | assumption)
                obtain ⟨ad104, A104_0, c104_0, e104, hx104_0, hx104_1, hx104_2, hx104_3, hx104_4, hl104_0, hi104_0⟩ := at_T94 HR0_0.out x10_1 p104 q104
                (try rw [← Nbq13.out] at hx104_1)
                cases e104
                replace hx104_0 := (HB.out.cell (World.block_lt_of_cell? w _ hx104_0)).trans hx104_0
                replace hx104_1 := (HB.out.cell (World.block_lt_of_cell? w _ hx104_1)).trans hx104_1
                replace hx104_2 := (HB.out.cell (World.block_lt_of_cell? w _ hx104_2)).trans hx104_2
                replace hx104_3 := (HB.out.cell (World.block_lt_of_cell? w _ hx104_3)).trans hx104_3
                replace hx104_4 := (HB.out.cell (World.block_lt_of_cell? w _ hx104_4)).trans hx104_4
                have HR104_0 := Aside0.mk hi104_0
                have HC104_0 := Aside0.mk hl104_0
                clear hi104_0 hl104_0
                replace p104 := eq_true p104
                replace q104 := eq_true q104
                go_wp2_with (first | ((with_reducible refine gate_dst (N := 11) rfl ?_); refine box_event ?hg (N := 11) ?hd (cs := #[.slice none 0 0, .bool false, .int .i64 0, .string (⟨#[]⟩ : ByteArray), .int .i64 0]) (t := 94) ?hr ?_; (case hd => rfl); (case hg => rfl); (case hr => first | (go_simp; done) | (go_simp; rfl)); intro gb105 hg w38 hbox hb; have n0_ := Aside0.mk (blk_below (zk BK101.out) hb); have n1_ := Aside0.mk (blk_below (zk BK102.out) hb); have n2_ := Aside0.mk (below_step (by repeat (first | (with_reducible first | exact HB.out | apply below_alloc | apply pw_below_drewN | apply below_drew1 | refine below_set ?_ GE101.out | refine below_set ?_ GE102.out) | exact HB.out)) hb); have n3_ := Aside0.mk (hbox); have n4_ := Aside0.mk ((by rw [hg]; exact (below_size (by repeat (first | (with_reducible first | exact HB.out | apply below_alloc | apply pw_below_drewN | apply below_drew1 | refine below_set ?_ GE101.out | refine below_set ?_ GE102.out) | exact HB.out))) : w.heap.size ≤ gb105)); have n5_ := n4_; have n6_ := Aside0.mk ((by rw [hg]; exact Nat.ne_of_lt (blk_lt (zk BK101.out)) : gb101 ≠ gb105)); have n7_ := Aside0.mk ((by rw [hg]; exact Nat.ne_of_gt (blk_lt (zk BK101.out)) : gb105 ≠ gb101)); have n8_ := Aside0.mk ((by rw [hg]; exact Nat.ne_of_lt (blk_lt (zk BK102.out)) : gb102 ≠ gb105)); have n9_ := Aside0.mk ((by rw [hg]; exact Nat.ne_of_gt (blk_lt (zk BK102.out)) : gb105 ≠ gb102)); clear BK101; clear BK102; clear HB; have BK101 := n0_; have BK102 := n1_; have HB := n2_; have BK105 := n3_; have GW105 := n4_; have GE105 := n5_; have NB101_105 := n6_; have NB105_101 := n7_; have NB102_105 := n8_; have NB105_102 := n9_; clear n0_ n1_ n2_ n3_ n4_ n5_ n6_ n7_ n8_ n9_; clear hb hbox hg; have hnb39 := NB105_101.out; have hnc39 := NB101_105.out; have hnb40 := NB105_102.out; have hnc40 := NB102_105.out; have hcz41_0 : w38.cell? ⟨gb105, 0, none⟩ = some (.slice none 0 0) := (blk_cell BK105.out 0).trans rfl; have hcz41_1 : w38.cell? ⟨gb105, 1, none⟩ = some (.bool false) := (blk_cell BK105.out 1).trans rfl; have hcz41_2 : w38.cell? ⟨gb105, 2, none⟩ = some (.int .i64 0) := (blk_cell BK105.out 2).trans rfl; have hcz41_3 : w38.cell? ⟨gb105, 3, none⟩ = some (.string (⟨#[]⟩ : ByteArray)) := (blk_cell BK105.out 3).trans rfl; have hcz41_4 : w38.cell? ⟨gb105, 4, none⟩ = some (.int .i64 0) := (blk_cell BK105.out 4).trans rfl; have hfz41_0 := blk_frozen BK105.out 0; have hfz41_1 := blk_frozen BK105.out 1; have hfz41_2 := blk_frozen BK105.out 2; have hfz41_3 := blk_frozen BK105.out 3; have hfz41_4 := blk_frozen BK105.out 4))
                go_roundg k1
                case measure => have := HK1.out; omega
                case rel => exact ⟨(x9_1), (wrap64 (x10_1 + 1)), (by first | rfl | (simp; done) | (generalize ByteArray.toList _ = l_; cases l_ <;> rfl) | (simp [*]; done)), (by first | rfl | (simp; done) | (generalize ByteArray.toList _ = l_; cases l_ <;> rfl) | (simp [*]; done)), H', ⟨by have := HK1.out; omega⟩, ⟨by refine zk ?_; refine blk_far ?_ NB101_105.out _; refine zk ?_; refine blk_far ?_ NB101_105.out _; refine zk ?_; refine blk_far ?_ NB101_105.out _; refine zk ?_; refine blk_far ?_ NB101_105.out _; refine zk ?_; refine blk_far ?_ NB101_105.out _; refine zk ?_; exact BK101.out⟩, ⟨by refine zk ?_; refine blk_far ?_ NB102_105.out _; refine zk ?_; refine blk_far ?_ NB102_105.out _; refine zk ?_; refine blk_far ?_ NB102_105.out _; refine zk ?_; refine blk_far ?_ NB102_105.out _; refine zk ?_; refine blk_far ?_ NB102_105.out _; refine zk ?_; exact BK102.out⟩, ⟨by repeat (first | (with_reducible first | exact HB.out | apply below_alloc | apply pw_below_drewN | apply below_drew1 | refine below_set ?_ GE101.out | refine below_set ?_ GE102.out | refine below_set ?_ GE105.out) | exact HB.out)⟩⟩
            · replace c14 := Bool.eq_false_iff.mpr c14
              subst c14
              have H1 : (ironbarkref20_Meet.l0 k1 a1 a2 x9_1 (wrap64 (x10_1 + 1)) l0_0) = some (r1, r2, r3, r4, r5) := by rw [if_neg (show ¬ (false = true) by decide)] at H; exact H
              clear H
              have H := H1
              clear H1
              have H' := Aside0.mk H
              clear H
              have hnb42 := NB101_102.out
              have hnc42 := NB102_101.out
              have hcz43_0 : wr.cell? ⟨gb101, 0, none⟩ = some (.slice A0_0 l0_0.length c0_0) := (blk_cell BK101.out 0).trans rfl
              have hfz43_0 := blk_frozen BK101.out 0
              have p104 : 0 ≤ (x10_1 : Int) := of_decide_eq_true (by first | (with_reducible assumption) | assumption)
              have q104 : x10_1 < (l0_0.length : Int) := of_decide_eq_true (by first | (with_reducible assumption) | assumption)
              obtain ⟨ad104, A104_0, c104_0, e104, hx104_0, hx104_1, hx104_2, hx104_3, hx104_4, hl104_0, hi104_0⟩ := at_T94 HR0_0.out x10_1 p104 q104
              (try rw [← Nbq13.out] at hx104_1)
              cases e104
              replace hx104_0 := (HB.out.cell (World.block_lt_of_cell? w _ hx104_0)).trans hx104_0
              replace hx104_1 := (HB.out.cell (World.block_lt_of_cell? w _ hx104_1)).trans hx104_1
              replace hx104_2 := (HB.out.cell (World.block_lt_of_cell? w _ hx104_2)).trans hx104_2
              replace hx104_3 := (HB.out.cell (World.block_lt_of_cell? w _ hx104_3)).trans hx104_3
              replace hx104_4 := (HB.out.cell (World.block_lt_of_cell? w _ hx104_4)).trans hx104_4
              have HR104_0 := Aside0.mk hi104_0
              have HC104_0 := Aside0.mk hl104_0
              clear hi104_0 hl104_0
              replace p104 := eq_true p104
              replace q104 := eq_true q104
              go_wp2_with (first | ((with_reducible refine gate_dst (N := 11) rfl ?_); refine box_event ?hg (N := 11) ?hd (cs := #[.slice none 0 0, .bool false, .int .i64 0, .string (⟨#[]⟩ : ByteArray), .int .i64 0]) (t := 94) ?hr ?_; (case hd => rfl); (case hg => rfl); (case hr => first | (go_simp; done) | (go_simp; rfl)); intro gb105 hg w44 hbox hb; have n0_ := Aside0.mk (blk_below (zk BK101.out) hb); have n1_ := Aside0.mk (blk_below (zk BK102.out) hb); have n2_ := Aside0.mk (below_step (by repeat (first | (with_reducible first | exact HB.out | apply below_alloc | apply pw_below_drewN | apply below_drew1 | refine below_set ?_ GE101.out | refine below_set ?_ GE102.out) | exact HB.out)) hb); have n3_ := Aside0.mk (hbox); have n4_ := Aside0.mk ((by rw [hg]; exact (below_size (by repeat (first | (with_reducible first | exact HB.out | apply below_alloc | apply pw_below_drewN | apply below_drew1 | refine below_set ?_ GE101.out | refine below_set ?_ GE102.out) | exact HB.out))) : w.heap.size ≤ gb105)); have n5_ := n4_; have n6_ := Aside0.mk ((by rw [hg]; exact Nat.ne_of_lt (blk_lt (zk BK101.out)) : gb101 ≠ gb105)); have n7_ := Aside0.mk ((by rw [hg]; exact Nat.ne_of_gt (blk_lt (zk BK101.out)) : gb105 ≠ gb101)); have n8_ := Aside0.mk ((by rw [hg]; exact Nat.ne_of_lt (blk_lt (zk BK102.out)) : gb102 ≠ gb105)); have n9_ := Aside0.mk ((by rw [hg]; exact Nat.ne_of_gt (blk_lt (zk BK102.out)) : gb105 ≠ gb102)); clear BK101; clear BK102; clear HB; have BK101 := n0_; have BK102 := n1_; have HB := n2_; have BK105 := n3_; have GW105 := n4_; have GE105 := n5_; have NB101_105 := n6_; have NB105_101 := n7_; have NB102_105 := n8_; have NB105_102 := n9_; clear n0_ n1_ n2_ n3_ n4_ n5_ n6_ n7_ n8_ n9_; clear hb hbox hg; have hnb45 := NB105_101.out; have hnc45 := NB101_105.out; have hnb46 := NB105_102.out; have hnc46 := NB102_105.out; have hcz47_0 : w44.cell? ⟨gb105, 0, none⟩ = some (.slice none 0 0) := (blk_cell BK105.out 0).trans rfl; have hcz47_1 : w44.cell? ⟨gb105, 1, none⟩ = some (.bool false) := (blk_cell BK105.out 1).trans rfl; have hcz47_2 : w44.cell? ⟨gb105, 2, none⟩ = some (.int .i64 0) := (blk_cell BK105.out 2).trans rfl; have hcz47_3 : w44.cell? ⟨gb105, 3, none⟩ = some (.string (⟨#[]⟩ : ByteArray)) := (blk_cell BK105.out 3).trans rfl; have hcz47_4 : w44.cell? ⟨gb105, 4, none⟩ = some (.int .i64 0) := (blk_cell BK105.out 4).trans rfl; have hfz47_0 := blk_frozen BK105.out 0; have hfz47_1 := blk_frozen BK105.out 1; have hfz47_2 := blk_frozen BK105.out 2; have hfz47_3 := blk_frozen BK105.out 3; have hfz47_4 := blk_frozen BK105.out 4))
              go_roundg k1
              case measure => have := HK1.out; omega
              case rel => exact ⟨(x9_1), (wrap64 (x10_1 + 1)), (by first | rfl | (simp; done) | (generalize ByteArray.toList _ = l_; cases l_ <;> rfl) | (simp [*]; done)), (by first | rfl | (simp; done) | (generalize ByteArray.toList _ = l_; cases l_ <;> rfl) | (simp [*]; done)), H', ⟨by have := HK1.out; omega⟩, ⟨by refine zk ?_; refine blk_far ?_ NB101_105.out _; refine zk ?_; refine blk_far ?_ NB101_105.out _; refine zk ?_; refine blk_far ?_ NB101_105.out _; refine zk ?_; refine blk_far ?_ NB101_105.out _; refine zk ?_; refine blk_far ?_ NB101_105.out _; refine zk ?_; exact BK101.out⟩, ⟨by refine zk ?_; refine blk_far ?_ NB102_105.out _; refine zk ?_; refine blk_far ?_ NB102_105.out _; refine zk ?_; refine blk_far ?_ NB102_105.out _; refine zk ?_; refine blk_far ?_ NB102_105.out _; refine zk ?_; refine blk_far ?_ NB102_105.out _; refine zk ?_; exact BK102.out⟩, ⟨by repeat (first | (with_reducible first | exact HB.out | apply below_alloc | apply pw_below_drewN | apply below_drew1 | refine below_set ?_ GE101.out | refine below_set ?_ GE102.out | refine below_set ?_ GE105.out) | exact HB.out)⟩⟩
          · rw [if_neg c12] at H
            exact absurd H (by simp)
        · rw [if_neg c11] at H
          have c11b0 : decide (x10_1 < (l0_0.length : Int)) = false := decide_eq_false c11
          clear c11
          have H' := Aside0.mk H
          clear H
          have hnb48 := NB101_102.out
          have hnc48 := NB102_101.out
          have hcz49_0 : wr.cell? ⟨gb101, 0, none⟩ = some (.slice A0_0 l0_0.length c0_0) := (blk_cell BK101.out 0).trans rfl
          have hfz49_0 := blk_frozen BK101.out 0
          go_wp2
          go_loopg [12] k1 (fun kq v12 w' => ∃ (x12_2 : Int) (x103000_2 : Int) (x103001_2 : ByteArray) (x103002_2 : Int), v12 = .int .i64 x12_2 ∧ Aside0 (ironbarkref20_Meet.l1 kq a1 a2 x12_2 l0_0 = some (r1, r2, r3, r4, r5)) ∧ Aside0 (kq ≤ k1) ∧ Aside0 (w'.heap[gb101]? = some (.cells #[(.slice A0_0 l0_0.length c0_0)] 55 (0, 0))) ∧ Aside0 (w'.heap[gb102]? = some (.cells #[.int .i64 x103000_2, .string x103001_2, .int .i64 x103002_2] 24 (0, 0))) ∧ Aside0 (Below w.heap.size w w'))
          case atStart => exact ⟨(wrap64 (x9_1 - 1)), (0), ((⟨#[]⟩ : ByteArray)), (0), (by first | rfl | (simp; done) | (generalize ByteArray.toList _ = l_; cases l_ <;> rfl) | (simp [*]; done)), H', ⟨Nat.le_refl _⟩, ⟨zk BK101.out⟩, ⟨zk BK102.out⟩, ⟨by repeat (first | (with_reducible first | exact HB.out | apply below_alloc | apply pw_below_drewN | apply below_drew1 | refine below_set ?_ GE101.out | refine below_set ?_ GE102.out) | exact HB.out)⟩⟩
          case round =>
            clear H'
            try clear c1
            try clear p1
            try clear q1
            try clear hx1
            try clear c2
            try clear p2
            try clear c3
            try clear c4
            try clear c5
            try clear p6
            try clear c9
            try clear c10
            try clear p10
            try clear q10
            try clear hx10
            try clear c11
            try clear c11b0
            try clear c12
            try clear c12b0
            try clear q13
            try clear c14
            try clear c15
            try clear c15b0
            try clear c15b1
            try clear c16
            try clear c16b0
            try clear c16b1
            try clear c17
            try clear c17b0
            try clear c18
            try clear c21
            try clear c22
            try clear c24
            try clear c27
            try clear c28
            try clear c30
            try clear c33
            try clear c34
            try clear c36
            try clear c39
            try clear c40
            try clear c42
            try clear c44
            try clear c45
            try clear c46
            try clear c48
            try clear c49
            try clear hcz10_0
            try clear hcz19_0
            try clear hcz23_0 hcz23_1 hcz23_2 hcz23_3 hcz23_4
            try clear hcz25_0
            try clear hcz29_0 hcz29_1 hcz29_2 hcz29_3 hcz29_4
            try clear hcz31_0
            try clear hcz35_0 hcz35_1 hcz35_2 hcz35_3 hcz35_4
            try clear hcz37_0
            try clear hcz41_0 hcz41_1 hcz41_2 hcz41_3 hcz41_4
            try clear hcz43_0
            try clear hcz47_0 hcz47_1 hcz47_2 hcz47_3 hcz47_4
            try clear hcz49_0
            try clear hfz10_0
            try clear hfz19_0
            try clear hfz23_0 hfz23_1 hfz23_2 hfz23_3 hfz23_4
            try clear hfz25_0
            try clear hfz29_0 hfz29_1 hfz29_2 hfz29_3 hfz29_4
            try clear hfz31_0
            try clear hfz35_0 hfz35_1 hfz35_2 hfz35_3 hfz35_4
            try clear hfz37_0
            try clear hfz41_0 hfz41_1 hfz41_2 hfz41_3 hfz41_4
            try clear hfz43_0
            try clear hfz47_0 hfz47_1 hfz47_2 hfz47_3 hfz47_4
            try clear hfz49_0
            try clear hx104_0
            try clear hx104_1
            try clear hx104_2
            try clear hx104_3
            try clear hx104_4
            try clear p104
            try clear p2
            try clear q104
            obtain ⟨x12_2, x103000_2, x103001_2, x103002_2, rfl, HA, HK2, BK101, BK102, HB⟩ := hrel
            cases gk with
            | zero => exact absurd HA.out (by simp [ironbarkref20_Meet.l1])
            | succ k2 =>
              have H := HA.out
              clear HA
              simp only [ironbarkref20_Meet.l1] at H
              by_cases c50 : x12_2 ≥ 0
              · rw [if_pos c50] at H
                have c50b0 : decide (0 ≤ x12_2) = true := decide_eq_true c50
                clear c50
                by_cases c51 : 0 ≤ x12_2
                · rw [if_pos c51] at H
                  have c51b0 : decide (0 ≤ x12_2) = true := decide_eq_true c51
                  clear c51
                  by_cases c52 : x12_2 < (l0_0.length : Int)
                  · rw [if_pos c52] at H
                    have c52b0 : decide (x12_2 < (l0_0.length : Int)) = true := decide_eq_true c52
                    clear c52
                    replace H := Option.bind_eq_some_iff.mp H
                    obtain ⟨⟨t107, t108, t109, t110⟩, A530, H⟩ := H
                    replace H : (if t110 = true then (some (t107, t108, t109, x12_2, 0)) else (ironbarkref20_Meet.l1 k2 a1 a2 (wrap64 (x12_2 - 1)) l0_0)) = some (r1, r2, r3, r4, r5) := H
                    have A53 := Aside0.mk A530
                    clear A530
                    by_cases c54 : t110 = true
                    · subst c54
                      have H1 : (some (t107, t108, t109, x12_2, 0)) = some (r1, r2, r3, r4, r5) := by rw [if_pos rfl] at H; exact H
                      clear H
                      have H := H1
                      clear H1
                      simp only [Option.some.injEq, Prod.mk.injEq] at H
                      obtain ⟨rfl, rfl, rfl, rfl, rfl⟩ := H
                      have hnb55 := NB101_102.out
                      have hnc55 := NB102_101.out
                      have hcz56_0 : wr.cell? ⟨gb101, 0, none⟩ = some (.slice A0_0 l0_0.length c0_0) := (blk_cell BK101.out 0).trans rfl
                      have hfz56_0 := blk_frozen BK101.out 0
                      have p106 : 0 ≤ (x12_2 : Int) := of_decide_eq_true (by first | (with_reducible assumption) | assumption)
                      have q106 : x12_2 < (l0_0.length : Int) := of_decide_eq_true (by first | (with_reducible assumption) | assumption)
                      obtain ⟨ad106, A106_0, c106_0, e106, hx106_0, hx106_1, hx106_2, hx106_3, hx106_4, hl106_0, hi106_0⟩ := at_T94 HR0_0.out x12_2 p106 q106
                      cases e106
                      replace hx106_0 := (HB.out.cell (World.block_lt_of_cell? w _ hx106_0)).trans hx106_0
                      replace hx106_1 := (HB.out.cell (World.block_lt_of_cell? w _ hx106_1)).trans hx106_1
                      replace hx106_2 := (HB.out.cell (World.block_lt_of_cell? w _ hx106_2)).trans hx106_2
                      replace hx106_3 := (HB.out.cell (World.block_lt_of_cell? w _ hx106_3)).trans hx106_3
                      replace hx106_4 := (HB.out.cell (World.block_lt_of_cell? w _ hx106_4)).trans hx106_4
                      have HR106_0 := Aside0.mk hi106_0
                      have HC106_0 := Aside0.mk hl106_0
                      clear hi106_0 hl106_0
                      replace p106 := eq_true p106
                      replace q106 := eq_true q106
                      go_wp2_with (first | ((with_reducible refine gate_callee (f := 66) rfl ?_); refine goesL_ (some 71) rfl rfl Try.func66 (by kernel_rfl) rfl #[.agg #[.slice A106_0 ((rd_T94 l0_0 x12_2).f0).length c106_0, .bool ((rd_T94 l0_0 x12_2).f1), .int .i64 ((rd_T94 l0_0 x12_2).f2), .string ((rd_T94 l0_0 x12_2).f3), .int .i64 ((rd_T94 l0_0 x12_2).f4)], .int .i64 a1, .string a2] rfl (by (try simp only [List.map_toArray, List.map_cons, List.map_nil]); first | done | rfl | (simp only [List.length_drop, List.length_take]; rfl)) ?_; (with_reducible refine (ironbarkref20_of.calls k2 _ _ ((rd_T94 l0_0 x12_2).f0) ((rd_T94 l0_0 x12_2).f1) ((rd_T94 l0_0 x12_2).f2) ((rd_T94 l0_0 x12_2).f3) ((rd_T94 l0_0 x12_2).f4) a1 a2 t107 t108 t109 true _ ?side1 ?side2 A53.out).mono ?_); (case side1 => repeat (first | exact (Kd.C_below HR106_0.out HB.out) | (with_reducible refine Kd.C_alloc ?_ _) | (with_reducible refine Kd.C_drewN ?_ _) | (with_reducible refine Kd.C_drew ?_))); (case side2 => exact HC106_0.out); rintro e w57 ⟨rfl, hb⟩; refine ⟨_, rfl, ?_⟩; have n0_ := Aside0.mk (blk_below (zk BK101.out) hb); have n1_ := Aside0.mk (blk_below (zk BK102.out) hb); have n2_ := Aside0.mk (below_step (by repeat (first | (with_reducible first | exact HB.out | apply below_alloc | apply pw_below_drewN | apply below_drew1 | refine below_set ?_ GE101.out | refine below_set ?_ GE102.out) | exact HB.out)) hb); clear BK101; clear BK102; clear HB; have BK101 := n0_; have BK102 := n1_; have HB := n2_; clear n0_ n1_ n2_; (try clear hb); (try clear hb2); (try clear hk); (try clear hi)) | ((with_reducible refine gate_dst (N := 13) rfl ?_); refine box_event ?hg (N := 13) ?hd (cs := #[.int .i64 0, .string (⟨#[]⟩ : ByteArray), .int .i64 0]) (t := 24) ?hr ?_; (case hd => rfl); (case hg => rfl); (case hr => first | (go_simp; done) | (go_simp; rfl)); intro gb111 hg w58 hbox hb; have n0_ := Aside0.mk (blk_below (zk BK101.out) hb); have n1_ := Aside0.mk (blk_below (zk BK102.out) hb); have n2_ := Aside0.mk (below_step (by repeat (first | (with_reducible first | exact HB.out | apply below_alloc | apply pw_below_drewN | apply below_drew1 | refine below_set ?_ GE101.out | refine below_set ?_ GE102.out) | exact HB.out)) hb); have n3_ := Aside0.mk (hbox); have n4_ := Aside0.mk ((by rw [hg]; exact (below_size (by repeat (first | (with_reducible first | exact HB.out | apply below_alloc | apply pw_below_drewN | apply below_drew1 | refine below_set ?_ GE101.out | refine below_set ?_ GE102.out) | exact HB.out))) : w.heap.size ≤ gb111)); have n5_ := n4_; have n6_ := Aside0.mk ((by rw [hg]; exact Nat.ne_of_lt (blk_lt (zk BK101.out)) : gb101 ≠ gb111)); have n7_ := Aside0.mk ((by rw [hg]; exact Nat.ne_of_gt (blk_lt (zk BK101.out)) : gb111 ≠ gb101)); have n8_ := Aside0.mk ((by rw [hg]; exact Nat.ne_of_lt (blk_lt (zk BK102.out)) : gb102 ≠ gb111)); have n9_ := Aside0.mk ((by rw [hg]; exact Nat.ne_of_gt (blk_lt (zk BK102.out)) : gb111 ≠ gb102)); clear BK101; clear BK102; clear HB; have BK101 := n0_; have BK102 := n1_; have HB := n2_; have BK111 := n3_; have GW111 := n4_; have GE111 := n5_; have NB101_111 := n6_; have NB111_101 := n7_; have NB102_111 := n8_; have NB111_102 := n9_; clear n0_ n1_ n2_ n3_ n4_ n5_ n6_ n7_ n8_ n9_; clear hb hbox hg; have hnb59 := NB111_101.out; have hnc59 := NB101_111.out; have hnb60 := NB111_102.out; have hnc60 := NB102_111.out; have hcz61_0 : w58.cell? ⟨gb111, 0, none⟩ = some (.int .i64 0) := (blk_cell BK111.out 0).trans rfl; have hcz61_1 : w58.cell? ⟨gb111, 1, none⟩ = some (.string (⟨#[]⟩ : ByteArray)) := (blk_cell BK111.out 1).trans rfl; have hcz61_2 : w58.cell? ⟨gb111, 2, none⟩ = some (.int .i64 0) := (blk_cell BK111.out 2).trans rfl; have hfz61_0 := blk_frozen BK111.out 0; have hfz61_1 := blk_frozen BK111.out 1; have hfz61_2 := blk_frozen BK111.out 2; have hcz62_0 : w58.cell? ⟨gb102, 0, none⟩ = some (.int .i64 x103000_2) := (blk_cell BK102.out 0).trans rfl; have hcz62_1 : w58.cell? ⟨gb102, 1, none⟩ = some (.string x103001_2) := (blk_cell BK102.out 1).trans rfl; have hcz62_2 : w58.cell? ⟨gb102, 2, none⟩ = some (.int .i64 x103002_2) := (blk_cell BK102.out 2).trans rfl; have hfz62_0 := blk_frozen BK102.out 0; have hfz62_1 := blk_frozen BK102.out 1; have hfz62_2 := blk_frozen BK102.out 2))
                      refine bodyPost_ret (results_ctt rfl _ _ gb102 24 #[.int .i64 t107, .string t108, .int .i64 t109] (0, 0) _ rfl (by refine zk ?_; refine blk_put (cs := #[.int .i64 t107, .string t108, .int .i64 x103002_2]) ?_ 2 _ rfl; refine zk ?_; refine blk_put (cs := #[.int .i64 t107, .string x103001_2, .int .i64 x103002_2]) ?_ 1 _ rfl; refine zk ?_; refine blk_put (cs := #[.int .i64 x103000_2, .string x103001_2, .int .i64 x103002_2]) ?_ 0 _ rfl; refine zk ?_; refine blk_far ?_ NB102_111.out _; refine zk ?_; refine blk_far ?_ NB102_111.out _; refine zk ?_; refine blk_far ?_ NB102_111.out _; refine zk ?_; exact BK102.out) Try.underlying24 rfl (by kernel_rfl)) rfl ?_
                      exact ⟨by first | rfl | (simp [errW_none, errW_some] <;> rfl) | (simp [*, errW_none, errW_some] <;> rfl), by repeat (first | (with_reducible first | exact HB.out | apply below_alloc | apply pw_below_drewN | apply below_drew1 | refine below_set ?_ GE101.out | refine below_set ?_ GE102.out | refine below_set ?_ GE111.out) | exact HB.out)⟩
                    · replace c54 := Bool.eq_false_iff.mpr c54
                      subst c54
                      have H1 : (ironbarkref20_Meet.l1 k2 a1 a2 (wrap64 (x12_2 - 1)) l0_0) = some (r1, r2, r3, r4, r5) := by rw [if_neg (show ¬ (false = true) by decide)] at H; exact H
                      clear H
                      have H := H1
                      clear H1
                      have H' := Aside0.mk H
                      clear H
                      have hnb63 := NB101_102.out
                      have hnc63 := NB102_101.out
                      have hcz64_0 : wr.cell? ⟨gb101, 0, none⟩ = some (.slice A0_0 l0_0.length c0_0) := (blk_cell BK101.out 0).trans rfl
                      have hfz64_0 := blk_frozen BK101.out 0
                      have p106 : 0 ≤ (x12_2 : Int) := of_decide_eq_true (by first | (with_reducible assumption) | assumption)
                      have q106 : x12_2 < (l0_0.length : Int) := of_decide_eq_true (by first | (with_reducible assumption) | assumption)
                      obtain ⟨ad106, A106_0, c106_0, e106, hx106_0, hx106_1, hx106_2, hx106_3, hx106_4, hl106_0, hi106_0⟩ := at_T94 HR0_0.out x12_2 p106 q106
                      cases e106
                      replace hx106_0 := (HB.out.cell (World.block_lt_of_cell? w _ hx106_0)).trans hx106_0
                      replace hx106_1 := (HB.out.cell (World.block_lt_of_cell? w _ hx106_1)).trans hx106_1
                      replace hx106_2 := (HB.out.cell (World.block_lt_of_cell? w _ hx106_2)).trans hx106_2
                      replace hx106_3 := (HB.out.cell (World.block_lt_of_cell? w _ hx106_3)).trans hx106_3
                      replace hx106_4 := (HB.out.cell (World.block_lt_of_cell? w _ hx106_4)).trans hx106_4
                      have HR106_0 := Aside0.mk hi106_0
                      have HC106_0 := Aside0.mk hl106_0
                      clear hi106_0 hl106_0
                      replace p106 := eq_true p106
                      replace q106 := eq_true q106
                      go_wp2_with (first | ((with_reducible refine gate_callee (f := 66) rfl ?_); refine goesL_ (some 71) rfl rfl Try.func66 (by kernel_rfl) rfl #[.agg #[.slice A106_0 ((rd_T94 l0_0 x12_2).f0).length c106_0, .bool ((rd_T94 l0_0 x12_2).f1), .int .i64 ((rd_T94 l0_0 x12_2).f2), .string ((rd_T94 l0_0 x12_2).f3), .int .i64 ((rd_T94 l0_0 x12_2).f4)], .int .i64 a1, .string a2] rfl (by (try simp only [List.map_toArray, List.map_cons, List.map_nil]); first | done | rfl | (simp only [List.length_drop, List.length_take]; rfl)) ?_; (with_reducible refine (ironbarkref20_of.calls k2 _ _ ((rd_T94 l0_0 x12_2).f0) ((rd_T94 l0_0 x12_2).f1) ((rd_T94 l0_0 x12_2).f2) ((rd_T94 l0_0 x12_2).f3) ((rd_T94 l0_0 x12_2).f4) a1 a2 t107 t108 t109 false _ ?side1 ?side2 A53.out).mono ?_); (case side1 => repeat (first | exact (Kd.C_below HR106_0.out HB.out) | (with_reducible refine Kd.C_alloc ?_ _) | (with_reducible refine Kd.C_drewN ?_ _) | (with_reducible refine Kd.C_drew ?_))); (case side2 => exact HC106_0.out); rintro e w65 ⟨rfl, hb⟩; refine ⟨_, rfl, ?_⟩; have n0_ := Aside0.mk (blk_below (zk BK101.out) hb); have n1_ := Aside0.mk (blk_below (zk BK102.out) hb); have n2_ := Aside0.mk (below_step (by repeat (first | (with_reducible first | exact HB.out | apply below_alloc | apply pw_below_drewN | apply below_drew1 | refine below_set ?_ GE101.out | refine below_set ?_ GE102.out) | exact HB.out)) hb); clear BK101; clear BK102; clear HB; have BK101 := n0_; have BK102 := n1_; have HB := n2_; clear n0_ n1_ n2_; (try clear hb); (try clear hb2); (try clear hk); (try clear hi)) | ((with_reducible refine gate_dst (N := 13) rfl ?_); refine box_event ?hg (N := 13) ?hd (cs := #[.int .i64 0, .string (⟨#[]⟩ : ByteArray), .int .i64 0]) (t := 24) ?hr ?_; (case hd => rfl); (case hg => rfl); (case hr => first | (go_simp; done) | (go_simp; rfl)); intro gb111 hg w66 hbox hb; have n0_ := Aside0.mk (blk_below (zk BK101.out) hb); have n1_ := Aside0.mk (blk_below (zk BK102.out) hb); have n2_ := Aside0.mk (below_step (by repeat (first | (with_reducible first | exact HB.out | apply below_alloc | apply pw_below_drewN | apply below_drew1 | refine below_set ?_ GE101.out | refine below_set ?_ GE102.out) | exact HB.out)) hb); have n3_ := Aside0.mk (hbox); have n4_ := Aside0.mk ((by rw [hg]; exact (below_size (by repeat (first | (with_reducible first | exact HB.out | apply below_alloc | apply pw_below_drewN | apply below_drew1 | refine below_set ?_ GE101.out | refine below_set ?_ GE102.out) | exact HB.out))) : w.heap.size ≤ gb111)); have n5_ := n4_; have n6_ := Aside0.mk ((by rw [hg]; exact Nat.ne_of_lt (blk_lt (zk BK101.out)) : gb101 ≠ gb111)); have n7_ := Aside0.mk ((by rw [hg]; exact Nat.ne_of_gt (blk_lt (zk BK101.out)) : gb111 ≠ gb101)); have n8_ := Aside0.mk ((by rw [hg]; exact Nat.ne_of_lt (blk_lt (zk BK102.out)) : gb102 ≠ gb111)); have n9_ := Aside0.mk ((by rw [hg]; exact Nat.ne_of_gt (blk_lt (zk BK102.out)) : gb111 ≠ gb102)); clear BK101; clear BK102; clear HB; have BK101 := n0_; have BK102 := n1_; have HB := n2_; have BK111 := n3_; have GW111 := n4_; have GE111 := n5_; have NB101_111 := n6_; have NB111_101 := n7_; have NB102_111 := n8_; have NB111_102 := n9_; clear n0_ n1_ n2_ n3_ n4_ n5_ n6_ n7_ n8_ n9_; clear hb hbox hg; have hnb67 := NB111_101.out; have hnc67 := NB101_111.out; have hnb68 := NB111_102.out; have hnc68 := NB102_111.out; have hcz69_0 : w66.cell? ⟨gb111, 0, none⟩ = some (.int .i64 0) := (blk_cell BK111.out 0).trans rfl; have hcz69_1 : w66.cell? ⟨gb111, 1, none⟩ = some (.string (⟨#[]⟩ : ByteArray)) := (blk_cell BK111.out 1).trans rfl; have hcz69_2 : w66.cell? ⟨gb111, 2, none⟩ = some (.int .i64 0) := (blk_cell BK111.out 2).trans rfl; have hfz69_0 := blk_frozen BK111.out 0; have hfz69_1 := blk_frozen BK111.out 1; have hfz69_2 := blk_frozen BK111.out 2))
                      go_roundg k2
                      case measure => have := HK1.out; have := HK2.out; omega
                      case rel => exact ⟨(wrap64 (x12_2 - 1)), (x103000_2), (x103001_2), (x103002_2), (by first | rfl | (simp; done) | (generalize ByteArray.toList _ = l_; cases l_ <;> rfl) | (simp [*]; done)), H', ⟨by have := HK1.out; have := HK2.out; omega⟩, ⟨by refine zk ?_; refine blk_far ?_ NB101_111.out _; refine zk ?_; refine blk_far ?_ NB101_111.out _; refine zk ?_; refine blk_far ?_ NB101_111.out _; refine zk ?_; exact BK101.out⟩, ⟨by refine zk ?_; refine blk_far ?_ NB102_111.out _; refine zk ?_; refine blk_far ?_ NB102_111.out _; refine zk ?_; refine blk_far ?_ NB102_111.out _; refine zk ?_; exact BK102.out⟩, ⟨by repeat (first | (with_reducible first | exact HB.out | apply below_alloc | apply pw_below_drewN | apply below_drew1 | refine below_set ?_ GE101.out | refine below_set ?_ GE102.out | refine below_set ?_ GE111.out) | exact HB.out)⟩⟩
                  · rw [if_neg c52] at H
                    exact absurd H (by simp)
                · rw [if_neg c51] at H
                  exact absurd H (by simp)
              · rw [if_neg c50] at H
                have c50b0 : decide (0 ≤ x12_2) = false := decide_eq_false c50
                clear c50
                simp only [Option.some.injEq, Prod.mk.injEq] at H
                obtain ⟨rfl, rfl, rfl, rfl, rfl⟩ := H
                have hnb70 := NB102_101.out
                have hnc70 := NB101_102.out
                have hcz71_0 : wr.cell? ⟨gb102, 0, none⟩ = some (.int .i64 x103000_2) := (blk_cell BK102.out 0).trans rfl
                have hcz71_1 : wr.cell? ⟨gb102, 1, none⟩ = some (.string x103001_2) := (blk_cell BK102.out 1).trans rfl
                have hcz71_2 : wr.cell? ⟨gb102, 2, none⟩ = some (.int .i64 x103002_2) := (blk_cell BK102.out 2).trans rfl
                have hfz71_0 := blk_frozen BK102.out 0
                have hfz71_1 := blk_frozen BK102.out 1
                have hfz71_2 := blk_frozen BK102.out 2
                go_wp2
                refine bodyPost_ret (results_ctt rfl _ _ gb102 24 #[.int .i64 0, .string (⟨#[]⟩ : ByteArray), .int .i64 0] (0, 0) _ rfl (by refine zk ?_; refine blk_put (cs := #[.int .i64 0, .string (⟨#[]⟩ : ByteArray), .int .i64 x103002_2]) ?_ 2 _ rfl; refine zk ?_; refine blk_put (cs := #[.int .i64 0, .string x103001_2, .int .i64 x103002_2]) ?_ 1 _ rfl; refine zk ?_; refine blk_put (cs := #[.int .i64 x103000_2, .string x103001_2, .int .i64 x103002_2]) ?_ 0 _ rfl; refine zk ?_; exact BK102.out) Try.underlying24 rfl (by kernel_rfl)) rfl ?_
                exact ⟨by first | rfl | (simp [errW_none, errW_some] <;> rfl) | (simp [*, errW_none, errW_some] <;> rfl), by repeat (first | (with_reducible first | exact HB.out | apply below_alloc | apply pw_below_drewN | apply below_drew1 | refine below_set ?_ GE101.out | refine below_set ?_ GE102.out) | exact HB.out)⟩
  · replace c5 := Bool.eq_false_iff.mpr c5
    subst c5
    have H1 : (some (0, (⟨#[]⟩ : ByteArray), 0, 0, 1)) = some (r1, r2, r3, r4, r5) := by rw [if_neg (show ¬ (false = true) by decide)] at H; exact H
    clear H
    have H := H1
    clear H1
    simp only [Option.some.injEq, Prod.mk.injEq] at H
    obtain ⟨rfl, rfl, rfl, rfl, rfl⟩ := H
    go_enter Try.func49, Try.ntmps49
    go_wp2_with (first | ((with_reducible refine gate_dst (N := 3) rfl ?_); refine box_event ?hg (N := 3) ?hd (cs := #[.slice A0_0 l0_0.length c0_0]) (t := 55) ?hr ?_; (case hd => rfl); (case hg => rfl); (case hr => first | (go_simp; done) | (go_simp; rfl)); intro gb101 hg w72 hbox hb; have n0_ := Aside0.mk (below_step (by repeat (first | (with_reducible first | exact HB.out | apply below_alloc | apply pw_below_drewN | apply below_drew1) | exact HB.out)) hb); have n1_ := Aside0.mk (hbox); have n2_ := Aside0.mk ((by rw [hg]; exact (below_size (by repeat (first | (with_reducible first | exact HB.out | apply below_alloc | apply pw_below_drewN | apply below_drew1) | exact HB.out))) : w.heap.size ≤ gb101)); have n3_ := n2_; clear HB; have HB := n0_; have BK101 := n1_; have GW101 := n2_; have GE101 := n3_; clear n0_ n1_ n2_ n3_; clear hb hbox hg) | ((with_reducible refine gate_dst (N := 6) rfl ?_); refine box_event ?hg (N := 6) ?hd (cs := #[.int .i64 0, .string (⟨#[]⟩ : ByteArray), .int .i64 0]) (t := 24) ?hr ?_; (case hd => rfl); (case hg => rfl); (case hr => first | (go_simp; done) | (go_simp; rfl)); intro gb102 hg w73 hbox hb; have n0_ := Aside0.mk (blk_below (zk BK101.out) hb); have n1_ := Aside0.mk (below_step (by repeat (first | (with_reducible first | exact HB.out | apply below_alloc | apply pw_below_drewN | apply below_drew1 | refine below_set ?_ GE101.out) | exact HB.out)) hb); have n2_ := Aside0.mk (hbox); have n3_ := Aside0.mk ((by rw [hg]; exact (below_size (by repeat (first | (with_reducible first | exact HB.out | apply below_alloc | apply pw_below_drewN | apply below_drew1 | refine below_set ?_ GE101.out) | exact HB.out))) : w.heap.size ≤ gb102)); have n4_ := n3_; have n5_ := Aside0.mk ((by rw [hg]; exact Nat.ne_of_lt (blk_lt (zk BK101.out)) : gb101 ≠ gb102)); have n6_ := Aside0.mk ((by rw [hg]; exact Nat.ne_of_gt (blk_lt (zk BK101.out)) : gb102 ≠ gb101)); clear BK101; clear HB; have BK101 := n0_; have HB := n1_; have BK102 := n2_; have GW102 := n3_; have GE102 := n4_; have NB101_102 := n5_; have NB102_101 := n6_; clear n0_ n1_ n2_ n3_ n4_ n5_ n6_; clear hb hbox hg) | ((with_reducible refine gate_callee (f := 44) rfl ?_); refine goesL_ (some 17) rfl rfl Try.func44 (by kernel_rfl) rfl #[.int .i64 a1, .string a2] rfl (by (try simp only [List.map_toArray, List.map_cons, List.map_nil]); first | done | rfl | (simp only [List.length_drop, List.length_take]; rfl)) ?_; (with_reducible refine (ironbarkref20_Named.calls k a1 a2 false _ A4.out).mono ?_); rintro e w74 ⟨rfl, hb⟩; refine ⟨_, rfl, ?_⟩; have n0_ := Aside0.mk (blk_below (zk BK101.out) hb); have n1_ := Aside0.mk (blk_below (zk BK102.out) hb); have n2_ := Aside0.mk (below_step (by repeat (first | (with_reducible first | exact HB.out | apply below_alloc | apply pw_below_drewN | apply below_drew1 | refine below_set ?_ GE101.out | refine below_set ?_ GE102.out) | exact HB.out)) hb); clear BK101; clear BK102; clear HB; have BK101 := n0_; have BK102 := n1_; have HB := n2_; clear n0_ n1_ n2_; (try clear hb); (try clear hb2); (try clear hk); (try clear hi); have hnb75 := NB102_101.out; have hnc75 := NB101_102.out; have hcz76_0 : w74.cell? ⟨gb102, 0, none⟩ = some (.int .i64 0) := (blk_cell BK102.out 0).trans rfl; have hcz76_1 : w74.cell? ⟨gb102, 1, none⟩ = some (.string (⟨#[]⟩ : ByteArray)) := (blk_cell BK102.out 1).trans rfl; have hcz76_2 : w74.cell? ⟨gb102, 2, none⟩ = some (.int .i64 0) := (blk_cell BK102.out 2).trans rfl; have hfz76_0 := blk_frozen BK102.out 0; have hfz76_1 := blk_frozen BK102.out 1; have hfz76_2 := blk_frozen BK102.out 2))
    refine bodyPost_ret (results_ctt rfl _ _ gb102 24 #[.int .i64 0, .string (⟨#[]⟩ : ByteArray), .int .i64 0] (0, 0) _ rfl (by refine zk ?_; refine blk_put (cs := #[.int .i64 0, .string (⟨#[]⟩ : ByteArray), .int .i64 0]) ?_ 2 _ rfl; refine zk ?_; refine blk_put (cs := #[.int .i64 0, .string (⟨#[]⟩ : ByteArray), .int .i64 0]) ?_ 1 _ rfl; refine zk ?_; refine blk_put (cs := #[.int .i64 0, .string (⟨#[]⟩ : ByteArray), .int .i64 0]) ?_ 0 _ rfl; refine zk ?_; exact BK102.out) Try.underlying24 rfl (by kernel_rfl)) rfl ?_
    exact ⟨by first | rfl | (simp [errW_none, errW_some] <;> rfl) | (simp [*, errW_none, errW_some] <;> rfl), by repeat (first | (with_reducible first | exact HB.out | apply below_alloc | apply pw_below_drewN | apply below_drew1 | refine below_set ?_ GE101.out | refine below_set ?_ GE102.out) | exact HB.out)⟩
end Go.Proofs.Ytfahpihbbkkngaa.P

-- from the text Rb
namespace Go.Proofs.Ytfahpihbbkkngaa.P
open Go.RowKit Go.Proofs.YtfahpihbbkkngaaW.PrintWords Go.Proofs.YtfahpihbbkkngaaW.PrintLast Go.Proofs.YtfahpihbbkkngaaW.PrintMore
set_option linter.unusedVariables false
set_option linter.unusedSimpArgs false
/-- Units but those for a condition and name. -/
def woU (c : Int) (n : ByteArray) (us : List S24) : List S24 := us.filter (fun u => !hit c n u)
theorem woU_le (c : Int) (n : ByteArray) (us : List S24) : (woU c n us).length ≤ us.length := List.length_filter_le _ _
theorem drop24 (us : List S24) (k : Nat) (h : k < us.length) : us.drop k = rd_T24 us (k : Int) :: us.drop (k + 1) := by
  rw [List.drop_eq_getElem_cons h]
  simp [rd_T24, List.getElem?_eq_getElem h]
theorem wo_ev (c : Int) (n : ByteArray) (us : List S24) (hl : us.length ≤ 100000) : ∀ (d i : Nat) (acc : List S24), us.length - i = d → i ≤ us.length → acc.length ≤ i → Ev (fun k => ironbarkref20_without.l0 k us c n acc (i : Int)) (acc ++ woU c n (us.drop i))
  | 0, i, acc, hd, hi, ha => by
    obtain rfl : i = us.length := by omega
    refine Ev.step (f := fun _ => some acc) (fun k => ?_) ?_
    · show ironbarkref20_without.l0 (k + 1) us c n acc (us.length : Int) = _
      conv => lhs; unfold ironbarkref20_without.l0
      rw [if_neg (by omega)]
    · simpa [woU] using Ev.now _
  | d + 1, i, acc, hd, hi, ha => by
    have hlt : i < us.length := by omega
    have hw : wrap64 ((i : Int) + 1) = ((i + 1 : Nat) : Int) := by unfold wrap64; omega
    have hdr := drop24 us i hlt
    have hh : hit c n (rd_T24 us (i : Int)) = true ↔ (rd_T24 us (i : Int)).f0 = c ∧ (rd_T24 us (i : Int)).f1.toList = n.toList := hit_iff c n _
    cases hq : hit c n (rd_T24 us (i : Int)) with
    | true =>
      have := hh.1 hq
      refine Ev.step (f := fun k => ironbarkref20_without.l0 k us c n acc ((i + 1 : Nat) : Int)) (fun k => ?_) ?_
      · show ironbarkref20_without.l0 (k + 1) us c n acc (i : Int) = _
        conv => lhs; unfold ironbarkref20_without.l0
        rw [if_pos (by omega), if_pos (by omega), if_pos this.1, if_pos this.2, hw]
      · have e : woU c n (us.drop i) = woU c n (us.drop (i + 1)) := by rw [hdr]; simp [woU, hq]
        rw [e]
        exact wo_ev c n us hl d (i + 1) acc (by omega) (by omega) (by omega)
    | false =>
      refine Ev.step (f := fun k => ironbarkref20_without.l0 k us c n (acc ++ [rd_T24 us (i : Int)]) ((i + 1 : Nat) : Int)) (fun k => ?_) ?_
      · show ironbarkref20_without.l0 (k + 1) us c n acc (i : Int) = _
        conv => lhs; unfold ironbarkref20_without.l0
        rw [if_pos (by omega), if_pos (by omega), hw]
        by_cases h1 : (rd_T24 us (i : Int)).f0 = c
        · have h2 : ¬ (rd_T24 us (i : Int)).f1.toList = n.toList := fun e => by rw [hh.2 ⟨h1, e⟩] at hq; cases hq
          rw [if_pos h1, if_neg h2, if_pos (by omega)]
        · rw [if_neg h1, if_pos (by omega)]
      · have e : woU c n (us.drop i) = rd_T24 us (i : Int) :: woU c n (us.drop (i + 1)) := by rw [hdr]; simp [woU, hq]
        rw [e, show acc ++ rd_T24 us (i : Int) :: woU c n (us.drop (i + 1)) = (acc ++ [rd_T24 us (i : Int)]) ++ woU c n (us.drop (i + 1)) by simp]
        exact wo_ev c n us hl d (i + 1) (acc ++ [rd_T24 us (i : Int)]) (by omega) (by omega) (by simp; omega)
theorem tight24 {w : World} {base : Nat} {ok : Nat → Prop} {v : Value} {us : List S24} (h : Kd.R k24 24 w base ok v us) : Kd.R k24 24 w base (fun k => some k = v.ownBlock) v us :=
  ⟨fun k hk => hk.symm, OwnRow.imp_ h.2 (fun p cs hM => by obtain rfl := k24_openM hM; exact k24_mkM _ _ _ _)⟩
theorem RU.of_R {w : World} {base : Nat} {ok G : Nat → Prop} {v : Value} {us : List S24} (h : Kd.R k24 24 w base ok v us) (hG : ∀ k, base ≤ k → k < w.heap.size → G k) : RU w G v us := by
  have h1 := Kd.R_N (tight24 h)
  obtain ⟨A, c, rfl⟩ := Kd.N_slice h1
  have h2 := Kd.N_reads' h1
  have hlt := Kd.N_lt h1
  have hb := Kd.N_base h1
  exact ⟨A, c, rfl, h2.2.1, Kd.F_mono (Kd.N_F h1) (fun k hk => hG k (hb k hk.symm) (hlt k hk.symm))⟩
theorem without_is (c : Int) (n : ByteArray) (v : Value) (us : List S24) (G : Nat → Prop) (w : World) (h : RU w G v us) (hl : us.length ≤ 100000) :
    Calls Try.prog 65 #[v, .int .i64 c, .string n] w fun e w' => ∃ v0, e = .returned v0 ∧ Kd.R k24 24 w' w.heap.size (fun _ => True) v0 (woU c n us) ∧ Below w.heap.size w w' := by
  obtain ⟨A, cp, rfl, hc, hF⟩ := h
  obtain ⟨k, hk⟩ := (wo_ev c n us hl us.length 0 [] (by omega) (by omega) (by simp)).rounds
  exact ironbarkref20_without.calls k A cp us c n _ w (Kd.F_now hF) hc hk
theorem named_is (c : Int) (n : ByteArray) (w : World) : Calls Try.prog 44 #[.int .i64 c, .string n] w fun e w' => e = .returned (.bool (rightB c n)) ∧ Below w.heap.size w w' := by
  obtain ⟨k, hk⟩ := (named_ev c n).rounds
  exact ironbarkref20_Named.calls k c n _ w hk
theorem rvalid_is (u : S24) (w : World) : Calls Try.prog 41 #[.agg #[.int .i64 u.f0, .string u.f1, .int .i64 u.f2]] w fun e w' => e = .returned (.bool (rightB u.f0 u.f1 && decide (-2 ≤ u.f2))) ∧ Below w.heap.size w w' := by
  obtain ⟨k, hk⟩ := (valid_ev u.f0 u.f1 u.f2).rounds
  exact ironbarkref20_Valid.calls k u.f0 u.f1 u.f2 _ w hk
/-- What of finds: the first unit for it. -/
def ofU (c : Int) (n : ByteArray) (us : List S24) : Option S24 := us.find? (fun u => hit c n u)
def ofV : Option S24 → Int × ByteArray × Int × Bool
  | some u => (u.f0, u.f1, u.f2, true)
  | none => (0, ⟨#[]⟩, 0, false)
theorem of_ev (c : Int) (n : ByteArray) (us : List S24) (b : Bool) (x : Int) (y : ByteArray) (z : Int) (hl : us.length ≤ 100000) : ∀ (d i : Nat), us.length - i = d → i ≤ us.length → Ev (fun k => ironbarkref20_of.l0 k c n (i : Int) us b x y z) (ofV (ofU c n (us.drop i)))
  | 0, i, hd, hi => by
    obtain rfl : i = us.length := by omega
    refine Ev.step (f := fun _ => some (0, ⟨#[]⟩, 0, false)) (fun k => ?_) ?_
    · show ironbarkref20_of.l0 (k + 1) c n (us.length : Int) us b x y z = _
      conv => lhs; unfold ironbarkref20_of.l0
      rw [if_neg (by omega)]
    · simpa [ofU, ofV] using Ev.now _
  | d + 1, i, hd, hi => by
    have hlt : i < us.length := by omega
    have hw : wrap64 ((i : Int) + 1) = ((i + 1 : Nat) : Int) := by unfold wrap64; omega
    have hdr := drop24 us i hlt
    have hh : hit c n (rd_T24 us (i : Int)) = true ↔ (rd_T24 us (i : Int)).f0 = c ∧ (rd_T24 us (i : Int)).f1.toList = n.toList := hit_iff c n _
    cases hq : hit c n (rd_T24 us (i : Int)) with
    | true =>
      have := hh.1 hq
      refine Ev.step (f := fun k => some (ofV (some (rd_T24 us (i : Int))))) (fun k => ?_) ?_
      · show ironbarkref20_of.l0 (k + 1) c n (i : Int) us b x y z = _
        conv => lhs; unfold ironbarkref20_of.l0
        rw [if_pos (by omega), if_pos (by omega), if_pos this.1, if_pos this.2]
        rfl
      · rw [hdr]
        simpa [ofU, hq] using Ev.now _
    | false =>
      refine Ev.step (f := fun k => ironbarkref20_of.l0 k c n ((i + 1 : Nat) : Int) us b x y z) (fun k => ?_) ?_
      · show ironbarkref20_of.l0 (k + 1) c n (i : Int) us b x y z = _
        conv => lhs; unfold ironbarkref20_of.l0
        rw [if_pos (by omega), if_pos (by omega), hw]
        by_cases h1 : (rd_T24 us (i : Int)).f0 = c
        · have h2 : ¬ (rd_T24 us (i : Int)).f1.toList = n.toList := fun e => by rw [hh.2 ⟨h1, e⟩] at hq; cases hq
          rw [if_pos h1, if_neg h2]
        · rw [if_neg h1]
      · have e : ofU c n (us.drop i) = ofU c n (us.drop (i + 1)) := by rw [hdr]; simp [ofU, hq]
        rw [e]
        exact of_ev c n us b x y z hl d (i + 1) (by omega) (by omega)
end Go.Proofs.Ytfahpihbbkkngaa.P

-- from the text Rc
namespace Go.Proofs.Ytfahpihbbkkngaa.P
open Go.RowKit Go.Proofs.YtfahpihbbkkngaaW.PrintWords Go.Proofs.YtfahpihbbkkngaaW.PrintLast Go.Proofs.YtfahpihbbkkngaaW.PrintMore
set_option linter.unusedVariables false
set_option linter.unusedSimpArgs false
/-- The newest frame's units. -/
theorem RD.last {w : World} {G : Nat → Prop} {A : Option Addr} {cp : Nat} {l0 l : List S94} {x : S94} (hle : l0 ++ [x] = l) (hF : Kd.F k94 w G A l.length l) : ∃ ad A0 c0, A = some ad ∧ w.cell? (ad.add (l0.length * 5)) = some (.slice A0 x.f0.length c0) ∧ x.f0.length ≤ c0 ∧ Kd.F k24 w G A0 x.f0.length x.f0 := by
  have hlen : l.length = l0.length + 1 := by rw [← hle]; simp
  obtain ⟨ad, c, rfl, hcl, hFK, hcc, _⟩ := Kd.F_get hF z94 (l0.length : Int) (by omega) (by omega)
  rw [show l.getD (l0.length : Int).toNat z94 = x by rw [← hle]; simp] at hFK
  obtain ⟨A0, c0, rfl, h0, h1⟩ := k94_openF hFK
  exact ⟨ad, A0, c0, rfl, hcc 0 _ rfl, h0, h1⟩
set_option maxRecDepth 100000 in
set_option maxHeartbeats 4000000 in
theorem rrevert_bad (v : Value) (c : Int) (n : ByteArray) (l : List S94) (G : Nat → Prop) (w : World) (h : RD w G v l) (hr : rightB c n = false) :
    Calls Try.prog 48 #[.agg #[v], .int .i64 c, .string n] w fun e w' => e = .returned (.tuple #[.agg #[v], .int .i64 1]) ∧ Below w.heap.size w w' := by
  obtain ⟨A, cp, rfl, _, _⟩ := h.slice
  have HN := Aside0.mk (fun W => named_is c n W)
  rw [hr] at HN
  have H1 := Aside0.mk ((Below.refl w.heap.size w).alloc (Nat.le_refl _) (.cells #[.slice A l.length cp] 55 (0, 0)))
  have H2 := Aside0.mk (H1.out.alloc H1.out.size (.cells #[.slice none 0 0] 55 (0, 0)))
  have b1 := Aside0.mk (blk_alloc (blk_new w (.cells #[.slice A l.length cp] 55 (0, 0))) (.cells #[.slice none 0 0] 55 (0, 0)))
  have b2 := blk_new (w.alloc (.cells #[.slice A l.length cp] 55 (0, 0))) (.cells #[.slice none 0 0] 55 (0, 0))
  simp only [World.size_alloc] at b2
  replace b2 := Aside0.mk b2
  clear h hr
  go_enter Try.func48, Try.ntmps48
  go_wp2_with fail
  refine (HN.out _).mono ?_
  rintro e w2 ⟨rfl, hb⟩
  have c1 := Aside0.mk (blk_below b1.out hb)
  have c2 := Aside0.mk (blk_below b2.out hb)
  have HB := Aside0.mk (H2.out.trans (hb.mono H2.out.size))
  have q0 := (blk_cell c1.out 0).trans rfl
  have q1 := (blk_cell c2.out 0).trans rfl
  have q2 := blk_frozen c2.out 0
  clear hb
  go_wp2_with fail
  refine bodyPost_ret (results_ct rfl _ _ (w.heap.size + 1) 55 #[.slice A l.length cp] (0, 0) _ rfl (blk_put c2.out 0 _ rfl) Try.underlying55 rfl (by kernel_rfl)) rfl ?_
  exact ⟨rfl, below_set HB.out (Nat.le_succ _)⟩
set_option maxRecDepth 100000 in
set_option maxHeartbeats 8000000 in
theorem rrevert_is (v : Value) (c : Int) (n : ByteArray) (l0 : List S94) (x : S94) (G : Nat → Prop) (w : World) (h : RD w G v (l0 ++ [x])) (hr : rightB c n = true) (hl : l0.length ≤ 1000) (hu : x.f0.length ≤ 1000) :
    Calls Try.prog 48 #[.agg #[v], .int .i64 c, .string n] w fun e w' => ∃ v', e = .returned (.tuple #[.agg #[v'], .int .i64 0]) ∧ RD w' (More G w.heap.size w'.heap.size) v' (l0 ++ [{ x with f0 := woU c n x.f0 }]) ∧ Below w.heap.size w w' := by
  have hD := Aside0.mk h.cut
  obtain ⟨A, cp, rfl, hc, hF⟩ := h.cut
  have hlen : (l0 ++ [x]).length = l0.length + 1 := by simp
  obtain ⟨l, hle⟩ : ∃ l, l0 ++ [x] = l := ⟨_, rfl⟩
  rw [hle] at hF hc hlen hD ⊢
  obtain ⟨ad, A0, c0, rfl, hx0, hx1, hx2⟩ := RD.last (cp := cp) hle hF
  have HX := Aside0.mk hx2
  have HX0 := Aside0.mk hx0
  have HN := Aside0.mk (fun W => named_is c n W)
  rw [hr] at HN
  have hwr : wrap64 ((l.length : Int) - 1) = (l0.length : Int) := by unfold wrap64; omega
  have i0 : (0 : Int) ≤ (l0.length : Int) := by omega
  have i1 : (l0.length : Int) < (l.length : Int) := by omega
  have H1 := Aside0.mk ((Below.refl w.heap.size w).alloc (Nat.le_refl _) (.cells #[.slice (some ad) l.length cp] 55 (0, 0)))
  have H2 := Aside0.mk (H1.out.alloc H1.out.size (.cells #[.slice none 0 0] 55 (0, 0)))
  have b1 := Aside0.mk (blk_alloc (blk_new w (.cells #[.slice (some ad) l.length cp] 55 (0, 0))) (.cells #[.slice none 0 0] 55 (0, 0)))
  have b2 := blk_new (w.alloc (.cells #[.slice (some ad) l.length cp] 55 (0, 0))) (.cells #[.slice none 0 0] 55 (0, 0))
  simp only [World.size_alloc] at b2
  replace b2 := Aside0.mk b2
  replace hlen := Aside0.mk hlen
  replace hle := Aside0.mk hle
  clear h hr hF hx0 hx2
  go_enter Try.func48, Try.ntmps48
  go_wp2_with fail
  refine (HN.out _).mono ?_
  rintro e w2 ⟨rfl, hb⟩
  have c1 := Aside0.mk (blk_below b1.out hb)
  have c2 := Aside0.mk (blk_below b2.out hb)
  have HB := Aside0.mk (H2.out.trans (hb.mono H2.out.size))
  have hxc := Aside0.mk (pw_cell_below HB.out HX0.out)
  clear hb HN H1 H2 b1 b2
  go_wp2_with fail
  refine start_ (n := 16) (S := fun W => W.heap[w.heap.size]? = some (.cells #[.slice (some ad) l.length cp] 55 (0, 0)) ∧ W.heap[w.heap.size + 1]? = some (.cells #[.slice none 0 0] 55 (0, 0)) ∧ W.cell? (ad.add (l0.length * 5)) = some (.slice A0 x.f0.length c0) ∧ Below w.heap.size w W) (ds := [14]) #[false, false, false, false, false, false, false, false, false, false, false, false, false, false, false, false] (by kernel_rfl) rfl rfl ⟨blk_drew c1.out, blk_drew c2.out, pw_cell_below (below_drew (Below.refl _ _)) hxc.out, Below.drew HB.out⟩ (fun hHeld => ?_)
  generalize w2.drew = w3 at hHeld ⊢
  clear c1 c2 hxc HB
  refine take_ (i := 0) (N := some 13) (v := ?_) (a' := ?_) #[true, false, false, false, false, false, false, false, false, false, false, false, false, false, false, false] rfl rfl (by kernel_rfl) (fun _ _ _ h => h) (Or.inl ⟨by rfl, ?_⟩) hHeld ?_ ?_
  rotate_left
  · rintro w_ ⟨hs_, _⟩
    have s0 := (blk_cell hs_ 0).trans rfl
    go_simp
    with_reducible rfl
  rotate_left
  · simp only [Act.put, List.setIfInBounds_toArray, List.set_cons_zero, List.set_cons_succ, i64_w, i32_w]
    rfl
  refine pure_ (i := 1) (N := some 14) (v := ?_) (a' := ?_) #[true, true, false, false, false, false, false, false, false, false, false, false, false, false, false, false] rfl rfl (by kernel_rfl) (fun _ _ _ h => h) (Or.inl ⟨by rfl, ?_⟩) ?_ ?_
  rotate_left
  · intro w_
    go_simp
    with_reducible rfl
  rotate_left
  · simp only [Act.put, List.setIfInBounds_toArray, List.set_cons_zero, List.set_cons_succ, i64_w, i32_w]
    rfl
  refine take_ (i := 2) (N := some 15) (v := ?_) (a' := ?_) #[true, true, true, false, false, false, false, false, false, false, false, false, false, false, false, false] rfl rfl (by kernel_rfl) (fun _ _ _ h => h) (Or.inl ⟨by rfl, ?_⟩) hHeld ?_ ?_
  rotate_left
  · rintro w_ ⟨hs_, _⟩
    have s0 := (blk_cell hs_ 0).trans rfl
    go_simp
    with_reducible rfl
  rotate_left
  · simp only [Act.put, List.setIfInBounds_toArray, List.set_cons_zero, List.set_cons_succ, i64_w, i32_w]
    rfl
  refine pure_ (i := 3) (N := some 16) (v := ?_) (a' := ?_) #[true, true, true, true, false, false, false, false, false, false, false, false, false, false, false, false] rfl rfl (by kernel_rfl) (fun _ _ _ h => h) (Or.inl ⟨by rfl, ?_⟩) ?_ ?_
  rotate_left
  · intro w_
    go_simp
    with_reducible rfl
  rotate_left
  · simp only [Act.put, List.setIfInBounds_toArray, List.set_cons_zero, List.set_cons_succ, i64_w, i32_w]
    rfl
  refine take_ (i := 4) (N := some 17) (v := ?_) (a' := ?_) #[true, true, true, true, true, false, false, false, false, false, false, false, false, false, false, false] rfl rfl (by kernel_rfl) (fun _ _ _ h => h) (Or.inl ⟨by rfl, ?_⟩) hHeld ?_ ?_
  rotate_left
  · rintro w_ ⟨hs_, _⟩
    have s0 := (blk_cell hs_ 0).trans rfl
    go_simp
    with_reducible rfl
  rotate_left
  · simp only [Act.put, List.setIfInBounds_toArray, List.set_cons_zero, List.set_cons_succ, i64_w, i32_w]
    rfl
  refine pure_ (i := 5) (N := some 18) (v := ?_) (a' := ?_) #[true, true, true, true, true, true, false, false, false, false, false, false, false, false, false, false] rfl rfl (by kernel_rfl) (fun _ _ _ h => h) (Or.inl ⟨by rfl, ?_⟩) ?_ ?_
  rotate_left
  · intro w_
    go_simp
    with_reducible rfl
  rotate_left
  · simp only [Act.put, List.setIfInBounds_toArray, List.set_cons_zero, List.set_cons_succ, i64_w, i32_w]
    rfl
  refine pure_ (i := 6) (N := some 19) (v := ?_) (a' := ?_) #[true, true, true, true, true, true, true, false, false, false, false, false, false, false, false, false] rfl rfl (by kernel_rfl) (fun _ _ _ h => h) (Or.inl ⟨by rfl, ?_⟩) ?_ ?_
  rotate_left
  · intro w_
    go_simp
    with_reducible rfl
  rotate_left
  · simp only [Act.put, List.setIfInBounds_toArray, List.set_cons_zero, List.set_cons_succ, i64_w, i32_w]
    rfl
  refine pure_ (i := 7) (N := some 20) (v := ?_) (a' := ?_) #[true, true, true, true, true, true, true, true, false, false, false, false, false, false, false, false] rfl rfl (by kernel_rfl) (fun _ _ _ h => h) (Or.inl ⟨by rfl, ?_⟩) ?_ ?_
  rotate_left
  · intro w_
    go_simp
    with_reducible rfl
  rotate_left
  · simp only [Act.put, List.setIfInBounds_toArray, List.set_cons_zero, List.set_cons_succ, i64_w, i32_w]
    rfl
  refine pure_ (i := 8) (N := some 21) (v := ?_) (a' := ?_) #[true, true, true, true, true, true, true, true, true, false, false, false, false, false, false, false] rfl rfl (by kernel_rfl) (fun _ _ _ h => h) (Or.inl ⟨by rfl, ?_⟩) ?_ ?_
  rotate_left
  · intro w_
    go_simp
    with_reducible rfl
  rotate_left
  · simp only [Act.put, List.setIfInBounds_toArray, List.set_cons_zero, List.set_cons_succ, i64_w, i32_w]
    rfl
  refine take_ (i := 9) (N := some 22) (v := ?_) (a' := ?_) #[true, true, true, true, true, true, true, true, true, true, false, false, false, false, false, false] rfl rfl (by kernel_rfl) (fun _ _ _ h => h) (Or.inl ⟨by rfl, ?_⟩) hHeld ?_ ?_
  rotate_left
  · rintro w_ ⟨_, _, s0, _⟩
    go_simp
    with_reducible rfl
  rotate_left
  · simp only [Act.put, List.setIfInBounds_toArray, List.set_cons_zero, List.set_cons_succ, i64_w, i32_w]
    rfl
  refine pure_ (i := 10) (N := some 23) (v := ?_) (a' := ?_) #[true, true, true, true, true, true, true, true, true, true, true, false, false, false, false, false] rfl rfl (by kernel_rfl) (fun _ _ _ h => h) (Or.inl ⟨by rfl, ?_⟩) ?_ ?_
  rotate_left
  · intro w_
    go_simp
    with_reducible rfl
  rotate_left
  · simp only [Act.put, List.setIfInBounds_toArray, List.set_cons_zero, List.set_cons_succ, i64_w, i32_w]
    rfl
  refine pure_ (i := 11) (N := some 24) (v := ?_) (a' := ?_) #[true, true, true, true, true, true, true, true, true, true, true, true, false, false, false, false] rfl rfl (by kernel_rfl) (fun _ _ _ h => h) (Or.inl ⟨by rfl, ?_⟩) ?_ ?_
  rotate_left
  · intro w_
    go_simp
    with_reducible rfl
  rotate_left
  · simp only [Act.put, List.setIfInBounds_toArray, List.set_cons_zero, List.set_cons_succ, i64_w, i32_w]
    rfl
  refine one_ (i := 12) (N := some 25) #[true, true, true, true, true, true, true, true, true, true, true, true, true, false, false, false] rfl rfl (by kernel_rfl) (by decide) (fun K' hK => ?_)
  refine goes_ Try.func65 (by kernel_rfl) rfl #[.slice A0 x.f0.length c0, .int .i64 c, .string n] (by rfl) rfl rfl (by (try simp only [List.map_toArray, List.map_cons, List.map_nil]); first | done | rfl) ?_
  refine (without_is c n (.slice A0 x.f0.length c0) x.f0 (fun k => G k ∧ k < w.heap.size) w3 ⟨A0, c0, rfl, hx1, Kd.F_step HX.out (fun q hq _ => hHeld.2.2.2.block q hq.2)⟩ (Nat.le_trans hu (by decide))).mono ?_
  rintro e w4 ⟨v0, rfl, hR0, hb⟩
  obtain ⟨p0, q0, rfl⟩ := Kd.R_slice hR0
  have hS3 := Nat.lt_of_lt_of_le (blk_lt hHeld.2.1) (Nat.le_refl _)
  refine ⟨_, rfl, ?_⟩
  refine hK.out _ _ ⟨blk_below hHeld.1 hb, blk_below hHeld.2.1 hb, pw_cell_below hb hHeld.2.2.1, hHeld.2.2.2.trans (hb.mono hHeld.2.2.2.size)⟩ (fun hHeld => ?_)
  clear hb hK K'
  refine norm_ (a' := ?_) ?_ ?_
  rotate_left
  · show Act.put _ (some 25) _ = _
    simp only [Act.put, List.setIfInBounds_toArray, List.set_cons_zero, List.set_cons_succ, i64_w, i32_w]
    rfl
  refine one_ (i := 13) (N := some 26) #[true, true, true, true, true, true, true, true, true, true, true, true, true, true, false, false] rfl rfl (by kernel_rfl) (by decide) (fun K' hK => ?_)
  refine goes_ Try.func64 (by kernel_rfl) rfl #[.agg #[.slice (some ad) l.length cp], .slice p0 (woU c n x.f0).length q0] (by rfl) rfl rfl (by (try simp only [List.map_toArray, List.map_cons, List.map_nil]); first | done | rfl) ?_
  refine (rnewest_is (.slice (some ad) l.length cp) (.slice p0 (woU c n x.f0).length q0) l0 x (woU c n x.f0) (fun k => (G k ∧ k < w.heap.size) ∨ w.heap.size + 1 < k) w4 ?_ ?_ hl).mono ?_
  · rw [hle.out]
    exact (hD.out.step (fun q hq _ => hHeld.2.2.2.block q hq.2)).mono (fun q hq => .inl hq)
  · exact RU.of_R hR0 (fun q hq _ => .inr (by omega))
  rintro e w5 ⟨v1, rfl, hD1, hb⟩
  obtain ⟨p1, q1, rfl, _, _⟩ := hD1.slice
  have hD2 := hD1.cut
  have c2 := Aside0.mk (blk_below hHeld.2.1 hb)
  have HB := Aside0.mk (hHeld.2.2.2.trans (hb.mono hHeld.2.2.2.size))
  have hS4 := hb.size
  have hS5 := blk_lt hHeld.2.1
  refine ⟨_, rfl, ?_⟩
  refine hK.out _ _ ⟨blk_below hHeld.1 hb, blk_below hHeld.2.1 hb, pw_cell_below hb hHeld.2.2.1, hHeld.2.2.2.trans (hb.mono hHeld.2.2.2.size)⟩ (fun hHeld => ?_)
  clear hb hK K' hR0 hD1
  refine norm_ (a' := ?_) ?_ ?_
  rotate_left
  · show Act.put _ (some 26) _ = _
    simp only [Act.put, List.setIfInBounds_toArray, List.set_cons_zero, List.set_cons_succ, i64_w, i32_w]
    rfl
  have hc3 := (blk_cell c2.out 0).trans rfl
  have hf3 := blk_frozen c2.out 0
  refine last_ (i := 14) (N := none) #[true, true, true, true, true, true, true, true, true, true, true, true, true, true, true, false] rfl rfl (by kernel_rfl) (by decide) (fun K' hK => ?_)
  refine skip_ (w1 := ?_) (by rfl) rfl ?_ ?_
  rotate_left
  · go_simp
    rfl
  refine hK.out _ _ ?_
  clear hK K' hHeld
  refine pure_ (i := 15) (N := some 7) (v := ?_) (a' := ?_) #[true, true, true, true, true, true, true, true, true, true, true, true, true, true, true, true] rfl rfl (by kernel_rfl) (fun _ _ _ h => h) (Or.inl ⟨by rfl, ?_⟩) ?_ ?_
  rotate_left
  · intro w_
    go_simp
    with_reducible rfl
  rotate_left
  · simp only [Act.put, List.setIfInBounds_toArray, List.set_cons_zero, List.set_cons_succ, i64_w, i32_w]
    rfl
  refine done_ (by kernel_rfl) ?_
  have HF := Aside0.mk (RD.mono (G' := fun k => More G w.heap.size w5.heap.size k) (hD2.set (p := ⟨w.heap.size + 1, 0, none⟩) (fun k hk e => by dsimp only at e; subst e; rcases hk.1 with (h | h) | h <;> omega) (.slice p1 (l0 ++ [{ x with f0 := woU c n x.f0 }]).length q1)) (fun k hk => by
    rcases hk.1 with (h | h) | h
    · exact .inl h.1
    · exact .inr ⟨by omega, hk.2⟩
    · exact .inr ⟨by omega, hk.2⟩))
  have HB2 := Aside0.mk (below_set (j := 0) (v := .slice p1 (l0 ++ [{ x with f0 := woU c n x.f0 }]).length q1) HB.out (Nat.le_succ _))
  have c3 := Aside0.mk (blk_put c2.out 0 (.slice p1 (l0 ++ [{ x with f0 := woU c n x.f0 }]).length q1) rfl)
  clear hD2 c2 hc3 hf3 HB
  simp only [List.length_append, List.length_cons, List.length_nil, Nat.zero_add] at HF HB2 c3
  go_wp2_with fail
  refine bodyPost_ret (results_ct rfl _ _ (w.heap.size + 1) 55 #[.slice p1 (l0.length + 1) q1] (0, 0) _ rfl c3.out Try.underlying55 rfl (by kernel_rfl)) rfl ?_
  exact ⟨_, rfl, HF.out.mono (fun k hk => by rw [World.size_setCell]; exact hk), HB2.out⟩
end Go.Proofs.Ytfahpihbbkkngaa.P
