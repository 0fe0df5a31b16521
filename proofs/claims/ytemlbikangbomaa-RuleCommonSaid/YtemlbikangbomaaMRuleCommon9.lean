/- Part 9 of the proof of the law RuleCommon: functions, contracts and plain laws; merged by this session's program. -/
import Derived.Test.YtemlbikangbomaaMRuleCommon1
import Derived.Test.YtemlbikangbomaaMRuleCommon2
import Derived.Test.YtemlbikangbomaaMRuleCommon3
import Derived.Test.YtemlbikangbomaaMRuleCommon4
import Derived.Test.YtemlbikangbomaaMRuleCommon5
import Derived.Test.YtemlbikangbomaaMRuleCommon6
import Derived.Test.YtemlbikangbomaaMRuleCommon7
import Derived.Test.YtemlbikangbomaaMRuleCommon8
-- from the text F22
namespace Go.Proofs.Ytemlbikangbomaa.P
open Go.RowKit Go.Proofs.YtemlbikangbomaaW.PrintWords Go.Proofs.YtemlbikangbomaaW.PrintLast Go.Proofs.YtemlbikangbomaaW.PrintMore
attribute [local go_sem] max2_int min2_int max_two min_two max_three min_three max_four min_four   -- for this text's walks alone
set_option linter.unusedVariables false
set_option linter.unusedSimpArgs false
attribute [local go_sem high] eqA25
mutual
def ironbarklaw02_ruleCommon.j0 : Nat → List (S25) → Bool → Option (Bool)
  | 0, _, _ => none
  | k + 1, x0, x14 => if x14 = true then ((ironbarklaw02_awake.f k).bind fun t102 => (some t102)) else ((rule_Common.f k x0).bind fun bt103 => ((ironbarkref02_Common.f k x0).bind fun bt111 => (if (!(bt103.1 == bt111.1) || (!(bt103.2.1 == bt111.2.1) || (!(bt103.2.2.1 == bt111.2.2.1) || (!(bt103.2.2.2.1 == bt111.2.2.2.1) || (!(bt103.2.2.2.2.1 == bt111.2.2.2.2.1) || (!(bt103.2.2.2.2.2.1.toList == bt111.2.2.2.2.2.1.toList))))))) = true then (ironbarklaw02_ruleCommon.j1 k x0 bt103.2.2.2.2.2.2 true bt111.1 bt111.2.1 bt111.2.2.1 bt111.2.2.2.1 bt111.2.2.2.2.1 bt111.2.2.2.2.2.1) else (if bt103.2.2.2.2.2.2 = bt111.2.2.2.2.2.2 then (if bt103.2.2.2.2.2.2 = 0 then ((ironbarkref01_Valid.f k bt103.1 bt103.2.1 bt103.2.2.1 bt103.2.2.2.1 bt103.2.2.2.2.1 bt103.2.2.2.2.2.1).bind fun t119 => (ironbarklaw02_ruleCommon.j1 k x0 bt103.2.2.2.2.2.2 (!t119) bt111.1 bt111.2.1 bt111.2.2.1 bt111.2.2.2.1 bt111.2.2.2.2.1 bt111.2.2.2.2.2.1)) else (ironbarklaw02_ruleCommon.j1 k x0 bt103.2.2.2.2.2.2 false bt111.1 bt111.2.1 bt111.2.2.1 bt111.2.2.2.1 bt111.2.2.2.2.1 bt111.2.2.2.2.2.1)) else (ironbarklaw02_ruleCommon.j1 k x0 bt103.2.2.2.2.2.2 true bt111.1 bt111.2.1 bt111.2.2.1 bt111.2.2.2.1 bt111.2.2.2.2.1 bt111.2.2.2.2.2.1)))))
def ironbarklaw02_ruleCommon.j1 : Nat → List (S25) → Int → Bool → Int → Int → Int → Int → Bool → ByteArray → Option (Bool)
  | 0, _, _, _, _, _, _, _, _, _ => none
  | k + 1, x0, x4, x42, x119000, x119001, x119002, x119003, x119004, x119005 => if x42 = true then (some false) else (if (x0.length : Int) = 2 then (ironbarklaw02_ruleCommon.j2 k x0 (x4 != 0) x119000 x119001 x119002 x119003 x119004 x119005) else (ironbarklaw02_ruleCommon.j2 k x0 true x119000 x119001 x119002 x119003 x119004 x119005))
def ironbarklaw02_ruleCommon.j2 : Nat → List (S25) → Bool → Int → Int → Int → Int → Bool → ByteArray → Option (Bool)
  | 0, _, _, _, _, _, _, _, _ => none
  | k + 1, x0, x49, x119000, x119001, x119002, x119003, x119004, x119005 => if x49 = true then ((ironbarklaw02_awake.f k).bind fun t120 => (some t120)) else (if 1 < (x0.length : Int) then (if 0 < (x0.length : Int) then ((rule_Common.f k (([(⟨(rd_T25 x0 1).f0, (rd_T25 x0 1).f1, (rd_T25 x0 1).f2, (rd_T25 x0 1).f3, (rd_T25 x0 1).f4, (rd_T25 x0 1).f5⟩ : S25), (⟨(rd_T25 x0 0).f0, (rd_T25 x0 0).f1, (rd_T25 x0 0).f2, (rd_T25 x0 0).f3, (rd_T25 x0 0).f4, (rd_T25 x0 0).f5⟩ : S25)] : List (S25)))).bind fun bt126 => (if bt126.2.2.2.2.2.2 = 0 then (if (bt126.1 == x119000 && (bt126.2.1 == x119001 && (bt126.2.2.1 == x119002 && (bt126.2.2.2.1 == x119003 && (bt126.2.2.2.2.1 == x119004 && (bt126.2.2.2.2.2.1.toList == x119005.toList)))))) = true then ((ironbarklaw02_awake.f k).bind fun t133 => (some t133)) else (some false)) else (some false))) else (none)) else (none))
end
def ironbarklaw02_ruleCommon.f (k : Nat) (l0 : List (S25)) : Option (Bool) := if (l0.length : Int) > 30 then (ironbarklaw02_ruleCommon.j0 k l0 true) else ((ironbarklaw02_light.f k l0).bind fun t101 => (ironbarklaw02_ruleCommon.j0 k l0 (!t101)))
def ironbarklaw02_ruleCommon.T9 : Bool × List (List Nat × List Nat) := (true, [([], []), ([0], [0]), ([1], [1]), ([], []), ([3], [3]), ([4], [4]), ([2, 5], [2, 5]), ([6], [6]), ([7], [7]), ([8], [8]), ([8], [8]), ([9, 7, 0, 1, 2, 3, 4, 5, 6, 7, 8, 9], [9]), ([10, 11, 0, 1, 2, 3, 4, 5, 6, 7, 8, 9, 10, 11], [10])])
def ironbarklaw02_ruleCommon.B9 : List Nat := [0, 1, 3, 0, 8, 24, 63, 127, 255, 511, 511, 1023, 4095]
theorem ironbarklaw02_ruleCommon.tab9 : rtab .any (opsOf Try.f22 9) = ironbarklaw02_ruleCommon.T9 := by kernel_rfl
theorem ironbarklaw02_ruleCommon.bits9 : waitsOk ironbarklaw02_ruleCommon.T9.2 ironbarklaw02_ruleCommon.B9 = true := by kernel_rfl
set_option maxHeartbeats 8000000 in
set_option maxRecDepth 100000 in
theorem ironbarklaw02_ruleCommon.calls (k : Nat) (A0 : Option Addr) (c0 : Nat) (l0 : List (S25)) (r : Bool) (w : World) (hr0 : Kd.C k25 w A0 l0.length l0) (hc0 : l0.length ≤ c0) (h : ironbarklaw02_ruleCommon.f k l0 = some r) :
    Calls Try.prog 22 #[.slice A0 l0.length c0] w fun e w' => e = .returned (.bool r) ∧ Below w.heap.size w w' := by
  have hu25 := Try.underlying25
  have HR0 := Aside0.mk hr0
  have HC0 := Aside0.mk hc0
  clear hr0 hc0
  have HB := Aside0.mk (Below.refl w.heap.size w)
  have H : (if (l0.length : Int) > 30 then (ironbarklaw02_ruleCommon.j0 k l0 true) else ((ironbarklaw02_light.f k l0).bind fun t101 => (ironbarklaw02_ruleCommon.j0 k l0 (!t101)))) = some r := h
  clear h
  have HC2 := Aside0.mk H
  clear H
  go_enter Try.func22, Try.ntmps22
  go_upto_region 1 with (fail)
  go_cut [14] (fun v14 wc => ∃ (kq : Nat) (x14_1 : Bool), v14 = .bool x14_1 ∧ Aside0 (ironbarklaw02_ruleCommon.j0 kq l0 x14_1 = some r) ∧ Aside0 (kq ≤ k) ∧ Aside0 (Below w.heap.size w wc))
  case first =>
    have H := HC2.out
    clear HC2
    by_cases c3 : (l0.length : Int) > 30
    · rw [if_pos c3] at H
      have c3b0 : decide (30 < (l0.length : Int)) = true := decide_eq_true c3
      have c3b1 : decide (30 < l0.length) = true := decide_eq_true (by omega)
      clear c3
      (first | rw [c3b0] | (simp only [i64_w, i32_w]; rw [c3b0]) | skip)
      have H' := Aside0.mk H
      clear H
      go_wp2
      go_meet
      case rel => exact ⟨_, (true), (by first | rfl | (simp; done) | (generalize ByteArray.toList _ = l_; cases l_ <;> rfl) | (simp [*]; done)), H', ⟨by first | omega | exact Nat.le_refl _⟩, ⟨by repeat (first | (with_reducible first | exact HB.out | apply below_alloc | apply pw_below_drewN | apply below_drew1) | exact HB.out)⟩⟩
    · rw [if_neg c3] at H
      have c3b0 : decide (30 < (l0.length : Int)) = false := decide_eq_false c3
      have c3b1 : decide (30 < l0.length) = false := decide_eq_false (by omega)
      clear c3
      (first | rw [c3b0] | (simp only [i64_w, i32_w]; rw [c3b0]) | skip)
      replace H := Option.bind_eq_some_iff.mp H
      obtain ⟨t101, A40, H⟩ := H
      replace H : (ironbarklaw02_ruleCommon.j0 k l0 (!t101)) = some r := H
      have A4 := Aside0.mk A40
      clear A40
      have H' := Aside0.mk H
      clear H
      go_wp2_with (first | (go_at_call 16; (with_reducible refine (ironbarklaw02_light.calls k _ _ l0 t101 _ ?side1 ?side2 A4.out).mono ?_); (case side1 => repeat (first | exact (Kd.C_below HR0.out HB.out) | (with_reducible refine Kd.C_alloc ?_ _) | (with_reducible refine Kd.C_drewN ?_ _) | (with_reducible refine Kd.C_drew ?_))); (case side2 => exact HC0.out); rintro e w' ⟨rfl, ⟨nd, rfl⟩⟩))
      go_meet
      case rel => exact ⟨_, (!t101), (by first | rfl | (simp; done) | (generalize ByteArray.toList _ = l_; cases l_ <;> rfl) | (simp [*]; done)), H', ⟨by first | omega | exact Nat.le_refl _⟩, ⟨by repeat (first | (with_reducible first | exact HB.out | apply below_alloc | apply pw_below_drewN | apply below_drew1) | exact HB.out)⟩⟩
  case rest =>
    clear HC2
    try clear c2
    try clear p2
    try clear c3
    try clear c3b0
    try clear c3b1
    obtain ⟨kq, x14_1, rfl, HA, HJ1, HB⟩ := hcut
    cases kq with
    | zero => exact absurd HA.out (by simp [ironbarklaw02_ruleCommon.j0])
    | succ kj1 =>
      have H := HA.out
      clear HA
      simp only [ironbarklaw02_ruleCommon.j0] at H
      by_cases c5 : x14_1 = true
      · subst c5
        have H1 : ((ironbarklaw02_awake.f kj1).bind fun t102 => (some t102)) = some r := by rw [if_pos rfl] at H; exact H
        clear H
        have H := H1
        clear H1
        replace H := Option.bind_eq_some_iff.mp H
        obtain ⟨t102, A60, H⟩ := H
        replace H : (some t102) = some r := H
        have A6 := Aside0.mk A60
        clear A60
        obtain rfl := Option.some.inj H
        go_wp2_with (first | ((with_reducible refine gate_callee (f := 8) rfl ?_); refine goesL_ (some 15) rfl rfl Try.func8 (by kernel_rfl) rfl #[] rfl (by (try simp only [List.map_toArray, List.map_cons, List.map_nil]); first | done | rfl | (simp only [List.length_drop, List.length_take]; rfl)) ?_; (with_reducible refine (ironbarklaw02_awake.calls kj1  t102 _ A6.out).mono ?_); rintro e w7 ⟨rfl, hb⟩; refine ⟨_, rfl, ?_⟩; have n0_ := Aside0.mk (below_step (by repeat (first | (with_reducible first | exact HB.out | apply below_alloc | apply pw_below_drewN | apply below_drew1) | exact HB.out)) hb); clear HB; have HB := n0_; clear n0_; (try clear hb); (try clear hb2); (try clear hk); (try clear hi)))
        go_ret
        exact ⟨by first | rfl | (simp [errW_none, errW_some] <;> rfl) | (simp [*, errW_none, errW_some] <;> rfl), by repeat (first | (with_reducible first | exact HB.out | apply below_alloc | apply pw_below_drewN | apply below_drew1) | exact HB.out)⟩
      · replace c5 := Bool.eq_false_iff.mpr c5
        subst c5
        have H1 : ((rule_Common.f kj1 l0).bind fun bt103 => ((ironbarkref02_Common.f kj1 l0).bind fun bt111 => (if (!(bt103.1 == bt111.1) || (!(bt103.2.1 == bt111.2.1) || (!(bt103.2.2.1 == bt111.2.2.1) || (!(bt103.2.2.2.1 == bt111.2.2.2.1) || (!(bt103.2.2.2.2.1 == bt111.2.2.2.2.1) || (!(bt103.2.2.2.2.2.1.toList == bt111.2.2.2.2.2.1.toList))))))) = true then (ironbarklaw02_ruleCommon.j1 kj1 l0 bt103.2.2.2.2.2.2 true bt111.1 bt111.2.1 bt111.2.2.1 bt111.2.2.2.1 bt111.2.2.2.2.1 bt111.2.2.2.2.2.1) else (if bt103.2.2.2.2.2.2 = bt111.2.2.2.2.2.2 then (if bt103.2.2.2.2.2.2 = 0 then ((ironbarkref01_Valid.f kj1 bt103.1 bt103.2.1 bt103.2.2.1 bt103.2.2.2.1 bt103.2.2.2.2.1 bt103.2.2.2.2.2.1).bind fun t119 => (ironbarklaw02_ruleCommon.j1 kj1 l0 bt103.2.2.2.2.2.2 (!t119) bt111.1 bt111.2.1 bt111.2.2.1 bt111.2.2.2.1 bt111.2.2.2.2.1 bt111.2.2.2.2.2.1)) else (ironbarklaw02_ruleCommon.j1 kj1 l0 bt103.2.2.2.2.2.2 false bt111.1 bt111.2.1 bt111.2.2.1 bt111.2.2.2.1 bt111.2.2.2.2.1 bt111.2.2.2.2.2.1)) else (ironbarklaw02_ruleCommon.j1 kj1 l0 bt103.2.2.2.2.2.2 true bt111.1 bt111.2.1 bt111.2.2.1 bt111.2.2.2.1 bt111.2.2.2.2.1 bt111.2.2.2.2.2.1))))) = some r := by rw [if_neg (show ¬ (false = true) by decide)] at H; exact H
        clear H
        have H := H1
        clear H1
        replace H := Option.bind_eq_some_iff.mp H
        obtain ⟨⟨t103, t104, t105, t106, t107, t108, t109⟩, A80, H⟩ := H
        replace H : ((ironbarkref02_Common.f kj1 l0).bind fun bt111 => (if (!(t103 == bt111.1) || (!(t104 == bt111.2.1) || (!(t105 == bt111.2.2.1) || (!(t106 == bt111.2.2.2.1) || (!(t107 == bt111.2.2.2.2.1) || (!(t108.toList == bt111.2.2.2.2.2.1.toList))))))) = true then (ironbarklaw02_ruleCommon.j1 kj1 l0 t109 true bt111.1 bt111.2.1 bt111.2.2.1 bt111.2.2.2.1 bt111.2.2.2.2.1 bt111.2.2.2.2.2.1) else (if t109 = bt111.2.2.2.2.2.2 then (if t109 = 0 then ((ironbarkref01_Valid.f kj1 t103 t104 t105 t106 t107 t108).bind fun t119 => (ironbarklaw02_ruleCommon.j1 kj1 l0 t109 (!t119) bt111.1 bt111.2.1 bt111.2.2.1 bt111.2.2.2.1 bt111.2.2.2.2.1 bt111.2.2.2.2.2.1)) else (ironbarklaw02_ruleCommon.j1 kj1 l0 t109 false bt111.1 bt111.2.1 bt111.2.2.1 bt111.2.2.2.1 bt111.2.2.2.2.1 bt111.2.2.2.2.2.1)) else (ironbarklaw02_ruleCommon.j1 kj1 l0 t109 true bt111.1 bt111.2.1 bt111.2.2.1 bt111.2.2.2.1 bt111.2.2.2.2.1 bt111.2.2.2.2.2.1)))) = some r := H
        have A8 := Aside0.mk A80
        clear A80
        replace H := Option.bind_eq_some_iff.mp H
        obtain ⟨⟨t111, t112, t113, t114, t115, t116, t117⟩, A90, H⟩ := H
        replace H : (if (!(t103 == t111) || (!(t104 == t112) || (!(t105 == t113) || (!(t106 == t114) || (!(t107 == t115) || (!(t108.toList == t116.toList))))))) = true then (ironbarklaw02_ruleCommon.j1 kj1 l0 t109 true t111 t112 t113 t114 t115 t116) else (if t109 = t117 then (if t109 = 0 then ((ironbarkref01_Valid.f kj1 t103 t104 t105 t106 t107 t108).bind fun t119 => (ironbarklaw02_ruleCommon.j1 kj1 l0 t109 (!t119) t111 t112 t113 t114 t115 t116)) else (ironbarklaw02_ruleCommon.j1 kj1 l0 t109 false t111 t112 t113 t114 t115 t116)) else (ironbarklaw02_ruleCommon.j1 kj1 l0 t109 true t111 t112 t113 t114 t115 t116))) = some r := H
        have A9 := Aside0.mk A90
        clear A90
        have HC10 := Aside0.mk H
        clear H
        go_upto_region 5 with (first | ((with_reducible refine gate_callee (f := 60) rfl ?_); refine goesL_ (some 18) rfl rfl Try.func60 (by kernel_rfl) rfl #[.slice A0 l0.length c0] rfl (by (try simp only [List.map_toArray, List.map_cons, List.map_nil]); first | done | rfl | (simp only [List.length_drop, List.length_take]; rfl)) ?_; (with_reducible refine (rule_Common.calls kj1 _ _ l0 t103 t104 t105 t106 t107 t108 t109 _ ?side1 ?side2 A8.out).mono ?_); (case side1 => repeat (first | exact (Kd.C_below HR0.out HB.out) | (with_reducible refine Kd.C_alloc ?_ _) | (with_reducible refine Kd.C_drewN ?_ _) | (with_reducible refine Kd.C_drew ?_))); (case side2 => exact HC0.out); rintro e w11 ⟨rfl, hb⟩; refine ⟨_, rfl, ?_⟩; have n0_ := Aside0.mk (below_step (by repeat (first | (with_reducible first | exact HB.out | apply below_alloc | apply pw_below_drewN | apply below_drew1) | exact HB.out)) hb); clear HB; have HB := n0_; clear n0_; (try clear hb); (try clear hb2); (try clear hk); (try clear hi)) | ((with_reducible refine gate_dst (N := 3) rfl ?_); refine box_event ?hg (N := 3) ?hd (cs := #[.int .i64 0, .int .i64 0, .int .i64 0, .int .i64 0, .bool false, .string (⟨#[]⟩ : ByteArray)]) (t := 25) ?hr ?_; (case hd => rfl); (case hg => rfl); (case hr => first | (go_simp; done) | (go_simp; rfl)); intro gb110 hg w12 hbox hb; have n0_ := Aside0.mk (below_step (by repeat (first | (with_reducible first | exact HB.out | apply below_alloc | apply pw_below_drewN | apply below_drew1) | exact HB.out)) hb); have n1_ := Aside0.mk (hbox); have n2_ := Aside0.mk ((by rw [hg]; exact (below_size (by repeat (first | (with_reducible first | exact HB.out | apply below_alloc | apply pw_below_drewN | apply below_drew1) | exact HB.out))) : w.heap.size ≤ gb110)); have n3_ := n2_; clear HB; have HB := n0_; have BK110 := n1_; have GW110 := n2_; have GE110 := n3_; clear n0_ n1_ n2_ n3_; clear hb hbox hg; have hcz13_0 : w12.cell? ⟨gb110, 0, none⟩ = some (.int .i64 0) := (blk_cell BK110.out 0).trans rfl; have hcz13_1 : w12.cell? ⟨gb110, 1, none⟩ = some (.int .i64 0) := (blk_cell BK110.out 1).trans rfl; have hcz13_2 : w12.cell? ⟨gb110, 2, none⟩ = some (.int .i64 0) := (blk_cell BK110.out 2).trans rfl; have hcz13_3 : w12.cell? ⟨gb110, 3, none⟩ = some (.int .i64 0) := (blk_cell BK110.out 3).trans rfl; have hcz13_4 : w12.cell? ⟨gb110, 4, none⟩ = some (.bool false) := (blk_cell BK110.out 4).trans rfl; have hcz13_5 : w12.cell? ⟨gb110, 5, none⟩ = some (.string (⟨#[]⟩ : ByteArray)) := (blk_cell BK110.out 5).trans rfl; have hfz13_0 := blk_frozen BK110.out 0; have hfz13_1 := blk_frozen BK110.out 1; have hfz13_2 := blk_frozen BK110.out 2; have hfz13_3 := blk_frozen BK110.out 3; have hfz13_4 := blk_frozen BK110.out 4; have hfz13_5 := blk_frozen BK110.out 5) | ((with_reducible refine gate_callee (f := 61) rfl ?_); refine goesL_ (some 23) rfl rfl Try.func61 (by kernel_rfl) rfl #[.slice A0 l0.length c0] rfl (by (try simp only [List.map_toArray, List.map_cons, List.map_nil]); first | done | rfl | (simp only [List.length_drop, List.length_take]; rfl)) ?_; (with_reducible refine (ironbarkref02_Common.calls kj1 _ _ l0 t111 t112 t113 t114 t115 t116 t117 _ ?side1 ?side2 A9.out).mono ?_); (case side1 => exact Kd.C_below HR0.out (by repeat (first | (with_reducible first | exact HB.out | apply below_alloc | apply pw_below_drewN | apply below_drew1 | refine below_set ?_ GE110.out) | exact HB.out))); (case side2 => exact HC0.out); rintro e w14 ⟨rfl, hb⟩; refine ⟨_, rfl, ?_⟩; have n0_ := Aside0.mk (blk_below (g := gb110) (o := .cells #[.int .i64 t103, .int .i64 t104, .int .i64 t105, .int .i64 t106, .bool t107, .string t108] 25 (0, 0)) (by (with_reducible repeat (first | refine blk_drewN ?_ _ | refine blk_drew ?_ | refine blk_alloc ?_ _)); refine blk_put (cs := #[.int .i64 t103, .int .i64 t104, .int .i64 t105, .int .i64 t106, .bool t107, .string (⟨#[]⟩ : ByteArray)]) ?_ 5 _ rfl; (with_reducible repeat (first | refine blk_drewN ?_ _ | refine blk_drew ?_ | refine blk_alloc ?_ _)); refine blk_put (cs := #[.int .i64 t103, .int .i64 t104, .int .i64 t105, .int .i64 t106, .bool false, .string (⟨#[]⟩ : ByteArray)]) ?_ 4 _ rfl; (with_reducible repeat (first | refine blk_drewN ?_ _ | refine blk_drew ?_ | refine blk_alloc ?_ _)); refine blk_put (cs := #[.int .i64 t103, .int .i64 t104, .int .i64 t105, .int .i64 0, .bool false, .string (⟨#[]⟩ : ByteArray)]) ?_ 3 _ rfl; (with_reducible repeat (first | refine blk_drewN ?_ _ | refine blk_drew ?_ | refine blk_alloc ?_ _)); refine blk_put (cs := #[.int .i64 t103, .int .i64 t104, .int .i64 0, .int .i64 0, .bool false, .string (⟨#[]⟩ : ByteArray)]) ?_ 2 _ rfl; (with_reducible repeat (first | refine blk_drewN ?_ _ | refine blk_drew ?_ | refine blk_alloc ?_ _)); refine blk_put (cs := #[.int .i64 t103, .int .i64 0, .int .i64 0, .int .i64 0, .bool false, .string (⟨#[]⟩ : ByteArray)]) ?_ 1 _ rfl; (with_reducible repeat (first | refine blk_drewN ?_ _ | refine blk_drew ?_ | refine blk_alloc ?_ _)); refine blk_put (cs := #[.int .i64 0, .int .i64 0, .int .i64 0, .int .i64 0, .bool false, .string (⟨#[]⟩ : ByteArray)]) ?_ 0 _ rfl; (with_reducible repeat (first | refine blk_drewN ?_ _ | refine blk_drew ?_ | refine blk_alloc ?_ _)); exact BK110.out) hb); have n1_ := Aside0.mk (below_step (by repeat (first | (with_reducible first | exact HB.out | apply below_alloc | apply pw_below_drewN | apply below_drew1 | refine below_set ?_ GE110.out) | exact HB.out)) hb); clear BK110; clear HB; have BK110 := n0_; have HB := n1_; clear n0_ n1_; (try clear hb); (try clear hb2); (try clear hk); (try clear hi)) | ((with_reducible refine gate_dst (N := 5) rfl ?_); refine box_event ?hg (N := 5) ?hd (cs := #[.int .i64 0, .int .i64 0, .int .i64 0, .int .i64 0, .bool false, .string (⟨#[]⟩ : ByteArray)]) (t := 25) ?hr ?_; (case hd => rfl); (case hg => rfl); (case hr => first | (go_simp; done) | (go_simp; rfl)); intro gb118 hg w15 hbox hb; have n0_ := Aside0.mk (blk_below (g := gb110) (o := .cells #[.int .i64 t103, .int .i64 t104, .int .i64 t105, .int .i64 t106, .bool t107, .string t108] 25 (0, 0)) (by (with_reducible repeat (first | refine blk_drewN ?_ _ | refine blk_drew ?_ | refine blk_alloc ?_ _)); exact BK110.out) hb); have n1_ := Aside0.mk (below_step (by repeat (first | (with_reducible first | exact HB.out | apply below_alloc | apply pw_below_drewN | apply below_drew1 | refine below_set ?_ GE110.out) | exact HB.out)) hb); have n2_ := Aside0.mk (hbox); have n3_ := Aside0.mk ((by rw [hg]; exact (below_size (by repeat (first | (with_reducible first | exact HB.out | apply below_alloc | apply pw_below_drewN | apply below_drew1 | refine below_set ?_ GE110.out) | exact HB.out))) : w.heap.size ≤ gb118)); have n4_ := n3_; have n5_ := Aside0.mk ((by rw [hg]; exact Nat.ne_of_lt (blk_lt (g := gb110) (o := .cells #[.int .i64 t103, .int .i64 t104, .int .i64 t105, .int .i64 t106, .bool t107, .string t108] 25 (0, 0)) (by (with_reducible repeat (first | refine blk_drewN ?_ _ | refine blk_drew ?_ | refine blk_alloc ?_ _)); exact BK110.out)) : gb110 ≠ gb118)); have n6_ := Aside0.mk ((by rw [hg]; exact Nat.ne_of_gt (blk_lt (g := gb110) (o := .cells #[.int .i64 t103, .int .i64 t104, .int .i64 t105, .int .i64 t106, .bool t107, .string t108] 25 (0, 0)) (by (with_reducible repeat (first | refine blk_drewN ?_ _ | refine blk_drew ?_ | refine blk_alloc ?_ _)); exact BK110.out)) : gb118 ≠ gb110)); clear BK110; clear HB; have BK110 := n0_; have HB := n1_; have BK118 := n2_; have GW118 := n3_; have GE118 := n4_; have NB110_118 := n5_; have NB118_110 := n6_; clear n0_ n1_ n2_ n3_ n4_ n5_ n6_; clear hb hbox hg; have hnb16 := NB118_110.out; have hnc16 := NB110_118.out; have hcz17_0 : w15.cell? ⟨gb118, 0, none⟩ = some (.int .i64 0) := (blk_cell BK118.out 0).trans rfl; have hcz17_1 : w15.cell? ⟨gb118, 1, none⟩ = some (.int .i64 0) := (blk_cell BK118.out 1).trans rfl; have hcz17_2 : w15.cell? ⟨gb118, 2, none⟩ = some (.int .i64 0) := (blk_cell BK118.out 2).trans rfl; have hcz17_3 : w15.cell? ⟨gb118, 3, none⟩ = some (.int .i64 0) := (blk_cell BK118.out 3).trans rfl; have hcz17_4 : w15.cell? ⟨gb118, 4, none⟩ = some (.bool false) := (blk_cell BK118.out 4).trans rfl; have hcz17_5 : w15.cell? ⟨gb118, 5, none⟩ = some (.string (⟨#[]⟩ : ByteArray)) := (blk_cell BK118.out 5).trans rfl; have hfz17_0 := blk_frozen BK118.out 0; have hfz17_1 := blk_frozen BK118.out 1; have hfz17_2 := blk_frozen BK118.out 2; have hfz17_3 := blk_frozen BK118.out 3; have hfz17_4 := blk_frozen BK118.out 4; have hfz17_5 := blk_frozen BK118.out 5))
        (try simp only [Act.put, List.setIfInBounds_toArray, List.set_cons_zero, List.set_cons_succ])
        go_cut [42] (fun v42 wc => ∃ (kq : Nat) (x42_9 : Bool), v42 = .bool x42_9 ∧ Aside0 (ironbarklaw02_ruleCommon.j1 kq l0 t109 x42_9 t111 t112 t113 t114 t115 t116 = some r) ∧ Aside0 (kq ≤ kj1) ∧ Aside0 (wc.heap[gb110]? = some (.cells #[.int .i64 t103, .int .i64 t104, .int .i64 t105, .int .i64 t106, .bool t107, .string t108] 25 (0, 0))) ∧ Aside0 (wc.heap[gb118]? = some (.cells #[.int .i64 t111, .int .i64 t112, .int .i64 t113, .int .i64 t114, .bool t115, .string t116] 25 (0, 0))) ∧ Aside0 (Below w.heap.size w wc))
        case first =>
          have H := HC10.out
          clear HC10
          by_cases c18 : (!(t103 == t111) || (!(t104 == t112) || (!(t105 == t113) || (!(t106 == t114) || (!(t107 == t115) || (!(t108.toList == t116.toList))))))) = true
          · rw [if_pos c18] at H
            have c18b0 : (!(t103 == t111) || (!(t104 == t112) || (!(t105 == t113) || (!(t106 == t114) || (!(t107 == t115) || (!(t108.toList == t116.toList))))))) = true := c18
            clear c18
            (first | rw [c18b0] | (simp only [i64_w, i32_w]; rw [c18b0]) | skip)
            have H' := Aside0.mk H
            clear H
            have hnb19 := NB110_118.out
            have hnc19 := NB118_110.out
            have hcz20_0 : w15.cell? ⟨gb110, 0, none⟩ = some (.int .i64 t103) := (blk_cell BK110.out 0).trans rfl
            have hcz20_1 : w15.cell? ⟨gb110, 1, none⟩ = some (.int .i64 t104) := (blk_cell BK110.out 1).trans rfl
            have hcz20_2 : w15.cell? ⟨gb110, 2, none⟩ = some (.int .i64 t105) := (blk_cell BK110.out 2).trans rfl
            have hcz20_3 : w15.cell? ⟨gb110, 3, none⟩ = some (.int .i64 t106) := (blk_cell BK110.out 3).trans rfl
            have hcz20_4 : w15.cell? ⟨gb110, 4, none⟩ = some (.bool t107) := (blk_cell BK110.out 4).trans rfl
            have hcz20_5 : w15.cell? ⟨gb110, 5, none⟩ = some (.string t108) := (blk_cell BK110.out 5).trans rfl
            have hfz20_0 := blk_frozen BK110.out 0
            have hfz20_1 := blk_frozen BK110.out 1
            have hfz20_2 := blk_frozen BK110.out 2
            have hfz20_3 := blk_frozen BK110.out 3
            have hfz20_4 := blk_frozen BK110.out 4
            have hfz20_5 := blk_frozen BK110.out 5
            have hcz21_0 : w15.cell? ⟨gb118, 0, none⟩ = some (.int .i64 0) := (blk_cell BK118.out 0).trans rfl
            have hcz21_1 : w15.cell? ⟨gb118, 1, none⟩ = some (.int .i64 0) := (blk_cell BK118.out 1).trans rfl
            have hcz21_2 : w15.cell? ⟨gb118, 2, none⟩ = some (.int .i64 0) := (blk_cell BK118.out 2).trans rfl
            have hcz21_3 : w15.cell? ⟨gb118, 3, none⟩ = some (.int .i64 0) := (blk_cell BK118.out 3).trans rfl
            have hcz21_4 : w15.cell? ⟨gb118, 4, none⟩ = some (.bool false) := (blk_cell BK118.out 4).trans rfl
            have hcz21_5 : w15.cell? ⟨gb118, 5, none⟩ = some (.string (⟨#[]⟩ : ByteArray)) := (blk_cell BK118.out 5).trans rfl
            have hfz21_0 := blk_frozen BK118.out 0
            have hfz21_1 := blk_frozen BK118.out 1
            have hfz21_2 := blk_frozen BK118.out 2
            have hfz21_3 := blk_frozen BK118.out 3
            have hfz21_4 := blk_frozen BK118.out 4
            have hfz21_5 := blk_frozen BK118.out 5
            go_wp2
            go_meet
            case rel => exact ⟨_, (true), (by first | rfl | (simp; done) | (generalize ByteArray.toList _ = l_; cases l_ <;> rfl) | (simp [*]; done)), H', ⟨by have := HJ1.out; first | omega | exact Nat.le_refl _⟩, ⟨by (with_reducible repeat (first | refine blk_drewN ?_ _ | refine blk_drew ?_ | refine blk_alloc ?_ _)); refine blk_far ?_ NB110_118.out _; (with_reducible repeat (first | refine blk_drewN ?_ _ | refine blk_drew ?_ | refine blk_alloc ?_ _)); refine blk_far ?_ NB110_118.out _; (with_reducible repeat (first | refine blk_drewN ?_ _ | refine blk_drew ?_ | refine blk_alloc ?_ _)); refine blk_far ?_ NB110_118.out _; (with_reducible repeat (first | refine blk_drewN ?_ _ | refine blk_drew ?_ | refine blk_alloc ?_ _)); refine blk_far ?_ NB110_118.out _; (with_reducible repeat (first | refine blk_drewN ?_ _ | refine blk_drew ?_ | refine blk_alloc ?_ _)); refine blk_far ?_ NB110_118.out _; (with_reducible repeat (first | refine blk_drewN ?_ _ | refine blk_drew ?_ | refine blk_alloc ?_ _)); refine blk_far ?_ NB110_118.out _; (with_reducible repeat (first | refine blk_drewN ?_ _ | refine blk_drew ?_ | refine blk_alloc ?_ _)); exact BK110.out⟩, ⟨by (with_reducible repeat (first | refine blk_drewN ?_ _ | refine blk_drew ?_ | refine blk_alloc ?_ _)); refine blk_put (cs := #[.int .i64 t111, .int .i64 t112, .int .i64 t113, .int .i64 t114, .bool t115, .string (⟨#[]⟩ : ByteArray)]) ?_ 5 _ rfl; (with_reducible repeat (first | refine blk_drewN ?_ _ | refine blk_drew ?_ | refine blk_alloc ?_ _)); refine blk_put (cs := #[.int .i64 t111, .int .i64 t112, .int .i64 t113, .int .i64 t114, .bool false, .string (⟨#[]⟩ : ByteArray)]) ?_ 4 _ rfl; (with_reducible repeat (first | refine blk_drewN ?_ _ | refine blk_drew ?_ | refine blk_alloc ?_ _)); refine blk_put (cs := #[.int .i64 t111, .int .i64 t112, .int .i64 t113, .int .i64 0, .bool false, .string (⟨#[]⟩ : ByteArray)]) ?_ 3 _ rfl; (with_reducible repeat (first | refine blk_drewN ?_ _ | refine blk_drew ?_ | refine blk_alloc ?_ _)); refine blk_put (cs := #[.int .i64 t111, .int .i64 t112, .int .i64 0, .int .i64 0, .bool false, .string (⟨#[]⟩ : ByteArray)]) ?_ 2 _ rfl; (with_reducible repeat (first | refine blk_drewN ?_ _ | refine blk_drew ?_ | refine blk_alloc ?_ _)); refine blk_put (cs := #[.int .i64 t111, .int .i64 0, .int .i64 0, .int .i64 0, .bool false, .string (⟨#[]⟩ : ByteArray)]) ?_ 1 _ rfl; (with_reducible repeat (first | refine blk_drewN ?_ _ | refine blk_drew ?_ | refine blk_alloc ?_ _)); refine blk_put (cs := #[.int .i64 0, .int .i64 0, .int .i64 0, .int .i64 0, .bool false, .string (⟨#[]⟩ : ByteArray)]) ?_ 0 _ rfl; (with_reducible repeat (first | refine blk_drewN ?_ _ | refine blk_drew ?_ | refine blk_alloc ?_ _)); exact BK118.out⟩, ⟨by repeat (first | (with_reducible first | exact HB.out | apply below_alloc | apply pw_below_drewN | apply below_drew1 | refine below_set ?_ GE110.out | refine below_set ?_ GE118.out) | exact HB.out)⟩⟩
          · rw [if_neg c18] at H
            have c18b0 : (!(t103 == t111) || (!(t104 == t112) || (!(t105 == t113) || (!(t106 == t114) || (!(t107 == t115) || (!(t108.toList == t116.toList))))))) = false := by simpa using c18
            clear c18
            (first | rw [c18b0] | (simp only [i64_w, i32_w]; rw [c18b0]) | skip)
            by_cases c22 : t109 = t117
            · rw [if_pos c22] at H
              have c22b0 : (t109 == t117) = true := beq_iff_eq.mpr c22
              have c22b1 : (t109 != t117) = false := bne_eq_false_iff_eq.mpr c22
              clear c22
              by_cases c23 : t109 = 0
              · rw [if_pos c23] at H
                have c23b0 : (t109 == 0) = true := beq_iff_eq.mpr c23
                have c23b1 : (t109 != 0) = false := bne_eq_false_iff_eq.mpr c23
                clear c23
                replace H := Option.bind_eq_some_iff.mp H
                obtain ⟨t119, A240, H⟩ := H
                replace H : (ironbarklaw02_ruleCommon.j1 kj1 l0 t109 (!t119) t111 t112 t113 t114 t115 t116) = some r := H
                have A24 := Aside0.mk A240
                clear A240
                have H' := Aside0.mk H
                clear H
                have hnb25 := NB110_118.out
                have hnc25 := NB118_110.out
                have hcz26_0 : w15.cell? ⟨gb110, 0, none⟩ = some (.int .i64 t103) := (blk_cell BK110.out 0).trans rfl
                have hcz26_1 : w15.cell? ⟨gb110, 1, none⟩ = some (.int .i64 t104) := (blk_cell BK110.out 1).trans rfl
                have hcz26_2 : w15.cell? ⟨gb110, 2, none⟩ = some (.int .i64 t105) := (blk_cell BK110.out 2).trans rfl
                have hcz26_3 : w15.cell? ⟨gb110, 3, none⟩ = some (.int .i64 t106) := (blk_cell BK110.out 3).trans rfl
                have hcz26_4 : w15.cell? ⟨gb110, 4, none⟩ = some (.bool t107) := (blk_cell BK110.out 4).trans rfl
                have hcz26_5 : w15.cell? ⟨gb110, 5, none⟩ = some (.string t108) := (blk_cell BK110.out 5).trans rfl
                have hfz26_0 := blk_frozen BK110.out 0
                have hfz26_1 := blk_frozen BK110.out 1
                have hfz26_2 := blk_frozen BK110.out 2
                have hfz26_3 := blk_frozen BK110.out 3
                have hfz26_4 := blk_frozen BK110.out 4
                have hfz26_5 := blk_frozen BK110.out 5
                have hcz27_0 : w15.cell? ⟨gb118, 0, none⟩ = some (.int .i64 0) := (blk_cell BK118.out 0).trans rfl
                have hcz27_1 : w15.cell? ⟨gb118, 1, none⟩ = some (.int .i64 0) := (blk_cell BK118.out 1).trans rfl
                have hcz27_2 : w15.cell? ⟨gb118, 2, none⟩ = some (.int .i64 0) := (blk_cell BK118.out 2).trans rfl
                have hcz27_3 : w15.cell? ⟨gb118, 3, none⟩ = some (.int .i64 0) := (blk_cell BK118.out 3).trans rfl
                have hcz27_4 : w15.cell? ⟨gb118, 4, none⟩ = some (.bool false) := (blk_cell BK118.out 4).trans rfl
                have hcz27_5 : w15.cell? ⟨gb118, 5, none⟩ = some (.string (⟨#[]⟩ : ByteArray)) := (blk_cell BK118.out 5).trans rfl
                have hfz27_0 := blk_frozen BK118.out 0
                have hfz27_1 := blk_frozen BK118.out 1
                have hfz27_2 := blk_frozen BK118.out 2
                have hfz27_3 := blk_frozen BK118.out 3
                have hfz27_4 := blk_frozen BK118.out 4
                have hfz27_5 := blk_frozen BK118.out 5
                go_wp2_with (first | (go_at_call 20; (with_reducible refine (ironbarkref01_Valid.calls kj1 t103 t104 t105 t106 t107 t108 t119 _ A24.out).mono ?_); rintro e w28 ⟨rfl, hb⟩; have n0_ := Aside0.mk (blk_below (g := gb110) (o := .cells #[.int .i64 t103, .int .i64 t104, .int .i64 t105, .int .i64 t106, .bool t107, .string t108] 25 (0, 0)) (by (with_reducible repeat (first | refine blk_drewN ?_ _ | refine blk_drew ?_ | refine blk_alloc ?_ _)); refine blk_far ?_ NB110_118.out _; (with_reducible repeat (first | refine blk_drewN ?_ _ | refine blk_drew ?_ | refine blk_alloc ?_ _)); refine blk_far ?_ NB110_118.out _; (with_reducible repeat (first | refine blk_drewN ?_ _ | refine blk_drew ?_ | refine blk_alloc ?_ _)); refine blk_far ?_ NB110_118.out _; (with_reducible repeat (first | refine blk_drewN ?_ _ | refine blk_drew ?_ | refine blk_alloc ?_ _)); refine blk_far ?_ NB110_118.out _; (with_reducible repeat (first | refine blk_drewN ?_ _ | refine blk_drew ?_ | refine blk_alloc ?_ _)); refine blk_far ?_ NB110_118.out _; (with_reducible repeat (first | refine blk_drewN ?_ _ | refine blk_drew ?_ | refine blk_alloc ?_ _)); refine blk_far ?_ NB110_118.out _; (with_reducible repeat (first | refine blk_drewN ?_ _ | refine blk_drew ?_ | refine blk_alloc ?_ _)); exact BK110.out) hb); have n1_ := Aside0.mk (blk_below (g := gb118) (o := .cells #[.int .i64 t111, .int .i64 t112, .int .i64 t113, .int .i64 t114, .bool t115, .string t116] 25 (0, 0)) (by (with_reducible repeat (first | refine blk_drewN ?_ _ | refine blk_drew ?_ | refine blk_alloc ?_ _)); refine blk_put (cs := #[.int .i64 t111, .int .i64 t112, .int .i64 t113, .int .i64 t114, .bool t115, .string (⟨#[]⟩ : ByteArray)]) ?_ 5 _ rfl; (with_reducible repeat (first | refine blk_drewN ?_ _ | refine blk_drew ?_ | refine blk_alloc ?_ _)); refine blk_put (cs := #[.int .i64 t111, .int .i64 t112, .int .i64 t113, .int .i64 t114, .bool false, .string (⟨#[]⟩ : ByteArray)]) ?_ 4 _ rfl; (with_reducible repeat (first | refine blk_drewN ?_ _ | refine blk_drew ?_ | refine blk_alloc ?_ _)); refine blk_put (cs := #[.int .i64 t111, .int .i64 t112, .int .i64 t113, .int .i64 0, .bool false, .string (⟨#[]⟩ : ByteArray)]) ?_ 3 _ rfl; (with_reducible repeat (first | refine blk_drewN ?_ _ | refine blk_drew ?_ | refine blk_alloc ?_ _)); refine blk_put (cs := #[.int .i64 t111, .int .i64 t112, .int .i64 0, .int .i64 0, .bool false, .string (⟨#[]⟩ : ByteArray)]) ?_ 2 _ rfl; (with_reducible repeat (first | refine blk_drewN ?_ _ | refine blk_drew ?_ | refine blk_alloc ?_ _)); refine blk_put (cs := #[.int .i64 t111, .int .i64 0, .int .i64 0, .int .i64 0, .bool false, .string (⟨#[]⟩ : ByteArray)]) ?_ 1 _ rfl; (with_reducible repeat (first | refine blk_drewN ?_ _ | refine blk_drew ?_ | refine blk_alloc ?_ _)); refine blk_put (cs := #[.int .i64 0, .int .i64 0, .int .i64 0, .int .i64 0, .bool false, .string (⟨#[]⟩ : ByteArray)]) ?_ 0 _ rfl; (with_reducible repeat (first | refine blk_drewN ?_ _ | refine blk_drew ?_ | refine blk_alloc ?_ _)); exact BK118.out) hb); have n2_ := Aside0.mk (below_step (by repeat (first | (with_reducible first | exact HB.out | apply below_alloc | apply pw_below_drewN | apply below_drew1 | refine below_set ?_ GE110.out | refine below_set ?_ GE118.out) | exact HB.out)) hb); clear BK110; clear BK118; clear HB; have BK110 := n0_; have BK118 := n1_; have HB := n2_; clear n0_ n1_ n2_; (try clear hb); (try clear hb2); (try clear hk); (try clear hi)))
                go_meet
                case rel => exact ⟨_, (!t119), (by first | rfl | (simp; done) | (generalize ByteArray.toList _ = l_; cases l_ <;> rfl) | (simp [*]; done)), H', ⟨by have := HJ1.out; first | omega | exact Nat.le_refl _⟩, ⟨by (with_reducible repeat (first | refine blk_drewN ?_ _ | refine blk_drew ?_ | refine blk_alloc ?_ _)); exact BK110.out⟩, ⟨by (with_reducible repeat (first | refine blk_drewN ?_ _ | refine blk_drew ?_ | refine blk_alloc ?_ _)); exact BK118.out⟩, ⟨by repeat (first | (with_reducible first | exact HB.out | apply below_alloc | apply pw_below_drewN | apply below_drew1 | refine below_set ?_ GE110.out | refine below_set ?_ GE118.out) | exact HB.out)⟩⟩
              · rw [if_neg c23] at H
                have c23b0 : (t109 == 0) = false := beq_eq_false_iff_ne.mpr c23
                have c23b1 : (t109 != 0) = true := bne_iff_ne.mpr c23
                have H' := Aside0.mk H
                clear H
                have hnb29 := NB110_118.out
                have hnc29 := NB118_110.out
                have hcz30_0 : w15.cell? ⟨gb110, 0, none⟩ = some (.int .i64 t103) := (blk_cell BK110.out 0).trans rfl
                have hcz30_1 : w15.cell? ⟨gb110, 1, none⟩ = some (.int .i64 t104) := (blk_cell BK110.out 1).trans rfl
                have hcz30_2 : w15.cell? ⟨gb110, 2, none⟩ = some (.int .i64 t105) := (blk_cell BK110.out 2).trans rfl
                have hcz30_3 : w15.cell? ⟨gb110, 3, none⟩ = some (.int .i64 t106) := (blk_cell BK110.out 3).trans rfl
                have hcz30_4 : w15.cell? ⟨gb110, 4, none⟩ = some (.bool t107) := (blk_cell BK110.out 4).trans rfl
                have hcz30_5 : w15.cell? ⟨gb110, 5, none⟩ = some (.string t108) := (blk_cell BK110.out 5).trans rfl
                have hfz30_0 := blk_frozen BK110.out 0
                have hfz30_1 := blk_frozen BK110.out 1
                have hfz30_2 := blk_frozen BK110.out 2
                have hfz30_3 := blk_frozen BK110.out 3
                have hfz30_4 := blk_frozen BK110.out 4
                have hfz30_5 := blk_frozen BK110.out 5
                have hcz31_0 : w15.cell? ⟨gb118, 0, none⟩ = some (.int .i64 0) := (blk_cell BK118.out 0).trans rfl
                have hcz31_1 : w15.cell? ⟨gb118, 1, none⟩ = some (.int .i64 0) := (blk_cell BK118.out 1).trans rfl
                have hcz31_2 : w15.cell? ⟨gb118, 2, none⟩ = some (.int .i64 0) := (blk_cell BK118.out 2).trans rfl
                have hcz31_3 : w15.cell? ⟨gb118, 3, none⟩ = some (.int .i64 0) := (blk_cell BK118.out 3).trans rfl
                have hcz31_4 : w15.cell? ⟨gb118, 4, none⟩ = some (.bool false) := (blk_cell BK118.out 4).trans rfl
                have hcz31_5 : w15.cell? ⟨gb118, 5, none⟩ = some (.string (⟨#[]⟩ : ByteArray)) := (blk_cell BK118.out 5).trans rfl
                have hfz31_0 := blk_frozen BK118.out 0
                have hfz31_1 := blk_frozen BK118.out 1
                have hfz31_2 := blk_frozen BK118.out 2
                have hfz31_3 := blk_frozen BK118.out 3
                have hfz31_4 := blk_frozen BK118.out 4
                have hfz31_5 := blk_frozen BK118.out 5
                go_wp2
                go_meet
                case rel => exact ⟨_, (false), (by first | rfl | (simp; done) | (generalize ByteArray.toList _ = l_; cases l_ <;> rfl) | (simp [*]; done)), H', ⟨by have := HJ1.out; first | omega | exact Nat.le_refl _⟩, ⟨by (with_reducible repeat (first | refine blk_drewN ?_ _ | refine blk_drew ?_ | refine blk_alloc ?_ _)); refine blk_far ?_ NB110_118.out _; (with_reducible repeat (first | refine blk_drewN ?_ _ | refine blk_drew ?_ | refine blk_alloc ?_ _)); refine blk_far ?_ NB110_118.out _; (with_reducible repeat (first | refine blk_drewN ?_ _ | refine blk_drew ?_ | refine blk_alloc ?_ _)); refine blk_far ?_ NB110_118.out _; (with_reducible repeat (first | refine blk_drewN ?_ _ | refine blk_drew ?_ | refine blk_alloc ?_ _)); refine blk_far ?_ NB110_118.out _; (with_reducible repeat (first | refine blk_drewN ?_ _ | refine blk_drew ?_ | refine blk_alloc ?_ _)); refine blk_far ?_ NB110_118.out _; (with_reducible repeat (first | refine blk_drewN ?_ _ | refine blk_drew ?_ | refine blk_alloc ?_ _)); refine blk_far ?_ NB110_118.out _; (with_reducible repeat (first | refine blk_drewN ?_ _ | refine blk_drew ?_ | refine blk_alloc ?_ _)); exact BK110.out⟩, ⟨by (with_reducible repeat (first | refine blk_drewN ?_ _ | refine blk_drew ?_ | refine blk_alloc ?_ _)); refine blk_put (cs := #[.int .i64 t111, .int .i64 t112, .int .i64 t113, .int .i64 t114, .bool t115, .string (⟨#[]⟩ : ByteArray)]) ?_ 5 _ rfl; (with_reducible repeat (first | refine blk_drewN ?_ _ | refine blk_drew ?_ | refine blk_alloc ?_ _)); refine blk_put (cs := #[.int .i64 t111, .int .i64 t112, .int .i64 t113, .int .i64 t114, .bool false, .string (⟨#[]⟩ : ByteArray)]) ?_ 4 _ rfl; (with_reducible repeat (first | refine blk_drewN ?_ _ | refine blk_drew ?_ | refine blk_alloc ?_ _)); refine blk_put (cs := #[.int .i64 t111, .int .i64 t112, .int .i64 t113, .int .i64 0, .bool false, .string (⟨#[]⟩ : ByteArray)]) ?_ 3 _ rfl; (with_reducible repeat (first | refine blk_drewN ?_ _ | refine blk_drew ?_ | refine blk_alloc ?_ _)); refine blk_put (cs := #[.int .i64 t111, .int .i64 t112, .int .i64 0, .int .i64 0, .bool false, .string (⟨#[]⟩ : ByteArray)]) ?_ 2 _ rfl; (with_reducible repeat (first | refine blk_drewN ?_ _ | refine blk_drew ?_ | refine blk_alloc ?_ _)); refine blk_put (cs := #[.int .i64 t111, .int .i64 0, .int .i64 0, .int .i64 0, .bool false, .string (⟨#[]⟩ : ByteArray)]) ?_ 1 _ rfl; (with_reducible repeat (first | refine blk_drewN ?_ _ | refine blk_drew ?_ | refine blk_alloc ?_ _)); refine blk_put (cs := #[.int .i64 0, .int .i64 0, .int .i64 0, .int .i64 0, .bool false, .string (⟨#[]⟩ : ByteArray)]) ?_ 0 _ rfl; (with_reducible repeat (first | refine blk_drewN ?_ _ | refine blk_drew ?_ | refine blk_alloc ?_ _)); exact BK118.out⟩, ⟨by repeat (first | (with_reducible first | exact HB.out | apply below_alloc | apply pw_below_drewN | apply below_drew1 | refine below_set ?_ GE110.out | refine below_set ?_ GE118.out) | exact HB.out)⟩⟩
            · rw [if_neg c22] at H
              have c22b0 : (t109 == t117) = false := beq_eq_false_iff_ne.mpr c22
              have c22b1 : (t109 != t117) = true := bne_iff_ne.mpr c22
              have H' := Aside0.mk H
              clear H
              have hnb32 := NB110_118.out
              have hnc32 := NB118_110.out
              have hcz33_0 : w15.cell? ⟨gb110, 0, none⟩ = some (.int .i64 t103) := (blk_cell BK110.out 0).trans rfl
              have hcz33_1 : w15.cell? ⟨gb110, 1, none⟩ = some (.int .i64 t104) := (blk_cell BK110.out 1).trans rfl
              have hcz33_2 : w15.cell? ⟨gb110, 2, none⟩ = some (.int .i64 t105) := (blk_cell BK110.out 2).trans rfl
              have hcz33_3 : w15.cell? ⟨gb110, 3, none⟩ = some (.int .i64 t106) := (blk_cell BK110.out 3).trans rfl
              have hcz33_4 : w15.cell? ⟨gb110, 4, none⟩ = some (.bool t107) := (blk_cell BK110.out 4).trans rfl
              have hcz33_5 : w15.cell? ⟨gb110, 5, none⟩ = some (.string t108) := (blk_cell BK110.out 5).trans rfl
              have hfz33_0 := blk_frozen BK110.out 0
              have hfz33_1 := blk_frozen BK110.out 1
              have hfz33_2 := blk_frozen BK110.out 2
              have hfz33_3 := blk_frozen BK110.out 3
              have hfz33_4 := blk_frozen BK110.out 4
              have hfz33_5 := blk_frozen BK110.out 5
              have hcz34_0 : w15.cell? ⟨gb118, 0, none⟩ = some (.int .i64 0) := (blk_cell BK118.out 0).trans rfl
              have hcz34_1 : w15.cell? ⟨gb118, 1, none⟩ = some (.int .i64 0) := (blk_cell BK118.out 1).trans rfl
              have hcz34_2 : w15.cell? ⟨gb118, 2, none⟩ = some (.int .i64 0) := (blk_cell BK118.out 2).trans rfl
              have hcz34_3 : w15.cell? ⟨gb118, 3, none⟩ = some (.int .i64 0) := (blk_cell BK118.out 3).trans rfl
              have hcz34_4 : w15.cell? ⟨gb118, 4, none⟩ = some (.bool false) := (blk_cell BK118.out 4).trans rfl
              have hcz34_5 : w15.cell? ⟨gb118, 5, none⟩ = some (.string (⟨#[]⟩ : ByteArray)) := (blk_cell BK118.out 5).trans rfl
              have hfz34_0 := blk_frozen BK118.out 0
              have hfz34_1 := blk_frozen BK118.out 1
              have hfz34_2 := blk_frozen BK118.out 2
              have hfz34_3 := blk_frozen BK118.out 3
              have hfz34_4 := blk_frozen BK118.out 4
              have hfz34_5 := blk_frozen BK118.out 5
              go_wp2
              go_meet
              case rel => exact ⟨_, (true), (by first | rfl | (simp; done) | (generalize ByteArray.toList _ = l_; cases l_ <;> rfl) | (simp [*]; done)), H', ⟨by have := HJ1.out; first | omega | exact Nat.le_refl _⟩, ⟨by (with_reducible repeat (first | refine blk_drewN ?_ _ | refine blk_drew ?_ | refine blk_alloc ?_ _)); refine blk_far ?_ NB110_118.out _; (with_reducible repeat (first | refine blk_drewN ?_ _ | refine blk_drew ?_ | refine blk_alloc ?_ _)); refine blk_far ?_ NB110_118.out _; (with_reducible repeat (first | refine blk_drewN ?_ _ | refine blk_drew ?_ | refine blk_alloc ?_ _)); refine blk_far ?_ NB110_118.out _; (with_reducible repeat (first | refine blk_drewN ?_ _ | refine blk_drew ?_ | refine blk_alloc ?_ _)); refine blk_far ?_ NB110_118.out _; (with_reducible repeat (first | refine blk_drewN ?_ _ | refine blk_drew ?_ | refine blk_alloc ?_ _)); refine blk_far ?_ NB110_118.out _; (with_reducible repeat (first | refine blk_drewN ?_ _ | refine blk_drew ?_ | refine blk_alloc ?_ _)); refine blk_far ?_ NB110_118.out _; (with_reducible repeat (first | refine blk_drewN ?_ _ | refine blk_drew ?_ | refine blk_alloc ?_ _)); exact BK110.out⟩, ⟨by (with_reducible repeat (first | refine blk_drewN ?_ _ | refine blk_drew ?_ | refine blk_alloc ?_ _)); refine blk_put (cs := #[.int .i64 t111, .int .i64 t112, .int .i64 t113, .int .i64 t114, .bool t115, .string (⟨#[]⟩ : ByteArray)]) ?_ 5 _ rfl; (with_reducible repeat (first | refine blk_drewN ?_ _ | refine blk_drew ?_ | refine blk_alloc ?_ _)); refine blk_put (cs := #[.int .i64 t111, .int .i64 t112, .int .i64 t113, .int .i64 t114, .bool false, .string (⟨#[]⟩ : ByteArray)]) ?_ 4 _ rfl; (with_reducible repeat (first | refine blk_drewN ?_ _ | refine blk_drew ?_ | refine blk_alloc ?_ _)); refine blk_put (cs := #[.int .i64 t111, .int .i64 t112, .int .i64 t113, .int .i64 0, .bool false, .string (⟨#[]⟩ : ByteArray)]) ?_ 3 _ rfl; (with_reducible repeat (first | refine blk_drewN ?_ _ | refine blk_drew ?_ | refine blk_alloc ?_ _)); refine blk_put (cs := #[.int .i64 t111, .int .i64 t112, .int .i64 0, .int .i64 0, .bool false, .string (⟨#[]⟩ : ByteArray)]) ?_ 2 _ rfl; (with_reducible repeat (first | refine blk_drewN ?_ _ | refine blk_drew ?_ | refine blk_alloc ?_ _)); refine blk_put (cs := #[.int .i64 t111, .int .i64 0, .int .i64 0, .int .i64 0, .bool false, .string (⟨#[]⟩ : ByteArray)]) ?_ 1 _ rfl; (with_reducible repeat (first | refine blk_drewN ?_ _ | refine blk_drew ?_ | refine blk_alloc ?_ _)); refine blk_put (cs := #[.int .i64 0, .int .i64 0, .int .i64 0, .int .i64 0, .bool false, .string (⟨#[]⟩ : ByteArray)]) ?_ 0 _ rfl; (with_reducible repeat (first | refine blk_drewN ?_ _ | refine blk_drew ?_ | refine blk_alloc ?_ _)); exact BK118.out⟩, ⟨by repeat (first | (with_reducible first | exact HB.out | apply below_alloc | apply pw_below_drewN | apply below_drew1 | refine below_set ?_ GE110.out | refine below_set ?_ GE118.out) | exact HB.out)⟩⟩
        case rest =>
          clear HC10
          try clear c1
          try clear c2
          try clear p2
          try clear c3
          try clear c3b0
          try clear c3b1
          try clear c5
          try clear c6
          try clear c8
          try clear c16
          try clear c18
          try clear c18b0
          try clear c19
          try clear c22
          try clear c22b0
          try clear c22b1
          try clear c23
          try clear c23b0
          try clear c23b1
          try clear c25
          try clear c29
          try clear c32
          try clear hcz13_0
          try clear hcz13_1
          try clear hcz13_2
          try clear hcz13_3
          try clear hcz13_4
          try clear hcz13_5
          try clear hcz17_0
          try clear hcz17_1
          try clear hcz17_2
          try clear hcz17_3
          try clear hcz17_4
          try clear hcz17_5
          try clear hcz20_0
          try clear hcz20_1
          try clear hcz20_2
          try clear hcz20_3
          try clear hcz20_4
          try clear hcz20_5
          try clear hcz21_0
          try clear hcz21_1
          try clear hcz21_2
          try clear hcz21_3
          try clear hcz21_4
          try clear hcz21_5
          try clear hcz26_0
          try clear hcz26_1
          try clear hcz26_2
          try clear hcz26_3
          try clear hcz26_4
          try clear hcz26_5
          try clear hcz27_0
          try clear hcz27_1
          try clear hcz27_2
          try clear hcz27_3
          try clear hcz27_4
          try clear hcz27_5
          try clear hcz30_0
          try clear hcz30_1
          try clear hcz30_2
          try clear hcz30_3
          try clear hcz30_4
          try clear hcz30_5
          try clear hcz31_0
          try clear hcz31_1
          try clear hcz31_2
          try clear hcz31_3
          try clear hcz31_4
          try clear hcz31_5
          try clear hcz33_0
          try clear hcz33_1
          try clear hcz33_2
          try clear hcz33_3
          try clear hcz33_4
          try clear hcz33_5
          try clear hcz34_0
          try clear hcz34_1
          try clear hcz34_2
          try clear hcz34_3
          try clear hcz34_4
          try clear hcz34_5
          try clear hfz13_0
          try clear hfz13_1
          try clear hfz13_2
          try clear hfz13_3
          try clear hfz13_4
          try clear hfz13_5
          try clear hfz17_0
          try clear hfz17_1
          try clear hfz17_2
          try clear hfz17_3
          try clear hfz17_4
          try clear hfz17_5
          try clear hfz20_0
          try clear hfz20_1
          try clear hfz20_2
          try clear hfz20_3
          try clear hfz20_4
          try clear hfz20_5
          try clear hfz21_0
          try clear hfz21_1
          try clear hfz21_2
          try clear hfz21_3
          try clear hfz21_4
          try clear hfz21_5
          try clear hfz26_0
          try clear hfz26_1
          try clear hfz26_2
          try clear hfz26_3
          try clear hfz26_4
          try clear hfz26_5
          try clear hfz27_0
          try clear hfz27_1
          try clear hfz27_2
          try clear hfz27_3
          try clear hfz27_4
          try clear hfz27_5
          try clear hfz30_0
          try clear hfz30_1
          try clear hfz30_2
          try clear hfz30_3
          try clear hfz30_4
          try clear hfz30_5
          try clear hfz31_0
          try clear hfz31_1
          try clear hfz31_2
          try clear hfz31_3
          try clear hfz31_4
          try clear hfz31_5
          try clear hfz33_0
          try clear hfz33_1
          try clear hfz33_2
          try clear hfz33_3
          try clear hfz33_4
          try clear hfz33_5
          try clear hfz34_0
          try clear hfz34_1
          try clear hfz34_2
          try clear hfz34_3
          try clear hfz34_4
          try clear hfz34_5
          try clear p2
          obtain ⟨kq, x42_9, rfl, HA, HJ9, BK110, BK118, HB⟩ := hcut
          cases kq with
          | zero => exact absurd HA.out (by simp [ironbarklaw02_ruleCommon.j1])
          | succ kj9 =>
            have H := HA.out
            clear HA
            simp only [ironbarklaw02_ruleCommon.j1] at H
            by_cases c35 : x42_9 = true
            · subst c35
              have H1 : (some false) = some r := by rw [if_pos rfl] at H; exact H
              clear H
              have H := H1
              clear H1
              obtain rfl := Option.some.inj H
              go_wp2
              go_ret
              exact ⟨by first | rfl | (simp [errW_none, errW_some] <;> rfl) | (simp [*, errW_none, errW_some] <;> rfl), by repeat (first | (with_reducible first | exact HB.out | apply below_alloc | apply pw_below_drewN | apply below_drew1 | refine below_set ?_ GE110.out | refine below_set ?_ GE118.out) | exact HB.out)⟩
            · replace c35 := Bool.eq_false_iff.mpr c35
              subst c35
              have H1 : (if (l0.length : Int) = 2 then (ironbarklaw02_ruleCommon.j2 kj9 l0 (t109 != 0) t111 t112 t113 t114 t115 t116) else (ironbarklaw02_ruleCommon.j2 kj9 l0 true t111 t112 t113 t114 t115 t116)) = some r := by rw [if_neg (show ¬ (false = true) by decide)] at H; exact H
              clear H
              have H := H1
              clear H1
              have HC36 := Aside0.mk H
              clear H
              go_upto_region 7 with (fail)
              go_cut [49] (fun v49 wc => ∃ (kq : Nat) (x49_35 : Bool), v49 = .bool x49_35 ∧ Aside0 (ironbarklaw02_ruleCommon.j2 kq l0 x49_35 t111 t112 t113 t114 t115 t116 = some r) ∧ Aside0 (kq ≤ kj9) ∧ Aside0 (wc.heap[gb110]? = some (.cells #[.int .i64 t103, .int .i64 t104, .int .i64 t105, .int .i64 t106, .bool t107, .string t108] 25 (0, 0))) ∧ Aside0 (wc.heap[gb118]? = some (.cells #[.int .i64 t111, .int .i64 t112, .int .i64 t113, .int .i64 t114, .bool t115, .string t116] 25 (0, 0))) ∧ Aside0 (Below w.heap.size w wc))
              case first =>
                have H := HC36.out
                clear HC36
                by_cases c37 : (l0.length : Int) = 2
                · rw [if_pos c37] at H
                  have c37b0 : ((l0.length : Int) == 2) = true := beq_iff_eq.mpr c37
                  have c37b1 : ((l0.length : Int) != 2) = false := bne_eq_false_iff_eq.mpr c37
                  clear c37
                  (first | rw [c37b0] | (simp only [i64_w, i32_w]; rw [c37b0]) | skip)
                  have H' := Aside0.mk H
                  clear H
                  go_wp2
                  go_meet
                  case rel => exact ⟨_, ((t109 != 0)), (by first | rfl | (simp; done) | (generalize ByteArray.toList _ = l_; cases l_ <;> rfl) | (simp [*]; done)), H', ⟨by have := HJ1.out; have := HJ9.out; first | omega | exact Nat.le_refl _⟩, ⟨by (with_reducible repeat (first | refine blk_drewN ?_ _ | refine blk_drew ?_ | refine blk_alloc ?_ _)); exact BK110.out⟩, ⟨by (with_reducible repeat (first | refine blk_drewN ?_ _ | refine blk_drew ?_ | refine blk_alloc ?_ _)); exact BK118.out⟩, ⟨by repeat (first | (with_reducible first | exact HB.out | apply below_alloc | apply pw_below_drewN | apply below_drew1 | refine below_set ?_ GE110.out | refine below_set ?_ GE118.out) | exact HB.out)⟩⟩
                · rw [if_neg c37] at H
                  have c37b0 : ((l0.length : Int) == 2) = false := beq_eq_false_iff_ne.mpr c37
                  have c37b1 : ((l0.length : Int) != 2) = true := bne_iff_ne.mpr c37
                  (first | rw [c37b0] | (simp only [i64_w, i32_w]; rw [c37b0]) | skip)
                  have H' := Aside0.mk H
                  clear H
                  go_wp2
                  go_meet
                  case rel => exact ⟨_, (true), (by first | rfl | (simp; done) | (generalize ByteArray.toList _ = l_; cases l_ <;> rfl) | (simp [*]; done)), H', ⟨by have := HJ1.out; have := HJ9.out; first | omega | exact Nat.le_refl _⟩, ⟨by (with_reducible repeat (first | refine blk_drewN ?_ _ | refine blk_drew ?_ | refine blk_alloc ?_ _)); exact BK110.out⟩, ⟨by (with_reducible repeat (first | refine blk_drewN ?_ _ | refine blk_drew ?_ | refine blk_alloc ?_ _)); exact BK118.out⟩, ⟨by repeat (first | (with_reducible first | exact HB.out | apply below_alloc | apply pw_below_drewN | apply below_drew1 | refine below_set ?_ GE110.out | refine below_set ?_ GE118.out) | exact HB.out)⟩⟩
              case rest =>
                clear HC36
                try clear c1
                try clear c2
                try clear p2
                try clear c3
                try clear c3b0
                try clear c3b1
                try clear c5
                try clear c6
                try clear c8
                try clear c16
                try clear c18
                try clear c18b0
                try clear c19
                try clear c22
                try clear c22b0
                try clear c22b1
                try clear c23
                try clear c23b0
                try clear c23b1
                try clear c25
                try clear c29
                try clear c32
                try clear c35
                try clear c37
                try clear c37b0
                try clear c37b1
                try clear hcz13_0
                try clear hcz13_1
                try clear hcz13_2
                try clear hcz13_3
                try clear hcz13_4
                try clear hcz13_5
                try clear hcz17_0
                try clear hcz17_1
                try clear hcz17_2
                try clear hcz17_3
                try clear hcz17_4
                try clear hcz17_5
                try clear hcz20_0
                try clear hcz20_1
                try clear hcz20_2
                try clear hcz20_3
                try clear hcz20_4
                try clear hcz20_5
                try clear hcz21_0
                try clear hcz21_1
                try clear hcz21_2
                try clear hcz21_3
                try clear hcz21_4
                try clear hcz21_5
                try clear hcz26_0
                try clear hcz26_1
                try clear hcz26_2
                try clear hcz26_3
                try clear hcz26_4
                try clear hcz26_5
                try clear hcz27_0
                try clear hcz27_1
                try clear hcz27_2
                try clear hcz27_3
                try clear hcz27_4
                try clear hcz27_5
                try clear hcz30_0
                try clear hcz30_1
                try clear hcz30_2
                try clear hcz30_3
                try clear hcz30_4
                try clear hcz30_5
                try clear hcz31_0
                try clear hcz31_1
                try clear hcz31_2
                try clear hcz31_3
                try clear hcz31_4
                try clear hcz31_5
                try clear hcz33_0
                try clear hcz33_1
                try clear hcz33_2
                try clear hcz33_3
                try clear hcz33_4
                try clear hcz33_5
                try clear hcz34_0
                try clear hcz34_1
                try clear hcz34_2
                try clear hcz34_3
                try clear hcz34_4
                try clear hcz34_5
                try clear hfz13_0
                try clear hfz13_1
                try clear hfz13_2
                try clear hfz13_3
                try clear hfz13_4
                try clear hfz13_5
                try clear hfz17_0
                try clear hfz17_1
                try clear hfz17_2
                try clear hfz17_3
                try clear hfz17_4
                try clear hfz17_5
                try clear hfz20_0
                try clear hfz20_1
                try clear hfz20_2
                try clear hfz20_3
                try clear hfz20_4
                try clear hfz20_5
                try clear hfz21_0
                try clear hfz21_1
                try clear hfz21_2
                try clear hfz21_3
                try clear hfz21_4
                try clear hfz21_5
                try clear hfz26_0
                try clear hfz26_1
                try clear hfz26_2
                try clear hfz26_3
                try clear hfz26_4
                try clear hfz26_5
                try clear hfz27_0
                try clear hfz27_1
                try clear hfz27_2
                try clear hfz27_3
                try clear hfz27_4
                try clear hfz27_5
                try clear hfz30_0
                try clear hfz30_1
                try clear hfz30_2
                try clear hfz30_3
                try clear hfz30_4
                try clear hfz30_5
                try clear hfz31_0
                try clear hfz31_1
                try clear hfz31_2
                try clear hfz31_3
                try clear hfz31_4
                try clear hfz31_5
                try clear hfz33_0
                try clear hfz33_1
                try clear hfz33_2
                try clear hfz33_3
                try clear hfz33_4
                try clear hfz33_5
                try clear hfz34_0
                try clear hfz34_1
                try clear hfz34_2
                try clear hfz34_3
                try clear hfz34_4
                try clear hfz34_5
                try clear p2
                obtain ⟨kq, x49_35, rfl, HA, HJ35, BK110, BK118, HB⟩ := hcut
                cases kq with
                | zero => exact absurd HA.out (by simp [ironbarklaw02_ruleCommon.j2])
                | succ kj35 =>
                  have H := HA.out
                  clear HA
                  simp only [ironbarklaw02_ruleCommon.j2] at H
                  by_cases c38 : x49_35 = true
                  · subst c38
                    have H1 : ((ironbarklaw02_awake.f kj35).bind fun t120 => (some t120)) = some r := by rw [if_pos rfl] at H; exact H
                    clear H
                    have H := H1
                    clear H1
                    replace H := Option.bind_eq_some_iff.mp H
                    obtain ⟨t120, A390, H⟩ := H
                    replace H : (some t120) = some r := H
                    have A39 := Aside0.mk A390
                    clear A390
                    obtain rfl := Option.some.inj H
                    go_wp2_with (first | ((with_reducible refine gate_callee (f := 8) rfl ?_); refine goesL_ (some 50) rfl rfl Try.func8 (by kernel_rfl) rfl #[] rfl (by (try simp only [List.map_toArray, List.map_cons, List.map_nil]); first | done | rfl | (simp only [List.length_drop, List.length_take]; rfl)) ?_; (with_reducible refine (ironbarklaw02_awake.calls kj35  t120 _ A39.out).mono ?_); rintro e w40 ⟨rfl, hb⟩; refine ⟨_, rfl, ?_⟩; have n0_ := Aside0.mk (blk_below (g := gb110) (o := .cells #[.int .i64 t103, .int .i64 t104, .int .i64 t105, .int .i64 t106, .bool t107, .string t108] 25 (0, 0)) (by (with_reducible repeat (first | refine blk_drewN ?_ _ | refine blk_drew ?_ | refine blk_alloc ?_ _)); exact BK110.out) hb); have n1_ := Aside0.mk (blk_below (g := gb118) (o := .cells #[.int .i64 t111, .int .i64 t112, .int .i64 t113, .int .i64 t114, .bool t115, .string t116] 25 (0, 0)) (by (with_reducible repeat (first | refine blk_drewN ?_ _ | refine blk_drew ?_ | refine blk_alloc ?_ _)); exact BK118.out) hb); have n2_ := Aside0.mk (below_step (by repeat (first | (with_reducible first | exact HB.out | apply below_alloc | apply pw_below_drewN | apply below_drew1 | refine below_set ?_ GE110.out | refine below_set ?_ GE118.out) | exact HB.out)) hb); clear BK110; clear BK118; clear HB; have BK110 := n0_; have BK118 := n1_; have HB := n2_; clear n0_ n1_ n2_; (try clear hb); (try clear hb2); (try clear hk); (try clear hi)))
                    go_ret
                    exact ⟨by first | rfl | (simp [errW_none, errW_some] <;> rfl) | (simp [*, errW_none, errW_some] <;> rfl), by repeat (first | (with_reducible first | exact HB.out | apply below_alloc | apply pw_below_drewN | apply below_drew1 | refine below_set ?_ GE110.out | refine below_set ?_ GE118.out) | exact HB.out)⟩
                  · replace c38 := Bool.eq_false_iff.mpr c38
                    subst c38
                    have H1 : (if 1 < (l0.length : Int) then (if 0 < (l0.length : Int) then ((rule_Common.f kj35 (([(⟨(rd_T25 l0 1).f0, (rd_T25 l0 1).f1, (rd_T25 l0 1).f2, (rd_T25 l0 1).f3, (rd_T25 l0 1).f4, (rd_T25 l0 1).f5⟩ : S25), (⟨(rd_T25 l0 0).f0, (rd_T25 l0 0).f1, (rd_T25 l0 0).f2, (rd_T25 l0 0).f3, (rd_T25 l0 0).f4, (rd_T25 l0 0).f5⟩ : S25)] : List (S25)))).bind fun bt126 => (if bt126.2.2.2.2.2.2 = 0 then (if (bt126.1 == t111 && (bt126.2.1 == t112 && (bt126.2.2.1 == t113 && (bt126.2.2.2.1 == t114 && (bt126.2.2.2.2.1 == t115 && (bt126.2.2.2.2.2.1.toList == t116.toList)))))) = true then ((ironbarklaw02_awake.f kj35).bind fun t133 => (some t133)) else (some false)) else (some false))) else (none)) else (none)) = some r := by rw [if_neg (show ¬ (false = true) by decide)] at H; exact H
                    clear H
                    have H := H1
                    clear H1
                    by_cases c41 : 1 < (l0.length : Int)
                    · rw [if_pos c41] at H
                      have c41b0 : decide (1 < (l0.length : Int)) = true := decide_eq_true c41
                      have c41b1 : decide (1 < l0.length) = true := decide_eq_true (by omega)
                      clear c41
                      by_cases c42 : 0 < (l0.length : Int)
                      · rw [if_pos c42] at H
                        have c42b0 : decide (0 < (l0.length : Int)) = true := decide_eq_true c42
                        have c42b1 : decide (0 < l0.length) = true := decide_eq_true (by omega)
                        clear c42
                        obtain ⟨y123, hy123⟩ : ∃ y_ : List (S25), y_ = (([(⟨(rd_T25 l0 1).f0, (rd_T25 l0 1).f1, (rd_T25 l0 1).f2, (rd_T25 l0 1).f3, (rd_T25 l0 1).f4, (rd_T25 l0 1).f5⟩ : S25), (⟨(rd_T25 l0 0).f0, (rd_T25 l0 0).f1, (rd_T25 l0 0).f2, (rd_T25 l0 0).f3, (rd_T25 l0 0).f4, (rd_T25 l0 0).f5⟩ : S25)] : List (S25))) := ⟨_, rfl⟩
                        replace H : ((rule_Common.f kj35 y123).bind fun bt126 => (if bt126.2.2.2.2.2.2 = 0 then (if (bt126.1 == t111 && (bt126.2.1 == t112 && (bt126.2.2.1 == t113 && (bt126.2.2.2.1 == t114 && (bt126.2.2.2.2.1 == t115 && (bt126.2.2.2.2.2.1.toList == t116.toList)))))) = true then ((ironbarklaw02_awake.f kj35).bind fun t133 => (some t133)) else (some false)) else (some false))) = some r := by first | (rw [hy123]; with_reducible exact H) | (have H2_ := (Option.bind_some _ _).symm.trans H; rw [hy123]; with_reducible exact H2_) | (have H2_ := (Option.bind_some _ _).symm.trans H; with_reducible exact H2_) | with_reducible exact H | (rw [hy123]; exact H) | exact H
                        have Ny123 := Aside0.mk hy123
                        clear hy123
                        replace H := Option.bind_eq_some_iff.mp H
                        obtain ⟨⟨t126, t127, t128, t129, t130, t131, t132⟩, A430, H⟩ := H
                        replace H : (if t132 = 0 then (if (t126 == t111 && (t127 == t112 && (t128 == t113 && (t129 == t114 && (t130 == t115 && (t131.toList == t116.toList)))))) = true then ((ironbarklaw02_awake.f kj35).bind fun t133 => (some t133)) else (some false)) else (some false)) = some r := H
                        have A43 := Aside0.mk A430
                        clear A430
                        by_cases c44 : t132 = 0
                        · rw [if_pos c44] at H
                          have c44b0 : (t132 == 0) = true := beq_iff_eq.mpr c44
                          have c44b1 : (t132 != 0) = false := bne_eq_false_iff_eq.mpr c44
                          clear c44
                          by_cases c45 : (t126 == t111 && (t127 == t112 && (t128 == t113 && (t129 == t114 && (t130 == t115 && (t131.toList == t116.toList)))))) = true
                          · rw [if_pos c45] at H
                            have c45b0 : (t126 == t111 && (t127 == t112 && (t128 == t113 && (t129 == t114 && (t130 == t115 && (t131.toList == t116.toList)))))) = true := c45
                            (try (have c45b1 : decide (t126 = t111 && (t127 == t112 && (t128 == t113 && (t129 == t114 && (t130 == t115 && (t131.toList == t116.toList)))))) = true := by simpa using c45))
                            (try (have c45b2 : (t126 == t111 && (t127 == t112 && (t128 == t113 && (t129 == t114 && (t130 == t115 && (t131.toList == t116.toList)))))) = true := by simpa using c45))
                            clear c45
                            replace H := Option.bind_eq_some_iff.mp H
                            obtain ⟨t133, A460, H⟩ := H
                            replace H : (some t133) = some r := H
                            have A46 := Aside0.mk A460
                            clear A460
                            obtain rfl := Option.some.inj H
                            try go_wp2
                            have n0_ := Aside0.mk (blk_drew BK110.out)
                            have n1_ := Aside0.mk (blk_drew BK118.out)
                            have n2_ := Aside0.mk (below_drew1 HB.out)
                            clear BK110
                            clear BK118
                            clear HB
                            have BK110 := n0_
                            have BK118 := n1_
                            have HB := n2_
                            clear n0_ n1_ n2_
                            have p121 : 0 ≤ (1 : Int) := (by omega)
                            have q121 : 1 < (l0.length : Int) := of_decide_eq_true (by first | (with_reducible assumption) | assumption)
                            obtain ⟨ad121, e121, hx121_0, hx121_1, hx121_2, hx121_3, hx121_4, hx121_5⟩ := at_T25 HR0.out 1 p121 q121
                            have hw121_5 := hx121_5
                            (try rw [show ((1 : Int)).toNat = 1 from rfl] at hw121_5)
                            (try rw [show 1 * 6 = 6 from rfl] at hw121_5)
                            (try simp only [Nat.reduceMul, Nat.reduceEqDiff, Go.Addr.add, ↓reduceIte] at hw121_5)
                            have hw121_4 := hx121_4
                            (try rw [show ((1 : Int)).toNat = 1 from rfl] at hw121_4)
                            (try rw [show 1 * 6 = 6 from rfl] at hw121_4)
                            (try simp only [Nat.reduceMul, Nat.reduceEqDiff, Go.Addr.add, ↓reduceIte] at hw121_4)
                            have hw121_3 := hx121_3
                            (try rw [show ((1 : Int)).toNat = 1 from rfl] at hw121_3)
                            (try rw [show 1 * 6 = 6 from rfl] at hw121_3)
                            (try simp only [Nat.reduceMul, Nat.reduceEqDiff, Go.Addr.add, ↓reduceIte] at hw121_3)
                            have hw121_2 := hx121_2
                            (try rw [show ((1 : Int)).toNat = 1 from rfl] at hw121_2)
                            (try rw [show 1 * 6 = 6 from rfl] at hw121_2)
                            (try simp only [Nat.reduceMul, Nat.reduceEqDiff, Go.Addr.add, ↓reduceIte] at hw121_2)
                            have hw121_1 := hx121_1
                            (try rw [show ((1 : Int)).toNat = 1 from rfl] at hw121_1)
                            (try rw [show 1 * 6 = 6 from rfl] at hw121_1)
                            (try simp only [Nat.reduceMul, Nat.reduceEqDiff, Go.Addr.add, ↓reduceIte] at hw121_1)
                            have hw121_0 := hx121_0
                            (try rw [show ((1 : Int)).toNat = 1 from rfl] at hw121_0)
                            (try rw [show 1 * 6 = 6 from rfl] at hw121_0)
                            (try simp only [Nat.reduceMul, Nat.reduceEqDiff, Go.Addr.add, ↓reduceIte] at hw121_0)
                            cases e121
                            (try simp only [show (1 : Int).toNat = 1 from rfl, Nat.reduceMul, Nat.reduceEqDiff, Go.Addr.add, ↓reduceIte] at hx121_0)
                            (try simp only [show (1 : Int).toNat = 1 from rfl, Nat.reduceMul, Nat.reduceEqDiff, Go.Addr.add, ↓reduceIte] at hx121_1)
                            (try simp only [show (1 : Int).toNat = 1 from rfl, Nat.reduceMul, Nat.reduceEqDiff, Go.Addr.add, ↓reduceIte] at hx121_2)
                            (try simp only [show (1 : Int).toNat = 1 from rfl, Nat.reduceMul, Nat.reduceEqDiff, Go.Addr.add, ↓reduceIte] at hx121_3)
                            (try simp only [show (1 : Int).toNat = 1 from rfl, Nat.reduceMul, Nat.reduceEqDiff, Go.Addr.add, ↓reduceIte] at hx121_4)
                            (try simp only [show (1 : Int).toNat = 1 from rfl, Nat.reduceMul, Nat.reduceEqDiff, Go.Addr.add, ↓reduceIte] at hx121_5)
                            have qi121 : (1 < l0.length) = True := eq_true (by omega)
                            (try rw [show ((1 : Int)).toNat = 1 from rfl] at hx121_0)
                            (try rw [show 1 * 6 = 6 from rfl] at hx121_0)
                            (try rw [show ((1 : Int)).toNat = 1 from rfl] at hx121_1)
                            (try rw [show 1 * 6 = 6 from rfl] at hx121_1)
                            (try rw [show ((1 : Int)).toNat = 1 from rfl] at hx121_2)
                            (try rw [show 1 * 6 = 6 from rfl] at hx121_2)
                            (try rw [show ((1 : Int)).toNat = 1 from rfl] at hx121_3)
                            (try rw [show 1 * 6 = 6 from rfl] at hx121_3)
                            (try rw [show ((1 : Int)).toNat = 1 from rfl] at hx121_4)
                            (try rw [show 1 * 6 = 6 from rfl] at hx121_4)
                            (try rw [show ((1 : Int)).toNat = 1 from rfl] at hx121_5)
                            (try rw [show 1 * 6 = 6 from rfl] at hx121_5)
                            replace hx121_0 := (HB.out.cell (World.block_lt_of_cell? w _ hx121_0)).trans hx121_0
                            replace hx121_1 := (HB.out.cell (World.block_lt_of_cell? w _ hx121_1)).trans hx121_1
                            replace hx121_2 := (HB.out.cell (World.block_lt_of_cell? w _ hx121_2)).trans hx121_2
                            replace hx121_3 := (HB.out.cell (World.block_lt_of_cell? w _ hx121_3)).trans hx121_3
                            replace hx121_4 := (HB.out.cell (World.block_lt_of_cell? w _ hx121_4)).trans hx121_4
                            replace hx121_5 := (HB.out.cell (World.block_lt_of_cell? w _ hx121_5)).trans hx121_5
                            replace p121 := eq_true p121
                            replace q121 := eq_true q121
                            have p122 : 0 ≤ (0 : Int) := (by omega)
                            have q122 : 0 < (l0.length : Int) := of_decide_eq_true (by first | (with_reducible assumption) | assumption)
                            obtain ⟨ad122, e122, hx122_0, hx122_1, hx122_2, hx122_3, hx122_4, hx122_5⟩ := at_T25 HR0.out 0 p122 q122
                            have hw122_5 := hx122_5
                            (try rw [show ((0 : Int)).toNat = 0 from rfl] at hw122_5)
                            (try rw [show 0 * 6 = 0 from rfl] at hw122_5)
                            (try rw [Addr.add_zero'] at hw122_5)
                            have hw122_4 := hx122_4
                            (try rw [show ((0 : Int)).toNat = 0 from rfl] at hw122_4)
                            (try rw [show 0 * 6 = 0 from rfl] at hw122_4)
                            (try rw [Addr.add_zero'] at hw122_4)
                            have hw122_3 := hx122_3
                            (try rw [show ((0 : Int)).toNat = 0 from rfl] at hw122_3)
                            (try rw [show 0 * 6 = 0 from rfl] at hw122_3)
                            (try rw [Addr.add_zero'] at hw122_3)
                            have hw122_2 := hx122_2
                            (try rw [show ((0 : Int)).toNat = 0 from rfl] at hw122_2)
                            (try rw [show 0 * 6 = 0 from rfl] at hw122_2)
                            (try rw [Addr.add_zero'] at hw122_2)
                            have hw122_1 := hx122_1
                            (try rw [show ((0 : Int)).toNat = 0 from rfl] at hw122_1)
                            (try rw [show 0 * 6 = 0 from rfl] at hw122_1)
                            (try rw [Addr.add_zero'] at hw122_1)
                            have hw122_0 := hx122_0
                            (try rw [show ((0 : Int)).toNat = 0 from rfl] at hw122_0)
                            (try rw [show 0 * 6 = 0 from rfl] at hw122_0)
                            (try rw [Addr.add_zero'] at hw122_0)
                            obtain rfl : ad121 = ad122 := (by injection e122)
                            have qi122 : (0 < l0.length) = True := eq_true (by omega)
                            (try rw [show ((0 : Int)).toNat = 0 from rfl] at hx122_0)
                            (try rw [show 0 * 6 = 0 from rfl] at hx122_0)
                            (try rw [Addr.add_zero'] at hx122_0)
                            (try rw [show ((0 : Int)).toNat = 0 from rfl] at hx122_1)
                            (try rw [show 0 * 6 = 0 from rfl] at hx122_1)
                            (try rw [Addr.add_zero'] at hx122_1)
                            (try rw [show ((0 : Int)).toNat = 0 from rfl] at hx122_2)
                            (try rw [show 0 * 6 = 0 from rfl] at hx122_2)
                            (try rw [Addr.add_zero'] at hx122_2)
                            (try rw [show ((0 : Int)).toNat = 0 from rfl] at hx122_3)
                            (try rw [show 0 * 6 = 0 from rfl] at hx122_3)
                            (try rw [Addr.add_zero'] at hx122_3)
                            (try rw [show ((0 : Int)).toNat = 0 from rfl] at hx122_4)
                            (try rw [show 0 * 6 = 0 from rfl] at hx122_4)
                            (try rw [Addr.add_zero'] at hx122_4)
                            (try rw [show ((0 : Int)).toNat = 0 from rfl] at hx122_5)
                            (try rw [show 0 * 6 = 0 from rfl] at hx122_5)
                            (try rw [Addr.add_zero'] at hx122_5)
                            replace hx122_0 := (HB.out.cell (World.block_lt_of_cell? w _ hx122_0)).trans hx122_0
                            replace hx122_1 := (HB.out.cell (World.block_lt_of_cell? w _ hx122_1)).trans hx122_1
                            replace hx122_2 := (HB.out.cell (World.block_lt_of_cell? w _ hx122_2)).trans hx122_2
                            replace hx122_3 := (HB.out.cell (World.block_lt_of_cell? w _ hx122_3)).trans hx122_3
                            replace hx122_4 := (HB.out.cell (World.block_lt_of_cell? w _ hx122_4)).trans hx122_4
                            replace hx122_5 := (HB.out.cell (World.block_lt_of_cell? w _ hx122_5)).trans hx122_5
                            replace p122 := eq_true p122
                            replace q122 := eq_true q122
                            refine start_ (n := 13) (S := fun w' => w'.cell? ⟨ad121.block, ad121.off + 6, none⟩ = some (.int .i64 ((rd_T25 l0 1).f0)) ∧ w'.cell? ⟨ad121.block, ad121.off + 6 + 1, none⟩ = some (.int .i64 ((rd_T25 l0 1).f1)) ∧ w'.cell? ⟨ad121.block, ad121.off + 6 + 2, none⟩ = some (.int .i64 ((rd_T25 l0 1).f2)) ∧ w'.cell? ⟨ad121.block, ad121.off + 6 + 3, none⟩ = some (.int .i64 ((rd_T25 l0 1).f3)) ∧ w'.cell? ⟨ad121.block, ad121.off + 6 + 4, none⟩ = some (.bool ((rd_T25 l0 1).f4)) ∧ w'.cell? ⟨ad121.block, ad121.off + 6 + 5, none⟩ = some (.string ((rd_T25 l0 1).f5)) ∧ w'.cell? ad121 = some (.int .i64 ((rd_T25 l0 0).f0)) ∧ w'.cell? ⟨ad121.block, ad121.off + 1, none⟩ = some (.int .i64 ((rd_T25 l0 0).f1)) ∧ w'.cell? ⟨ad121.block, ad121.off + 2, none⟩ = some (.int .i64 ((rd_T25 l0 0).f2)) ∧ w'.cell? ⟨ad121.block, ad121.off + 3, none⟩ = some (.int .i64 ((rd_T25 l0 0).f3)) ∧ w'.cell? ⟨ad121.block, ad121.off + 4, none⟩ = some (.bool ((rd_T25 l0 0).f4)) ∧ w'.cell? ⟨ad121.block, ad121.off + 5, none⟩ = some (.string ((rd_T25 l0 0).f5))) (ds := []) #[false, false, false, false, false, false, false, false, false, false, false, false, false] (by kernel_rfl) rfl rfl ⟨((HB.out.cell (World.block_lt_of_cell? w _ hw121_0)).trans hw121_0), ((HB.out.cell (World.block_lt_of_cell? w _ hw121_1)).trans hw121_1), ((HB.out.cell (World.block_lt_of_cell? w _ hw121_2)).trans hw121_2), ((HB.out.cell (World.block_lt_of_cell? w _ hw121_3)).trans hw121_3), ((HB.out.cell (World.block_lt_of_cell? w _ hw121_4)).trans hw121_4), ((HB.out.cell (World.block_lt_of_cell? w _ hw121_5)).trans hw121_5), ((HB.out.cell (World.block_lt_of_cell? w _ hw122_0)).trans hw122_0), ((HB.out.cell (World.block_lt_of_cell? w _ hw122_1)).trans hw122_1), ((HB.out.cell (World.block_lt_of_cell? w _ hw122_2)).trans hw122_2), ((HB.out.cell (World.block_lt_of_cell? w _ hw122_3)).trans hw122_3), ((HB.out.cell (World.block_lt_of_cell? w _ hw122_4)).trans hw122_4), ((HB.out.cell (World.block_lt_of_cell? w _ hw122_5)).trans hw122_5)⟩ (fun hHeld => ?_); refine with_tabW ironbarklaw02_ruleCommon.tab9 ironbarklaw02_ruleCommon.bits9 (fun HT_ HW_ => ?_)
                            generalize wc.drew = w47 at BK110 BK118 HB hx121_0 hx121_1 hx121_2 hx121_3 hx121_4 hx121_5 hx122_0 hx122_1 hx122_2 hx122_3 hx122_4 hx122_5 hHeld ⊢
                            refine pure_ (i := 0) (N := some 52) (v := ?_) (a' := ?_) #[true, false, false, false, false, false, false, false, false, false, false, false, false] rfl rfl (any_of HT_.out (by kernel_rfl)) (fun _ _ _ h => h) (Or.inl ⟨by rfl, ?_⟩) ?_ ?_
                            rotate_left
                            · intro w'
                              go_simp
                              with_reducible rfl
                            rotate_left
                            · simp only [Act.put, List.setIfInBounds_toArray, List.set_cons_zero, List.set_cons_succ, i64_w, i32_w]
                              rfl
                            refine pure_ (i := 1) (N := some 53) (v := ?_) (a' := ?_) #[true, true, false, false, false, false, false, false, false, false, false, false, false] rfl rfl (any_of HT_.out (by kernel_rfl)) (fun _ _ _ h => h) (Or.inl ⟨by rfl, ?_⟩) ?_ ?_
                            rotate_left
                            · intro w'
                              go_simp
                              with_reducible rfl
                            rotate_left
                            · simp only [Act.put, List.setIfInBounds_toArray, List.set_cons_zero, List.set_cons_succ, i64_w, i32_w]
                              rfl
                            refine pure_ (i := 3) (N := some 55) (v := ?_) (a' := ?_) #[true, true, false, true, false, false, false, false, false, false, false, false, false] rfl rfl (any_of HT_.out (by kernel_rfl)) (fun _ _ _ h => h) (Or.inl ⟨by rfl, ?_⟩) ?_ ?_
                            rotate_left
                            · intro w'
                              go_simp
                              with_reducible rfl
                            rotate_left
                            · simp only [Act.put, List.setIfInBounds_toArray, List.set_cons_zero, List.set_cons_succ, i64_w, i32_w]
                              rfl
                            refine pure_ (i := 4) (N := some 56) (v := ?_) (a' := ?_) #[true, true, false, true, true, false, false, false, false, false, false, false, false] rfl rfl (any_of HT_.out (by kernel_rfl)) (fun _ _ _ h => h) (Or.inl ⟨by rfl, ?_⟩) ?_ ?_
                            rotate_left
                            · intro w'
                              go_simp
                              with_reducible rfl
                            rotate_left
                            · simp only [Act.put, List.setIfInBounds_toArray, List.set_cons_zero, List.set_cons_succ, i64_w, i32_w]
                              rfl
                            refine take_ (i := 2) (N := some 54) (v := ?_) (a' := ?_) #[true, true, true, true, true, false, false, false, false, false, false, false, false] rfl rfl (take_ofW HT_.out HW_.out (by kernel_rfl)) (fun _ _ _ h => h) (Or.inl ⟨by rfl, ?_⟩) hHeld ?_ ?_
                            rotate_left
                            · rintro w' ⟨s0, s1, s2, s3, s4, s5, s6, s7, s8, s9, s10, s11⟩
                              go_simp
                              with_reducible rfl
                            rotate_left
                            · simp only [Act.put, List.setIfInBounds_toArray, List.set_cons_zero, List.set_cons_succ, i64_w, i32_w]
                              rfl
                            refine take_ (i := 5) (N := some 57) (v := ?_) (a' := ?_) #[true, true, true, true, true, true, false, false, false, false, false, false, false] rfl rfl (take_ofW HT_.out HW_.out (by kernel_rfl)) (fun _ _ _ h => h) (Or.inl ⟨by rfl, ?_⟩) hHeld ?_ ?_
                            rotate_left
                            · rintro w' ⟨s0, s1, s2, s3, s4, s5, s6, s7, s8, s9, s10, s11⟩
                              go_simp
                              with_reducible rfl
                            rotate_left
                            · simp only [Act.put, List.setIfInBounds_toArray, List.set_cons_zero, List.set_cons_succ, i64_w, i32_w]
                              rfl
                            refine one_ (i := 6) (N := some 58) #[true, true, true, true, true, true, true, false, false, false, false, false, false] rfl rfl (one_of HT_.out (by kernel_rfl)) (by decide) (fun K hK => ?_)
                            refine Kd.R_lit_step k25 _ 25 ?hg (N := 58) ?hd (xs := ([(⟨(rd_T25 l0 1).f0, (rd_T25 l0 1).f1, (rd_T25 l0 1).f2, (rd_T25 l0 1).f3, (rd_T25 l0 1).f4, (rd_T25 l0 1).f5⟩ : S25), (⟨(rd_T25 l0 0).f0, (rd_T25 l0 0).f1, (rd_T25 l0 0).f2, (rd_T25 l0 0).f3, (rd_T25 l0 0).f4, (rd_T25 l0 0).f5⟩ : S25)] : List (S25))) (inner := [.int .i64 ((rd_T25 l0 1).f0), .int .i64 ((rd_T25 l0 1).f1), .int .i64 ((rd_T25 l0 1).f2), .int .i64 ((rd_T25 l0 1).f3), .bool ((rd_T25 l0 1).f4), .string ((rd_T25 l0 1).f5), .int .i64 ((rd_T25 l0 0).f0), .int .i64 ((rd_T25 l0 0).f1), .int .i64 ((rd_T25 l0 0).f2), .int .i64 ((rd_T25 l0 0).f3), .bool ((rd_T25 l0 0).f4), .string ((rd_T25 l0 0).f5)]) (ok := fun _ => True) (okp := fun _ => True) ?hr ?hp (fun _ hk => hk) trivial (Below.refl _ _) (Nat.le_refl _) (by simp) ?_; (case hd => rfl); (case hg => rfl); (case hr => first | (go_simp; done) | (go_simp; rfl)); (case hp => exact (Reps.c6 (show Kd.M k25 _ _ _ (⟨(rd_T25 l0 1).f0, (rd_T25 l0 1).f1, (rd_T25 l0 1).f2, (rd_T25 l0 1).f3, (rd_T25 l0 1).f4, (rd_T25 l0 1).f5⟩ : S25) [.int .i64 ((rd_T25 l0 1).f0), .int .i64 ((rd_T25 l0 1).f1), .int .i64 ((rd_T25 l0 1).f2), .int .i64 ((rd_T25 l0 1).f3), .bool ((rd_T25 l0 1).f4), .string ((rd_T25 l0 1).f5)] from (k25_mkM _ _ _ (⟨(rd_T25 l0 1).f0, (rd_T25 l0 1).f1, (rd_T25 l0 1).f2, (rd_T25 l0 1).f3, (rd_T25 l0 1).f4, (rd_T25 l0 1).f5⟩ : S25) )) (Reps.c6 (show Kd.M k25 _ _ _ (⟨(rd_T25 l0 0).f0, (rd_T25 l0 0).f1, (rd_T25 l0 0).f2, (rd_T25 l0 0).f3, (rd_T25 l0 0).f4, (rd_T25 l0 0).f5⟩ : S25) [.int .i64 ((rd_T25 l0 0).f0), .int .i64 ((rd_T25 l0 0).f1), .int .i64 ((rd_T25 l0 0).f2), .int .i64 ((rd_T25 l0 0).f3), .bool ((rd_T25 l0 0).f4), .string ((rd_T25 l0 0).f5)] from (k25_mkM _ _ _ (⟨(rd_T25 l0 0).f0, (rd_T25 l0 0).f1, (rd_T25 l0 0).f2, (rd_T25 l0 0).f3, (rd_T25 l0 0).f4, (rd_T25 l0 0).f5⟩ : S25) )) (Reps.none _ _))))
                            intro v124 w48 ho49 hb hg_ hnew_
                            clear hg_ hnew_
                            (first | rw [← Ny123.out] at ho49 | (simp only [Int.reduceToNat] at ho49; rw [← Ny123.out] at ho49))
                            have n0_ := Aside0.mk (Kd.R_lower (Kd.R_newB (Kd.R_newB ho49 (g := gb110) (o := .cells #[.int .i64 t103, .int .i64 t104, .int .i64 t105, .int .i64 t106, .bool t107, .string t108] 25 (0, 0)) (by (with_reducible repeat (first | refine blk_drewN ?_ _ | refine blk_drew ?_ | refine blk_alloc ?_ _)); exact BK110.out)) (g := gb118) (o := .cells #[.int .i64 t111, .int .i64 t112, .int .i64 t113, .int .i64 t114, .bool t115, .string t116] 25 (0, 0)) (by (with_reducible repeat (first | refine blk_drewN ?_ _ | refine blk_drew ?_ | refine blk_alloc ?_ _)); exact BK118.out)) (below_size (by repeat (first | (with_reducible first | exact HB.out | apply below_alloc | apply pw_below_drewN | apply below_drew1 | refine below_set ?_ GE110.out | refine below_set ?_ GE118.out) | exact HB.out))))
                            have n1_ := Aside0.mk (blk_below (g := gb110) (o := .cells #[.int .i64 t103, .int .i64 t104, .int .i64 t105, .int .i64 t106, .bool t107, .string t108] 25 (0, 0)) (by (with_reducible repeat (first | refine blk_drewN ?_ _ | refine blk_drew ?_ | refine blk_alloc ?_ _)); exact BK110.out) hb)
                            have n2_ := Aside0.mk (blk_below (g := gb118) (o := .cells #[.int .i64 t111, .int .i64 t112, .int .i64 t113, .int .i64 t114, .bool t115, .string t116] 25 (0, 0)) (by (with_reducible repeat (first | refine blk_drewN ?_ _ | refine blk_drew ?_ | refine blk_alloc ?_ _)); exact BK118.out) hb)
                            have n3_ := Aside0.mk (below_step (by repeat (first | (with_reducible first | exact HB.out | apply below_alloc | apply pw_below_drewN | apply below_drew1 | refine below_set ?_ GE110.out | refine below_set ?_ GE118.out) | exact HB.out)) hb)
                            clear BK110
                            clear BK118
                            clear HB
                            have HO125 := n0_
                            have BK110 := n1_
                            have BK118 := n2_
                            have HB := n3_
                            clear n0_ n1_ n2_ n3_
                            clear hb ho49
                            obtain ⟨Ao50, co50, eo50⟩ := Kd.R_slice HO125.out
                            (first | subst eo50 | (injection eo50 with f1_ f2_ f3_; have f4_ := f1_.symm; have f5_ := f3_.symm; clear f1_ f2_ f3_; subst f4_; subst f5_))
                            refine hK.out _ _ ⟨((HB.out.cell (World.block_lt_of_cell? w _ hw121_0)).trans hw121_0), ((HB.out.cell (World.block_lt_of_cell? w _ hw121_1)).trans hw121_1), ((HB.out.cell (World.block_lt_of_cell? w _ hw121_2)).trans hw121_2), ((HB.out.cell (World.block_lt_of_cell? w _ hw121_3)).trans hw121_3), ((HB.out.cell (World.block_lt_of_cell? w _ hw121_4)).trans hw121_4), ((HB.out.cell (World.block_lt_of_cell? w _ hw121_5)).trans hw121_5), ((HB.out.cell (World.block_lt_of_cell? w _ hw122_0)).trans hw122_0), ((HB.out.cell (World.block_lt_of_cell? w _ hw122_1)).trans hw122_1), ((HB.out.cell (World.block_lt_of_cell? w _ hw122_2)).trans hw122_2), ((HB.out.cell (World.block_lt_of_cell? w _ hw122_3)).trans hw122_3), ((HB.out.cell (World.block_lt_of_cell? w _ hw122_4)).trans hw122_4), ((HB.out.cell (World.block_lt_of_cell? w _ hw122_5)).trans hw122_5)⟩ (fun hHeld => ?_)
                            clear hK K
                            refine norm_ (a' := ?_) ?_ ?_
                            rotate_left
                            · show Act.put _ (some 58) _ = _
                              simp only [Act.put, List.setIfInBounds_toArray, List.set_cons_zero, List.set_cons_succ, i64_w, i32_w]
                              rfl
                            refine one_ (i := 7) (N := some 59) #[true, true, true, true, true, true, true, true, false, false, false, false, false] rfl rfl (one_of HT_.out (by kernel_rfl)) (by decide) (fun K hK => ?_)
                            refine goes_ Try.func60 (by kernel_rfl) rfl #[.slice Ao50 y123.length co50] (by rfl) rfl rfl (by (try simp only [List.map_toArray, List.map_cons, List.map_nil]); first | done | rfl | (simp only [List.length_drop, List.length_take]; rfl)) ?_
                            with_reducible refine (rule_Common.calls kj35 _ _ y123 t126 t127 t128 t129 t130 t131 t132 _ ?side1 ?side2 A43.out).mono ?_
                            (case side1 => repeat (first | exact (Kd.R_reads' HO125.out).2.2 | (with_reducible refine Kd.C_alloc ?_ _) | (with_reducible refine Kd.C_drewN ?_ _) | (with_reducible refine Kd.C_drew ?_)))
                            (case side2 => exact (Kd.R_reads' HO125.out).2.1)
                            rintro e w51 ⟨rfl, hb⟩
                            refine ⟨_, rfl, ?_⟩
                            have n0_ := Aside0.mk (Kd.R_below (by (with_reducible repeat (first | apply Kd.R_alloc | apply Kd.R_drewN | apply Kd.R_drew)); exact HO125.out) hb)
                            have n1_ := Aside0.mk (blk_below (g := gb110) (o := .cells #[.int .i64 t103, .int .i64 t104, .int .i64 t105, .int .i64 t106, .bool t107, .string t108] 25 (0, 0)) (by (with_reducible repeat (first | refine blk_drewN ?_ _ | refine blk_drew ?_ | refine blk_alloc ?_ _)); exact BK110.out) hb)
                            have n2_ := Aside0.mk (blk_below (g := gb118) (o := .cells #[.int .i64 t111, .int .i64 t112, .int .i64 t113, .int .i64 t114, .bool t115, .string t116] 25 (0, 0)) (by (with_reducible repeat (first | refine blk_drewN ?_ _ | refine blk_drew ?_ | refine blk_alloc ?_ _)); exact BK118.out) hb)
                            have n3_ := Aside0.mk (below_step (by repeat (first | (with_reducible first | exact HB.out | apply below_alloc | apply pw_below_drewN | apply below_drew1 | refine below_set ?_ GE110.out | refine below_set ?_ GE118.out) | exact HB.out)) hb)
                            clear HO125
                            clear BK110
                            clear BK118
                            clear HB
                            have HO125 := n0_
                            have BK110 := n1_
                            have BK118 := n2_
                            have HB := n3_
                            clear n0_ n1_ n2_ n3_
                            (try clear hb)
                            (try clear hb2)
                            (try clear hk)
                            (try clear hi)
                            refine hK.out _ _ ⟨((HB.out.cell (World.block_lt_of_cell? w _ hw121_0)).trans hw121_0), ((HB.out.cell (World.block_lt_of_cell? w _ hw121_1)).trans hw121_1), ((HB.out.cell (World.block_lt_of_cell? w _ hw121_2)).trans hw121_2), ((HB.out.cell (World.block_lt_of_cell? w _ hw121_3)).trans hw121_3), ((HB.out.cell (World.block_lt_of_cell? w _ hw121_4)).trans hw121_4), ((HB.out.cell (World.block_lt_of_cell? w _ hw121_5)).trans hw121_5), ((HB.out.cell (World.block_lt_of_cell? w _ hw122_0)).trans hw122_0), ((HB.out.cell (World.block_lt_of_cell? w _ hw122_1)).trans hw122_1), ((HB.out.cell (World.block_lt_of_cell? w _ hw122_2)).trans hw122_2), ((HB.out.cell (World.block_lt_of_cell? w _ hw122_3)).trans hw122_3), ((HB.out.cell (World.block_lt_of_cell? w _ hw122_4)).trans hw122_4), ((HB.out.cell (World.block_lt_of_cell? w _ hw122_5)).trans hw122_5)⟩ (fun hHeld => ?_)
                            clear hK K
                            refine norm_ (a' := ?_) ?_ ?_
                            rotate_left
                            · show Act.put _ (some 59) _ = _
                              simp only [Act.put, List.setIfInBounds_toArray, List.set_cons_zero, List.set_cons_succ, i64_w, i32_w]
                              rfl
                            refine pure_ (i := 8) (N := some 51) (v := ?_) (a' := ?_) #[true, true, true, true, true, true, true, true, true, false, false, false, false] rfl rfl (any_of HT_.out (by kernel_rfl)) (fun _ _ _ h => h) (Or.inl ⟨by rfl, ?_⟩) ?_ ?_
                            rotate_left
                            · intro w'
                              go_simp
                              with_reducible rfl
                            rotate_left
                            · simp only [Act.put, List.setIfInBounds_toArray, List.set_cons_zero, List.set_cons_succ, i64_w, i32_w]
                              rfl
                            refine pure_ (i := 9) (N := some 60) (v := ?_) (a' := ?_) #[true, true, true, true, true, true, true, true, true, true, false, false, false] rfl rfl (any_of HT_.out (by kernel_rfl)) (fun _ _ _ h => h) (Or.inl ⟨by rfl, ?_⟩) ?_ ?_
                            rotate_left
                            · intro w'
                              go_simp
                              with_reducible rfl
                            rotate_left
                            · simp only [Act.put, List.setIfInBounds_toArray, List.set_cons_zero, List.set_cons_succ, i64_w, i32_w]
                              rfl
                            refine pure_ (i := 10) (N := some 61) (v := ?_) (a' := ?_) #[true, true, true, true, true, true, true, true, true, true, true, false, false] rfl rfl (any_of HT_.out (by kernel_rfl)) (fun _ _ _ h => h) (Or.inl ⟨by rfl, ?_⟩) ?_ ?_
                            rotate_left
                            · intro w'
                              go_simp
                              with_reducible rfl
                            rotate_left
                            · simp only [Act.put, List.setIfInBounds_toArray, List.set_cons_zero, List.set_cons_succ, i64_w, i32_w]
                              rfl
                            refine one_ (i := 11) (N := none) #[true, true, true, true, true, true, true, true, true, true, true, true, false] rfl rfl (one_of HT_.out (by kernel_rfl)) (by decide) (fun K hK => ?_)
                            have hs52 : w51.cell? ⟨gb110, 0, none⟩ = some (.int .i64 t103) := (blk_cell BK110.out 0).trans rfl
                            have hfs52 := blk_frozen BK110.out 0
                            have hns52_1 := NB118_110.out
                            have hms52_1 := NB110_118.out
                            have hs53 : w51.cell? ⟨gb110, 1, none⟩ = some (.int .i64 t104) := (blk_cell BK110.out 1).trans rfl
                            have hfs53 := blk_frozen BK110.out 1
                            have hns53_1 := NB118_110.out
                            have hms53_1 := NB110_118.out
                            have hs54 : w51.cell? ⟨gb110, 2, none⟩ = some (.int .i64 t105) := (blk_cell BK110.out 2).trans rfl
                            have hfs54 := blk_frozen BK110.out 2
                            have hns54_1 := NB118_110.out
                            have hms54_1 := NB110_118.out
                            have hs55 : w51.cell? ⟨gb110, 3, none⟩ = some (.int .i64 t106) := (blk_cell BK110.out 3).trans rfl
                            have hfs55 := blk_frozen BK110.out 3
                            have hns55_1 := NB118_110.out
                            have hms55_1 := NB110_118.out
                            have hs56 : w51.cell? ⟨gb110, 4, none⟩ = some (.bool t107) := (blk_cell BK110.out 4).trans rfl
                            have hfs56 := blk_frozen BK110.out 4
                            have hns56_1 := NB118_110.out
                            have hms56_1 := NB110_118.out
                            have hs57 : w51.cell? ⟨gb110, 5, none⟩ = some (.string t108) := (blk_cell BK110.out 5).trans rfl
                            have hfs57 := blk_frozen BK110.out 5
                            have hns57_1 := NB118_110.out
                            have hms57_1 := NB110_118.out
                            refine skip_ (w1 := ?_) (by rfl) rfl ?_ ?_
                            rotate_left
                            · go_simp
                              rfl
                            have ne_hw121_0_GW110 := Nat.ne_of_lt (Nat.lt_of_lt_of_le (World.block_lt_of_cell? _ _ hw121_0) GW110.out)
                            have ne_hw121_1_GW110 := Nat.ne_of_lt (Nat.lt_of_lt_of_le (World.block_lt_of_cell? _ _ hw121_1) GW110.out)
                            have ne_hw121_2_GW110 := Nat.ne_of_lt (Nat.lt_of_lt_of_le (World.block_lt_of_cell? _ _ hw121_2) GW110.out)
                            have ne_hw121_3_GW110 := Nat.ne_of_lt (Nat.lt_of_lt_of_le (World.block_lt_of_cell? _ _ hw121_3) GW110.out)
                            have ne_hw121_4_GW110 := Nat.ne_of_lt (Nat.lt_of_lt_of_le (World.block_lt_of_cell? _ _ hw121_4) GW110.out)
                            have ne_hw121_5_GW110 := Nat.ne_of_lt (Nat.lt_of_lt_of_le (World.block_lt_of_cell? _ _ hw121_5) GW110.out)
                            have ne_hw122_0_GW110 := Nat.ne_of_lt (Nat.lt_of_lt_of_le (World.block_lt_of_cell? _ _ hw122_0) GW110.out)
                            have ne_hw122_1_GW110 := Nat.ne_of_lt (Nat.lt_of_lt_of_le (World.block_lt_of_cell? _ _ hw122_1) GW110.out)
                            have ne_hw122_2_GW110 := Nat.ne_of_lt (Nat.lt_of_lt_of_le (World.block_lt_of_cell? _ _ hw122_2) GW110.out)
                            have ne_hw122_3_GW110 := Nat.ne_of_lt (Nat.lt_of_lt_of_le (World.block_lt_of_cell? _ _ hw122_3) GW110.out)
                            have ne_hw122_4_GW110 := Nat.ne_of_lt (Nat.lt_of_lt_of_le (World.block_lt_of_cell? _ _ hw122_4) GW110.out)
                            have ne_hw122_5_GW110 := Nat.ne_of_lt (Nat.lt_of_lt_of_le (World.block_lt_of_cell? _ _ hw122_5) GW110.out)
                            refine hK.out _ _ ⟨((cell_far (p := ⟨gb110, _, none⟩) (by first | exact ne_hw121_0_GW110 | (rw [add_block]; exact ne_hw121_0_GW110) | (dsimp only; exact ne_hw121_0_GW110)) _).trans (((cell_far (p := ⟨gb110, _, none⟩) (by first | exact ne_hw121_0_GW110 | (rw [add_block]; exact ne_hw121_0_GW110) | (dsimp only; exact ne_hw121_0_GW110)) _).trans (((cell_far (p := ⟨gb110, _, none⟩) (by first | exact ne_hw121_0_GW110 | (rw [add_block]; exact ne_hw121_0_GW110) | (dsimp only; exact ne_hw121_0_GW110)) _).trans (((cell_far (p := ⟨gb110, _, none⟩) (by first | exact ne_hw121_0_GW110 | (rw [add_block]; exact ne_hw121_0_GW110) | (dsimp only; exact ne_hw121_0_GW110)) _).trans (((cell_far (p := ⟨gb110, _, none⟩) (by first | exact ne_hw121_0_GW110 | (rw [add_block]; exact ne_hw121_0_GW110) | (dsimp only; exact ne_hw121_0_GW110)) _).trans (((cell_far (p := ⟨gb110, _, none⟩) (by first | exact ne_hw121_0_GW110 | (rw [add_block]; exact ne_hw121_0_GW110) | (dsimp only; exact ne_hw121_0_GW110)) _).trans (hHeld.1)))))))))))), ((cell_far (p := ⟨gb110, _, none⟩) (by first | exact ne_hw121_1_GW110 | (rw [add_block]; exact ne_hw121_1_GW110) | (dsimp only; exact ne_hw121_1_GW110)) _).trans (((cell_far (p := ⟨gb110, _, none⟩) (by first | exact ne_hw121_1_GW110 | (rw [add_block]; exact ne_hw121_1_GW110) | (dsimp only; exact ne_hw121_1_GW110)) _).trans (((cell_far (p := ⟨gb110, _, none⟩) (by first | exact ne_hw121_1_GW110 | (rw [add_block]; exact ne_hw121_1_GW110) | (dsimp only; exact ne_hw121_1_GW110)) _).trans (((cell_far (p := ⟨gb110, _, none⟩) (by first | exact ne_hw121_1_GW110 | (rw [add_block]; exact ne_hw121_1_GW110) | (dsimp only; exact ne_hw121_1_GW110)) _).trans (((cell_far (p := ⟨gb110, _, none⟩) (by first | exact ne_hw121_1_GW110 | (rw [add_block]; exact ne_hw121_1_GW110) | (dsimp only; exact ne_hw121_1_GW110)) _).trans (((cell_far (p := ⟨gb110, _, none⟩) (by first | exact ne_hw121_1_GW110 | (rw [add_block]; exact ne_hw121_1_GW110) | (dsimp only; exact ne_hw121_1_GW110)) _).trans (hHeld.2.1)))))))))))), ((cell_far (p := ⟨gb110, _, none⟩) (by first | exact ne_hw121_2_GW110 | (rw [add_block]; exact ne_hw121_2_GW110) | (dsimp only; exact ne_hw121_2_GW110)) _).trans (((cell_far (p := ⟨gb110, _, none⟩) (by first | exact ne_hw121_2_GW110 | (rw [add_block]; exact ne_hw121_2_GW110) | (dsimp only; exact ne_hw121_2_GW110)) _).trans (((cell_far (p := ⟨gb110, _, none⟩) (by first | exact ne_hw121_2_GW110 | (rw [add_block]; exact ne_hw121_2_GW110) | (dsimp only; exact ne_hw121_2_GW110)) _).trans (((cell_far (p := ⟨gb110, _, none⟩) (by first | exact ne_hw121_2_GW110 | (rw [add_block]; exact ne_hw121_2_GW110) | (dsimp only; exact ne_hw121_2_GW110)) _).trans (((cell_far (p := ⟨gb110, _, none⟩) (by first | exact ne_hw121_2_GW110 | (rw [add_block]; exact ne_hw121_2_GW110) | (dsimp only; exact ne_hw121_2_GW110)) _).trans (((cell_far (p := ⟨gb110, _, none⟩) (by first | exact ne_hw121_2_GW110 | (rw [add_block]; exact ne_hw121_2_GW110) | (dsimp only; exact ne_hw121_2_GW110)) _).trans (hHeld.2.2.1)))))))))))), ((cell_far (p := ⟨gb110, _, none⟩) (by first | exact ne_hw121_3_GW110 | (rw [add_block]; exact ne_hw121_3_GW110) | (dsimp only; exact ne_hw121_3_GW110)) _).trans (((cell_far (p := ⟨gb110, _, none⟩) (by first | exact ne_hw121_3_GW110 | (rw [add_block]; exact ne_hw121_3_GW110) | (dsimp only; exact ne_hw121_3_GW110)) _).trans (((cell_far (p := ⟨gb110, _, none⟩) (by first | exact ne_hw121_3_GW110 | (rw [add_block]; exact ne_hw121_3_GW110) | (dsimp only; exact ne_hw121_3_GW110)) _).trans (((cell_far (p := ⟨gb110, _, none⟩) (by first | exact ne_hw121_3_GW110 | (rw [add_block]; exact ne_hw121_3_GW110) | (dsimp only; exact ne_hw121_3_GW110)) _).trans (((cell_far (p := ⟨gb110, _, none⟩) (by first | exact ne_hw121_3_GW110 | (rw [add_block]; exact ne_hw121_3_GW110) | (dsimp only; exact ne_hw121_3_GW110)) _).trans (((cell_far (p := ⟨gb110, _, none⟩) (by first | exact ne_hw121_3_GW110 | (rw [add_block]; exact ne_hw121_3_GW110) | (dsimp only; exact ne_hw121_3_GW110)) _).trans (hHeld.2.2.2.1)))))))))))), ((cell_far (p := ⟨gb110, _, none⟩) (by first | exact ne_hw121_4_GW110 | (rw [add_block]; exact ne_hw121_4_GW110) | (dsimp only; exact ne_hw121_4_GW110)) _).trans (((cell_far (p := ⟨gb110, _, none⟩) (by first | exact ne_hw121_4_GW110 | (rw [add_block]; exact ne_hw121_4_GW110) | (dsimp only; exact ne_hw121_4_GW110)) _).trans (((cell_far (p := ⟨gb110, _, none⟩) (by first | exact ne_hw121_4_GW110 | (rw [add_block]; exact ne_hw121_4_GW110) | (dsimp only; exact ne_hw121_4_GW110)) _).trans (((cell_far (p := ⟨gb110, _, none⟩) (by first | exact ne_hw121_4_GW110 | (rw [add_block]; exact ne_hw121_4_GW110) | (dsimp only; exact ne_hw121_4_GW110)) _).trans (((cell_far (p := ⟨gb110, _, none⟩) (by first | exact ne_hw121_4_GW110 | (rw [add_block]; exact ne_hw121_4_GW110) | (dsimp only; exact ne_hw121_4_GW110)) _).trans (((cell_far (p := ⟨gb110, _, none⟩) (by first | exact ne_hw121_4_GW110 | (rw [add_block]; exact ne_hw121_4_GW110) | (dsimp only; exact ne_hw121_4_GW110)) _).trans (hHeld.2.2.2.2.1)))))))))))), ((cell_far (p := ⟨gb110, _, none⟩) (by first | exact ne_hw121_5_GW110 | (rw [add_block]; exact ne_hw121_5_GW110) | (dsimp only; exact ne_hw121_5_GW110)) _).trans (((cell_far (p := ⟨gb110, _, none⟩) (by first | exact ne_hw121_5_GW110 | (rw [add_block]; exact ne_hw121_5_GW110) | (dsimp only; exact ne_hw121_5_GW110)) _).trans (((cell_far (p := ⟨gb110, _, none⟩) (by first | exact ne_hw121_5_GW110 | (rw [add_block]; exact ne_hw121_5_GW110) | (dsimp only; exact ne_hw121_5_GW110)) _).trans (((cell_far (p := ⟨gb110, _, none⟩) (by first | exact ne_hw121_5_GW110 | (rw [add_block]; exact ne_hw121_5_GW110) | (dsimp only; exact ne_hw121_5_GW110)) _).trans (((cell_far (p := ⟨gb110, _, none⟩) (by first | exact ne_hw121_5_GW110 | (rw [add_block]; exact ne_hw121_5_GW110) | (dsimp only; exact ne_hw121_5_GW110)) _).trans (((cell_far (p := ⟨gb110, _, none⟩) (by first | exact ne_hw121_5_GW110 | (rw [add_block]; exact ne_hw121_5_GW110) | (dsimp only; exact ne_hw121_5_GW110)) _).trans (hHeld.2.2.2.2.2.1)))))))))))), ((cell_far (p := ⟨gb110, _, none⟩) (by first | exact ne_hw122_0_GW110 | (rw [add_block]; exact ne_hw122_0_GW110) | (dsimp only; exact ne_hw122_0_GW110)) _).trans (((cell_far (p := ⟨gb110, _, none⟩) (by first | exact ne_hw122_0_GW110 | (rw [add_block]; exact ne_hw122_0_GW110) | (dsimp only; exact ne_hw122_0_GW110)) _).trans (((cell_far (p := ⟨gb110, _, none⟩) (by first | exact ne_hw122_0_GW110 | (rw [add_block]; exact ne_hw122_0_GW110) | (dsimp only; exact ne_hw122_0_GW110)) _).trans (((cell_far (p := ⟨gb110, _, none⟩) (by first | exact ne_hw122_0_GW110 | (rw [add_block]; exact ne_hw122_0_GW110) | (dsimp only; exact ne_hw122_0_GW110)) _).trans (((cell_far (p := ⟨gb110, _, none⟩) (by first | exact ne_hw122_0_GW110 | (rw [add_block]; exact ne_hw122_0_GW110) | (dsimp only; exact ne_hw122_0_GW110)) _).trans (((cell_far (p := ⟨gb110, _, none⟩) (by first | exact ne_hw122_0_GW110 | (rw [add_block]; exact ne_hw122_0_GW110) | (dsimp only; exact ne_hw122_0_GW110)) _).trans (hHeld.2.2.2.2.2.2.1)))))))))))), ((cell_far (p := ⟨gb110, _, none⟩) (by first | exact ne_hw122_1_GW110 | (rw [add_block]; exact ne_hw122_1_GW110) | (dsimp only; exact ne_hw122_1_GW110)) _).trans (((cell_far (p := ⟨gb110, _, none⟩) (by first | exact ne_hw122_1_GW110 | (rw [add_block]; exact ne_hw122_1_GW110) | (dsimp only; exact ne_hw122_1_GW110)) _).trans (((cell_far (p := ⟨gb110, _, none⟩) (by first | exact ne_hw122_1_GW110 | (rw [add_block]; exact ne_hw122_1_GW110) | (dsimp only; exact ne_hw122_1_GW110)) _).trans (((cell_far (p := ⟨gb110, _, none⟩) (by first | exact ne_hw122_1_GW110 | (rw [add_block]; exact ne_hw122_1_GW110) | (dsimp only; exact ne_hw122_1_GW110)) _).trans (((cell_far (p := ⟨gb110, _, none⟩) (by first | exact ne_hw122_1_GW110 | (rw [add_block]; exact ne_hw122_1_GW110) | (dsimp only; exact ne_hw122_1_GW110)) _).trans (((cell_far (p := ⟨gb110, _, none⟩) (by first | exact ne_hw122_1_GW110 | (rw [add_block]; exact ne_hw122_1_GW110) | (dsimp only; exact ne_hw122_1_GW110)) _).trans (hHeld.2.2.2.2.2.2.2.1)))))))))))), ((cell_far (p := ⟨gb110, _, none⟩) (by first | exact ne_hw122_2_GW110 | (rw [add_block]; exact ne_hw122_2_GW110) | (dsimp only; exact ne_hw122_2_GW110)) _).trans (((cell_far (p := ⟨gb110, _, none⟩) (by first | exact ne_hw122_2_GW110 | (rw [add_block]; exact ne_hw122_2_GW110) | (dsimp only; exact ne_hw122_2_GW110)) _).trans (((cell_far (p := ⟨gb110, _, none⟩) (by first | exact ne_hw122_2_GW110 | (rw [add_block]; exact ne_hw122_2_GW110) | (dsimp only; exact ne_hw122_2_GW110)) _).trans (((cell_far (p := ⟨gb110, _, none⟩) (by first | exact ne_hw122_2_GW110 | (rw [add_block]; exact ne_hw122_2_GW110) | (dsimp only; exact ne_hw122_2_GW110)) _).trans (((cell_far (p := ⟨gb110, _, none⟩) (by first | exact ne_hw122_2_GW110 | (rw [add_block]; exact ne_hw122_2_GW110) | (dsimp only; exact ne_hw122_2_GW110)) _).trans (((cell_far (p := ⟨gb110, _, none⟩) (by first | exact ne_hw122_2_GW110 | (rw [add_block]; exact ne_hw122_2_GW110) | (dsimp only; exact ne_hw122_2_GW110)) _).trans (hHeld.2.2.2.2.2.2.2.2.1)))))))))))), ((cell_far (p := ⟨gb110, _, none⟩) (by first | exact ne_hw122_3_GW110 | (rw [add_block]; exact ne_hw122_3_GW110) | (dsimp only; exact ne_hw122_3_GW110)) _).trans (((cell_far (p := ⟨gb110, _, none⟩) (by first | exact ne_hw122_3_GW110 | (rw [add_block]; exact ne_hw122_3_GW110) | (dsimp only; exact ne_hw122_3_GW110)) _).trans (((cell_far (p := ⟨gb110, _, none⟩) (by first | exact ne_hw122_3_GW110 | (rw [add_block]; exact ne_hw122_3_GW110) | (dsimp only; exact ne_hw122_3_GW110)) _).trans (((cell_far (p := ⟨gb110, _, none⟩) (by first | exact ne_hw122_3_GW110 | (rw [add_block]; exact ne_hw122_3_GW110) | (dsimp only; exact ne_hw122_3_GW110)) _).trans (((cell_far (p := ⟨gb110, _, none⟩) (by first | exact ne_hw122_3_GW110 | (rw [add_block]; exact ne_hw122_3_GW110) | (dsimp only; exact ne_hw122_3_GW110)) _).trans (((cell_far (p := ⟨gb110, _, none⟩) (by first | exact ne_hw122_3_GW110 | (rw [add_block]; exact ne_hw122_3_GW110) | (dsimp only; exact ne_hw122_3_GW110)) _).trans (hHeld.2.2.2.2.2.2.2.2.2.1)))))))))))), ((cell_far (p := ⟨gb110, _, none⟩) (by first | exact ne_hw122_4_GW110 | (rw [add_block]; exact ne_hw122_4_GW110) | (dsimp only; exact ne_hw122_4_GW110)) _).trans (((cell_far (p := ⟨gb110, _, none⟩) (by first | exact ne_hw122_4_GW110 | (rw [add_block]; exact ne_hw122_4_GW110) | (dsimp only; exact ne_hw122_4_GW110)) _).trans (((cell_far (p := ⟨gb110, _, none⟩) (by first | exact ne_hw122_4_GW110 | (rw [add_block]; exact ne_hw122_4_GW110) | (dsimp only; exact ne_hw122_4_GW110)) _).trans (((cell_far (p := ⟨gb110, _, none⟩) (by first | exact ne_hw122_4_GW110 | (rw [add_block]; exact ne_hw122_4_GW110) | (dsimp only; exact ne_hw122_4_GW110)) _).trans (((cell_far (p := ⟨gb110, _, none⟩) (by first | exact ne_hw122_4_GW110 | (rw [add_block]; exact ne_hw122_4_GW110) | (dsimp only; exact ne_hw122_4_GW110)) _).trans (((cell_far (p := ⟨gb110, _, none⟩) (by first | exact ne_hw122_4_GW110 | (rw [add_block]; exact ne_hw122_4_GW110) | (dsimp only; exact ne_hw122_4_GW110)) _).trans (hHeld.2.2.2.2.2.2.2.2.2.2.1)))))))))))), ((cell_far (p := ⟨gb110, _, none⟩) (by first | exact ne_hw122_5_GW110 | (rw [add_block]; exact ne_hw122_5_GW110) | (dsimp only; exact ne_hw122_5_GW110)) _).trans (((cell_far (p := ⟨gb110, _, none⟩) (by first | exact ne_hw122_5_GW110 | (rw [add_block]; exact ne_hw122_5_GW110) | (dsimp only; exact ne_hw122_5_GW110)) _).trans (((cell_far (p := ⟨gb110, _, none⟩) (by first | exact ne_hw122_5_GW110 | (rw [add_block]; exact ne_hw122_5_GW110) | (dsimp only; exact ne_hw122_5_GW110)) _).trans (((cell_far (p := ⟨gb110, _, none⟩) (by first | exact ne_hw122_5_GW110 | (rw [add_block]; exact ne_hw122_5_GW110) | (dsimp only; exact ne_hw122_5_GW110)) _).trans (((cell_far (p := ⟨gb110, _, none⟩) (by first | exact ne_hw122_5_GW110 | (rw [add_block]; exact ne_hw122_5_GW110) | (dsimp only; exact ne_hw122_5_GW110)) _).trans (((cell_far (p := ⟨gb110, _, none⟩) (by first | exact ne_hw122_5_GW110 | (rw [add_block]; exact ne_hw122_5_GW110) | (dsimp only; exact ne_hw122_5_GW110)) _).trans (hHeld.2.2.2.2.2.2.2.2.2.2.2))))))))))))⟩ (fun hHeld => ?_)
                            clear hK K
                            refine pure_ (i := 12) (N := some 4) (v := ?_) (a' := ?_) #[true, true, true, true, true, true, true, true, true, true, true, true, true] rfl rfl (any_of HT_.out (by kernel_rfl)) (fun _ _ _ h => h) (Or.inl ⟨by rfl, ?_⟩) ?_ ?_
                            rotate_left
                            · intro w'
                              go_simp
                              with_reducible rfl
                            rotate_left
                            · simp only [Act.put, List.setIfInBounds_toArray, List.set_cons_zero, List.set_cons_succ, i64_w, i32_w]
                              rfl
                            refine done_ (done_of HT_.out (by kernel_rfl)) ?_
                            have hnb58 := NB110_118.out
                            have hnc58 := NB118_110.out
                            have hcz59_0 : w51.cell? ⟨gb110, 0, none⟩ = some (.int .i64 t103) := (blk_cell BK110.out 0).trans rfl
                            have hcz59_1 : w51.cell? ⟨gb110, 1, none⟩ = some (.int .i64 t104) := (blk_cell BK110.out 1).trans rfl
                            have hcz59_2 : w51.cell? ⟨gb110, 2, none⟩ = some (.int .i64 t105) := (blk_cell BK110.out 2).trans rfl
                            have hcz59_3 : w51.cell? ⟨gb110, 3, none⟩ = some (.int .i64 t106) := (blk_cell BK110.out 3).trans rfl
                            have hcz59_4 : w51.cell? ⟨gb110, 4, none⟩ = some (.bool t107) := (blk_cell BK110.out 4).trans rfl
                            have hcz59_5 : w51.cell? ⟨gb110, 5, none⟩ = some (.string t108) := (blk_cell BK110.out 5).trans rfl
                            have hfz59_0 := blk_frozen BK110.out 0
                            have hfz59_1 := blk_frozen BK110.out 1
                            have hfz59_2 := blk_frozen BK110.out 2
                            have hfz59_3 := blk_frozen BK110.out 3
                            have hfz59_4 := blk_frozen BK110.out 4
                            have hfz59_5 := blk_frozen BK110.out 5
                            have hcz60_0 : w51.cell? ⟨gb118, 0, none⟩ = some (.int .i64 t111) := (blk_cell BK118.out 0).trans rfl
                            have hcz60_1 : w51.cell? ⟨gb118, 1, none⟩ = some (.int .i64 t112) := (blk_cell BK118.out 1).trans rfl
                            have hcz60_2 : w51.cell? ⟨gb118, 2, none⟩ = some (.int .i64 t113) := (blk_cell BK118.out 2).trans rfl
                            have hcz60_3 : w51.cell? ⟨gb118, 3, none⟩ = some (.int .i64 t114) := (blk_cell BK118.out 3).trans rfl
                            have hcz60_4 : w51.cell? ⟨gb118, 4, none⟩ = some (.bool t115) := (blk_cell BK118.out 4).trans rfl
                            have hcz60_5 : w51.cell? ⟨gb118, 5, none⟩ = some (.string t116) := (blk_cell BK118.out 5).trans rfl
                            have hfz60_0 := blk_frozen BK118.out 0
                            have hfz60_1 := blk_frozen BK118.out 1
                            have hfz60_2 := blk_frozen BK118.out 2
                            have hfz60_3 := blk_frozen BK118.out 3
                            have hfz60_4 := blk_frozen BK118.out 4
                            have hfz60_5 := blk_frozen BK118.out 5
                            try go_wp2_with (first | (go_at_call 8; (with_reducible refine (ironbarklaw02_awake.calls kj35  t133 _ A46.out).mono ?_); rintro e w61 ⟨rfl, hb⟩; have n0_ := Aside0.mk (Kd.R_below (by (with_reducible repeat (first | apply Kd.R_alloc | apply Kd.R_drewN | apply Kd.R_drew)); exact (Kd.R_mono (Kd.R_far (p := ⟨gb110, 5, none⟩) (Kd.R_far (p := ⟨gb110, 4, none⟩) (Kd.R_far (p := ⟨gb110, 3, none⟩) (Kd.R_far (p := ⟨gb110, 2, none⟩) (Kd.R_far (p := ⟨gb110, 1, none⟩) (Kd.R_far (p := ⟨gb110, 0, none⟩) (Kd.R_mono HO125.out (fun k_ hk => (⟨hk, hk.1.2⟩ : _ ∧ k_ ≠ gb110))) (fun _ hk => hk.2) (.int .i64 t126)) (fun _ hk => hk.2) (.int .i64 t127)) (fun _ hk => hk.2) (.int .i64 t128)) (fun _ hk => hk.2) (.int .i64 t129)) (fun _ hk => hk.2) (.bool t130)) (fun _ hk => hk.2) (.string t131)) (fun _ h_ => h_.1))) hb); have n1_ := Aside0.mk (blk_below (g := gb110) (o := .cells #[.int .i64 t126, .int .i64 t127, .int .i64 t128, .int .i64 t129, .bool t130, .string t131] 25 (0, 0)) (by (with_reducible repeat (first | refine blk_drewN ?_ _ | refine blk_drew ?_ | refine blk_alloc ?_ _)); refine blk_put (cs := #[.int .i64 t126, .int .i64 t127, .int .i64 t128, .int .i64 t129, .bool t130, .string t108]) ?_ 5 _ rfl; (with_reducible repeat (first | refine blk_drewN ?_ _ | refine blk_drew ?_ | refine blk_alloc ?_ _)); refine blk_put (cs := #[.int .i64 t126, .int .i64 t127, .int .i64 t128, .int .i64 t129, .bool t107, .string t108]) ?_ 4 _ rfl; (with_reducible repeat (first | refine blk_drewN ?_ _ | refine blk_drew ?_ | refine blk_alloc ?_ _)); refine blk_put (cs := #[.int .i64 t126, .int .i64 t127, .int .i64 t128, .int .i64 t106, .bool t107, .string t108]) ?_ 3 _ rfl; (with_reducible repeat (first | refine blk_drewN ?_ _ | refine blk_drew ?_ | refine blk_alloc ?_ _)); refine blk_put (cs := #[.int .i64 t126, .int .i64 t127, .int .i64 t105, .int .i64 t106, .bool t107, .string t108]) ?_ 2 _ rfl; (with_reducible repeat (first | refine blk_drewN ?_ _ | refine blk_drew ?_ | refine blk_alloc ?_ _)); refine blk_put (cs := #[.int .i64 t126, .int .i64 t104, .int .i64 t105, .int .i64 t106, .bool t107, .string t108]) ?_ 1 _ rfl; (with_reducible repeat (first | refine blk_drewN ?_ _ | refine blk_drew ?_ | refine blk_alloc ?_ _)); refine blk_put (cs := #[.int .i64 t103, .int .i64 t104, .int .i64 t105, .int .i64 t106, .bool t107, .string t108]) ?_ 0 _ rfl; (with_reducible repeat (first | refine blk_drewN ?_ _ | refine blk_drew ?_ | refine blk_alloc ?_ _)); exact BK110.out) hb); have n2_ := Aside0.mk (blk_below (g := gb118) (o := .cells #[.int .i64 t111, .int .i64 t112, .int .i64 t113, .int .i64 t114, .bool t115, .string t116] 25 (0, 0)) (by (with_reducible repeat (first | refine blk_drewN ?_ _ | refine blk_drew ?_ | refine blk_alloc ?_ _)); refine blk_far ?_ NB118_110.out _; (with_reducible repeat (first | refine blk_drewN ?_ _ | refine blk_drew ?_ | refine blk_alloc ?_ _)); refine blk_far ?_ NB118_110.out _; (with_reducible repeat (first | refine blk_drewN ?_ _ | refine blk_drew ?_ | refine blk_alloc ?_ _)); refine blk_far ?_ NB118_110.out _; (with_reducible repeat (first | refine blk_drewN ?_ _ | refine blk_drew ?_ | refine blk_alloc ?_ _)); refine blk_far ?_ NB118_110.out _; (with_reducible repeat (first | refine blk_drewN ?_ _ | refine blk_drew ?_ | refine blk_alloc ?_ _)); refine blk_far ?_ NB118_110.out _; (with_reducible repeat (first | refine blk_drewN ?_ _ | refine blk_drew ?_ | refine blk_alloc ?_ _)); refine blk_far ?_ NB118_110.out _; (with_reducible repeat (first | refine blk_drewN ?_ _ | refine blk_drew ?_ | refine blk_alloc ?_ _)); exact BK118.out) hb); have n3_ := Aside0.mk (below_step (by repeat (first | (with_reducible first | exact HB.out | apply below_alloc | apply pw_below_drewN | apply below_drew1 | refine below_set ?_ GE110.out | refine below_set ?_ GE118.out) | exact HB.out)) hb); clear HO125; clear BK110; clear BK118; clear HB; have HO125 := n0_; have BK110 := n1_; have BK118 := n2_; have HB := n3_; clear n0_ n1_ n2_ n3_; (try clear hb); (try clear hb2); (try clear hk); (try clear hi)))
                            go_ret
                            exact ⟨by first | rfl | (simp [errW_none, errW_some] <;> rfl) | (simp [*, errW_none, errW_some] <;> rfl), by repeat (first | (with_reducible first | exact HB.out | apply below_alloc | apply pw_below_drewN | apply below_drew1 | refine below_set ?_ GE110.out | refine below_set ?_ GE118.out) | exact HB.out)⟩
                          · rw [if_neg c45] at H
                            have c45b0 : (t126 == t111 && (t127 == t112 && (t128 == t113 && (t129 == t114 && (t130 == t115 && (t131.toList == t116.toList)))))) = false := by simpa using c45
                            (try (have c45b1 : decide (t126 = t111 && (t127 == t112 && (t128 == t113 && (t129 == t114 && (t130 == t115 && (t131.toList == t116.toList)))))) = false := by simpa using c45))
                            (try (have c45b2 : (t126 == t111 && (t127 == t112 && (t128 == t113 && (t129 == t114 && (t130 == t115 && (t131.toList == t116.toList)))))) = false := by simpa using c45))
                            (try (have c45b3 : ¬ (t126 = t111 && (t127 == t112 && (t128 == t113 && (t129 == t114 && (t130 == t115 && (t131.toList == t116.toList)))))) := by simpa using c45))
                            clear c45
                            obtain rfl := Option.some.inj H
                            try go_wp2
                            have n0_ := Aside0.mk (blk_drew BK110.out)
                            have n1_ := Aside0.mk (blk_drew BK118.out)
                            have n2_ := Aside0.mk (below_drew1 HB.out)
                            clear BK110
                            clear BK118
                            clear HB
                            have BK110 := n0_
                            have BK118 := n1_
                            have HB := n2_
                            clear n0_ n1_ n2_
                            have p121 : 0 ≤ (1 : Int) := (by omega)
                            have q121 : 1 < (l0.length : Int) := of_decide_eq_true (by first | (with_reducible assumption) | assumption)
                            obtain ⟨ad121, e121, hx121_0, hx121_1, hx121_2, hx121_3, hx121_4, hx121_5⟩ := at_T25 HR0.out 1 p121 q121
                            have hw121_5 := hx121_5
                            (try rw [show ((1 : Int)).toNat = 1 from rfl] at hw121_5)
                            (try rw [show 1 * 6 = 6 from rfl] at hw121_5)
                            (try simp only [Nat.reduceMul, Nat.reduceEqDiff, Go.Addr.add, ↓reduceIte] at hw121_5)
                            have hw121_4 := hx121_4
                            (try rw [show ((1 : Int)).toNat = 1 from rfl] at hw121_4)
                            (try rw [show 1 * 6 = 6 from rfl] at hw121_4)
                            (try simp only [Nat.reduceMul, Nat.reduceEqDiff, Go.Addr.add, ↓reduceIte] at hw121_4)
                            have hw121_3 := hx121_3
                            (try rw [show ((1 : Int)).toNat = 1 from rfl] at hw121_3)
                            (try rw [show 1 * 6 = 6 from rfl] at hw121_3)
                            (try simp only [Nat.reduceMul, Nat.reduceEqDiff, Go.Addr.add, ↓reduceIte] at hw121_3)
                            have hw121_2 := hx121_2
                            (try rw [show ((1 : Int)).toNat = 1 from rfl] at hw121_2)
                            (try rw [show 1 * 6 = 6 from rfl] at hw121_2)
                            (try simp only [Nat.reduceMul, Nat.reduceEqDiff, Go.Addr.add, ↓reduceIte] at hw121_2)
                            have hw121_1 := hx121_1
                            (try rw [show ((1 : Int)).toNat = 1 from rfl] at hw121_1)
                            (try rw [show 1 * 6 = 6 from rfl] at hw121_1)
                            (try simp only [Nat.reduceMul, Nat.reduceEqDiff, Go.Addr.add, ↓reduceIte] at hw121_1)
                            have hw121_0 := hx121_0
                            (try rw [show ((1 : Int)).toNat = 1 from rfl] at hw121_0)
                            (try rw [show 1 * 6 = 6 from rfl] at hw121_0)
                            (try simp only [Nat.reduceMul, Nat.reduceEqDiff, Go.Addr.add, ↓reduceIte] at hw121_0)
                            cases e121
                            (try simp only [show (1 : Int).toNat = 1 from rfl, Nat.reduceMul, Nat.reduceEqDiff, Go.Addr.add, ↓reduceIte] at hx121_0)
                            (try simp only [show (1 : Int).toNat = 1 from rfl, Nat.reduceMul, Nat.reduceEqDiff, Go.Addr.add, ↓reduceIte] at hx121_1)
                            (try simp only [show (1 : Int).toNat = 1 from rfl, Nat.reduceMul, Nat.reduceEqDiff, Go.Addr.add, ↓reduceIte] at hx121_2)
                            (try simp only [show (1 : Int).toNat = 1 from rfl, Nat.reduceMul, Nat.reduceEqDiff, Go.Addr.add, ↓reduceIte] at hx121_3)
                            (try simp only [show (1 : Int).toNat = 1 from rfl, Nat.reduceMul, Nat.reduceEqDiff, Go.Addr.add, ↓reduceIte] at hx121_4)
                            (try simp only [show (1 : Int).toNat = 1 from rfl, Nat.reduceMul, Nat.reduceEqDiff, Go.Addr.add, ↓reduceIte] at hx121_5)
                            have qi121 : (1 < l0.length) = True := eq_true (by omega)
                            (try rw [show ((1 : Int)).toNat = 1 from rfl] at hx121_0)
                            (try rw [show 1 * 6 = 6 from rfl] at hx121_0)
                            (try rw [show ((1 : Int)).toNat = 1 from rfl] at hx121_1)
                            (try rw [show 1 * 6 = 6 from rfl] at hx121_1)
                            (try rw [show ((1 : Int)).toNat = 1 from rfl] at hx121_2)
                            (try rw [show 1 * 6 = 6 from rfl] at hx121_2)
                            (try rw [show ((1 : Int)).toNat = 1 from rfl] at hx121_3)
                            (try rw [show 1 * 6 = 6 from rfl] at hx121_3)
                            (try rw [show ((1 : Int)).toNat = 1 from rfl] at hx121_4)
                            (try rw [show 1 * 6 = 6 from rfl] at hx121_4)
                            (try rw [show ((1 : Int)).toNat = 1 from rfl] at hx121_5)
                            (try rw [show 1 * 6 = 6 from rfl] at hx121_5)
                            replace hx121_0 := (HB.out.cell (World.block_lt_of_cell? w _ hx121_0)).trans hx121_0
                            replace hx121_1 := (HB.out.cell (World.block_lt_of_cell? w _ hx121_1)).trans hx121_1
                            replace hx121_2 := (HB.out.cell (World.block_lt_of_cell? w _ hx121_2)).trans hx121_2
                            replace hx121_3 := (HB.out.cell (World.block_lt_of_cell? w _ hx121_3)).trans hx121_3
                            replace hx121_4 := (HB.out.cell (World.block_lt_of_cell? w _ hx121_4)).trans hx121_4
                            replace hx121_5 := (HB.out.cell (World.block_lt_of_cell? w _ hx121_5)).trans hx121_5
                            replace p121 := eq_true p121
                            replace q121 := eq_true q121
                            have p122 : 0 ≤ (0 : Int) := (by omega)
                            have q122 : 0 < (l0.length : Int) := of_decide_eq_true (by first | (with_reducible assumption) | assumption)
                            obtain ⟨ad122, e122, hx122_0, hx122_1, hx122_2, hx122_3, hx122_4, hx122_5⟩ := at_T25 HR0.out 0 p122 q122
                            have hw122_5 := hx122_5
                            (try rw [show ((0 : Int)).toNat = 0 from rfl] at hw122_5)
                            (try rw [show 0 * 6 = 0 from rfl] at hw122_5)
                            (try rw [Addr.add_zero'] at hw122_5)
                            have hw122_4 := hx122_4
                            (try rw [show ((0 : Int)).toNat = 0 from rfl] at hw122_4)
                            (try rw [show 0 * 6 = 0 from rfl] at hw122_4)
                            (try rw [Addr.add_zero'] at hw122_4)
                            have hw122_3 := hx122_3
                            (try rw [show ((0 : Int)).toNat = 0 from rfl] at hw122_3)
                            (try rw [show 0 * 6 = 0 from rfl] at hw122_3)
                            (try rw [Addr.add_zero'] at hw122_3)
                            have hw122_2 := hx122_2
                            (try rw [show ((0 : Int)).toNat = 0 from rfl] at hw122_2)
                            (try rw [show 0 * 6 = 0 from rfl] at hw122_2)
                            (try rw [Addr.add_zero'] at hw122_2)
                            have hw122_1 := hx122_1
                            (try rw [show ((0 : Int)).toNat = 0 from rfl] at hw122_1)
                            (try rw [show 0 * 6 = 0 from rfl] at hw122_1)
                            (try rw [Addr.add_zero'] at hw122_1)
                            have hw122_0 := hx122_0
                            (try rw [show ((0 : Int)).toNat = 0 from rfl] at hw122_0)
                            (try rw [show 0 * 6 = 0 from rfl] at hw122_0)
                            (try rw [Addr.add_zero'] at hw122_0)
                            obtain rfl : ad121 = ad122 := (by injection e122)
                            have qi122 : (0 < l0.length) = True := eq_true (by omega)
                            (try rw [show ((0 : Int)).toNat = 0 from rfl] at hx122_0)
                            (try rw [show 0 * 6 = 0 from rfl] at hx122_0)
                            (try rw [Addr.add_zero'] at hx122_0)
                            (try rw [show ((0 : Int)).toNat = 0 from rfl] at hx122_1)
                            (try rw [show 0 * 6 = 0 from rfl] at hx122_1)
                            (try rw [Addr.add_zero'] at hx122_1)
                            (try rw [show ((0 : Int)).toNat = 0 from rfl] at hx122_2)
                            (try rw [show 0 * 6 = 0 from rfl] at hx122_2)
                            (try rw [Addr.add_zero'] at hx122_2)
                            (try rw [show ((0 : Int)).toNat = 0 from rfl] at hx122_3)
                            (try rw [show 0 * 6 = 0 from rfl] at hx122_3)
                            (try rw [Addr.add_zero'] at hx122_3)
                            (try rw [show ((0 : Int)).toNat = 0 from rfl] at hx122_4)
                            (try rw [show 0 * 6 = 0 from rfl] at hx122_4)
                            (try rw [Addr.add_zero'] at hx122_4)
                            (try rw [show ((0 : Int)).toNat = 0 from rfl] at hx122_5)
                            (try rw [show 0 * 6 = 0 from rfl] at hx122_5)
                            (try rw [Addr.add_zero'] at hx122_5)
                            replace hx122_0 := (HB.out.cell (World.block_lt_of_cell? w _ hx122_0)).trans hx122_0
                            replace hx122_1 := (HB.out.cell (World.block_lt_of_cell? w _ hx122_1)).trans hx122_1
                            replace hx122_2 := (HB.out.cell (World.block_lt_of_cell? w _ hx122_2)).trans hx122_2
                            replace hx122_3 := (HB.out.cell (World.block_lt_of_cell? w _ hx122_3)).trans hx122_3
                            replace hx122_4 := (HB.out.cell (World.block_lt_of_cell? w _ hx122_4)).trans hx122_4
                            replace hx122_5 := (HB.out.cell (World.block_lt_of_cell? w _ hx122_5)).trans hx122_5
                            replace p122 := eq_true p122
                            replace q122 := eq_true q122
                            refine start_ (n := 13) (S := fun w' => w'.cell? ⟨ad121.block, ad121.off + 6, none⟩ = some (.int .i64 ((rd_T25 l0 1).f0)) ∧ w'.cell? ⟨ad121.block, ad121.off + 6 + 1, none⟩ = some (.int .i64 ((rd_T25 l0 1).f1)) ∧ w'.cell? ⟨ad121.block, ad121.off + 6 + 2, none⟩ = some (.int .i64 ((rd_T25 l0 1).f2)) ∧ w'.cell? ⟨ad121.block, ad121.off + 6 + 3, none⟩ = some (.int .i64 ((rd_T25 l0 1).f3)) ∧ w'.cell? ⟨ad121.block, ad121.off + 6 + 4, none⟩ = some (.bool ((rd_T25 l0 1).f4)) ∧ w'.cell? ⟨ad121.block, ad121.off + 6 + 5, none⟩ = some (.string ((rd_T25 l0 1).f5)) ∧ w'.cell? ad121 = some (.int .i64 ((rd_T25 l0 0).f0)) ∧ w'.cell? ⟨ad121.block, ad121.off + 1, none⟩ = some (.int .i64 ((rd_T25 l0 0).f1)) ∧ w'.cell? ⟨ad121.block, ad121.off + 2, none⟩ = some (.int .i64 ((rd_T25 l0 0).f2)) ∧ w'.cell? ⟨ad121.block, ad121.off + 3, none⟩ = some (.int .i64 ((rd_T25 l0 0).f3)) ∧ w'.cell? ⟨ad121.block, ad121.off + 4, none⟩ = some (.bool ((rd_T25 l0 0).f4)) ∧ w'.cell? ⟨ad121.block, ad121.off + 5, none⟩ = some (.string ((rd_T25 l0 0).f5))) (ds := []) #[false, false, false, false, false, false, false, false, false, false, false, false, false] (by kernel_rfl) rfl rfl ⟨((HB.out.cell (World.block_lt_of_cell? w _ hw121_0)).trans hw121_0), ((HB.out.cell (World.block_lt_of_cell? w _ hw121_1)).trans hw121_1), ((HB.out.cell (World.block_lt_of_cell? w _ hw121_2)).trans hw121_2), ((HB.out.cell (World.block_lt_of_cell? w _ hw121_3)).trans hw121_3), ((HB.out.cell (World.block_lt_of_cell? w _ hw121_4)).trans hw121_4), ((HB.out.cell (World.block_lt_of_cell? w _ hw121_5)).trans hw121_5), ((HB.out.cell (World.block_lt_of_cell? w _ hw122_0)).trans hw122_0), ((HB.out.cell (World.block_lt_of_cell? w _ hw122_1)).trans hw122_1), ((HB.out.cell (World.block_lt_of_cell? w _ hw122_2)).trans hw122_2), ((HB.out.cell (World.block_lt_of_cell? w _ hw122_3)).trans hw122_3), ((HB.out.cell (World.block_lt_of_cell? w _ hw122_4)).trans hw122_4), ((HB.out.cell (World.block_lt_of_cell? w _ hw122_5)).trans hw122_5)⟩ (fun hHeld => ?_); refine with_tabW ironbarklaw02_ruleCommon.tab9 ironbarklaw02_ruleCommon.bits9 (fun HT_ HW_ => ?_)
                            generalize wc.drew = w62 at BK110 BK118 HB hx121_0 hx121_1 hx121_2 hx121_3 hx121_4 hx121_5 hx122_0 hx122_1 hx122_2 hx122_3 hx122_4 hx122_5 hHeld ⊢
                            refine pure_ (i := 0) (N := some 52) (v := ?_) (a' := ?_) #[true, false, false, false, false, false, false, false, false, false, false, false, false] rfl rfl (any_of HT_.out (by kernel_rfl)) (fun _ _ _ h => h) (Or.inl ⟨by rfl, ?_⟩) ?_ ?_
                            rotate_left
                            · intro w'
                              go_simp
                              with_reducible rfl
                            rotate_left
                            · simp only [Act.put, List.setIfInBounds_toArray, List.set_cons_zero, List.set_cons_succ, i64_w, i32_w]
                              rfl
                            refine pure_ (i := 1) (N := some 53) (v := ?_) (a' := ?_) #[true, true, false, false, false, false, false, false, false, false, false, false, false] rfl rfl (any_of HT_.out (by kernel_rfl)) (fun _ _ _ h => h) (Or.inl ⟨by rfl, ?_⟩) ?_ ?_
                            rotate_left
                            · intro w'
                              go_simp
                              with_reducible rfl
                            rotate_left
                            · simp only [Act.put, List.setIfInBounds_toArray, List.set_cons_zero, List.set_cons_succ, i64_w, i32_w]
                              rfl
                            refine pure_ (i := 3) (N := some 55) (v := ?_) (a' := ?_) #[true, true, false, true, false, false, false, false, false, false, false, false, false] rfl rfl (any_of HT_.out (by kernel_rfl)) (fun _ _ _ h => h) (Or.inl ⟨by rfl, ?_⟩) ?_ ?_
                            rotate_left
                            · intro w'
                              go_simp
                              with_reducible rfl
                            rotate_left
                            · simp only [Act.put, List.setIfInBounds_toArray, List.set_cons_zero, List.set_cons_succ, i64_w, i32_w]
                              rfl
                            refine pure_ (i := 4) (N := some 56) (v := ?_) (a' := ?_) #[true, true, false, true, true, false, false, false, false, false, false, false, false] rfl rfl (any_of HT_.out (by kernel_rfl)) (fun _ _ _ h => h) (Or.inl ⟨by rfl, ?_⟩) ?_ ?_
                            rotate_left
                            · intro w'
                              go_simp
                              with_reducible rfl
                            rotate_left
                            · simp only [Act.put, List.setIfInBounds_toArray, List.set_cons_zero, List.set_cons_succ, i64_w, i32_w]
                              rfl
                            refine take_ (i := 2) (N := some 54) (v := ?_) (a' := ?_) #[true, true, true, true, true, false, false, false, false, false, false, false, false] rfl rfl (take_ofW HT_.out HW_.out (by kernel_rfl)) (fun _ _ _ h => h) (Or.inl ⟨by rfl, ?_⟩) hHeld ?_ ?_
                            rotate_left
                            · rintro w' ⟨s0, s1, s2, s3, s4, s5, s6, s7, s8, s9, s10, s11⟩
                              go_simp
                              with_reducible rfl
                            rotate_left
                            · simp only [Act.put, List.setIfInBounds_toArray, List.set_cons_zero, List.set_cons_succ, i64_w, i32_w]
                              rfl
                            refine take_ (i := 5) (N := some 57) (v := ?_) (a' := ?_) #[true, true, true, true, true, true, false, false, false, false, false, false, false] rfl rfl (take_ofW HT_.out HW_.out (by kernel_rfl)) (fun _ _ _ h => h) (Or.inl ⟨by rfl, ?_⟩) hHeld ?_ ?_
                            rotate_left
                            · rintro w' ⟨s0, s1, s2, s3, s4, s5, s6, s7, s8, s9, s10, s11⟩
                              go_simp
                              with_reducible rfl
                            rotate_left
                            · simp only [Act.put, List.setIfInBounds_toArray, List.set_cons_zero, List.set_cons_succ, i64_w, i32_w]
                              rfl
                            refine one_ (i := 6) (N := some 58) #[true, true, true, true, true, true, true, false, false, false, false, false, false] rfl rfl (one_of HT_.out (by kernel_rfl)) (by decide) (fun K hK => ?_)
                            refine Kd.R_lit_step k25 _ 25 ?hg (N := 58) ?hd (xs := ([(⟨(rd_T25 l0 1).f0, (rd_T25 l0 1).f1, (rd_T25 l0 1).f2, (rd_T25 l0 1).f3, (rd_T25 l0 1).f4, (rd_T25 l0 1).f5⟩ : S25), (⟨(rd_T25 l0 0).f0, (rd_T25 l0 0).f1, (rd_T25 l0 0).f2, (rd_T25 l0 0).f3, (rd_T25 l0 0).f4, (rd_T25 l0 0).f5⟩ : S25)] : List (S25))) (inner := [.int .i64 ((rd_T25 l0 1).f0), .int .i64 ((rd_T25 l0 1).f1), .int .i64 ((rd_T25 l0 1).f2), .int .i64 ((rd_T25 l0 1).f3), .bool ((rd_T25 l0 1).f4), .string ((rd_T25 l0 1).f5), .int .i64 ((rd_T25 l0 0).f0), .int .i64 ((rd_T25 l0 0).f1), .int .i64 ((rd_T25 l0 0).f2), .int .i64 ((rd_T25 l0 0).f3), .bool ((rd_T25 l0 0).f4), .string ((rd_T25 l0 0).f5)]) (ok := fun _ => True) (okp := fun _ => True) ?hr ?hp (fun _ hk => hk) trivial (Below.refl _ _) (Nat.le_refl _) (by simp) ?_; (case hd => rfl); (case hg => rfl); (case hr => first | (go_simp; done) | (go_simp; rfl)); (case hp => exact (Reps.c6 (show Kd.M k25 _ _ _ (⟨(rd_T25 l0 1).f0, (rd_T25 l0 1).f1, (rd_T25 l0 1).f2, (rd_T25 l0 1).f3, (rd_T25 l0 1).f4, (rd_T25 l0 1).f5⟩ : S25) [.int .i64 ((rd_T25 l0 1).f0), .int .i64 ((rd_T25 l0 1).f1), .int .i64 ((rd_T25 l0 1).f2), .int .i64 ((rd_T25 l0 1).f3), .bool ((rd_T25 l0 1).f4), .string ((rd_T25 l0 1).f5)] from (k25_mkM _ _ _ (⟨(rd_T25 l0 1).f0, (rd_T25 l0 1).f1, (rd_T25 l0 1).f2, (rd_T25 l0 1).f3, (rd_T25 l0 1).f4, (rd_T25 l0 1).f5⟩ : S25) )) (Reps.c6 (show Kd.M k25 _ _ _ (⟨(rd_T25 l0 0).f0, (rd_T25 l0 0).f1, (rd_T25 l0 0).f2, (rd_T25 l0 0).f3, (rd_T25 l0 0).f4, (rd_T25 l0 0).f5⟩ : S25) [.int .i64 ((rd_T25 l0 0).f0), .int .i64 ((rd_T25 l0 0).f1), .int .i64 ((rd_T25 l0 0).f2), .int .i64 ((rd_T25 l0 0).f3), .bool ((rd_T25 l0 0).f4), .string ((rd_T25 l0 0).f5)] from (k25_mkM _ _ _ (⟨(rd_T25 l0 0).f0, (rd_T25 l0 0).f1, (rd_T25 l0 0).f2, (rd_T25 l0 0).f3, (rd_T25 l0 0).f4, (rd_T25 l0 0).f5⟩ : S25) )) (Reps.none _ _))))
                            intro v124 w63 ho64 hb hg_ hnew_
                            clear hg_ hnew_
                            (first | rw [← Ny123.out] at ho64 | (simp only [Int.reduceToNat] at ho64; rw [← Ny123.out] at ho64))
                            have n0_ := Aside0.mk (Kd.R_lower (Kd.R_newB (Kd.R_newB ho64 (g := gb110) (o := .cells #[.int .i64 t103, .int .i64 t104, .int .i64 t105, .int .i64 t106, .bool t107, .string t108] 25 (0, 0)) (by (with_reducible repeat (first | refine blk_drewN ?_ _ | refine blk_drew ?_ | refine blk_alloc ?_ _)); exact BK110.out)) (g := gb118) (o := .cells #[.int .i64 t111, .int .i64 t112, .int .i64 t113, .int .i64 t114, .bool t115, .string t116] 25 (0, 0)) (by (with_reducible repeat (first | refine blk_drewN ?_ _ | refine blk_drew ?_ | refine blk_alloc ?_ _)); exact BK118.out)) (below_size (by repeat (first | (with_reducible first | exact HB.out | apply below_alloc | apply pw_below_drewN | apply below_drew1 | refine below_set ?_ GE110.out | refine below_set ?_ GE118.out) | exact HB.out))))
                            have n1_ := Aside0.mk (blk_below (g := gb110) (o := .cells #[.int .i64 t103, .int .i64 t104, .int .i64 t105, .int .i64 t106, .bool t107, .string t108] 25 (0, 0)) (by (with_reducible repeat (first | refine blk_drewN ?_ _ | refine blk_drew ?_ | refine blk_alloc ?_ _)); exact BK110.out) hb)
                            have n2_ := Aside0.mk (blk_below (g := gb118) (o := .cells #[.int .i64 t111, .int .i64 t112, .int .i64 t113, .int .i64 t114, .bool t115, .string t116] 25 (0, 0)) (by (with_reducible repeat (first | refine blk_drewN ?_ _ | refine blk_drew ?_ | refine blk_alloc ?_ _)); exact BK118.out) hb)
                            have n3_ := Aside0.mk (below_step (by repeat (first | (with_reducible first | exact HB.out | apply below_alloc | apply pw_below_drewN | apply below_drew1 | refine below_set ?_ GE110.out | refine below_set ?_ GE118.out) | exact HB.out)) hb)
                            clear BK110
                            clear BK118
                            clear HB
                            have HO125 := n0_
                            have BK110 := n1_
                            have BK118 := n2_
                            have HB := n3_
                            clear n0_ n1_ n2_ n3_
                            clear hb ho64
                            obtain ⟨Ao65, co65, eo65⟩ := Kd.R_slice HO125.out
                            (first | subst eo65 | (injection eo65 with f1_ f2_ f3_; have f4_ := f1_.symm; have f5_ := f3_.symm; clear f1_ f2_ f3_; subst f4_; subst f5_))
                            refine hK.out _ _ ⟨((HB.out.cell (World.block_lt_of_cell? w _ hw121_0)).trans hw121_0), ((HB.out.cell (World.block_lt_of_cell? w _ hw121_1)).trans hw121_1), ((HB.out.cell (World.block_lt_of_cell? w _ hw121_2)).trans hw121_2), ((HB.out.cell (World.block_lt_of_cell? w _ hw121_3)).trans hw121_3), ((HB.out.cell (World.block_lt_of_cell? w _ hw121_4)).trans hw121_4), ((HB.out.cell (World.block_lt_of_cell? w _ hw121_5)).trans hw121_5), ((HB.out.cell (World.block_lt_of_cell? w _ hw122_0)).trans hw122_0), ((HB.out.cell (World.block_lt_of_cell? w _ hw122_1)).trans hw122_1), ((HB.out.cell (World.block_lt_of_cell? w _ hw122_2)).trans hw122_2), ((HB.out.cell (World.block_lt_of_cell? w _ hw122_3)).trans hw122_3), ((HB.out.cell (World.block_lt_of_cell? w _ hw122_4)).trans hw122_4), ((HB.out.cell (World.block_lt_of_cell? w _ hw122_5)).trans hw122_5)⟩ (fun hHeld => ?_)
                            clear hK K
                            refine norm_ (a' := ?_) ?_ ?_
                            rotate_left
                            · show Act.put _ (some 58) _ = _
                              simp only [Act.put, List.setIfInBounds_toArray, List.set_cons_zero, List.set_cons_succ, i64_w, i32_w]
                              rfl
                            refine one_ (i := 7) (N := some 59) #[true, true, true, true, true, true, true, true, false, false, false, false, false] rfl rfl (one_of HT_.out (by kernel_rfl)) (by decide) (fun K hK => ?_)
                            refine goes_ Try.func60 (by kernel_rfl) rfl #[.slice Ao65 y123.length co65] (by rfl) rfl rfl (by (try simp only [List.map_toArray, List.map_cons, List.map_nil]); first | done | rfl | (simp only [List.length_drop, List.length_take]; rfl)) ?_
                            with_reducible refine (rule_Common.calls kj35 _ _ y123 t126 t127 t128 t129 t130 t131 t132 _ ?side1 ?side2 A43.out).mono ?_
                            (case side1 => repeat (first | exact (Kd.R_reads' HO125.out).2.2 | (with_reducible refine Kd.C_alloc ?_ _) | (with_reducible refine Kd.C_drewN ?_ _) | (with_reducible refine Kd.C_drew ?_)))
                            (case side2 => exact (Kd.R_reads' HO125.out).2.1)
                            rintro e w66 ⟨rfl, hb⟩
                            refine ⟨_, rfl, ?_⟩
                            have n0_ := Aside0.mk (Kd.R_below (by (with_reducible repeat (first | apply Kd.R_alloc | apply Kd.R_drewN | apply Kd.R_drew)); exact HO125.out) hb)
                            have n1_ := Aside0.mk (blk_below (g := gb110) (o := .cells #[.int .i64 t103, .int .i64 t104, .int .i64 t105, .int .i64 t106, .bool t107, .string t108] 25 (0, 0)) (by (with_reducible repeat (first | refine blk_drewN ?_ _ | refine blk_drew ?_ | refine blk_alloc ?_ _)); exact BK110.out) hb)
                            have n2_ := Aside0.mk (blk_below (g := gb118) (o := .cells #[.int .i64 t111, .int .i64 t112, .int .i64 t113, .int .i64 t114, .bool t115, .string t116] 25 (0, 0)) (by (with_reducible repeat (first | refine blk_drewN ?_ _ | refine blk_drew ?_ | refine blk_alloc ?_ _)); exact BK118.out) hb)
                            have n3_ := Aside0.mk (below_step (by repeat (first | (with_reducible first | exact HB.out | apply below_alloc | apply pw_below_drewN | apply below_drew1 | refine below_set ?_ GE110.out | refine below_set ?_ GE118.out) | exact HB.out)) hb)
                            clear HO125
                            clear BK110
                            clear BK118
                            clear HB
                            have HO125 := n0_
                            have BK110 := n1_
                            have BK118 := n2_
                            have HB := n3_
                            clear n0_ n1_ n2_ n3_
                            (try clear hb)
                            (try clear hb2)
                            (try clear hk)
                            (try clear hi)
                            refine hK.out _ _ ⟨((HB.out.cell (World.block_lt_of_cell? w _ hw121_0)).trans hw121_0), ((HB.out.cell (World.block_lt_of_cell? w _ hw121_1)).trans hw121_1), ((HB.out.cell (World.block_lt_of_cell? w _ hw121_2)).trans hw121_2), ((HB.out.cell (World.block_lt_of_cell? w _ hw121_3)).trans hw121_3), ((HB.out.cell (World.block_lt_of_cell? w _ hw121_4)).trans hw121_4), ((HB.out.cell (World.block_lt_of_cell? w _ hw121_5)).trans hw121_5), ((HB.out.cell (World.block_lt_of_cell? w _ hw122_0)).trans hw122_0), ((HB.out.cell (World.block_lt_of_cell? w _ hw122_1)).trans hw122_1), ((HB.out.cell (World.block_lt_of_cell? w _ hw122_2)).trans hw122_2), ((HB.out.cell (World.block_lt_of_cell? w _ hw122_3)).trans hw122_3), ((HB.out.cell (World.block_lt_of_cell? w _ hw122_4)).trans hw122_4), ((HB.out.cell (World.block_lt_of_cell? w _ hw122_5)).trans hw122_5)⟩ (fun hHeld => ?_)
                            clear hK K
                            refine norm_ (a' := ?_) ?_ ?_
                            rotate_left
                            · show Act.put _ (some 59) _ = _
                              simp only [Act.put, List.setIfInBounds_toArray, List.set_cons_zero, List.set_cons_succ, i64_w, i32_w]
                              rfl
                            refine pure_ (i := 8) (N := some 51) (v := ?_) (a' := ?_) #[true, true, true, true, true, true, true, true, true, false, false, false, false] rfl rfl (any_of HT_.out (by kernel_rfl)) (fun _ _ _ h => h) (Or.inl ⟨by rfl, ?_⟩) ?_ ?_
                            rotate_left
                            · intro w'
                              go_simp
                              with_reducible rfl
                            rotate_left
                            · simp only [Act.put, List.setIfInBounds_toArray, List.set_cons_zero, List.set_cons_succ, i64_w, i32_w]
                              rfl
                            refine pure_ (i := 9) (N := some 60) (v := ?_) (a' := ?_) #[true, true, true, true, true, true, true, true, true, true, false, false, false] rfl rfl (any_of HT_.out (by kernel_rfl)) (fun _ _ _ h => h) (Or.inl ⟨by rfl, ?_⟩) ?_ ?_
                            rotate_left
                            · intro w'
                              go_simp
                              with_reducible rfl
                            rotate_left
                            · simp only [Act.put, List.setIfInBounds_toArray, List.set_cons_zero, List.set_cons_succ, i64_w, i32_w]
                              rfl
                            refine pure_ (i := 10) (N := some 61) (v := ?_) (a' := ?_) #[true, true, true, true, true, true, true, true, true, true, true, false, false] rfl rfl (any_of HT_.out (by kernel_rfl)) (fun _ _ _ h => h) (Or.inl ⟨by rfl, ?_⟩) ?_ ?_
                            rotate_left
                            · intro w'
                              go_simp
                              with_reducible rfl
                            rotate_left
                            · simp only [Act.put, List.setIfInBounds_toArray, List.set_cons_zero, List.set_cons_succ, i64_w, i32_w]
                              rfl
                            refine one_ (i := 11) (N := none) #[true, true, true, true, true, true, true, true, true, true, true, true, false] rfl rfl (one_of HT_.out (by kernel_rfl)) (by decide) (fun K hK => ?_)
                            have hs67 : w66.cell? ⟨gb110, 0, none⟩ = some (.int .i64 t103) := (blk_cell BK110.out 0).trans rfl
                            have hfs67 := blk_frozen BK110.out 0
                            have hns67_1 := NB118_110.out
                            have hms67_1 := NB110_118.out
                            have hs68 : w66.cell? ⟨gb110, 1, none⟩ = some (.int .i64 t104) := (blk_cell BK110.out 1).trans rfl
                            have hfs68 := blk_frozen BK110.out 1
                            have hns68_1 := NB118_110.out
                            have hms68_1 := NB110_118.out
                            have hs69 : w66.cell? ⟨gb110, 2, none⟩ = some (.int .i64 t105) := (blk_cell BK110.out 2).trans rfl
                            have hfs69 := blk_frozen BK110.out 2
                            have hns69_1 := NB118_110.out
                            have hms69_1 := NB110_118.out
                            have hs70 : w66.cell? ⟨gb110, 3, none⟩ = some (.int .i64 t106) := (blk_cell BK110.out 3).trans rfl
                            have hfs70 := blk_frozen BK110.out 3
                            have hns70_1 := NB118_110.out
                            have hms70_1 := NB110_118.out
                            have hs71 : w66.cell? ⟨gb110, 4, none⟩ = some (.bool t107) := (blk_cell BK110.out 4).trans rfl
                            have hfs71 := blk_frozen BK110.out 4
                            have hns71_1 := NB118_110.out
                            have hms71_1 := NB110_118.out
                            have hs72 : w66.cell? ⟨gb110, 5, none⟩ = some (.string t108) := (blk_cell BK110.out 5).trans rfl
                            have hfs72 := blk_frozen BK110.out 5
                            have hns72_1 := NB118_110.out
                            have hms72_1 := NB110_118.out
                            refine skip_ (w1 := ?_) (by rfl) rfl ?_ ?_
                            rotate_left
                            · go_simp
                              rfl
                            have ne_hw121_0_GW110 := Nat.ne_of_lt (Nat.lt_of_lt_of_le (World.block_lt_of_cell? _ _ hw121_0) GW110.out)
                            have ne_hw121_1_GW110 := Nat.ne_of_lt (Nat.lt_of_lt_of_le (World.block_lt_of_cell? _ _ hw121_1) GW110.out)
                            have ne_hw121_2_GW110 := Nat.ne_of_lt (Nat.lt_of_lt_of_le (World.block_lt_of_cell? _ _ hw121_2) GW110.out)
                            have ne_hw121_3_GW110 := Nat.ne_of_lt (Nat.lt_of_lt_of_le (World.block_lt_of_cell? _ _ hw121_3) GW110.out)
                            have ne_hw121_4_GW110 := Nat.ne_of_lt (Nat.lt_of_lt_of_le (World.block_lt_of_cell? _ _ hw121_4) GW110.out)
                            have ne_hw121_5_GW110 := Nat.ne_of_lt (Nat.lt_of_lt_of_le (World.block_lt_of_cell? _ _ hw121_5) GW110.out)
                            have ne_hw122_0_GW110 := Nat.ne_of_lt (Nat.lt_of_lt_of_le (World.block_lt_of_cell? _ _ hw122_0) GW110.out)
                            have ne_hw122_1_GW110 := Nat.ne_of_lt (Nat.lt_of_lt_of_le (World.block_lt_of_cell? _ _ hw122_1) GW110.out)
                            have ne_hw122_2_GW110 := Nat.ne_of_lt (Nat.lt_of_lt_of_le (World.block_lt_of_cell? _ _ hw122_2) GW110.out)
                            have ne_hw122_3_GW110 := Nat.ne_of_lt (Nat.lt_of_lt_of_le (World.block_lt_of_cell? _ _ hw122_3) GW110.out)
                            have ne_hw122_4_GW110 := Nat.ne_of_lt (Nat.lt_of_lt_of_le (World.block_lt_of_cell? _ _ hw122_4) GW110.out)
                            have ne_hw122_5_GW110 := Nat.ne_of_lt (Nat.lt_of_lt_of_le (World.block_lt_of_cell? _ _ hw122_5) GW110.out)
                            refine hK.out _ _ ⟨((cell_far (p := ⟨gb110, _, none⟩) (by first | exact ne_hw121_0_GW110 | (rw [add_block]; exact ne_hw121_0_GW110) | (dsimp only; exact ne_hw121_0_GW110)) _).trans (((cell_far (p := ⟨gb110, _, none⟩) (by first | exact ne_hw121_0_GW110 | (rw [add_block]; exact ne_hw121_0_GW110) | (dsimp only; exact ne_hw121_0_GW110)) _).trans (((cell_far (p := ⟨gb110, _, none⟩) (by first | exact ne_hw121_0_GW110 | (rw [add_block]; exact ne_hw121_0_GW110) | (dsimp only; exact ne_hw121_0_GW110)) _).trans (((cell_far (p := ⟨gb110, _, none⟩) (by first | exact ne_hw121_0_GW110 | (rw [add_block]; exact ne_hw121_0_GW110) | (dsimp only; exact ne_hw121_0_GW110)) _).trans (((cell_far (p := ⟨gb110, _, none⟩) (by first | exact ne_hw121_0_GW110 | (rw [add_block]; exact ne_hw121_0_GW110) | (dsimp only; exact ne_hw121_0_GW110)) _).trans (((cell_far (p := ⟨gb110, _, none⟩) (by first | exact ne_hw121_0_GW110 | (rw [add_block]; exact ne_hw121_0_GW110) | (dsimp only; exact ne_hw121_0_GW110)) _).trans (hHeld.1)))))))))))), ((cell_far (p := ⟨gb110, _, none⟩) (by first | exact ne_hw121_1_GW110 | (rw [add_block]; exact ne_hw121_1_GW110) | (dsimp only; exact ne_hw121_1_GW110)) _).trans (((cell_far (p := ⟨gb110, _, none⟩) (by first | exact ne_hw121_1_GW110 | (rw [add_block]; exact ne_hw121_1_GW110) | (dsimp only; exact ne_hw121_1_GW110)) _).trans (((cell_far (p := ⟨gb110, _, none⟩) (by first | exact ne_hw121_1_GW110 | (rw [add_block]; exact ne_hw121_1_GW110) | (dsimp only; exact ne_hw121_1_GW110)) _).trans (((cell_far (p := ⟨gb110, _, none⟩) (by first | exact ne_hw121_1_GW110 | (rw [add_block]; exact ne_hw121_1_GW110) | (dsimp only; exact ne_hw121_1_GW110)) _).trans (((cell_far (p := ⟨gb110, _, none⟩) (by first | exact ne_hw121_1_GW110 | (rw [add_block]; exact ne_hw121_1_GW110) | (dsimp only; exact ne_hw121_1_GW110)) _).trans (((cell_far (p := ⟨gb110, _, none⟩) (by first | exact ne_hw121_1_GW110 | (rw [add_block]; exact ne_hw121_1_GW110) | (dsimp only; exact ne_hw121_1_GW110)) _).trans (hHeld.2.1)))))))))))), ((cell_far (p := ⟨gb110, _, none⟩) (by first | exact ne_hw121_2_GW110 | (rw [add_block]; exact ne_hw121_2_GW110) | (dsimp only; exact ne_hw121_2_GW110)) _).trans (((cell_far (p := ⟨gb110, _, none⟩) (by first | exact ne_hw121_2_GW110 | (rw [add_block]; exact ne_hw121_2_GW110) | (dsimp only; exact ne_hw121_2_GW110)) _).trans (((cell_far (p := ⟨gb110, _, none⟩) (by first | exact ne_hw121_2_GW110 | (rw [add_block]; exact ne_hw121_2_GW110) | (dsimp only; exact ne_hw121_2_GW110)) _).trans (((cell_far (p := ⟨gb110, _, none⟩) (by first | exact ne_hw121_2_GW110 | (rw [add_block]; exact ne_hw121_2_GW110) | (dsimp only; exact ne_hw121_2_GW110)) _).trans (((cell_far (p := ⟨gb110, _, none⟩) (by first | exact ne_hw121_2_GW110 | (rw [add_block]; exact ne_hw121_2_GW110) | (dsimp only; exact ne_hw121_2_GW110)) _).trans (((cell_far (p := ⟨gb110, _, none⟩) (by first | exact ne_hw121_2_GW110 | (rw [add_block]; exact ne_hw121_2_GW110) | (dsimp only; exact ne_hw121_2_GW110)) _).trans (hHeld.2.2.1)))))))))))), ((cell_far (p := ⟨gb110, _, none⟩) (by first | exact ne_hw121_3_GW110 | (rw [add_block]; exact ne_hw121_3_GW110) | (dsimp only; exact ne_hw121_3_GW110)) _).trans (((cell_far (p := ⟨gb110, _, none⟩) (by first | exact ne_hw121_3_GW110 | (rw [add_block]; exact ne_hw121_3_GW110) | (dsimp only; exact ne_hw121_3_GW110)) _).trans (((cell_far (p := ⟨gb110, _, none⟩) (by first | exact ne_hw121_3_GW110 | (rw [add_block]; exact ne_hw121_3_GW110) | (dsimp only; exact ne_hw121_3_GW110)) _).trans (((cell_far (p := ⟨gb110, _, none⟩) (by first | exact ne_hw121_3_GW110 | (rw [add_block]; exact ne_hw121_3_GW110) | (dsimp only; exact ne_hw121_3_GW110)) _).trans (((cell_far (p := ⟨gb110, _, none⟩) (by first | exact ne_hw121_3_GW110 | (rw [add_block]; exact ne_hw121_3_GW110) | (dsimp only; exact ne_hw121_3_GW110)) _).trans (((cell_far (p := ⟨gb110, _, none⟩) (by first | exact ne_hw121_3_GW110 | (rw [add_block]; exact ne_hw121_3_GW110) | (dsimp only; exact ne_hw121_3_GW110)) _).trans (hHeld.2.2.2.1)))))))))))), ((cell_far (p := ⟨gb110, _, none⟩) (by first | exact ne_hw121_4_GW110 | (rw [add_block]; exact ne_hw121_4_GW110) | (dsimp only; exact ne_hw121_4_GW110)) _).trans (((cell_far (p := ⟨gb110, _, none⟩) (by first | exact ne_hw121_4_GW110 | (rw [add_block]; exact ne_hw121_4_GW110) | (dsimp only; exact ne_hw121_4_GW110)) _).trans (((cell_far (p := ⟨gb110, _, none⟩) (by first | exact ne_hw121_4_GW110 | (rw [add_block]; exact ne_hw121_4_GW110) | (dsimp only; exact ne_hw121_4_GW110)) _).trans (((cell_far (p := ⟨gb110, _, none⟩) (by first | exact ne_hw121_4_GW110 | (rw [add_block]; exact ne_hw121_4_GW110) | (dsimp only; exact ne_hw121_4_GW110)) _).trans (((cell_far (p := ⟨gb110, _, none⟩) (by first | exact ne_hw121_4_GW110 | (rw [add_block]; exact ne_hw121_4_GW110) | (dsimp only; exact ne_hw121_4_GW110)) _).trans (((cell_far (p := ⟨gb110, _, none⟩) (by first | exact ne_hw121_4_GW110 | (rw [add_block]; exact ne_hw121_4_GW110) | (dsimp only; exact ne_hw121_4_GW110)) _).trans (hHeld.2.2.2.2.1)))))))))))), ((cell_far (p := ⟨gb110, _, none⟩) (by first | exact ne_hw121_5_GW110 | (rw [add_block]; exact ne_hw121_5_GW110) | (dsimp only; exact ne_hw121_5_GW110)) _).trans (((cell_far (p := ⟨gb110, _, none⟩) (by first | exact ne_hw121_5_GW110 | (rw [add_block]; exact ne_hw121_5_GW110) | (dsimp only; exact ne_hw121_5_GW110)) _).trans (((cell_far (p := ⟨gb110, _, none⟩) (by first | exact ne_hw121_5_GW110 | (rw [add_block]; exact ne_hw121_5_GW110) | (dsimp only; exact ne_hw121_5_GW110)) _).trans (((cell_far (p := ⟨gb110, _, none⟩) (by first | exact ne_hw121_5_GW110 | (rw [add_block]; exact ne_hw121_5_GW110) | (dsimp only; exact ne_hw121_5_GW110)) _).trans (((cell_far (p := ⟨gb110, _, none⟩) (by first | exact ne_hw121_5_GW110 | (rw [add_block]; exact ne_hw121_5_GW110) | (dsimp only; exact ne_hw121_5_GW110)) _).trans (((cell_far (p := ⟨gb110, _, none⟩) (by first | exact ne_hw121_5_GW110 | (rw [add_block]; exact ne_hw121_5_GW110) | (dsimp only; exact ne_hw121_5_GW110)) _).trans (hHeld.2.2.2.2.2.1)))))))))))), ((cell_far (p := ⟨gb110, _, none⟩) (by first | exact ne_hw122_0_GW110 | (rw [add_block]; exact ne_hw122_0_GW110) | (dsimp only; exact ne_hw122_0_GW110)) _).trans (((cell_far (p := ⟨gb110, _, none⟩) (by first | exact ne_hw122_0_GW110 | (rw [add_block]; exact ne_hw122_0_GW110) | (dsimp only; exact ne_hw122_0_GW110)) _).trans (((cell_far (p := ⟨gb110, _, none⟩) (by first | exact ne_hw122_0_GW110 | (rw [add_block]; exact ne_hw122_0_GW110) | (dsimp only; exact ne_hw122_0_GW110)) _).trans (((cell_far (p := ⟨gb110, _, none⟩) (by first | exact ne_hw122_0_GW110 | (rw [add_block]; exact ne_hw122_0_GW110) | (dsimp only; exact ne_hw122_0_GW110)) _).trans (((cell_far (p := ⟨gb110, _, none⟩) (by first | exact ne_hw122_0_GW110 | (rw [add_block]; exact ne_hw122_0_GW110) | (dsimp only; exact ne_hw122_0_GW110)) _).trans (((cell_far (p := ⟨gb110, _, none⟩) (by first | exact ne_hw122_0_GW110 | (rw [add_block]; exact ne_hw122_0_GW110) | (dsimp only; exact ne_hw122_0_GW110)) _).trans (hHeld.2.2.2.2.2.2.1)))))))))))), ((cell_far (p := ⟨gb110, _, none⟩) (by first | exact ne_hw122_1_GW110 | (rw [add_block]; exact ne_hw122_1_GW110) | (dsimp only; exact ne_hw122_1_GW110)) _).trans (((cell_far (p := ⟨gb110, _, none⟩) (by first | exact ne_hw122_1_GW110 | (rw [add_block]; exact ne_hw122_1_GW110) | (dsimp only; exact ne_hw122_1_GW110)) _).trans (((cell_far (p := ⟨gb110, _, none⟩) (by first | exact ne_hw122_1_GW110 | (rw [add_block]; exact ne_hw122_1_GW110) | (dsimp only; exact ne_hw122_1_GW110)) _).trans (((cell_far (p := ⟨gb110, _, none⟩) (by first | exact ne_hw122_1_GW110 | (rw [add_block]; exact ne_hw122_1_GW110) | (dsimp only; exact ne_hw122_1_GW110)) _).trans (((cell_far (p := ⟨gb110, _, none⟩) (by first | exact ne_hw122_1_GW110 | (rw [add_block]; exact ne_hw122_1_GW110) | (dsimp only; exact ne_hw122_1_GW110)) _).trans (((cell_far (p := ⟨gb110, _, none⟩) (by first | exact ne_hw122_1_GW110 | (rw [add_block]; exact ne_hw122_1_GW110) | (dsimp only; exact ne_hw122_1_GW110)) _).trans (hHeld.2.2.2.2.2.2.2.1)))))))))))), ((cell_far (p := ⟨gb110, _, none⟩) (by first | exact ne_hw122_2_GW110 | (rw [add_block]; exact ne_hw122_2_GW110) | (dsimp only; exact ne_hw122_2_GW110)) _).trans (((cell_far (p := ⟨gb110, _, none⟩) (by first | exact ne_hw122_2_GW110 | (rw [add_block]; exact ne_hw122_2_GW110) | (dsimp only; exact ne_hw122_2_GW110)) _).trans (((cell_far (p := ⟨gb110, _, none⟩) (by first | exact ne_hw122_2_GW110 | (rw [add_block]; exact ne_hw122_2_GW110) | (dsimp only; exact ne_hw122_2_GW110)) _).trans (((cell_far (p := ⟨gb110, _, none⟩) (by first | exact ne_hw122_2_GW110 | (rw [add_block]; exact ne_hw122_2_GW110) | (dsimp only; exact ne_hw122_2_GW110)) _).trans (((cell_far (p := ⟨gb110, _, none⟩) (by first | exact ne_hw122_2_GW110 | (rw [add_block]; exact ne_hw122_2_GW110) | (dsimp only; exact ne_hw122_2_GW110)) _).trans (((cell_far (p := ⟨gb110, _, none⟩) (by first | exact ne_hw122_2_GW110 | (rw [add_block]; exact ne_hw122_2_GW110) | (dsimp only; exact ne_hw122_2_GW110)) _).trans (hHeld.2.2.2.2.2.2.2.2.1)))))))))))), ((cell_far (p := ⟨gb110, _, none⟩) (by first | exact ne_hw122_3_GW110 | (rw [add_block]; exact ne_hw122_3_GW110) | (dsimp only; exact ne_hw122_3_GW110)) _).trans (((cell_far (p := ⟨gb110, _, none⟩) (by first | exact ne_hw122_3_GW110 | (rw [add_block]; exact ne_hw122_3_GW110) | (dsimp only; exact ne_hw122_3_GW110)) _).trans (((cell_far (p := ⟨gb110, _, none⟩) (by first | exact ne_hw122_3_GW110 | (rw [add_block]; exact ne_hw122_3_GW110) | (dsimp only; exact ne_hw122_3_GW110)) _).trans (((cell_far (p := ⟨gb110, _, none⟩) (by first | exact ne_hw122_3_GW110 | (rw [add_block]; exact ne_hw122_3_GW110) | (dsimp only; exact ne_hw122_3_GW110)) _).trans (((cell_far (p := ⟨gb110, _, none⟩) (by first | exact ne_hw122_3_GW110 | (rw [add_block]; exact ne_hw122_3_GW110) | (dsimp only; exact ne_hw122_3_GW110)) _).trans (((cell_far (p := ⟨gb110, _, none⟩) (by first | exact ne_hw122_3_GW110 | (rw [add_block]; exact ne_hw122_3_GW110) | (dsimp only; exact ne_hw122_3_GW110)) _).trans (hHeld.2.2.2.2.2.2.2.2.2.1)))))))))))), ((cell_far (p := ⟨gb110, _, none⟩) (by first | exact ne_hw122_4_GW110 | (rw [add_block]; exact ne_hw122_4_GW110) | (dsimp only; exact ne_hw122_4_GW110)) _).trans (((cell_far (p := ⟨gb110, _, none⟩) (by first | exact ne_hw122_4_GW110 | (rw [add_block]; exact ne_hw122_4_GW110) | (dsimp only; exact ne_hw122_4_GW110)) _).trans (((cell_far (p := ⟨gb110, _, none⟩) (by first | exact ne_hw122_4_GW110 | (rw [add_block]; exact ne_hw122_4_GW110) | (dsimp only; exact ne_hw122_4_GW110)) _).trans (((cell_far (p := ⟨gb110, _, none⟩) (by first | exact ne_hw122_4_GW110 | (rw [add_block]; exact ne_hw122_4_GW110) | (dsimp only; exact ne_hw122_4_GW110)) _).trans (((cell_far (p := ⟨gb110, _, none⟩) (by first | exact ne_hw122_4_GW110 | (rw [add_block]; exact ne_hw122_4_GW110) | (dsimp only; exact ne_hw122_4_GW110)) _).trans (((cell_far (p := ⟨gb110, _, none⟩) (by first | exact ne_hw122_4_GW110 | (rw [add_block]; exact ne_hw122_4_GW110) | (dsimp only; exact ne_hw122_4_GW110)) _).trans (hHeld.2.2.2.2.2.2.2.2.2.2.1)))))))))))), ((cell_far (p := ⟨gb110, _, none⟩) (by first | exact ne_hw122_5_GW110 | (rw [add_block]; exact ne_hw122_5_GW110) | (dsimp only; exact ne_hw122_5_GW110)) _).trans (((cell_far (p := ⟨gb110, _, none⟩) (by first | exact ne_hw122_5_GW110 | (rw [add_block]; exact ne_hw122_5_GW110) | (dsimp only; exact ne_hw122_5_GW110)) _).trans (((cell_far (p := ⟨gb110, _, none⟩) (by first | exact ne_hw122_5_GW110 | (rw [add_block]; exact ne_hw122_5_GW110) | (dsimp only; exact ne_hw122_5_GW110)) _).trans (((cell_far (p := ⟨gb110, _, none⟩) (by first | exact ne_hw122_5_GW110 | (rw [add_block]; exact ne_hw122_5_GW110) | (dsimp only; exact ne_hw122_5_GW110)) _).trans (((cell_far (p := ⟨gb110, _, none⟩) (by first | exact ne_hw122_5_GW110 | (rw [add_block]; exact ne_hw122_5_GW110) | (dsimp only; exact ne_hw122_5_GW110)) _).trans (((cell_far (p := ⟨gb110, _, none⟩) (by first | exact ne_hw122_5_GW110 | (rw [add_block]; exact ne_hw122_5_GW110) | (dsimp only; exact ne_hw122_5_GW110)) _).trans (hHeld.2.2.2.2.2.2.2.2.2.2.2))))))))))))⟩ (fun hHeld => ?_)
                            clear hK K
                            refine pure_ (i := 12) (N := some 4) (v := ?_) (a' := ?_) #[true, true, true, true, true, true, true, true, true, true, true, true, true] rfl rfl (any_of HT_.out (by kernel_rfl)) (fun _ _ _ h => h) (Or.inl ⟨by rfl, ?_⟩) ?_ ?_
                            rotate_left
                            · intro w'
                              go_simp
                              with_reducible rfl
                            rotate_left
                            · simp only [Act.put, List.setIfInBounds_toArray, List.set_cons_zero, List.set_cons_succ, i64_w, i32_w]
                              rfl
                            refine done_ (done_of HT_.out (by kernel_rfl)) ?_
                            have hnb73 := NB110_118.out
                            have hnc73 := NB118_110.out
                            have hcz74_0 : w66.cell? ⟨gb110, 0, none⟩ = some (.int .i64 t103) := (blk_cell BK110.out 0).trans rfl
                            have hcz74_1 : w66.cell? ⟨gb110, 1, none⟩ = some (.int .i64 t104) := (blk_cell BK110.out 1).trans rfl
                            have hcz74_2 : w66.cell? ⟨gb110, 2, none⟩ = some (.int .i64 t105) := (blk_cell BK110.out 2).trans rfl
                            have hcz74_3 : w66.cell? ⟨gb110, 3, none⟩ = some (.int .i64 t106) := (blk_cell BK110.out 3).trans rfl
                            have hcz74_4 : w66.cell? ⟨gb110, 4, none⟩ = some (.bool t107) := (blk_cell BK110.out 4).trans rfl
                            have hcz74_5 : w66.cell? ⟨gb110, 5, none⟩ = some (.string t108) := (blk_cell BK110.out 5).trans rfl
                            have hfz74_0 := blk_frozen BK110.out 0
                            have hfz74_1 := blk_frozen BK110.out 1
                            have hfz74_2 := blk_frozen BK110.out 2
                            have hfz74_3 := blk_frozen BK110.out 3
                            have hfz74_4 := blk_frozen BK110.out 4
                            have hfz74_5 := blk_frozen BK110.out 5
                            have hcz75_0 : w66.cell? ⟨gb118, 0, none⟩ = some (.int .i64 t111) := (blk_cell BK118.out 0).trans rfl
                            have hcz75_1 : w66.cell? ⟨gb118, 1, none⟩ = some (.int .i64 t112) := (blk_cell BK118.out 1).trans rfl
                            have hcz75_2 : w66.cell? ⟨gb118, 2, none⟩ = some (.int .i64 t113) := (blk_cell BK118.out 2).trans rfl
                            have hcz75_3 : w66.cell? ⟨gb118, 3, none⟩ = some (.int .i64 t114) := (blk_cell BK118.out 3).trans rfl
                            have hcz75_4 : w66.cell? ⟨gb118, 4, none⟩ = some (.bool t115) := (blk_cell BK118.out 4).trans rfl
                            have hcz75_5 : w66.cell? ⟨gb118, 5, none⟩ = some (.string t116) := (blk_cell BK118.out 5).trans rfl
                            have hfz75_0 := blk_frozen BK118.out 0
                            have hfz75_1 := blk_frozen BK118.out 1
                            have hfz75_2 := blk_frozen BK118.out 2
                            have hfz75_3 := blk_frozen BK118.out 3
                            have hfz75_4 := blk_frozen BK118.out 4
                            have hfz75_5 := blk_frozen BK118.out 5
                            try go_wp2
                            go_ret
                            exact ⟨by first | rfl | (simp [errW_none, errW_some] <;> rfl) | (simp [*, errW_none, errW_some] <;> rfl), by repeat (first | (with_reducible first | exact HB.out | apply below_alloc | apply pw_below_drewN | apply below_drew1 | refine below_set ?_ GE110.out | refine below_set ?_ GE118.out) | exact HB.out)⟩
                        · rw [if_neg c44] at H
                          have c44b0 : (t132 == 0) = false := beq_eq_false_iff_ne.mpr c44
                          have c44b1 : (t132 != 0) = true := bne_iff_ne.mpr c44
                          obtain rfl := Option.some.inj H
                          try go_wp2
                          have n0_ := Aside0.mk (blk_drew BK110.out)
                          have n1_ := Aside0.mk (blk_drew BK118.out)
                          have n2_ := Aside0.mk (below_drew1 HB.out)
                          clear BK110
                          clear BK118
                          clear HB
                          have BK110 := n0_
                          have BK118 := n1_
                          have HB := n2_
                          clear n0_ n1_ n2_
                          have p121 : 0 ≤ (1 : Int) := (by omega)
                          have q121 : 1 < (l0.length : Int) := of_decide_eq_true (by first | (with_reducible assumption) | assumption)
                          obtain ⟨ad121, e121, hx121_0, hx121_1, hx121_2, hx121_3, hx121_4, hx121_5⟩ := at_T25 HR0.out 1 p121 q121
                          have hw121_5 := hx121_5
                          (try rw [show ((1 : Int)).toNat = 1 from rfl] at hw121_5)
                          (try rw [show 1 * 6 = 6 from rfl] at hw121_5)
                          (try simp only [Nat.reduceMul, Nat.reduceEqDiff, Go.Addr.add, ↓reduceIte] at hw121_5)
                          have hw121_4 := hx121_4
                          (try rw [show ((1 : Int)).toNat = 1 from rfl] at hw121_4)
                          (try rw [show 1 * 6 = 6 from rfl] at hw121_4)
                          (try simp only [Nat.reduceMul, Nat.reduceEqDiff, Go.Addr.add, ↓reduceIte] at hw121_4)
                          have hw121_3 := hx121_3
                          (try rw [show ((1 : Int)).toNat = 1 from rfl] at hw121_3)
                          (try rw [show 1 * 6 = 6 from rfl] at hw121_3)
                          (try simp only [Nat.reduceMul, Nat.reduceEqDiff, Go.Addr.add, ↓reduceIte] at hw121_3)
                          have hw121_2 := hx121_2
                          (try rw [show ((1 : Int)).toNat = 1 from rfl] at hw121_2)
                          (try rw [show 1 * 6 = 6 from rfl] at hw121_2)
                          (try simp only [Nat.reduceMul, Nat.reduceEqDiff, Go.Addr.add, ↓reduceIte] at hw121_2)
                          have hw121_1 := hx121_1
                          (try rw [show ((1 : Int)).toNat = 1 from rfl] at hw121_1)
                          (try rw [show 1 * 6 = 6 from rfl] at hw121_1)
                          (try simp only [Nat.reduceMul, Nat.reduceEqDiff, Go.Addr.add, ↓reduceIte] at hw121_1)
                          have hw121_0 := hx121_0
                          (try rw [show ((1 : Int)).toNat = 1 from rfl] at hw121_0)
                          (try rw [show 1 * 6 = 6 from rfl] at hw121_0)
                          (try simp only [Nat.reduceMul, Nat.reduceEqDiff, Go.Addr.add, ↓reduceIte] at hw121_0)
                          cases e121
                          (try simp only [show (1 : Int).toNat = 1 from rfl, Nat.reduceMul, Nat.reduceEqDiff, Go.Addr.add, ↓reduceIte] at hx121_0)
                          (try simp only [show (1 : Int).toNat = 1 from rfl, Nat.reduceMul, Nat.reduceEqDiff, Go.Addr.add, ↓reduceIte] at hx121_1)
                          (try simp only [show (1 : Int).toNat = 1 from rfl, Nat.reduceMul, Nat.reduceEqDiff, Go.Addr.add, ↓reduceIte] at hx121_2)
                          (try simp only [show (1 : Int).toNat = 1 from rfl, Nat.reduceMul, Nat.reduceEqDiff, Go.Addr.add, ↓reduceIte] at hx121_3)
                          (try simp only [show (1 : Int).toNat = 1 from rfl, Nat.reduceMul, Nat.reduceEqDiff, Go.Addr.add, ↓reduceIte] at hx121_4)
                          (try simp only [show (1 : Int).toNat = 1 from rfl, Nat.reduceMul, Nat.reduceEqDiff, Go.Addr.add, ↓reduceIte] at hx121_5)
                          have qi121 : (1 < l0.length) = True := eq_true (by omega)
                          (try rw [show ((1 : Int)).toNat = 1 from rfl] at hx121_0)
                          (try rw [show 1 * 6 = 6 from rfl] at hx121_0)
                          (try rw [show ((1 : Int)).toNat = 1 from rfl] at hx121_1)
                          (try rw [show 1 * 6 = 6 from rfl] at hx121_1)
                          (try rw [show ((1 : Int)).toNat = 1 from rfl] at hx121_2)
                          (try rw [show 1 * 6 = 6 from rfl] at hx121_2)
                          (try rw [show ((1 : Int)).toNat = 1 from rfl] at hx121_3)
                          (try rw [show 1 * 6 = 6 from rfl] at hx121_3)
                          (try rw [show ((1 : Int)).toNat = 1 from rfl] at hx121_4)
                          (try rw [show 1 * 6 = 6 from rfl] at hx121_4)
                          (try rw [show ((1 : Int)).toNat = 1 from rfl] at hx121_5)
                          (try rw [show 1 * 6 = 6 from rfl] at hx121_5)
                          replace hx121_0 := (HB.out.cell (World.block_lt_of_cell? w _ hx121_0)).trans hx121_0
                          replace hx121_1 := (HB.out.cell (World.block_lt_of_cell? w _ hx121_1)).trans hx121_1
                          replace hx121_2 := (HB.out.cell (World.block_lt_of_cell? w _ hx121_2)).trans hx121_2
                          replace hx121_3 := (HB.out.cell (World.block_lt_of_cell? w _ hx121_3)).trans hx121_3
                          replace hx121_4 := (HB.out.cell (World.block_lt_of_cell? w _ hx121_4)).trans hx121_4
                          replace hx121_5 := (HB.out.cell (World.block_lt_of_cell? w _ hx121_5)).trans hx121_5
                          replace p121 := eq_true p121
                          replace q121 := eq_true q121
                          have p122 : 0 ≤ (0 : Int) := (by omega)
                          have q122 : 0 < (l0.length : Int) := of_decide_eq_true (by first | (with_reducible assumption) | assumption)
                          obtain ⟨ad122, e122, hx122_0, hx122_1, hx122_2, hx122_3, hx122_4, hx122_5⟩ := at_T25 HR0.out 0 p122 q122
                          have hw122_5 := hx122_5
                          (try rw [show ((0 : Int)).toNat = 0 from rfl] at hw122_5)
                          (try rw [show 0 * 6 = 0 from rfl] at hw122_5)
                          (try rw [Addr.add_zero'] at hw122_5)
                          have hw122_4 := hx122_4
                          (try rw [show ((0 : Int)).toNat = 0 from rfl] at hw122_4)
                          (try rw [show 0 * 6 = 0 from rfl] at hw122_4)
                          (try rw [Addr.add_zero'] at hw122_4)
                          have hw122_3 := hx122_3
                          (try rw [show ((0 : Int)).toNat = 0 from rfl] at hw122_3)
                          (try rw [show 0 * 6 = 0 from rfl] at hw122_3)
                          (try rw [Addr.add_zero'] at hw122_3)
                          have hw122_2 := hx122_2
                          (try rw [show ((0 : Int)).toNat = 0 from rfl] at hw122_2)
                          (try rw [show 0 * 6 = 0 from rfl] at hw122_2)
                          (try rw [Addr.add_zero'] at hw122_2)
                          have hw122_1 := hx122_1
                          (try rw [show ((0 : Int)).toNat = 0 from rfl] at hw122_1)
                          (try rw [show 0 * 6 = 0 from rfl] at hw122_1)
                          (try rw [Addr.add_zero'] at hw122_1)
                          have hw122_0 := hx122_0
                          (try rw [show ((0 : Int)).toNat = 0 from rfl] at hw122_0)
                          (try rw [show 0 * 6 = 0 from rfl] at hw122_0)
                          (try rw [Addr.add_zero'] at hw122_0)
                          obtain rfl : ad121 = ad122 := (by injection e122)
                          have qi122 : (0 < l0.length) = True := eq_true (by omega)
                          (try rw [show ((0 : Int)).toNat = 0 from rfl] at hx122_0)
                          (try rw [show 0 * 6 = 0 from rfl] at hx122_0)
                          (try rw [Addr.add_zero'] at hx122_0)
                          (try rw [show ((0 : Int)).toNat = 0 from rfl] at hx122_1)
                          (try rw [show 0 * 6 = 0 from rfl] at hx122_1)
                          (try rw [Addr.add_zero'] at hx122_1)
                          (try rw [show ((0 : Int)).toNat = 0 from rfl] at hx122_2)
                          (try rw [show 0 * 6 = 0 from rfl] at hx122_2)
                          (try rw [Addr.add_zero'] at hx122_2)
                          (try rw [show ((0 : Int)).toNat = 0 from rfl] at hx122_3)
                          (try rw [show 0 * 6 = 0 from rfl] at hx122_3)
                          (try rw [Addr.add_zero'] at hx122_3)
                          (try rw [show ((0 : Int)).toNat = 0 from rfl] at hx122_4)
                          (try rw [show 0 * 6 = 0 from rfl] at hx122_4)
                          (try rw [Addr.add_zero'] at hx122_4)
                          (try rw [show ((0 : Int)).toNat = 0 from rfl] at hx122_5)
                          (try rw [show 0 * 6 = 0 from rfl] at hx122_5)
                          (try rw [Addr.add_zero'] at hx122_5)
                          replace hx122_0 := (HB.out.cell (World.block_lt_of_cell? w _ hx122_0)).trans hx122_0
                          replace hx122_1 := (HB.out.cell (World.block_lt_of_cell? w _ hx122_1)).trans hx122_1
                          replace hx122_2 := (HB.out.cell (World.block_lt_of_cell? w _ hx122_2)).trans hx122_2
                          replace hx122_3 := (HB.out.cell (World.block_lt_of_cell? w _ hx122_3)).trans hx122_3
                          replace hx122_4 := (HB.out.cell (World.block_lt_of_cell? w _ hx122_4)).trans hx122_4
                          replace hx122_5 := (HB.out.cell (World.block_lt_of_cell? w _ hx122_5)).trans hx122_5
                          replace p122 := eq_true p122
                          replace q122 := eq_true q122
                          refine start_ (n := 13) (S := fun w' => w'.cell? ⟨ad121.block, ad121.off + 6, none⟩ = some (.int .i64 ((rd_T25 l0 1).f0)) ∧ w'.cell? ⟨ad121.block, ad121.off + 6 + 1, none⟩ = some (.int .i64 ((rd_T25 l0 1).f1)) ∧ w'.cell? ⟨ad121.block, ad121.off + 6 + 2, none⟩ = some (.int .i64 ((rd_T25 l0 1).f2)) ∧ w'.cell? ⟨ad121.block, ad121.off + 6 + 3, none⟩ = some (.int .i64 ((rd_T25 l0 1).f3)) ∧ w'.cell? ⟨ad121.block, ad121.off + 6 + 4, none⟩ = some (.bool ((rd_T25 l0 1).f4)) ∧ w'.cell? ⟨ad121.block, ad121.off + 6 + 5, none⟩ = some (.string ((rd_T25 l0 1).f5)) ∧ w'.cell? ad121 = some (.int .i64 ((rd_T25 l0 0).f0)) ∧ w'.cell? ⟨ad121.block, ad121.off + 1, none⟩ = some (.int .i64 ((rd_T25 l0 0).f1)) ∧ w'.cell? ⟨ad121.block, ad121.off + 2, none⟩ = some (.int .i64 ((rd_T25 l0 0).f2)) ∧ w'.cell? ⟨ad121.block, ad121.off + 3, none⟩ = some (.int .i64 ((rd_T25 l0 0).f3)) ∧ w'.cell? ⟨ad121.block, ad121.off + 4, none⟩ = some (.bool ((rd_T25 l0 0).f4)) ∧ w'.cell? ⟨ad121.block, ad121.off + 5, none⟩ = some (.string ((rd_T25 l0 0).f5))) (ds := []) #[false, false, false, false, false, false, false, false, false, false, false, false, false] (by kernel_rfl) rfl rfl ⟨((HB.out.cell (World.block_lt_of_cell? w _ hw121_0)).trans hw121_0), ((HB.out.cell (World.block_lt_of_cell? w _ hw121_1)).trans hw121_1), ((HB.out.cell (World.block_lt_of_cell? w _ hw121_2)).trans hw121_2), ((HB.out.cell (World.block_lt_of_cell? w _ hw121_3)).trans hw121_3), ((HB.out.cell (World.block_lt_of_cell? w _ hw121_4)).trans hw121_4), ((HB.out.cell (World.block_lt_of_cell? w _ hw121_5)).trans hw121_5), ((HB.out.cell (World.block_lt_of_cell? w _ hw122_0)).trans hw122_0), ((HB.out.cell (World.block_lt_of_cell? w _ hw122_1)).trans hw122_1), ((HB.out.cell (World.block_lt_of_cell? w _ hw122_2)).trans hw122_2), ((HB.out.cell (World.block_lt_of_cell? w _ hw122_3)).trans hw122_3), ((HB.out.cell (World.block_lt_of_cell? w _ hw122_4)).trans hw122_4), ((HB.out.cell (World.block_lt_of_cell? w _ hw122_5)).trans hw122_5)⟩ (fun hHeld => ?_); refine with_tabW ironbarklaw02_ruleCommon.tab9 ironbarklaw02_ruleCommon.bits9 (fun HT_ HW_ => ?_)
                          generalize wc.drew = w76 at BK110 BK118 HB hx121_0 hx121_1 hx121_2 hx121_3 hx121_4 hx121_5 hx122_0 hx122_1 hx122_2 hx122_3 hx122_4 hx122_5 hHeld ⊢
                          refine pure_ (i := 0) (N := some 52) (v := ?_) (a' := ?_) #[true, false, false, false, false, false, false, false, false, false, false, false, false] rfl rfl (any_of HT_.out (by kernel_rfl)) (fun _ _ _ h => h) (Or.inl ⟨by rfl, ?_⟩) ?_ ?_
                          rotate_left
                          · intro w'
                            go_simp
                            with_reducible rfl
                          rotate_left
                          · simp only [Act.put, List.setIfInBounds_toArray, List.set_cons_zero, List.set_cons_succ, i64_w, i32_w]
                            rfl
                          refine pure_ (i := 1) (N := some 53) (v := ?_) (a' := ?_) #[true, true, false, false, false, false, false, false, false, false, false, false, false] rfl rfl (any_of HT_.out (by kernel_rfl)) (fun _ _ _ h => h) (Or.inl ⟨by rfl, ?_⟩) ?_ ?_
                          rotate_left
                          · intro w'
                            go_simp
                            with_reducible rfl
                          rotate_left
                          · simp only [Act.put, List.setIfInBounds_toArray, List.set_cons_zero, List.set_cons_succ, i64_w, i32_w]
                            rfl
                          refine pure_ (i := 3) (N := some 55) (v := ?_) (a' := ?_) #[true, true, false, true, false, false, false, false, false, false, false, false, false] rfl rfl (any_of HT_.out (by kernel_rfl)) (fun _ _ _ h => h) (Or.inl ⟨by rfl, ?_⟩) ?_ ?_
                          rotate_left
                          · intro w'
                            go_simp
                            with_reducible rfl
                          rotate_left
                          · simp only [Act.put, List.setIfInBounds_toArray, List.set_cons_zero, List.set_cons_succ, i64_w, i32_w]
                            rfl
                          refine pure_ (i := 4) (N := some 56) (v := ?_) (a' := ?_) #[true, true, false, true, true, false, false, false, false, false, false, false, false] rfl rfl (any_of HT_.out (by kernel_rfl)) (fun _ _ _ h => h) (Or.inl ⟨by rfl, ?_⟩) ?_ ?_
                          rotate_left
                          · intro w'
                            go_simp
                            with_reducible rfl
                          rotate_left
                          · simp only [Act.put, List.setIfInBounds_toArray, List.set_cons_zero, List.set_cons_succ, i64_w, i32_w]
                            rfl
                          refine take_ (i := 2) (N := some 54) (v := ?_) (a' := ?_) #[true, true, true, true, true, false, false, false, false, false, false, false, false] rfl rfl (take_ofW HT_.out HW_.out (by kernel_rfl)) (fun _ _ _ h => h) (Or.inl ⟨by rfl, ?_⟩) hHeld ?_ ?_
                          rotate_left
                          · rintro w' ⟨s0, s1, s2, s3, s4, s5, s6, s7, s8, s9, s10, s11⟩
                            go_simp
                            with_reducible rfl
                          rotate_left
                          · simp only [Act.put, List.setIfInBounds_toArray, List.set_cons_zero, List.set_cons_succ, i64_w, i32_w]
                            rfl
                          refine take_ (i := 5) (N := some 57) (v := ?_) (a' := ?_) #[true, true, true, true, true, true, false, false, false, false, false, false, false] rfl rfl (take_ofW HT_.out HW_.out (by kernel_rfl)) (fun _ _ _ h => h) (Or.inl ⟨by rfl, ?_⟩) hHeld ?_ ?_
                          rotate_left
                          · rintro w' ⟨s0, s1, s2, s3, s4, s5, s6, s7, s8, s9, s10, s11⟩
                            go_simp
                            with_reducible rfl
                          rotate_left
                          · simp only [Act.put, List.setIfInBounds_toArray, List.set_cons_zero, List.set_cons_succ, i64_w, i32_w]
                            rfl
                          refine one_ (i := 6) (N := some 58) #[true, true, true, true, true, true, true, false, false, false, false, false, false] rfl rfl (one_of HT_.out (by kernel_rfl)) (by decide) (fun K hK => ?_)
                          refine Kd.R_lit_step k25 _ 25 ?hg (N := 58) ?hd (xs := ([(⟨(rd_T25 l0 1).f0, (rd_T25 l0 1).f1, (rd_T25 l0 1).f2, (rd_T25 l0 1).f3, (rd_T25 l0 1).f4, (rd_T25 l0 1).f5⟩ : S25), (⟨(rd_T25 l0 0).f0, (rd_T25 l0 0).f1, (rd_T25 l0 0).f2, (rd_T25 l0 0).f3, (rd_T25 l0 0).f4, (rd_T25 l0 0).f5⟩ : S25)] : List (S25))) (inner := [.int .i64 ((rd_T25 l0 1).f0), .int .i64 ((rd_T25 l0 1).f1), .int .i64 ((rd_T25 l0 1).f2), .int .i64 ((rd_T25 l0 1).f3), .bool ((rd_T25 l0 1).f4), .string ((rd_T25 l0 1).f5), .int .i64 ((rd_T25 l0 0).f0), .int .i64 ((rd_T25 l0 0).f1), .int .i64 ((rd_T25 l0 0).f2), .int .i64 ((rd_T25 l0 0).f3), .bool ((rd_T25 l0 0).f4), .string ((rd_T25 l0 0).f5)]) (ok := fun _ => True) (okp := fun _ => True) ?hr ?hp (fun _ hk => hk) trivial (Below.refl _ _) (Nat.le_refl _) (by simp) ?_; (case hd => rfl); (case hg => rfl); (case hr => first | (go_simp; done) | (go_simp; rfl)); (case hp => exact (Reps.c6 (show Kd.M k25 _ _ _ (⟨(rd_T25 l0 1).f0, (rd_T25 l0 1).f1, (rd_T25 l0 1).f2, (rd_T25 l0 1).f3, (rd_T25 l0 1).f4, (rd_T25 l0 1).f5⟩ : S25) [.int .i64 ((rd_T25 l0 1).f0), .int .i64 ((rd_T25 l0 1).f1), .int .i64 ((rd_T25 l0 1).f2), .int .i64 ((rd_T25 l0 1).f3), .bool ((rd_T25 l0 1).f4), .string ((rd_T25 l0 1).f5)] from (k25_mkM _ _ _ (⟨(rd_T25 l0 1).f0, (rd_T25 l0 1).f1, (rd_T25 l0 1).f2, (rd_T25 l0 1).f3, (rd_T25 l0 1).f4, (rd_T25 l0 1).f5⟩ : S25) )) (Reps.c6 (show Kd.M k25 _ _ _ (⟨(rd_T25 l0 0).f0, (rd_T25 l0 0).f1, (rd_T25 l0 0).f2, (rd_T25 l0 0).f3, (rd_T25 l0 0).f4, (rd_T25 l0 0).f5⟩ : S25) [.int .i64 ((rd_T25 l0 0).f0), .int .i64 ((rd_T25 l0 0).f1), .int .i64 ((rd_T25 l0 0).f2), .int .i64 ((rd_T25 l0 0).f3), .bool ((rd_T25 l0 0).f4), .string ((rd_T25 l0 0).f5)] from (k25_mkM _ _ _ (⟨(rd_T25 l0 0).f0, (rd_T25 l0 0).f1, (rd_T25 l0 0).f2, (rd_T25 l0 0).f3, (rd_T25 l0 0).f4, (rd_T25 l0 0).f5⟩ : S25) )) (Reps.none _ _))))
                          intro v124 w77 ho78 hb hg_ hnew_
                          clear hg_ hnew_
                          (first | rw [← Ny123.out] at ho78 | (simp only [Int.reduceToNat] at ho78; rw [← Ny123.out] at ho78))
                          have n0_ := Aside0.mk (Kd.R_lower (Kd.R_newB (Kd.R_newB ho78 (g := gb110) (o := .cells #[.int .i64 t103, .int .i64 t104, .int .i64 t105, .int .i64 t106, .bool t107, .string t108] 25 (0, 0)) (by (with_reducible repeat (first | refine blk_drewN ?_ _ | refine blk_drew ?_ | refine blk_alloc ?_ _)); exact BK110.out)) (g := gb118) (o := .cells #[.int .i64 t111, .int .i64 t112, .int .i64 t113, .int .i64 t114, .bool t115, .string t116] 25 (0, 0)) (by (with_reducible repeat (first | refine blk_drewN ?_ _ | refine blk_drew ?_ | refine blk_alloc ?_ _)); exact BK118.out)) (below_size (by repeat (first | (with_reducible first | exact HB.out | apply below_alloc | apply pw_below_drewN | apply below_drew1 | refine below_set ?_ GE110.out | refine below_set ?_ GE118.out) | exact HB.out))))
                          have n1_ := Aside0.mk (blk_below (g := gb110) (o := .cells #[.int .i64 t103, .int .i64 t104, .int .i64 t105, .int .i64 t106, .bool t107, .string t108] 25 (0, 0)) (by (with_reducible repeat (first | refine blk_drewN ?_ _ | refine blk_drew ?_ | refine blk_alloc ?_ _)); exact BK110.out) hb)
                          have n2_ := Aside0.mk (blk_below (g := gb118) (o := .cells #[.int .i64 t111, .int .i64 t112, .int .i64 t113, .int .i64 t114, .bool t115, .string t116] 25 (0, 0)) (by (with_reducible repeat (first | refine blk_drewN ?_ _ | refine blk_drew ?_ | refine blk_alloc ?_ _)); exact BK118.out) hb)
                          have n3_ := Aside0.mk (below_step (by repeat (first | (with_reducible first | exact HB.out | apply below_alloc | apply pw_below_drewN | apply below_drew1 | refine below_set ?_ GE110.out | refine below_set ?_ GE118.out) | exact HB.out)) hb)
                          clear BK110
                          clear BK118
                          clear HB
                          have HO125 := n0_
                          have BK110 := n1_
                          have BK118 := n2_
                          have HB := n3_
                          clear n0_ n1_ n2_ n3_
                          clear hb ho78
                          obtain ⟨Ao79, co79, eo79⟩ := Kd.R_slice HO125.out
                          (first | subst eo79 | (injection eo79 with f1_ f2_ f3_; have f4_ := f1_.symm; have f5_ := f3_.symm; clear f1_ f2_ f3_; subst f4_; subst f5_))
                          refine hK.out _ _ ⟨((HB.out.cell (World.block_lt_of_cell? w _ hw121_0)).trans hw121_0), ((HB.out.cell (World.block_lt_of_cell? w _ hw121_1)).trans hw121_1), ((HB.out.cell (World.block_lt_of_cell? w _ hw121_2)).trans hw121_2), ((HB.out.cell (World.block_lt_of_cell? w _ hw121_3)).trans hw121_3), ((HB.out.cell (World.block_lt_of_cell? w _ hw121_4)).trans hw121_4), ((HB.out.cell (World.block_lt_of_cell? w _ hw121_5)).trans hw121_5), ((HB.out.cell (World.block_lt_of_cell? w _ hw122_0)).trans hw122_0), ((HB.out.cell (World.block_lt_of_cell? w _ hw122_1)).trans hw122_1), ((HB.out.cell (World.block_lt_of_cell? w _ hw122_2)).trans hw122_2), ((HB.out.cell (World.block_lt_of_cell? w _ hw122_3)).trans hw122_3), ((HB.out.cell (World.block_lt_of_cell? w _ hw122_4)).trans hw122_4), ((HB.out.cell (World.block_lt_of_cell? w _ hw122_5)).trans hw122_5)⟩ (fun hHeld => ?_)
                          clear hK K
                          refine norm_ (a' := ?_) ?_ ?_
                          rotate_left
                          · show Act.put _ (some 58) _ = _
                            simp only [Act.put, List.setIfInBounds_toArray, List.set_cons_zero, List.set_cons_succ, i64_w, i32_w]
                            rfl
                          refine one_ (i := 7) (N := some 59) #[true, true, true, true, true, true, true, true, false, false, false, false, false] rfl rfl (one_of HT_.out (by kernel_rfl)) (by decide) (fun K hK => ?_)
                          refine goes_ Try.func60 (by kernel_rfl) rfl #[.slice Ao79 y123.length co79] (by rfl) rfl rfl (by (try simp only [List.map_toArray, List.map_cons, List.map_nil]); first | done | rfl | (simp only [List.length_drop, List.length_take]; rfl)) ?_
                          with_reducible refine (rule_Common.calls kj35 _ _ y123 t126 t127 t128 t129 t130 t131 t132 _ ?side1 ?side2 A43.out).mono ?_
                          (case side1 => repeat (first | exact (Kd.R_reads' HO125.out).2.2 | (with_reducible refine Kd.C_alloc ?_ _) | (with_reducible refine Kd.C_drewN ?_ _) | (with_reducible refine Kd.C_drew ?_)))
                          (case side2 => exact (Kd.R_reads' HO125.out).2.1)
                          rintro e w80 ⟨rfl, hb⟩
                          refine ⟨_, rfl, ?_⟩
                          have n0_ := Aside0.mk (Kd.R_below (by (with_reducible repeat (first | apply Kd.R_alloc | apply Kd.R_drewN | apply Kd.R_drew)); exact HO125.out) hb)
                          have n1_ := Aside0.mk (blk_below (g := gb110) (o := .cells #[.int .i64 t103, .int .i64 t104, .int .i64 t105, .int .i64 t106, .bool t107, .string t108] 25 (0, 0)) (by (with_reducible repeat (first | refine blk_drewN ?_ _ | refine blk_drew ?_ | refine blk_alloc ?_ _)); exact BK110.out) hb)
                          have n2_ := Aside0.mk (blk_below (g := gb118) (o := .cells #[.int .i64 t111, .int .i64 t112, .int .i64 t113, .int .i64 t114, .bool t115, .string t116] 25 (0, 0)) (by (with_reducible repeat (first | refine blk_drewN ?_ _ | refine blk_drew ?_ | refine blk_alloc ?_ _)); exact BK118.out) hb)
                          have n3_ := Aside0.mk (below_step (by repeat (first | (with_reducible first | exact HB.out | apply below_alloc | apply pw_below_drewN | apply below_drew1 | refine below_set ?_ GE110.out | refine below_set ?_ GE118.out) | exact HB.out)) hb)
                          clear HO125
                          clear BK110
                          clear BK118
                          clear HB
                          have HO125 := n0_
                          have BK110 := n1_
                          have BK118 := n2_
                          have HB := n3_
                          clear n0_ n1_ n2_ n3_
                          (try clear hb)
                          (try clear hb2)
                          (try clear hk)
                          (try clear hi)
                          refine hK.out _ _ ⟨((HB.out.cell (World.block_lt_of_cell? w _ hw121_0)).trans hw121_0), ((HB.out.cell (World.block_lt_of_cell? w _ hw121_1)).trans hw121_1), ((HB.out.cell (World.block_lt_of_cell? w _ hw121_2)).trans hw121_2), ((HB.out.cell (World.block_lt_of_cell? w _ hw121_3)).trans hw121_3), ((HB.out.cell (World.block_lt_of_cell? w _ hw121_4)).trans hw121_4), ((HB.out.cell (World.block_lt_of_cell? w _ hw121_5)).trans hw121_5), ((HB.out.cell (World.block_lt_of_cell? w _ hw122_0)).trans hw122_0), ((HB.out.cell (World.block_lt_of_cell? w _ hw122_1)).trans hw122_1), ((HB.out.cell (World.block_lt_of_cell? w _ hw122_2)).trans hw122_2), ((HB.out.cell (World.block_lt_of_cell? w _ hw122_3)).trans hw122_3), ((HB.out.cell (World.block_lt_of_cell? w _ hw122_4)).trans hw122_4), ((HB.out.cell (World.block_lt_of_cell? w _ hw122_5)).trans hw122_5)⟩ (fun hHeld => ?_)
                          clear hK K
                          refine norm_ (a' := ?_) ?_ ?_
                          rotate_left
                          · show Act.put _ (some 59) _ = _
                            simp only [Act.put, List.setIfInBounds_toArray, List.set_cons_zero, List.set_cons_succ, i64_w, i32_w]
                            rfl
                          refine pure_ (i := 8) (N := some 51) (v := ?_) (a' := ?_) #[true, true, true, true, true, true, true, true, true, false, false, false, false] rfl rfl (any_of HT_.out (by kernel_rfl)) (fun _ _ _ h => h) (Or.inl ⟨by rfl, ?_⟩) ?_ ?_
                          rotate_left
                          · intro w'
                            go_simp
                            with_reducible rfl
                          rotate_left
                          · simp only [Act.put, List.setIfInBounds_toArray, List.set_cons_zero, List.set_cons_succ, i64_w, i32_w]
                            rfl
                          refine pure_ (i := 9) (N := some 60) (v := ?_) (a' := ?_) #[true, true, true, true, true, true, true, true, true, true, false, false, false] rfl rfl (any_of HT_.out (by kernel_rfl)) (fun _ _ _ h => h) (Or.inl ⟨by rfl, ?_⟩) ?_ ?_
                          rotate_left
                          · intro w'
                            go_simp
                            with_reducible rfl
                          rotate_left
                          · simp only [Act.put, List.setIfInBounds_toArray, List.set_cons_zero, List.set_cons_succ, i64_w, i32_w]
                            rfl
                          refine pure_ (i := 10) (N := some 61) (v := ?_) (a' := ?_) #[true, true, true, true, true, true, true, true, true, true, true, false, false] rfl rfl (any_of HT_.out (by kernel_rfl)) (fun _ _ _ h => h) (Or.inl ⟨by rfl, ?_⟩) ?_ ?_
                          rotate_left
                          · intro w'
                            go_simp
                            with_reducible rfl
                          rotate_left
                          · simp only [Act.put, List.setIfInBounds_toArray, List.set_cons_zero, List.set_cons_succ, i64_w, i32_w]
                            rfl
                          refine one_ (i := 11) (N := none) #[true, true, true, true, true, true, true, true, true, true, true, true, false] rfl rfl (one_of HT_.out (by kernel_rfl)) (by decide) (fun K hK => ?_)
                          have hs81 : w80.cell? ⟨gb110, 0, none⟩ = some (.int .i64 t103) := (blk_cell BK110.out 0).trans rfl
                          have hfs81 := blk_frozen BK110.out 0
                          have hns81_1 := NB118_110.out
                          have hms81_1 := NB110_118.out
                          have hs82 : w80.cell? ⟨gb110, 1, none⟩ = some (.int .i64 t104) := (blk_cell BK110.out 1).trans rfl
                          have hfs82 := blk_frozen BK110.out 1
                          have hns82_1 := NB118_110.out
                          have hms82_1 := NB110_118.out
                          have hs83 : w80.cell? ⟨gb110, 2, none⟩ = some (.int .i64 t105) := (blk_cell BK110.out 2).trans rfl
                          have hfs83 := blk_frozen BK110.out 2
                          have hns83_1 := NB118_110.out
                          have hms83_1 := NB110_118.out
                          have hs84 : w80.cell? ⟨gb110, 3, none⟩ = some (.int .i64 t106) := (blk_cell BK110.out 3).trans rfl
                          have hfs84 := blk_frozen BK110.out 3
                          have hns84_1 := NB118_110.out
                          have hms84_1 := NB110_118.out
                          have hs85 : w80.cell? ⟨gb110, 4, none⟩ = some (.bool t107) := (blk_cell BK110.out 4).trans rfl
                          have hfs85 := blk_frozen BK110.out 4
                          have hns85_1 := NB118_110.out
                          have hms85_1 := NB110_118.out
                          have hs86 : w80.cell? ⟨gb110, 5, none⟩ = some (.string t108) := (blk_cell BK110.out 5).trans rfl
                          have hfs86 := blk_frozen BK110.out 5
                          have hns86_1 := NB118_110.out
                          have hms86_1 := NB110_118.out
                          refine skip_ (w1 := ?_) (by rfl) rfl ?_ ?_
                          rotate_left
                          · go_simp
                            rfl
                          have ne_hw121_0_GW110 := Nat.ne_of_lt (Nat.lt_of_lt_of_le (World.block_lt_of_cell? _ _ hw121_0) GW110.out)
                          have ne_hw121_1_GW110 := Nat.ne_of_lt (Nat.lt_of_lt_of_le (World.block_lt_of_cell? _ _ hw121_1) GW110.out)
                          have ne_hw121_2_GW110 := Nat.ne_of_lt (Nat.lt_of_lt_of_le (World.block_lt_of_cell? _ _ hw121_2) GW110.out)
                          have ne_hw121_3_GW110 := Nat.ne_of_lt (Nat.lt_of_lt_of_le (World.block_lt_of_cell? _ _ hw121_3) GW110.out)
                          have ne_hw121_4_GW110 := Nat.ne_of_lt (Nat.lt_of_lt_of_le (World.block_lt_of_cell? _ _ hw121_4) GW110.out)
                          have ne_hw121_5_GW110 := Nat.ne_of_lt (Nat.lt_of_lt_of_le (World.block_lt_of_cell? _ _ hw121_5) GW110.out)
                          have ne_hw122_0_GW110 := Nat.ne_of_lt (Nat.lt_of_lt_of_le (World.block_lt_of_cell? _ _ hw122_0) GW110.out)
                          have ne_hw122_1_GW110 := Nat.ne_of_lt (Nat.lt_of_lt_of_le (World.block_lt_of_cell? _ _ hw122_1) GW110.out)
                          have ne_hw122_2_GW110 := Nat.ne_of_lt (Nat.lt_of_lt_of_le (World.block_lt_of_cell? _ _ hw122_2) GW110.out)
                          have ne_hw122_3_GW110 := Nat.ne_of_lt (Nat.lt_of_lt_of_le (World.block_lt_of_cell? _ _ hw122_3) GW110.out)
                          have ne_hw122_4_GW110 := Nat.ne_of_lt (Nat.lt_of_lt_of_le (World.block_lt_of_cell? _ _ hw122_4) GW110.out)
                          have ne_hw122_5_GW110 := Nat.ne_of_lt (Nat.lt_of_lt_of_le (World.block_lt_of_cell? _ _ hw122_5) GW110.out)
                          refine hK.out _ _ ⟨((cell_far (p := ⟨gb110, _, none⟩) (by first | exact ne_hw121_0_GW110 | (rw [add_block]; exact ne_hw121_0_GW110) | (dsimp only; exact ne_hw121_0_GW110)) _).trans (((cell_far (p := ⟨gb110, _, none⟩) (by first | exact ne_hw121_0_GW110 | (rw [add_block]; exact ne_hw121_0_GW110) | (dsimp only; exact ne_hw121_0_GW110)) _).trans (((cell_far (p := ⟨gb110, _, none⟩) (by first | exact ne_hw121_0_GW110 | (rw [add_block]; exact ne_hw121_0_GW110) | (dsimp only; exact ne_hw121_0_GW110)) _).trans (((cell_far (p := ⟨gb110, _, none⟩) (by first | exact ne_hw121_0_GW110 | (rw [add_block]; exact ne_hw121_0_GW110) | (dsimp only; exact ne_hw121_0_GW110)) _).trans (((cell_far (p := ⟨gb110, _, none⟩) (by first | exact ne_hw121_0_GW110 | (rw [add_block]; exact ne_hw121_0_GW110) | (dsimp only; exact ne_hw121_0_GW110)) _).trans (((cell_far (p := ⟨gb110, _, none⟩) (by first | exact ne_hw121_0_GW110 | (rw [add_block]; exact ne_hw121_0_GW110) | (dsimp only; exact ne_hw121_0_GW110)) _).trans (hHeld.1)))))))))))), ((cell_far (p := ⟨gb110, _, none⟩) (by first | exact ne_hw121_1_GW110 | (rw [add_block]; exact ne_hw121_1_GW110) | (dsimp only; exact ne_hw121_1_GW110)) _).trans (((cell_far (p := ⟨gb110, _, none⟩) (by first | exact ne_hw121_1_GW110 | (rw [add_block]; exact ne_hw121_1_GW110) | (dsimp only; exact ne_hw121_1_GW110)) _).trans (((cell_far (p := ⟨gb110, _, none⟩) (by first | exact ne_hw121_1_GW110 | (rw [add_block]; exact ne_hw121_1_GW110) | (dsimp only; exact ne_hw121_1_GW110)) _).trans (((cell_far (p := ⟨gb110, _, none⟩) (by first | exact ne_hw121_1_GW110 | (rw [add_block]; exact ne_hw121_1_GW110) | (dsimp only; exact ne_hw121_1_GW110)) _).trans (((cell_far (p := ⟨gb110, _, none⟩) (by first | exact ne_hw121_1_GW110 | (rw [add_block]; exact ne_hw121_1_GW110) | (dsimp only; exact ne_hw121_1_GW110)) _).trans (((cell_far (p := ⟨gb110, _, none⟩) (by first | exact ne_hw121_1_GW110 | (rw [add_block]; exact ne_hw121_1_GW110) | (dsimp only; exact ne_hw121_1_GW110)) _).trans (hHeld.2.1)))))))))))), ((cell_far (p := ⟨gb110, _, none⟩) (by first | exact ne_hw121_2_GW110 | (rw [add_block]; exact ne_hw121_2_GW110) | (dsimp only; exact ne_hw121_2_GW110)) _).trans (((cell_far (p := ⟨gb110, _, none⟩) (by first | exact ne_hw121_2_GW110 | (rw [add_block]; exact ne_hw121_2_GW110) | (dsimp only; exact ne_hw121_2_GW110)) _).trans (((cell_far (p := ⟨gb110, _, none⟩) (by first | exact ne_hw121_2_GW110 | (rw [add_block]; exact ne_hw121_2_GW110) | (dsimp only; exact ne_hw121_2_GW110)) _).trans (((cell_far (p := ⟨gb110, _, none⟩) (by first | exact ne_hw121_2_GW110 | (rw [add_block]; exact ne_hw121_2_GW110) | (dsimp only; exact ne_hw121_2_GW110)) _).trans (((cell_far (p := ⟨gb110, _, none⟩) (by first | exact ne_hw121_2_GW110 | (rw [add_block]; exact ne_hw121_2_GW110) | (dsimp only; exact ne_hw121_2_GW110)) _).trans (((cell_far (p := ⟨gb110, _, none⟩) (by first | exact ne_hw121_2_GW110 | (rw [add_block]; exact ne_hw121_2_GW110) | (dsimp only; exact ne_hw121_2_GW110)) _).trans (hHeld.2.2.1)))))))))))), ((cell_far (p := ⟨gb110, _, none⟩) (by first | exact ne_hw121_3_GW110 | (rw [add_block]; exact ne_hw121_3_GW110) | (dsimp only; exact ne_hw121_3_GW110)) _).trans (((cell_far (p := ⟨gb110, _, none⟩) (by first | exact ne_hw121_3_GW110 | (rw [add_block]; exact ne_hw121_3_GW110) | (dsimp only; exact ne_hw121_3_GW110)) _).trans (((cell_far (p := ⟨gb110, _, none⟩) (by first | exact ne_hw121_3_GW110 | (rw [add_block]; exact ne_hw121_3_GW110) | (dsimp only; exact ne_hw121_3_GW110)) _).trans (((cell_far (p := ⟨gb110, _, none⟩) (by first | exact ne_hw121_3_GW110 | (rw [add_block]; exact ne_hw121_3_GW110) | (dsimp only; exact ne_hw121_3_GW110)) _).trans (((cell_far (p := ⟨gb110, _, none⟩) (by first | exact ne_hw121_3_GW110 | (rw [add_block]; exact ne_hw121_3_GW110) | (dsimp only; exact ne_hw121_3_GW110)) _).trans (((cell_far (p := ⟨gb110, _, none⟩) (by first | exact ne_hw121_3_GW110 | (rw [add_block]; exact ne_hw121_3_GW110) | (dsimp only; exact ne_hw121_3_GW110)) _).trans (hHeld.2.2.2.1)))))))))))), ((cell_far (p := ⟨gb110, _, none⟩) (by first | exact ne_hw121_4_GW110 | (rw [add_block]; exact ne_hw121_4_GW110) | (dsimp only; exact ne_hw121_4_GW110)) _).trans (((cell_far (p := ⟨gb110, _, none⟩) (by first | exact ne_hw121_4_GW110 | (rw [add_block]; exact ne_hw121_4_GW110) | (dsimp only; exact ne_hw121_4_GW110)) _).trans (((cell_far (p := ⟨gb110, _, none⟩) (by first | exact ne_hw121_4_GW110 | (rw [add_block]; exact ne_hw121_4_GW110) | (dsimp only; exact ne_hw121_4_GW110)) _).trans (((cell_far (p := ⟨gb110, _, none⟩) (by first | exact ne_hw121_4_GW110 | (rw [add_block]; exact ne_hw121_4_GW110) | (dsimp only; exact ne_hw121_4_GW110)) _).trans (((cell_far (p := ⟨gb110, _, none⟩) (by first | exact ne_hw121_4_GW110 | (rw [add_block]; exact ne_hw121_4_GW110) | (dsimp only; exact ne_hw121_4_GW110)) _).trans (((cell_far (p := ⟨gb110, _, none⟩) (by first | exact ne_hw121_4_GW110 | (rw [add_block]; exact ne_hw121_4_GW110) | (dsimp only; exact ne_hw121_4_GW110)) _).trans (hHeld.2.2.2.2.1)))))))))))), ((cell_far (p := ⟨gb110, _, none⟩) (by first | exact ne_hw121_5_GW110 | (rw [add_block]; exact ne_hw121_5_GW110) | (dsimp only; exact ne_hw121_5_GW110)) _).trans (((cell_far (p := ⟨gb110, _, none⟩) (by first | exact ne_hw121_5_GW110 | (rw [add_block]; exact ne_hw121_5_GW110) | (dsimp only; exact ne_hw121_5_GW110)) _).trans (((cell_far (p := ⟨gb110, _, none⟩) (by first | exact ne_hw121_5_GW110 | (rw [add_block]; exact ne_hw121_5_GW110) | (dsimp only; exact ne_hw121_5_GW110)) _).trans (((cell_far (p := ⟨gb110, _, none⟩) (by first | exact ne_hw121_5_GW110 | (rw [add_block]; exact ne_hw121_5_GW110) | (dsimp only; exact ne_hw121_5_GW110)) _).trans (((cell_far (p := ⟨gb110, _, none⟩) (by first | exact ne_hw121_5_GW110 | (rw [add_block]; exact ne_hw121_5_GW110) | (dsimp only; exact ne_hw121_5_GW110)) _).trans (((cell_far (p := ⟨gb110, _, none⟩) (by first | exact ne_hw121_5_GW110 | (rw [add_block]; exact ne_hw121_5_GW110) | (dsimp only; exact ne_hw121_5_GW110)) _).trans (hHeld.2.2.2.2.2.1)))))))))))), ((cell_far (p := ⟨gb110, _, none⟩) (by first | exact ne_hw122_0_GW110 | (rw [add_block]; exact ne_hw122_0_GW110) | (dsimp only; exact ne_hw122_0_GW110)) _).trans (((cell_far (p := ⟨gb110, _, none⟩) (by first | exact ne_hw122_0_GW110 | (rw [add_block]; exact ne_hw122_0_GW110) | (dsimp only; exact ne_hw122_0_GW110)) _).trans (((cell_far (p := ⟨gb110, _, none⟩) (by first | exact ne_hw122_0_GW110 | (rw [add_block]; exact ne_hw122_0_GW110) | (dsimp only; exact ne_hw122_0_GW110)) _).trans (((cell_far (p := ⟨gb110, _, none⟩) (by first | exact ne_hw122_0_GW110 | (rw [add_block]; exact ne_hw122_0_GW110) | (dsimp only; exact ne_hw122_0_GW110)) _).trans (((cell_far (p := ⟨gb110, _, none⟩) (by first | exact ne_hw122_0_GW110 | (rw [add_block]; exact ne_hw122_0_GW110) | (dsimp only; exact ne_hw122_0_GW110)) _).trans (((cell_far (p := ⟨gb110, _, none⟩) (by first | exact ne_hw122_0_GW110 | (rw [add_block]; exact ne_hw122_0_GW110) | (dsimp only; exact ne_hw122_0_GW110)) _).trans (hHeld.2.2.2.2.2.2.1)))))))))))), ((cell_far (p := ⟨gb110, _, none⟩) (by first | exact ne_hw122_1_GW110 | (rw [add_block]; exact ne_hw122_1_GW110) | (dsimp only; exact ne_hw122_1_GW110)) _).trans (((cell_far (p := ⟨gb110, _, none⟩) (by first | exact ne_hw122_1_GW110 | (rw [add_block]; exact ne_hw122_1_GW110) | (dsimp only; exact ne_hw122_1_GW110)) _).trans (((cell_far (p := ⟨gb110, _, none⟩) (by first | exact ne_hw122_1_GW110 | (rw [add_block]; exact ne_hw122_1_GW110) | (dsimp only; exact ne_hw122_1_GW110)) _).trans (((cell_far (p := ⟨gb110, _, none⟩) (by first | exact ne_hw122_1_GW110 | (rw [add_block]; exact ne_hw122_1_GW110) | (dsimp only; exact ne_hw122_1_GW110)) _).trans (((cell_far (p := ⟨gb110, _, none⟩) (by first | exact ne_hw122_1_GW110 | (rw [add_block]; exact ne_hw122_1_GW110) | (dsimp only; exact ne_hw122_1_GW110)) _).trans (((cell_far (p := ⟨gb110, _, none⟩) (by first | exact ne_hw122_1_GW110 | (rw [add_block]; exact ne_hw122_1_GW110) | (dsimp only; exact ne_hw122_1_GW110)) _).trans (hHeld.2.2.2.2.2.2.2.1)))))))))))), ((cell_far (p := ⟨gb110, _, none⟩) (by first | exact ne_hw122_2_GW110 | (rw [add_block]; exact ne_hw122_2_GW110) | (dsimp only; exact ne_hw122_2_GW110)) _).trans (((cell_far (p := ⟨gb110, _, none⟩) (by first | exact ne_hw122_2_GW110 | (rw [add_block]; exact ne_hw122_2_GW110) | (dsimp only; exact ne_hw122_2_GW110)) _).trans (((cell_far (p := ⟨gb110, _, none⟩) (by first | exact ne_hw122_2_GW110 | (rw [add_block]; exact ne_hw122_2_GW110) | (dsimp only; exact ne_hw122_2_GW110)) _).trans (((cell_far (p := ⟨gb110, _, none⟩) (by first | exact ne_hw122_2_GW110 | (rw [add_block]; exact ne_hw122_2_GW110) | (dsimp only; exact ne_hw122_2_GW110)) _).trans (((cell_far (p := ⟨gb110, _, none⟩) (by first | exact ne_hw122_2_GW110 | (rw [add_block]; exact ne_hw122_2_GW110) | (dsimp only; exact ne_hw122_2_GW110)) _).trans (((cell_far (p := ⟨gb110, _, none⟩) (by first | exact ne_hw122_2_GW110 | (rw [add_block]; exact ne_hw122_2_GW110) | (dsimp only; exact ne_hw122_2_GW110)) _).trans (hHeld.2.2.2.2.2.2.2.2.1)))))))))))), ((cell_far (p := ⟨gb110, _, none⟩) (by first | exact ne_hw122_3_GW110 | (rw [add_block]; exact ne_hw122_3_GW110) | (dsimp only; exact ne_hw122_3_GW110)) _).trans (((cell_far (p := ⟨gb110, _, none⟩) (by first | exact ne_hw122_3_GW110 | (rw [add_block]; exact ne_hw122_3_GW110) | (dsimp only; exact ne_hw122_3_GW110)) _).trans (((cell_far (p := ⟨gb110, _, none⟩) (by first | exact ne_hw122_3_GW110 | (rw [add_block]; exact ne_hw122_3_GW110) | (dsimp only; exact ne_hw122_3_GW110)) _).trans (((cell_far (p := ⟨gb110, _, none⟩) (by first | exact ne_hw122_3_GW110 | (rw [add_block]; exact ne_hw122_3_GW110) | (dsimp only; exact ne_hw122_3_GW110)) _).trans (((cell_far (p := ⟨gb110, _, none⟩) (by first | exact ne_hw122_3_GW110 | (rw [add_block]; exact ne_hw122_3_GW110) | (dsimp only; exact ne_hw122_3_GW110)) _).trans (((cell_far (p := ⟨gb110, _, none⟩) (by first | exact ne_hw122_3_GW110 | (rw [add_block]; exact ne_hw122_3_GW110) | (dsimp only; exact ne_hw122_3_GW110)) _).trans (hHeld.2.2.2.2.2.2.2.2.2.1)))))))))))), ((cell_far (p := ⟨gb110, _, none⟩) (by first | exact ne_hw122_4_GW110 | (rw [add_block]; exact ne_hw122_4_GW110) | (dsimp only; exact ne_hw122_4_GW110)) _).trans (((cell_far (p := ⟨gb110, _, none⟩) (by first | exact ne_hw122_4_GW110 | (rw [add_block]; exact ne_hw122_4_GW110) | (dsimp only; exact ne_hw122_4_GW110)) _).trans (((cell_far (p := ⟨gb110, _, none⟩) (by first | exact ne_hw122_4_GW110 | (rw [add_block]; exact ne_hw122_4_GW110) | (dsimp only; exact ne_hw122_4_GW110)) _).trans (((cell_far (p := ⟨gb110, _, none⟩) (by first | exact ne_hw122_4_GW110 | (rw [add_block]; exact ne_hw122_4_GW110) | (dsimp only; exact ne_hw122_4_GW110)) _).trans (((cell_far (p := ⟨gb110, _, none⟩) (by first | exact ne_hw122_4_GW110 | (rw [add_block]; exact ne_hw122_4_GW110) | (dsimp only; exact ne_hw122_4_GW110)) _).trans (((cell_far (p := ⟨gb110, _, none⟩) (by first | exact ne_hw122_4_GW110 | (rw [add_block]; exact ne_hw122_4_GW110) | (dsimp only; exact ne_hw122_4_GW110)) _).trans (hHeld.2.2.2.2.2.2.2.2.2.2.1)))))))))))), ((cell_far (p := ⟨gb110, _, none⟩) (by first | exact ne_hw122_5_GW110 | (rw [add_block]; exact ne_hw122_5_GW110) | (dsimp only; exact ne_hw122_5_GW110)) _).trans (((cell_far (p := ⟨gb110, _, none⟩) (by first | exact ne_hw122_5_GW110 | (rw [add_block]; exact ne_hw122_5_GW110) | (dsimp only; exact ne_hw122_5_GW110)) _).trans (((cell_far (p := ⟨gb110, _, none⟩) (by first | exact ne_hw122_5_GW110 | (rw [add_block]; exact ne_hw122_5_GW110) | (dsimp only; exact ne_hw122_5_GW110)) _).trans (((cell_far (p := ⟨gb110, _, none⟩) (by first | exact ne_hw122_5_GW110 | (rw [add_block]; exact ne_hw122_5_GW110) | (dsimp only; exact ne_hw122_5_GW110)) _).trans (((cell_far (p := ⟨gb110, _, none⟩) (by first | exact ne_hw122_5_GW110 | (rw [add_block]; exact ne_hw122_5_GW110) | (dsimp only; exact ne_hw122_5_GW110)) _).trans (((cell_far (p := ⟨gb110, _, none⟩) (by first | exact ne_hw122_5_GW110 | (rw [add_block]; exact ne_hw122_5_GW110) | (dsimp only; exact ne_hw122_5_GW110)) _).trans (hHeld.2.2.2.2.2.2.2.2.2.2.2))))))))))))⟩ (fun hHeld => ?_)
                          clear hK K
                          refine pure_ (i := 12) (N := some 4) (v := ?_) (a' := ?_) #[true, true, true, true, true, true, true, true, true, true, true, true, true] rfl rfl (any_of HT_.out (by kernel_rfl)) (fun _ _ _ h => h) (Or.inl ⟨by rfl, ?_⟩) ?_ ?_
                          rotate_left
                          · intro w'
                            go_simp
                            with_reducible rfl
                          rotate_left
                          · simp only [Act.put, List.setIfInBounds_toArray, List.set_cons_zero, List.set_cons_succ, i64_w, i32_w]
                            rfl
                          refine done_ (done_of HT_.out (by kernel_rfl)) ?_
                          try go_wp2
                          go_ret
                          exact ⟨by first | rfl | (simp [errW_none, errW_some] <;> rfl) | (simp [*, errW_none, errW_some] <;> rfl), by repeat (first | (with_reducible first | exact HB.out | apply below_alloc | apply pw_below_drewN | apply below_drew1 | refine below_set ?_ GE110.out | refine below_set ?_ GE118.out) | exact HB.out)⟩
                      · rw [if_neg c42] at H
                        exact absurd H (by simp)
                    · rw [if_neg c41] at H
                      exact absurd H (by simp)
end Go.Proofs.Ytemlbikangbomaa.P

-- from the text F23
namespace Go.Proofs.Ytemlbikangbomaa.P
open Go.RowKit Go.Proofs.YtemlbikangbomaaW.PrintWords Go.Proofs.YtemlbikangbomaaW.PrintLast Go.Proofs.YtemlbikangbomaaW.PrintMore
attribute [local go_sem] max2_int min2_int max_two min_two max_three min_three max_four min_four   -- for this text's walks alone
set_option linter.unusedVariables false
set_option linter.unusedSimpArgs false
attribute [local go_sem high] eqA25
def ironbarkstay_SameTypes.l0 : Nat → List (S25) → List (S25) → Int → Option (Bool)
  | 0, _, _, _ => none
  | k + 1, x0, x1, x5 => if x5 < (x0.length : Int) then (if 0 ≤ x5 then (if x5 < (x1.length : Int) then (if (!(((rd_T25 x0 x5).f0) == ((rd_T25 x1 x5).f0)) || (!(((rd_T25 x0 x5).f1) == ((rd_T25 x1 x5).f1)) || (!(((rd_T25 x0 x5).f2) == ((rd_T25 x1 x5).f2)) || (!(((rd_T25 x0 x5).f3) == ((rd_T25 x1 x5).f3)) || (!(((rd_T25 x0 x5).f4) == ((rd_T25 x1 x5).f4)) || (!((((rd_T25 x0 x5).f5).toList) == (((rd_T25 x1 x5).f5).toList)))))))) = true then (some false) else (ironbarkstay_SameTypes.l0 k x0 x1 (wrap64 (x5 + 1)))) else (none)) else (none)) else (some true)
def ironbarkstay_SameTypes.f (k : Nat) (l0 : List (S25)) (l1 : List (S25)) : Option (Bool) := if (l0.length : Int) = (l1.length : Int) then (ironbarkstay_SameTypes.l0 k l0 l1 0) else (some false)
set_option maxHeartbeats 8000000 in
set_option maxRecDepth 100000 in
theorem ironbarkstay_SameTypes.calls (k : Nat) (A0 : Option Addr) (c0 : Nat) (l0 : List (S25)) (A1 : Option Addr) (c1 : Nat) (l1 : List (S25)) (r : Bool) (w : World) (hr0 : Kd.C k25 w A0 l0.length l0) (hc0 : l0.length ≤ c0) (hr1 : Kd.C k25 w A1 l1.length l1) (hc1 : l1.length ≤ c1) (h : ironbarkstay_SameTypes.f k l0 l1 = some r) :
    Calls Try.prog 23 #[.slice A0 l0.length c0, .slice A1 l1.length c1] w fun e w' => e = .returned (.bool r) ∧ Drawn0 w w' := by
  have hu25 := Try.underlying25
  have HR0 := Aside0.mk hr0
  have HC0 := Aside0.mk hc0
  clear hr0 hc0
  have HR1 := Aside0.mk hr1
  have HC1 := Aside0.mk hc1
  clear hr1 hc1
  have H : (if (l0.length : Int) = (l1.length : Int) then (ironbarkstay_SameTypes.l0 k l0 l1 0) else (some false)) = some r := h
  clear h
  by_cases c3 : (l0.length : Int) = (l1.length : Int)
  · rw [if_pos c3] at H
    have c3b0 : ((l0.length : Int) == (l1.length : Int)) = true := beq_iff_eq.mpr c3
    have c3b1 : ((l0.length : Int) != (l1.length : Int)) = false := bne_eq_false_iff_eq.mpr c3
    have c3b2 : (l0.length == l1.length) = true := by first | simpa using c3 | (simp at c3 ⊢; omega)
    clear c3
    have H' := Aside0.mk H
    clear H
    go_enter Try.func23, Try.ntmps23
    go_wp2
    repeat (go_quiet (fail); try go_wp2)
    go_loopg [5] k (fun kq v5 w' => ∃ (x5_1 : Int), v5 = .int .i64 x5_1 ∧ Aside0 (ironbarkstay_SameTypes.l0 kq l0 l1 x5_1 = some r) ∧ Aside0 (kq ≤ k) ∧ Drawn0 w w')
    case atStart => exact ⟨(0), (by first | rfl | (simp; done) | (generalize ByteArray.toList _ = l_; cases l_ <;> rfl) | (simp [*]; done)), H', ⟨Nat.le_refl _⟩, by repeat (first | exact Drawn0.refl _ | apply Drawn0.step)⟩
    case round =>
      clear H'
      try clear c1
      try clear c2
      try clear p2
      try clear c3
      try clear c3b0
      try clear c3b1
      try clear c3b2
      obtain ⟨x5_1, rfl, HA, HK1, ⟨m1, rfl⟩⟩ := hrel
      cases gk with
      | zero => exact absurd HA.out (by simp [ironbarkstay_SameTypes.l0])
      | succ k1 =>
        have H := HA.out
        clear HA
        simp only [ironbarkstay_SameTypes.l0] at H
        by_cases c4 : x5_1 < (l0.length : Int)
        · rw [if_pos c4] at H
          have c4b0 : decide (x5_1 < (l0.length : Int)) = true := decide_eq_true c4
          clear c4
          by_cases c5 : 0 ≤ x5_1
          · rw [if_pos c5] at H
            have c5b0 : decide (0 ≤ x5_1) = true := decide_eq_true c5
            clear c5
            by_cases c6 : x5_1 < (l1.length : Int)
            · rw [if_pos c6] at H
              have c6b0 : decide (x5_1 < (l1.length : Int)) = true := decide_eq_true c6
              clear c6
              by_cases c7 : (!(((rd_T25 l0 x5_1).f0) == ((rd_T25 l1 x5_1).f0)) || (!(((rd_T25 l0 x5_1).f1) == ((rd_T25 l1 x5_1).f1)) || (!(((rd_T25 l0 x5_1).f2) == ((rd_T25 l1 x5_1).f2)) || (!(((rd_T25 l0 x5_1).f3) == ((rd_T25 l1 x5_1).f3)) || (!(((rd_T25 l0 x5_1).f4) == ((rd_T25 l1 x5_1).f4)) || (!((((rd_T25 l0 x5_1).f5).toList) == (((rd_T25 l1 x5_1).f5).toList)))))))) = true
              · rw [if_pos c7] at H
                have c7b0 : (!(((rd_T25 l0 x5_1).f0) == ((rd_T25 l1 x5_1).f0)) || (!(((rd_T25 l0 x5_1).f1) == ((rd_T25 l1 x5_1).f1)) || (!(((rd_T25 l0 x5_1).f2) == ((rd_T25 l1 x5_1).f2)) || (!(((rd_T25 l0 x5_1).f3) == ((rd_T25 l1 x5_1).f3)) || (!(((rd_T25 l0 x5_1).f4) == ((rd_T25 l1 x5_1).f4)) || (!((((rd_T25 l0 x5_1).f5).toList) == (((rd_T25 l1 x5_1).f5).toList)))))))) = true := c7
                clear c7
                obtain rfl := Option.some.inj H
                have p101 : 0 ≤ (x5_1 : Int) := of_decide_eq_true (by first | (with_reducible assumption) | assumption)
                have q101 : x5_1 < (l0.length : Int) := of_decide_eq_true (by first | (with_reducible assumption) | assumption)
                obtain ⟨ad101, e101, hx101_0, hx101_1, hx101_2, hx101_3, hx101_4, hx101_5⟩ := at_T25 HR0.out x5_1 p101 q101
                cases e101
                replace p101 := eq_true p101
                replace q101 := eq_true q101
                have p102 : 0 ≤ (x5_1 : Int) := of_decide_eq_true (by first | (with_reducible assumption) | assumption)
                have q102 : x5_1 < (l1.length : Int) := of_decide_eq_true (by first | (with_reducible assumption) | assumption)
                obtain ⟨ad102, e102, hx102_0, hx102_1, hx102_2, hx102_3, hx102_4, hx102_5⟩ := at_T25 HR1.out x5_1 p102 q102
                cases e102
                replace p102 := eq_true p102
                replace q102 := eq_true q102
                go_wp2
                repeat (go_quiet (fail); try go_wp2)
                go_ret
                exact ⟨by first | rfl | (simp; done) | (simp [*]; done), by repeat (first | exact Drawn0.refl _ | apply Drawn0.step)⟩
              · rw [if_neg c7] at H
                have c7b0 : (!(((rd_T25 l0 x5_1).f0) == ((rd_T25 l1 x5_1).f0)) || (!(((rd_T25 l0 x5_1).f1) == ((rd_T25 l1 x5_1).f1)) || (!(((rd_T25 l0 x5_1).f2) == ((rd_T25 l1 x5_1).f2)) || (!(((rd_T25 l0 x5_1).f3) == ((rd_T25 l1 x5_1).f3)) || (!(((rd_T25 l0 x5_1).f4) == ((rd_T25 l1 x5_1).f4)) || (!((((rd_T25 l0 x5_1).f5).toList) == (((rd_T25 l1 x5_1).f5).toList)))))))) = false := by simpa using c7
                clear c7
                have H' := Aside0.mk H
                clear H
                have p101 : 0 ≤ (x5_1 : Int) := of_decide_eq_true (by first | (with_reducible assumption) | assumption)
                have q101 : x5_1 < (l0.length : Int) := of_decide_eq_true (by first | (with_reducible assumption) | assumption)
                obtain ⟨ad101, e101, hx101_0, hx101_1, hx101_2, hx101_3, hx101_4, hx101_5⟩ := at_T25 HR0.out x5_1 p101 q101
                cases e101
                replace p101 := eq_true p101
                replace q101 := eq_true q101
                have p102 : 0 ≤ (x5_1 : Int) := of_decide_eq_true (by first | (with_reducible assumption) | assumption)
                have q102 : x5_1 < (l1.length : Int) := of_decide_eq_true (by first | (with_reducible assumption) | assumption)
                obtain ⟨ad102, e102, hx102_0, hx102_1, hx102_2, hx102_3, hx102_4, hx102_5⟩ := at_T25 HR1.out x5_1 p102 q102
                cases e102
                replace p102 := eq_true p102
                replace q102 := eq_true q102
                go_wp2
                repeat (go_quiet (fail); try go_wp2)
                go_roundg k1
                case measure => have := HK1.out; omega
                case rel => exact ⟨(wrap64 (x5_1 + 1)), (by first | rfl | (simp; done) | (generalize ByteArray.toList _ = l_; cases l_ <;> rfl) | (simp [*]; done)), H', ⟨by have := HK1.out; omega⟩, by repeat (first | exact Drawn0.refl _ | apply Drawn0.step)⟩
            · rw [if_neg c6] at H
              exact absurd H (by simp)
          · rw [if_neg c5] at H
            exact absurd H (by simp)
        · rw [if_neg c4] at H
          have c4b0 : decide (x5_1 < (l0.length : Int)) = false := decide_eq_false c4
          clear c4
          obtain rfl := Option.some.inj H
          go_wp2
          repeat (go_quiet (fail); try go_wp2)
          go_ret
          exact ⟨by first | rfl | (simp; done) | (simp [*]; done), by repeat (first | exact Drawn0.refl _ | apply Drawn0.step)⟩
  · rw [if_neg c3] at H
    have c3b0 : ((l0.length : Int) == (l1.length : Int)) = false := beq_eq_false_iff_ne.mpr c3
    have c3b1 : ((l0.length : Int) != (l1.length : Int)) = true := bne_iff_ne.mpr c3
    have c3b2 : (l0.length == l1.length) = false := by first | simpa using c3 | (simp at c3 ⊢; omega)
    obtain rfl := Option.some.inj H
    go_enter Try.func23, Try.ntmps23
    go_wp2
    repeat (go_quiet (fail); try go_wp2)
    go_ret
    exact ⟨by first | rfl | (simp; done) | (simp [*]; done), by repeat (first | exact Drawn0.refl _ | apply Drawn0.step)⟩
end Go.Proofs.Ytemlbikangbomaa.P

-- from the text F5
namespace Go.Proofs.Ytemlbikangbomaa.P
open Go.RowKit Go.Proofs.YtemlbikangbomaaW.PrintWords Go.Proofs.YtemlbikangbomaaW.PrintLast Go.Proofs.YtemlbikangbomaaW.PrintMore
attribute [local go_sem] max2_int min2_int max_two min_two max_three min_three max_four min_four   -- for this text's walks alone
set_option linter.unusedVariables false
set_option linter.unusedSimpArgs false
def ironbarklaw02_RuleCommon.f (k : Nat) (l0 : List (S25)) : Option (Bool) := (ironbarkstay_Types.f l0).bind fun t101 => ((ironbarklaw02_ruleCommon.f k l0).bind fun t104 => (if t104 = true then ((ironbarkstay_SameTypes.f k l0 t101).bind fun t105 => (some t105)) else (some false)))
set_option maxHeartbeats 8000000 in
set_option maxRecDepth 100000 in
theorem ironbarklaw02_RuleCommon.calls (k : Nat) (A0 : Option Addr) (c0 : Nat) (l0 : List (S25)) (r : Bool) (w : World) (hr0 : Kd.C k25 w A0 l0.length l0) (hc0 : l0.length ≤ c0) (h : ironbarklaw02_RuleCommon.f k l0 = some r) (hrt_ : Aside0 (r = true)) :
  Calls Try.prog 5 #[.slice A0 l0.length c0] w fun e w' => e = .returned (.bool r) ∧ Below w.heap.size w w' := by
 have HR0 := Aside0.mk hr0
 have HC0 := Aside0.mk hc0
 clear hr0 hc0
 have HB := Aside0.mk (Below.refl w.heap.size w)
 have H : ((ironbarkstay_Types.f l0).bind fun t101 => ((ironbarklaw02_ruleCommon.f k l0).bind fun t104 => (if t104 = true then ((ironbarkstay_SameTypes.f k l0 t101).bind fun t105 => (some t105)) else (some false)))) = some r := h
 clear h
 replace H := Option.bind_eq_some_iff.mp H
 obtain ⟨t101, A20, H⟩ := H
 replace H : ((ironbarklaw02_ruleCommon.f k l0).bind fun t104 => (if t104 = true then ((ironbarkstay_SameTypes.f k l0 t101).bind fun t105 => (some t105)) else (some false))) = some r := H
 have A2 := Aside0.mk A20
 clear A20
 replace H := Option.bind_eq_some_iff.mp H
 obtain ⟨t104, A30, H⟩ := H
 replace H : (if t104 = true then ((ironbarkstay_SameTypes.f k l0 t101).bind fun t105 => (some t105)) else (some false)) = some r := H
 have A3 := Aside0.mk A30
 clear A30
 by_cases c4 : t104 = true
 ·subst c4
  have H1 : ((ironbarkstay_SameTypes.f k l0 t101).bind fun t105 => (some t105)) = some r := by rw [if_pos rfl] at H; exact H
  clear H
  have H := H1
  clear H1
  replace H := Option.bind_eq_some_iff.mp H
  obtain ⟨t105, A50, H⟩ := H
  replace H : (some t105) = some r := H
  have A5 := Aside0.mk A50
  clear A50
  obtain rfl := Option.some.inj H
  go_enter Try.func5, Try.ntmps5
  go_wp2_with (first | ((with_reducible refine gate_callee (f := 21) rfl ?_); refine goesL_ (some 5) rfl rfl Try.func21 (by kernel_rfl) rfl #[.slice A0 l0.length c0] rfl (by (try simp only [List.map_toArray, List.map_cons, List.map_nil]); first | done | rfl | (simp only [List.length_drop, List.length_take]; rfl)) ?_; (with_reducible refine (ironbarkstay_Types.calls _ _ l0 t101 _ ?side1 ?side2 A2.out).mono ?_); (case side1 => repeat (first | exact HR0.out | (with_reducible refine Kd.C_alloc ?_ _) | (with_reducible refine Kd.C_drewN ?_ _) | (with_reducible refine Kd.C_drew ?_))); (case side2 => exact HC0.out); rintro e w6 ⟨v102, rfl, ho0, hb⟩; refine ⟨_, rfl, ?_⟩; have n0_ := Aside0.mk (Kd.R_lower ho0 (below_size (by repeat (first | (with_reducible first | exact HB.out | apply below_alloc | apply pw_below_drewN | apply below_drew1) | exact HB.out)))); have n1_ := Aside0.mk (below_step (by repeat (first | (with_reducible first | exact HB.out | apply below_alloc | apply pw_below_drewN | apply below_drew1) | exact HB.out)) hb); clear HB; have HO103 := n0_; have HB := n1_; clear n0_ n1_; (try clear hb); (try clear hb2); (try clear hk); (try clear hi); (try clear ho0)) | ((with_reducible refine gate_callee (f := 22) rfl ?_); refine goesL_ (some 7) rfl rfl Try.func22 (by kernel_rfl) rfl #[.slice A0 l0.length c0] rfl (by (try simp only [List.map_toArray, List.map_cons, List.map_nil]); first | done | rfl | (simp only [List.length_drop, List.length_take]; rfl)) ?_; (with_reducible refine (ironbarklaw02_ruleCommon.calls k _ _ l0 true _ ?side1 ?side2 A3.out).mono ?_); (case side1 => repeat (first | exact (Kd.C_below HR0.out HB.out) | (with_reducible refine Kd.C_alloc ?_ _) | (with_reducible refine Kd.C_drewN ?_ _) | (with_reducible refine Kd.C_drew ?_))); (case side2 => exact HC0.out); rintro e w7 ⟨rfl, hb⟩; refine ⟨_, rfl, ?_⟩; have n0_ := Aside0.mk (Kd.R_below (by (with_reducible repeat (first | apply Kd.R_alloc | apply Kd.R_drewN | apply Kd.R_drew)); exact HO103.out) hb); have n1_ := Aside0.mk (below_step (by repeat (first | (with_reducible first | exact HB.out | apply below_alloc | apply pw_below_drewN | apply below_drew1) | exact HB.out)) hb); clear HO103; clear HB; have HO103 := n0_; have HB := n1_; clear n0_ n1_; (try clear hb); (try clear hb2); (try clear hk); (try clear hi); obtain ⟨Ao8, co8, eo8⟩ := Kd.R_slice HO103.out; subst eo8) | (go_at_call 23; (with_reducible refine (ironbarkstay_SameTypes.calls k _ _ l0 _ _ t101 t105 _ ?side1 ?side2 ?side3 ?side4 A5.out).mono ?_); (case side1 => repeat (first | exact (Kd.C_below HR0.out HB.out) | (with_reducible refine Kd.C_alloc ?_ _) | (with_reducible refine Kd.C_drewN ?_ _) | (with_reducible refine Kd.C_drew ?_))); (case side2 => exact HC0.out); (case side3 => repeat (first | exact (Kd.R_reads' HO103.out).2.2 | (with_reducible refine Kd.C_alloc ?_ _) | (with_reducible refine Kd.C_drewN ?_ _) | (with_reducible refine Kd.C_drew ?_))); (case side4 => exact (Kd.R_reads' HO103.out).2.1); rintro e w' ⟨rfl, ⟨nd, rfl⟩⟩))
  go_ret
  exact ⟨by first | rfl | (simp [errW_none, errW_some] <;> rfl) | (simp [*, errW_none, errW_some] <;> rfl), by repeat (first | (with_reducible first | exact HB.out | apply below_alloc | apply pw_below_drewN | apply below_drew1) | exact HB.out)⟩
 ·replace c4 := Bool.eq_false_iff.mpr c4
  subst c4
  have H1 : (some false) = some r := by rw [if_neg (show ¬ (false = true) by decide)] at H; exact H
  clear H
  have H := H1
  clear H1
  exact absurd ((Option.some.inj H).trans hrt_.out) (by decide)
end Go.Proofs.Ytemlbikangbomaa.P

-- from the text Pc
namespace Go.Proofs.Ytemlbikangbomaa.P
open Go.RowKit Go.Proofs.YtemlbikangbomaaW.PrintWords Go.Proofs.YtemlbikangbomaaW.PrintLast Go.Proofs.YtemlbikangbomaaW.PrintMore
set_option linter.unusedVariables false
set_option linter.unusedSimpArgs false
theorem validO_all (l : List S25) (h : validO l = 0) : ∀ t ∈ l, okT t := by
  unfold validO at h
  intro t ht
  by_cases h1 : l.all tyB = true
  · rw [if_pos h1] at h
    by_cases h2 : l.all numK = true
    · exact okT_of t (List.all_eq_true.1 h1 t ht) (List.all_eq_true.1 h2 t ht)
    · rw [if_neg h2] at h; cases h
  · rw [if_neg h1] at h; cases h
theorem all_validO (l : List S25) (h : ∀ t ∈ l, okT t) : validO l = 0 := by
  unfold validO
  rw [if_pos (List.all_eq_true.2 fun t ht => (tyB_ok t (h t ht)).1), if_pos (List.all_eq_true.2 fun t ht => (tyB_ok t (h t ht)).2)]
theorem fold_ev (l : List S25) : ∀ t, okT t → (∀ x ∈ l, okT x) → Ev (fun k => foldO k t l) (l.foldl comS t) := by
  induction l with
  | nil => exact fun t _ _ => Ev.now _
  | cons x l ih => exact fun t ht hl => Ev.bind (common_ev t x ht (hl x (List.mem_cons_self ..))) (ih (comS t x) (comS_ok t x ht (hl x (List.mem_cons_self ..))) fun y hy => hl y (List.mem_cons_of_mem _ hy))
theorem fold_ok (l : List S25) : ∀ t, okT t → (∀ x ∈ l, okT x) → okT (l.foldl comS t) := by
  induction l with
  | nil => exact fun t ht _ => ht
  | cons x l ih => exact fun t ht hl => ih (comS t x) (comS_ok t x ht (hl x (List.mem_cons_self ..))) fun y hy => hl y (List.mem_cons_of_mem _ hy)
def cO (l : List S25) : S25 × Int :=
  if validO l = 0 then (match l with | [] => (z25, 8) | x :: tl => (tl.foldl comS x, 0)) else (z25, validO l)
theorem cO_ok (l : List S25) (h : (cO l).2 = 0) : okT (cO l).1 := by
  unfold cO at h ⊢
  by_cases hv : validO l = 0
  · rw [if_pos hv] at h ⊢
    have ha := validO_all l hv
    cases l with
    | nil => cases h
    | cons x tl => exact fold_ok tl x (ha x (List.mem_cons_self ..)) fun y hy => ha y (List.mem_cons_of_mem _ hy)
  · rw [if_neg hv] at h; exact absurd h hv
theorem rcom_ev (l : List S25) (hl : (l.length : Int) < 4611686018427387904) : Ev (fun k => rule_Common.f k l) (r7 (cO l).1 (cO l).2) := by
  unfold rule_Common.f cO
  simp only [if_pos hl]
  by_cases hv : validO l = 0
  · simp only [if_pos hv]
    have ha := validO_all l hv
    cases l with
    | nil => exact Ev.now _
    | cons x tl =>
      refine Ev.congr (fun k => if_pos (by simp)) ?_
      exact Ev.bind (fold_ev tl x (ha x (List.mem_cons_self ..)) fun y hy => ha y (List.mem_cons_of_mem _ hy)) (Ev.now _)
  · simp only [if_neg hv]; exact Ev.now _
theorem dcom_l0 (l : List S25) (hl : l.length ≤ 4611686018427387904) (ha : ∀ x ∈ l, okT x) : ∀ d i t, i + d = l.length → okT t → Ev (fun k => ironbarkref02_Common.l0 k l (i : Int) t.f0 t.f1 t.f2 t.f3 t.f4 t.f5) (r7 ((l.drop i).foldl comS t) 0) := by
  intro d
  induction d with
  | zero =>
    intro i t hi ht
    rw [List.drop_eq_nil_of_le (by omega), List.foldl_nil]
    refine Ev.step (f := fun _ => some (r7 t 0)) (fun k => ?_) (Ev.now _)
    simp only [ironbarkref02_Common.l0]
    rw [if_neg (by omega)]; rfl
  | succ d ih =>
    intro i t hi ht
    have hlt : i < l.length := by omega
    have hm := ha l[i] (List.getElem_mem hlt)
    rw [List.drop_eq_getElem_cons hlt, List.foldl_cons]
    refine Ev.step (f := fun k => (ironbarkref02_sum.f k t.f0 t.f1 t.f2 t.f3 t.f4 t.f5 l[i].f0 l[i].f1 l[i].f2 l[i].f3 l[i].f4 l[i].f5 0).bind fun bt106 => ironbarkref02_Common.l0 k l ((i + 1 : Nat) : Int) bt106.1 bt106.2.1 bt106.2.2.1 bt106.2.2.2.1 bt106.2.2.2.2.1 bt106.2.2.2.2.2) (fun k => ?_) ?_
    · simp only [ironbarkref02_Common.l0]
      rw [if_pos (by omega), if_pos (by omega), rdAt l i hlt, wrapN hlt (by omega)]
    · exact Ev.bind (sum_ev t l[i] 0 ht hm (by omega) (by omega)) (ih (i + 1) (comS t l[i]) (by omega) (comS_ok t l[i] ht hm))
theorem dcom_ev (l : List S25) (hl : l.length ≤ 4611686018427387904) : Ev (fun k => ironbarkref02_Common.f k l) (r7 (cO l).1 (cO l).2) := by
  unfold ironbarkref02_Common.f cO
  refine Ev.bind (asked_ev l hl) ?_
  by_cases hv : validO l = 0
  · simp only [if_pos hv]
    have ha := validO_all l hv
    cases l with
    | nil => exact Ev.now _
    | cons x tl =>
      refine Ev.congr (fun k => (if_neg (by simp; omega)).trans (if_pos (by simp))) ?_
      exact dcom_l0 (x :: tl) hl ha tl.length 1 x (by simp; omega) (ha x (List.mem_cons_self ..))
  · simp only [if_neg hv]; exact Ev.now _
theorem light_ev (l : List S25) (hl : l.length ≤ 4611686018427387904) : ∀ d i, i + d = l.length → ∃ b, Ev (fun k => ironbarklaw02_light.l0 k l (i : Int)) b := by
  intro d
  induction d with
  | zero =>
    intro i hi
    refine ⟨true, Ev.step (f := fun _ => some true) (fun k => ?_) (Ev.now _)⟩
    simp only [ironbarklaw02_light.l0]
    rw [if_neg (by omega)]
  | succ d ih =>
    intro i hi
    have hlt : i < l.length := by omega
    by_cases h : ((rd_T25 l (i : Int)).f5.size : Int) > 300
    · refine ⟨false, Ev.step (f := fun _ => some false) (fun k => ?_) (Ev.now _)⟩
      simp only [ironbarklaw02_light.l0]
      rw [if_pos (by omega), if_pos (by omega), if_pos h]
    · obtain ⟨b, hb⟩ := ih (i + 1) (by omega)
      refine ⟨b, Ev.step (f := fun k => ironbarklaw02_light.l0 k l ((i + 1 : Nat) : Int)) (fun k => ?_) hb⟩
      simp only [ironbarklaw02_light.l0]
      rw [if_pos (by omega), if_pos (by omega), if_neg h, wrapN hlt (by omega)]
theorem same_l0 (l : List S25) (hl : l.length ≤ 4611686018427387904) : ∀ d i, i + d = l.length → Ev (fun k => ironbarkstay_SameTypes.l0 k l l (i : Int)) true := by
  intro d
  induction d with
  | zero =>
    intro i hi
    refine Ev.step (f := fun _ => some true) (fun k => ?_) (Ev.now _)
    simp only [ironbarkstay_SameTypes.l0]
    rw [if_neg (by omega)]
  | succ d ih =>
    intro i hi
    have hlt : i < l.length := by omega
    refine Ev.step (f := fun k => ironbarkstay_SameTypes.l0 k l l ((i + 1 : Nat) : Int)) (fun k => ?_) (ih (i + 1) (by omega))
    simp only [ironbarkstay_SameTypes.l0]
    rw [if_pos (by omega), if_pos (by omega), if_pos (by omega), if_neg (by simp), wrapN hlt (by omega)]
theorem j2_awake (l : List S25) (u : S25) : Ev (fun k => ironbarklaw02_ruleCommon.j2 k l true u.f0 u.f1 u.f2 u.f3 u.f4 u.f5) true := by
  refine Ev.step (f := fun k => (ironbarklaw02_awake.f k).bind fun t => some t) (fun k => ?_) (Ev.bind awake_ev (Ev.now _))
  simp only [ironbarklaw02_ruleCommon.j2]
  rw [if_pos trivial]
theorem cO_two (a b : S25) (h : (cO [a, b]).2 = 0) : okT a ∧ okT b ∧ (cO [a, b]).1 = comS a b ∧ cO [b, a] = (comS a b, 0) := by
  have hv : validO [a, b] = 0 := by
    unfold cO at h
    by_cases hv : validO [a, b] = 0
    · exact hv
    · rw [if_neg hv] at h; exact absurd h hv
  have ha := validO_all _ hv
  have h1 := ha a (by simp)
  have h2 := ha b (by simp)
  refine ⟨h1, h2, by unfold cO; rw [if_pos hv]; rfl, ?_⟩
  have hv2 : validO [b, a] = 0 := all_validO _ fun t ht => by
    simp only [List.mem_cons, List.not_mem_nil, or_false] at ht
    rcases ht with rfl | rfl
    · exact h2
    · exact h1
  unfold cO
  rw [if_pos hv2]
  show (comS b a, (0 : Int)) = _
  rw [comS_comm a b h1 h2]
theorem j2_turn (a b : S25) (h : (cO [a, b]).2 = 0) : Ev (fun k => ironbarklaw02_ruleCommon.j2 k [a, b] false (cO [a, b]).1.f0 (cO [a, b]).1.f1 (cO [a, b]).1.f2 (cO [a, b]).1.f3 (cO [a, b]).1.f4 (cO [a, b]).1.f5) true := by
  obtain ⟨h1, h2, h3, h4⟩ := cO_two a b h
  rw [h3]
  have hr := rcom_ev [b, a] (by simp)
  rw [h4] at hr
  refine Ev.step (f := fun k => (rule_Common.f k [b, a]).bind fun bt126 => (if bt126.2.2.2.2.2.2 = 0 then (if (bt126.1 == (comS a b).f0 && (bt126.2.1 == (comS a b).f1 && (bt126.2.2.1 == (comS a b).f2 && (bt126.2.2.2.1 == (comS a b).f3 && (bt126.2.2.2.2.1 == (comS a b).f4 && (bt126.2.2.2.2.2.1.toList == (comS a b).f5.toList)))))) = true then ((ironbarklaw02_awake.f k).bind fun t133 => (some t133)) else (some false)) else (some false))) (fun k => ?_) ?_
  · simp only [ironbarklaw02_ruleCommon.j2]
    rw [if_neg (by decide), if_pos (by simp), if_pos (by simp)]
    rfl
  · refine Ev.bind hr ?_
    refine Ev.congr (fun k => (if_pos rfl).trans (if_pos (by simp [r7]))) ?_
    exact Ev.bind awake_ev (Ev.now _)
theorem j1_true' (l : List S25) (he : (cO l).2 = 0 → okT (cO l).1) : Ev (fun k => ironbarklaw02_ruleCommon.j1 k l (cO l).2 false (cO l).1.f0 (cO l).1.f1 (cO l).1.f2 (cO l).1.f3 (cO l).1.f4 (cO l).1.f5) true := by
  by_cases h2 : (l.length : Int) = 2
  · by_cases h0 : (cO l).2 = 0
    · refine Ev.step (f := fun k => ironbarklaw02_ruleCommon.j2 k l false (cO l).1.f0 (cO l).1.f1 (cO l).1.f2 (cO l).1.f3 (cO l).1.f4 (cO l).1.f5) (fun k => ?_) ?_
      · simp only [ironbarklaw02_ruleCommon.j1]
        rw [if_neg (by decide), if_pos h2, h0]; rfl
      · match l, h2, h0 with
        | [a, b], _, h0 => exact j2_turn a b h0
        | [], h2, _ => simp at h2
        | [_], h2, _ => simp at h2
        | _ :: _ :: _ :: _, h2, _ => simp at h2; omega
    · refine Ev.step (f := fun k => ironbarklaw02_ruleCommon.j2 k l true (cO l).1.f0 (cO l).1.f1 (cO l).1.f2 (cO l).1.f3 (cO l).1.f4 (cO l).1.f5) (fun k => ?_) (j2_awake _ _)
      simp only [ironbarklaw02_ruleCommon.j1]
      rw [if_neg (by decide), if_pos h2, bne_iff_ne.2 h0]
  · refine Ev.step (f := fun k => ironbarklaw02_ruleCommon.j2 k l true (cO l).1.f0 (cO l).1.f1 (cO l).1.f2 (cO l).1.f3 (cO l).1.f4 (cO l).1.f5) (fun k => ?_) (j2_awake _ _)
    simp only [ironbarklaw02_ruleCommon.j1]
    rw [if_neg (by decide), if_neg h2]
theorem j0_awake (l : List S25) : Ev (fun k => ironbarklaw02_ruleCommon.j0 k l true) true := by
  refine Ev.step (f := fun k => (ironbarklaw02_awake.f k).bind fun t => some t) (fun k => ?_) (Ev.bind awake_ev (Ev.now _))
  simp only [ironbarklaw02_ruleCommon.j0]
  rw [if_pos trivial]
theorem j0_law (l : List S25) (hl : l.length ≤ 30) : Ev (fun k => ironbarklaw02_ruleCommon.j0 k l false) true := by
  have h1 := rcom_ev l (by omega)
  have h2 := dcom_ev l (by omega)
  have hj := j1_true' l (cO_ok l)
  have hv := cO_ok l
  refine Ev.step (f := fun k => ((rule_Common.f k l).bind fun bt103 => ((ironbarkref02_Common.f k l).bind fun bt111 => (if (!(bt103.1 == bt111.1) || (!(bt103.2.1 == bt111.2.1) || (!(bt103.2.2.1 == bt111.2.2.1) || (!(bt103.2.2.2.1 == bt111.2.2.2.1) || (!(bt103.2.2.2.2.1 == bt111.2.2.2.2.1) || (!(bt103.2.2.2.2.2.1.toList == bt111.2.2.2.2.2.1.toList))))))) = true then (ironbarklaw02_ruleCommon.j1 k l bt103.2.2.2.2.2.2 true bt111.1 bt111.2.1 bt111.2.2.1 bt111.2.2.2.1 bt111.2.2.2.2.1 bt111.2.2.2.2.2.1) else (if bt103.2.2.2.2.2.2 = bt111.2.2.2.2.2.2 then (if bt103.2.2.2.2.2.2 = 0 then ((ironbarkref01_Valid.f k bt103.1 bt103.2.1 bt103.2.2.1 bt103.2.2.2.1 bt103.2.2.2.2.1 bt103.2.2.2.2.2.1).bind fun t119 => (ironbarklaw02_ruleCommon.j1 k l bt103.2.2.2.2.2.2 (!t119) bt111.1 bt111.2.1 bt111.2.2.1 bt111.2.2.2.1 bt111.2.2.2.2.1 bt111.2.2.2.2.2.1)) else (ironbarklaw02_ruleCommon.j1 k l bt103.2.2.2.2.2.2 false bt111.1 bt111.2.1 bt111.2.2.1 bt111.2.2.2.1 bt111.2.2.2.2.1 bt111.2.2.2.2.2.1)) else (ironbarklaw02_ruleCommon.j1 k l bt103.2.2.2.2.2.2 true bt111.1 bt111.2.1 bt111.2.2.1 bt111.2.2.2.1 bt111.2.2.2.2.1 bt111.2.2.2.2.2.1)))))) (fun k => ?_) ?_
  · simp only [ironbarklaw02_ruleCommon.j0]
    rw [if_neg (by decide)]
  · generalize cO l = z at *
    obtain ⟨u, e⟩ := z
    simp only at h1 h2 hj hv
    refine Ev.bind h1 (Ev.bind h2 ?_)
    refine Ev.congr (fun k => (if_neg (by simp [r7])).trans (if_pos rfl)) ?_
    simp only [r7]
    refine ev_ite (fun he => ?_) fun he => hj
    have a := rValid_ev u; rw [(tyB_ok u (hv he)).1] at a
    exact Ev.bind a hj
theorem ruleCommon_ev (l : List S25) : Ev (fun k => ironbarklaw02_ruleCommon.f k l) true := by
  unfold ironbarklaw02_ruleCommon.f
  by_cases h : (l.length : Int) > 30
  · simp only [if_pos h]; exact j0_awake l
  · simp only [if_neg h]
    obtain ⟨b, hb⟩ := light_ev l (by omega) l.length 0 (by omega)
    refine Ev.bind (g := fun k => ironbarklaw02_light.f k l) (a := b) hb ?_
    cases b with
    | true => exact j0_law l (by omega)
    | false => exact j0_awake l
theorem common_law (l : List S25) (hl : l.length < 2513169434916) : Ev (fun k => ironbarklaw02_RuleCommon.f k l) true := by
  unfold ironbarklaw02_RuleCommon.f
  rw [show ironbarkstay_Types.f l = some l by unfold ironbarkstay_Types.f; rw [Option.bind_some, if_pos (by simpa using hl)]; rfl]
  simp only [Option.bind_some]
  refine Ev.bind (ruleCommon_ev l) ?_
  refine Ev.congr (fun k => if_pos rfl) ?_
  refine Ev.bind (a := true) ?_ (Ev.now _)
  unfold ironbarkstay_SameTypes.f
  refine Ev.congr (fun k => if_pos rfl) ?_
  exact same_l0 l (by omega) l.length 0 (by omega)
theorem RuleCommon_walk (A : Option Addr) (c : Nat) (l : List S25) (w : World) (hr : Kd.C k25 w A l.length l) (hc : l.length ≤ c) (hs : l.length * 56 ≤ 140737488351232) (_ : ∀ y ∈ l, Wf25 y) :
    Calls Try.prog 5 #[.slice A l.length c] w fun e w' => e = .returned (.bool true) ∧ Below w.heap.size w w' := by
  obtain ⟨k, hk⟩ := (common_law l (by omega)).rounds
  exact ironbarklaw02_RuleCommon.calls k A c l true w hr hc hk ⟨rfl⟩
end Go.Proofs.Ytemlbikangbomaa.P
