/- Part 4 of the proof of the law BitsMakes: functions, contracts and plain laws; merged by this session's program. -/
import Derived.WalkSpells
import Derived.WalkLawsBesides
import Derived.Lib.Hide
import Derived.Test.YtnelblndidciiaaMBitsMakes1
import Derived.Test.YtnelblndidciiaaMBitsMakes2
import Derived.Test.YtnelblndidciiaaMBitsMakes3
-- from the text A64
namespace Go.Proofs.Ytnelblndidciiaa.P
open Go.RowKit Go.Proofs.YtnelblndidciiaaW.PrintWords Go.Proofs.YtnelblndidciiaaW.PrintLast Go.Proofs.YtnelblndidciiaaW.PrintMore
attribute [local go_sem] max2_int min2_int max_two min_two max_three min_three max_four min_four   -- for this text's walks alone
set_option linter.unusedVariables false
set_option linter.unusedSimpArgs false
def bits_part.f (a0 : Int) (a1 : Int) (a2 : Int) : Option (Int × Int × Bool) := if a1 ≥ 1 then (if a2 ≥ 0 then (some (mn (wrap64 ((mx a1 1) - 1)) a0, mx (mn (wrap64 ((wrap64 (a1 + a2)) - 1)) a0) (mn (wrap64 ((mx a1 1) - 1)) a0), decide ((wrap64 ((wrap64 (a1 + a2)) - 1)) ≤ a0))) else (some (mn (wrap64 ((mx a1 1) - 1)) a0, mx (mn (wrap64 ((wrap64 (a1 + a2)) - 1)) a0) (mn (wrap64 ((mx a1 1) - 1)) a0), false))) else (some (mn (wrap64 ((mx a1 1) - 1)) a0, mx (mn (wrap64 ((wrap64 (a1 + a2)) - 1)) a0) (mn (wrap64 ((mx a1 1) - 1)) a0), false))
set_option maxHeartbeats 8000000 in
set_option maxRecDepth 100000 in
theorem bits_part.calls (a0 : Int) (a1 : Int) (a2 : Int) (r1 : Int) (r2 : Int) (r3 : Bool) (w : World) (h : bits_part.f a0 a1 a2 = some (r1, r2, r3)) :
    Calls Try.prog 64 #[.int .i64 a0, .int .i64 a1, .int .i64 a2] w fun e w' => e = .returned (.tuple #[.int .i64 r1, .int .i64 r2, .bool r3]) ∧ Below w.heap.size w w' := by
  have HB := Aside0.mk (Below.refl w.heap.size w)
  have H : (if a1 ≥ 1 then (if a2 ≥ 0 then (some (mn (wrap64 ((mx a1 1) - 1)) a0, mx (mn (wrap64 ((wrap64 (a1 + a2)) - 1)) a0) (mn (wrap64 ((mx a1 1) - 1)) a0), decide ((wrap64 ((wrap64 (a1 + a2)) - 1)) ≤ a0))) else (some (mn (wrap64 ((mx a1 1) - 1)) a0, mx (mn (wrap64 ((wrap64 (a1 + a2)) - 1)) a0) (mn (wrap64 ((mx a1 1) - 1)) a0), false))) else (some (mn (wrap64 ((mx a1 1) - 1)) a0, mx (mn (wrap64 ((wrap64 (a1 + a2)) - 1)) a0) (mn (wrap64 ((mx a1 1) - 1)) a0), false))) = some (r1, r2, r3) := h
  clear h
  obtain ⟨ji4, hji4⟩ : ∃ j_ : Int, (mx a1 1) = j_ := ⟨_, rfl⟩
  replace H : (if a1 ≥ 1 then (if a2 ≥ 0 then (some (mn (wrap64 ((ji4) - 1)) a0, mx (mn (wrap64 ((wrap64 (a1 + a2)) - 1)) a0) (mn (wrap64 ((ji4) - 1)) a0), decide ((wrap64 ((wrap64 (a1 + a2)) - 1)) ≤ a0))) else (some (mn (wrap64 ((ji4) - 1)) a0, mx (mn (wrap64 ((wrap64 (a1 + a2)) - 1)) a0) (mn (wrap64 ((ji4) - 1)) a0), false))) else (some (mn (wrap64 ((ji4) - 1)) a0, mx (mn (wrap64 ((wrap64 (a1 + a2)) - 1)) a0) (mn (wrap64 ((ji4) - 1)) a0), false))) = some (r1, r2, r3) := by first | (rw [hji4] at H; exact H) | (simp only [hji4] at H ⊢; exact H)
  (try (have hji4l : 1 ≤ ji4 := by (rw [← hji4]; unfold mx; (repeat' split) <;> omega)))
  (try (have hji4m : 0 ≤ ji4 := by omega))
  have hji4_ : (if a1 < 1 then 1 else a1) = ji4 := hji4
  obtain ⟨ji5, hji5⟩ : ∃ j_ : Int, (mn (wrap64 ((ji4) - 1)) a0) = j_ := ⟨_, rfl⟩
  replace H : (if a1 ≥ 1 then (if a2 ≥ 0 then (some (ji5, mx (mn (wrap64 ((wrap64 (a1 + a2)) - 1)) a0) (ji5), decide ((wrap64 ((wrap64 (a1 + a2)) - 1)) ≤ a0))) else (some (ji5, mx (mn (wrap64 ((wrap64 (a1 + a2)) - 1)) a0) (ji5), false))) else (some (ji5, mx (mn (wrap64 ((wrap64 (a1 + a2)) - 1)) a0) (ji5), false))) = some (r1, r2, r3) := by first | (rw [hji5] at H; exact H) | (simp only [hji5] at H ⊢; exact H)
  have hji5_ : (if a0 < (wrap64 ((ji4) - 1)) then a0 else (wrap64 ((ji4) - 1))) = ji5 := hji5
  obtain ⟨ji6, hji6⟩ : ∃ j_ : Int, (mn (wrap64 ((wrap64 (a1 + a2)) - 1)) a0) = j_ := ⟨_, rfl⟩
  replace H : (if a1 ≥ 1 then (if a2 ≥ 0 then (some (ji5, mx (ji6) (ji5), decide ((wrap64 ((wrap64 (a1 + a2)) - 1)) ≤ a0))) else (some (ji5, mx (ji6) (ji5), false))) else (some (ji5, mx (ji6) (ji5), false))) = some (r1, r2, r3) := by first | (rw [hji6] at H; exact H) | (simp only [hji6] at H ⊢; exact H)
  have hji6_ : (if a0 < (wrap64 ((wrap64 (a1 + a2)) - 1)) then a0 else (wrap64 ((wrap64 (a1 + a2)) - 1))) = ji6 := hji6
  obtain ⟨ji7, hji7⟩ : ∃ j_ : Int, (mx (ji6) (ji5)) = j_ := ⟨_, rfl⟩
  replace H : (if a1 ≥ 1 then (if a2 ≥ 0 then (some (ji5, ji7, decide ((wrap64 ((wrap64 (a1 + a2)) - 1)) ≤ a0))) else (some (ji5, ji7, false))) else (some (ji5, ji7, false))) = some (r1, r2, r3) := by first | (rw [hji7] at H; exact H) | (simp only [hji7] at H ⊢; exact H)
  have hji7_ : (if (ji6) < (ji5) then (ji5) else (ji6)) = ji7 := hji7
  by_cases c8 : a1 ≥ 1
  · rw [if_pos c8] at H
    have c8b0 : decide (1 ≤ a1) = true := decide_eq_true c8
    clear c8
    by_cases c9 : a2 ≥ 0
    · rw [if_pos c9] at H
      have c9b0 : decide (0 ≤ a2) = true := decide_eq_true c9
      clear c9
      simp only [Option.some.injEq, Prod.mk.injEq] at H
      obtain ⟨rfl, rfl, rfl⟩ := H
      go_enter Try.func64, Try.ntmps64
      go_wp2
      go_ret3
      exact ⟨by first | rfl | (simp [errW_none, errW_some] <;> rfl) | (simp only [← hji4, ← hji5, ← hji6, ← hji7]; first | rfl | (simp [errW_none, errW_some] <;> rfl)) | (simp [*, errW_none, errW_some] <;> rfl), by repeat (first | (with_reducible first | exact HB.out | apply below_alloc | apply pw_below_drewN | apply below_drew1) | exact HB.out)⟩
    · rw [if_neg c9] at H
      have c9b0 : decide (0 ≤ a2) = false := decide_eq_false c9
      clear c9
      simp only [Option.some.injEq, Prod.mk.injEq] at H
      obtain ⟨rfl, rfl, rfl⟩ := H
      go_enter Try.func64, Try.ntmps64
      go_wp2
      go_ret3
      exact ⟨by first | rfl | (simp [errW_none, errW_some] <;> rfl) | (simp only [← hji4, ← hji5, ← hji6, ← hji7]; first | rfl | (simp [errW_none, errW_some] <;> rfl)) | (simp [*, errW_none, errW_some] <;> rfl), by repeat (first | (with_reducible first | exact HB.out | apply below_alloc | apply pw_below_drewN | apply below_drew1) | exact HB.out)⟩
  · rw [if_neg c8] at H
    have c8b0 : decide (1 ≤ a1) = false := decide_eq_false c8
    clear c8
    simp only [Option.some.injEq, Prod.mk.injEq] at H
    obtain ⟨rfl, rfl, rfl⟩ := H
    go_enter Try.func64, Try.ntmps64
    go_wp2
    go_ret3
    exact ⟨by first | rfl | (simp [errW_none, errW_some] <;> rfl) | (simp only [← hji4, ← hji5, ← hji6, ← hji7]; first | rfl | (simp [errW_none, errW_some] <;> rfl)) | (simp [*, errW_none, errW_some] <;> rfl), by repeat (first | (with_reducible first | exact HB.out | apply below_alloc | apply pw_below_drewN | apply below_drew1) | exact HB.out)⟩
end Go.Proofs.Ytnelblndidciiaa.P

-- from the text A65
namespace Go.Proofs.Ytnelblndidciiaa.P
open Go.RowKit Go.Proofs.YtnelblndidciiaaW.PrintWords Go.Proofs.YtnelblndidciiaaW.PrintLast Go.Proofs.YtnelblndidciiaaW.PrintMore
attribute [local go_sem] max2_int min2_int max_two min_two max_three min_three max_four min_four   -- for this text's walks alone
set_option linter.unusedVariables false
set_option linter.unusedSimpArgs false
def bits_with.f (a0_0 : Int) (a0_1 : Int) (a0_2 : Int) (a0_3 : ByteArray) (a1 : ByteArray) : Option (Int × Int × Int × ByteArray) := some (a0_0, 0, 0, a1)
set_option maxHeartbeats 8000000 in
set_option maxRecDepth 100000 in
theorem bits_with.calls (a0_0 : Int) (a0_1 : Int) (a0_2 : Int) (a0_3 : ByteArray) (a1 : ByteArray) (r1 : Int) (r2 : Int) (r3 : Int) (r4 : ByteArray) (w : World) (h : bits_with.f a0_0 a0_1 a0_2 a0_3 a1 = some (r1, r2, r3, r4)) :
    Calls Try.prog 65 #[.agg #[.int .i64 a0_0, .int .i64 a0_1, .int .i64 a0_2, .string a0_3], .string a1] w fun e w' => e = .returned (.agg #[.int .i64 r1, .int .i64 r2, .int .i64 r3, .string r4]) ∧ Below w.heap.size w w' := by
  have hu23 := Try.underlying23
  have HB := Aside0.mk (Below.refl w.heap.size w)
  have H : (some (a0_0, 0, 0, a1)) = some (r1, r2, r3, r4) := h
  clear h
  simp only [Option.some.injEq, Prod.mk.injEq] at H
  obtain ⟨rfl, rfl, rfl, rfl⟩ := H
  go_enter Try.func65, Try.ntmps65
  go_wp2_with (first | ((with_reducible refine gate_dst (N := 2) rfl ?_); refine box_event ?hg (N := 2) ?hd (cs := #[.int .i64 a0_0, .int .i64 a0_1, .int .i64 a0_2, .string a0_3]) (t := 23) ?hr ?_; (case hd => rfl); (case hg => rfl); (case hr => first | (go_simp; done) | (go_simp; rfl)); intro gb101 hg w3 hbox hb; have n0_ := Aside0.mk (below_step (by repeat (first | (with_reducible first | exact HB.out | apply below_alloc | apply pw_below_drewN | apply below_drew1) | exact HB.out)) hb); have n1_ := Aside0.mk (hbox); have n2_ := Aside0.mk ((by rw [hg]; exact (below_size (by repeat (first | (with_reducible first | exact HB.out | apply below_alloc | apply pw_below_drewN | apply below_drew1) | exact HB.out))) : w.heap.size ≤ gb101)); have n3_ := n2_; clear HB; have HB := n0_; have BK101 := n1_; have GW101 := n2_; have GE101 := n3_; clear n0_ n1_ n2_ n3_; clear hb hbox hg) | ((with_reducible refine gate_dst (N := 4) rfl ?_); refine box_event ?hg (N := 4) ?hd (cs := #[.int .i64 0, .int .i64 0, .int .i64 0, .string (⟨#[]⟩ : ByteArray)]) (t := 23) ?hr ?_; (case hd => rfl); (case hg => rfl); (case hr => first | (go_simp; done) | (go_simp; rfl)); intro gb102 hg w4 hbox hb; have n0_ := Aside0.mk (blk_below (zk BK101.out) hb); have n1_ := Aside0.mk (below_step (by repeat (first | (with_reducible first | exact HB.out | apply below_alloc | apply pw_below_drewN | apply below_drew1 | refine below_set ?_ GE101.out) | exact HB.out)) hb); have n2_ := Aside0.mk (hbox); have n3_ := Aside0.mk ((by rw [hg]; exact (below_size (by repeat (first | (with_reducible first | exact HB.out | apply below_alloc | apply pw_below_drewN | apply below_drew1 | refine below_set ?_ GE101.out) | exact HB.out))) : w.heap.size ≤ gb102)); have n4_ := n3_; have n5_ := Aside0.mk ((by rw [hg]; exact Nat.ne_of_lt (blk_lt (zk BK101.out)) : gb101 ≠ gb102)); have n6_ := Aside0.mk ((by rw [hg]; exact Nat.ne_of_gt (blk_lt (zk BK101.out)) : gb102 ≠ gb101)); clear BK101; clear HB; have BK101 := n0_; have HB := n1_; have BK102 := n2_; have GW102 := n3_; have GE102 := n4_; have NB101_102 := n5_; have NB102_101 := n6_; clear n0_ n1_ n2_ n3_ n4_ n5_ n6_; clear hb hbox hg; have hnb5 := NB101_102.out; have hnc5 := NB102_101.out; obtain ⟨hcz6_0, hcz6_1, hcz6_2, hcz6_3⟩ := blk_quad BK101.out; obtain ⟨hfz6_0, hfz6_1, hfz6_2, hfz6_3⟩ := blk_quad_free BK101.out; obtain ⟨hcz7_0, hcz7_1, hcz7_2, hcz7_3⟩ := blk_quad BK102.out; obtain ⟨hfz7_0, hfz7_1, hfz7_2, hfz7_3⟩ := blk_quad_free BK102.out))
  refine bodyPost_ret (results_cell_row rfl _ _ gb102 23 #[.int .i64 a0_0, .int .i64 0, .int .i64 0, .string a1] (0, 0) _ rfl (by refine zk ?_; refine blk_put (cs := #[.int .i64 a0_0, .int .i64 0, .int .i64 0, .string (⟨#[]⟩ : ByteArray)]) ?_ 3 _ rfl; refine zk ?_; refine blk_put (cs := #[.int .i64 a0_0, .int .i64 0, .int .i64 0, .string (⟨#[]⟩ : ByteArray)]) ?_ 2 _ rfl; refine zk ?_; refine blk_put (cs := #[.int .i64 a0_0, .int .i64 0, .int .i64 0, .string (⟨#[]⟩ : ByteArray)]) ?_ 1 _ rfl; refine zk ?_; refine blk_put (cs := #[.int .i64 0, .int .i64 0, .int .i64 0, .string (⟨#[]⟩ : ByteArray)]) ?_ 0 _ rfl; refine zk ?_; exact BK102.out) Try.underlying23 rfl (by kernel_rfl)) rfl ?_
  exact ⟨by first | rfl | (simp [errW_none, errW_some] <;> rfl) | (simp [*, errW_none, errW_some] <;> rfl), by repeat (first | (with_reducible first | exact HB.out | apply below_alloc | apply pw_below_drewN | apply below_drew1 | refine below_set ?_ GE101.out | refine below_set ?_ GE102.out) | exact HB.out)⟩
end Go.Proofs.Ytnelblndidciiaa.P

-- from the text A66
namespace Go.Proofs.Ytnelblndidciiaa.P
open Go.RowKit Go.Proofs.YtnelblndidciiaaW.PrintWords Go.Proofs.YtnelblndidciiaaW.PrintLast Go.Proofs.YtnelblndidciiaaW.PrintMore
attribute [local go_sem] max2_int min2_int max_two min_two max_three min_three max_four min_four   -- for this text's walks alone
set_option linter.unusedVariables false
set_option linter.unusedSimpArgs false
def bits_cond.f (a0 : Bool) : Option (Int) := if a0 = true then (some 0) else (some 5)
set_option maxHeartbeats 8000000 in
set_option maxRecDepth 100000 in
theorem bits_cond.calls (a0 : Bool) (r : Int) (w : World) (h : bits_cond.f a0 = some r) :
    Calls Try.prog 66 #[.bool a0] w fun e w' => e = .returned (.int .i64 r) ∧ Drawn0 w w' := by
  have H : (if a0 = true then (some 0) else (some 5)) = some r := h
  clear h
  by_cases c2 : a0 = true
  · subst c2
    have H1 : (some 0) = some r := by rw [if_pos rfl] at H; exact H
    clear H
    have H := H1
    clear H1
    obtain rfl := Option.some.inj H
    go_enter Try.func66, Try.ntmps66
    go_wp2
    go_ret
    exact ⟨by first | rfl | (simp; done) | (simp [*]; done), by repeat (first | exact Drawn0.refl _ | apply Drawn0.step)⟩
  · replace c2 := Bool.eq_false_iff.mpr c2
    subst c2
    have H1 : (some 5) = some r := by rw [if_neg (show ¬ (false = true) by decide)] at H; exact H
    clear H
    have H := H1
    clear H1
    obtain rfl := Option.some.inj H
    go_enter Try.func66, Try.ntmps66
    go_wp2
    go_ret
    exact ⟨by first | rfl | (simp; done) | (simp [*]; done), by repeat (first | exact Drawn0.refl _ | apply Drawn0.step)⟩
end Go.Proofs.Ytnelblndidciiaa.P

-- from the text Ha
namespace Go.Proofs.Ytnelblndidciiaa.P
open Go.RowKit Go.Proofs.YtnelblndidciiaaW.PrintWords Go.Proofs.YtnelblndidciiaaW.PrintLast Go.Proofs.YtnelblndidciiaaW.PrintMore
set_option linter.unusedVariables false
set_option linter.unusedSimpArgs false
/-- A character is right for a kind. -/
def okc (n : Int) (c : Int) : Bool := if n = 4 then decide (32 ≤ c) && decide (c ≤ 126) else c == 48 || c == 49
/-- All characters are right. -/
def okS (n : Int) (s : ByteArray) : Bool := s.data.toList.all fun c => okc n (c.toNat : Int)
theorem okS_iff (n : Int) (s : ByteArray) : okS n s = true ↔ ∀ (k : Nat) (h : k < s.size), okc n ((s[k]'h).toNat : Int) = true := by
  unfold okS
  rw [List.all_eq_true]
  constructor
  · intro H k h
    exact H _ (by rw [show s[k] = s.data.toList[k]'(by simpa using h) from rfl]; exact List.getElem_mem _)
  · intro H c hc
    obtain ⟨k, h, rfl⟩ := List.getElem_of_mem hc
    exact H k (by simpa using h)
theorem okS_no (n : Int) (s : ByteArray) (k : Nat) (h : k < s.size) (hn : okc n ((s[k]'h).toNat : Int) = false) : okS n s = false := by
  cases e : okS n s with
  | false => rfl
  | true => rw [(okS_iff n s).1 e k h] at hn; cases hn
/-- bits.Valid. -/
def validB (n a b : Int) (s : ByteArray) : Bool := (n == 4 || n == 5) && (a == 0 && (b == 0 && (decide (s.size ≤ 250) && okS n s)))
def bits_Valid.f (a0_0 a0_1 a0_2 : Int) (a0_3 : ByteArray) : Option Bool := some (validB a0_0 a0_1 a0_2 a0_3)
/-- The filler of a kind. -/
def fillc (n : Int) : Int := if n = 4 then 32 else 48
/-- bits.at: none where the code would panic. -/
def bits_at.f (a0_0 a0_1 a0_2 : Int) (a0_3 : ByteArray) (a1 : Int) : Option Int :=
  if a1 < (a0_3.size : Int) then (if 0 ≤ a1 then some (bt a0_3 a1) else none) else if a0_0 = 4 ∨ a0_0 = 5 then some (fillc a0_0) else none
def ofV (n : Int) : Value := if n = 4 then .iface 106 (.agg #[]) else if n = 5 then .iface 68 (.agg #[]) else .nilIface
theorem of_any (n : Int) (w : World) : Calls Try.prog 84 #[.int .i64 n] w fun e w' => e = .returned (ofV n) ∧ w = w' := by
  by_cases h4 : n = 4
  · subst h4
    go_enter Try.func84, Try.ntmps84
    go_wp2
    go_ret
    exact ⟨rfl, rfl⟩
  · have hb4 : (n == 4) = false := beq_eq_false_iff_ne.2 h4
    by_cases h5 : n = 5
    · subst h5
      go_enter Try.func84, Try.ntmps84
      go_wp2
      go_ret
      exact ⟨rfl, rfl⟩
    · have hb5 : (n == 5) = false := beq_eq_false_iff_ne.2 h5
      have e : ofV n = .nilIface := by simp [ofV, h4, h5]
      rw [e]
      clear h4 h5 e
      go_enter Try.func84, Try.ntmps84
      go_wp2
      go_ret
      exact ⟨rfl, rfl⟩
theorem of_4 (w : World) : Calls Try.prog 84 #[.int .i64 4] w fun e w' => e = .returned (.iface 106 (.agg #[])) ∧ w = w' := of_any 4 w
theorem of_5 (w : World) : Calls Try.prog 84 #[.int .i64 5] w fun e w' => e = .returned (.iface 68 (.agg #[])) ∧ w = w' := of_any 5 w
theorem of_no (n : Int) (h4 : n ≠ 4) (h5 : n ≠ 5) (w : World) : Calls Try.prog 84 #[.int .i64 n] w fun e w' => e = .returned .nilIface ∧ w = w' := by
  have := of_any n w; simpa only [ofV, if_neg h4, if_neg h5] using this
theorem right4 (c : Int) (w : World) : Calls Try.prog 128 #[.agg #[], .int .u8 c] w fun e w' => e = .returned (.bool (okc 4 c)) ∧ Below w.heap.size w w' := by
  by_cases h : 32 ≤ c
  · have h1 : decide (32 ≤ c) = true := decide_eq_true h
    go_enter Try.func128, Try.ntmps128
    go_wp2
    go_ret
    exact ⟨by simp [okc, h], (Below.refl _ _).alloc (Nat.le_refl _) _⟩
  · have h1 : decide (32 ≤ c) = false := decide_eq_false h
    go_enter Try.func128, Try.ntmps128
    go_wp2
    go_ret
    exact ⟨by simp [okc, h1], (Below.refl _ _).alloc (Nat.le_refl _) _⟩
theorem right5 (c : Int) (w : World) : Calls Try.prog 71 #[.agg #[], .int .u8 c] w fun e w' => e = .returned (.bool (okc 5 c)) ∧ Below w.heap.size w w' := by
  by_cases h : c = 48
  · subst h
    go_enter Try.func71, Try.ntmps71
    go_wp2
    go_ret
    exact ⟨rfl, (Below.refl _ _).alloc (Nat.le_refl _) _⟩
  · have h1 : (c == 48) = false := beq_eq_false_iff_ne.2 h
    go_enter Try.func71, Try.ntmps71
    go_wp2
    go_ret
    exact ⟨by simp [okc, h1], (Below.refl _ _).alloc (Nat.le_refl _) _⟩
theorem filler4 (w : World) : Calls Try.prog 127 #[.agg #[]] w fun e w' => e = .returned (.int .u8 32) ∧ Below w.heap.size w w' := by
  go_enter Try.func127, Try.ntmps127
  go_wp2
  go_ret
  exact ⟨rfl, (Below.refl _ _).alloc (Nat.le_refl _) _⟩
theorem filler5 (w : World) : Calls Try.prog 125 #[.agg #[]] w fun e w' => e = .returned (.int .u8 48) ∧ Below w.heap.size w w' := by
  go_enter Try.func125, Try.ntmps125
  go_wp2
  go_ret
  exact ⟨rfl, (Below.refl _ _).alloc (Nat.le_refl _) _⟩
theorem ahead4 (w : World) : (nilAhead 230 106 (.agg #[]) "ironbark/bits.right").run Try.prog w = .ok (some false) w := by kernel_rfl
theorem method4 (w : World) : (method 230 106 (.agg #[]) "ironbark/bits.right").run Try.prog w = .ok (128, .agg #[]) w := by kernel_rfl
theorem ahead5 (w : World) : (nilAhead 230 68 (.agg #[]) "ironbark/bits.right").run Try.prog w = .ok (some false) w := by kernel_rfl
theorem method5 (w : World) : (method 230 68 (.agg #[]) "ironbark/bits.right").run Try.prog w = .ok (71, .agg #[]) w := by kernel_rfl
theorem fmethod4 (w : World) : (method 230 106 (.agg #[]) "ironbark/bits.filler").run Try.prog w = .ok (127, .agg #[]) w := by kernel_rfl
theorem fmethod5 (w : World) : (method 230 68 (.agg #[]) "ironbark/bits.filler").run Try.prog w = .ok (125, .agg #[]) w := by kernel_rfl
theorem valid_no (n a b : Int) (s : ByteArray) (h4 : n ≠ 4) (h5 : n ≠ 5) (w : World) :
    Calls Try.prog 62 #[.agg #[.int .i64 n, .int .i64 a, .int .i64 b, .string s]] w fun e w' => e = .returned (.bool false) ∧ Below w.heap.size w w' := by
  go_enter Try.func62, Try.ntmps62
  go_wp2_with (go_at_call 84; refine (of_no n h4 h5 _).mono ?_; rintro e w' ⟨rfl, rfl⟩)
  go_ret
  exact ⟨rfl, (Below.refl _ _).alloc (Nat.le_refl _) _⟩
theorem valid_4_a (a b : Int) (s : ByteArray) (h : a ≠ 0) (w : World) :
    Calls Try.prog 62 #[.agg #[.int .i64 4, .int .i64 a, .int .i64 b, .string s]] w fun e w' => e = .returned (.bool false) ∧ Below w.heap.size w w' := by
  have h1 : (a != 0) = true := bne_iff_ne.2 h
  go_enter Try.func62, Try.ntmps62
  go_wp2_with (go_at_call 84; refine (of_4 _).mono ?_; rintro e w' ⟨rfl, rfl⟩)
  go_ret
  exact ⟨rfl, (Below.refl _ _).alloc (Nat.le_refl _) _⟩
theorem valid_4_b (b : Int) (s : ByteArray) (h : b ≠ 0) (w : World) :
    Calls Try.prog 62 #[.agg #[.int .i64 4, .int .i64 0, .int .i64 b, .string s]] w fun e w' => e = .returned (.bool false) ∧ Below w.heap.size w w' := by
  have h1 : (b != 0) = true := bne_iff_ne.2 h
  go_enter Try.func62, Try.ntmps62
  go_wp2_with (go_at_call 84; refine (of_4 _).mono ?_; rintro e w' ⟨rfl, rfl⟩)
  go_ret
  exact ⟨rfl, (Below.refl _ _).alloc (Nat.le_refl _) _⟩
theorem valid_4_s (s : ByteArray) (h : 250 < s.size) (w : World) :
    Calls Try.prog 62 #[.agg #[.int .i64 4, .int .i64 0, .int .i64 0, .string s]] w fun e w' => e = .returned (.bool false) ∧ Below w.heap.size w w' := by
  have hd : decide (250 < (s.size : Int)) = true := decide_eq_true (by omega)
  go_enter Try.func62, Try.ntmps62
  go_wp2_with (go_at_call 84; refine (of_4 _).mono ?_; rintro e w' ⟨rfl, rfl⟩)
  go_ret
  exact ⟨rfl, (Below.refl _ _).alloc (Nat.le_refl _) _⟩
set_option maxHeartbeats 2000000 in
set_option maxRecDepth 100000 in
theorem valid_4 (s : ByteArray) (w : World) (hs : s.size ≤ 250) :
    Calls Try.prog 62 #[.agg #[.int .i64 4, .int .i64 0, .int .i64 0, .string s]] w fun e w' => e = .returned (.bool (okS 4 s)) ∧ Below w.heap.size w w' := by
  have hd : decide (250 < (s.size : Int)) = false := decide_eq_false (by omega)
  go_enter Try.func62, Try.ntmps62
  go_wp2_with (go_at_call 84; refine (of_4 _).mono ?_; rintro e w' ⟨rfl, rfl⟩)
  go_loopw [29] (fun v wr => ∃ k : Nat, k ≤ s.size ∧ v = .int .i64 k ∧ (∀ (j : Nat) (h : j < s.size), j < k → okc 4 ((s[j]'h).toNat : Int) = true) ∧ Below w.heap.size w wr ∧ wr.cell? ⟨w.heap.size, 3, none⟩ = some (.string s)) (fun v _ => s.size - (intOf v).toNat)
  case atStart => exact ⟨0, Nat.zero_le _, rfl, fun _ _ h => absurd h (Nat.not_lt_zero _), (Below.refl _ _).alloc (Nat.le_refl _) _, by simp [go_sem]⟩
  case round =>
    obtain ⟨k, hk, rfl, hall0, hb, hc⟩ := hrel
    have hall := Lib.hid hall0
    clear hall0
    by_cases hlt : k < s.size
    · cases hok : okc 4 ((s[k]'hlt).toNat : Int) with
      | true =>
        go_wp2
        have h1 := ahead4
        have h2 := method4
        go_region_with (go_at_call 128; refine (right4 _ _).mono ?_; rintro e w' ⟨rfl, hb1⟩)
        all_goals
          have hb2 : Below w.heap.size w w' := hb.drew.trans (hb1.mono (by have := hb.size; simpa using this))
          have hc2 : w'.cell? ⟨w.heap.size, 3, none⟩ = some (.string s) := pw_cell_below hb1 (by simpa [go_sem] using hc)
          go_wp2
          go_roundw
          case rel => exact ⟨k + 1, hlt, by go_num, fun j h hj => by rcases Nat.lt_succ_iff_lt_or_eq.1 hj with h' | rfl; exact hall.out j h h'; exact hok, hb2, hc2⟩
          case measure => simp [intOf]; omega
      | false =>
        have hno := Lib.hid (okS_no 4 s k hlt hok)
        go_wp2
        have h1 := ahead4
        have h2 := method4
        go_region_with (go_at_call 128; refine (right4 _ _).mono ?_; rintro e w' ⟨rfl, hb1⟩)
        all_goals
          have hb2 : Below w.heap.size w w' := hb.drew.trans (hb1.mono (by have := hb.size; simpa using this))
          go_wp2
          go_ret
          rw [hno.out]
          exact ⟨rfl, hb2⟩
    · have hT := Lib.hid ((okS_iff 4 s).2 fun j h => hall.out j h (by omega))
      go_wp2
      go_ret
      rw [hT.out]
      exact ⟨rfl, hb⟩
theorem valid_5_a (a b : Int) (s : ByteArray) (h : a ≠ 0) (w : World) :
    Calls Try.prog 62 #[.agg #[.int .i64 5, .int .i64 a, .int .i64 b, .string s]] w fun e w' => e = .returned (.bool false) ∧ Below w.heap.size w w' := by
  have h1 : (a != 0) = true := bne_iff_ne.2 h
  go_enter Try.func62, Try.ntmps62
  go_wp2_with (go_at_call 84; refine (of_5 _).mono ?_; rintro e w' ⟨rfl, rfl⟩)
  go_ret
  exact ⟨rfl, (Below.refl _ _).alloc (Nat.le_refl _) _⟩
theorem valid_5_b (b : Int) (s : ByteArray) (h : b ≠ 0) (w : World) :
    Calls Try.prog 62 #[.agg #[.int .i64 5, .int .i64 0, .int .i64 b, .string s]] w fun e w' => e = .returned (.bool false) ∧ Below w.heap.size w w' := by
  have h1 : (b != 0) = true := bne_iff_ne.2 h
  go_enter Try.func62, Try.ntmps62
  go_wp2_with (go_at_call 84; refine (of_5 _).mono ?_; rintro e w' ⟨rfl, rfl⟩)
  go_ret
  exact ⟨rfl, (Below.refl _ _).alloc (Nat.le_refl _) _⟩
theorem valid_5_s (s : ByteArray) (h : 250 < s.size) (w : World) :
    Calls Try.prog 62 #[.agg #[.int .i64 5, .int .i64 0, .int .i64 0, .string s]] w fun e w' => e = .returned (.bool false) ∧ Below w.heap.size w w' := by
  have hd : decide (250 < (s.size : Int)) = true := decide_eq_true (by omega)
  go_enter Try.func62, Try.ntmps62
  go_wp2_with (go_at_call 84; refine (of_5 _).mono ?_; rintro e w' ⟨rfl, rfl⟩)
  go_ret
  exact ⟨rfl, (Below.refl _ _).alloc (Nat.le_refl _) _⟩
set_option maxHeartbeats 2000000 in
set_option maxRecDepth 100000 in
theorem valid_5 (s : ByteArray) (w : World) (hs : s.size ≤ 250) :
    Calls Try.prog 62 #[.agg #[.int .i64 5, .int .i64 0, .int .i64 0, .string s]] w fun e w' => e = .returned (.bool (okS 5 s)) ∧ Below w.heap.size w w' := by
  have hd : decide (250 < (s.size : Int)) = false := decide_eq_false (by omega)
  go_enter Try.func62, Try.ntmps62
  go_wp2_with (go_at_call 84; refine (of_5 _).mono ?_; rintro e w' ⟨rfl, rfl⟩)
  go_loopw [29] (fun v wr => ∃ k : Nat, k ≤ s.size ∧ v = .int .i64 k ∧ (∀ (j : Nat) (h : j < s.size), j < k → okc 5 ((s[j]'h).toNat : Int) = true) ∧ Below w.heap.size w wr ∧ wr.cell? ⟨w.heap.size, 3, none⟩ = some (.string s)) (fun v _ => s.size - (intOf v).toNat)
  case atStart => exact ⟨0, Nat.zero_le _, rfl, fun _ _ h => absurd h (Nat.not_lt_zero _), (Below.refl _ _).alloc (Nat.le_refl _) _, by simp [go_sem]⟩
  case round =>
    obtain ⟨k, hk, rfl, hall0, hb, hc⟩ := hrel
    have hall := Lib.hid hall0
    clear hall0
    by_cases hlt : k < s.size
    · cases hok : okc 5 ((s[k]'hlt).toNat : Int) with
      | true =>
        go_wp2
        have h1 := ahead5
        have h2 := method5
        go_region_with (go_at_call 71; refine (right5 _ _).mono ?_; rintro e w' ⟨rfl, hb1⟩)
        all_goals
          have hb2 : Below w.heap.size w w' := hb.drew.trans (hb1.mono (by have := hb.size; simpa using this))
          have hc2 : w'.cell? ⟨w.heap.size, 3, none⟩ = some (.string s) := pw_cell_below hb1 (by simpa [go_sem] using hc)
          go_wp2
          go_roundw
          case rel => exact ⟨k + 1, hlt, by go_num, fun j h hj => by rcases Nat.lt_succ_iff_lt_or_eq.1 hj with h' | rfl; exact hall.out j h h'; exact hok, hb2, hc2⟩
          case measure => simp [intOf]; omega
      | false =>
        have hno := Lib.hid (okS_no 5 s k hlt hok)
        go_wp2
        have h1 := ahead5
        have h2 := method5
        go_region_with (go_at_call 71; refine (right5 _ _).mono ?_; rintro e w' ⟨rfl, hb1⟩)
        all_goals
          have hb2 : Below w.heap.size w w' := hb.drew.trans (hb1.mono (by have := hb.size; simpa using this))
          go_wp2
          go_ret
          rw [hno.out]
          exact ⟨rfl, hb2⟩
    · have hT := Lib.hid ((okS_iff 5 s).2 fun j h => hall.out j h (by omega))
      go_wp2
      go_ret
      rw [hT.out]
      exact ⟨rfl, hb⟩
theorem bits_Valid.calls (a0_0 a0_1 a0_2 : Int) (a0_3 : ByteArray) (r : Bool) (w : World) (h : bits_Valid.f a0_0 a0_1 a0_2 a0_3 = some r) :
    Calls Try.prog 62 #[.agg #[.int .i64 a0_0, .int .i64 a0_1, .int .i64 a0_2, .string a0_3]] w fun e w' => e = .returned (.bool r) ∧ Below w.heap.size w w' := by
  obtain rfl : validB a0_0 a0_1 a0_2 a0_3 = r := by simpa [bits_Valid.f] using h
  clear h
  by_cases h4 : a0_0 = 4
  · subst h4
    by_cases ha : a0_1 = 0
    · subst ha
      by_cases hb : a0_2 = 0
      · subst hb
        by_cases hs : a0_3.size ≤ 250
        · have e : validB 4 0 0 a0_3 = okS 4 a0_3 := by simp [validB, hs]
          rw [e]; exact valid_4 a0_3 w hs
        · have e : validB 4 0 0 a0_3 = false := by simp [validB, hs]
          rw [e]; exact valid_4_s a0_3 (by omega) w
      · have e : validB 4 0 a0_2 a0_3 = false := by simp [validB, hb]
        rw [e]; exact valid_4_b a0_2 a0_3 hb w
    · have e : validB 4 a0_1 a0_2 a0_3 = false := by simp [validB, ha]
      rw [e]; exact valid_4_a a0_1 a0_2 a0_3 ha w
  · by_cases h5 : a0_0 = 5
    · subst h5
      by_cases ha : a0_1 = 0
      · subst ha
        by_cases hb : a0_2 = 0
        · subst hb
          by_cases hs : a0_3.size ≤ 250
          · have e : validB 5 0 0 a0_3 = okS 5 a0_3 := by simp [validB, hs]
            rw [e]; exact valid_5 a0_3 w hs
          · have e : validB 5 0 0 a0_3 = false := by simp [validB, hs]
            rw [e]; exact valid_5_s a0_3 (by omega) w
        · have e : validB 5 0 a0_2 a0_3 = false := by simp [validB, hb]
          rw [e]; exact valid_5_b a0_2 a0_3 hb w
      · have e : validB 5 a0_1 a0_2 a0_3 = false := by simp [validB, ha]
        rw [e]; exact valid_5_a a0_1 a0_2 a0_3 ha w
    · have e : validB a0_0 a0_1 a0_2 a0_3 = false := by simp [validB, h4, h5]
      rw [e]; exact valid_no _ _ _ _ h4 h5 w
theorem at_in (n a b : Int) (s : ByteArray) (i : Int) (w : World) (h0 : 0 ≤ i) (h : i < (s.size : Int)) :
    Calls Try.prog 56 #[.agg #[.int .i64 n, .int .i64 a, .int .i64 b, .string s], .int .i64 i] w fun e w' => e = .returned (.int .u8 (bt s i)) ∧ Below w.heap.size w w' := by
  have hi : i.toNat < s.size := by omega
  have hbt := bt_at s i hi
  go_enter Try.func56, Try.ntmps56
  go_wp2
  go_ret
  exact ⟨rfl, (Below.refl _ _).alloc (Nat.le_refl _) _⟩
theorem at_4 (a b : Int) (s : ByteArray) (i : Int) (w : World) (h : ¬ i < (s.size : Int)) :
    Calls Try.prog 56 #[.agg #[.int .i64 4, .int .i64 a, .int .i64 b, .string s], .int .i64 i] w fun e w' => e = .returned (.int .u8 32) ∧ Below w.heap.size w w' := by
  have hm := fmethod4
  go_enter Try.func56, Try.ntmps56
  go_wp2_with (first | (go_at_call 84; refine (of_4 _).mono ?_; rintro e w' ⟨rfl, rfl⟩) | (go_at_call 127; refine (filler4 _).mono ?_; rintro e w' ⟨rfl, hb1⟩))
  go_ret
  exact ⟨rfl, ((Below.refl _ _).alloc (Nat.le_refl _) _).trans (hb1.mono (by simp))⟩
theorem at_5 (a b : Int) (s : ByteArray) (i : Int) (w : World) (h : ¬ i < (s.size : Int)) :
    Calls Try.prog 56 #[.agg #[.int .i64 5, .int .i64 a, .int .i64 b, .string s], .int .i64 i] w fun e w' => e = .returned (.int .u8 48) ∧ Below w.heap.size w w' := by
  have hm := fmethod5
  go_enter Try.func56, Try.ntmps56
  go_wp2_with (first | (go_at_call 84; refine (of_5 _).mono ?_; rintro e w' ⟨rfl, rfl⟩) | (go_at_call 125; refine (filler5 _).mono ?_; rintro e w' ⟨rfl, hb1⟩))
  go_ret
  exact ⟨rfl, ((Below.refl _ _).alloc (Nat.le_refl _) _).trans (hb1.mono (by simp))⟩
theorem bits_at.calls (a0_0 a0_1 a0_2 : Int) (a0_3 : ByteArray) (a1 : Int) (r : Int) (w : World) (h : bits_at.f a0_0 a0_1 a0_2 a0_3 a1 = some r) :
    Calls Try.prog 56 #[.agg #[.int .i64 a0_0, .int .i64 a0_1, .int .i64 a0_2, .string a0_3], .int .i64 a1] w fun e w' => e = .returned (.int .u8 r) ∧ Below w.heap.size w w' := by
  unfold bits_at.f at h
  split at h
  · rename_i h1
    split at h
    · rename_i h2
      obtain rfl : bt a0_3 a1 = r := by simpa using h
      exact at_in _ _ _ _ _ _ h2 h1
    · cases h
  · rename_i h1
    split at h
    · rename_i h2
      obtain rfl : fillc a0_0 = r := by simpa using h
      rcases h2 with rfl | rfl
      · exact at_4 _ _ _ _ _ h1
      · exact at_5 _ _ _ _ _ h1
    · cases h
end Go.Proofs.Ytnelblndidciiaa.P

-- from the text A8
namespace Go.Proofs.Ytnelblndidciiaa.P
open Go.RowKit Go.Proofs.YtnelblndidciiaaW.PrintWords Go.Proofs.YtnelblndidciiaaW.PrintLast Go.Proofs.YtnelblndidciiaaW.PrintMore
attribute [local go_sem] max2_int min2_int max_two min_two max_three min_three max_four min_four   -- for this text's walks alone
set_option linter.unusedVariables false
set_option linter.unusedSimpArgs false
def ironbarklaw05_light.l0 : Nat → List (S23) → Int → Option (Bool)
  | 0, _, _ => none
  | k + 1, x0, x3 => if x3 < (x0.length : Int) then (if 0 ≤ x3 then (if (((rd_T23 x0 x3).f3).size : Int) > 600 then (some false) else (ironbarklaw05_light.l0 k x0 (wrap64 (x3 + 1)))) else (none)) else (some true)
def ironbarklaw05_light.f (k : Nat) (l0 : List (S23)) : Option (Bool) := ironbarklaw05_light.l0 k l0 0
set_option maxHeartbeats 8000000 in
set_option maxRecDepth 100000 in
theorem ironbarklaw05_light.calls (k : Nat) (A0 : Option Addr) (c0 : Nat) (l0 : List (S23)) (r : Bool) (w : World) (hr0 : Kd.C k23 w A0 l0.length l0) (hc0 : l0.length ≤ c0) (h : ironbarklaw05_light.f k l0 = some r) :
    Calls Try.prog 8 #[.slice A0 l0.length c0] w fun e w' => e = .returned (.bool r) ∧ Drawn0 w w' := by
  have HR0 := Aside0.mk hr0
  have HC0 := Aside0.mk hc0
  clear hr0 hc0
  have H : (ironbarklaw05_light.l0 k l0 0) = some r := h
  clear h
  have H' := Aside0.mk H
  clear H
  go_enter Try.func8, Try.ntmps8
  go_wp2
  go_loopg [3] k (fun kq v3 w' => ∃ (x3_1 : Int), v3 = .int .i64 x3_1 ∧ Aside0 (ironbarklaw05_light.l0 kq l0 x3_1 = some r) ∧ Aside0 (kq ≤ k) ∧ Drawn0 w w')
  case atStart => exact ⟨(0), (by first | rfl | (simp; done) | (generalize ByteArray.toList _ = l_; cases l_ <;> rfl) | (simp [*]; done)), H', ⟨Nat.le_refl _⟩, by repeat (first | exact Drawn0.refl _ | apply Drawn0.step)⟩
  case round =>
    clear H'
    obtain ⟨x3_1, rfl, HA, HK1, ⟨m1, rfl⟩⟩ := hrel
    cases gk with
    | zero => exact absurd HA.out (by simp [ironbarklaw05_light.l0])
    | succ k1 =>
      have H := HA.out
      clear HA
      simp only [ironbarklaw05_light.l0] at H
      by_cases c2 : x3_1 < (l0.length : Int)
      · rw [if_pos c2] at H
        have c2b0 : decide (x3_1 < (l0.length : Int)) = true := decide_eq_true c2
        clear c2
        by_cases c3 : 0 ≤ x3_1
        · rw [if_pos c3] at H
          have c3b0 : decide (0 ≤ x3_1) = true := decide_eq_true c3
          clear c3
          by_cases c4 : (((rd_T23 l0 x3_1).f3).size : Int) > 600
          · rw [if_pos c4] at H
            have c4b0 : decide (600 < (((rd_T23 l0 x3_1).f3).size : Int)) = true := decide_eq_true c4
            have c4b1 : decide (600 < ((rd_T23 l0 x3_1).f3).size) = true := decide_eq_true (by omega)
            clear c4
            obtain rfl := Option.some.inj H
            have p101 : 0 ≤ (x3_1 : Int) := of_decide_eq_true (by first | (with_reducible assumption) | assumption)
            have q101 : x3_1 < (l0.length : Int) := of_decide_eq_true (by first | (with_reducible assumption) | assumption)
            obtain ⟨ad101, e101, hx101_0, hx101_1, hx101_2, hx101_3⟩ := at_T23 HR0.out x3_1 p101 q101
            cases e101
            replace p101 := eq_true p101
            replace q101 := eq_true q101
            go_wp2
            go_ret
            exact ⟨by first | rfl | (simp; done) | (simp [*]; done), by repeat (first | exact Drawn0.refl _ | apply Drawn0.step)⟩
          · rw [if_neg c4] at H
            have c4b0 : decide (600 < (((rd_T23 l0 x3_1).f3).size : Int)) = false := decide_eq_false c4
            have c4b1 : decide (600 < ((rd_T23 l0 x3_1).f3).size) = false := decide_eq_false (by omega)
            clear c4
            have H' := Aside0.mk H
            clear H
            have p101 : 0 ≤ (x3_1 : Int) := of_decide_eq_true (by first | (with_reducible assumption) | assumption)
            have q101 : x3_1 < (l0.length : Int) := of_decide_eq_true (by first | (with_reducible assumption) | assumption)
            obtain ⟨ad101, e101, hx101_0, hx101_1, hx101_2, hx101_3⟩ := at_T23 HR0.out x3_1 p101 q101
            cases e101
            replace p101 := eq_true p101
            replace q101 := eq_true q101
            go_wp2
            go_roundg k1
            case measure => have := HK1.out; omega
            case rel => exact ⟨(wrap64 (x3_1 + 1)), (by first | rfl | (simp; done) | (generalize ByteArray.toList _ = l_; cases l_ <;> rfl) | (simp [*]; done)), H', ⟨by have := HK1.out; omega⟩, by repeat (first | exact Drawn0.refl _ | apply Drawn0.step)⟩
        · rw [if_neg c3] at H
          exact absurd H (by simp)
      · rw [if_neg c2] at H
        have c2b0 : decide (x3_1 < (l0.length : Int)) = false := decide_eq_false c2
        clear c2
        obtain rfl := Option.some.inj H
        go_wp2
        go_ret
        exact ⟨by first | rfl | (simp; done) | (simp [*]; done), by repeat (first | exact Drawn0.refl _ | apply Drawn0.step)⟩
end Go.Proofs.Ytnelblndidciiaa.P
