/- Part 7 of the proof of the law CondActs: functions, contracts and plain laws; merged by this session's program. -/
import Derived.Deep.Slices
import Derived.Deep.Fields
import Derived.ProofKit
import Derived.ChangeSame
import Derived.SizedLaws
import Derived.Test.YtfahpihbbkkngaaMCondActs1
import Derived.Test.YtfahpihbbkkngaaMCondActs2
import Derived.Test.YtfahpihbbkkngaaMCondActs3
import Derived.Test.YtfahpihbbkkngaaMCondActs6
-- from the text Hr
namespace Go.Proofs.Ytfahpihbbkkngaa.P
open Go.RowKit Go.Proofs.YtfahpihbbkkngaaW.PrintWords Go.Proofs.YtfahpihbbkkngaaW.PrintLast Go.Proofs.YtfahpihbbkkngaaW.PrintMore
set_option linter.unusedVariables false
set_option linter.unusedSimpArgs false
abbrev nm0 : ByteArray := ⟨#[]⟩
def u1 : S24 := ⟨19, nm0, 1⟩
def u2 : S24 := ⟨19, nm0, 2⟩
def f1 : Fr := ⟨[u1], 0, nm0, 0⟩
def f2 : Fr := ⟨[u2], 0, nm0, 0⟩
def f3 : Fr := ⟨[], 19, nm0, 1⟩
theorem right_19 : rightB 19 nm0 = true := by kernel_rfl
theorem hit_1 : hit 19 nm0 u1 = true := by simp [hit, u1]
theorem hit_2 : hit 19 nm0 u2 = true := by simp [hit, u2]
theorem meet_1 : meetV (findL 19 nm0 [f1, f2] (fromL 19 nm0 (([f1, f2].length : Int) - 1) [f1, f2] + 1).toNat) = .tuple #[.agg #[.int .i64 19, .string nm0, .int .i64 2], .int .i64 1, .int .i64 0] := by
  have e1 : fromL 19 nm0 (([f1, f2].length : Int) - 1) [f1, f2] = 1 := by simp [fromL, runs, f1, f2]
  rw [e1]
  have e2 : idxU 19 nm0 f2.us 0 = some 0 := by simp [idxU, f2, hit_2]
  have e3 : findL 19 nm0 [f1, f2] 2 = some (1, u2) := by simp [findL, e2]; rfl
  show meetV (findL 19 nm0 [f1, f2] 2) = _
  rw [e3]
  rfl
theorem meet_2 : meetV (findL 19 nm0 [f1, f2, f3] (fromL 19 nm0 (([f1, f2, f3].length : Int) - 1) [f1, f2, f3] + 1).toNat) = .tuple #[.agg #[.int .i64 19, .string nm0, .int .i64 1], .int .i64 0, .int .i64 0] := by
  have e1 : fromL 19 nm0 (([f1, f2, f3].length : Int) - 1) [f1, f2, f3] = 0 := by simp [fromL, runs, f1, f2, f3]
  rw [e1]
  have e2 : idxU 19 nm0 f1.us 0 = some 0 := by simp [idxU, f1, hit_1]
  have e3 : findL 19 nm0 [f1, f2, f3] 1 = some (0, u1) := by simp [findL, e2]; rfl
  show meetV (findL 19 nm0 [f1, f2, f3] 1) = _
  rw [e3]
  rfl
theorem bl_ok (L : List Fr) (h : L = [f1, f2] ∨ L = [f1, f2, f3]) : (∀ f ∈ L, 0 ≤ f.bl ∧ f.bl ≤ 1000) ∧ ∀ f ∈ L, f.us.length ≤ 1000 := by
  rcases h with rfl | rfl <;> simp [f1, f2, f3]
theorem below_of {F : Nat → Prop} {w a b : World} (hF : ∀ k, F k → w.heap.size ≤ k) (h : Below w.heap.size w a) (ht : Turn F a b) : Below w.heap.size w b := h.trans (ht.below hF h.size)
set_option maxRecDepth 100000 in
set_option maxHeartbeats 8000000 in
theorem awake_is (w : World) : Calls Try.prog 10 #[] w fun e w' => e = .returned (.bool true) ∧ Below w.heap.size w w' := by
  have hF : ∀ k, (fun k => w.heap.size ≤ k) k → w.heap.size ≤ k := fun k h => h
  go_enter Try.func10, Try.ntmps10
  go_wp2_with fail
  refine (new_is _).mono ?_
  rintro e w1 ⟨s, rfl, hst, hb⟩
  have S1 := Aside0.mk (St.mono (G := fun k => w.heap.size ≤ k) hst (fun k hk => hk.elim (fun e => e.elim) (fun e => e.1)))
  have B1 := Aside0.mk hb
  clear hst hb
  go_wp2_with fail
  refine (on_is s u1 [] fr0 _ w1 right_19 (by decide) S1.out (by simp [fr0]) (by simp)).mono ?_
  rintro e w2 ⟨rfl, hst, ht⟩
  have S2 := Aside0.mk (show St w2 s [f1] (fun k => w.heap.size ≤ k) from hst.mono (fun k hk => hk.elim id (fun e => Nat.le_trans B1.out.size e.1)))
  have B2 := Aside0.mk (below_of hF B1.out ht)
  clear hst ht
  go_wp2_with fail
  refine (push_is s [f1] _ w2 S2.out (by simp)).mono ?_
  rintro e w3 ⟨rfl, hst, ht⟩
  have S3 := Aside0.mk (show St w3 s [f1, fr0] (fun k => w.heap.size ≤ k) from hst.mono (fun k hk => hk.elim id (fun e => Nat.le_trans B2.out.size e.1)))
  have B3 := Aside0.mk (below_of hF B2.out ht)
  clear hst ht
  go_wp2_with fail
  refine (on_is s u2 [f1] fr0 _ w3 right_19 (by decide) S3.out (by simp [fr0]) (by simp)).mono ?_
  rintro e w4 ⟨rfl, hst, ht⟩
  have S4 := Aside0.mk (show St w4 s [f1, f2] (fun k => w.heap.size ≤ k) from hst.mono (fun k hk => hk.elim id (fun e => Nat.le_trans B3.out.size e.1)))
  have B4 := Aside0.mk (below_of hF B3.out ht)
  clear hst ht
  go_wp2_with fail
  refine (meet_is s 19 nm0 [f1, f2] _ w4 right_19 S4.out (by simp) (bl_ok _ (.inl rfl)).1 (bl_ok _ (.inl rfl)).2).mono ?_
  rw [meet_1]
  rintro e w5 ⟨rfl, hb⟩
  have S5 := Aside0.mk (S4.out.below hb)
  have B5 := Aside0.mk (B4.out.trans (hb.mono B4.out.size))
  clear hb
  go_wp2_with fail
  have HX := Aside0.mk (blk_new w5 (.cells #[.int .i64 19, .string nm0, .int .i64 2] 24 (0, 0)))
  have hbx := (Below.refl w5.heap.size w5).alloc (Nat.le_refl _) (.cells #[.int .i64 19, .string nm0, .int .i64 2] 24 (0, 0))
  have S6 := Aside0.mk (S5.out.cut.below hbx)
  have B6 := Aside0.mk (B5.out.trans (hbx.mono B5.out.size))
  clear hbx
  refine (begin_is s 19 nm0 1 [f1, f2] _ _ right_19 S6.out (by simp) (by simp) (by simp [f2])).mono ?_
  rintro e w6 ⟨_, hok⟩
  obtain ⟨rfl, hst, ht⟩ := hok (by simp [idxU, f2, hit_2])
  have S7 := Aside0.mk (show St w6 s [f1, f2, f3] (fun k => w.heap.size ≤ k) from hst.mono (fun k hk => hk.elim (fun e => e.1) (fun e => Nat.le_trans B6.out.size e.1)))
  have B7 := Aside0.mk (below_of (fun k hk => hk.1) B6.out ht)
  have HX := Aside0.mk ((ht.block _ (blk_lt HX.out) (fun e => absurd e.2 (Nat.lt_irrefl _))).trans HX.out)
  clear hst ht hok
  go_wp2_with fail
  refine (meet_is s 19 nm0 [f1, f2, f3] _ w6 right_19 S7.out (by simp) (bl_ok _ (.inr rfl)).1 (bl_ok _ (.inr rfl)).2).mono ?_
  rw [meet_2]
  rintro e w7 ⟨rfl, hb⟩
  have B8 := Aside0.mk (B7.out.trans (hb.mono B7.out.size))
  have HX := Aside0.mk (blk_below HX.out hb)
  have hx0 := (blk_cell HX.out 0).trans rfl
  have hx1 := (blk_cell HX.out 1).trans rfl
  have hx2 := (blk_cell HX.out 2).trans rfl
  have hg0 := blk_frozen HX.out 0
  have hg1 := blk_frozen HX.out 1
  have hg2 := blk_frozen HX.out 2
  clear hb
  go_wp2_with fail
  refine (cond_Word.calls 4 ⟨#[83, 73, 90, 69]⟩ _ (by kernel_rfl)).mono ?_
  rintro e w8 ⟨rfl, hb⟩
  go_wp2_with fail
  go_ret
  refine ⟨rfl, ?_⟩
  have h5 : w.heap.size ≤ w5.heap.size := B5.out.size
  have hs := ((B8.out.setCell (p := ⟨w5.heap.size, 0, none⟩) h5 (.int .i64 19)).setCell (p := ⟨w5.heap.size, 1, none⟩) h5 (.string nm0)).setCell (p := ⟨w5.heap.size, 2, none⟩) h5 (.int .i64 1)
  exact hs.trans (hb.mono hs.size)
def ironbarklaw20_awake.f : Option Bool := some true
theorem ironbarklaw20_awake.calls (r : Bool) (w : World) (h : ironbarklaw20_awake.f = some r) : Calls Try.prog 10 #[] w fun e w' => e = .returned (.bool r) ∧ Below w.heap.size w w' := by
  obtain rfl := Option.some.inj h
  exact awake_is w
end Go.Proofs.Ytfahpihbbkkngaa.P

-- from the text B4
namespace Go.Proofs.Ytfahpihbbkkngaa.P
open Go.RowKit Go.Proofs.YtfahpihbbkkngaaW.PrintWords Go.Proofs.YtfahpihbbkkngaaW.PrintLast Go.Proofs.YtfahpihbbkkngaaW.PrintMore
attribute [local go_sem] max2_int min2_int max_two min_two max_three min_three max_four min_four   -- for this text's walks alone
set_option linter.unusedVariables false
set_option linter.unusedSimpArgs false
mutual
def ironbarklaw20_CondActs.l0 : Nat → Int → Bool → Bool → Int → Int → ByteArray → Int → Option (Bool)
 | 0, _, _, _, _, _, _, _ => none
 | k + 1, x0, x1, x3, x9, x102000, x102001, x102002 => if x9 ≤ 21 then (if x9 = 0 then (ironbarklaw20_CondActs.j1 k x0 x1 x3 x9 x0 x102000 x102001 x102002) else (ironbarklaw20_CondActs.j1 k x0 x1 x3 x9 x9 x102000 x102001 x102002)) else (some true)
def ironbarklaw20_CondActs.j1 : Nat → Int → Bool → Bool → Int → Int → Int → ByteArray → Int → Option (Bool)
 | 0, _, _, _, _, _, _, _, _ => none
 | k + 1, x0, x1, x3, x9, x10, x102000, x102001, x102002 => if (Int.tmod x9 2) = 1 then (ironbarklaw20_CondActs.j2 k x0 x1 x3 x9 x10 x102000 x102001 x102002 x10 x102001 x102002) else (ironbarklaw20_CondActs.j2 k x0 x1 x3 x9 x10 x102000 x102001 x102002 x102000 x102001 x102002)
def ironbarklaw20_CondActs.j2 : Nat → Int → Bool → Bool → Int → Int → Int → ByteArray → Int → Int → ByteArray → Int → Option (Bool)
 | 0, _, _, _, _, _, _, _, _, _, _, _ => none
 | k + 1, x0, x1, x3, x9, x10, x102000, x102001, x102002, x104000, x104001, x104002 => (cond_Action.f x10 x1 x104000 x104001 x104002 x3).bind fun bt104 => ((ironbarkref20_Action.f k x10 x1 x104000 x104001 x104002 x3).bind fun bt106 => (if bt104.1.toList = bt106.1.toList then (if bt104.2 = bt106.2 then (ironbarklaw20_CondActs.l0 k x0 x1 x3 (wrap64 (x9 + 1)) x102000 x102001 x102002) else (some false)) else (some false)))
end
def ironbarklaw20_CondActs.f (k : Nat) (a0 : Int) (a1 : Bool) (a2_0 : Int) (a2_1 : ByteArray) (a2_2 : Int) (a3 : Bool) : Option (Bool) := (ironbarklaw20_awake.f).bind fun t102 => (if t102 = true then (ironbarklaw20_CondActs.l0 k a0 a1 a3 0 a2_0 a2_1 a2_2) else (some false))
set_option maxHeartbeats 8000000 in
set_option maxRecDepth 100000 in
theorem ironbarklaw20_CondActs.calls (k : Nat) (a0 : Int) (a1 : Bool) (a2_0 : Int) (a2_1 : ByteArray) (a2_2 : Int) (a3 : Bool) (r : Bool) (w : World) (h : ironbarklaw20_CondActs.f k a0 a1 a2_0 a2_1 a2_2 a3 = some r) (hrt_ : Aside0 (r = true)) :
  Calls Try.prog 4 #[.int .i64 a0, .bool a1, .agg #[.int .i64 a2_0, .string a2_1, .int .i64 a2_2], .bool a3] w fun e w' => e = .returned (.bool r) ∧ Below w.heap.size w w' := by
 have hu24 := Try.underlying24
 have HB := Aside0.mk (Below.refl w.heap.size w)
 have H : ((ironbarklaw20_awake.f).bind fun t102 => (if t102 = true then (ironbarklaw20_CondActs.l0 k a0 a1 a3 0 a2_0 a2_1 a2_2) else (some false))) = some r := h
 clear h
 replace H := Option.bind_eq_some_iff.mp H
 obtain ⟨t102, A50, H⟩ := H
 replace H : (if t102 = true then (ironbarklaw20_CondActs.l0 k a0 a1 a3 0 a2_0 a2_1 a2_2) else (some false)) = some r := H
 have A5 := Aside0.mk A50
 clear A50
 by_cases c6 : t102 = true
 ·subst c6
  have H1 : (ironbarklaw20_CondActs.l0 k a0 a1 a3 0 a2_0 a2_1 a2_2) = some r := by rw [if_pos rfl] at H; exact H
  clear H
  have H := H1
  clear H1
  have H' := Aside0.mk H
  clear H
  go_enter Try.func4, Try.ntmps4
  go_wp2_with (first | ((with_reducible refine gate_dst (N := 6) rfl ?_); refine box_event ?hg (N := 6) ?hd (cs := #[.int .i64 a2_0, .string a2_1, .int .i64 a2_2]) (t := 24) ?hr ?_; (case hd => rfl); (case hg => rfl); (case hr => first | (go_simp; done) | (go_simp; rfl)); intro gb101 hg w7 hbox hb; have n0_ := Aside0.mk (below_step (by repeat (first | (with_reducible first | exact HB.out | apply below_alloc | apply pw_below_drewN | apply below_drew1) | exact HB.out)) hb); have n1_ := Aside0.mk (hbox); have n2_ := Aside0.mk ((by rw [hg]; exact (below_size (by repeat (first | (with_reducible first | exact HB.out | apply below_alloc | apply pw_below_drewN | apply below_drew1) | exact HB.out))) : w.heap.size ≤ gb101)); have n3_ := n2_; clear HB; have HB := n0_; have BK101 := n1_; have GW101 := n2_; have GE101 := n3_; clear n0_ n1_ n2_ n3_; clear hb hbox hg) | ((with_reducible refine gate_callee (f := 10) rfl ?_); refine goesL_ (some 16) rfl rfl Try.func10 (by kernel_rfl) rfl #[] rfl (by (try simp only [List.map_toArray, List.map_cons, List.map_nil]); first | done | rfl | (simp only [List.length_drop, List.length_take]; rfl)) ?_; (with_reducible refine (ironbarklaw20_awake.calls  true _ A5.out).mono ?_); rintro e w8 ⟨rfl, hb⟩; refine ⟨_, rfl, ?_⟩; have n0_ := Aside0.mk (blk_below (zk BK101.out) hb); have n1_ := Aside0.mk (below_step (by repeat (first | (with_reducible first | exact HB.out | apply below_alloc | apply pw_below_drewN | apply below_drew1 | refine below_set ?_ GE101.out) | exact HB.out)) hb); clear BK101; clear HB; have BK101 := n0_; have HB := n1_; clear n0_ n1_; (try clear hb); (try clear hb2); (try clear hk); (try clear hi)))
  go_loopg [9] k (fun kq v9 w' => ∃ (x9_1 : Int), v9 = .int .i64 x9_1 ∧ Aside0 (ironbarklaw20_CondActs.l0 kq a0 a1 a3 x9_1 a2_0 a2_1 a2_2 = some r) ∧ Aside0 (kq ≤ k) ∧ Aside0 (w'.heap[gb101]? = some (.cells #[.int .i64 a2_0, .string a2_1, .int .i64 a2_2] 24 (0, 0))) ∧ Aside0 (Below w.heap.size w w'))
  case atStart => exact ⟨(0), (by first | rfl | (simp; done) | (generalize ByteArray.toList _ = l_; cases l_ <;> rfl) | (simp [*]; done)), H', ⟨Nat.le_refl _⟩, ⟨zk BK101.out⟩, ⟨by repeat (first | (with_reducible first | exact HB.out | apply below_alloc | apply pw_below_drewN | apply below_drew1 | refine below_set ?_ GE101.out) | exact HB.out)⟩⟩
  case round =>
   clear H'
   try clear c1
   try clear p2
   try clear c4
   try clear c6
   obtain ⟨x9_1, rfl, HA, HK1, BK101, HB⟩ := hrel
   cases gk with
   | zero => exact absurd HA.out (by simp [ironbarklaw20_CondActs.l0])
   | succ k1 =>
    have H := HA.out
    clear HA
    simp only [ironbarklaw20_CondActs.l0] at H
    by_cases c9 : x9_1 ≤ 21
    ·rw [if_pos c9] at H
     have c9b0 : decide (x9_1 ≤ 21) = true := decide_eq_true c9
     clear c9
     have HC10 := Aside0.mk H
     clear H
     go_upto_if 24 with (fail)
     go_cut [10] (fun v10 wc => ∃ (kq : Nat) (x10_9 : Int), v10 = .int .i64 x10_9 ∧ Aside0 (ironbarklaw20_CondActs.j1 kq a0 a1 a3 x9_1 x10_9 a2_0 a2_1 a2_2 = some r) ∧ Aside0 (kq ≤ k1) ∧ Aside0 (wc.heap[gb101]? = some (.cells #[.int .i64 a2_0, .string a2_1, .int .i64 a2_2] 24 (0, 0))) ∧ Aside0 (Below w.heap.size w wc))
     case first =>
      have H := HC10.out
      clear HC10
      by_cases c11 : x9_1 = 0
      ·rw [if_pos c11] at H
       have c11b0 : (x9_1 == 0) = true := beq_iff_eq.mpr c11
       have c11b1 : (x9_1 != 0) = false := bne_eq_false_iff_eq.mpr c11
       clear c11
       (first | rw [c11b0] | (simp only [i64_w, i32_w]; rw [c11b0]) | skip)
       have H' := Aside0.mk H
       clear H
       go_wp2
       go_meet
       case rel => exact ⟨_, (a0), (by first | rfl | (simp; done) | (generalize ByteArray.toList _ = l_; cases l_ <;> rfl) | (simp [*]; done)), H', ⟨by have := HK1.out; first | omega | exact Nat.le_refl _⟩, ⟨zk BK101.out⟩, ⟨by repeat (first | (with_reducible first | exact HB.out | apply below_alloc | apply pw_below_drewN | apply below_drew1 | refine below_set ?_ GE101.out) | exact HB.out)⟩⟩
      ·rw [if_neg c11] at H
       have c11b0 : (x9_1 == 0) = false := beq_eq_false_iff_ne.mpr c11
       have c11b1 : (x9_1 != 0) = true := bne_iff_ne.mpr c11
       (first | rw [c11b0] | (simp only [i64_w, i32_w]; rw [c11b0]) | skip)
       have H' := Aside0.mk H
       clear H
       go_wp2
       go_meet
       case rel => exact ⟨_, (x9_1), (by first | rfl | (simp; done) | (generalize ByteArray.toList _ = l_; cases l_ <;> rfl) | (simp [*]; done)), H', ⟨by have := HK1.out; first | omega | exact Nat.le_refl _⟩, ⟨zk BK101.out⟩, ⟨by repeat (first | (with_reducible first | exact HB.out | apply below_alloc | apply pw_below_drewN | apply below_drew1 | refine below_set ?_ GE101.out) | exact HB.out)⟩⟩
     case rest => as_aux_lemma =>
      clear HC10
      try clear c1
      try clear p2
      try clear c4
      try clear c6
      try clear c9
      try clear c9b0
      try clear c10
      try clear c11
      try clear c11b0
      try clear c11b1
      try clear p2
      obtain ⟨kq, x10_9, rfl, HA, HJ9, BK101, HB⟩ := hcut
      cases kq with
      | zero => exact absurd HA.out (by simp [ironbarklaw20_CondActs.j1])
      | succ kj9 =>
       have H := HA.out
       clear HA
       simp only [ironbarklaw20_CondActs.j1] at H
       have HC12 := Aside0.mk H
       clear H
       have hcz13_0 : wc.cell? ⟨gb101, 0, none⟩ = some (.int .i64 a2_0) := (blk_cell BK101.out 0).trans rfl
       have hcz13_1 : wc.cell? ⟨gb101, 1, none⟩ = some (.string a2_1) := (blk_cell BK101.out 1).trans rfl
       have hcz13_2 : wc.cell? ⟨gb101, 2, none⟩ = some (.int .i64 a2_2) := (blk_cell BK101.out 2).trans rfl
       have hfz13_0 := blk_frozen BK101.out 0
       have hfz13_1 := blk_frozen BK101.out 1
       have hfz13_2 := blk_frozen BK101.out 2
       go_upto_if 29 with (first | ((with_reducible refine gate_dst (N := 11) rfl ?_); refine box_event ?hg (N := 11) ?hd (cs := #[.int .i64 0, .string (⟨#[]⟩ : ByteArray), .int .i64 0]) (t := 24) ?hr ?_; (case hd => rfl); (case hg => rfl); (case hr => first | (go_simp; done) | (go_simp; rfl)); intro gb103 hg w14 hbox hb; have n0_ := Aside0.mk (blk_below (zk BK101.out) hb); have n1_ := Aside0.mk (below_step (by repeat (first | (with_reducible first | exact HB.out | apply below_alloc | apply pw_below_drewN | apply below_drew1 | refine below_set ?_ GE101.out) | exact HB.out)) hb); have n2_ := Aside0.mk (hbox); have n3_ := Aside0.mk ((by rw [hg]; exact (below_size (by repeat (first | (with_reducible first | exact HB.out | apply below_alloc | apply pw_below_drewN | apply below_drew1 | refine below_set ?_ GE101.out) | exact HB.out))) : w.heap.size ≤ gb103)); have n4_ := n3_; have n5_ := Aside0.mk ((by rw [hg]; exact Nat.ne_of_lt (blk_lt (zk BK101.out)) : gb101 ≠ gb103)); have n6_ := Aside0.mk ((by rw [hg]; exact Nat.ne_of_gt (blk_lt (zk BK101.out)) : gb103 ≠ gb101)); clear BK101; clear HB; have BK101 := n0_; have HB := n1_; have BK103 := n2_; have GW103 := n3_; have GE103 := n4_; have NB101_103 := n5_; have NB103_101 := n6_; clear n0_ n1_ n2_ n3_ n4_ n5_ n6_; clear hb hbox hg; have hnb15 := NB103_101.out; have hnc15 := NB101_103.out; have hcz16_0 : w14.cell? ⟨gb103, 0, none⟩ = some (.int .i64 0) := (blk_cell BK103.out 0).trans rfl; have hcz16_1 : w14.cell? ⟨gb103, 1, none⟩ = some (.string (⟨#[]⟩ : ByteArray)) := (blk_cell BK103.out 1).trans rfl; have hcz16_2 : w14.cell? ⟨gb103, 2, none⟩ = some (.int .i64 0) := (blk_cell BK103.out 2).trans rfl; have hfz16_0 := blk_frozen BK103.out 0; have hfz16_1 := blk_frozen BK103.out 1; have hfz16_2 := blk_frozen BK103.out 2))
       (try simp only [Act.put, List.setIfInBounds_toArray, List.set_cons_zero, List.set_cons_succ])
       go_cut [] (fun wc => ∃ (kq : Nat) (x104000_11 : Int), Aside0 (ironbarklaw20_CondActs.j2 kq a0 a1 a3 x9_1 x10_9 a2_0 a2_1 a2_2 x104000_11 a2_1 a2_2 = some r) ∧ Aside0 (kq ≤ kj9) ∧ Aside0 (wc.heap[gb101]? = some (.cells #[.int .i64 a2_0, .string a2_1, .int .i64 a2_2] 24 (0, 0))) ∧ Aside0 (wc.heap[gb103]? = some (.cells #[.int .i64 x104000_11, .string a2_1, .int .i64 a2_2] 24 (0, 0))) ∧ Aside0 (Below w.heap.size w wc))
       case first =>
        have H := HC12.out
        clear HC12
        by_cases c17 : (Int.tmod x9_1 2) = 1
        ·rw [if_pos c17] at H
         have c17b0 : ((Int.tmod x9_1 2) == 1) = true := beq_iff_eq.mpr c17
         have c17b1 : ((Int.tmod x9_1 2) != 1) = false := bne_eq_false_iff_eq.mpr c17
         clear c17
         (first | rw [c17b0] | (simp only [i64_w, i32_w]; rw [c17b0]) | skip)
         have H' := Aside0.mk H
         clear H
         have hnb18 := NB103_101.out
         have hnc18 := NB101_103.out
         have hcz19_0 : w14.cell? ⟨gb103, 0, none⟩ = some (.int .i64 0) := (blk_cell BK103.out 0).trans rfl
         have hcz19_1 : w14.cell? ⟨gb103, 1, none⟩ = some (.string (⟨#[]⟩ : ByteArray)) := (blk_cell BK103.out 1).trans rfl
         have hcz19_2 : w14.cell? ⟨gb103, 2, none⟩ = some (.int .i64 0) := (blk_cell BK103.out 2).trans rfl
         have hfz19_0 := blk_frozen BK103.out 0
         have hfz19_1 := blk_frozen BK103.out 1
         have hfz19_2 := blk_frozen BK103.out 2
         go_wp2
         go_meet
         case rel => exact ⟨_, (x10_9), H', ⟨by have := HK1.out; have := HJ9.out; first | omega | exact Nat.le_refl _⟩, ⟨by refine zk ?_; refine blk_far ?_ NB101_103.out _; refine zk ?_; refine blk_far ?_ NB101_103.out _; refine zk ?_; refine blk_far ?_ NB101_103.out _; refine zk ?_; refine blk_far ?_ NB101_103.out _; refine zk ?_; exact BK101.out⟩, ⟨by refine zk ?_; refine blk_put (cs := #[.int .i64 a2_0, .string a2_1, .int .i64 a2_2]) ?_ 0 _ rfl; refine zk ?_; refine blk_put (cs := #[.int .i64 a2_0, .string a2_1, .int .i64 0]) ?_ 2 _ rfl; refine zk ?_; refine blk_put (cs := #[.int .i64 a2_0, .string (⟨#[]⟩ : ByteArray), .int .i64 0]) ?_ 1 _ rfl; refine zk ?_; refine blk_put (cs := #[.int .i64 0, .string (⟨#[]⟩ : ByteArray), .int .i64 0]) ?_ 0 _ rfl; refine zk ?_; exact BK103.out⟩, ⟨by repeat (first | (with_reducible first | exact HB.out | apply below_alloc | apply pw_below_drewN | apply below_drew1 | refine below_set ?_ GE101.out | refine below_set ?_ GE103.out) | exact HB.out)⟩⟩
        ·rw [if_neg c17] at H
         have c17b0 : ((Int.tmod x9_1 2) == 1) = false := beq_eq_false_iff_ne.mpr c17
         have c17b1 : ((Int.tmod x9_1 2) != 1) = true := bne_iff_ne.mpr c17
         (first | rw [c17b0] | (simp only [i64_w, i32_w]; rw [c17b0]) | skip)
         have H' := Aside0.mk H
         clear H
         go_wp2
         go_meet
         case rel => exact ⟨_, (a2_0), H', ⟨by have := HK1.out; have := HJ9.out; first | omega | exact Nat.le_refl _⟩, ⟨by refine zk ?_; refine blk_far ?_ NB101_103.out _; refine zk ?_; refine blk_far ?_ NB101_103.out _; refine zk ?_; refine blk_far ?_ NB101_103.out _; refine zk ?_; exact BK101.out⟩, ⟨by refine zk ?_; refine blk_put (cs := #[.int .i64 a2_0, .string a2_1, .int .i64 0]) ?_ 2 _ rfl; refine zk ?_; refine blk_put (cs := #[.int .i64 a2_0, .string (⟨#[]⟩ : ByteArray), .int .i64 0]) ?_ 1 _ rfl; refine zk ?_; refine blk_put (cs := #[.int .i64 0, .string (⟨#[]⟩ : ByteArray), .int .i64 0]) ?_ 0 _ rfl; refine zk ?_; exact BK103.out⟩, ⟨by repeat (first | (with_reducible first | exact HB.out | apply below_alloc | apply pw_below_drewN | apply below_drew1 | refine below_set ?_ GE101.out | refine below_set ?_ GE103.out) | exact HB.out)⟩⟩
       case rest => as_aux_lemma =>
        clear HC12
        try clear c1
        try clear p2
        try clear c4
        try clear c6
        try clear c9
        try clear c9b0
        try clear c10
        try clear c11
        try clear c11b0
        try clear c11b1
        try clear c15
        try clear c17
        try clear c17b0
        try clear c17b1
        try clear c18
        try clear hcz13_0 hcz13_1 hcz13_2
        try clear hcz16_0 hcz16_1 hcz16_2
        try clear hcz19_0 hcz19_1 hcz19_2
        try clear hfz13_0 hfz13_1 hfz13_2
        try clear hfz16_0 hfz16_1 hfz16_2
        try clear hfz19_0 hfz19_1 hfz19_2
        try clear p2
        obtain ⟨kq, x104000_11, HA, HJ11, BK101, BK103, HB⟩ := hcut
        cases kq with
        | zero => exact absurd HA.out (by simp [ironbarklaw20_CondActs.j2])
        | succ kj11 =>
         have H := HA.out
         clear HA
         simp only [ironbarklaw20_CondActs.j2] at H
         replace H := Option.bind_eq_some_iff.mp H
         obtain ⟨⟨t104, t105⟩, A200, H⟩ := H
         replace H : ((ironbarkref20_Action.f kj11 x10_9 a1 x104000_11 a2_1 a2_2 a3).bind fun bt106 => (if t104.toList = bt106.1.toList then (if t105 = bt106.2 then (ironbarklaw20_CondActs.l0 kj11 a0 a1 a3 (wrap64 (x9_1 + 1)) a2_0 a2_1 a2_2) else (some false)) else (some false))) = some r := H
         have A20 := Aside0.mk A200
         clear A200
         replace H := Option.bind_eq_some_iff.mp H
         obtain ⟨⟨t106, t107⟩, A210, H⟩ := H
         replace H : (if t104.toList = t106.toList then (if t105 = t107 then (ironbarklaw20_CondActs.l0 kj11 a0 a1 a3 (wrap64 (x9_1 + 1)) a2_0 a2_1 a2_2) else (some false)) else (some false)) = some r := H
         have A21 := Aside0.mk A210
         clear A210
         by_cases c22 : t104.toList = t106.toList
         ·rw [if_pos c22] at H
          have c22b0 : (t104.toList == t106.toList) = true := beq_iff_eq.mpr c22
          have c22b1 : (t104.toList != t106.toList) = false := bne_eq_false_iff_eq.mpr c22
          clear c22
          by_cases c23 : t105 = t107
          ·rw [if_pos c23] at H
           have c23b0 : (t105 == t107) = true := beq_iff_eq.mpr c23
           have c23b1 : (t105 != t107) = false := bne_eq_false_iff_eq.mpr c23
           clear c23
           have H' := Aside0.mk H
           clear H
           have hnb24 := NB103_101.out
           have hnc24 := NB101_103.out
           have hcz25_0 : wc.cell? ⟨gb103, 0, none⟩ = some (.int .i64 x104000_11) := (blk_cell BK103.out 0).trans rfl
           have hcz25_1 : wc.cell? ⟨gb103, 1, none⟩ = some (.string a2_1) := (blk_cell BK103.out 1).trans rfl
           have hcz25_2 : wc.cell? ⟨gb103, 2, none⟩ = some (.int .i64 a2_2) := (blk_cell BK103.out 2).trans rfl
           have hfz25_0 := blk_frozen BK103.out 0
           have hfz25_1 := blk_frozen BK103.out 1
           have hfz25_2 := blk_frozen BK103.out 2
           go_wp2_with (first | ((with_reducible refine gate_callee (f := 17) rfl ?_); refine goesL_ (some 37) rfl rfl Try.func17 (by kernel_rfl) rfl #[.int .i64 x10_9, .bool a1, .agg #[.int .i64 x104000_11, .string a2_1, .int .i64 a2_2], .bool a3] rfl (by (try simp only [List.map_toArray, List.map_cons, List.map_nil]); first | done | rfl | (simp only [List.length_drop, List.length_take]; rfl)) ?_; (with_reducible refine (cond_Action.calls x10_9 a1 x104000_11 a2_1 a2_2 a3 t104 t105 _ A20.out).mono ?_); rintro e w26 ⟨rfl, hb⟩; refine ⟨_, rfl, ?_⟩; have n0_ := Aside0.mk (blk_below (zk BK101.out) hb); have n1_ := Aside0.mk (blk_below (zk BK103.out) hb); have n2_ := Aside0.mk (below_step (by repeat (first | (with_reducible first | exact HB.out | apply below_alloc | apply pw_below_drewN | apply below_drew1 | refine below_set ?_ GE101.out | refine below_set ?_ GE103.out) | exact HB.out)) hb); clear BK101; clear BK103; clear HB; have BK101 := n0_; have BK103 := n1_; have HB := n2_; clear n0_ n1_ n2_; (try clear hb); (try clear hb2); (try clear hk); (try clear hi); have hcz27_0 : w26.cell? ⟨gb103, 0, none⟩ = some (.int .i64 x104000_11) := (blk_cell BK103.out 0).trans rfl; have hcz27_1 : w26.cell? ⟨gb103, 1, none⟩ = some (.string a2_1) := (blk_cell BK103.out 1).trans rfl; have hcz27_2 : w26.cell? ⟨gb103, 2, none⟩ = some (.int .i64 a2_2) := (blk_cell BK103.out 2).trans rfl; have hfz27_0 := blk_frozen BK103.out 0; have hfz27_1 := blk_frozen BK103.out 1; have hfz27_2 := blk_frozen BK103.out 2) | ((with_reducible refine gate_callee (f := 18) rfl ?_); refine goesL_ (some 45) rfl rfl Try.func18 (by kernel_rfl) rfl #[.int .i64 x10_9, .bool a1, .agg #[.int .i64 x104000_11, .string a2_1, .int .i64 a2_2], .bool a3] rfl (by (try simp only [List.map_toArray, List.map_cons, List.map_nil]); first | done | rfl | (simp only [List.length_drop, List.length_take]; rfl)) ?_; (with_reducible refine (ironbarkref20_Action.calls kj11 x10_9 a1 x104000_11 a2_1 a2_2 a3 t106 t107 _ A21.out).mono ?_); rintro e w28 ⟨rfl, hb⟩; refine ⟨_, rfl, ?_⟩; have n0_ := Aside0.mk (blk_below (zk BK101.out) hb); have n1_ := Aside0.mk (blk_below (zk BK103.out) hb); have n2_ := Aside0.mk (below_step (by repeat (first | (with_reducible first | exact HB.out | apply below_alloc | apply pw_below_drewN | apply below_drew1 | refine below_set ?_ GE101.out | refine below_set ?_ GE103.out) | exact HB.out)) hb); clear BK101; clear BK103; clear HB; have BK101 := n0_; have BK103 := n1_; have HB := n2_; clear n0_ n1_ n2_; (try clear hb); (try clear hb2); (try clear hk); (try clear hi)))
           go_roundg kj11
           case measure => have := HK1.out; have := HJ9.out; have := HJ11.out; omega
           case rel => exact ⟨(wrap64 (x9_1 + 1)), (by first | rfl | (simp; done) | (generalize ByteArray.toList _ = l_; cases l_ <;> rfl) | (simp [*]; done)), H', ⟨by have := HK1.out; have := HJ9.out; have := HJ11.out; omega⟩, ⟨zk BK101.out⟩, ⟨by repeat (first | (with_reducible first | exact HB.out | apply below_alloc | apply pw_below_drewN | apply below_drew1 | refine below_set ?_ GE101.out | refine below_set ?_ GE103.out) | exact HB.out)⟩⟩
          ·rw [if_neg c23] at H
           have c23b0 : (t105 == t107) = false := beq_eq_false_iff_ne.mpr c23
           have c23b1 : (t105 != t107) = true := bne_iff_ne.mpr c23
           exact absurd ((Option.some.inj H).trans hrt_.out) (by decide)
         ·rw [if_neg c22] at H
          have c22b0 : (t104.toList == t106.toList) = false := beq_eq_false_iff_ne.mpr c22
          have c22b1 : (t104.toList != t106.toList) = true := bne_iff_ne.mpr c22
          exact absurd ((Option.some.inj H).trans hrt_.out) (by decide)
    ·rw [if_neg c9] at H
     have c9b0 : decide (x9_1 ≤ 21) = false := decide_eq_false c9
     clear c9
     obtain rfl := Option.some.inj H
     go_wp2
     go_ret
     exact ⟨by first | rfl | (simp [errW_none, errW_some] <;> rfl) | (simp [*, errW_none, errW_some] <;> rfl), by repeat (first | (with_reducible first | exact HB.out | apply below_alloc | apply pw_below_drewN | apply below_drew1 | refine below_set ?_ GE101.out) | exact HB.out)⟩
 ·replace c6 := Bool.eq_false_iff.mpr c6
  subst c6
  have H1 : (some false) = some r := by rw [if_neg (show ¬ (false = true) by decide)] at H; exact H
  clear H
  have H := H1
  clear H1
  exact absurd ((Option.some.inj H).trans hrt_.out) (by decide)
end Go.Proofs.Ytfahpihbbkkngaa.P

-- from the text Q
namespace Go.Proofs.Ytfahpihbbkkngaa.P
open Go.RowKit Go.ChangeShapes Go.WideShapes Go.ChangeAt Go.Deep Go.Proofs.YtfahpihbbkkngaaW.PrintWords Go.Proofs.YtfahpihbbkkngaaW.PrintLast Go.Proofs.YtfahpihbbkkngaaW.PrintMore
set_option linter.unusedVariables false
set_option linter.unusedSimpArgs false
set_option maxRecDepth 100000
theorem list_of {α : Type} {p : Nat → α → Prop} : ∀ n : Nat, (∀ i, i < n → ∃ x, p i x) → ∃ l : List α, l.length = n ∧ ∀ i x, l[i]? = some x → p i x
  | 0, _ => ⟨[], rfl, fun i x h => by simp at h⟩
  | n + 1, h => by
    obtain ⟨l, hl, hp⟩ := list_of n (fun i hi => h i (by omega))
    obtain ⟨x, hx⟩ := h n (by omega)
    refine ⟨l ++ [x], by simp [hl], fun i y hy => ?_⟩
    rcases Nat.lt_trichotomy i n with h1 | h1 | h1
    · exact hp i y (by rw [List.getElem?_append_left (by omega)] at hy; exact hy)
    · subst h1; rw [List.getElem?_append_right (by omega), hl] at hy; simp at hy; subst hy; exact hx
    · rw [List.getElem?_eq_none (by simp; omega)] at hy; cases hy
section
variable {H : Type} {enc : TypeId × Value → H} {w : World} {base : Nat} {spare : Nat → Bool} {held : Bool} {fuel : Nat} {cs : List Value} {x : DataW H × List MemPlace}
theorem sized_any {P : Program} {t e : TypeId} {a : Option Addr} {len cap : Nat} {d : DataW H} {ps : List MemPlace} {ts : List TypeId} {ds : List (DataW H)} {j : Nat} (hsz : (DataW.weightsEach P ts ds).all (· ≤ reachBytes) = true) (ht : ts[j]? = some t) (hd : ds[j]? = some d) (hu : P.underlying t = some (.slice e)) {B : Nat} (hB : P.bytesOf e = B) (h : DataW.Trod enc P w base spare held t (.slice a len cap) d ps) : len * B ≤ 140737488351232 := by
  obtain ⟨fuel, hf⟩ := h
  rcases open_slice hu hf with ⟨hcs, _⟩ | ⟨a', len', cap', m, n, D, Pl, hcs, _, hl, _, _, hx, _⟩
  · simp [Value.cells] at hcs
    obtain ⟨rfl, rfl, rfl⟩ := hcs
    simp
  · simp [Value.cells] at hcs
    obtain ⟨rfl, rfl, rfl⟩ := hcs
    obtain ⟨hx, _⟩ := Prod.mk.inj hx
    subst hx
    have z := sized_slice hsz ht hd hu
    rw [hB, List.length_map, List.length_range] at z
    exact Nat.le_trans (Nat.mul_le_mul_right _ (Nat.le_add_right _ _)) z
def Wf71 (x : S71) : Prop := (Lit.int .i64 x.f0).wf = true ∧ x.f1.size ≤ maxLen
theorem cells71 : Try.prog.cellsOf 71 = 2 := by kernel_rfl
theorem trod71 (h : DataW.trod enc Try.prog w base spare held fuel 71 cs = some x) : ∃ s : S71, cs = [.int .i64 s.f0, .string s.f1] ∧ Wf71 s := by
  obtain ⟨xs, n, _, _, hlen, hxl, hf⟩ := DataW.trod_struct Try.underlying71 h
  rw [cells71] at hlen
  match cs, hlen, xs, hxl with
  | [c0, c1], _, [y0, y1], _ =>
    have g0 : DataW.trod enc Try.prog w base spare held n 3 (List.take (Try.prog.cellsOf 3) (List.drop 0 [c0, c1])) = some y0 := hf 0 _ rfl
    rw [show Try.prog.cellsOf 3 = 1 from by kernel_rfl] at g0
    replace g0 : DataW.trod enc Try.prog w base spare held n 3 [c0] = some y0 := g0
    have g1 : DataW.trod enc Try.prog w base spare held n 9 (List.take (Try.prog.cellsOf 9) (List.drop 1 [c0, c1])) = some y1 := hf 1 _ rfl
    rw [show Try.prog.cellsOf 9 = 1 from by kernel_rfl] at g1
    replace g1 : DataW.trod enc Try.prog w base spare held n 9 [c1] = some y1 := g1
    obtain ⟨s0, e0, -, w0⟩ := DataW.trod_int Try.underlying3 g0
    simp only [List.cons.injEq, and_true] at e0
    subst e0
    obtain ⟨s1, e1, -, w1⟩ := DataW.trod_string Try.underlying9 g1
    simp only [List.cons.injEq, and_true] at e1
    subst e1
    exact ⟨⟨s0, s1⟩, rfl, w0, w1⟩
theorem arg71 {W : World} {r : Reach} {b0 : Nat} {v : Value} {d : DataW H} {p : List MemPlace} (hv : Value.okWide Try.prog W r b0 71 v) (h : DataW.Trod enc Try.prog w base spare held 71 v d p) : ∃ s : S71, v = .agg #[.int .i64 s.f0, .string s.f1] ∧ Wf71 s := by
  obtain ⟨cs, rfl, _⟩ := okWide_struct Try.underlying71 hv
  obtain ⟨fuel, hf⟩ := h
  obtain ⟨s, e, hw⟩ := trod71 hf
  refine ⟨s, ?_, hw⟩
  have e2 : cs.toList = _ := e
  rw [← e2]
def Wf51 (x : S51) : Prop := (Lit.int .i64 x.f0).wf = true ∧ x.f1.size ≤ maxLen ∧ True
theorem cells51 : Try.prog.cellsOf 51 = 3 := by kernel_rfl
theorem trod51 (h : DataW.trod enc Try.prog w base spare held fuel 51 cs = some x) : ∃ s : S51, cs = [.int .i64 s.f0, .string s.f1, .bool s.f2] ∧ Wf51 s := by
  obtain ⟨xs, n, _, _, hlen, hxl, hf⟩ := DataW.trod_struct Try.underlying51 h
  rw [cells51] at hlen
  match cs, hlen, xs, hxl with
  | [c0, c1, c2], _, [y0, y1, y2], _ =>
    have g0 : DataW.trod enc Try.prog w base spare held n 3 (List.take (Try.prog.cellsOf 3) (List.drop 0 [c0, c1, c2])) = some y0 := hf 0 _ rfl
    rw [show Try.prog.cellsOf 3 = 1 from by kernel_rfl] at g0
    replace g0 : DataW.trod enc Try.prog w base spare held n 3 [c0] = some y0 := g0
    have g1 : DataW.trod enc Try.prog w base spare held n 9 (List.take (Try.prog.cellsOf 9) (List.drop 1 [c0, c1, c2])) = some y1 := hf 1 _ rfl
    rw [show Try.prog.cellsOf 9 = 1 from by kernel_rfl] at g1
    replace g1 : DataW.trod enc Try.prog w base spare held n 9 [c1] = some y1 := g1
    have g2 : DataW.trod enc Try.prog w base spare held n 4 (List.take (Try.prog.cellsOf 4) (List.drop 2 [c0, c1, c2])) = some y2 := hf 2 _ rfl
    rw [show Try.prog.cellsOf 4 = 1 from by kernel_rfl] at g2
    replace g2 : DataW.trod enc Try.prog w base spare held n 4 [c2] = some y2 := g2
    obtain ⟨s0, e0, -, w0⟩ := DataW.trod_int Try.underlying3 g0
    simp only [List.cons.injEq, and_true] at e0
    subst e0
    obtain ⟨s1, e1, -, w1⟩ := DataW.trod_string Try.underlying9 g1
    simp only [List.cons.injEq, and_true] at e1
    subst e1
    obtain ⟨s2, e2, -⟩ := DataW.trod_bool Try.underlying4 g2
    simp only [List.cons.injEq, and_true] at e2
    subst e2
    exact ⟨⟨s0, s1, s2⟩, rfl, w0, w1, trivial⟩
theorem arg51 {W : World} {r : Reach} {b0 : Nat} {v : Value} {d : DataW H} {p : List MemPlace} (hv : Value.okWide Try.prog W r b0 51 v) (h : DataW.Trod enc Try.prog w base spare held 51 v d p) : ∃ s : S51, v = .agg #[.int .i64 s.f0, .string s.f1, .bool s.f2] ∧ Wf51 s := by
  obtain ⟨cs, rfl, _⟩ := okWide_struct Try.underlying51 hv
  obtain ⟨fuel, hf⟩ := h
  obtain ⟨s, e, hw⟩ := trod51 hf
  refine ⟨s, ?_, hw⟩
  have e2 : cs.toList = _ := e
  rw [← e2]
def Wf24 (x : S24) : Prop := (Lit.int .i64 x.f0).wf = true ∧ x.f1.size ≤ maxLen ∧ (Lit.int .i64 x.f2).wf = true
theorem cells24 : Try.prog.cellsOf 24 = 3 := by kernel_rfl
theorem trod24 (h : DataW.trod enc Try.prog w base spare held fuel 24 cs = some x) : ∃ s : S24, cs = [.int .i64 s.f0, .string s.f1, .int .i64 s.f2] ∧ Wf24 s := by
  obtain ⟨xs, n, _, _, hlen, hxl, hf⟩ := DataW.trod_struct Try.underlying24 h
  rw [cells24] at hlen
  match cs, hlen, xs, hxl with
  | [c0, c1, c2], _, [y0, y1, y2], _ =>
    have g0 : DataW.trod enc Try.prog w base spare held n 3 (List.take (Try.prog.cellsOf 3) (List.drop 0 [c0, c1, c2])) = some y0 := hf 0 _ rfl
    rw [show Try.prog.cellsOf 3 = 1 from by kernel_rfl] at g0
    replace g0 : DataW.trod enc Try.prog w base spare held n 3 [c0] = some y0 := g0
    have g1 : DataW.trod enc Try.prog w base spare held n 9 (List.take (Try.prog.cellsOf 9) (List.drop 1 [c0, c1, c2])) = some y1 := hf 1 _ rfl
    rw [show Try.prog.cellsOf 9 = 1 from by kernel_rfl] at g1
    replace g1 : DataW.trod enc Try.prog w base spare held n 9 [c1] = some y1 := g1
    have g2 : DataW.trod enc Try.prog w base spare held n 3 (List.take (Try.prog.cellsOf 3) (List.drop 2 [c0, c1, c2])) = some y2 := hf 2 _ rfl
    rw [show Try.prog.cellsOf 3 = 1 from by kernel_rfl] at g2
    replace g2 : DataW.trod enc Try.prog w base spare held n 3 [c2] = some y2 := g2
    obtain ⟨s0, e0, -, w0⟩ := DataW.trod_int Try.underlying3 g0
    simp only [List.cons.injEq, and_true] at e0
    subst e0
    obtain ⟨s1, e1, -, w1⟩ := DataW.trod_string Try.underlying9 g1
    simp only [List.cons.injEq, and_true] at e1
    subst e1
    obtain ⟨s2, e2, -, w2⟩ := DataW.trod_int Try.underlying3 g2
    simp only [List.cons.injEq, and_true] at e2
    subst e2
    exact ⟨⟨s0, s1, s2⟩, rfl, w0, w1, w2⟩
theorem arg24 {W : World} {r : Reach} {b0 : Nat} {v : Value} {d : DataW H} {p : List MemPlace} (hv : Value.okWide Try.prog W r b0 24 v) (h : DataW.Trod enc Try.prog w base spare held 24 v d p) : ∃ s : S24, v = .agg #[.int .i64 s.f0, .string s.f1, .int .i64 s.f2] ∧ Wf24 s := by
  obtain ⟨cs, rfl, _⟩ := okWide_struct Try.underlying24 hv
  obtain ⟨fuel, hf⟩ := h
  obtain ⟨s, e, hw⟩ := trod24 hf
  refine ⟨s, ?_, hw⟩
  have e2 : cs.toList = _ := e
  rw [← e2]
def Wf29 (x : S29) : Prop := (Lit.int .u8 x.f0).wf = true ∧ (Lit.int .i64 x.f1).wf = true ∧ Wf24 x.f2
theorem cells29 : Try.prog.cellsOf 29 = 5 := by kernel_rfl
theorem trod29 (h : DataW.trod enc Try.prog w base spare held fuel 29 cs = some x) : ∃ s : S29, cs = [.int .u8 s.f0, .int .i64 s.f1, .int .i64 s.f2.f0, .string s.f2.f1, .int .i64 s.f2.f2] ∧ Wf29 s := by
  obtain ⟨xs, n, _, _, hlen, hxl, hf⟩ := DataW.trod_struct Try.underlying29 h
  rw [cells29] at hlen
  match cs, hlen, xs, hxl with
  | [c0, c1, c2, c3, c4], _, [y0, y1, y2], _ =>
    have g0 : DataW.trod enc Try.prog w base spare held n 5 (List.take (Try.prog.cellsOf 5) (List.drop 0 [c0, c1, c2, c3, c4])) = some y0 := hf 0 _ rfl
    rw [show Try.prog.cellsOf 5 = 1 from by kernel_rfl] at g0
    replace g0 : DataW.trod enc Try.prog w base spare held n 5 [c0] = some y0 := g0
    have g1 : DataW.trod enc Try.prog w base spare held n 3 (List.take (Try.prog.cellsOf 3) (List.drop 1 [c0, c1, c2, c3, c4])) = some y1 := hf 1 _ rfl
    rw [show Try.prog.cellsOf 3 = 1 from by kernel_rfl] at g1
    replace g1 : DataW.trod enc Try.prog w base spare held n 3 [c1] = some y1 := g1
    have g2 : DataW.trod enc Try.prog w base spare held n 24 (List.take (Try.prog.cellsOf 24) (List.drop 2 [c0, c1, c2, c3, c4])) = some y2 := hf 2 _ rfl
    rw [show Try.prog.cellsOf 24 = 3 from by kernel_rfl] at g2
    replace g2 : DataW.trod enc Try.prog w base spare held n 24 [c2, c3, c4] = some y2 := g2
    obtain ⟨s0, e0, -, w0⟩ := DataW.trod_int Try.underlying5 g0
    simp only [List.cons.injEq, and_true] at e0
    subst e0
    obtain ⟨s1, e1, -, w1⟩ := DataW.trod_int Try.underlying3 g1
    simp only [List.cons.injEq, and_true] at e1
    subst e1
    obtain ⟨s2, e2, w2⟩ := trod24 g2
    simp only [List.cons.injEq, and_true] at e2
    obtain ⟨rfl, rfl, rfl⟩ := e2
    exact ⟨⟨s0, s1, s2⟩, rfl, w0, w1, w2⟩
theorem arg29 {W : World} {r : Reach} {b0 : Nat} {v : Value} {d : DataW H} {p : List MemPlace} (hv : Value.okWide Try.prog W r b0 29 v) (h : DataW.Trod enc Try.prog w base spare held 29 v d p) : ∃ s : S29, v = .agg #[.int .u8 s.f0, .int .i64 s.f1, .int .i64 s.f2.f0, .string s.f2.f1, .int .i64 s.f2.f2] ∧ Wf29 s := by
  obtain ⟨cs, rfl, _⟩ := okWide_struct Try.underlying29 hv
  obtain ⟨fuel, hf⟩ := h
  obtain ⟨s, e, hw⟩ := trod29 hf
  refine ⟨s, ?_, hw⟩
  have e2 : cs.toList = _ := e
  rw [← e2]
def Wf42 (x : S42) : Prop := x.f0.size ≤ maxLen ∧ (Lit.int .i64 x.f1).wf = true ∧ True ∧ True ∧ True ∧ True ∧ (Lit.int .i64 x.f6).wf = true ∧ (Lit.int .i64 x.f7).wf = true
theorem cells42 : Try.prog.cellsOf 42 = 8 := by kernel_rfl
theorem trod42 (h : DataW.trod enc Try.prog w base spare held fuel 42 cs = some x) : ∃ s : S42, cs = [.string s.f0, .int .i64 s.f1, .bool s.f2, .bool s.f3, .bool s.f4, .bool s.f5, .int .i64 s.f6, .int .i64 s.f7] ∧ Wf42 s := by
  obtain ⟨xs, n, _, _, hlen, hxl, hf⟩ := DataW.trod_struct Try.underlying42 h
  rw [cells42] at hlen
  match cs, hlen, xs, hxl with
  | [c0, c1, c2, c3, c4, c5, c6, c7], _, [y0, y1, y2, y3, y4, y5, y6, y7], _ =>
    have g0 : DataW.trod enc Try.prog w base spare held n 9 (List.take (Try.prog.cellsOf 9) (List.drop 0 [c0, c1, c2, c3, c4, c5, c6, c7])) = some y0 := hf 0 _ rfl
    rw [show Try.prog.cellsOf 9 = 1 from by kernel_rfl] at g0
    replace g0 : DataW.trod enc Try.prog w base spare held n 9 [c0] = some y0 := g0
    have g1 : DataW.trod enc Try.prog w base spare held n 3 (List.take (Try.prog.cellsOf 3) (List.drop 1 [c0, c1, c2, c3, c4, c5, c6, c7])) = some y1 := hf 1 _ rfl
    rw [show Try.prog.cellsOf 3 = 1 from by kernel_rfl] at g1
    replace g1 : DataW.trod enc Try.prog w base spare held n 3 [c1] = some y1 := g1
    have g2 : DataW.trod enc Try.prog w base spare held n 4 (List.take (Try.prog.cellsOf 4) (List.drop 2 [c0, c1, c2, c3, c4, c5, c6, c7])) = some y2 := hf 2 _ rfl
    rw [show Try.prog.cellsOf 4 = 1 from by kernel_rfl] at g2
    replace g2 : DataW.trod enc Try.prog w base spare held n 4 [c2] = some y2 := g2
    have g3 : DataW.trod enc Try.prog w base spare held n 4 (List.take (Try.prog.cellsOf 4) (List.drop 3 [c0, c1, c2, c3, c4, c5, c6, c7])) = some y3 := hf 3 _ rfl
    rw [show Try.prog.cellsOf 4 = 1 from by kernel_rfl] at g3
    replace g3 : DataW.trod enc Try.prog w base spare held n 4 [c3] = some y3 := g3
    have g4 : DataW.trod enc Try.prog w base spare held n 4 (List.take (Try.prog.cellsOf 4) (List.drop 4 [c0, c1, c2, c3, c4, c5, c6, c7])) = some y4 := hf 4 _ rfl
    rw [show Try.prog.cellsOf 4 = 1 from by kernel_rfl] at g4
    replace g4 : DataW.trod enc Try.prog w base spare held n 4 [c4] = some y4 := g4
    have g5 : DataW.trod enc Try.prog w base spare held n 4 (List.take (Try.prog.cellsOf 4) (List.drop 5 [c0, c1, c2, c3, c4, c5, c6, c7])) = some y5 := hf 5 _ rfl
    rw [show Try.prog.cellsOf 4 = 1 from by kernel_rfl] at g5
    replace g5 : DataW.trod enc Try.prog w base spare held n 4 [c5] = some y5 := g5
    have g6 : DataW.trod enc Try.prog w base spare held n 3 (List.take (Try.prog.cellsOf 3) (List.drop 6 [c0, c1, c2, c3, c4, c5, c6, c7])) = some y6 := hf 6 _ rfl
    rw [show Try.prog.cellsOf 3 = 1 from by kernel_rfl] at g6
    replace g6 : DataW.trod enc Try.prog w base spare held n 3 [c6] = some y6 := g6
    have g7 : DataW.trod enc Try.prog w base spare held n 3 (List.take (Try.prog.cellsOf 3) (List.drop 7 [c0, c1, c2, c3, c4, c5, c6, c7])) = some y7 := hf 7 _ rfl
    rw [show Try.prog.cellsOf 3 = 1 from by kernel_rfl] at g7
    replace g7 : DataW.trod enc Try.prog w base spare held n 3 [c7] = some y7 := g7
    obtain ⟨s0, e0, -, w0⟩ := DataW.trod_string Try.underlying9 g0
    simp only [List.cons.injEq, and_true] at e0
    subst e0
    obtain ⟨s1, e1, -, w1⟩ := DataW.trod_int Try.underlying3 g1
    simp only [List.cons.injEq, and_true] at e1
    subst e1
    obtain ⟨s2, e2, -⟩ := DataW.trod_bool Try.underlying4 g2
    simp only [List.cons.injEq, and_true] at e2
    subst e2
    obtain ⟨s3, e3, -⟩ := DataW.trod_bool Try.underlying4 g3
    simp only [List.cons.injEq, and_true] at e3
    subst e3
    obtain ⟨s4, e4, -⟩ := DataW.trod_bool Try.underlying4 g4
    simp only [List.cons.injEq, and_true] at e4
    subst e4
    obtain ⟨s5, e5, -⟩ := DataW.trod_bool Try.underlying4 g5
    simp only [List.cons.injEq, and_true] at e5
    subst e5
    obtain ⟨s6, e6, -, w6⟩ := DataW.trod_int Try.underlying3 g6
    simp only [List.cons.injEq, and_true] at e6
    subst e6
    obtain ⟨s7, e7, -, w7⟩ := DataW.trod_int Try.underlying3 g7
    simp only [List.cons.injEq, and_true] at e7
    subst e7
    exact ⟨⟨s0, s1, s2, s3, s4, s5, s6, s7⟩, rfl, w0, w1, trivial, trivial, trivial, trivial, w6, w7⟩
theorem arg42 {W : World} {r : Reach} {b0 : Nat} {v : Value} {d : DataW H} {p : List MemPlace} (hv : Value.okWide Try.prog W r b0 42 v) (h : DataW.Trod enc Try.prog w base spare held 42 v d p) : ∃ s : S42, v = .agg #[.string s.f0, .int .i64 s.f1, .bool s.f2, .bool s.f3, .bool s.f4, .bool s.f5, .int .i64 s.f6, .int .i64 s.f7] ∧ Wf42 s := by
  obtain ⟨cs, rfl, _⟩ := okWide_struct Try.underlying42 hv
  obtain ⟨fuel, hf⟩ := h
  obtain ⟨s, e, hw⟩ := trod42 hf
  refine ⟨s, ?_, hw⟩
  have e2 : cs.toList = _ := e
  rw [← e2]
def Wf90 (x : S90) : Prop := (Lit.int .i64 x.f0).wf = true ∧ Wf42 x.f1
theorem cells90 : Try.prog.cellsOf 90 = 9 := by kernel_rfl
theorem trod90 (h : DataW.trod enc Try.prog w base spare held fuel 90 cs = some x) : ∃ s : S90, cs = [.int .i64 s.f0, .string s.f1.f0, .int .i64 s.f1.f1, .bool s.f1.f2, .bool s.f1.f3, .bool s.f1.f4, .bool s.f1.f5, .int .i64 s.f1.f6, .int .i64 s.f1.f7] ∧ Wf90 s := by
  obtain ⟨xs, n, _, _, hlen, hxl, hf⟩ := DataW.trod_struct Try.underlying90 h
  rw [cells90] at hlen
  match cs, hlen, xs, hxl with
  | [c0, c1, c2, c3, c4, c5, c6, c7, c8], _, [y0, y1], _ =>
    have g0 : DataW.trod enc Try.prog w base spare held n 3 (List.take (Try.prog.cellsOf 3) (List.drop 0 [c0, c1, c2, c3, c4, c5, c6, c7, c8])) = some y0 := hf 0 _ rfl
    rw [show Try.prog.cellsOf 3 = 1 from by kernel_rfl] at g0
    replace g0 : DataW.trod enc Try.prog w base spare held n 3 [c0] = some y0 := g0
    have g1 : DataW.trod enc Try.prog w base spare held n 42 (List.take (Try.prog.cellsOf 42) (List.drop 1 [c0, c1, c2, c3, c4, c5, c6, c7, c8])) = some y1 := hf 1 _ rfl
    rw [show Try.prog.cellsOf 42 = 8 from by kernel_rfl] at g1
    replace g1 : DataW.trod enc Try.prog w base spare held n 42 [c1, c2, c3, c4, c5, c6, c7, c8] = some y1 := g1
    obtain ⟨s0, e0, -, w0⟩ := DataW.trod_int Try.underlying3 g0
    simp only [List.cons.injEq, and_true] at e0
    subst e0
    obtain ⟨s1, e1, w1⟩ := trod42 g1
    simp only [List.cons.injEq, and_true] at e1
    obtain ⟨rfl, rfl, rfl, rfl, rfl, rfl, rfl, rfl⟩ := e1
    exact ⟨⟨s0, s1⟩, rfl, w0, w1⟩
theorem arg90 {W : World} {r : Reach} {b0 : Nat} {v : Value} {d : DataW H} {p : List MemPlace} (hv : Value.okWide Try.prog W r b0 90 v) (h : DataW.Trod enc Try.prog w base spare held 90 v d p) : ∃ s : S90, v = .agg #[.int .i64 s.f0, .string s.f1.f0, .int .i64 s.f1.f1, .bool s.f1.f2, .bool s.f1.f3, .bool s.f1.f4, .bool s.f1.f5, .int .i64 s.f1.f6, .int .i64 s.f1.f7] ∧ Wf90 s := by
  obtain ⟨cs, rfl, _⟩ := okWide_struct Try.underlying90 hv
  obtain ⟨fuel, hf⟩ := h
  obtain ⟨s, e, hw⟩ := trod90 hf
  refine ⟨s, ?_, hw⟩
  have e2 : cs.toList = _ := e
  rw [← e2]
theorem arg22 {W : World} {r : Reach} {b0 : Nat} {v : Value} {d : DataW H} {p : List MemPlace} (hv : Value.okWide Try.prog W r b0 22 v) (h : DataW.Trod enc Try.prog w base (fun _ => true) held 22 v d p) : ∃ (A : Option Addr) (cap : Nat) (l : List S29), v = .slice A l.length cap ∧ Kd.C k29 w A l.length l ∧ l.length ≤ cap ∧ ∀ y ∈ l, Wf29 y := by
  obtain ⟨a0, len0, cap0, rfl⟩ := okWide_slice Try.underlying22 hv
  obtain ⟨fuel, hf⟩ := h
  rcases open_slice Try.underlying22 hf with ⟨hcs, _⟩ | ⟨a, len, cap, m, n, D, Pl, hcs, _, hl, hm, hmm, _, hi⟩
  · simp [Value.cells] at hcs
    obtain ⟨rfl, rfl, rfl⟩ := hcs
    exact ⟨none, 0, [], rfl, ⟨rfl, by simp, fun h => absurd h (by simp)⟩, Nat.le_refl _, fun y hy => by cases hy⟩
  · simp [Value.cells] at hcs
    obtain ⟨rfl, rfl, rfl⟩ := hcs
    simp only [if_true] at hmm
    subst hmm
    obtain ⟨l, hll, hp⟩ := list_of (p := fun i (s : S29) => (∀ j u, ([.int .u8 s.f0, .int .i64 s.f1, .int .i64 s.f2.f0, .string s.f2.f1, .int .i64 s.f2.f2] : List Value)[j]? = some u → w.cell? (a.add (i * 5 + j)) = some u) ∧ Wf29 s) len0 (fun i him => by
      obtain ⟨cs', hc, ht⟩ := hi i (by omega)
      rw [show Try.prog.cellsOf 29 = 5 from by kernel_rfl] at hc
      obtain ⟨_, hcl, hat⟩ := World.cells?_some hc
      obtain ⟨s, rfl, hw⟩ := trod29 ht
      refine ⟨s, fun j u hj => ?_, hw⟩
      have hjn : j < 5 := by rcases Nat.lt_or_ge j 5 with h | h; exact h; rw [List.getElem?_eq_none (by simpa using h)] at hj; cases hj
      rw [← Go.Deep.add_add, hat j hjn]; exact hj)
    subst hll
    refine ⟨some a, _, l, rfl, ⟨rfl, by simp only [maxLen] at hm; omega, fun _ => ⟨a, rfl, fun j q hq => ⟨_, rfl, k29_mk w q, fun i u hu => (hp j q hq).1 i u hu⟩⟩⟩, hl, fun y hy => ?_⟩
    obtain ⟨i, hi, rfl⟩ := List.getElem_of_mem hy
    exact (hp i _ (List.getElem?_eq_getElem hi)).2
theorem arg47 {W : World} {r : Reach} {b0 : Nat} {v : Value} {d : DataW H} {p : List MemPlace} (hv : Value.okWide Try.prog W r b0 47 v) (h : DataW.Trod enc Try.prog w base (fun _ => true) held 47 v d p) : ∃ (A : Option Addr) (cap : Nat) (l : List S51), v = .slice A l.length cap ∧ Kd.C k51 w A l.length l ∧ l.length ≤ cap ∧ ∀ y ∈ l, Wf51 y := by
  obtain ⟨a0, len0, cap0, rfl⟩ := okWide_slice Try.underlying47 hv
  obtain ⟨fuel, hf⟩ := h
  rcases open_slice Try.underlying47 hf with ⟨hcs, _⟩ | ⟨a, len, cap, m, n, D, Pl, hcs, _, hl, hm, hmm, _, hi⟩
  · simp [Value.cells] at hcs
    obtain ⟨rfl, rfl, rfl⟩ := hcs
    exact ⟨none, 0, [], rfl, ⟨rfl, by simp, fun h => absurd h (by simp)⟩, Nat.le_refl _, fun y hy => by cases hy⟩
  · simp [Value.cells] at hcs
    obtain ⟨rfl, rfl, rfl⟩ := hcs
    simp only [if_true] at hmm
    subst hmm
    obtain ⟨l, hll, hp⟩ := list_of (p := fun i (s : S51) => (∀ j u, ([.int .i64 s.f0, .string s.f1, .bool s.f2] : List Value)[j]? = some u → w.cell? (a.add (i * 3 + j)) = some u) ∧ Wf51 s) len0 (fun i him => by
      obtain ⟨cs', hc, ht⟩ := hi i (by omega)
      rw [show Try.prog.cellsOf 51 = 3 from by kernel_rfl] at hc
      obtain ⟨_, hcl, hat⟩ := World.cells?_some hc
      obtain ⟨s, rfl, hw⟩ := trod51 ht
      refine ⟨s, fun j u hj => ?_, hw⟩
      have hjn : j < 3 := by rcases Nat.lt_or_ge j 3 with h | h; exact h; rw [List.getElem?_eq_none (by simpa using h)] at hj; cases hj
      rw [← Go.Deep.add_add, hat j hjn]; exact hj)
    subst hll
    refine ⟨some a, _, l, rfl, ⟨rfl, by simp only [maxLen] at hm; omega, fun _ => ⟨a, rfl, fun j q hq => ⟨_, rfl, k51_mk w q, fun i u hu => (hp j q hq).1 i u hu⟩⟩⟩, hl, fun y hy => ?_⟩
    obtain ⟨i, hi, rfl⟩ := List.getElem_of_mem hy
    exact (hp i _ (List.getElem?_eq_getElem hi)).2
theorem arg64 {W : World} {r : Reach} {b0 : Nat} {v : Value} {d : DataW H} {p : List MemPlace} (hv : Value.okWide Try.prog W r b0 64 v) (h : DataW.Trod enc Try.prog w base (fun _ => true) held 64 v d p) : ∃ (A : Option Addr) (cap : Nat) (l : List S24), v = .slice A l.length cap ∧ Kd.C k24 w A l.length l ∧ l.length ≤ cap ∧ ∀ y ∈ l, Wf24 y := by
  obtain ⟨a0, len0, cap0, rfl⟩ := okWide_slice Try.underlying64 hv
  obtain ⟨fuel, hf⟩ := h
  rcases open_slice Try.underlying64 hf with ⟨hcs, _⟩ | ⟨a, len, cap, m, n, D, Pl, hcs, _, hl, hm, hmm, _, hi⟩
  · simp [Value.cells] at hcs
    obtain ⟨rfl, rfl, rfl⟩ := hcs
    exact ⟨none, 0, [], rfl, ⟨rfl, by simp, fun h => absurd h (by simp)⟩, Nat.le_refl _, fun y hy => by cases hy⟩
  · simp [Value.cells] at hcs
    obtain ⟨rfl, rfl, rfl⟩ := hcs
    simp only [if_true] at hmm
    subst hmm
    obtain ⟨l, hll, hp⟩ := list_of (p := fun i (s : S24) => (∀ j u, ([.int .i64 s.f0, .string s.f1, .int .i64 s.f2] : List Value)[j]? = some u → w.cell? (a.add (i * 3 + j)) = some u) ∧ Wf24 s) len0 (fun i him => by
      obtain ⟨cs', hc, ht⟩ := hi i (by omega)
      rw [show Try.prog.cellsOf 24 = 3 from by kernel_rfl] at hc
      obtain ⟨_, hcl, hat⟩ := World.cells?_some hc
      obtain ⟨s, rfl, hw⟩ := trod24 ht
      refine ⟨s, fun j u hj => ?_, hw⟩
      have hjn : j < 3 := by rcases Nat.lt_or_ge j 3 with h | h; exact h; rw [List.getElem?_eq_none (by simpa using h)] at hj; cases hj
      rw [← Go.Deep.add_add, hat j hjn]; exact hj)
    subst hll
    refine ⟨some a, _, l, rfl, ⟨rfl, by simp only [maxLen] at hm; omega, fun _ => ⟨a, rfl, fun j q hq => ⟨_, rfl, k24_mk w q, fun i u hu => (hp j q hq).1 i u hu⟩⟩⟩, hl, fun y hy => ?_⟩
    obtain ⟨i, hi, rfl⟩ := List.getElem_of_mem hy
    exact (hp i _ (List.getElem?_eq_getElem hi)).2
theorem arg87 {W : World} {r : Reach} {b0 : Nat} {v : Value} {d : DataW H} {p : List MemPlace} (hv : Value.okWide Try.prog W r b0 87 v) (h : DataW.Trod enc Try.prog w base (fun _ => true) held 87 v d p) : ∃ (A : Option Addr) (cap : Nat) (l : List S90), v = .slice A l.length cap ∧ Kd.C k90 w A l.length l ∧ l.length ≤ cap ∧ ∀ y ∈ l, Wf90 y := by
  obtain ⟨a0, len0, cap0, rfl⟩ := okWide_slice Try.underlying87 hv
  obtain ⟨fuel, hf⟩ := h
  rcases open_slice Try.underlying87 hf with ⟨hcs, _⟩ | ⟨a, len, cap, m, n, D, Pl, hcs, _, hl, hm, hmm, _, hi⟩
  · simp [Value.cells] at hcs
    obtain ⟨rfl, rfl, rfl⟩ := hcs
    exact ⟨none, 0, [], rfl, ⟨rfl, by simp, fun h => absurd h (by simp)⟩, Nat.le_refl _, fun y hy => by cases hy⟩
  · simp [Value.cells] at hcs
    obtain ⟨rfl, rfl, rfl⟩ := hcs
    simp only [if_true] at hmm
    subst hmm
    obtain ⟨l, hll, hp⟩ := list_of (p := fun i (s : S90) => (∀ j u, ([.int .i64 s.f0, .string s.f1.f0, .int .i64 s.f1.f1, .bool s.f1.f2, .bool s.f1.f3, .bool s.f1.f4, .bool s.f1.f5, .int .i64 s.f1.f6, .int .i64 s.f1.f7] : List Value)[j]? = some u → w.cell? (a.add (i * 9 + j)) = some u) ∧ Wf90 s) len0 (fun i him => by
      obtain ⟨cs', hc, ht⟩ := hi i (by omega)
      rw [show Try.prog.cellsOf 90 = 9 from by kernel_rfl] at hc
      obtain ⟨_, hcl, hat⟩ := World.cells?_some hc
      obtain ⟨s, rfl, hw⟩ := trod90 ht
      refine ⟨s, fun j u hj => ?_, hw⟩
      have hjn : j < 9 := by rcases Nat.lt_or_ge j 9 with h | h; exact h; rw [List.getElem?_eq_none (by simpa using h)] at hj; cases hj
      rw [← Go.Deep.add_add, hat j hjn]; exact hj)
    subst hll
    refine ⟨some a, _, l, rfl, ⟨rfl, by simp only [maxLen] at hm; omega, fun _ => ⟨a, rfl, fun j q hq => ⟨_, rfl, k90_mk w q, fun i u hu => (hp j q hq).1 i u hu⟩⟩⟩, hl, fun y hy => ?_⟩
    obtain ⟨i, hi, rfl⟩ := List.getElem_of_mem hy
    exact (hp i _ (List.getElem?_eq_getElem hi)).2
end
end Go.Proofs.Ytfahpihbbkkngaa.P

-- from the text Pa
namespace Go.Proofs.Ytfahpihbbkkngaa.P
open Go.RowKit Go.Proofs.YtfahpihbbkkngaaW.PrintWords Go.Proofs.YtfahpihbbkkngaaW.PrintLast Go.Proofs.YtfahpihbbkkngaaW.PrintMore
set_option linter.unusedVariables false
set_option linter.unusedSimpArgs false
theorem act_some (a0 : Int) (a1 : Bool) (c : Int) (s : ByteArray) (p : Int) (a3 : Bool) : ∃ r, cond_Action.f a0 a1 c s p a3 = some r := by
  unfold cond_Action.f
  split
  · exact ⟨_, rfl⟩
  · split <;> exact ⟨_, rfl⟩
theorem acts_j2 (x0 : Int) (x1 x3 : Bool) (i : Int) (x10 u0 : Int) (u1 : ByteArray) (u2 v0 : Int) (v1 : ByteArray) (v2 : Int) (h : Ev (fun k => ironbarklaw20_CondActs.l0 k x0 x1 x3 (wrap64 (i + 1)) u0 u1 u2) true) :
    Ev (fun k => ironbarklaw20_CondActs.j2 k x0 x1 x3 i x10 u0 u1 u2 v0 v1 v2) true := by
  obtain ⟨r, hr⟩ := act_some x10 x1 v0 v1 v2 x3
  refine Ev.step (f := fun k => (ironbarkref20_Action.f k x10 x1 v0 v1 v2 x3).bind fun bt106 => (if r.1.toList = bt106.1.toList then (if r.2 = bt106.2 then (ironbarklaw20_CondActs.l0 k x0 x1 x3 (wrap64 (i + 1)) u0 u1 u2) else (some false)) else (some false))) (fun k => by
    simp only [ironbarklaw20_CondActs.j2, hr, Option.bind_some]) ?_
  refine Ev.bind (f := fun k bt106 => _) (act_ev x10 x1 v0 v1 v2 x3 r hr) ?_
  simp only [if_true]
  exact h
theorem acts_j1 (x0 : Int) (x1 x3 : Bool) (i : Int) (x10 u0 : Int) (u1 : ByteArray) (u2 : Int) (h : Ev (fun k => ironbarklaw20_CondActs.l0 k x0 x1 x3 (wrap64 (i + 1)) u0 u1 u2) true) :
    Ev (fun k => ironbarklaw20_CondActs.j1 k x0 x1 x3 i x10 u0 u1 u2) true := by
  by_cases hi : Int.tmod i 2 = 1
  · exact Ev.step (fun k => by simp only [ironbarklaw20_CondActs.j1]; rw [if_pos hi]) (acts_j2 x0 x1 x3 i x10 u0 u1 u2 x10 u1 u2 h)
  · exact Ev.step (fun k => by simp only [ironbarklaw20_CondActs.j1]; rw [if_neg hi]) (acts_j2 x0 x1 x3 i x10 u0 u1 u2 u0 u1 u2 h)
theorem acts_l0 (x0 : Int) (x1 x3 : Bool) (u0 : Int) (u1 : ByteArray) (u2 : Int) : ∀ m : Nat, m ≤ 22 → Ev (fun k => ironbarklaw20_CondActs.l0 k x0 x1 x3 (((22 - m : Nat) : Int)) u0 u1 u2) true
  | 0, _ => Ev.step (f := fun _ => some true) (fun k => by simp only [ironbarklaw20_CondActs.l0]; rw [if_neg (by omega)]) (Ev.now _)
  | m + 1, h => by
    have ih := acts_l0 x0 x1 x3 u0 u1 u2 m (by omega)
    have e : wrap64 (((22 - (m + 1) : Nat) : Int) + 1) = ((22 - m : Nat) : Int) := by unfold wrap64; omega
    rw [← e] at ih
    by_cases h0 : ((22 - (m + 1) : Nat) : Int) = 0
    · exact Ev.step (fun k => by simp only [ironbarklaw20_CondActs.l0]; rw [if_pos (by omega), if_pos h0]) (acts_j1 x0 x1 x3 _ x0 u0 u1 u2 ih)
    · exact Ev.step (fun k => by simp only [ironbarklaw20_CondActs.l0]; rw [if_pos (by omega), if_neg h0]) (acts_j1 x0 x1 x3 _ _ u0 u1 u2 ih)
theorem CondActs_walk (a0 : Int) (a1 : Bool) (u : S24) (a3 : Bool) (w : World) (_ : (Lit.int .i64 a0).wf = true) (_ : Wf24 u) :
    Calls Try.prog 4 #[.int .i64 a0, .bool a1, .agg #[.int .i64 u.f0, .string u.f1, .int .i64 u.f2], .bool a3] w fun e w' => e = .returned (.bool true) ∧ Below w.heap.size w w' := by
  obtain ⟨k, hk⟩ := (acts_l0 a0 a1 a3 u.f0 u.f1 u.f2 22 (by omega)).rounds
  refine ironbarklaw20_CondActs.calls k a0 a1 u.f0 u.f1 u.f2 a3 true w ?_ ⟨rfl⟩
  unfold ironbarklaw20_CondActs.f ironbarklaw20_awake.f
  exact hk
end Go.Proofs.Ytfahpihbbkkngaa.P
