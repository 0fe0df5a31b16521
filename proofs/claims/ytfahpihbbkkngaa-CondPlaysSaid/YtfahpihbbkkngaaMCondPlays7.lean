/- Part 7 of the proof of the law CondPlays: functions, contracts and plain laws; merged by this session's program. -/
import Derived.Lib.LazyBuf
import Derived.Deep.Slices
import Derived.Deep.Fields
import Derived.ProofKit
import Derived.ChangeSame
import Derived.SizedLaws
import Derived.Test.YtfahpihbbkkngaaMCondPlays1
import Derived.Test.YtfahpihbbkkngaaMCondPlays2
import Derived.Test.YtfahpihbbkkngaaMCondPlays3
import Derived.Test.YtfahpihbbkkngaaMCondPlays6
-- from the text Re
namespace Go.Proofs.Ytfahpihbbkkngaa.P
open Go.RowKit Go.Proofs.YtfahpihbbkkngaaW.PrintWords Go.Proofs.YtfahpihbbkkngaaW.PrintLast Go.Proofs.YtfahpihbbkkngaaW.PrintMore
set_option linter.unusedVariables false
set_option linter.unusedSimpArgs false
theorem of_is (c : Int) (n : ByteArray) (x : S94) (A0 : Option Addr) (c0 : Nat) (w : World) (hC : Kd.C k24 w A0 x.f0.length x.f0) (hc : x.f0.length ≤ c0) (hl : x.f0.length ≤ 100000) :
    Calls Try.prog 66 #[.agg #[.slice A0 x.f0.length c0, .bool x.f1, .int .i64 x.f2, .string x.f3, .int .i64 x.f4], .int .i64 c, .string n] w fun e w' => e = .returned (.tuple #[.agg #[.int .i64 (ofV (ofU c n x.f0)).1, .string (ofV (ofU c n x.f0)).2.1, .int .i64 (ofV (ofU c n x.f0)).2.2.1], .bool (ofV (ofU c n x.f0)).2.2.2]) ∧ Below w.heap.size w w' := by
  obtain ⟨k, hk⟩ := (of_ev c n x.f0 x.f1 x.f2 x.f3 x.f4 hl x.f0.length 0 (by omega) (by omega)).rounds
  exact ironbarkref20_of.calls k A0 c0 x.f0 x.f1 x.f2 x.f3 x.f4 c n _ _ _ _ w hC hc hk
set_option maxRecDepth 100000 in
set_option maxHeartbeats 4000000 in
theorem rbegin_bad (v : Value) (c : Int) (n : ByteArray) (k : Int) (l : List S94) (G : Nat → Prop) (w : World) (h : RD w G v l) (hr : rightB c n = false) :
    Calls Try.prog 50 #[.agg #[v], .int .i64 c, .string n, .int .i64 k] w fun e w' => e = .returned (.tuple #[.agg #[v], .int .i64 1]) ∧ Below w.heap.size w w' := by
  obtain ⟨A, cp, rfl, _, _⟩ := h.slice
  have HN := Aside0.mk (fun W => named_is c n W)
  rw [hr] at HN
  have H1 := Aside0.mk ((Below.refl w.heap.size w).alloc (Nat.le_refl _) (.cells #[.slice A l.length cp] 55 (0, 0)))
  have H2 := Aside0.mk (H1.out.alloc H1.out.size (.cells #[.slice none 0 0] 55 (0, 0)))
  have b1 := Aside0.mk (blk_alloc (blk_new w (.cells #[.slice A l.length cp] 55 (0, 0))) (.cells #[.slice none 0 0] 55 (0, 0)))
  have b2 := blk_new (w.alloc (.cells #[.slice A l.length cp] 55 (0, 0))) (.cells #[.slice none 0 0] 55 (0, 0))
  simp only [World.size_alloc] at b2
  replace b2 := Aside0.mk b2
  clear h hr
  go_enter Try.func50, Try.ntmps50
  go_wp2_with fail
  refine (HN.out _).mono ?_
  rintro e w2 ⟨rfl, hb⟩
  have c1 := Aside0.mk (blk_below b1.out hb)
  have c2 := Aside0.mk (blk_below b2.out hb)
  have HB := Aside0.mk (H2.out.trans (hb.mono H2.out.size))
  have q0 := (blk_cell c1.out 0).trans rfl
  have q1 := (blk_cell c2.out 0).trans rfl
  have q2 := blk_frozen c2.out 0
  clear hb
  go_wp2_with fail
  refine bodyPost_ret (results_ct rfl _ _ (w.heap.size + 1) 55 #[.slice A l.length cp] (0, 0) _ rfl (blk_put c2.out 0 _ rfl) Try.underlying55 rfl (by kernel_rfl)) rfl ?_
  exact ⟨rfl, below_set HB.out (Nat.le_succ _)⟩
set_option maxRecDepth 100000 in
set_option maxHeartbeats 4000000 in
theorem rbegin_range (v : Value) (c : Int) (n : ByteArray) (k : Int) (l : List S94) (G : Nat → Prop) (w : World) (h : RD w G v l) (hr : rightB c n = true) (hk : k < 0 ∨ (l.length : Int) ≤ k) :
    Calls Try.prog 50 #[.agg #[v], .int .i64 c, .string n, .int .i64 k] w fun e w' => e = .returned (.tuple #[.agg #[v], .int .i64 7]) ∧ Below w.heap.size w w' := by
  obtain ⟨A, cp, rfl, _, _⟩ := h.slice
  have HN := Aside0.mk (fun W => named_is c n W)
  rw [hr] at HN
  have H1 := Aside0.mk ((Below.refl w.heap.size w).alloc (Nat.le_refl _) (.cells #[.slice A l.length cp] 55 (0, 0)))
  have H2 := Aside0.mk (H1.out.alloc H1.out.size (.cells #[.slice none 0 0] 55 (0, 0)))
  have b1 := Aside0.mk (blk_alloc (blk_new w (.cells #[.slice A l.length cp] 55 (0, 0))) (.cells #[.slice none 0 0] 55 (0, 0)))
  have b2 := blk_new (w.alloc (.cells #[.slice A l.length cp] 55 (0, 0))) (.cells #[.slice none 0 0] 55 (0, 0))
  simp only [World.size_alloc] at b2
  replace b2 := Aside0.mk b2
  clear h hr
  have HK : (decide (k < 0) = true) ∨ (decide (k < 0) = false ∧ decide (k ≥ (l.length : Int)) = true) := by
    by_cases h : k < 0
    · exact .inl (decide_eq_true h)
    · exact .inr ⟨decide_eq_false h, decide_eq_true (by omega)⟩
  go_enter Try.func50, Try.ntmps50
  go_wp2_with fail
  refine (HN.out _).mono ?_
  rintro e w2 ⟨rfl, hb⟩
  have c1 := Aside0.mk (blk_below b1.out hb)
  have c2 := Aside0.mk (blk_below b2.out hb)
  have HB := Aside0.mk (H2.out.trans (hb.mono H2.out.size))
  have q0 := (blk_cell c1.out 0).trans rfl
  have q1 := (blk_cell c2.out 0).trans rfl
  have q2 := blk_frozen c2.out 0
  clear hb hk
  rcases HK with d1 | ⟨d1, d2⟩
  · go_wp2_with fail
    refine bodyPost_ret (results_ct rfl _ _ (w.heap.size + 1) 55 #[.slice A l.length cp] (0, 0) _ rfl (blk_put c2.out 0 _ rfl) Try.underlying55 rfl (by kernel_rfl)) rfl ?_
    exact ⟨rfl, below_set HB.out (Nat.le_succ _)⟩
  · go_wp2_with fail
    refine bodyPost_ret (results_ct rfl _ _ (w.heap.size + 1) 55 #[.slice A l.length cp] (0, 0) _ rfl (blk_put c2.out 0 _ rfl) Try.underlying55 rfl (by kernel_rfl)) rfl ?_
    exact ⟨rfl, below_set HB.out (Nat.le_succ _)⟩
set_option maxRecDepth 100000 in
set_option maxHeartbeats 4000000 in
theorem rbegin_full (v : Value) (c : Int) (n : ByteArray) (k : Nat) (l : List S94) (G : Nat → Prop) (w : World) (h : RD w G v l) (hr : rightB c n = true) (hk : k < l.length) (hl : 60 ≤ l.length) :
    Calls Try.prog 50 #[.agg #[v], .int .i64 c, .string n, .int .i64 (k : Int)] w fun e w' => e = .returned (.tuple #[.agg #[v], .int .i64 4]) ∧ Below w.heap.size w w' := by
  have HD := Aside0.mk h
  obtain ⟨A, cp, rfl, _, _⟩ := h.slice
  have HN := Aside0.mk (fun W => named_is c n W)
  rw [hr] at HN
  have H1 := Aside0.mk ((Below.refl w.heap.size w).alloc (Nat.le_refl _) (.cells #[.slice A l.length cp] 55 (0, 0)))
  have H2 := Aside0.mk (H1.out.alloc H1.out.size (.cells #[.slice none 0 0] 55 (0, 0)))
  have b1 := Aside0.mk (blk_alloc (blk_new w (.cells #[.slice A l.length cp] 55 (0, 0))) (.cells #[.slice none 0 0] 55 (0, 0)))
  have b2 := blk_new (w.alloc (.cells #[.slice A l.length cp] 55 (0, 0))) (.cells #[.slice none 0 0] 55 (0, 0))
  simp only [World.size_alloc] at b2
  replace b2 := Aside0.mk b2
  clear h hr
  have d1 : decide ((k : Int) < 0) = false := decide_eq_false (by omega)
  have d2 : decide ((k : Int) ≥ (l.length : Int)) = false := decide_eq_false (by omega)
  go_enter Try.func50, Try.ntmps50
  go_wp2_with fail
  refine (HN.out _).mono ?_
  rintro e w2 ⟨rfl, hb⟩
  have c1 := Aside0.mk (blk_below b1.out hb)
  have c2 := Aside0.mk (blk_below b2.out hb)
  have HB := Aside0.mk (H2.out.trans (hb.mono H2.out.size))
  have q0 := (blk_cell c1.out 0).trans rfl
  have q1 := (blk_cell c2.out 0).trans rfl
  have q2 := blk_frozen c2.out 0
  clear hb
  go_wp2_with fail
  refine (more_full (.slice A l.length cp) l G true c n (k : Int) w2 (HD.out.below HB.out) hl).mono ?_
  rintro e w3 ⟨rfl, hb⟩
  have c3 := Aside0.mk (blk_below c1.out hb)
  have c4 := Aside0.mk (blk_below c2.out hb)
  have HB3 := Aside0.mk (HB.out.trans (hb.mono HB.out.size))
  have c3a := Aside0.mk (blk_alloc c3.out (.cells #[.slice A l.length cp] 55 (0, 0)))
  have c4a := Aside0.mk (blk_alloc c4.out (.cells #[.slice A l.length cp] 55 (0, 0)))
  have r0 := (blk_cell c3a.out 0).trans rfl
  have r1 := (blk_cell c4a.out 0).trans rfl
  have r2 := blk_frozen c4a.out 0
  clear hb q0 q1 q2
  go_wp2_with fail
  refine bodyPost_ret (results_ct rfl _ _ (w.heap.size + 1) 55 #[.slice A l.length cp] (0, 0) _ rfl (blk_put c4a.out 0 _ rfl) Try.underlying55 rfl (by kernel_rfl)) rfl ?_
  exact ⟨rfl, below_set (HB3.out.alloc HB3.out.size _) (Nat.le_succ _)⟩
set_option maxRecDepth 100000 in
set_option maxHeartbeats 8000000 in
theorem rbegin_is (v : Value) (c : Int) (n : ByteArray) (k : Nat) (l : List S94) (G : Nat → Prop) (w : World) (h : RD w G v l) (hr : rightB c n = true) (hk : k < l.length) (hl : l.length < 60) (hu : (rd_T94 l (k : Int)).f0.length ≤ 1000) :
    Calls Try.prog 50 #[.agg #[v], .int .i64 c, .string n, .int .i64 (k : Int)] w fun e w' => ∃ v', e = .returned (.tuple #[.agg #[v'], .int .i64 (if (ofV (ofU c n (rd_T94 l (k : Int)).f0)).2.2.2 = true then 0 else 8)]) ∧
      RD w' (More G w.heap.size w'.heap.size) v' (if (ofV (ofU c n (rd_T94 l (k : Int)).f0)).2.2.2 = true then l ++ [⟨[], true, c, n, (k : Int)⟩] else l) ∧ Below w.heap.size w w' := by
  have HD := Aside0.mk h.cut
  obtain ⟨A, cp, rfl, _, hC⟩ := h.slice
  obtain ⟨ad, A0, c0, rfl, x0, x1, x2, x3, x4, hc0, hC0⟩ := at_T94 hC (k : Int) (by omega) (by omega)
  simp only [Int.toNat_natCast] at x0 x1 x2 x3 x4
  have HN := Aside0.mk (fun W => named_is c n W)
  rw [hr] at HN
  generalize rd_T94 l (k : Int) = x at *
  have HC0 := Aside0.mk hC0
  have HOF := Aside0.mk (fun W (hW : Kd.C k24 W A0 x.f0.length x.f0) => of_is c n x A0 c0 W hW hc0 (Nat.le_trans hu (by decide)))
  generalize ofV (ofU c n x.f0) = y at HOF ⊢
  obtain ⟨o1, o2, o3, o4⟩ := y
  dsimp only at HOF ⊢
  have H1 := Aside0.mk ((Below.refl w.heap.size w).alloc (Nat.le_refl _) (.cells #[.slice (some ad) l.length cp] 55 (0, 0)))
  have H2 := Aside0.mk (H1.out.alloc H1.out.size (.cells #[.slice none 0 0] 55 (0, 0)))
  have b1 := Aside0.mk (blk_alloc (blk_new w (.cells #[.slice (some ad) l.length cp] 55 (0, 0))) (.cells #[.slice none 0 0] 55 (0, 0)))
  have b2 := blk_new (w.alloc (.cells #[.slice (some ad) l.length cp] 55 (0, 0))) (.cells #[.slice none 0 0] 55 (0, 0))
  simp only [World.size_alloc] at b2
  replace b2 := Aside0.mk b2
  clear h hr hC hC0
  have d1 : decide ((k : Int) < 0) = false := decide_eq_false (by omega)
  have d2 : decide ((k : Int) ≥ (l.length : Int)) = false := decide_eq_false (by omega)
  have k0 : (0 : Int) ≤ (k : Int) := by omega
  have k1 : (k : Int) < (l.length : Int) := by omega
  cases o4 with
  | true =>
    go_enter Try.func50, Try.ntmps50
    go_wp2_with fail
    refine (HN.out _).mono ?_
    rintro e w2 ⟨rfl, hb⟩
    have c1 := Aside0.mk (blk_below b1.out hb)
    have c2 := Aside0.mk (blk_below b2.out hb)
    have HB := Aside0.mk (H2.out.trans (hb.mono H2.out.size))
    have HS := Aside0.mk (show w.heap.size + 1 + 1 ≤ w2.heap.size by have := hb.size; simpa using this)
    have q0 := (blk_cell c1.out 0).trans rfl
    clear hb
    go_wp2_with fail
    refine (more_is (.slice (some ad) l.length cp) l (fun k => G k ∧ k < w.heap.size) true c n (k : Int) w2 (HD.out.below HB.out) hl).mono ?_
    rintro e w3 ⟨v', rfl, hD, hb⟩
    obtain ⟨p', q', rfl, _, _⟩ := hD.slice
    have c3 := Aside0.mk (blk_below c1.out hb)
    have c4 := Aside0.mk (blk_below c2.out hb)
    have HB3 := Aside0.mk (HB.out.trans (hb.mono HB.out.size))
    have hal := (Below.refl w3.heap.size w3).alloc (Nat.le_refl _) (.cells #[.slice p' (l ++ [(⟨[], true, c, n, (k : Int)⟩ : S94)]).length q'] 55 (0, 0))
    have HD3 := Aside0.mk (hD.cut.below hal)
    have c3a := Aside0.mk (blk_below c3.out hal)
    have c4a := Aside0.mk (blk_below c4.out hal)
    have cn := Aside0.mk (blk_new w3 (.cells #[.slice p' (l ++ [(⟨[], true, c, n, (k : Int)⟩ : S94)]).length q'] 55 (0, 0)))
    have HB4 := Aside0.mk (HB3.out.trans (hal.mono HB3.out.size))
    have r0 := (blk_cell c3a.out 0).trans rfl
    have y0 := pw_cell_below HB4.out x0
    have y1 := pw_cell_below HB4.out x1
    have y2 := pw_cell_below HB4.out x2
    have y3 := pw_cell_below HB4.out x3
    have y4 := pw_cell_below HB4.out x4
    have HCC := Aside0.mk (Kd.C_below HC0.out HB4.out)
    have HLE := Aside0.mk hb.size
    clear hb hal hD q0 x0 x1 x2 x3 x4
    simp only [List.length_append, List.length_cons, List.length_nil, Nat.zero_add] at HD3 c3a c4a cn HB4 r0 y0 y1 y2 y3 y4 HCC
    go_wp2_with fail
    refine (HOF.out _ HCC.out).mono ?_
    rintro e w5 ⟨rfl, hb⟩
    have al := (Below.refl w5.heap.size w5).alloc (Nat.le_refl _) (.cells #[.int .i64 o1, .string o2, .int .i64 o3] 24 (0, 0))
    have e3 := Aside0.mk (blk_below (blk_below c3a.out hb) al)
    have e4 := Aside0.mk (blk_below (blk_below c4a.out hb) al)
    have en := Aside0.mk (blk_below (blk_below cn.out hb) al)
    have HB5 := Aside0.mk ((HB4.out.trans (hb.mono HB4.out.size)).trans (al.mono (Nat.le_trans HB4.out.size hb.size)))
    have HD5 := Aside0.mk ((HD3.out.below hb).below al)
    have HT := Aside0.mk (show w3.heap.size ≤ (w5.alloc (.cells #[.int .i64 o1, .string o2, .int .i64 o3] 24 (0, 0))).heap.size by have := hb.size; simp at this ⊢; omega)
    have t0 := (blk_cell e3.out 0).trans rfl
    have t1 := (blk_cell e4.out 0).trans rfl
    have t2 := blk_frozen e4.out 0
    have t3 := (blk_cell en.out 0).trans rfl
    clear hb al HN HOF HCC HB3 HB4 HD3 r0 y0 y1 y2 y3 y4
    go_wp2_with fail
    refine bodyPost_ret (results_ct rfl _ _ (w.heap.size + 1) 55 #[.slice p' (l.length + 1) q'] (0, 0) _ rfl (blk_put e4.out 0 _ rfl) Try.underlying55 rfl (by kernel_rfl)) rfl ?_
    refine ⟨_, rfl, ?_, below_set HB5.out (Nat.le_succ _)⟩
    have hS := HS.out
    have hL := HLE.out
    have hT := HT.out
    refine (HD5.out.set (fun k hk e => ?_) _).mono (fun k hk => ?_)
    · dsimp only at e
      rcases hk.1 with h | h <;> omega
    · rw [World.size_setCell]
      rcases hk.1 with h | h
      · exact .inl h.1
      · exact .inr ⟨by omega, by have := hk.2; omega⟩
  | false =>
    go_enter Try.func50, Try.ntmps50
    go_wp2_with fail
    refine (HN.out _).mono ?_
    rintro e w2 ⟨rfl, hb⟩
    have c1 := Aside0.mk (blk_below b1.out hb)
    have c2 := Aside0.mk (blk_below b2.out hb)
    have HB := Aside0.mk (H2.out.trans (hb.mono H2.out.size))
    have HS := Aside0.mk (show w.heap.size + 1 + 1 ≤ w2.heap.size by have := hb.size; simpa using this)
    have q0 := (blk_cell c1.out 0).trans rfl
    clear hb
    go_wp2_with fail
    refine (more_is (.slice (some ad) l.length cp) l (fun k => G k ∧ k < w.heap.size) true c n (k : Int) w2 (HD.out.below HB.out) hl).mono ?_
    rintro e w3 ⟨v', rfl, hD, hb⟩
    obtain ⟨p', q', rfl, _, _⟩ := hD.slice
    have c3 := Aside0.mk (blk_below c1.out hb)
    have c4 := Aside0.mk (blk_below c2.out hb)
    have HB3 := Aside0.mk (HB.out.trans (hb.mono HB.out.size))
    have hal := (Below.refl w3.heap.size w3).alloc (Nat.le_refl _) (.cells #[.slice p' (l ++ [(⟨[], true, c, n, (k : Int)⟩ : S94)]).length q'] 55 (0, 0))
    have HD3 := Aside0.mk (hD.cut.below hal)
    have c3a := Aside0.mk (blk_below c3.out hal)
    have c4a := Aside0.mk (blk_below c4.out hal)
    have cn := Aside0.mk (blk_new w3 (.cells #[.slice p' (l ++ [(⟨[], true, c, n, (k : Int)⟩ : S94)]).length q'] 55 (0, 0)))
    have HB4 := Aside0.mk (HB3.out.trans (hal.mono HB3.out.size))
    have r0 := (blk_cell c3a.out 0).trans rfl
    have y0 := pw_cell_below HB4.out x0
    have y1 := pw_cell_below HB4.out x1
    have y2 := pw_cell_below HB4.out x2
    have y3 := pw_cell_below HB4.out x3
    have y4 := pw_cell_below HB4.out x4
    have HCC := Aside0.mk (Kd.C_below HC0.out HB4.out)
    have HLE := Aside0.mk hb.size
    clear hb hal hD q0 x0 x1 x2 x3 x4
    simp only [List.length_append, List.length_cons, List.length_nil, Nat.zero_add] at HD3 c3a c4a cn HB4 r0 y0 y1 y2 y3 y4 HCC
    go_wp2_with fail
    refine (HOF.out _ HCC.out).mono ?_
    rintro e w5 ⟨rfl, hb⟩
    have al := (Below.refl w5.heap.size w5).alloc (Nat.le_refl _) (.cells #[.int .i64 o1, .string o2, .int .i64 o3] 24 (0, 0))
    have e3 := Aside0.mk (blk_below (blk_below c3a.out hb) al)
    have e4 := Aside0.mk (blk_below (blk_below c4a.out hb) al)
    have en := Aside0.mk (blk_below (blk_below cn.out hb) al)
    have HB5 := Aside0.mk ((HB4.out.trans (hb.mono HB4.out.size)).trans (al.mono (Nat.le_trans HB4.out.size hb.size)))
    have HD5 := Aside0.mk ((HD3.out.below hb).below al)
    have HT := Aside0.mk (show w3.heap.size ≤ (w5.alloc (.cells #[.int .i64 o1, .string o2, .int .i64 o3] 24 (0, 0))).heap.size by have := hb.size; simp at this ⊢; omega)
    have t0 := (blk_cell e3.out 0).trans rfl
    have t1 := (blk_cell e4.out 0).trans rfl
    have t2 := blk_frozen e4.out 0
    have t3 := (blk_cell en.out 0).trans rfl
    clear hb al HN HOF HCC HB3 HB4 HD3 r0 y0 y1 y2 y3 y4
    go_wp2_with fail
    refine bodyPost_ret (results_ct rfl _ _ (w.heap.size + 1) 55 #[.slice (some ad) l.length cp] (0, 0) _ rfl (blk_put e4.out 0 _ rfl) Try.underlying55 rfl (by kernel_rfl)) rfl ?_
    refine ⟨_, rfl, ?_, below_set HB5.out (Nat.le_succ _)⟩
    refine ((HD.out.step (fun q hq _ => HB5.out.block q hq.2)).set (fun k hk e => ?_) _).mono (fun k hk => .inl hk.1)
    have := hk.2
    dsimp only at e
    omega
end Go.Proofs.Ytfahpihbbkkngaa.P

-- from the text Rd
namespace Go.Proofs.Ytfahpihbbkkngaa.P
open Go.RowKit Go.Proofs.YtfahpihbbkkngaaW.PrintWords Go.Proofs.YtfahpihbbkkngaaW.PrintLast Go.Proofs.YtfahpihbbkkngaaW.PrintMore
set_option linter.unusedVariables false
set_option linter.unusedSimpArgs false
theorem C_box24 {W : World} {u : S24} (g : Nat) (hb : W.heap[g]? = some (.cells #[.int .i64 u.f0, .string u.f1, .int .i64 u.f2] 24 (0, 0))) : Kd.C k24 W (some ⟨g, 0, none⟩) 1 [u] := by
  refine ⟨rfl, by decide, fun _ => ⟨⟨g, 0, none⟩, rfl, fun j p hj => ?_⟩⟩
  have hj0 : j = 0 := by
    have := (List.getElem?_eq_some_iff.1 hj).1
    simp at this
    exact this
  subst hj0
  obtain rfl : u = p := by simpa using hj
  refine ⟨_, rfl, k24_mk W u, fun i x hx => ?_⟩
  rw [add_plain]
  refine (blk_cell hb (0 * k24.sz + i)).trans ?_
  simpa using hx
section
variable {ops : Array Oper} {o : Oper} {a : Act} {Kc : Act → World → Prop} {Q : Exit → Act → World → Prop} {W : World}
theorem app64 (w : World) (v : Value) (xs ys : List S24) (A : Option Addr) (m : Nat) {s x : Operand} {c : Nat} (ho : o.op = .call { callee := .builtin .append, args := #[s, x], argTypes := #[64, 64] })
    (hs : a.eval s = v) (hx : a.eval x = .slice A m c) (HO : Kd.R k24 24 W w.heap.size (fun _ => True) v xs) (HR : Kd.C k24 W A m ys) (HB : Below w.heap.size w W) (hl : xs.length + m ≤ 1000000) (N : Tmp) (hN : o.dst = some N) (hw : Region.wanted o (yielded ops a.tmps) = true)
    (h : ∀ v1 w1, Kd.R k24 24 w1 w.heap.size (fun _ => True) v1 (xs ++ ys) → Below w.heap.size w w1 → Kc (a.put (some N) v1) w1) :
    if Region.wanted o (yielded ops a.tmps) = true then Oper.wp Try.prog o a W Kc Q else Kc (a.put (some N) undef) W := by
  have := Kd.R_append_rows_step (P := Try.prog) (Q := Q) k24 (w0 := w) (W := W) (Kc := Kc) (ops := ops) (o := o) (a := a) w.heap.size hw s x 64 24 _ 32 ho Try.underlying64 info24 rfl (by decide) (by decide) v xs ys A m c (fun _ => True) (fun _ => False) hs hx HO HR (fun y cs hk => by obtain rfl := k24_open hk; exact k24_mkM _ _ _ _) (fun _ hk => hk.elim) (fun _ _ => trivial) HB HB.size (by omega)
  rw [hN] at this
  exact this (fun v1 w1 h1 h2 _ _ => h v1 w1 h1 h2)
end
set_option maxRecDepth 100000 in
set_option maxHeartbeats 4000000 in
theorem ron_bad (v : Value) (u : S24) (l : List S94) (G : Nat → Prop) (w : World) (h : RD w G v l) (hr : (rightB u.f0 u.f1 && decide (-2 ≤ u.f2)) = false) :
    Calls Try.prog 47 #[.agg #[v], .agg #[.int .i64 u.f0, .string u.f1, .int .i64 u.f2]] w fun e w' => e = .returned (.tuple #[.agg #[v], .int .i64 1]) ∧ Below w.heap.size w w' := by
  obtain ⟨A, cp, rfl, _, _⟩ := h.slice
  have HN := Aside0.mk (fun W => rvalid_is u W)
  rw [hr] at HN
  have H1 := Aside0.mk ((Below.refl w.heap.size w).alloc (Nat.le_refl _) (.cells #[.slice A l.length cp] 55 (0, 0)))
  have H1 := Aside0.mk (H1.out.alloc H1.out.size (.cells #[.int .i64 u.f0, .string u.f1, .int .i64 u.f2] 24 (0, 0)))
  have H2 := Aside0.mk (H1.out.alloc H1.out.size (.cells #[.slice none 0 0] 55 (0, 0)))
  have b1 := Aside0.mk (blk_alloc (blk_alloc (blk_new w (.cells #[.slice A l.length cp] 55 (0, 0))) (.cells #[.int .i64 u.f0, .string u.f1, .int .i64 u.f2] 24 (0, 0))) (.cells #[.slice none 0 0] 55 (0, 0)))
  have b3 := blk_alloc (blk_new (w.alloc (.cells #[.slice A l.length cp] 55 (0, 0))) (.cells #[.int .i64 u.f0, .string u.f1, .int .i64 u.f2] 24 (0, 0))) (.cells #[.slice none 0 0] 55 (0, 0))
  have b2 := blk_new ((w.alloc (.cells #[.slice A l.length cp] 55 (0, 0))).alloc (.cells #[.int .i64 u.f0, .string u.f1, .int .i64 u.f2] 24 (0, 0))) (.cells #[.slice none 0 0] 55 (0, 0))
  simp only [World.size_alloc] at b2 b3
  replace b3 := Aside0.mk b3
  replace b2 := Aside0.mk b2
  clear h hr
  go_enter Try.func47, Try.ntmps47
  have k0 := (blk_cell b3.out 0).trans rfl
  have k1 := (blk_cell b3.out 1).trans rfl
  have k2 := (blk_cell b3.out 2).trans rfl
  go_wp2_with fail
  refine (HN.out _).mono ?_
  rintro e w2 ⟨rfl, hb⟩
  have c1 := Aside0.mk (blk_below b1.out hb)
  have c2 := Aside0.mk (blk_below b2.out hb)
  have HB := Aside0.mk (H2.out.trans (hb.mono H2.out.size))
  have q0 := (blk_cell c1.out 0).trans rfl
  have q1 := (blk_cell c2.out 0).trans rfl
  have q2 := blk_frozen c2.out 0
  clear hb k0 k1 k2
  go_wp2_with fail
  refine bodyPost_ret (results_ct rfl _ _ (w.heap.size + 1 + 1) 55 #[.slice A l.length cp] (0, 0) _ rfl (blk_put c2.out 0 _ rfl) Try.underlying55 rfl (by kernel_rfl)) rfl ?_
  exact ⟨rfl, below_set HB.out (by omega)⟩
set_option maxRecDepth 100000 in
set_option maxHeartbeats 8000000 in
theorem ron_is (v : Value) (u : S24) (l0 : List S94) (x : S94) (G : Nat → Prop) (w : World) (h : RD w G v (l0 ++ [x])) (hr : (rightB u.f0 u.f1 && decide (-2 ≤ u.f2)) = true) (hl : l0.length ≤ 1000) (hu : x.f0.length ≤ 1000) :
    Calls Try.prog 47 #[.agg #[v], .agg #[.int .i64 u.f0, .string u.f1, .int .i64 u.f2]] w fun e w' => ∃ v', e = .returned (.tuple #[.agg #[v'], .int .i64 0]) ∧ RD w' (More G w.heap.size w'.heap.size) v' (l0 ++ [{ x with f0 := woU u.f0 u.f1 x.f0 ++ [u] }]) ∧ Below w.heap.size w w' := by
  have hD := Aside0.mk h.cut
  obtain ⟨A, cp, rfl, hc, hF⟩ := h.cut
  have hlen : (l0 ++ [x]).length = l0.length + 1 := by simp
  obtain ⟨l, hle⟩ : ∃ l, l0 ++ [x] = l := ⟨_, rfl⟩
  rw [hle] at hF hc hlen hD ⊢
  obtain ⟨ad, A0, c0, rfl, hx0, hx1, hx2⟩ := RD.last (cp := cp) hle hF
  have HX := Aside0.mk hx2
  have HX0 := Aside0.mk hx0
  have HN := Aside0.mk (fun W => rvalid_is u W)
  rw [hr] at HN
  have hwr : wrap64 ((l.length : Int) - 1) = (l0.length : Int) := by unfold wrap64; omega
  have i0 : (0 : Int) ≤ (l0.length : Int) := by omega
  have i1 : (l0.length : Int) < (l.length : Int) := by omega
  have H1 := Aside0.mk ((Below.refl w.heap.size w).alloc (Nat.le_refl _) (.cells #[.slice (some ad) l.length cp] 55 (0, 0)))
  have H1 := Aside0.mk (H1.out.alloc H1.out.size (.cells #[.int .i64 u.f0, .string u.f1, .int .i64 u.f2] 24 (0, 0)))
  have H2 := Aside0.mk (H1.out.alloc H1.out.size (.cells #[.slice none 0 0] 55 (0, 0)))
  have b1 := Aside0.mk (blk_alloc (blk_alloc (blk_new w (.cells #[.slice (some ad) l.length cp] 55 (0, 0))) (.cells #[.int .i64 u.f0, .string u.f1, .int .i64 u.f2] 24 (0, 0))) (.cells #[.slice none 0 0] 55 (0, 0)))
  have b3 := blk_alloc (blk_new (w.alloc (.cells #[.slice (some ad) l.length cp] 55 (0, 0))) (.cells #[.int .i64 u.f0, .string u.f1, .int .i64 u.f2] 24 (0, 0))) (.cells #[.slice none 0 0] 55 (0, 0))
  have b2 := blk_new ((w.alloc (.cells #[.slice (some ad) l.length cp] 55 (0, 0))).alloc (.cells #[.int .i64 u.f0, .string u.f1, .int .i64 u.f2] 24 (0, 0))) (.cells #[.slice none 0 0] 55 (0, 0))
  simp only [World.size_alloc] at b2 b3
  replace b3 := Aside0.mk b3
  replace b2 := Aside0.mk b2
  replace hlen := Aside0.mk hlen
  replace hle := Aside0.mk hle
  clear h hr hF hx0 hx2
  go_enter Try.func47, Try.ntmps47
  go_wp2_with fail
  refine (HN.out _).mono ?_
  rintro e w2 ⟨rfl, hb⟩
  have c1 := Aside0.mk (blk_below b1.out hb)
  have c2 := Aside0.mk (blk_below b2.out hb)
  have HB := Aside0.mk (H2.out.trans (hb.mono H2.out.size))
  have c3 := Aside0.mk (blk_below b3.out hb)
  have hS0 := Aside0.mk (show w.heap.size + 1 + 1 + 1 ≤ w2.heap.size by have := hb.size; simpa using this)
  have hxc := Aside0.mk (pw_cell_below HB.out HX0.out)
  clear hb HN H1 H2 b1 b2 b3
  go_wp2_with fail
  refine start_ (n := 21) (S := fun W => Below w2.heap.size w2 W) (ds := [19]) #[false, false, false, false, false, false, false, false, false, false, false, false, false, false, false, false, false, false, false, false, false] (by kernel_rfl) rfl rfl (below_drew (Below.refl _ _)) (fun hHeld => ?_)
  generalize w2.drew = w3 at hHeld ⊢
  refine take_ (i := 0) (N := some 10) (v := ?_) (a' := ?_) #[true, false, false, false, false, false, false, false, false, false, false, false, false, false, false, false, false, false, false, false, false] rfl rfl (by kernel_rfl) (fun _ _ _ h => h) (Or.inl ⟨by rfl, ?_⟩) hHeld ?_ ?_
  rotate_left
  · rintro w_ hs_
    have s0 := (blk_cell (blk_below c1.out hs_) 0).trans rfl
    go_simp
    with_reducible rfl
  rotate_left
  · simp only [Act.put, List.setIfInBounds_toArray, List.set_cons_zero, List.set_cons_succ, i64_w, i32_w]
    rfl
  refine pure_ (i := 1) (N := some 11) (v := ?_) (a' := ?_) #[true, true, false, false, false, false, false, false, false, false, false, false, false, false, false, false, false, false, false, false, false] rfl rfl (by kernel_rfl) (fun _ _ _ h => h) (Or.inl ⟨by rfl, ?_⟩) ?_ ?_
  rotate_left
  · intro w_
    go_simp
    with_reducible rfl
  rotate_left
  · simp only [Act.put, List.setIfInBounds_toArray, List.set_cons_zero, List.set_cons_succ, i64_w, i32_w]
    rfl
  refine take_ (i := 2) (N := some 12) (v := ?_) (a' := ?_) #[true, true, true, false, false, false, false, false, false, false, false, false, false, false, false, false, false, false, false, false, false] rfl rfl (by kernel_rfl) (fun _ _ _ h => h) (Or.inl ⟨by rfl, ?_⟩) hHeld ?_ ?_
  rotate_left
  · rintro w_ hs_
    have s0 := (blk_cell (blk_below c1.out hs_) 0).trans rfl
    go_simp
    with_reducible rfl
  rotate_left
  · simp only [Act.put, List.setIfInBounds_toArray, List.set_cons_zero, List.set_cons_succ, i64_w, i32_w]
    rfl
  refine pure_ (i := 3) (N := some 13) (v := ?_) (a' := ?_) #[true, true, true, true, false, false, false, false, false, false, false, false, false, false, false, false, false, false, false, false, false] rfl rfl (by kernel_rfl) (fun _ _ _ h => h) (Or.inl ⟨by rfl, ?_⟩) ?_ ?_
  rotate_left
  · intro w_
    go_simp
    with_reducible rfl
  rotate_left
  · simp only [Act.put, List.setIfInBounds_toArray, List.set_cons_zero, List.set_cons_succ, i64_w, i32_w]
    rfl
  refine take_ (i := 4) (N := some 14) (v := ?_) (a' := ?_) #[true, true, true, true, true, false, false, false, false, false, false, false, false, false, false, false, false, false, false, false, false] rfl rfl (by kernel_rfl) (fun _ _ _ h => h) (Or.inl ⟨by rfl, ?_⟩) hHeld ?_ ?_
  rotate_left
  · rintro w_ hs_
    have s0 := (blk_cell (blk_below c1.out hs_) 0).trans rfl
    go_simp
    with_reducible rfl
  rotate_left
  · simp only [Act.put, List.setIfInBounds_toArray, List.set_cons_zero, List.set_cons_succ, i64_w, i32_w]
    rfl
  refine pure_ (i := 5) (N := some 15) (v := ?_) (a' := ?_) #[true, true, true, true, true, true, false, false, false, false, false, false, false, false, false, false, false, false, false, false, false] rfl rfl (by kernel_rfl) (fun _ _ _ h => h) (Or.inl ⟨by rfl, ?_⟩) ?_ ?_
  rotate_left
  · intro w_
    go_simp
    with_reducible rfl
  rotate_left
  · simp only [Act.put, List.setIfInBounds_toArray, List.set_cons_zero, List.set_cons_succ, i64_w, i32_w]
    rfl
  refine pure_ (i := 6) (N := some 16) (v := ?_) (a' := ?_) #[true, true, true, true, true, true, true, false, false, false, false, false, false, false, false, false, false, false, false, false, false] rfl rfl (by kernel_rfl) (fun _ _ _ h => h) (Or.inl ⟨by rfl, ?_⟩) ?_ ?_
  rotate_left
  · intro w_
    go_simp
    with_reducible rfl
  rotate_left
  · simp only [Act.put, List.setIfInBounds_toArray, List.set_cons_zero, List.set_cons_succ, i64_w, i32_w]
    rfl
  refine pure_ (i := 7) (N := some 17) (v := ?_) (a' := ?_) #[true, true, true, true, true, true, true, true, false, false, false, false, false, false, false, false, false, false, false, false, false] rfl rfl (by kernel_rfl) (fun _ _ _ h => h) (Or.inl ⟨by rfl, ?_⟩) ?_ ?_
  rotate_left
  · intro w_
    go_simp
    with_reducible rfl
  rotate_left
  · simp only [Act.put, List.setIfInBounds_toArray, List.set_cons_zero, List.set_cons_succ, i64_w, i32_w]
    rfl
  refine pure_ (i := 8) (N := some 18) (v := ?_) (a' := ?_) #[true, true, true, true, true, true, true, true, true, false, false, false, false, false, false, false, false, false, false, false, false] rfl rfl (by kernel_rfl) (fun _ _ _ h => h) (Or.inl ⟨by rfl, ?_⟩) ?_ ?_
  rotate_left
  · intro w_
    go_simp
    with_reducible rfl
  rotate_left
  · simp only [Act.put, List.setIfInBounds_toArray, List.set_cons_zero, List.set_cons_succ, i64_w, i32_w]
    rfl
  refine take_ (i := 9) (N := some 19) (v := ?_) (a' := ?_) #[true, true, true, true, true, true, true, true, true, true, false, false, false, false, false, false, false, false, false, false, false] rfl rfl (by kernel_rfl) (fun _ _ _ h => h) (Or.inl ⟨by rfl, ?_⟩) hHeld ?_ ?_
  rotate_left
  · rintro w_ hs_
    have s0 := pw_cell_below hs_ hxc.out
    go_simp
    with_reducible rfl
  rotate_left
  · simp only [Act.put, List.setIfInBounds_toArray, List.set_cons_zero, List.set_cons_succ, i64_w, i32_w]
    rfl
  refine pure_ (i := 10) (N := some 20) (v := ?_) (a' := ?_) #[true, true, true, true, true, true, true, true, true, true, true, false, false, false, false, false, false, false, false, false, false] rfl rfl (by kernel_rfl) (fun _ _ _ h => h) (Or.inl ⟨by rfl, ?_⟩) ?_ ?_
  rotate_left
  · intro w_
    go_simp
    with_reducible rfl
  rotate_left
  · simp only [Act.put, List.setIfInBounds_toArray, List.set_cons_zero, List.set_cons_succ, i64_w, i32_w]
    rfl
  refine take_ (i := 11) (N := some 21) (v := ?_) (a' := ?_) #[true, true, true, true, true, true, true, true, true, true, true, true, false, false, false, false, false, false, false, false, false] rfl rfl (by kernel_rfl) (fun _ _ _ h => h) (Or.inl ⟨by rfl, ?_⟩) hHeld ?_ ?_
  rotate_left
  · rintro w_ hs_
    have s0 := (blk_cell (blk_below c3.out hs_) 0).trans rfl
    have s1 := (blk_cell (blk_below c3.out hs_) 1).trans rfl
    have s2 := (blk_cell (blk_below c3.out hs_) 2).trans rfl
    go_simp
    with_reducible rfl
  rotate_left
  · simp only [Act.put, List.setIfInBounds_toArray, List.set_cons_zero, List.set_cons_succ, i64_w, i32_w]
    rfl
  refine pure_ (i := 12) (N := some 22) (v := ?_) (a' := ?_) #[true, true, true, true, true, true, true, true, true, true, true, true, true, false, false, false, false, false, false, false, false] rfl rfl (by kernel_rfl) (fun _ _ _ h => h) (Or.inl ⟨by rfl, ?_⟩) ?_ ?_
  rotate_left
  · intro w_
    go_simp
    with_reducible rfl
  rotate_left
  · simp only [Act.put, List.setIfInBounds_toArray, List.set_cons_zero, List.set_cons_succ, i64_w, i32_w]
    rfl
  refine take_ (i := 13) (N := some 23) (v := ?_) (a' := ?_) #[true, true, true, true, true, true, true, true, true, true, true, true, true, true, false, false, false, false, false, false, false] rfl rfl (by kernel_rfl) (fun _ _ _ h => h) (Or.inl ⟨by rfl, ?_⟩) hHeld ?_ ?_
  rotate_left
  · rintro w_ hs_
    have s0 := (blk_cell (blk_below c3.out hs_) 0).trans rfl
    have s1 := (blk_cell (blk_below c3.out hs_) 1).trans rfl
    have s2 := (blk_cell (blk_below c3.out hs_) 2).trans rfl
    go_simp
    with_reducible rfl
  rotate_left
  · simp only [Act.put, List.setIfInBounds_toArray, List.set_cons_zero, List.set_cons_succ, i64_w, i32_w]
    rfl
  refine take_ (i := 15) (N := some 25) (v := ?_) (a' := ?_) #[true, true, true, true, true, true, true, true, true, true, true, true, true, true, false, true, false, false, false, false, false] rfl rfl (by kernel_rfl) (fun _ _ _ h => h) (Or.inl ⟨by rfl, ?_⟩) hHeld ?_ ?_
  rotate_left
  · rintro w_ hs_
    have s0 := (blk_cell (blk_below c3.out hs_) 0).trans rfl
    have s1 := (blk_cell (blk_below c3.out hs_) 1).trans rfl
    have s2 := (blk_cell (blk_below c3.out hs_) 2).trans rfl
    go_simp
    with_reducible rfl
  rotate_left
  · simp only [Act.put, List.setIfInBounds_toArray, List.set_cons_zero, List.set_cons_succ, i64_w, i32_w]
    rfl
  refine join_ (σ := Value × Nat) 4 #[true, true, true, true, true, true, true, true, true, true, true, true, true, true, true, true, true, false, false, false, false] (fun q => [(24, q.1), (26, .slice (some ⟨q.2, 0, none⟩) 1 1)]) (fun q W => Kd.R k24 24 W w2.heap.size (fun _ => True) q.1 (woU u.f0 u.f1 x.f0) ∧ W.heap[q.2]? = some (.cells #[.int .i64 u.f0, .string u.f1, .int .i64 u.f2] 24 (0, 0)) ∧ Below w2.heap.size w2 W) ?_ ?_
  · rintro ⟨v0, g⟩ W ⟨hR0, hG, hB⟩
    dsimp only at hR0 hG
    refine norm_ (a' := ?_) ?_ ?_
    rotate_left
    · simp only [putAll, Act.put, List.setIfInBounds_toArray, List.set_cons_zero, List.set_cons_succ, i64_w, i32_w]
      rfl
    refine one_ (i := 17) (N := some 27) #[true, true, true, true, true, true, true, true, true, true, true, true, true, true, true, true, true, true, false, false, false] rfl rfl (by kernel_rfl) (by decide) (fun K' hK => ?_)
    refine app64 w2 v0 (woU u.f0 u.f1 x.f0) [u] (some ⟨g, 0, none⟩) 1 rfl rfl rfl hR0 (C_box24 g hG) hB (Nat.le_trans (Nat.add_le_add_right (Nat.le_trans (woU_le _ _ _) hu) 1) (by decide)) 27 rfl (by rfl) ?_
    intro v1 w5 hR1 hB5
    obtain ⟨p1, q1, rfl⟩ := Kd.R_slice hR1
    refine hK.out _ _ hB5 (fun hHeld => ?_)
    clear hK K' hR0 hG hB
    refine norm_ (a' := ?_) ?_ ?_
    rotate_left
    · show Act.put _ (some 27) _ = _
      simp only [Act.put, List.setIfInBounds_toArray, List.set_cons_zero, List.set_cons_succ, i64_w, i32_w]
      rfl
    refine one_ (i := 18) (N := some 28) #[true, true, true, true, true, true, true, true, true, true, true, true, true, true, true, true, true, true, true, false, false] rfl rfl (by kernel_rfl) (by decide) (fun K' hK => ?_)
    refine goes_ Try.func64 (by kernel_rfl) rfl #[.agg #[.slice (some ad) l.length cp], .slice p1 ((woU u.f0 u.f1 x.f0) ++ [u]).length q1] (by rfl) rfl rfl (by (try simp only [List.map_toArray, List.map_cons, List.map_nil]); first | done | rfl) ?_
    refine (rnewest_is (.slice (some ad) l.length cp) (.slice p1 ((woU u.f0 u.f1 x.f0) ++ [u]).length q1) l0 x ((woU u.f0 u.f1 x.f0) ++ [u]) (fun k => (G k ∧ k < w.heap.size) ∨ w.heap.size + 1 + 1 < k) w5 ?_ ?_ hl).mono ?_
    · rw [hle.out]
      exact (hD.out.step (fun q hq _ => (hB5.mono HB.out.size |>.block q hq.2).trans (HB.out.block q hq.2))).mono (fun q hq => .inl hq)
    · exact RU.of_R hR1 (fun q hq _ => .inr (by have := hS0.out; omega))
    rintro e w6 ⟨v2, rfl, hD1, hb⟩
    obtain ⟨p2, q2, rfl, _, _⟩ := hD1.slice
    have hD2 := hD1.cut
    have hB6 := hB5.trans (hb.mono hB5.size)
    have c2' := Aside0.mk (blk_below c2.out hB6)
    have HB6 := Aside0.mk (HB.out.trans (hB6.mono HB.out.size))
    have hS4 := hb.size
    have hS5 := hB5.size
    have hS6 := hS0.out
    refine ⟨_, rfl, ?_⟩
    refine hK.out _ _ hB6 (fun hHeld => ?_)
    clear hb hK K' hR1 hD1 hB6
    refine norm_ (a' := ?_) ?_ ?_
    rotate_left
    · show Act.put _ (some 28) _ = _
      simp only [Act.put, List.setIfInBounds_toArray, List.set_cons_zero, List.set_cons_succ, i64_w, i32_w]
      rfl
    have hc3 := (blk_cell c2'.out 0).trans rfl
    have hf3 := blk_frozen c2'.out 0
    refine last_ (i := 19) (N := none) #[true, true, true, true, true, true, true, true, true, true, true, true, true, true, true, true, true, true, true, true, false] rfl rfl (by kernel_rfl) (by decide) (fun K' hK => ?_)
    refine skip_ (w1 := ?_) (by rfl) rfl ?_ ?_
    rotate_left
    · go_simp
      rfl
    refine hK.out _ _ ?_
    clear hK K' hHeld
    refine pure_ (i := 20) (N := some 5) (v := ?_) (a' := ?_) #[true, true, true, true, true, true, true, true, true, true, true, true, true, true, true, true, true, true, true, true, true] rfl rfl (by kernel_rfl) (fun _ _ _ h => h) (Or.inl ⟨by rfl, ?_⟩) ?_ ?_
    rotate_left
    · intro w_
      go_simp
      with_reducible rfl
    rotate_left
    · simp only [Act.put, List.setIfInBounds_toArray, List.set_cons_zero, List.set_cons_succ, i64_w, i32_w]
      rfl
    refine done_ (by kernel_rfl) ?_
    have HF := Aside0.mk (RD.mono (G' := fun k => More G w.heap.size w6.heap.size k) (hD2.set (p := ⟨w.heap.size + 1 + 1, 0, none⟩) (fun k hk e => by dsimp only at e; subst e; rcases hk.1 with (h | h) | h <;> omega) (.slice p2 (l0 ++ [{ x with f0 := (woU u.f0 u.f1 x.f0) ++ [u] }]).length q2)) (fun k hk => by
      rcases hk.1 with (h | h) | h
      · exact .inl h.1
      · exact .inr ⟨by omega, hk.2⟩
      · exact .inr ⟨by omega, hk.2⟩))
    have HB2 := Aside0.mk (below_set (j := 0) (v := .slice p2 (l0 ++ [{ x with f0 := (woU u.f0 u.f1 x.f0) ++ [u] }]).length q2) HB6.out (show w.heap.size ≤ w.heap.size + 1 + 1 by omega))
    have c3' := Aside0.mk (blk_put c2'.out 0 (.slice p2 (l0 ++ [{ x with f0 := (woU u.f0 u.f1 x.f0) ++ [u] }]).length q2) rfl)
    clear hD2 c2' hc3 hf3 HB6 hB5
    simp only [List.length_append, List.length_cons, List.length_nil, Nat.zero_add] at HF HB2 c3'
    go_wp2_with fail
    refine bodyPost_ret (results_ct rfl _ _ (w.heap.size + 1 + 1) 55 #[.slice p2 (l0.length + 1) q2] (0, 0) _ rfl c3'.out Try.underlying55 rfl (by kernel_rfl)) rfl ?_
    exact ⟨_, rfl, HF.out.mono (fun k hk => by rw [World.size_setCell]; exact hk), HB2.out⟩
  · intro hj
    refine two_ (i := 14) (j := 16) (Ni := some 24) (Nj := some 26) #[true, true, true, true, true, true, true, true, true, true, true, true, true, true, true, true, false, false, false, false, false] #[true, true, true, true, true, true, true, true, true, true, true, true, true, true, false, true, true, false, false, false, false] rfl rfl rfl rfl (by kernel_rfl) (by decide) (by decide) (fun K' hK => ?_) (fun K' hK => ?_)
    · refine goes_ Try.func65 (by kernel_rfl) rfl #[.slice A0 x.f0.length c0, .int .i64 u.f0, .string u.f1] (by rfl) rfl rfl (by (try simp only [List.map_toArray, List.map_cons, List.map_nil]); first | done | rfl) ?_
      refine (without_is u.f0 u.f1 (.slice A0 x.f0.length c0) x.f0 (fun k => G k ∧ k < w.heap.size) w3 ⟨A0, c0, rfl, hx1, Kd.F_step HX.out (fun q hq _ => (hHeld.mono HB.out.size |>.block q hq.2).trans (HB.out.block q hq.2))⟩ (Nat.le_trans hu (by decide))).mono ?_
      rintro e w4 ⟨v0, rfl, hR0, hb⟩
      refine ⟨_, rfl, ?_⟩
      have hb2 := hHeld.size
      refine hK.out _ _ (hHeld.trans (hb.mono hHeld.size)) (fun hHeld => ?_)
      clear hb hK K'
      refine norm_ (a' := ?_) ?_ ?_
      rotate_left
      · show Act.put _ (some 24) _ = _
        simp only [Act.put, List.setIfInBounds_toArray, List.set_cons_zero, List.set_cons_succ, i64_w, i32_w]
        rfl
      refine one_ (i := 16) (N := some 26) #[true, true, true, true, true, true, true, true, true, true, true, true, true, true, true, true, true, false, false, false, false] rfl rfl (by kernel_rfl) (by decide) (fun K' hK => ?_)
      refine value_ (w1 := w4.alloc (.cells #[.int .i64 u.f0, .string u.f1, .int .i64 u.f2] 24 (0, 0))) (v := .slice (some ⟨w4.heap.size, 0, none⟩) 1 1) (by rfl) rfl ?_ ?_
      · go_simp
      refine hK.out _ _ (hHeld.alloc hHeld.size _) (fun _ => ?_)
      clear hK K'
      refine norm_ ?_ (hj (v0, w4.heap.size) _ ⟨Kd.R_alloc (Kd.R_lower hR0 hb2) _, blk_new _ _, (hHeld.alloc hHeld.size _)⟩)
      simp only [putAll, Act.put, List.setIfInBounds_toArray, List.set_cons_zero, List.set_cons_succ]
    · refine value_ (w1 := w3.alloc (.cells #[.int .i64 u.f0, .string u.f1, .int .i64 u.f2] 24 (0, 0))) (v := .slice (some ⟨w3.heap.size, 0, none⟩) 1 1) (by rfl) rfl ?_ ?_
      · go_simp
      have hg := blk_new w3 (.cells #[.int .i64 u.f0, .string u.f1, .int .i64 u.f2] 24 (0, 0))
      refine hK.out _ _ (hHeld.alloc hHeld.size _) (fun hHeld => ?_)
      clear hK K'
      refine norm_ (a' := ?_) ?_ ?_
      rotate_left
      · show Act.put _ (some 26) _ = _
        simp only [Act.put, List.setIfInBounds_toArray, List.set_cons_zero, List.set_cons_succ, i64_w, i32_w]
        rfl
      refine one_ (i := 14) (N := some 24) #[true, true, true, true, true, true, true, true, true, true, true, true, true, true, true, true, true, false, false, false, false] rfl rfl (by kernel_rfl) (by decide) (fun K' hK => ?_)
      refine goes_ Try.func65 (by kernel_rfl) rfl #[.slice A0 x.f0.length c0, .int .i64 u.f0, .string u.f1] (by rfl) rfl rfl (by (try simp only [List.map_toArray, List.map_cons, List.map_nil]); first | done | rfl) ?_
      refine (without_is u.f0 u.f1 (.slice A0 x.f0.length c0) x.f0 (fun k => G k ∧ k < w.heap.size) (w3.alloc (.cells #[.int .i64 u.f0, .string u.f1, .int .i64 u.f2] 24 (0, 0))) ⟨A0, c0, rfl, hx1, Kd.F_step HX.out (fun q hq _ => (hHeld.mono HB.out.size |>.block q hq.2).trans (HB.out.block q hq.2))⟩ (Nat.le_trans hu (by decide))).mono ?_
      rintro e w4 ⟨v0, rfl, hR0, hb⟩
      refine ⟨_, rfl, ?_⟩
      have hb2 := hHeld.size
      have hB4 := hHeld.trans (hb.mono hHeld.size)
      refine hK.out _ _ hB4 (fun hHeld => ?_)
      clear hK K'
      refine norm_ ?_ (hj (v0, w3.heap.size) _ ⟨Kd.R_lower hR0 hb2, blk_below hg hb, hB4⟩)
      simp only [putAll, Act.put, List.setIfInBounds_toArray, List.set_cons_zero, List.set_cons_succ]
end Go.Proofs.Ytfahpihbbkkngaa.P

-- from the text Rf
namespace Go.Proofs.Ytfahpihbbkkngaa.P
open Go.RowKit Go.Proofs.YtfahpihbbkkngaaW.PrintWords Go.Proofs.YtfahpihbbkkngaaW.PrintLast Go.Proofs.YtfahpihbbkkngaaW.PrintMore
set_option linter.unusedVariables false
set_option linter.unusedSimpArgs false
/-- A frame of the code's and one of the reference's. -/
structure FrRel (m : Nat) (p : Fr × S94) : Prop where
  us : p.1.us = p.2.f0
  len : p.1.us.length ≤ m
  uq : Uniq p.1.us
  bl : 0 ≤ p.1.bl ∧ p.1.bl ≤ 1000
  run : if p.2.f1 = true then p.1.rc = p.2.f2 ∧ p.1.rn = p.2.f3 ∧ p.1.bl = p.2.f4 else p.1.rc = 0
structure Rel (m : Nat) (D : List (Fr × S94)) : Prop where
  pos : 1 ≤ D.length
  le : D.length ≤ 60
  fr : ∀ p ∈ D, FrRel m p
theorem Rel.more {m m' : Nat} {D : List (Fr × S94)} (h : Rel m D) (hm : m ≤ m') : Rel m' D := ⟨h.pos, h.le, fun p hp => ⟨(h.fr p hp).us, Nat.le_trans (h.fr p hp).len hm, (h.fr p hp).uq, (h.fr p hp).bl, (h.fr p hp).run⟩⟩
theorem Rel.add {m : Nat} {D : List (Fr × S94)} {q : Fr × S94} (h : Rel m D) (hl : D.length < 60) (hq : FrRel m q) : Rel m (D ++ [q]) := by
  refine ⟨by simp, by simp; omega, fun p hp => ?_⟩
  rcases List.mem_append.1 hp with hp | hp
  · exact h.fr p hp
  · simp only [List.mem_singleton] at hp
    subst hp
    exact hq
theorem Rel.top {m : Nat} {D0 : List (Fr × S94)} {p q : Fr × S94} (h : Rel m (D0 ++ [p])) (hq : FrRel m q) : Rel m (D0 ++ [q]) := by
  refine ⟨by simp, by have := h.le; simpa using this, fun x hx => ?_⟩
  rcases List.mem_append.1 hx with hx | hx
  · exact h.fr x (List.mem_append_left _ hx)
  · simp only [List.mem_singleton] at hx
    subst hx
    exact hq
theorem Rel.take {m : Nat} {D : List (Fr × S94)} (h : Rel m D) (k : Nat) (h1 : 1 ≤ k) (h2 : k ≤ D.length) : Rel m (D.take k) :=
  ⟨by simp; omega, by have := h.le; simp; omega, fun p hp => h.fr p (List.mem_of_mem_take hp)⟩
theorem Rel.last {m : Nat} {D : List (Fr × S94)} (h : Rel m D) : ∃ D0 f r, D = D0 ++ [(f, r)] := by
  rcases List.eq_nil_or_concat D with rfl | ⟨D0, p, rfl⟩
  · have := h.pos
    simp at this
  · exact ⟨D0, p.1, p.2, by simp⟩
theorem frRel_new (m : Nat) : FrRel m (fr0, z94) := ⟨rfl, by simp [fr0], by simp [fr0, Uniq], by simp [fr0], by simp [z94, fr0]⟩
theorem rel_new : Rel 0 [(fr0, z94)] := ⟨by simp, by simp, fun p hp => by simp only [List.mem_singleton] at hp; subst hp; exact frRel_new 0⟩
theorem revU_wo (c : Int) (n : ByteArray) (us : List S24) (h : Uniq us) : revU c n us = woU c n us := by
  have hno := revU_no c n us h
  rcases revU_cases c n us with ⟨e, h1⟩ | ⟨a, u, b, rfl, e, h2, h3⟩
  · rw [e]
    unfold woU
    rw [List.filter_eq_self.2 (fun x hx => by rw [h1 x hx]; rfl)]
  · rw [e] at hno ⊢
    unfold woU
    rw [List.filter_append, List.filter_cons, h2]
    simp only [Bool.not_true, Bool.false_eq_true, if_false]
    rw [List.filter_eq_self.2 (fun x hx => by rw [hno x (List.mem_append_left _ hx)]; rfl), List.filter_eq_self.2 (fun x hx => by rw [hno x (List.mem_append_right _ hx)]; rfl)]
theorem of_idx (c : Int) (n : ByteArray) (us : List S24) : (ofV (ofU c n us)).2.2.2 = true ↔ idxU c n us 0 ≠ none := by
  have h1 := idxU_none c n us 0
  cases ho : ofU c n us with
  | none =>
    have : ∀ u ∈ us, hit c n u = false := fun u hu => by
      have := List.find?_eq_none.1 ho u hu
      simpa using this
    rw [h1.2 this]
    simp [ofV]
  | some u =>
    have hm := List.mem_of_find?_eq_some ho
    have hh := List.find?_some ho
    simp only [ofV, true_iff]
    intro e
    have := h1.1 e u hm
    rw [this] at hh
    cases hh
theorem of_find (c : Int) (n : ByteArray) : ∀ (us : List S24) (i : Nat), (idxU c n us i = none ∧ ofU c n us = none) ∨ ∃ j u, idxU c n us i = some (i + j) ∧ ofU c n us = some u ∧ us[j]? = some u
  | [], i => .inl ⟨rfl, rfl⟩
  | x :: r, i => by
    rw [idxU_cons]
    cases h : hit c n x with
    | true => exact .inr ⟨0, x, by simp, by simp [ofU, h], rfl⟩
    | false =>
      rw [if_neg (by simp)]
      rcases of_find c n r (i + 1) with ⟨h1, h2⟩ | ⟨j, u, h1, h2, h3⟩
      · exact .inl ⟨h1, by simpa [ofU, h] using h2⟩
      · exact .inr ⟨j + 1, u, by rw [h1]; congr 1; omega, by simpa [ofU, h] using h2, h3⟩
theorem z94_rel (m : Nat) (D : List (Fr × S94)) (h : ∀ p ∈ D, FrRel m p) (k : Nat) : FrRel m ((D.map Prod.fst).getD k fr0, rd_T94 (D.map Prod.snd) (k : Int)) := by
  unfold rd_T94
  rw [Int.toNat_natCast, List.getD_eq_getElem?_getD, List.getD_eq_getElem?_getD, List.getElem?_map, List.getElem?_map]
  cases hk : D[k]? with
  | none => exact frRel_new m
  | some p => exact h p (List.mem_of_getElem? hk)
/-- What Meet tells, as the reference does. -/
def meetT : Option (Nat × S24) → Int × ByteArray × Int × Int × Int
  | some (k, u) => (u.f0, u.f1, u.f2, (k : Int), 0)
  | none => (0, ⟨#[]⟩, 0, 0, 8)
theorem meet_l1 (m : Nat) (hm : m ≤ 100000) (c : Int) (n : ByteArray) (D : List (Fr × S94)) (h : ∀ p ∈ D, FrRel m p) (hl : D.length ≤ 1000) : ∀ (N : Nat), N ≤ D.length → Ev (fun k => ironbarkref20_Meet.l1 k c n ((N : Int) - 1) (D.map Prod.snd)) (meetT (findL c n (D.map Prod.fst) N))
  | 0, _ => by
    refine Ev.step (f := fun _ => some (0, ⟨#[]⟩, 0, 0, 8)) (fun k => ?_) (Ev.now _)
    show ironbarkref20_Meet.l1 (k + 1) c n (((0 : Nat) : Int) - 1) (D.map Prod.snd) = _
    conv => lhs; unfold ironbarkref20_Meet.l1
    rw [if_neg (by omega)]
  | N + 1, hN => by
    have e : (((N + 1 : Nat) : Int) - 1) = (N : Int) := by omega
    have hw : wrap64 ((N : Int) - 1) = (N : Int) - 1 := by unfold wrap64; omega
    have hr := z94_rel m D h N
    have hrl := hr.len
    have hru := hr.us
    dsimp only at hrl hru
    rw [hru] at hrl
    refine Ev.step (f := fun k => (ironbarkref20_of.f k (rd_T94 (D.map Prod.snd) (N : Int)).f0 (rd_T94 (D.map Prod.snd) (N : Int)).f1 (rd_T94 (D.map Prod.snd) (N : Int)).f2 (rd_T94 (D.map Prod.snd) (N : Int)).f3 (rd_T94 (D.map Prod.snd) (N : Int)).f4 c n).bind fun bt107 => (if bt107.2.2.2 = true then (some (bt107.1, bt107.2.1, bt107.2.2.1, (N : Int), 0)) else (ironbarkref20_Meet.l1 k c n ((N : Int) - 1) (D.map Prod.snd)))) (fun k => ?_) ?_
    · show ironbarkref20_Meet.l1 (k + 1) c n (((N + 1 : Nat) : Int) - 1) (D.map Prod.snd) = _
      rw [e]
      conv => lhs; unfold ironbarkref20_Meet.l1
      rw [if_pos (by omega), if_pos (by omega), if_pos (by simp; omega), hw]
    · refine Ev.bind (f := fun k bt107 => _) (of_ev c n _ _ _ _ _ (Nat.le_trans hrl hm) (rd_T94 (D.map Prod.snd) (N : Int)).f0.length 0 (by omega) (by omega)) ?_
      rw [List.drop_zero]
      unfold findL
      rw [hru]
      rcases of_find c n (rd_T94 (D.map Prod.snd) (N : Int)).f0 0 with ⟨h1, h2⟩ | ⟨j, u, h1, h2, h3⟩
      · rw [h1, h2]
        simp only [ofV, Bool.false_eq_true, if_false]
        exact meet_l1 m hm c n D h hl N (by omega)
      · rw [h1, h2]
        simp only [ofV, if_true, Nat.zero_add, h3, Option.getD_some, meetT]
        exact Ev.now _
theorem runs_rel (m : Nat) (c : Int) (n : ByteArray) (p : Fr × S94) (h : FrRel m p) (hc : 1 ≤ c) : runs c n p.1 = (p.2.f1 && (p.2.f2 == c && (p.2.f3.toList == n.toList))) := by
  have hr := h.run
  unfold runs
  cases h1 : p.2.f1 with
  | true =>
    rw [h1, if_pos rfl] at hr
    rw [hr.1, hr.2.1]
    simp
  | false =>
    rw [h1, if_neg (by simp)] at hr
    rw [hr]
    have : ((0 : Int) == c) = false := by simp; omega
    simp [this]
theorem meet_l0 (m : Nat) (hm : m ≤ 100000) (c : Int) (n : ByteArray) (hc : 1 ≤ c) (D : List (Fr × S94)) (h : ∀ p ∈ D, FrRel m p) (hl : D.length ≤ 1000) : ∀ (d i : Nat) (q : Nat), D.length - i = d → i ≤ D.length → q ≤ D.length →
    Ev (fun k => ironbarkref20_Meet.l0 k c n (q : Int) (i : Int) (D.map Prod.snd)) (meetT (findL c n (D.map Prod.fst) (fromL c n ((q : Int) - 1) ((D.map Prod.fst).drop i) + 1).toNat))
  | 0, i, q, hd, hi, hq => by
    obtain rfl : i = D.length := by omega
    have hw : wrap64 ((q : Int) - 1) = (q : Int) - 1 := by unfold wrap64; omega
    refine Ev.step (f := fun k => ironbarkref20_Meet.l1 k c n ((q : Int) - 1) (D.map Prod.snd)) (fun k => ?_) ?_
    · show ironbarkref20_Meet.l0 (k + 1) c n (q : Int) (D.length : Int) (D.map Prod.snd) = _
      conv => lhs; unfold ironbarkref20_Meet.l0
      rw [if_neg (by simp), hw]
    · rw [List.drop_of_length_le (by simp)]
      have e : (fromL c n ((q : Int) - 1) [] + 1).toNat = q := by show ((q : Int) - 1 + 1).toNat = q; omega
      rw [e]
      exact meet_l1 m hm c n D h hl q hq
  | d + 1, i, q, hd, hi, hq => by
    have hlt : i < D.length := by omega
    have hw : wrap64 ((i : Int) + 1) = ((i + 1 : Nat) : Int) := by unfold wrap64; omega
    have hr := z94_rel m D h i
    have hrun := runs_rel m c n _ hr hc
    have hfd : (D.map Prod.fst).drop i = (D.map Prod.fst).getD i fr0 :: (D.map Prod.fst).drop (i + 1) := by
      rw [List.drop_eq_getElem_cons (by simpa using hlt)]
      congr 1
      rw [List.getD_eq_getElem?_getD, List.getElem?_eq_getElem (by simpa using hlt)]
      rfl
    rw [hfd, fromL_cons]
    have hrr := hr.run
    have hbl := hr.bl
    dsimp only at hrun hrr hbl
    generalize (D.map Prod.fst).getD i fr0 = f at *
    have hstep : ∀ k, ironbarkref20_Meet.l0 (k + 1) c n (q : Int) (i : Int) (D.map Prod.snd) = ironbarkref20_Meet.l0 k c n (if runs c n f = true ∧ (rd_T94 (D.map Prod.snd) (i : Int)).f4 < (q : Int) then (rd_T94 (D.map Prod.snd) (i : Int)).f4 else (q : Int)) ((i + 1 : Nat) : Int) (D.map Prod.snd) := by
      intro k
      conv => lhs; unfold ironbarkref20_Meet.l0
      rw [if_pos (by simp; omega), if_pos (by omega), hw, hrun]
      generalize rd_T94 (D.map Prod.snd) (i : Int) = r
      by_cases h1 : r.f1 = true
      · rw [if_pos h1]
        by_cases h2 : r.f2 = c
        · rw [if_pos h2]
          by_cases h3 : r.f3.toList = n.toList
          · rw [if_pos h3]
            by_cases h4 : r.f4 < (q : Int)
            · rw [if_pos h4, if_pos ⟨by simp [h1, h2, h3], h4⟩]
            · rw [if_neg h4, if_neg (fun e => h4 e.2)]
          · rw [if_neg h3, if_neg (by simp [h3])]
        · rw [if_neg h2, if_neg (by simp [h2])]
      · rw [if_neg h1, if_neg (by simp [h1])]
    refine Ev.step hstep ?_
    by_cases hr1 : runs c n f = true
    · have hf1 : (rd_T94 (D.map Prod.snd) (i : Int)).f1 = true := by rw [hrun] at hr1; simp only [Bool.and_eq_true] at hr1; exact hr1.1
      rw [hf1, if_pos rfl] at hrr
      rw [if_pos hr1, ← hrr.2.2]
      obtain ⟨b, hb⟩ := Int.eq_ofNat_of_zero_le hbl.1
      rw [hb]
      by_cases hlt2 : (b : Int) < (q : Int)
      · rw [if_pos ⟨hr1, hlt2⟩, if_pos (by omega)]
        exact meet_l0 m hm c n hc D h hl d (i + 1) b (by omega) (by omega) (by omega)
      · rw [if_neg (fun e => hlt2 e.2), if_neg (by omega)]
        exact meet_l0 m hm c n hc D h hl d (i + 1) q (by omega) (by omega) hq
    · rw [if_neg (fun e => hr1 e.1), if_neg hr1]
      exact meet_l0 m hm c n hc D h hl d (i + 1) q (by omega) (by omega) hq
/-- Meet of both, where the name is right. -/
theorem rmeet_is (m : Nat) (hm : m ≤ 100000) (c : Int) (n : ByteArray) (D : List (Fr × S94)) (h : Rel m D) (hr : rightB c n = true) (v : Value) (G : Nat → Prop) (w : World) (hv : RD w G v (D.map Prod.snd)) :
    Calls Try.prog 49 #[.agg #[v], .int .i64 c, .string n] w fun e w' => e = .returned (meetV (findL c n (D.map Prod.fst) (fromL c n (((D.map Prod.fst).length : Int) - 1) (D.map Prod.fst) + 1).toNat)) ∧ Below w.heap.size w w' := by
  obtain ⟨A, cp, rfl, hc, hC⟩ := hv.slice
  have hc1 : 1 ≤ c := by
    simp only [rightB, Bool.and_eq_true] at hr
    exact ((isC_iff c).1 hr.1).1
  have hE := meet_l0 m hm c n hc1 D h.fr (Nat.le_trans h.le (by decide)) D.length 0 D.length (by omega) (by omega) (Nat.le_refl _)
  rw [List.drop_zero] at hE
  have hF : Ev (fun k => ironbarkref20_Meet.f k (D.map Prod.snd) c n) (meetT (findL c n (D.map Prod.fst) (fromL c n ((D.length : Int) - 1) (D.map Prod.fst) + 1).toNat)) := by
    refine Ev.bind (f := fun k t103 => _) (named_ev c n) ?_
    rw [hr]
    simp only [if_true, List.length_map]
    exact hE
  obtain ⟨k, hk⟩ := hF.rounds
  rw [show ((D.map Prod.fst).length : Int) = (D.length : Int) by simp]
  generalize findL c n (D.map Prod.fst) (fromL c n ((D.length : Int) - 1) (D.map Prod.fst) + 1).toNat = o at hk ⊢
  cases o with
  | none => exact ironbarkref20_Meet.calls k A cp _ c n _ _ _ _ _ w hC hc hk
  | some p => exact ironbarkref20_Meet.calls k A cp _ c n _ _ _ _ _ w hC hc hk
theorem rmeet_bad (c : Int) (n : ByteArray) (R : List S94) (hr : rightB c n = false) (v : Value) (G : Nat → Prop) (w : World) (hv : RD w G v R) :
    Calls Try.prog 49 #[.agg #[v], .int .i64 c, .string n] w fun e w' => e = .returned (.tuple #[.agg #[.int .i64 0, .string ⟨#[]⟩, .int .i64 0], .int .i64 0, .int .i64 1]) ∧ Below w.heap.size w w' := by
  obtain ⟨A, cp, rfl, hc, hC⟩ := hv.slice
  have hF : Ev (fun k => ironbarkref20_Meet.f k R c n) (0, ⟨#[]⟩, 0, 0, 1) := by
    refine Ev.bind (f := fun k t103 => _) (named_ev c n) ?_
    rw [hr]
    simpa using Ev.now _
  obtain ⟨k, hk⟩ := hF.rounds
  exact ironbarkref20_Meet.calls k A cp _ c n _ _ _ _ _ w hC hc hk
end Go.Proofs.Ytfahpihbbkkngaa.P

-- from the text Hu
namespace Go.Proofs.Ytfahpihbbkkngaa.P
open Go.RowKit Go.Proofs.YtfahpihbbkkngaaW.PrintWords Go.Proofs.YtfahpihbbkkngaaW.PrintLast Go.Proofs.YtfahpihbbkkngaaW.PrintMore
set_option linter.unusedVariables false
set_option linter.unusedSimpArgs false
theorem nil64 (A : Option Addr) (n c : Nat) (w : World) : (binOp .eql 64 (.slice A n c) (.slice none 0 0)).run Try.prog w = .ok (.bool A.isNone) w := by exact Go.Lib.run_eql_slice_nil (h := Try.underlying64) ..
theorem nil74 (A : Option Addr) (n c : Nat) (w : World) : (binOp .eql 74 (.slice A n c) (.slice none 0 0)).run Try.prog w = .ok (.bool A.isNone) w := by exact Go.Lib.run_eql_slice_nil (h := Try.underlying74) ..
attribute [local go_sem high] nil64 nil74
theorem own_empty (W : World) (e : TypeId) (size : Nat) : (W.alloc (.cells #[] e (0, 0))).ownsRow W.heap.size e size (.slice (some ⟨W.heap.size, 0, none⟩) 0 0) 0 [] := by
  refine ⟨by simp, .inr ⟨W.heap.size, 0, #[], rfl, Nat.le_refl _, ?_, Nat.le_refl _, by simp, by simp, by simp⟩⟩
  exact blk_new W (.cells #[] e (0, 0))
set_option maxRecDepth 100000 in
set_option maxHeartbeats 4000000 in
theorem cloneU_is (v : Value) (us : List S24) (w : World) (h : w.ownsRow 0 24 3 v us.length (cUs us)) (hl : us.length ≤ 1000000) :
    Calls Try.prog 52 #[v] w fun e w' => ∃ v', e = .returned v' ∧ w'.ownsRow w.heap.size 24 3 v' us.length (cUs us) ∧ Below w.heap.size w w' := by
  rcases h.2 with ⟨rfl, h0⟩ | ⟨g, cap, cur, rfl, _⟩
  · have h1 : us = [] := List.eq_nil_of_length_eq_zero h0
    subst h1
    go_enter Try.func52, Try.ntmps52
    go_wp2_with fail
    go_ret
    exact ⟨_, rfl, World.ownsRow_nil _ _ _ _, Below.refl _ _⟩
  · have HN := Aside0.mk (fun j u (hj : (cUs us)[j]? = some u) => ownsRow_cell h hj)
    have HO := Aside0.mk (own_empty w 24 3)
    have HB := Aside0.mk ((Below.refl w.heap.size w).alloc (Nat.le_refl _) (.cells #[] 24 (0, 0)))
    clear h
    go_enter Try.func52, Try.ntmps52
    go_wp2_with ((with_reducible refine gate_dst (N := 7) rfl ?_); refine wl_appendU us.length cap ⟨g, 0, none⟩ us rfl rfl rfl HO.out rfl rfl (fun j u hj => by rw [add_plain]; exact pw_cell_below HB.out (HN.out j u hj)) (by omega) (by simp) ?_; intro v' w1 hown hgrow; have HV := Aside0.mk hown; have HB1 := Aside0.mk (HB.out.grown hgrow (by simp) (fun k hk => Nat.le_of_eq (Option.some.inj (show some w.heap.size = some k from hk)))); clear hown hgrow)
    go_ret
    have HV := HV.out
    rw [Nat.zero_add, List.nil_append] at HV
    exact ⟨_, rfl, HV, HB1.out⟩
theorem oneCell_cFs {D : List (Value × Fr)} (h : ∀ x ∈ D, x.1.oneCell' = true) : ∀ u ∈ cFs D, u.oneCell' = true := by
  intro u hu
  simp only [cFs, List.mem_flatMap] at hu
  obtain ⟨x, hx, hu⟩ := hu
  simp only [cF, List.mem_cons, List.not_mem_nil, or_false] at hu
  rcases hu with rfl | rfl | rfl | rfl
  · exact h x hx
  all_goals rfl
theorem own_one {w : World} {base : Nat} {e : TypeId} {size : Nat} {v : Value} {n : Nat} {xs : List Value} (h : w.ownsRow base e size v n xs) : v.oneCell' = true := by
  rcases h.2 with ⟨rfl, _⟩ | ⟨g, cap, cur, rfl, _⟩ <;> rfl
section
variable {ops : Array Oper} {rest : List Oper} {o : Oper} {a : Act} {Q : Exit → Act → World → Prop} {W : World}
theorem wl_appendF {s x : Operand} {v : Value} {base n : Nat} {xs : List Value} (m c : Nat) (ad : Addr) (D : List (Value × Fr)) (hgd : o.guard = none) (ho : o.op = .call { callee := .builtin .append, args := #[s, x], argTypes := #[74, 74] })
    (hs : a.eval s = v) (hrow : W.ownsRow base 73 4 v n xs) (hx : a.eval x = .slice (some ad) m c) (hl : D.length = m) (hnews : ∀ j u, (cFs D)[j]? = some u → W.cell? (ad.add j) = some u) (h1 : ∀ x ∈ D, x.1.oneCell' = true) (hn : n + m ≤ 1000000) (hb : base ≤ W.heap.size)
    (h : ∀ v' w', w'.ownsRow base 73 4 v' (n + m) (xs ++ cFs D) → W.grownBy w' v.ownBlock → wpList Try.prog ops Q rest (a.put o.dst v') w') : wpList Try.prog ops Q (o :: rest) a W := by
  obtain ⟨i0, hi, hz0, hz1, hz2⟩ := info_parts info73
  exact wpList_append_own W hgd s x 74 ho base 73 i0 _ 4 56 Try.underlying74 hi hz0 hz1 hz2 rfl (by decide) v n xs hs hrow ad m c (cFs D) hx (by rw [len_cFs, hl]) hnews (oneCell_cFs h1) (by simp only [maxLen]; omega) (by omega) hb (fun v' w' h1 h2 _ => h v' w' h1 h2)
end
set_option maxRecDepth 100000 in
set_option maxHeartbeats 4000000 in
theorem cloneF_is (g n cap : Nat) (D : List (Value × Fr)) (w : World) (hD : D.length = n) (hc : ∀ j u, (cFs D)[j]? = some u → w.cell? ⟨g, j, none⟩ = some u) (h1 : ∀ x ∈ D, x.1.oneCell' = true) (hl : n ≤ 1000000) :
    Calls Try.prog 54 #[.slice (some ⟨g, 0, none⟩) n cap] w fun e w' => ∃ v', e = .returned v' ∧ w'.ownsRow w.heap.size 73 4 v' n (cFs D) ∧ Below w.heap.size w w' := by
  have HN := Aside0.mk hc
  have HO := Aside0.mk (own_empty w 73 4)
  have H1 := Aside0.mk h1
  have HB := Aside0.mk ((Below.refl w.heap.size w).alloc (Nat.le_refl _) (.cells #[] 73 (0, 0)))
  clear hc h1
  go_enter Try.func54, Try.ntmps54
  go_wp2_with ((with_reducible refine gate_dst (N := 7) rfl ?_); refine wl_appendF n cap ⟨g, 0, none⟩ D rfl rfl rfl HO.out rfl hD (fun j u hj => by rw [add_plain]; exact pw_cell_below HB.out (HN.out j u hj)) H1.out (by omega) (by simp) ?_; intro v' w1 hown hgrow; have HV := Aside0.mk hown; have HB1 := Aside0.mk (HB.out.grown hgrow (by simp) (fun k hk => Nat.le_of_eq (Option.some.inj (show some w.heap.size = some k from hk)))); clear hown hgrow)
  go_ret
  have HV := HV.out
  rw [Nat.zero_add, List.nil_append] at HV
  exact ⟨_, rfl, HV, HB1.out⟩
theorem cFs_take : ∀ (D : List (Value × Fr)) (k : Nat), cFs (D.take k) = (cFs D).take (k * 4)
  | [], k => by simp [cFs]
  | x :: D, 0 => by simp [cFs]
  | x :: D, k + 1 => by
    have ih := cFs_take D k
    unfold cFs at ih ⊢
    rw [List.take_succ_cons, List.flatMap_cons, List.flatMap_cons, ih, List.take_append]
    have e : (cF x).length = 4 := rfl
    rw [e, show (k + 1) * 4 - 4 = k * 4 by omega, List.take_of_length_le (i := (k + 1) * 4) (l := cF x) (by rw [e]; omega)]
end Go.Proofs.Ytfahpihbbkkngaa.P

-- from the text Hv
namespace Go.Proofs.Ytfahpihbbkkngaa.P
open Go.RowKit Go.Proofs.YtfahpihbbkkngaaW.PrintWords Go.Proofs.YtfahpihbbkkngaaW.PrintLast Go.Proofs.YtfahpihbbkkngaaW.PrintMore
set_option linter.unusedVariables false
set_option linter.unusedSimpArgs false
theorem St.popped {w W : World} {s k : Nat} {fv v' : Value} {D : List (Value × Fr)} {L : List Fr} {F : Nat → Prop} (h : Stk w s fv D) (h2 : D.map Prod.snd = L) (h3 : ∀ k, foot s fv D k → F k) (hW : Below w.heap.size w W)
    (hown : W.ownsRow w.heap.size 73 4 v' k (cFs (D.take k))) (hk : k ≤ D.length) :
    St (W.setCell ⟨s, 0, none⟩ v') s (L.take k) (More F w.heap.size (W.setCell ⟨s, 0, none⟩ v').heap.size) ∧ Turn F w (W.setCell ⟨s, 0, none⟩ v') := by
  have hs : s < w.heap.size := blk_lt' h.head
  have hh := (hW.block s hs).trans h.head
  have hv : ∀ b, v'.ownBlock = some b → w.heap.size ≤ b ∧ b < W.heap.size := fun b hb => hown.lt b hb
  have hkl : (D.take k).length = k := by simp; omega
  refine ⟨⟨v', D.take k, ⟨blk_put hh 0 _ rfl, ?_, ?_, ?_⟩, by rw [List.map_take, h2], ?_⟩, Turn.set (Turn.of_below hW) (h3 s (.inl rfl)) _⟩
  · rw [hkl]
    exact ownsRow_base (ownsRow_kept hown (fun b hb => Below.heap_setCell _ _ _ _ (by have := (hv b hb).1; dsimp only; omega))) (Nat.zero_le _)
  · intro x hx
    have hx := List.mem_of_mem_take hx
    exact ownsRow_kept (h.units x hx) (fun b hb => (Below.heap_setCell W _ _ _ (fun e => h.unit_ne hx (hb.trans (congrArg some e)))).trans (hW.block b ((h.units x hx).lt b hb).2))
  · exact List.Pairwise.sublist (List.take_sublist _ _) h.apart
  · rw [World.size_setCell]
    rintro b (rfl | hb | ⟨x, hx, hb⟩)
    · exact .inl (h3 _ (.inl rfl))
    · exact .inr (hv b hb)
    · exact .inl (h3 _ (.inr (.inr ⟨x, List.mem_of_mem_take hx, hb⟩)))
theorem pop_range (s : Nat) (k : Int) (L : List Fr) (F : Nat → Prop) (w : World) (h : St w s L F) (hk : k < 1 ∨ (L.length : Int) < k) :
    Calls Try.prog 33 #[.pointer (some ⟨s, 0, none⟩), .int .i64 k] w fun e w' => e = .returned (.int .i64 7) ∧ Below w.heap.size w w' := by
  obtain ⟨fv, D, h1, h2, h3, ⟨p, c, rfl⟩, hc, hf⟩ := h.open_
  clear h1 h2 h3
  by_cases h1 : k < 1
  · have d1 : decide (k < 1) = true := decide_eq_true h1
    go_enter Try.func33, Try.ntmps33
    go_wp2_with fail
    go_ret
    exact ⟨rfl, Below.refl _ _⟩
  · have d1 : decide (k < 1) = false := decide_eq_false h1
    have d2 : decide (k > (L.length : Int)) = true := decide_eq_true (by omega)
    go_enter Try.func33, Try.ntmps33
    go_wp2_with fail
    go_ret
    exact ⟨rfl, Below.refl _ _⟩
set_option maxRecDepth 100000 in
set_option maxHeartbeats 4000000 in
theorem pop_is (s k : Nat) (L : List Fr) (F : Nat → Prop) (w : World) (h : St w s L F) (hk1 : 1 ≤ k) (hk2 : k ≤ L.length) (hL : L.length ≤ 1000) :
    Calls Try.prog 33 #[.pointer (some ⟨s, 0, none⟩), .int .i64 (k : Int)] w fun e w' => e = .returned (.int .i64 0) ∧ St w' s (L.take k) (More F w.heap.size w'.heap.size) ∧ Turn F w w' := by
  obtain ⟨fv, D, h1, h2, h3, _, hc, hf⟩ := h.open_
  have hDL : D.length = L.length := by rw [← h2]; simp
  obtain ⟨g, c, rfl, _, _⟩ := h1.row.form (by omega)
  have hle : D.length ≤ c := by
    rcases h1.row.2 with ⟨hbad, _⟩ | ⟨g', cap', cur, he, _, _, hc1, _⟩
    · cases hbad
    · cases he; exact hc1
  have HP := Aside0.mk (fun (W : World) (v' : Value) (hW : Below w.heap.size w W) (hown : W.ownsRow w.heap.size 73 4 v' k (cFs (D.take k))) => St.popped h1 h2 h3 hW hown (by omega))
  have HC := Aside0.mk (cloneF_is g k c (D.take k) w (by simp; omega) (fun j u hj => by
    rw [cFs_take, List.getElem?_take] at hj
    split at hj
    · exact ownsRow_cell h1.row hj
    · cases hj) (fun x hx => own_one (h1.units x (List.mem_of_mem_take hx))) (by omega))
  have HS := Aside0.mk h1.head
  clear h1 h2 h3
  have d1 : decide ((k : Int) < 1) = false := decide_eq_false (by omega)
  have d2 : decide ((k : Int) > (D.length : Int)) = false := decide_eq_false (by omega)
  have k0 : (0 : Int) ≤ (k : Int) := by omega
  have k1 : (k : Int) ≤ (c : Int) := by omega
  go_enter Try.func33, Try.ntmps33
  go_wp2_with fail
  refine HC.out.mono ?_
  rintro e w2 ⟨v', rfl, hown, hb⟩
  obtain ⟨p', c', rfl⟩ := ownsRow_slice hown
  have HF := Aside0.mk (HP.out w2 _ hb hown)
  have hc2 := (blk_cell (blk_below HS.out hb) 0).trans rfl
  have hf2 := blk_frozen (blk_below HS.out hb) 0
  clear hown hb HP HC
  go_wp2_with fail
  go_ret
  exact ⟨rfl, HF.out⟩
theorem units_range (s : Nat) (k : Int) (L : List Fr) (F : Nat → Prop) (w : World) (h : St w s L F) (hk : k < 0 ∨ (L.length : Int) ≤ k) :
    Calls Try.prog 35 #[.pointer (some ⟨s, 0, none⟩), .int .i64 k] w fun e w' => e = .returned (.tuple #[.slice none 0 0, .int .i64 7]) ∧ Below w.heap.size w w' := by
  obtain ⟨fv, D, h1, h2, h3, ⟨p, c, rfl⟩, hc, hf⟩ := h.open_
  clear h1 h2 h3
  by_cases h1 : k < 0
  · have d1 : decide (k < 0) = true := decide_eq_true h1
    go_enter Try.func35, Try.ntmps35
    go_wp2_with fail
    go_ret2
    exact ⟨rfl, Below.refl _ _⟩
  · have d1 : decide (k < 0) = false := decide_eq_false h1
    have d2 : decide (k ≥ (L.length : Int)) = true := decide_eq_true (by omega)
    go_enter Try.func35, Try.ntmps35
    go_wp2_with fail
    go_ret2
    exact ⟨rfl, Below.refl _ _⟩
set_option maxRecDepth 100000 in
set_option maxHeartbeats 4000000 in
theorem units_is (s k : Nat) (L : List Fr) (F : Nat → Prop) (w : World) (h : St w s L F) (hk2 : k < L.length) (hL : L.length ≤ 1000) (hu : (L.getD k fr0).us.length ≤ 1000) :
    Calls Try.prog 35 #[.pointer (some ⟨s, 0, none⟩), .int .i64 (k : Int)] w fun e w' => ∃ v', e = .returned (.tuple #[v', .int .i64 0]) ∧ w'.ownsRow w.heap.size 24 3 v' (L.getD k fr0).us.length (cUs (L.getD k fr0).us) ∧ Below w.heap.size w w' := by
  obtain ⟨fv, D, h1, h2, h3, _, hc, hf⟩ := h.open_
  have hDL : D.length = L.length := by rw [← h2]; simp
  obtain ⟨g, cap, v, f, rfl, hcap, hd, c0, _, _, _⟩ := h1.frame (k := k) (by omega)
  have hf : L.getD k fr0 = f := by rw [← h2, List.getD_eq_getElem?_getD, List.getElem?_map, hd]; rfl
  rw [hf] at hu ⊢
  have HC := Aside0.mk (cloneU_is v f.us w (h1.units (v, f) (List.mem_of_getElem? hd)) (by omega))
  clear h1 h2 h3 hd hf
  have d1 : decide ((k : Int) < 0) = false := decide_eq_false (by omega)
  have d2 : decide ((k : Int) ≥ (D.length : Int)) = false := decide_eq_false (by omega)
  have k0 : (0 : Int) ≤ (k : Int) := by omega
  have k1 : (k : Int) < (D.length : Int) := by omega
  go_enter Try.func35, Try.ntmps35
  go_wp2_with fail
  refine HC.out.mono ?_
  rintro e w2 ⟨v', rfl, hown, hb⟩
  have HF := Aside0.mk hown
  have HB := Aside0.mk hb
  clear hown hb HC
  go_wp2_with fail
  go_ret2
  exact ⟨_, rfl, HF.out, HB.out⟩
end Go.Proofs.Ytfahpihbbkkngaa.P

-- from the text Hw
namespace Go.Proofs.Ytfahpihbbkkngaa.P
open Go.RowKit Go.Proofs.YtfahpihbbkkngaaW.PrintWords Go.Proofs.YtfahpihbbkkngaaW.PrintLast Go.Proofs.YtfahpihbbkkngaaW.PrintMore
set_option linter.unusedVariables false
set_option linter.unusedSimpArgs false
set_option maxRecDepth 100000 in
set_option maxHeartbeats 4000000 in
theorem own_is (v : Value) (f : Fr) (w : World) (h : w.ownsRow 0 24 3 v f.us.length (cUs f.us)) (hl : f.us.length ≤ 1000000) :
    Calls Try.prog 51 #[.agg #[v, .int .i64 f.rc, .string f.rn, .int .i64 f.bl]] w fun e w' => ∃ v', e = .returned (.agg #[v', .int .i64 f.rc, .string f.rn, .int .i64 f.bl]) ∧ w'.ownsRow w.heap.size 24 3 v' f.us.length (cUs f.us) ∧ Below w.heap.size w w' := by
  obtain ⟨p, c, rfl⟩ := ownsRow_slice h
  obtain ⟨us, rc, rn, bl⟩ := f
  dsimp only at h hl ⊢
  have B1 := Aside0.mk ((Below.refl w.heap.size w).alloc (Nat.le_refl _) (.cells #[.slice p us.length c, .int .i64 rc, .string rn, .int .i64 bl] 73 (0, 0)))
  have B2 := Aside0.mk (B1.out.alloc B1.out.size (.cells #[.slice none 0 0, .int .i64 0, .string ⟨#[]⟩, .int .i64 0] 73 (0, 0)))
  have R1 := Aside0.mk (blk_alloc (blk_new w (.cells #[.slice p us.length c, .int .i64 rc, .string rn, .int .i64 bl] 73 (0, 0))) (.cells #[.slice none 0 0, .int .i64 0, .string ⟨#[]⟩, .int .i64 0] 73 (0, 0)))
  have R2 := Aside0.mk (blk_new (w.alloc (.cells #[.slice p us.length c, .int .i64 rc, .string rn, .int .i64 bl] 73 (0, 0))) (.cells #[.slice none 0 0, .int .i64 0, .string ⟨#[]⟩, .int .i64 0] 73 (0, 0)))
  have HC := Aside0.mk (cloneU_is (.slice p us.length c) us _ (ownsRow_kept h (fun k hk => B2.out.block k (h.lt k hk).2)) hl)
  clear h
  go_enter Try.func51, Try.ntmps51
  go_wp2_with fail
  refine HC.out.mono ?_
  rintro e w2 ⟨v', rfl, hown, hb⟩
  obtain ⟨p', c', rfl⟩ := ownsRow_slice hown
  have HO := Aside0.mk hown
  have HB := Aside0.mk (B2.out.trans (hb.mono B2.out.size))
  have R1' := Aside0.mk (blk_below R1.out hb)
  have R2' := Aside0.mk (blk_below R2.out hb)
  clear hown hb HC B1 R1 R2
  rw [World.size_alloc] at R2'
  have r0 := (blk_cell R1'.out 0).trans rfl
  have r1 := (blk_cell R1'.out 1).trans rfl
  have r2 := (blk_cell R1'.out 2).trans rfl
  have r3 := (blk_cell R1'.out 3).trans rfl
  have f0 := blk_frozen R1'.out 0
  have q0 := (blk_cell R2'.out 0).trans rfl
  have q1 := (blk_cell R2'.out 1).trans rfl
  have q2 := (blk_cell R2'.out 2).trans rfl
  have q3 := (blk_cell R2'.out 3).trans rfl
  have g0 := blk_frozen R2'.out 0
  have g1 := blk_frozen R2'.out 1
  have g2 := blk_frozen R2'.out 2
  have g3 := blk_frozen R2'.out 3
  go_wp2_with fail
  have HSz := Aside0.mk (show ((w.alloc (.cells #[.slice p us.length c, .int .i64 rc, .string rn, .int .i64 bl] 73 (0, 0))).alloc (.cells #[.slice none 0 0, .int .i64 0, .string ⟨#[]⟩, .int .i64 0] 73 (0, 0))).heap.size = w.heap.size + 1 + 1 by simp)
  refine bodyPost_ret (results_cell_row rfl _ _ (w.heap.size + 1) 73 #[.slice p' us.length c', .int .i64 rc, .string rn, .int .i64 bl] (0, 0) _ rfl ?hg Try.underlying73 rfl (by kernel_rfl)) rfl ?_
  case hg =>
    refine blk_put (cs := #[.slice p' us.length c', .int .i64 rc, .string rn, .int .i64 0]) ?_ 3 _ rfl
    refine blk_put (cs := #[.slice p' us.length c', .int .i64 rc, .string ⟨#[]⟩, .int .i64 0]) ?_ 2 _ rfl
    refine blk_put (cs := #[.slice p' us.length c', .int .i64 0, .string ⟨#[]⟩, .int .i64 0]) ?_ 1 _ rfl
    refine blk_put (cs := #[.slice none 0 0, .int .i64 0, .string ⟨#[]⟩, .int .i64 0]) ?_ 0 _ rfl
    exact blk_far R2'.out (by dsimp only; omega) _
  refine ⟨_, rfl, ownsRow_base (ownsRow_kept HO.out (fun k hk => ?_)) (by rw [HSz.out]; omega), ?_⟩
  · have hk := (HO.out.lt k hk).1
    rw [HSz.out] at hk
    rw [Below.heap_setCell _ _ _ _ (by dsimp only; omega), Below.heap_setCell _ _ _ _ (by dsimp only; omega), Below.heap_setCell _ _ _ _ (by dsimp only; omega), Below.heap_setCell _ _ _ _ (by dsimp only; omega), Below.heap_setCell _ _ _ _ (by dsimp only; omega)]
  · exact below_set (below_set (below_set (below_set (below_set HB.out (Nat.le_refl _)) (Nat.le_succ _)) (Nat.le_succ _)) (Nat.le_succ _)) (Nat.le_succ _)
/-- One frame more, its units made behind W0. -/
theorem Stk.add {W0 W w2 : World} {s g cap : Nat} {fv v : Value} {D : List (Value × Fr)} {f : Fr} (h : Stk W0 s fv D) (hW : Below W0.heap.size W0 W) (hu : W.ownsRow W0.heap.size 24 3 v f.us.length (cUs f.us))
    (hown : w2.ownsRow 0 73 4 (.slice (some ⟨g, 0, none⟩) (D.length + 1) cap) (D.length + 1) (cFs D ++ cF (v, f))) (hgrow : W.grownBy w2 fv.ownBlock) (hat : fv.ownBlock = some g ∨ g = W.heap.size) (hlt : g < w2.heap.size) :
    Stk (w2.setCell ⟨s, 0, none⟩ (.slice (some ⟨g, 0, none⟩) (D.length + 1) cap)) s (.slice (some ⟨g, 0, none⟩) (D.length + 1) cap) (D ++ [(v, f)]) ∧
    (∀ k, foot s (.slice (some ⟨g, 0, none⟩) (D.length + 1) cap) (D ++ [(v, f)]) k → foot s fv D k ∨ W0.heap.size ≤ k) ∧ Turn (foot s fv D) W0 (w2.setCell ⟨s, 0, none⟩ (.slice (some ⟨g, 0, none⟩) (D.length + 1) cap)) := by
  have hs : s < W0.heap.size := blk_lt' h.head
  have hk2 : ∀ k, k < W0.heap.size → fv.ownBlock ≠ some k → w2.heap[k]? = W0.heap[k]? := fun k hk hn => (hgrow.block k (Nat.lt_of_lt_of_le hk hW.size) (fun e => hn e.symm)).trans (hW.block k hk)
  have hh := (hk2 s hs h.row_ne).trans h.head
  have hgs : g ≠ s := by
    rintro rfl
    rcases hat with e | e
    · exact h.row_ne e
    · have := hW.size
      omega
  refine ⟨⟨blk_put hh 0 _ rfl, ?_, ?_, ?_⟩, ?_, ?_⟩
  · have e1 : (D ++ [(v, f)]).length = D.length + 1 := by simp
    have e2 : cFs (D ++ [(v, f)]) = cFs D ++ cF (v, f) := by simp [cFs]
    rw [e1, e2]
    exact ownsRow_kept hown (fun k hk => by cases hk; exact Below.heap_setCell _ _ _ _ hgs)
  · intro x hx
    rcases List.mem_append.1 hx with hx | hx
    · exact ownsRow_kept (h.units x hx) (fun k hk => (Below.heap_setCell w2 _ _ _ (fun e => h.unit_ne hx (hk.trans (congrArg some e)))).trans (hk2 k ((h.units x hx).lt k hk).2 (fun e => h.unit_row hx e hk)))
    · simp only [List.mem_singleton] at hx
      subst hx
      refine ownsRow_base (ownsRow_kept hu (fun k hk => ?_)) (Nat.zero_le _)
      have hl := hu.lt k hk
      refine (Below.heap_setCell w2 _ _ _ (by dsimp only; omega)).trans (hgrow.block k hl.2 (fun e => ?_))
      have := (h.row.lt k e.symm).2
      omega
  · refine List.pairwise_append.2 ⟨h.apart, by simp, fun x hx y hy b hb => ?_⟩
    simp only [List.mem_singleton] at hy
    subst hy
    intro e
    have h1 := (hu.lt b e).1
    have h2 := ((h.units x hx).lt b hb).2
    omega
  · rintro k (rfl | hk | ⟨x, hx, hk⟩)
    · exact .inl (.inl rfl)
    · cases hk
      rcases hat with e | e
      · exact .inl (.inr (.inl e))
      · exact .inr (e ▸ hW.size)
    · rcases List.mem_append.1 hx with hx | hx
      · exact .inl (.inr (.inr ⟨x, hx, hk⟩))
      · simp only [List.mem_singleton] at hx
        subst hx
        exact .inr (hu.lt k hk).1
  · exact Turn.set (Turn.grown (Turn.of_below hW) hgrow (fun k hk => .inl (.inr (.inl hk)))) (.inl rfl) _
end Go.Proofs.Ytfahpihbbkkngaa.P

-- from the text Hx
namespace Go.Proofs.Ytfahpihbbkkngaa.P
open Go.RowKit Go.Proofs.YtfahpihbbkkngaaW.PrintWords Go.Proofs.YtfahpihbbkkngaaW.PrintLast Go.Proofs.YtfahpihbbkkngaaW.PrintMore
set_option linter.unusedVariables false
set_option linter.unusedSimpArgs false
set_option maxRecDepth 100000 in
set_option maxHeartbeats 8000000 in
theorem copy_is (s : Nat) (L : List Fr) (F : Nat → Prop) (w : World) (h : St w s L F) (hL : L.length ≤ 1000) (hu : ∀ f ∈ L, f.us.length ≤ 1000) :
    Calls Try.prog 31 #[.pointer (some ⟨s, 0, none⟩)] w fun e w' => ∃ s', e = .returned (.pointer (some ⟨s', 0, none⟩)) ∧ St w' s' L (More (fun _ => False) w.heap.size w'.heap.size) ∧ Below w.heap.size w w' := by
  obtain ⟨fv, D, h1, h2, h3, ⟨p, cap, rfl⟩, hc, hf⟩ := h.open_
  have hDL : D.length = L.length := by rw [← h2]; simp
  have HS := Aside0.mk h1
  have H2 := Aside0.mk h2
  have HU := Aside0.mk hu
  clear h1 h2 h3 h hu hf
  have HC0 := Aside0.mk (blk_new w (.cells #[.slice none 0 0] 76 (0, 0)))
  have HB0 := Aside0.mk ((Below.refl w.heap.size w).alloc (Nat.le_refl _) (.cells #[.slice none 0 0] 76 (0, 0)))
  replace hc := (HB0.out.cell (World.block_lt_of_cell? w _ hc)).trans hc
  go_enter Try.func31, Try.ntmps31
  go_wp2_with fail
  go_loopw [16] (fun p wr => ∃ (i : Nat) (v : Value) (D' : List (Value × Fr)), i ≤ D.length ∧ p = .int .i64 (i : Int) ∧ Aside0 (D'.map Prod.snd = (D.take i).map Prod.snd) ∧ Aside0 (Stk wr w.heap.size v D') ∧ Aside0 (∀ k, foot w.heap.size v D' k → w.heap.size ≤ k) ∧ Aside0 (Below w.heap.size w wr)) (fun p _ => D.length - (intOf p).toNat)
  case atStart => exact ⟨0, .slice none 0 0, [], by omega, rfl, ⟨by simp⟩, ⟨HC0.out, World.ownsRow_nil _ _ _ _, by simp, by simp⟩, ⟨fun k hk => by rcases hk with rfl | hk | ⟨x, hx, _⟩; exact Nat.le_refl _; cases hk; cases hx⟩, HB0⟩
  case round =>
    clear HC0 HB0
    obtain ⟨i, v, D', hi, rfl, HM, HK, HF, HB⟩ := hrel
    by_cases hlt : i < D.length
    · obtain ⟨g, cap', x, f, he, hcap, hd, c0, c1, c2, c3⟩ := HS.out.frame hlt
      rw [hDL] at he hcap
      simp only [Value.slice.injEq, true_and] at he
      obtain ⟨rfl, rfl⟩ := he
      have hxr := HS.out.units (x, f) (List.mem_of_getElem? hd)
      dsimp only at hxr
      obtain ⟨px, cx, rfl⟩ := ownsRow_slice hxr
      have HX := Aside0.mk hxr
      have HXL := Aside0.mk (show f.us.length ≤ 1000 from HU.out f (by rw [← H2.out]; exact List.mem_map_of_mem (f := Prod.snd) (List.mem_of_getElem? hd)))
      have HD := Aside0.mk hd
      clear hxr hd
      have hlt' : (i : Int) < (L.length : Int) := by omega
      have h0 : (0 : Int) ≤ (i : Int) := by omega
      replace c0 := (HB.out.cell (World.block_lt_of_cell? w _ c0)).trans c0
      replace c1 := (HB.out.cell (World.block_lt_of_cell? w _ c1)).trans c1
      replace c2 := (HB.out.cell (World.block_lt_of_cell? w _ c2)).trans c2
      replace c3 := (HB.out.cell (World.block_lt_of_cell? w _ c3)).trans c3
      have hB1 := (Below.refl wr.heap.size wr).alloc (Nat.le_refl _) (.cells #[.slice px f.us.length cx, .int .i64 f.rc, .string f.rn, .int .i64 f.bl] 73 (0, 0))
      have HX1 := Aside0.mk (blk_drew (blk_new wr (.cells #[.slice px f.us.length cx, .int .i64 f.rc, .string f.rn, .int .i64 f.bl] 73 (0, 0))))
      have HV1 := Aside0.mk (pw_cell_below (below_drew (Below.refl _ _)) (pw_cell_below hB1 ((blk_cell HK.out.head 0).trans rfl)))
      have HB1 := Aside0.mk (below_drew hB1)
      have HDl := Aside0.mk (show D'.length ≤ 1000 by have := congrArg List.length HM.out; simp at this; omega)
      clear hB1
      have hwi : wrap64 ((i : Int) + 1) = ((i + 1 : Nat) : Int) := by unfold wrap64; omega
      go_wp2_with fail
      refine start_ (n := 13) (S := fun W => W.cell? ⟨w.heap.size, 0, none⟩ = some v ∧ W.heap[wr.heap.size]? = some (.cells #[.slice px f.us.length cx, .int .i64 f.rc, .string f.rn, .int .i64 f.bl] 73 (0, 0)) ∧ Below wr.heap.size wr W) (ds := [9, 12]) #[false, false, false, false, false, false, false, false, false, false, false, false, false] (by kernel_rfl) rfl rfl ⟨HV1.out, HX1.out, HB1.out⟩ (fun hHeld => ?_)
      generalize (wr.alloc (.cells #[.slice px f.us.length cx, .int .i64 f.rc, .string f.rn, .int .i64 f.bl] 73 (0, 0))).drew = w4 at hHeld ⊢
      clear HV1 HX1 HB1 c0 c1 c2 c3
      refine pure_ (i := 0) (N := some 20) (v := ?_) (a' := ?_) #[true, false, false, false, false, false, false, false, false, false, false, false, false] rfl rfl (by kernel_rfl) (fun _ _ _ h => h) (Or.inl ⟨by rfl, ?_⟩) ?_ ?_
      rotate_left
      · intro w_
        go_simp
        with_reducible rfl
      rotate_left
      · simp only [Act.put, List.setIfInBounds_toArray, List.set_cons_zero, List.set_cons_succ, i64_w, i32_w]
        rfl
      refine pure_ (i := 1) (N := some 21) (v := ?_) (a' := ?_) #[true, true, false, false, false, false, false, false, false, false, false, false, false] rfl rfl (by kernel_rfl) (fun _ _ _ h => h) (Or.inl ⟨by rfl, ?_⟩) ?_ ?_
      rotate_left
      · intro w_
        go_simp
        with_reducible rfl
      rotate_left
      · simp only [Act.put, List.setIfInBounds_toArray, List.set_cons_zero, List.set_cons_succ, i64_w, i32_w]
        rfl
      refine pure_ (i := 2) (N := some 22) (v := ?_) (a' := ?_) #[true, true, true, false, false, false, false, false, false, false, false, false, false] rfl rfl (by kernel_rfl) (fun _ _ _ h => h) (Or.inl ⟨by rfl, ?_⟩) ?_ ?_
      rotate_left
      · intro w_
        go_simp
        with_reducible rfl
      rotate_left
      · simp only [Act.put, List.setIfInBounds_toArray, List.set_cons_zero, List.set_cons_succ, i64_w, i32_w]
        rfl
      refine pure_ (i := 3) (N := some 23) (v := ?_) (a' := ?_) #[true, true, true, true, false, false, false, false, false, false, false, false, false] rfl rfl (by kernel_rfl) (fun _ _ _ h => h) (Or.inl ⟨by rfl, ?_⟩) ?_ ?_
      rotate_left
      · intro w_
        go_simp
        with_reducible rfl
      rotate_left
      · simp only [Act.put, List.setIfInBounds_toArray, List.set_cons_zero, List.set_cons_succ, i64_w, i32_w]
        rfl
      refine take_ (i := 4) (N := some 24) (v := ?_) (a' := ?_) #[true, true, true, true, true, false, false, false, false, false, false, false, false] rfl rfl (by kernel_rfl) (fun _ _ _ h => h) (Or.inl ⟨by rfl, ?_⟩) hHeld ?_ ?_
      rotate_left
      · rintro w_ ⟨s0, _⟩
        go_simp
        with_reducible rfl
      rotate_left
      · simp only [Act.put, List.setIfInBounds_toArray, List.set_cons_zero, List.set_cons_succ, i64_w, i32_w]
        rfl
      refine pure_ (i := 5) (N := some 25) (v := ?_) (a' := ?_) #[true, true, true, true, true, true, false, false, false, false, false, false, false] rfl rfl (by kernel_rfl) (fun _ _ _ h => h) (Or.inl ⟨by rfl, ?_⟩) ?_ ?_
      rotate_left
      · intro w_
        go_simp
        with_reducible rfl
      rotate_left
      · simp only [Act.put, List.setIfInBounds_toArray, List.set_cons_zero, List.set_cons_succ, i64_w, i32_w]
        rfl
      refine take_ (i := 6) (N := some 26) (v := ?_) (a' := ?_) #[true, true, true, true, true, true, true, false, false, false, false, false, false] rfl rfl (by kernel_rfl) (fun _ _ _ h => h) (Or.inl ⟨by rfl, ?_⟩) hHeld ?_ ?_
      rotate_left
      · rintro w_ ⟨_, hs_, _⟩
        have s0 := (blk_cell hs_ 0).trans rfl
        have s1 := (blk_cell hs_ 1).trans rfl
        have s2 := (blk_cell hs_ 2).trans rfl
        have s3 := (blk_cell hs_ 3).trans rfl
        go_simp
        with_reducible rfl
      rotate_left
      · simp only [Act.put, List.setIfInBounds_toArray, List.set_cons_zero, List.set_cons_succ, i64_w, i32_w]
        rfl
      refine one_ (i := 7) (N := some 27) #[true, true, true, true, true, true, true, true, false, false, false, false, false] rfl rfl (by kernel_rfl) (by decide) (fun K' hK => ?_)
      have he := enters_ (P := Try.prog) Try.func51 (by kernel_rfl) rfl #[.agg #[.slice px f.us.length cx, .int .i64 f.rc, .string f.rn, .int .i64 f.bl]] w4
      refine call_ 51 #[.agg #[.slice px f.us.length cx, .int .i64 f.rc, .string f.rn, .int .i64 f.bl]] (by rfl) rfl (by unfold execOp; simp [resolve, Deferred.ofValue, invoke, Act.eval, he]) ?_
      refine (own_is (.slice px f.us.length cx) f w4 (ownsRow_kept HX.out (fun q hq => (hHeld.2.2.block q (Nat.lt_of_lt_of_le (HX.out.lt q hq).2 HB.out.size)).trans (HB.out.block q (HX.out.lt q hq).2))) (Nat.le_trans HXL.out (by decide))).mono ?_
      rintro e w5 ⟨v', rfl, hvn, hb⟩
      obtain ⟨px', cx', rfl⟩ := ownsRow_slice hvn
      refine ⟨_, rfl, ?_⟩
      have HVN := Aside0.mk (ownsRow_base hvn hHeld.2.2.size)
      refine hK.out _ _ ⟨pw_cell_below hb hHeld.1, blk_below hHeld.2.1 hb, hHeld.2.2.trans (hb.mono hHeld.2.2.size)⟩ (fun hHeld => ?_)
      clear hb hK K' hvn he
      refine norm_ (a' := ?_) ?_ ?_
      rotate_left
      · show Act.put _ (some 27) _ = _
        simp only [Act.put, List.setIfInBounds_toArray, List.set_cons_zero, List.set_cons_succ, i64_w, i32_w]
        rfl
      refine one_ (i := 8) (N := some 28) #[true, true, true, true, true, true, true, true, true, false, false, false, false] rfl rfl (by kernel_rfl) (by decide) (fun K' hK => ?_)
      refine value_ (w1 := w5.alloc (.cells #[.slice px' f.us.length cx', .int .i64 f.rc, .string f.rn, .int .i64 f.bl] 73 (0, 0))) (v := .slice (some ⟨w5.heap.size, 0, none⟩) 1 1) (by rfl) rfl ?_ ?_
      · go_simp
      have HN := Aside0.mk (blk_new w5 (.cells #[.slice px' f.us.length cx', .int .i64 f.rc, .string f.rn, .int .i64 f.bl] 73 (0, 0)))
      have hb5 := (Below.refl w5.heap.size w5).alloc (Nat.le_refl _) (.cells #[.slice px' f.us.length cx', .int .i64 f.rc, .string f.rn, .int .i64 f.bl] 73 (0, 0))
      have HVN := Aside0.mk (ownsRow_kept HVN.out (fun q hq => hb5.block q (HVN.out.lt q hq).2))
      refine hK.out _ _ ⟨pw_cell_below hb5 hHeld.1, blk_below hHeld.2.1 hb5, hHeld.2.2.trans (hb5.mono hHeld.2.2.size)⟩ (fun hHeld => ?_)
      clear hK K' hb5
      refine norm_ (a' := ?_) ?_ ?_
      rotate_left
      · show Act.put _ (some 28) _ = _
        simp only [Act.put, List.setIfInBounds_toArray, List.set_cons_zero, List.set_cons_succ, i64_w, i32_w]
        rfl
      refine last_ (i := 9) (N := some 29) #[true, true, true, true, true, true, true, true, true, true, false, false, false] rfl rfl (by kernel_rfl) (by decide) (fun K' hK => ?_)
      refine step_append73 w5.heap.size _ _ _ _ (by rfl) rfl rfl rfl (ownsRow_kept HK.out.row (fun q hq => hHeld.2.2.block q (HK.out.row.lt q hq).2)) rfl HN.out ⟨rfl, rfl, rfl, rfl⟩ (Nat.le_trans HDl.out (by decide)) ?_
      intro g2 cap2 w6 hown hgrow hat hlt2
      refine hK.out _ _ ?_
      clear hK K'
      refine norm_ (a' := ?_) ?_ ?_
      rotate_left
      · show Act.put _ (some 29) _ = _
        simp only [Act.put, List.setIfInBounds_toArray, List.set_cons_zero, List.set_cons_succ, i64_w, i32_w]
        rfl
      refine pure_ (i := 10) (N := some 30) (v := ?_) (a' := ?_) #[true, true, true, true, true, true, true, true, true, true, true, false, false] rfl rfl (by kernel_rfl) (fun _ _ _ h => h) (Or.inl ⟨by rfl, ?_⟩) ?_ ?_
      rotate_left
      · intro w_
        go_simp
        with_reducible rfl
      rotate_left
      · simp only [Act.put, List.setIfInBounds_toArray, List.set_cons_zero, List.set_cons_succ, i64_w, i32_w]
        rfl
      refine pure_ (i := 11) (N := some 31) (v := ?_) (a' := ?_) #[true, true, true, true, true, true, true, true, true, true, true, true, false] rfl rfl (by kernel_rfl) (fun _ _ _ h => h) (Or.inl ⟨by rfl, ?_⟩) ?_ ?_
      rotate_left
      · intro w_
        go_simp
        with_reducible rfl
      rotate_left
      · simp only [Act.put, List.setIfInBounds_toArray, List.set_cons_zero, List.set_cons_succ, i64_w, i32_w]
        rfl
      have hB5 := hHeld.2.2
      have hs6 := (hgrow.block w.heap.size (Nat.lt_of_lt_of_le (blk_lt HK.out.head) hB5.size) (fun e => HK.out.row_ne e.symm)).trans ((hB5.block w.heap.size (blk_lt HK.out.head)).trans HK.out.head)
      have hc6 := (blk_cell hs6 0).trans rfl
      have hf6 := blk_frozen hs6 0
      refine last_ (i := 12) (N := none) #[true, true, true, true, true, true, true, true, true, true, true, true, true] rfl rfl (by kernel_rfl) (by decide) (fun K' hK => ?_)
      refine skip_ (w1 := ?_) (by rfl) rfl ?_ ?_
      rotate_left
      · go_simp
        rfl
      refine hK.out _ _ ?_
      clear hK K'
      refine done_ (by kernel_rfl) ?_
      have HFIN := Aside0.mk (Stk.add (v := .slice px' f.us.length cx') (f := f) HK.out hB5 HVN.out hown hgrow hat hlt2)
      have HSz := Aside0.mk HB.out.size
      have HBF := Aside0.mk (HB.out.trans (HFIN.out.2.2.below HF.out HB.out.size))
      clear hHeld hown hgrow hat hlt2 hB5 hs6 hc6 hf6
      go_wp2_with fail
      rw [show ((i : Int) + 1) = ((i + 1 : Nat) : Int) from by omega]
      refine ⟨⟨i + 1, _, D' ++ [(.slice px' f.us.length cx', f)], hlt, rfl, ⟨?_⟩, ⟨HFIN.out.1⟩, ⟨fun q hq => (HFIN.out.2.1 q hq).elim (HF.out q) (fun e => Nat.le_trans HSz.out e)⟩, HBF⟩, by simp [intOf]; omega⟩
      rw [List.map_append, HM.out, List.take_add_one, HD.out]
      simp
    · obtain rfl : i = D.length := by omega
      have hd1 : ¬ ((D.length : Int) < (L.length : Int)) := by omega
      go_wp2_with fail
      go_ret
      refine ⟨_, rfl, ⟨v, D', HK.out, ?_, fun k hk => .inr ⟨HF.out k hk, HK.out.foot_lt hk⟩⟩, HB.out⟩
      rw [HM.out, List.take_length, H2.out]
end Go.Proofs.Ytfahpihbbkkngaa.P

-- from the text Rg
namespace Go.Proofs.Ytfahpihbbkkngaa.P
open Go.RowKit Go.Proofs.YtfahpihbbkkngaaW.PrintWords Go.Proofs.YtfahpihbbkkngaaW.PrintLast Go.Proofs.YtfahpihbbkkngaaW.PrintMore
set_option linter.unusedVariables false
set_option linter.unusedSimpArgs false
def CodeOp (f : FuncId) (args : Nat → Array Value) (L L' : List Fr) (e : Int) : Prop := ∀ (s : Nat) (F : Nat → Prop) (w : World), St w s L F → Calls Try.prog f (args s) w fun x w' => x = .returned (.int .i64 e) ∧ St w' s L' (More F w.heap.size w'.heap.size) ∧ Turn F w w'
def RefOp (f : FuncId) (args : Value → Array Value) (R R' : List S94) (e : Int) : Prop := ∀ (v : Value) (G : Nat → Prop) (w : World), RD w G v R → Calls Try.prog f (args v) w fun x w' => ∃ v', x = .returned (.tuple #[.agg #[v'], .int .i64 e]) ∧ RD w' (More G w.heap.size w'.heap.size) v' R' ∧ Below w.heap.size w w'
def Pair (f : FuncId) (args : Nat → Array Value) (g : FuncId) (args' : Value → Array Value) (D : List (Fr × S94)) (m : Nat) : Prop := ∃ D' e, CodeOp f args (D.map Prod.fst) (D'.map Prod.fst) e ∧ RefOp g args' (D.map Prod.snd) (D'.map Prod.snd) e ∧ Rel m D'
theorem stay_code {f : FuncId} {args : Nat → Array Value} {L : List Fr} {e : Int} (h : ∀ (s : Nat) (F : Nat → Prop) (w : World), St w s L F → Calls Try.prog f (args s) w fun x w' => x = .returned (.int .i64 e) ∧ Below w.heap.size w w') : CodeOp f args L L e :=
  fun s F w hs => (h s F w hs).mono fun x w' ⟨hx, hb⟩ => ⟨hx, (hs.below hb).mono (fun k hk => .inl hk), Turn.of_below hb⟩
theorem stay_ref {f : FuncId} {args : Value → Array Value} {R : List S94} {e : Int} (h : ∀ (v : Value) (G : Nat → Prop) (w : World), RD w G v R → Calls Try.prog f (args v) w fun x w' => x = .returned (.tuple #[.agg #[v], .int .i64 e]) ∧ Below w.heap.size w w') : RefOp f args R R e :=
  fun v G w hv => (h v G w hv).mono fun x w' ⟨hx, hb⟩ => ⟨v, hx, hv.more hb, hb⟩
theorem push_pair {m : Nat} {D : List (Fr × S94)} (h : Rel m D) : Pair 12 (fun s => #[.pointer (some ⟨s, 0, none⟩)]) 45 (fun v => #[.agg #[v]]) D m := by
  by_cases hl : D.length < 60
  · refine ⟨D ++ [(fr0, z94)], 0, fun s F w hs => ?_, fun v G w hv => ?_, h.add hl (frRel_new m)⟩
    · have := push_is s _ F w hs (by simpa using hl)
      simpa using this
    · have := rpush_is v _ G w hv
      unfold moreL moreE at this
      rw [if_neg (by simp; omega), if_neg (by simp; omega)] at this
      simpa using this
  · refine ⟨D, 4, stay_code fun s F w hs => push_full s _ F w hs (by simp; omega), fun v G w hv => ?_, h⟩
    have := rpush_is v _ G w hv
    unfold moreL moreE at this
    rw [if_pos (by simp; omega), if_pos (by simp; omega)] at this
    exact this
theorem pop_pair {m : Nat} {D : List (Fr × S94)} (h : Rel m D) (k : Int) : Pair 33 (fun s => #[.pointer (some ⟨s, 0, none⟩), .int .i64 k]) 46 (fun v => #[.agg #[v], .int .i64 k]) D m := by
  have hle := h.le
  by_cases hk : k < 1 ∨ (D.length : Int) < k
  · exact ⟨D, 7, stay_code fun s F w hs => pop_range s k _ F w hs (by simpa using hk), stay_ref fun v G w hv => rpop_bad v k _ G w hv (by simpa using hk), h⟩
  · obtain ⟨n, rfl⟩ := Int.eq_ofNat_of_zero_le (show 0 ≤ k by omega)
    refine ⟨D.take n, 0, fun s F w hs => ?_, fun v G w hv => ?_, h.take n (by omega) (by omega)⟩
    · rw [List.map_take]
      exact pop_is s n _ F w hs (by omega) (by simp; omega) (by simp; omega)
    · rw [List.map_take]
      exact rpop_is v n _ G w hv (by omega) (by simp; omega) (by simp; omega)
theorem on_pair {m : Nat} {D : List (Fr × S94)} (h : Rel m D) (hm : m ≤ 900) (u : S24) : Pair 13 (fun s => #[.pointer (some ⟨s, 0, none⟩), .agg #[.int .i64 u.f0, .string u.f1, .int .i64 u.f2]]) 47 (fun v => #[.agg #[v], .agg #[.int .i64 u.f0, .string u.f1, .int .i64 u.f2]]) D (m + 1) := by
  cases hr : rightB u.f0 u.f1 && decide (-2 ≤ u.f2) with
  | false =>
    refine ⟨D, 1, stay_code fun s F w hs => on_bad s u w ?_, stay_ref fun v G w hv => ron_bad v u _ G w hv hr, h.more (by omega)⟩
    rw [Bool.and_eq_false_iff] at hr
    rcases hr with hr | hr
    · exact .inl hr
    · exact .inr (by simpa using hr)
  | true =>
    obtain ⟨D0, f, r, rfl⟩ := h.last
    have hle := h.le
    have hf := h.fr (f, r) (by simp)
    have hfl := hf.len
    have hfu := hf.us
    dsimp only at hfl hfu
    have hwo := revU_wo u.f0 u.f1 f.us hf.uq
    have hr2 := hr
    simp only [Bool.and_eq_true, decide_eq_true_eq] at hr2
    refine ⟨D0 ++ [({ f with us := revU u.f0 u.f1 f.us ++ [u] }, { r with f0 := woU u.f0 u.f1 r.f0 ++ [u] })], 0, fun s F w hs => ?_, fun v G w hv => ?_, ?_⟩
    · rw [List.map_append] at hs ⊢
      exact on_is s u _ f F w hr2.1 hr2.2 hs (by omega) (by simp at hle ⊢; omega)
    · rw [List.map_append] at hv ⊢
      exact ron_is v u _ r G w hv hr (by simp at hle ⊢; omega) (by rw [← hfu]; omega)
    · refine (h.more (Nat.le_succ m)).top ⟨?_, ?_, hf.uq.on u, hf.bl, hf.run⟩
      · dsimp only
        rw [hwo, hfu]
      · have := (revU_sub u.f0 u.f1 f.us).length_le
        simp
        omega
theorem rev_pair {m : Nat} {D : List (Fr × S94)} (h : Rel m D) (hm : m ≤ 900) (c : Int) (n : ByteArray) : Pair 32 (fun s => #[.pointer (some ⟨s, 0, none⟩), .int .i64 c, .string n]) 48 (fun v => #[.agg #[v], .int .i64 c, .string n]) D m := by
  cases hr : rightB c n with
  | false => exact ⟨D, 1, stay_code fun s F w hs => revert_bad s c n w hr, stay_ref fun v G w hv => rrevert_bad v c n _ G w hv hr, h⟩
  | true =>
    obtain ⟨D0, f, r, rfl⟩ := h.last
    have hle := h.le
    have hf := h.fr (f, r) (by simp)
    have hfl := hf.len
    have hfu := hf.us
    dsimp only at hfl hfu
    have hwo := revU_wo c n f.us hf.uq
    refine ⟨D0 ++ [({ f with us := revU c n f.us }, { r with f0 := woU c n r.f0 })], 0, fun s F w hs => ?_, fun v G w hv => ?_, ?_⟩
    · rw [List.map_append] at hs ⊢
      exact revert_is s c n _ f F w hr hs (by omega) (by simp at hle ⊢; omega)
    · rw [List.map_append] at hv ⊢
      exact rrevert_is v c n _ r G w hv hr (by simp at hle ⊢; omega) (by rw [← hfu]; omega)
    · refine h.top ⟨?_, Nat.le_trans (revU_sub c n f.us).length_le hf.len, hf.uq.rev c n, hf.bl, hf.run⟩
      dsimp only
      rw [hwo, hfu]
theorem beg_pair {m : Nat} {D : List (Fr × S94)} (h : Rel m D) (hm : m ≤ 900) (c : Int) (n : ByteArray) (k : Int) : Pair 16 (fun s => #[.pointer (some ⟨s, 0, none⟩), .int .i64 c, .string n, .int .i64 k]) 50 (fun v => #[.agg #[v], .int .i64 c, .string n, .int .i64 k]) D m := by
  have hle := h.le
  cases hr : rightB c n with
  | false => exact ⟨D, 1, stay_code fun s F w hs => begin_bad s c n k w hr, stay_ref fun v G w hv => rbegin_bad v c n k _ G w hv hr, h⟩
  | true =>
    by_cases hk : k < 0 ∨ (D.length : Int) ≤ k
    · exact ⟨D, 7, stay_code fun s F w hs => begin_range s c n k _ F w hr hs (by simpa using hk), stay_ref fun v G w hv => rbegin_range v c n k _ G w hv hr (by simpa using hk), h⟩
    · obtain ⟨j, rfl⟩ := Int.eq_ofNat_of_zero_le (show 0 ≤ k by omega)
      by_cases hl : 60 ≤ D.length
      · exact ⟨D, 4, stay_code fun s F w hs => begin_full s c n j _ F w hr hs (by simp; omega) (by simpa using hl), stay_ref fun v G w hv => rbegin_full v c n j _ G w hv hr (by simp; omega) (by simpa using hl), h⟩
      · have hz := z94_rel m D h.fr j
        have hzl := hz.len
        have hzu := hz.us
        dsimp only at hzl hzu
        have hi := of_idx c n (rd_T94 (D.map Prod.snd) (j : Int)).f0
        have hc1 : 1 ≤ c := by
          simp only [rightB, Bool.and_eq_true] at hr
          exact ((isC_iff c).1 hr.1).1
        by_cases hx : idxU c n ((D.map Prod.fst).getD j fr0).us 0 = none
        · have hx2 : ¬ (ofV (ofU c n (rd_T94 (D.map Prod.snd) (j : Int)).f0)).2.2.2 = true := fun e => hi.1 e (by rw [← hzu]; exact hx)
          refine ⟨D, 8, fun s F w hs => ?_, fun v G w hv => ?_, h⟩
          · exact (begin_is s c n j _ F w hr hs (by simp; omega) (by simp; omega) (by omega)).mono fun x w' hh => ⟨(hh.1 hx).1, (hs.below (hh.1 hx).2).mono (fun k hk => .inl hk), Turn.of_below (hh.1 hx).2⟩
          · have := rbegin_is v c n j _ G w hv hr (by simp; omega) (by simp; omega) (by rw [← hzu]; omega)
            rw [if_neg hx2, if_neg hx2] at this
            exact this
        · have hx2 : (ofV (ofU c n (rd_T94 (D.map Prod.snd) (j : Int)).f0)).2.2.2 = true := hi.2 (by rw [← hzu]; exact hx)
          refine ⟨D ++ [(⟨[], c, n, (j : Int)⟩, ⟨[], true, c, n, (j : Int)⟩)], 0, fun s F w hs => ?_, fun v G w hv => ?_, h.add (by omega) ⟨rfl, by simp, by simp [Uniq], ⟨by dsimp only; omega, by dsimp only; omega⟩, by simp⟩⟩
          · rw [List.map_append]
            exact (begin_is s c n j _ F w hr hs (by simp; omega) (by simp; omega) (by omega)).mono fun x w' hh => hh.2 hx
          · have := rbegin_is v c n j _ G w hv hr (by simp; omega) (by simp; omega) (by rw [← hzu]; omega)
            rw [if_pos hx2, if_pos hx2] at this
            rw [List.map_append]
            exact this
/-- Both stacks in memory, apart; the code's at or above B. -/
def PS (B : Nat) (w : World) (s : Nat) (v : Value) (D : List (Fr × S94)) : Prop := ∃ F G, St w s (D.map Prod.fst) F ∧ RD w G v (D.map Prod.snd) ∧ (∀ k, F k → ¬ G k) ∧ ∀ k, F k → B ≤ k
theorem PS.below {B : Nat} {w w' : World} {s : Nat} {v : Value} {D : List (Fr × S94)} (h : PS B w s v D) (hb : Below w.heap.size w w') : PS B w' s v D := by
  obtain ⟨F, G, h1, h2, h3, h4⟩ := h
  exact ⟨F, G, h1.below hb, h2.below hb, h3, h4⟩
end Go.Proofs.Ytfahpihbbkkngaa.P

-- from the text Ri
namespace Go.Proofs.Ytfahpihbbkkngaa.P
open Go.RowKit Go.Proofs.YtfahpihbbkkngaaW.PrintWords Go.Proofs.YtfahpihbbkkngaaW.PrintLast Go.Proofs.YtfahpihbbkkngaaW.PrintMore
set_option linter.unusedVariables false
set_option linter.unusedSimpArgs false
def PE (E : Nat → Prop) (B : Nat) (w : World) (s : Nat) (v : Value) (L : List Fr) (R : List S94) : Prop :=
  ∃ F G, St w s L F ∧ RD w G v R ∧ (∀ k, F k → ¬ G k) ∧ (∀ k, F k → B ≤ k) ∧ (∀ k, F k → ¬ E k) ∧ ∀ k, G k → ¬ E k
theorem PE.mono {E E' : Nat → Prop} {B : Nat} {w : World} {s : Nat} {v : Value} {L : List Fr} {R : List S94} (h : PE E B w s v L R) (hE : ∀ k, E' k → E k) : PE E' B w s v L R := by
  obtain ⟨F, G, h1, h2, h3, h4, h5, h6⟩ := h
  exact ⟨F, G, h1, h2, h3, h4, fun k hk e => h5 k hk (hE k e), fun k hk e => h6 k hk (hE k e)⟩
/-- Blocks that are not laid yet are none of them. -/
theorem PE.fresh {E E' : Nat → Prop} {B : Nat} {w : World} {s : Nat} {v : Value} {L : List Fr} {R : List S94} (h : PE E B w s v L R) (hE : ∀ k, E' k → E k ∨ w.heap.size ≤ k) : PE E' B w s v L R := by
  obtain ⟨F, G, h1, h2, h3, h4, h5, h6⟩ := h
  exact ⟨_, _, h1.cut, h2.cut, fun k hk hg => h3 k hk.1 hg.1, fun k hk => h4 k hk.1, fun k hk e => (hE k e).elim (h5 k hk.1) (fun e => by have := hk.2; omega), fun k hk e => (hE k e).elim (h6 k hk.1) (fun e => by have := hk.2; omega)⟩
theorem PE.below {E : Nat → Prop} {B : Nat} {w w' : World} {s : Nat} {v : Value} {L : List Fr} {R : List S94} (h : PE E B w s v L R) (hb : Below w.heap.size w w') : PE E B w' s v L R := by
  obtain ⟨F, G, h1, h2, h3, h4, h5, h6⟩ := h
  exact ⟨F, G, h1.below hb, h2.below hb, h3, h4, h5, h6⟩
theorem St.set {w : World} {s : Nat} {L : List Fr} {F : Nat → Prop} (h : St w s L F) {p : Addr} (hp : ∀ k, F k → k ≠ p.block) (u : Value) : St (w.setCell p u) s L F := by
  obtain ⟨fv, D, h1, h2, h3⟩ := h
  exact ⟨fv, D, h1.kept (fun k hk => Below.heap_setCell w p u k (hp k (h3 k hk))), h2, h3⟩
theorem PE.set {E : Nat → Prop} {B : Nat} {w : World} {s : Nat} {v : Value} {L : List Fr} {R : List S94} (h : PE E B w s v L R) {p : Addr} (hp : E p.block) (u : Value) : PE E B (w.setCell p u) s v L R := by
  obtain ⟨F, G, h1, h2, h3, h4, h5, h6⟩ := h
  exact ⟨F, G, h1.set (fun k hk e => h5 k hk (e ▸ hp)) u, h2.set (fun k hk e => h6 k hk (e ▸ hp)) u, h3, h4, h5, h6⟩
theorem PE.code {E : Nat → Prop} {B : Nat} {w : World} {s : Nat} {v : Value} {L L' : List Fr} {R : List S94} {f : FuncId} {args : Nat → Array Value} {e : Int} (h : PE E B w s v L R) (ho : CodeOp f args L L' e) (hB : B ≤ w.heap.size) (hE : ∀ k, E k → k < w.heap.size) :
    Calls Try.prog f (args s) w fun x w' => x = .returned (.int .i64 e) ∧ PE E B w' s v L' R ∧ Below B w w' ∧ w.heap.size ≤ w'.heap.size ∧ ∀ k, E k → w'.heap[k]? = w.heap[k]? := by
  obtain ⟨F, G, h1, h2, h3, h4, h5, h6⟩ := h
  refine (ho s (fun k => F k ∧ k < w.heap.size) w h1.cut).mono ?_
  rintro x w' ⟨rfl, hs, ht⟩
  have h2' := h2.cut
  refine ⟨rfl, ⟨_, _, hs, h2'.turn ht (fun k hk hf => h3 k hf.1 hk.1), ?_, ?_, ?_, fun k hk => h6 k hk.1⟩, ht.below (fun k hk => h4 k hk.1) hB, ht.size, fun k hk => ht.block k (hE k hk) (fun hf => h5 k hf.1 hk)⟩
  · rintro k (hk | hk) hg
    · exact h3 k hk.1 hg.1
    · have := hg.2
      omega
  · rintro k (hk | hk)
    · exact h4 k hk.1
    · omega
  · rintro k (hk | hk) he
    · exact h5 k hk.1 he
    · have := hE k he
      omega
theorem PE.ref {E : Nat → Prop} {B : Nat} {w : World} {s : Nat} {v : Value} {L : List Fr} {R R' : List S94} {g : FuncId} {args : Value → Array Value} {e : Int} (h : PE E B w s v L R) (ho : RefOp g args R R' e) (hE : ∀ k, E k → k < w.heap.size) :
    Calls Try.prog g (args v) w fun x w' => ∃ A c, x = .returned (.tuple #[.agg #[.slice A R'.length c], .int .i64 e]) ∧ PE E B w' s (.slice A R'.length c) L R' ∧ Below w.heap.size w w' := by
  obtain ⟨F, G, h1, h2, h3, h4, h5, h6⟩ := h
  refine (ho v (fun k => G k ∧ k < w.heap.size) w h2.cut).mono ?_
  rintro x w' ⟨v', rfl, hr, hb⟩
  obtain ⟨A, c, rfl, _, _⟩ := hr.slice
  refine ⟨A, c, rfl, ⟨_, _, h1.cut.below hb, hr, ?_, fun k hk => h4 k hk.1, fun k hk => h5 k hk.1, ?_⟩, hb⟩
  · rintro k hk (hg | hg)
    · exact h3 k hk.1 hg.1
    · have := hk.2
      omega
  · rintro k (hk | hk) he
    · exact h6 k hk.1 he
    · have := hE k he
      omega
theorem PE.copy {E : Nat → Prop} {B : Nat} {w : World} {s : Nat} {v : Value} {L : List Fr} {R : List S94} (h : PE E B w s v L R) (hL : L.length ≤ 1000) (hu : ∀ f ∈ L, f.us.length ≤ 1000) (hB : B ≤ w.heap.size) (hE : ∀ k, E k → k < w.heap.size) :
    Calls Try.prog 31 #[.pointer (some ⟨s, 0, none⟩)] w fun x w' => ∃ s', x = .returned (.pointer (some ⟨s', 0, none⟩)) ∧ PE E B w' s' v L R ∧ Below w.heap.size w w' := by
  obtain ⟨F, G, h1, h2, h3, h4, h5, h6⟩ := h
  refine (copy_is s L F w h1 hL hu).mono ?_
  rintro x w' ⟨s', rfl, hs, hb⟩
  refine ⟨s', rfl, ⟨_, _, hs, h2.cut.below hb, ?_, ?_, ?_, fun k hk => h6 k hk.1⟩, hb⟩
  · rintro k (hk | hk) hg
    · exact hk
    · have := hg.2
      omega
  · rintro k (hk | hk)
    · exact hk.elim
    · omega
  · rintro k (hk | hk) he
    · exact hk
    · have := hE k he
      omega
end Go.Proofs.Ytfahpihbbkkngaa.P

-- from the text A56
namespace Go.Proofs.Ytfahpihbbkkngaa.P
open Go.RowKit Go.Proofs.YtfahpihbbkkngaaW.PrintWords Go.Proofs.YtfahpihbbkkngaaW.PrintLast Go.Proofs.YtfahpihbbkkngaaW.PrintMore
attribute [local go_sem] max2_int min2_int max_two min_two max_three min_three max_four min_four   -- for this text's walks alone
set_option linter.unusedVariables false
set_option linter.unusedSimpArgs false
attribute [local go_sem high] eqA24
def ironbarklaw20_same.l0 : Nat → List (S24) → List (S24) → Int → Option (Bool)
  | 0, _, _, _ => none
  | k + 1, x0, x1, x5 => if x5 < (x0.length : Int) then (if 0 ≤ x5 then (if x5 < (x1.length : Int) then (if (!(((rd_T24 x0 x5).f0) == ((rd_T24 x1 x5).f0)) || (!((((rd_T24 x0 x5).f1).toList) == (((rd_T24 x1 x5).f1).toList)) || (!(((rd_T24 x0 x5).f2) == ((rd_T24 x1 x5).f2))))) = true then (some false) else (ironbarklaw20_same.l0 k x0 x1 (wrap64 (x5 + 1)))) else (none)) else (none)) else (some true)
def ironbarklaw20_same.f (k : Nat) (l0 : List (S24)) (l1 : List (S24)) : Option (Bool) := if (l0.length : Int) = (l1.length : Int) then (ironbarklaw20_same.l0 k l0 l1 0) else (some false)
set_option maxHeartbeats 8000000 in
set_option maxRecDepth 100000 in
theorem ironbarklaw20_same.calls (k : Nat) (A0 : Option Addr) (c0 : Nat) (l0 : List (S24)) (A1 : Option Addr) (c1 : Nat) (l1 : List (S24)) (r : Bool) (w : World) (hr0 : Kd.C k24 w A0 l0.length l0) (hc0 : l0.length ≤ c0) (hr1 : Kd.C k24 w A1 l1.length l1) (hc1 : l1.length ≤ c1) (h : ironbarklaw20_same.f k l0 l1 = some r) :
    Calls Try.prog 56 #[.slice A0 l0.length c0, .slice A1 l1.length c1] w fun e w' => e = .returned (.bool r) ∧ Drawn0 w w' := by
  have hu24 := Try.underlying24
  have HR0 := Aside0.mk hr0
  have HC0 := Aside0.mk hc0
  clear hr0 hc0
  have HR1 := Aside0.mk hr1
  have HC1 := Aside0.mk hc1
  clear hr1 hc1
  have H : (if (l0.length : Int) = (l1.length : Int) then (ironbarklaw20_same.l0 k l0 l1 0) else (some false)) = some r := h
  clear h
  by_cases c3 : (l0.length : Int) = (l1.length : Int)
  · rw [if_pos c3] at H
    have c3b0 : ((l0.length : Int) == (l1.length : Int)) = true := beq_iff_eq.mpr c3
    have c3b1 : ((l0.length : Int) != (l1.length : Int)) = false := bne_eq_false_iff_eq.mpr c3
    have c3b2 : (l0.length == l1.length) = true := by first | simpa using c3 | (simp at c3 ⊢; omega)
    clear c3
    have H' := Aside0.mk H
    clear H
    go_enter Try.func56, Try.ntmps56
    go_wp2
    repeat (go_quiet (fail); try go_wp2)
    go_loopg [5] k (fun kq v5 w' => ∃ (x5_1 : Int), v5 = .int .i64 x5_1 ∧ Aside0 (ironbarklaw20_same.l0 kq l0 l1 x5_1 = some r) ∧ Aside0 (kq ≤ k) ∧ Drawn0 w w')
    case atStart => exact ⟨(0), (by first | rfl | (simp; done) | (generalize ByteArray.toList _ = l_; cases l_ <;> rfl) | (simp [*]; done)), H', ⟨Nat.le_refl _⟩, by repeat (first | exact Drawn0.refl _ | apply Drawn0.step)⟩
    case round =>
      clear H'
      try clear c1
      try clear p2
      try clear c3
      try clear c3b0
      try clear c3b1
      try clear c3b2
      obtain ⟨x5_1, rfl, HA, HK1, ⟨m1, rfl⟩⟩ := hrel
      cases gk with
      | zero => exact absurd HA.out (by simp [ironbarklaw20_same.l0])
      | succ k1 =>
        have H := HA.out
        clear HA
        simp only [ironbarklaw20_same.l0] at H
        by_cases c4 : x5_1 < (l0.length : Int)
        · rw [if_pos c4] at H
          have c4b0 : decide (x5_1 < (l0.length : Int)) = true := decide_eq_true c4
          clear c4
          by_cases c5 : 0 ≤ x5_1
          · rw [if_pos c5] at H
            have c5b0 : decide (0 ≤ x5_1) = true := decide_eq_true c5
            clear c5
            by_cases c6 : x5_1 < (l1.length : Int)
            · rw [if_pos c6] at H
              have c6b0 : decide (x5_1 < (l1.length : Int)) = true := decide_eq_true c6
              clear c6
              by_cases c7 : (!(((rd_T24 l0 x5_1).f0) == ((rd_T24 l1 x5_1).f0)) || (!((((rd_T24 l0 x5_1).f1).toList) == (((rd_T24 l1 x5_1).f1).toList)) || (!(((rd_T24 l0 x5_1).f2) == ((rd_T24 l1 x5_1).f2))))) = true
              · rw [if_pos c7] at H
                have c7b0 : (!(((rd_T24 l0 x5_1).f0) == ((rd_T24 l1 x5_1).f0)) || (!((((rd_T24 l0 x5_1).f1).toList) == (((rd_T24 l1 x5_1).f1).toList)) || (!(((rd_T24 l0 x5_1).f2) == ((rd_T24 l1 x5_1).f2))))) = true := c7
                clear c7
                obtain rfl := Option.some.inj H
                have p101 : 0 ≤ (x5_1 : Int) := of_decide_eq_true (by first | (with_reducible assumption) | assumption)
                have q101 : x5_1 < (l0.length : Int) := of_decide_eq_true (by first | (with_reducible assumption) | assumption)
                obtain ⟨ad101, e101, hx101_0, hx101_1, hx101_2⟩ := at_T24 HR0.out x5_1 p101 q101
                cases e101
                replace p101 := eq_true p101
                replace q101 := eq_true q101
                have p102 : 0 ≤ (x5_1 : Int) := of_decide_eq_true (by first | (with_reducible assumption) | assumption)
                have q102 : x5_1 < (l1.length : Int) := of_decide_eq_true (by first | (with_reducible assumption) | assumption)
                obtain ⟨ad102, e102, hx102_0, hx102_1, hx102_2⟩ := at_T24 HR1.out x5_1 p102 q102
                cases e102
                replace p102 := eq_true p102
                replace q102 := eq_true q102
                go_wp2
                repeat (go_quiet (fail); try go_wp2)
                go_ret
                exact ⟨by first | rfl | (simp; done) | (simp [*]; done), by repeat (first | exact Drawn0.refl _ | apply Drawn0.step)⟩
              · rw [if_neg c7] at H
                have c7b0 : (!(((rd_T24 l0 x5_1).f0) == ((rd_T24 l1 x5_1).f0)) || (!((((rd_T24 l0 x5_1).f1).toList) == (((rd_T24 l1 x5_1).f1).toList)) || (!(((rd_T24 l0 x5_1).f2) == ((rd_T24 l1 x5_1).f2))))) = false := by simpa using c7
                clear c7
                have H' := Aside0.mk H
                clear H
                have p101 : 0 ≤ (x5_1 : Int) := of_decide_eq_true (by first | (with_reducible assumption) | assumption)
                have q101 : x5_1 < (l0.length : Int) := of_decide_eq_true (by first | (with_reducible assumption) | assumption)
                obtain ⟨ad101, e101, hx101_0, hx101_1, hx101_2⟩ := at_T24 HR0.out x5_1 p101 q101
                cases e101
                replace p101 := eq_true p101
                replace q101 := eq_true q101
                have p102 : 0 ≤ (x5_1 : Int) := of_decide_eq_true (by first | (with_reducible assumption) | assumption)
                have q102 : x5_1 < (l1.length : Int) := of_decide_eq_true (by first | (with_reducible assumption) | assumption)
                obtain ⟨ad102, e102, hx102_0, hx102_1, hx102_2⟩ := at_T24 HR1.out x5_1 p102 q102
                cases e102
                replace p102 := eq_true p102
                replace q102 := eq_true q102
                go_wp2
                repeat (go_quiet (fail); try go_wp2)
                go_roundg k1
                case measure => have := HK1.out; omega
                case rel => exact ⟨(wrap64 (x5_1 + 1)), (by first | rfl | (simp; done) | (generalize ByteArray.toList _ = l_; cases l_ <;> rfl) | (simp [*]; done)), H', ⟨by have := HK1.out; omega⟩, by repeat (first | exact Drawn0.refl _ | apply Drawn0.step)⟩
            · rw [if_neg c6] at H
              exact absurd H (by simp)
          · rw [if_neg c5] at H
            exact absurd H (by simp)
        · rw [if_neg c4] at H
          have c4b0 : decide (x5_1 < (l0.length : Int)) = false := decide_eq_false c4
          clear c4
          obtain rfl := Option.some.inj H
          go_wp2
          repeat (go_quiet (fail); try go_wp2)
          go_ret
          exact ⟨by first | rfl | (simp; done) | (simp [*]; done), by repeat (first | exact Drawn0.refl _ | apply Drawn0.step)⟩
  · rw [if_neg c3] at H
    have c3b0 : ((l0.length : Int) == (l1.length : Int)) = false := beq_eq_false_iff_ne.mpr c3
    have c3b1 : ((l0.length : Int) != (l1.length : Int)) = true := bne_iff_ne.mpr c3
    have c3b2 : (l0.length == l1.length) = false := by first | simpa using c3 | (simp at c3 ⊢; omega)
    obtain rfl := Option.some.inj H
    go_enter Try.func56, Try.ntmps56
    go_wp2
    repeat (go_quiet (fail); try go_wp2)
    go_ret
    exact ⟨by first | rfl | (simp; done) | (simp [*]; done), by repeat (first | exact Drawn0.refl _ | apply Drawn0.step)⟩
end Go.Proofs.Ytfahpihbbkkngaa.P

-- from the text Rk
namespace Go.Proofs.Ytfahpihbbkkngaa.P
open Go.RowKit Go.Proofs.YtfahpihbbkkngaaW.PrintWords Go.Proofs.YtfahpihbbkkngaaW.PrintLast Go.Proofs.YtfahpihbbkkngaaW.PrintMore
set_option linter.unusedVariables false
set_option linter.unusedSimpArgs false
theorem same_ev (us : List S24) (hl : us.length ≤ 100000) : ∀ (d i : Nat), us.length - i = d → i ≤ us.length → Ev (fun k => ironbarklaw20_same.l0 k us us (i : Int)) true
  | 0, i, hd, hi => by
    obtain rfl : i = us.length := by omega
    refine Ev.step (f := fun _ => some true) (fun k => ?_) (Ev.now _)
    show ironbarklaw20_same.l0 (k + 1) us us (us.length : Int) = _
    conv => lhs; unfold ironbarklaw20_same.l0
    rw [if_neg (by omega)]
  | d + 1, i, hd, hi => by
    have hw : wrap64 ((i : Int) + 1) = ((i + 1 : Nat) : Int) := by unfold wrap64; omega
    refine Ev.step (f := fun k => ironbarklaw20_same.l0 k us us ((i + 1 : Nat) : Int)) (fun k => ?_) (same_ev us hl d (i + 1) (by omega) (by omega))
    show ironbarklaw20_same.l0 (k + 1) us us (i : Int) = _
    conv => lhs; unfold ironbarklaw20_same.l0
    rw [if_pos (by omega), if_pos (by omega), if_pos (by omega), hw, if_neg (by simp)]
theorem same_is (us : List S24) (A0 A1 : Option Addr) (c0 c1 : Nat) (w : World) (hl : us.length ≤ 100000) (h0 : Kd.C k24 w A0 us.length us) (hc0 : us.length ≤ c0) (h1 : Kd.C k24 w A1 us.length us) (hc1 : us.length ≤ c1) :
    Calls Try.prog 56 #[.slice A0 us.length c0, .slice A1 us.length c1] w fun e w' => e = .returned (.bool true) ∧ Drawn0 w w' := by
  have hE : Ev (fun k => ironbarklaw20_same.f k us us) true := by
    refine Ev.congr (f := fun k => ironbarklaw20_same.l0 k us us ((0 : Nat) : Int)) (fun k => ?_) (same_ev us hl us.length 0 (by omega) (by omega))
    unfold ironbarklaw20_same.f
    rw [if_pos rfl]
    rfl
  obtain ⟨k, hk⟩ := hE.rounds
  exact ironbarklaw20_same.calls k A0 c0 us A1 c1 us true w h0 hc0 h1 hc1 hk
theorem C_own24 {w : World} {base : Nat} {v : Value} {us : List S24} (h : w.ownsRow base 24 3 v us.length (cUs us)) : ∃ A c, v = .slice A us.length c ∧ us.length ≤ c ∧ Kd.C k24 w A us.length us := by
  rcases h.2 with ⟨rfl, h0⟩ | ⟨g, cap, cur, rfl, hb, hg, hcap, hmx, hsz, ht⟩
  · have : us = [] := List.eq_nil_of_length_eq_zero h0
    subst this
    exact ⟨none, 0, rfl, Nat.le_refl _, Kd.C_nil k24 w⟩
  · refine ⟨_, cap, rfl, hcap, rfl, by have : maxLen = 9223372036854775807 := rfl; omega, fun _ => ⟨_, rfl, fun j p hj => ⟨cU p, rfl, k24_mk w p, fun i u hu => ?_⟩⟩⟩
    rw [add_plain]
    have hi : i < 3 := (List.getElem?_eq_some_iff.1 hu).1
    exact ownsRow_cell h ((cUs_at i hi us j p hj).trans hu)
theorem runits_range (v : Value) (k : Int) (l : List S94) (G : Nat → Prop) (w : World) (h : RD w G v l) (hk : k < 0 ∨ (l.length : Int) ≤ k) :
    Calls Try.prog 55 #[.agg #[v], .int .i64 k] w fun e w' => e = .returned (.tuple #[.slice none 0 0, .int .i64 7]) ∧ Below w.heap.size w w' := by
  obtain ⟨A, cp, rfl, _, _⟩ := h.slice
  have h1 := (Below.refl w.heap.size w).alloc (Nat.le_refl _) (.cells #[.slice A l.length cp] 55 (0, 0))
  clear h
  by_cases h3 : k < 0
  · have d1 : decide (k < 0) = true := decide_eq_true h3
    go_enter Try.func55, Try.ntmps55
    go_wp2_with fail
    go_ret2
    exact ⟨rfl, h1⟩
  · have d1 : decide (k < 0) = false := decide_eq_false h3
    have d2 : decide (k ≥ (l.length : Int)) = true := decide_eq_true (by omega)
    go_enter Try.func55, Try.ntmps55
    go_wp2_with fail
    go_ret2
    exact ⟨rfl, h1⟩
theorem runits_is (v : Value) (k : Nat) (l : List S94) (G : Nat → Prop) (w : World) (h : RD w G v l) (hk : k < l.length) :
    Calls Try.prog 55 #[.agg #[v], .int .i64 (k : Int)] w fun e w' => ∃ A c, e = .returned (.tuple #[.slice A (rd_T94 l (k : Int)).f0.length c, .int .i64 0]) ∧ (rd_T94 l (k : Int)).f0.length ≤ c ∧ Kd.C k24 w' A (rd_T94 l (k : Int)).f0.length (rd_T94 l (k : Int)).f0 ∧ Below w.heap.size w w' := by
  obtain ⟨A, cp, rfl, _, hC⟩ := h.slice
  obtain ⟨ad, A0, c0, rfl, x0, _, _, _, _, hc0, hC0⟩ := at_T94 hC (k : Int) (by omega) (by omega)
  simp only [Int.toNat_natCast] at x0
  have h1 := Aside0.mk ((Below.refl w.heap.size w).alloc (Nat.le_refl _) (.cells #[.slice (some ad) l.length cp] 55 (0, 0)))
  replace x0 := pw_cell_below h1.out x0
  have HC := Aside0.mk (Kd.C_below hC0 h1.out)
  generalize rd_T94 l (k : Int) = x at *
  have d1 : decide ((k : Int) < 0) = false := decide_eq_false (by omega)
  have d2 : decide ((k : Int) ≥ (l.length : Int)) = false := decide_eq_false (by omega)
  have k0 : (0 : Int) ≤ (k : Int) := by omega
  have k1 : (k : Int) < (l.length : Int) := by omega
  clear h hC hC0
  go_enter Try.func55, Try.ntmps55
  go_wp2_with fail
  go_ret2
  exact ⟨A0, c0, rfl, hc0, HC.out, h1.out⟩
end Go.Proofs.Ytfahpihbbkkngaa.P

-- from the text Rl
namespace Go.Proofs.Ytfahpihbbkkngaa.P
open Go.RowKit Go.Proofs.YtfahpihbbkkngaaW.PrintWords Go.Proofs.YtfahpihbbkkngaaW.PrintLast Go.Proofs.YtfahpihbbkkngaaW.PrintMore
set_option linter.unusedVariables false
set_option linter.unusedSimpArgs false
attribute [local go_sem high] eqA24
theorem meet_both {m : Nat} {D : List (Fr × S94)} (hr : Rel m D) (hm : m ≤ 900) (c : Int) (n : ByteArray) : ∃ (x0 : Int) (x1 : ByteArray) (x2 a er : Int),
    (∀ s F w, St w s (D.map Prod.fst) F → Calls Try.prog 14 #[.pointer (some ⟨s, 0, none⟩), .int .i64 c, .string n] w fun e w' => e = .returned (.tuple #[.agg #[.int .i64 x0, .string x1, .int .i64 x2], .int .i64 a, .int .i64 er]) ∧ Below w.heap.size w w') ∧
    (∀ v G w, RD w G v (D.map Prod.snd) → Calls Try.prog 49 #[.agg #[v], .int .i64 c, .string n] w fun e w' => e = .returned (.tuple #[.agg #[.int .i64 x0, .string x1, .int .i64 x2], .int .i64 a, .int .i64 er]) ∧ Below w.heap.size w w') := by
  cases hq : rightB c n with
  | false => exact ⟨_, _, _, _, _, fun s F w hs => meet_bad s c n w hq, fun v G w hv => rmeet_bad c n _ hq v G w hv⟩
  | true =>
    have hle := hr.le
    have h1 := fun s F w (hs : St w s (D.map Prod.fst) F) => meet_is s c n (D.map Prod.fst) F w hq hs (by simp; omega) (fun f hf => by
      obtain ⟨p, hp, rfl⟩ := List.mem_map.1 hf
      exact (hr.fr p hp).bl) (fun f hf => by
      obtain ⟨p, hp, rfl⟩ := List.mem_map.1 hf
      exact Nat.le_trans (hr.fr p hp).len (by omega))
    have h2 := fun v G w (hv : RD w G v (D.map Prod.snd)) => rmeet_is m (by omega) c n D hr hq v G w hv
    generalize findL c n (D.map Prod.fst) (fromL c n (((D.map Prod.fst).length : Int) - 1) (D.map Prod.fst) + 1).toNat = o at h1 h2
    cases o with
    | none => exact ⟨_, _, _, _, _, h1, h2⟩
    | some p => exact ⟨_, _, _, _, _, h1, h2⟩
set_option maxRecDepth 100000 in
set_option maxHeartbeats 8000000 in
theorem alike_is (E : Nat → Prop) (B : Nat) (s : Nat) (A : Option Addr) (cp : Nat) (D : List (Fr × S94)) (m : Nat) (u : S24) (w : World) (h : PE E B w s (.slice A D.length cp) (D.map Prod.fst) (D.map Prod.snd)) (hr : Rel m D) (hm : m ≤ 900) :
    Calls Try.prog 34 #[.pointer (some ⟨s, 0, none⟩), .agg #[.slice A D.length cp], .agg #[.int .i64 u.f0, .string u.f1, .int .i64 u.f2]] w fun e w' => e = .returned (.bool true) ∧ Below w.heap.size w w' := by
  obtain ⟨F, G, hs, hv, _⟩ := h
  have hle := hr.le
  obtain ⟨x0, x1, x2, a, er, hm1, hm2⟩ := meet_both hr hm u.f0 u.f1
  have HB0 := Aside0.mk (((Below.refl w.heap.size w).alloc (Nat.le_refl _) (.cells #[.slice A D.length cp] 55 (0, 0))).alloc (by simp) (.cells #[.int .i64 u.f0, .string u.f1, .int .i64 u.f2] 24 (0, 0)))
  have hs2 := hs.below HB0.out
  have hv2 := hv.below HB0.out
  have B0 := Aside0.mk (blk_alloc (blk_new w (.cells #[.slice A D.length cp] 55 (0, 0))) (.cells #[.int .i64 u.f0, .string u.f1, .int .i64 u.f2] 24 (0, 0)))
  have B1 := blk_new (w.alloc (.cells #[.slice A D.length cp] 55 (0, 0))) (.cells #[.int .i64 u.f0, .string u.f1, .int .i64 u.f2] 24 (0, 0))
  simp only [World.size_alloc] at B1
  replace B1 := Aside0.mk B1
  go_enter Try.func34, Try.ntmps34
  go_wp2_with fail
  generalize ((w.alloc (.cells #[.slice A D.length cp] 55 (0, 0))).alloc (.cells #[.int .i64 u.f0, .string u.f1, .int .i64 u.f2] 24 (0, 0))) = w2 at *
  have HDEP := Aside0.mk (fun W (hW : Below w2.heap.size w2 W) => (show Calls Try.prog 15 #[.pointer (some ⟨s, 0, none⟩)] W (fun e w' => e = .returned (.int .i64 (D.length : Int)) ∧ Below W.heap.size W w') by simpa using depth_is s _ F W (hs2.below hW)))
  have HUR := Aside0.mk (fun (i : Int) (hi : i < 0 ∨ (D.length : Int) ≤ i) W (hW : Below w2.heap.size w2 W) => units_range s i _ F W (hs2.below hW) (by simpa using hi))
  have HRR := Aside0.mk (fun (i : Int) (hi : i < 0 ∨ (D.length : Int) ≤ i) W (hW : Below w2.heap.size w2 W) => runits_range (.slice A D.length cp) i _ G W (hv2.below hW) (by simpa using hi))
  have HZ := Aside0.mk (fun (k : Nat) => (show ((D.map Prod.fst).getD k fr0).us = (rd_T94 (D.map Prod.snd) (k : Int)).f0 ∧ (rd_T94 (D.map Prod.snd) (k : Int)).f0.length ≤ 900 from by
    have := z94_rel m D hr.fr k
    have h1 := this.us
    have h2 := this.len
    dsimp only at h1 h2
    exact ⟨h1, by rw [← h1]; omega⟩))
  have HUI := Aside0.mk (fun (k : Nat) (hk : k < D.length) W (hW : Below w2.heap.size w2 W) => units_is s k _ F W (hs2.below hW) (by simpa using hk) (by simp; omega) (by have := HZ.out k; rw [this.1]; omega))
  have HRI := Aside0.mk (fun (k : Nat) (hk : k < D.length) W (hW : Below w2.heap.size w2 W) => runits_is (.slice A D.length cp) k _ G W (hv2.below hW) (by simpa using hk))
  have HM1 := Aside0.mk (fun W (hW : Below w2.heap.size w2 W) => hm1 s F W (hs2.below hW))
  have HM2 := Aside0.mk (fun W (hW : Below w2.heap.size w2 W) => hm2 (.slice A D.length cp) G W (hv2.below hW))
  clear hs hv hs2 hv2 hm1 hm2 hr
  refine start_ (n := 6) (S := fun W => W.heap[w.heap.size]? = some (.cells #[.slice A D.length cp] 55 (0, 0)) ∧ Below w2.heap.size w2 W) (ds := []) #[false, false, false, false, false, false] (by kernel_rfl) rfl rfl ⟨blk_drew B0.out, below_drew (Below.refl _ _)⟩ (fun hHeld => ?_)
  generalize w2.drew = w3 at hHeld ⊢
  refine pure_ (i := 0) (N := some 18) (v := ?_) (a' := ?_) #[true, false, false, false, false, false] rfl rfl (by kernel_rfl) (fun _ _ _ h => h) (Or.inl ⟨by rfl, ?_⟩) ?_ ?_
  rotate_left
  · intro w_
    go_simp
    with_reducible rfl
  rotate_left
  · simp only [Act.put, List.setIfInBounds_toArray, List.set_cons_zero, List.set_cons_succ, i64_w, i32_w]
    rfl
  refine pure_ (i := 2) (N := some 20) (v := ?_) (a' := ?_) #[true, false, true, false, false, false] rfl rfl (by kernel_rfl) (fun _ _ _ h => h) (Or.inl ⟨by rfl, ?_⟩) ?_ ?_
  rotate_left
  · intro w_
    go_simp
    with_reducible rfl
  rotate_left
  · simp only [Act.put, List.setIfInBounds_toArray, List.set_cons_zero, List.set_cons_succ, i64_w, i32_w]
    rfl
  refine take_ (i := 3) (N := some 21) (v := ?_) (a' := ?_) #[true, false, true, true, false, false] rfl rfl (by kernel_rfl) (fun _ _ _ h => h) (Or.inl ⟨by rfl, ?_⟩) hHeld ?_ ?_
  rotate_left
  · rintro w_ ⟨hs_, _⟩
    have s0 := (blk_cell hs_ 0).trans rfl
    go_simp
    with_reducible rfl
  rotate_left
  · simp only [Act.put, List.setIfInBounds_toArray, List.set_cons_zero, List.set_cons_succ, i64_w, i32_w]
    rfl
  refine pure_ (i := 4) (N := some 22) (v := ?_) (a' := ?_) #[true, false, true, true, true, false] rfl rfl (by kernel_rfl) (fun _ _ _ h => h) (Or.inl ⟨by rfl, ?_⟩) ?_ ?_
  rotate_left
  · intro w_
    go_simp
    with_reducible rfl
  rotate_left
  · simp only [Act.put, List.setIfInBounds_toArray, List.set_cons_zero, List.set_cons_succ, i64_w, i32_w]
    rfl
  refine one_ (i := 1) (N := some 19) #[true, true, true, true, true, false] rfl rfl (by kernel_rfl) (by decide) (fun K' hK => ?_)
  refine goes_ Try.func15 (by kernel_rfl) rfl #[.pointer (some ⟨s, 0, none⟩)] (by rfl) rfl rfl (by (try simp only [List.map_toArray, List.map_cons, List.map_nil]); first | done | rfl) ?_
  refine (HDEP.out w3 hHeld.2).mono ?_
  rintro e w4 ⟨rfl, hb⟩
  refine ⟨_, rfl, ?_⟩
  refine hK.out _ _ ⟨blk_below hHeld.1 hb, hHeld.2.trans (hb.mono hHeld.2.size)⟩ (fun hHeld => ?_)
  clear hK K' hb
  refine norm_ (a' := ?_) ?_ ?_
  rotate_left
  · show Act.put _ (some 19) _ = _
    simp only [Act.put, List.setIfInBounds_toArray, List.set_cons_zero, List.set_cons_succ, i64_w, i32_w]
    rfl
  refine pure_ (i := 5) (N := some 23) (v := ?_) (a' := ?_) #[true, true, true, true, true, true] rfl rfl (by kernel_rfl) (fun _ _ _ h => h) (Or.inl ⟨by rfl, ?_⟩) ?_ ?_
  rotate_left
  · intro w_
    go_simp
    with_reducible rfl
  rotate_left
  · simp only [Act.put, List.setIfInBounds_toArray, List.set_cons_zero, List.set_cons_succ, i64_w, i32_w]
    rfl
  refine done_ (by kernel_rfl) ?_
  have HB4 := Aside0.mk hHeld.2
  have b0 := (blk_cell hHeld.1 0).trans rfl
  clear hHeld
  go_wp2_with fail
  clear b0
  go_loopw [7] (fun p wr => ∃ i : Int, -1 ≤ i ∧ i ≤ (D.length : Int) + 1 ∧ p = .int .i64 i ∧ Aside0 (Below w2.heap.size w2 wr)) (fun p _ => ((D.length : Int) + 1 - intOf p).toNat)
  case atStart => exact ⟨-1, by omega, by omega, rfl, HB4⟩
  case round =>
    clear HB4
    obtain ⟨i, h1, h2, rfl, HB⟩ := hrel
    have hwi : wrap64 (i + 1) = i + 1 := by unfold wrap64; omega
    have c0 := (blk_cell (blk_below B0.out HB.out) 0).trans rfl
    by_cases hlt : i ≤ (D.length : Int)
    · by_cases hrg : i < 0 ∨ (D.length : Int) ≤ i
      · go_wp2_with fail
        refine (HUR.out i hrg wr HB.out).mono ?_
        rintro e w5 ⟨rfl, hb⟩
        have HB5 := Aside0.mk (HB.out.trans (hb.mono HB.out.size))
        have c1 := (blk_cell (blk_below B0.out HB5.out) 0).trans rfl
        clear hb c0
        go_wp2_with fail
        refine (HRR.out i hrg w5 HB5.out).mono ?_
        rintro e w6 ⟨rfl, hb⟩
        have HB6 := Aside0.mk (HB5.out.trans (hb.mono HB5.out.size))
        clear hb c1
        go_wp2_with fail
        refine (same_is [] none none 0 0 w6 (by simp) (Kd.C_nil k24 w6) (Nat.le_refl _) (Kd.C_nil k24 w6) (Nat.le_refl _)).mono ?_
        rintro e w7 ⟨rfl, hb⟩
        have HB7 := Aside0.mk (HB6.out.trans (hb.below.mono HB6.out.size))
        clear hb
        go_wp2_with fail
        exact ⟨⟨i + 1, by omega, by omega, rfl, HB7⟩, by simp [intOf]; omega⟩
      · obtain ⟨k, rfl⟩ := Int.eq_ofNat_of_zero_le (show 0 ≤ i by omega)
        have hz := HZ.out k
        have hzl := hz.2
        have HU := HUI.out k (by omega) wr HB.out
        have HRk := HRI.out k (by omega)
        rw [hz.1] at HU
        clear hz
        generalize (rd_T94 (D.map Prod.snd) (k : Int)).f0 = us at HU HRk hzl
        replace HU := Aside0.mk HU
        replace HRk := Aside0.mk HRk
        go_wp2_with fail
        refine HU.out.mono ?_
        rintro e w5 ⟨v1, rfl, hown, hb⟩
        obtain ⟨A5, c5, rfl, hc5, hC5⟩ := C_own24 hown
        have HC5 := Aside0.mk hC5
        have HB5 := Aside0.mk (HB.out.trans (hb.mono HB.out.size))
        have c1 := (blk_cell (blk_below B0.out HB5.out) 0).trans rfl
        clear hb c0 hown hC5
        go_wp2_with fail
        refine (HRk.out w5 HB5.out).mono ?_
        rintro e w6 ⟨A6, c6, rfl, hc6, hC6, hb⟩
        have HC6 := Aside0.mk hC6
        have HC5 := Aside0.mk (Kd.C_below HC5.out hb)
        have HB6 := Aside0.mk (HB5.out.trans (hb.mono HB5.out.size))
        clear hb c1 hC6
        go_wp2_with fail
        refine (same_is _ A5 A6 c5 c6 w6 (Nat.le_trans hzl (by decide)) HC5.out hc5 HC6.out hc6).mono ?_
        rintro e w7 ⟨rfl, hb⟩
        have HB7 := Aside0.mk (HB6.out.trans (hb.below.mono HB6.out.size))
        clear hb
        go_wp2_with fail
        exact ⟨⟨(k : Int) + 1, by omega, by omega, rfl, HB7⟩, by simp [intOf]; omega⟩
    · have e0 := (blk_cell (blk_below B1.out HB.out) 0).trans rfl
      have e1 := (blk_cell (blk_below B1.out HB.out) 1).trans rfl
      go_wp2_with fail
      refine (HM1.out wr HB.out).mono ?_
      rintro e w5 ⟨rfl, hb⟩
      have hal := (Below.refl w5.heap.size w5).alloc (Nat.le_refl _) (.cells #[.int .i64 x0, .string x1, .int .i64 x2] 24 (0, 0))
      have HB5 := Aside0.mk ((HB.out.trans (hb.mono HB.out.size)).trans (hal.mono (Nat.le_trans HB.out.size hb.size)))
      have hn := Aside0.mk (blk_new w5 (.cells #[.int .i64 x0, .string x1, .int .i64 x2] 24 (0, 0)))
      have c1 := (blk_cell (blk_below B0.out HB5.out) 0).trans rfl
      have e2 := (blk_cell (blk_below B1.out HB5.out) 0).trans rfl
      have e3 := (blk_cell (blk_below B1.out HB5.out) 1).trans rfl
      clear hb c0 e0 e1 hal
      go_wp2_with fail
      refine (HM2.out _ HB5.out).mono ?_
      rintro e w7 ⟨rfl, hb⟩
      have hal := (Below.refl w7.heap.size w7).alloc (Nat.le_refl _) (.cells #[.int .i64 x0, .string x1, .int .i64 x2] 24 (0, 0))
      have HB7 := Aside0.mk ((HB5.out.trans (hb.mono HB5.out.size)).trans (hal.mono (Nat.le_trans HB5.out.size hb.size)))
      have hn2 := blk_below (blk_below hn.out hb) hal
      have hn3 := blk_new w7 (.cells #[.int .i64 x0, .string x1, .int .i64 x2] 24 (0, 0))
      have y0 := (blk_cell hn2 0).trans rfl
      have y1 := (blk_cell hn2 1).trans rfl
      have y2 := (blk_cell hn2 2).trans rfl
      have z0 := (blk_cell hn3 0).trans rfl
      have z1 := (blk_cell hn3 1).trans rfl
      have z2 := (blk_cell hn3 2).trans rfl
      clear hb c1 e2 e3 hal hn2 hn3
      go_wp2_with fail
      go_ret
      exact ⟨rfl, HB0.out.trans (HB7.out.mono HB0.out.size)⟩
end Go.Proofs.Ytfahpihbbkkngaa.P

-- from the text Q
namespace Go.Proofs.Ytfahpihbbkkngaa.P
open Go.RowKit Go.ChangeShapes Go.WideShapes Go.ChangeAt Go.Deep Go.Proofs.YtfahpihbbkkngaaW.PrintWords Go.Proofs.YtfahpihbbkkngaaW.PrintLast Go.Proofs.YtfahpihbbkkngaaW.PrintMore
set_option linter.unusedVariables false
set_option linter.unusedSimpArgs false
set_option maxRecDepth 100000
theorem list_of {α : Type} {p : Nat → α → Prop} : ∀ n : Nat, (∀ i, i < n → ∃ x, p i x) → ∃ l : List α, l.length = n ∧ ∀ i x, l[i]? = some x → p i x
  | 0, _ => ⟨[], rfl, fun i x h => by simp at h⟩
  | n + 1, h => by
    obtain ⟨l, hl, hp⟩ := list_of n (fun i hi => h i (by omega))
    obtain ⟨x, hx⟩ := h n (by omega)
    refine ⟨l ++ [x], by simp [hl], fun i y hy => ?_⟩
    rcases Nat.lt_trichotomy i n with h1 | h1 | h1
    · exact hp i y (by rw [List.getElem?_append_left (by omega)] at hy; exact hy)
    · subst h1; rw [List.getElem?_append_right (by omega), hl] at hy; simp at hy; subst hy; exact hx
    · rw [List.getElem?_eq_none (by simp; omega)] at hy; cases hy
section
variable {H : Type} {enc : TypeId × Value → H} {w : World} {base : Nat} {spare : Nat → Bool} {held : Bool} {fuel : Nat} {cs : List Value} {x : DataW H × List MemPlace}
theorem sized_any {P : Program} {t e : TypeId} {a : Option Addr} {len cap : Nat} {d : DataW H} {ps : List MemPlace} {ts : List TypeId} {ds : List (DataW H)} {j : Nat} (hsz : (DataW.weightsEach P ts ds).all (· ≤ reachBytes) = true) (ht : ts[j]? = some t) (hd : ds[j]? = some d) (hu : P.underlying t = some (.slice e)) {B : Nat} (hB : P.bytesOf e = B) (h : DataW.Trod enc P w base spare held t (.slice a len cap) d ps) : len * B ≤ 140737488351232 := by
  obtain ⟨fuel, hf⟩ := h
  rcases open_slice hu hf with ⟨hcs, _⟩ | ⟨a', len', cap', m, n, D, Pl, hcs, _, hl, _, _, hx, _⟩
  · simp [Value.cells] at hcs
    obtain ⟨rfl, rfl, rfl⟩ := hcs
    simp
  · simp [Value.cells] at hcs
    obtain ⟨rfl, rfl, rfl⟩ := hcs
    obtain ⟨hx, _⟩ := Prod.mk.inj hx
    subst hx
    have z := sized_slice hsz ht hd hu
    rw [hB, List.length_map, List.length_range] at z
    exact Nat.le_trans (Nat.mul_le_mul_right _ (Nat.le_add_right _ _)) z
def Wf71 (x : S71) : Prop := (Lit.int .i64 x.f0).wf = true ∧ x.f1.size ≤ maxLen
theorem cells71 : Try.prog.cellsOf 71 = 2 := by kernel_rfl
theorem trod71 (h : DataW.trod enc Try.prog w base spare held fuel 71 cs = some x) : ∃ s : S71, cs = [.int .i64 s.f0, .string s.f1] ∧ Wf71 s := by
  obtain ⟨xs, n, _, _, hlen, hxl, hf⟩ := DataW.trod_struct Try.underlying71 h
  rw [cells71] at hlen
  match cs, hlen, xs, hxl with
  | [c0, c1], _, [y0, y1], _ =>
    have g0 : DataW.trod enc Try.prog w base spare held n 3 (List.take (Try.prog.cellsOf 3) (List.drop 0 [c0, c1])) = some y0 := hf 0 _ rfl
    rw [show Try.prog.cellsOf 3 = 1 from by kernel_rfl] at g0
    replace g0 : DataW.trod enc Try.prog w base spare held n 3 [c0] = some y0 := g0
    have g1 : DataW.trod enc Try.prog w base spare held n 9 (List.take (Try.prog.cellsOf 9) (List.drop 1 [c0, c1])) = some y1 := hf 1 _ rfl
    rw [show Try.prog.cellsOf 9 = 1 from by kernel_rfl] at g1
    replace g1 : DataW.trod enc Try.prog w base spare held n 9 [c1] = some y1 := g1
    obtain ⟨s0, e0, -, w0⟩ := DataW.trod_int Try.underlying3 g0
    simp only [List.cons.injEq, and_true] at e0
    subst e0
    obtain ⟨s1, e1, -, w1⟩ := DataW.trod_string Try.underlying9 g1
    simp only [List.cons.injEq, and_true] at e1
    subst e1
    exact ⟨⟨s0, s1⟩, rfl, w0, w1⟩
theorem arg71 {W : World} {r : Reach} {b0 : Nat} {v : Value} {d : DataW H} {p : List MemPlace} (hv : Value.okWide Try.prog W r b0 71 v) (h : DataW.Trod enc Try.prog w base spare held 71 v d p) : ∃ s : S71, v = .agg #[.int .i64 s.f0, .string s.f1] ∧ Wf71 s := by
  obtain ⟨cs, rfl, _⟩ := okWide_struct Try.underlying71 hv
  obtain ⟨fuel, hf⟩ := h
  obtain ⟨s, e, hw⟩ := trod71 hf
  refine ⟨s, ?_, hw⟩
  have e2 : cs.toList = _ := e
  rw [← e2]
def Wf51 (x : S51) : Prop := (Lit.int .i64 x.f0).wf = true ∧ x.f1.size ≤ maxLen ∧ True
theorem cells51 : Try.prog.cellsOf 51 = 3 := by kernel_rfl
theorem trod51 (h : DataW.trod enc Try.prog w base spare held fuel 51 cs = some x) : ∃ s : S51, cs = [.int .i64 s.f0, .string s.f1, .bool s.f2] ∧ Wf51 s := by
  obtain ⟨xs, n, _, _, hlen, hxl, hf⟩ := DataW.trod_struct Try.underlying51 h
  rw [cells51] at hlen
  match cs, hlen, xs, hxl with
  | [c0, c1, c2], _, [y0, y1, y2], _ =>
    have g0 : DataW.trod enc Try.prog w base spare held n 3 (List.take (Try.prog.cellsOf 3) (List.drop 0 [c0, c1, c2])) = some y0 := hf 0 _ rfl
    rw [show Try.prog.cellsOf 3 = 1 from by kernel_rfl] at g0
    replace g0 : DataW.trod enc Try.prog w base spare held n 3 [c0] = some y0 := g0
    have g1 : DataW.trod enc Try.prog w base spare held n 9 (List.take (Try.prog.cellsOf 9) (List.drop 1 [c0, c1, c2])) = some y1 := hf 1 _ rfl
    rw [show Try.prog.cellsOf 9 = 1 from by kernel_rfl] at g1
    replace g1 : DataW.trod enc Try.prog w base spare held n 9 [c1] = some y1 := g1
    have g2 : DataW.trod enc Try.prog w base spare held n 4 (List.take (Try.prog.cellsOf 4) (List.drop 2 [c0, c1, c2])) = some y2 := hf 2 _ rfl
    rw [show Try.prog.cellsOf 4 = 1 from by kernel_rfl] at g2
    replace g2 : DataW.trod enc Try.prog w base spare held n 4 [c2] = some y2 := g2
    obtain ⟨s0, e0, -, w0⟩ := DataW.trod_int Try.underlying3 g0
    simp only [List.cons.injEq, and_true] at e0
    subst e0
    obtain ⟨s1, e1, -, w1⟩ := DataW.trod_string Try.underlying9 g1
    simp only [List.cons.injEq, and_true] at e1
    subst e1
    obtain ⟨s2, e2, -⟩ := DataW.trod_bool Try.underlying4 g2
    simp only [List.cons.injEq, and_true] at e2
    subst e2
    exact ⟨⟨s0, s1, s2⟩, rfl, w0, w1, trivial⟩
theorem arg51 {W : World} {r : Reach} {b0 : Nat} {v : Value} {d : DataW H} {p : List MemPlace} (hv : Value.okWide Try.prog W r b0 51 v) (h : DataW.Trod enc Try.prog w base spare held 51 v d p) : ∃ s : S51, v = .agg #[.int .i64 s.f0, .string s.f1, .bool s.f2] ∧ Wf51 s := by
  obtain ⟨cs, rfl, _⟩ := okWide_struct Try.underlying51 hv
  obtain ⟨fuel, hf⟩ := h
  obtain ⟨s, e, hw⟩ := trod51 hf
  refine ⟨s, ?_, hw⟩
  have e2 : cs.toList = _ := e
  rw [← e2]
def Wf24 (x : S24) : Prop := (Lit.int .i64 x.f0).wf = true ∧ x.f1.size ≤ maxLen ∧ (Lit.int .i64 x.f2).wf = true
theorem cells24 : Try.prog.cellsOf 24 = 3 := by kernel_rfl
theorem trod24 (h : DataW.trod enc Try.prog w base spare held fuel 24 cs = some x) : ∃ s : S24, cs = [.int .i64 s.f0, .string s.f1, .int .i64 s.f2] ∧ Wf24 s := by
  obtain ⟨xs, n, _, _, hlen, hxl, hf⟩ := DataW.trod_struct Try.underlying24 h
  rw [cells24] at hlen
  match cs, hlen, xs, hxl with
  | [c0, c1, c2], _, [y0, y1, y2], _ =>
    have g0 : DataW.trod enc Try.prog w base spare held n 3 (List.take (Try.prog.cellsOf 3) (List.drop 0 [c0, c1, c2])) = some y0 := hf 0 _ rfl
    rw [show Try.prog.cellsOf 3 = 1 from by kernel_rfl] at g0
    replace g0 : DataW.trod enc Try.prog w base spare held n 3 [c0] = some y0 := g0
    have g1 : DataW.trod enc Try.prog w base spare held n 9 (List.take (Try.prog.cellsOf 9) (List.drop 1 [c0, c1, c2])) = some y1 := hf 1 _ rfl
    rw [show Try.prog.cellsOf 9 = 1 from by kernel_rfl] at g1
    replace g1 : DataW.trod enc Try.prog w base spare held n 9 [c1] = some y1 := g1
    have g2 : DataW.trod enc Try.prog w base spare held n 3 (List.take (Try.prog.cellsOf 3) (List.drop 2 [c0, c1, c2])) = some y2 := hf 2 _ rfl
    rw [show Try.prog.cellsOf 3 = 1 from by kernel_rfl] at g2
    replace g2 : DataW.trod enc Try.prog w base spare held n 3 [c2] = some y2 := g2
    obtain ⟨s0, e0, -, w0⟩ := DataW.trod_int Try.underlying3 g0
    simp only [List.cons.injEq, and_true] at e0
    subst e0
    obtain ⟨s1, e1, -, w1⟩ := DataW.trod_string Try.underlying9 g1
    simp only [List.cons.injEq, and_true] at e1
    subst e1
    obtain ⟨s2, e2, -, w2⟩ := DataW.trod_int Try.underlying3 g2
    simp only [List.cons.injEq, and_true] at e2
    subst e2
    exact ⟨⟨s0, s1, s2⟩, rfl, w0, w1, w2⟩
theorem arg24 {W : World} {r : Reach} {b0 : Nat} {v : Value} {d : DataW H} {p : List MemPlace} (hv : Value.okWide Try.prog W r b0 24 v) (h : DataW.Trod enc Try.prog w base spare held 24 v d p) : ∃ s : S24, v = .agg #[.int .i64 s.f0, .string s.f1, .int .i64 s.f2] ∧ Wf24 s := by
  obtain ⟨cs, rfl, _⟩ := okWide_struct Try.underlying24 hv
  obtain ⟨fuel, hf⟩ := h
  obtain ⟨s, e, hw⟩ := trod24 hf
  refine ⟨s, ?_, hw⟩
  have e2 : cs.toList = _ := e
  rw [← e2]
def Wf29 (x : S29) : Prop := (Lit.int .u8 x.f0).wf = true ∧ (Lit.int .i64 x.f1).wf = true ∧ Wf24 x.f2
theorem cells29 : Try.prog.cellsOf 29 = 5 := by kernel_rfl
theorem trod29 (h : DataW.trod enc Try.prog w base spare held fuel 29 cs = some x) : ∃ s : S29, cs = [.int .u8 s.f0, .int .i64 s.f1, .int .i64 s.f2.f0, .string s.f2.f1, .int .i64 s.f2.f2] ∧ Wf29 s := by
  obtain ⟨xs, n, _, _, hlen, hxl, hf⟩ := DataW.trod_struct Try.underlying29 h
  rw [cells29] at hlen
  match cs, hlen, xs, hxl with
  | [c0, c1, c2, c3, c4], _, [y0, y1, y2], _ =>
    have g0 : DataW.trod enc Try.prog w base spare held n 5 (List.take (Try.prog.cellsOf 5) (List.drop 0 [c0, c1, c2, c3, c4])) = some y0 := hf 0 _ rfl
    rw [show Try.prog.cellsOf 5 = 1 from by kernel_rfl] at g0
    replace g0 : DataW.trod enc Try.prog w base spare held n 5 [c0] = some y0 := g0
    have g1 : DataW.trod enc Try.prog w base spare held n 3 (List.take (Try.prog.cellsOf 3) (List.drop 1 [c0, c1, c2, c3, c4])) = some y1 := hf 1 _ rfl
    rw [show Try.prog.cellsOf 3 = 1 from by kernel_rfl] at g1
    replace g1 : DataW.trod enc Try.prog w base spare held n 3 [c1] = some y1 := g1
    have g2 : DataW.trod enc Try.prog w base spare held n 24 (List.take (Try.prog.cellsOf 24) (List.drop 2 [c0, c1, c2, c3, c4])) = some y2 := hf 2 _ rfl
    rw [show Try.prog.cellsOf 24 = 3 from by kernel_rfl] at g2
    replace g2 : DataW.trod enc Try.prog w base spare held n 24 [c2, c3, c4] = some y2 := g2
    obtain ⟨s0, e0, -, w0⟩ := DataW.trod_int Try.underlying5 g0
    simp only [List.cons.injEq, and_true] at e0
    subst e0
    obtain ⟨s1, e1, -, w1⟩ := DataW.trod_int Try.underlying3 g1
    simp only [List.cons.injEq, and_true] at e1
    subst e1
    obtain ⟨s2, e2, w2⟩ := trod24 g2
    simp only [List.cons.injEq, and_true] at e2
    obtain ⟨rfl, rfl, rfl⟩ := e2
    exact ⟨⟨s0, s1, s2⟩, rfl, w0, w1, w2⟩
theorem arg29 {W : World} {r : Reach} {b0 : Nat} {v : Value} {d : DataW H} {p : List MemPlace} (hv : Value.okWide Try.prog W r b0 29 v) (h : DataW.Trod enc Try.prog w base spare held 29 v d p) : ∃ s : S29, v = .agg #[.int .u8 s.f0, .int .i64 s.f1, .int .i64 s.f2.f0, .string s.f2.f1, .int .i64 s.f2.f2] ∧ Wf29 s := by
  obtain ⟨cs, rfl, _⟩ := okWide_struct Try.underlying29 hv
  obtain ⟨fuel, hf⟩ := h
  obtain ⟨s, e, hw⟩ := trod29 hf
  refine ⟨s, ?_, hw⟩
  have e2 : cs.toList = _ := e
  rw [← e2]
def Wf42 (x : S42) : Prop := x.f0.size ≤ maxLen ∧ (Lit.int .i64 x.f1).wf = true ∧ True ∧ True ∧ True ∧ True ∧ (Lit.int .i64 x.f6).wf = true ∧ (Lit.int .i64 x.f7).wf = true
theorem cells42 : Try.prog.cellsOf 42 = 8 := by kernel_rfl
theorem trod42 (h : DataW.trod enc Try.prog w base spare held fuel 42 cs = some x) : ∃ s : S42, cs = [.string s.f0, .int .i64 s.f1, .bool s.f2, .bool s.f3, .bool s.f4, .bool s.f5, .int .i64 s.f6, .int .i64 s.f7] ∧ Wf42 s := by
  obtain ⟨xs, n, _, _, hlen, hxl, hf⟩ := DataW.trod_struct Try.underlying42 h
  rw [cells42] at hlen
  match cs, hlen, xs, hxl with
  | [c0, c1, c2, c3, c4, c5, c6, c7], _, [y0, y1, y2, y3, y4, y5, y6, y7], _ =>
    have g0 : DataW.trod enc Try.prog w base spare held n 9 (List.take (Try.prog.cellsOf 9) (List.drop 0 [c0, c1, c2, c3, c4, c5, c6, c7])) = some y0 := hf 0 _ rfl
    rw [show Try.prog.cellsOf 9 = 1 from by kernel_rfl] at g0
    replace g0 : DataW.trod enc Try.prog w base spare held n 9 [c0] = some y0 := g0
    have g1 : DataW.trod enc Try.prog w base spare held n 3 (List.take (Try.prog.cellsOf 3) (List.drop 1 [c0, c1, c2, c3, c4, c5, c6, c7])) = some y1 := hf 1 _ rfl
    rw [show Try.prog.cellsOf 3 = 1 from by kernel_rfl] at g1
    replace g1 : DataW.trod enc Try.prog w base spare held n 3 [c1] = some y1 := g1
    have g2 : DataW.trod enc Try.prog w base spare held n 4 (List.take (Try.prog.cellsOf 4) (List.drop 2 [c0, c1, c2, c3, c4, c5, c6, c7])) = some y2 := hf 2 _ rfl
    rw [show Try.prog.cellsOf 4 = 1 from by kernel_rfl] at g2
    replace g2 : DataW.trod enc Try.prog w base spare held n 4 [c2] = some y2 := g2
    have g3 : DataW.trod enc Try.prog w base spare held n 4 (List.take (Try.prog.cellsOf 4) (List.drop 3 [c0, c1, c2, c3, c4, c5, c6, c7])) = some y3 := hf 3 _ rfl
    rw [show Try.prog.cellsOf 4 = 1 from by kernel_rfl] at g3
    replace g3 : DataW.trod enc Try.prog w base spare held n 4 [c3] = some y3 := g3
    have g4 : DataW.trod enc Try.prog w base spare held n 4 (List.take (Try.prog.cellsOf 4) (List.drop 4 [c0, c1, c2, c3, c4, c5, c6, c7])) = some y4 := hf 4 _ rfl
    rw [show Try.prog.cellsOf 4 = 1 from by kernel_rfl] at g4
    replace g4 : DataW.trod enc Try.prog w base spare held n 4 [c4] = some y4 := g4
    have g5 : DataW.trod enc Try.prog w base spare held n 4 (List.take (Try.prog.cellsOf 4) (List.drop 5 [c0, c1, c2, c3, c4, c5, c6, c7])) = some y5 := hf 5 _ rfl
    rw [show Try.prog.cellsOf 4 = 1 from by kernel_rfl] at g5
    replace g5 : DataW.trod enc Try.prog w base spare held n 4 [c5] = some y5 := g5
    have g6 : DataW.trod enc Try.prog w base spare held n 3 (List.take (Try.prog.cellsOf 3) (List.drop 6 [c0, c1, c2, c3, c4, c5, c6, c7])) = some y6 := hf 6 _ rfl
    rw [show Try.prog.cellsOf 3 = 1 from by kernel_rfl] at g6
    replace g6 : DataW.trod enc Try.prog w base spare held n 3 [c6] = some y6 := g6
    have g7 : DataW.trod enc Try.prog w base spare held n 3 (List.take (Try.prog.cellsOf 3) (List.drop 7 [c0, c1, c2, c3, c4, c5, c6, c7])) = some y7 := hf 7 _ rfl
    rw [show Try.prog.cellsOf 3 = 1 from by kernel_rfl] at g7
    replace g7 : DataW.trod enc Try.prog w base spare held n 3 [c7] = some y7 := g7
    obtain ⟨s0, e0, -, w0⟩ := DataW.trod_string Try.underlying9 g0
    simp only [List.cons.injEq, and_true] at e0
    subst e0
    obtain ⟨s1, e1, -, w1⟩ := DataW.trod_int Try.underlying3 g1
    simp only [List.cons.injEq, and_true] at e1
    subst e1
    obtain ⟨s2, e2, -⟩ := DataW.trod_bool Try.underlying4 g2
    simp only [List.cons.injEq, and_true] at e2
    subst e2
    obtain ⟨s3, e3, -⟩ := DataW.trod_bool Try.underlying4 g3
    simp only [List.cons.injEq, and_true] at e3
    subst e3
    obtain ⟨s4, e4, -⟩ := DataW.trod_bool Try.underlying4 g4
    simp only [List.cons.injEq, and_true] at e4
    subst e4
    obtain ⟨s5, e5, -⟩ := DataW.trod_bool Try.underlying4 g5
    simp only [List.cons.injEq, and_true] at e5
    subst e5
    obtain ⟨s6, e6, -, w6⟩ := DataW.trod_int Try.underlying3 g6
    simp only [List.cons.injEq, and_true] at e6
    subst e6
    obtain ⟨s7, e7, -, w7⟩ := DataW.trod_int Try.underlying3 g7
    simp only [List.cons.injEq, and_true] at e7
    subst e7
    exact ⟨⟨s0, s1, s2, s3, s4, s5, s6, s7⟩, rfl, w0, w1, trivial, trivial, trivial, trivial, w6, w7⟩
theorem arg42 {W : World} {r : Reach} {b0 : Nat} {v : Value} {d : DataW H} {p : List MemPlace} (hv : Value.okWide Try.prog W r b0 42 v) (h : DataW.Trod enc Try.prog w base spare held 42 v d p) : ∃ s : S42, v = .agg #[.string s.f0, .int .i64 s.f1, .bool s.f2, .bool s.f3, .bool s.f4, .bool s.f5, .int .i64 s.f6, .int .i64 s.f7] ∧ Wf42 s := by
  obtain ⟨cs, rfl, _⟩ := okWide_struct Try.underlying42 hv
  obtain ⟨fuel, hf⟩ := h
  obtain ⟨s, e, hw⟩ := trod42 hf
  refine ⟨s, ?_, hw⟩
  have e2 : cs.toList = _ := e
  rw [← e2]
def Wf90 (x : S90) : Prop := (Lit.int .i64 x.f0).wf = true ∧ Wf42 x.f1
theorem cells90 : Try.prog.cellsOf 90 = 9 := by kernel_rfl
theorem trod90 (h : DataW.trod enc Try.prog w base spare held fuel 90 cs = some x) : ∃ s : S90, cs = [.int .i64 s.f0, .string s.f1.f0, .int .i64 s.f1.f1, .bool s.f1.f2, .bool s.f1.f3, .bool s.f1.f4, .bool s.f1.f5, .int .i64 s.f1.f6, .int .i64 s.f1.f7] ∧ Wf90 s := by
  obtain ⟨xs, n, _, _, hlen, hxl, hf⟩ := DataW.trod_struct Try.underlying90 h
  rw [cells90] at hlen
  match cs, hlen, xs, hxl with
  | [c0, c1, c2, c3, c4, c5, c6, c7, c8], _, [y0, y1], _ =>
    have g0 : DataW.trod enc Try.prog w base spare held n 3 (List.take (Try.prog.cellsOf 3) (List.drop 0 [c0, c1, c2, c3, c4, c5, c6, c7, c8])) = some y0 := hf 0 _ rfl
    rw [show Try.prog.cellsOf 3 = 1 from by kernel_rfl] at g0
    replace g0 : DataW.trod enc Try.prog w base spare held n 3 [c0] = some y0 := g0
    have g1 : DataW.trod enc Try.prog w base spare held n 42 (List.take (Try.prog.cellsOf 42) (List.drop 1 [c0, c1, c2, c3, c4, c5, c6, c7, c8])) = some y1 := hf 1 _ rfl
    rw [show Try.prog.cellsOf 42 = 8 from by kernel_rfl] at g1
    replace g1 : DataW.trod enc Try.prog w base spare held n 42 [c1, c2, c3, c4, c5, c6, c7, c8] = some y1 := g1
    obtain ⟨s0, e0, -, w0⟩ := DataW.trod_int Try.underlying3 g0
    simp only [List.cons.injEq, and_true] at e0
    subst e0
    obtain ⟨s1, e1, w1⟩ := trod42 g1
    simp only [List.cons.injEq, and_true] at e1
    obtain ⟨rfl, rfl, rfl, rfl, rfl, rfl, rfl, rfl⟩ := e1
    exact ⟨⟨s0, s1⟩, rfl, w0, w1⟩
theorem arg90 {W : World} {r : Reach} {b0 : Nat} {v : Value} {d : DataW H} {p : List MemPlace} (hv : Value.okWide Try.prog W r b0 90 v) (h : DataW.Trod enc Try.prog w base spare held 90 v d p) : ∃ s : S90, v = .agg #[.int .i64 s.f0, .string s.f1.f0, .int .i64 s.f1.f1, .bool s.f1.f2, .bool s.f1.f3, .bool s.f1.f4, .bool s.f1.f5, .int .i64 s.f1.f6, .int .i64 s.f1.f7] ∧ Wf90 s := by
  obtain ⟨cs, rfl, _⟩ := okWide_struct Try.underlying90 hv
  obtain ⟨fuel, hf⟩ := h
  obtain ⟨s, e, hw⟩ := trod90 hf
  refine ⟨s, ?_, hw⟩
  have e2 : cs.toList = _ := e
  rw [← e2]
theorem arg22 {W : World} {r : Reach} {b0 : Nat} {v : Value} {d : DataW H} {p : List MemPlace} (hv : Value.okWide Try.prog W r b0 22 v) (h : DataW.Trod enc Try.prog w base (fun _ => true) held 22 v d p) : ∃ (A : Option Addr) (cap : Nat) (l : List S29), v = .slice A l.length cap ∧ Kd.C k29 w A l.length l ∧ l.length ≤ cap ∧ ∀ y ∈ l, Wf29 y := by
  obtain ⟨a0, len0, cap0, rfl⟩ := okWide_slice Try.underlying22 hv
  obtain ⟨fuel, hf⟩ := h
  rcases open_slice Try.underlying22 hf with ⟨hcs, _⟩ | ⟨a, len, cap, m, n, D, Pl, hcs, _, hl, hm, hmm, _, hi⟩
  · simp [Value.cells] at hcs
    obtain ⟨rfl, rfl, rfl⟩ := hcs
    exact ⟨none, 0, [], rfl, ⟨rfl, by simp, fun h => absurd h (by simp)⟩, Nat.le_refl _, fun y hy => by cases hy⟩
  · simp [Value.cells] at hcs
    obtain ⟨rfl, rfl, rfl⟩ := hcs
    simp only [if_true] at hmm
    subst hmm
    obtain ⟨l, hll, hp⟩ := list_of (p := fun i (s : S29) => (∀ j u, ([.int .u8 s.f0, .int .i64 s.f1, .int .i64 s.f2.f0, .string s.f2.f1, .int .i64 s.f2.f2] : List Value)[j]? = some u → w.cell? (a.add (i * 5 + j)) = some u) ∧ Wf29 s) len0 (fun i him => by
      obtain ⟨cs', hc, ht⟩ := hi i (by omega)
      rw [show Try.prog.cellsOf 29 = 5 from by kernel_rfl] at hc
      obtain ⟨_, hcl, hat⟩ := World.cells?_some hc
      obtain ⟨s, rfl, hw⟩ := trod29 ht
      refine ⟨s, fun j u hj => ?_, hw⟩
      have hjn : j < 5 := by rcases Nat.lt_or_ge j 5 with h | h; exact h; rw [List.getElem?_eq_none (by simpa using h)] at hj; cases hj
      rw [← Go.Deep.add_add, hat j hjn]; exact hj)
    subst hll
    refine ⟨some a, _, l, rfl, ⟨rfl, by simp only [maxLen] at hm; omega, fun _ => ⟨a, rfl, fun j q hq => ⟨_, rfl, k29_mk w q, fun i u hu => (hp j q hq).1 i u hu⟩⟩⟩, hl, fun y hy => ?_⟩
    obtain ⟨i, hi, rfl⟩ := List.getElem_of_mem hy
    exact (hp i _ (List.getElem?_eq_getElem hi)).2
theorem arg47 {W : World} {r : Reach} {b0 : Nat} {v : Value} {d : DataW H} {p : List MemPlace} (hv : Value.okWide Try.prog W r b0 47 v) (h : DataW.Trod enc Try.prog w base (fun _ => true) held 47 v d p) : ∃ (A : Option Addr) (cap : Nat) (l : List S51), v = .slice A l.length cap ∧ Kd.C k51 w A l.length l ∧ l.length ≤ cap ∧ ∀ y ∈ l, Wf51 y := by
  obtain ⟨a0, len0, cap0, rfl⟩ := okWide_slice Try.underlying47 hv
  obtain ⟨fuel, hf⟩ := h
  rcases open_slice Try.underlying47 hf with ⟨hcs, _⟩ | ⟨a, len, cap, m, n, D, Pl, hcs, _, hl, hm, hmm, _, hi⟩
  · simp [Value.cells] at hcs
    obtain ⟨rfl, rfl, rfl⟩ := hcs
    exact ⟨none, 0, [], rfl, ⟨rfl, by simp, fun h => absurd h (by simp)⟩, Nat.le_refl _, fun y hy => by cases hy⟩
  · simp [Value.cells] at hcs
    obtain ⟨rfl, rfl, rfl⟩ := hcs
    simp only [if_true] at hmm
    subst hmm
    obtain ⟨l, hll, hp⟩ := list_of (p := fun i (s : S51) => (∀ j u, ([.int .i64 s.f0, .string s.f1, .bool s.f2] : List Value)[j]? = some u → w.cell? (a.add (i * 3 + j)) = some u) ∧ Wf51 s) len0 (fun i him => by
      obtain ⟨cs', hc, ht⟩ := hi i (by omega)
      rw [show Try.prog.cellsOf 51 = 3 from by kernel_rfl] at hc
      obtain ⟨_, hcl, hat⟩ := World.cells?_some hc
      obtain ⟨s, rfl, hw⟩ := trod51 ht
      refine ⟨s, fun j u hj => ?_, hw⟩
      have hjn : j < 3 := by rcases Nat.lt_or_ge j 3 with h | h; exact h; rw [List.getElem?_eq_none (by simpa using h)] at hj; cases hj
      rw [← Go.Deep.add_add, hat j hjn]; exact hj)
    subst hll
    refine ⟨some a, _, l, rfl, ⟨rfl, by simp only [maxLen] at hm; omega, fun _ => ⟨a, rfl, fun j q hq => ⟨_, rfl, k51_mk w q, fun i u hu => (hp j q hq).1 i u hu⟩⟩⟩, hl, fun y hy => ?_⟩
    obtain ⟨i, hi, rfl⟩ := List.getElem_of_mem hy
    exact (hp i _ (List.getElem?_eq_getElem hi)).2
theorem arg64 {W : World} {r : Reach} {b0 : Nat} {v : Value} {d : DataW H} {p : List MemPlace} (hv : Value.okWide Try.prog W r b0 64 v) (h : DataW.Trod enc Try.prog w base (fun _ => true) held 64 v d p) : ∃ (A : Option Addr) (cap : Nat) (l : List S24), v = .slice A l.length cap ∧ Kd.C k24 w A l.length l ∧ l.length ≤ cap ∧ ∀ y ∈ l, Wf24 y := by
  obtain ⟨a0, len0, cap0, rfl⟩ := okWide_slice Try.underlying64 hv
  obtain ⟨fuel, hf⟩ := h
  rcases open_slice Try.underlying64 hf with ⟨hcs, _⟩ | ⟨a, len, cap, m, n, D, Pl, hcs, _, hl, hm, hmm, _, hi⟩
  · simp [Value.cells] at hcs
    obtain ⟨rfl, rfl, rfl⟩ := hcs
    exact ⟨none, 0, [], rfl, ⟨rfl, by simp, fun h => absurd h (by simp)⟩, Nat.le_refl _, fun y hy => by cases hy⟩
  · simp [Value.cells] at hcs
    obtain ⟨rfl, rfl, rfl⟩ := hcs
    simp only [if_true] at hmm
    subst hmm
    obtain ⟨l, hll, hp⟩ := list_of (p := fun i (s : S24) => (∀ j u, ([.int .i64 s.f0, .string s.f1, .int .i64 s.f2] : List Value)[j]? = some u → w.cell? (a.add (i * 3 + j)) = some u) ∧ Wf24 s) len0 (fun i him => by
      obtain ⟨cs', hc, ht⟩ := hi i (by omega)
      rw [show Try.prog.cellsOf 24 = 3 from by kernel_rfl] at hc
      obtain ⟨_, hcl, hat⟩ := World.cells?_some hc
      obtain ⟨s, rfl, hw⟩ := trod24 ht
      refine ⟨s, fun j u hj => ?_, hw⟩
      have hjn : j < 3 := by rcases Nat.lt_or_ge j 3 with h | h; exact h; rw [List.getElem?_eq_none (by simpa using h)] at hj; cases hj
      rw [← Go.Deep.add_add, hat j hjn]; exact hj)
    subst hll
    refine ⟨some a, _, l, rfl, ⟨rfl, by simp only [maxLen] at hm; omega, fun _ => ⟨a, rfl, fun j q hq => ⟨_, rfl, k24_mk w q, fun i u hu => (hp j q hq).1 i u hu⟩⟩⟩, hl, fun y hy => ?_⟩
    obtain ⟨i, hi, rfl⟩ := List.getElem_of_mem hy
    exact (hp i _ (List.getElem?_eq_getElem hi)).2
theorem arg87 {W : World} {r : Reach} {b0 : Nat} {v : Value} {d : DataW H} {p : List MemPlace} (hv : Value.okWide Try.prog W r b0 87 v) (h : DataW.Trod enc Try.prog w base (fun _ => true) held 87 v d p) : ∃ (A : Option Addr) (cap : Nat) (l : List S90), v = .slice A l.length cap ∧ Kd.C k90 w A l.length l ∧ l.length ≤ cap ∧ ∀ y ∈ l, Wf90 y := by
  obtain ⟨a0, len0, cap0, rfl⟩ := okWide_slice Try.underlying87 hv
  obtain ⟨fuel, hf⟩ := h
  rcases open_slice Try.underlying87 hf with ⟨hcs, _⟩ | ⟨a, len, cap, m, n, D, Pl, hcs, _, hl, hm, hmm, _, hi⟩
  · simp [Value.cells] at hcs
    obtain ⟨rfl, rfl, rfl⟩ := hcs
    exact ⟨none, 0, [], rfl, ⟨rfl, by simp, fun h => absurd h (by simp)⟩, Nat.le_refl _, fun y hy => by cases hy⟩
  · simp [Value.cells] at hcs
    obtain ⟨rfl, rfl, rfl⟩ := hcs
    simp only [if_true] at hmm
    subst hmm
    obtain ⟨l, hll, hp⟩ := list_of (p := fun i (s : S90) => (∀ j u, ([.int .i64 s.f0, .string s.f1.f0, .int .i64 s.f1.f1, .bool s.f1.f2, .bool s.f1.f3, .bool s.f1.f4, .bool s.f1.f5, .int .i64 s.f1.f6, .int .i64 s.f1.f7] : List Value)[j]? = some u → w.cell? (a.add (i * 9 + j)) = some u) ∧ Wf90 s) len0 (fun i him => by
      obtain ⟨cs', hc, ht⟩ := hi i (by omega)
      rw [show Try.prog.cellsOf 90 = 9 from by kernel_rfl] at hc
      obtain ⟨_, hcl, hat⟩ := World.cells?_some hc
      obtain ⟨s, rfl, hw⟩ := trod90 ht
      refine ⟨s, fun j u hj => ?_, hw⟩
      have hjn : j < 9 := by rcases Nat.lt_or_ge j 9 with h | h; exact h; rw [List.getElem?_eq_none (by simpa using h)] at hj; cases hj
      rw [← Go.Deep.add_add, hat j hjn]; exact hj)
    subst hll
    refine ⟨some a, _, l, rfl, ⟨rfl, by simp only [maxLen] at hm; omega, fun _ => ⟨a, rfl, fun j q hq => ⟨_, rfl, k90_mk w q, fun i u hu => (hp j q hq).1 i u hu⟩⟩⟩, hl, fun y hy => ?_⟩
    obtain ⟨i, hi, rfl⟩ := List.getElem_of_mem hy
    exact (hp i _ (List.getElem?_eq_getElem hi)).2
end
end Go.Proofs.Ytfahpihbbkkngaa.P

-- from the text Rh
namespace Go.Proofs.Ytfahpihbbkkngaa.P
open Go.RowKit Go.Proofs.YtfahpihbbkkngaaW.PrintWords Go.Proofs.YtfahpihbbkkngaaW.PrintLast Go.Proofs.YtfahpihbbkkngaaW.PrintMore
set_option linter.unusedVariables false
set_option linter.unusedSimpArgs false
/-- The reference's Meet, whatever it tells. -/
theorem PE.meet {E : Nat → Prop} {B : Nat} {w : World} {s : Nat} {v : Value} {D : List (Fr × S94)} {m : Nat} (h : PE E B w s v (D.map Prod.fst) (D.map Prod.snd)) (hr : Rel m D) (hm : m ≤ 800) (c : Int) (n : ByteArray) :
    Calls Try.prog 49 #[.agg #[v], .int .i64 c, .string n] w fun e w' => (∃ x0 x1 x2 at_ er, e = .returned (.tuple #[.agg #[.int .i64 x0, .string x1, .int .i64 x2], .int .i64 at_, .int .i64 er])) ∧ Below w.heap.size w w' := by
  obtain ⟨F, G, h1, h2, _⟩ := h
  cases hq : rightB c n with
  | false => exact (rmeet_bad c n _ hq v G w h2).mono fun e w' ⟨he, hb⟩ => ⟨⟨_, _, _, _, _, he⟩, hb⟩
  | true =>
    refine (rmeet_is m (Nat.le_trans hm (by decide)) c n D hr hq v G w h2).mono fun e w' ⟨he, hb⟩ => ⟨?_, hb⟩
    generalize findL c n (D.map Prod.fst) (fromL c n (((D.map Prod.fst).length : Int) - 1) (D.map Prod.fst) + 1).toNat = o at he
    cases o with
    | none => exact ⟨_, _, _, _, _, he⟩
    | some p => exact ⟨_, _, _, _, _, he⟩
def Boxes (E : Nat → Prop) (n k : Nat) : Prop := (n ≤ k ∧ k < n + 4) ∨ E k
set_option maxRecDepth 100000 in
set_option maxHeartbeats 8000000 in
theorem done_0 (B : Nat) (d N : Int) (u : S24) (s : Nat) (A : Option Addr) (cp : Nat) (D : List (Fr × S94)) (m : Nat) (w : World) (hB : B ≤ w.heap.size) (E : Nat → Prop) (hE : ∀ k, E k → k < w.heap.size) (h : PE E B w s (.slice A D.length cp) (D.map Prod.fst) (D.map Prod.snd)) (hr : Rel m D) (hm : m ≤ 800) (e_ : d.tmod 8 = 0) :
    Calls Try.prog 30 #[.pointer (some ⟨s, 0, none⟩), .agg #[.slice A D.length cp], .agg #[.int .u8 d, .int .i64 N, .int .i64 u.f0, .string u.f1, .int .i64 u.f2]] w fun e w' => ∃ s' v' D', e = .returned (.tuple #[.pointer (some ⟨s', 0, none⟩), .agg #[v'], .bool true]) ∧ PE E B w' s' v' (D'.map Prod.fst) (D'.map Prod.snd) ∧ Rel (m + 1) D' ∧ Below B w w' ∧ ∀ k, E k → w'.heap[k]? = w.heap[k]? := by
  obtain ⟨HP0⟩ := Aside0.mk (h.fresh (E' := Boxes E w.heap.size) (fun k hk => hk.elim (fun e => .inr e.1) .inl))
  have HB4 := Aside0.mk (((((Below.refl w.heap.size w).alloc (Nat.le_refl _) (.cells #[.slice A D.length cp] 55 (0, 0))).alloc (by simp) (.cells #[.int .u8 d, .int .i64 N, .int .i64 u.f0, .string u.f1, .int .i64 u.f2] 29 (0, 0))).alloc (by simp only [World.size_alloc]; omega) (.cells #[.slice none 0 0] 55 (0, 0))).alloc (by simp only [World.size_alloc]; omega) (.cells #[.int .i64 u.f0, .string u.f1, .int .i64 u.f2] 24 (0, 0)))
  have HP := Aside0.mk (HP0.below HB4.out)
  have HE := Aside0.mk (fun k (hk : Boxes E w.heap.size k) => (show k < ((((w.alloc (.cells #[.slice A D.length cp] 55 (0, 0))).alloc (.cells #[.int .u8 d, .int .i64 N, .int .i64 u.f0, .string u.f1, .int .i64 u.f2] 29 (0, 0))).alloc (.cells #[.slice none 0 0] 55 (0, 0))).alloc (.cells #[.int .i64 u.f0, .string u.f1, .int .i64 u.f2] 24 (0, 0))).heap.size by
    rcases hk with hk | hk
    · have := hk.2
      simp only [World.size_alloc]
      omega
    · have := hE k hk
      simp only [World.size_alloc]
      omega))
  have HBB := Aside0.mk (show B ≤ ((((w.alloc (.cells #[.slice A D.length cp] 55 (0, 0))).alloc (.cells #[.int .u8 d, .int .i64 N, .int .i64 u.f0, .string u.f1, .int .i64 u.f2] 29 (0, 0))).alloc (.cells #[.slice none 0 0] 55 (0, 0))).alloc (.cells #[.int .i64 u.f0, .string u.f1, .int .i64 u.f2] 24 (0, 0))).heap.size by simp only [World.size_alloc]; omega)
  have HBw := Aside0.mk (HB4.out.mono hB)
  have HB := Aside0.mk hB
  have B0 := blk_alloc (blk_alloc (blk_alloc (blk_new w (.cells #[.slice A D.length cp] 55 (0, 0))) (.cells #[.int .u8 d, .int .i64 N, .int .i64 u.f0, .string u.f1, .int .i64 u.f2] 29 (0, 0))) (.cells #[.slice none 0 0] 55 (0, 0))) (.cells #[.int .i64 u.f0, .string u.f1, .int .i64 u.f2] 24 (0, 0))
  have B1 := blk_alloc (blk_alloc (blk_new (w.alloc (.cells #[.slice A D.length cp] 55 (0, 0))) (.cells #[.int .u8 d, .int .i64 N, .int .i64 u.f0, .string u.f1, .int .i64 u.f2] 29 (0, 0))) (.cells #[.slice none 0 0] 55 (0, 0))) (.cells #[.int .i64 u.f0, .string u.f1, .int .i64 u.f2] 24 (0, 0))
  have B2 := blk_alloc (blk_new ((w.alloc (.cells #[.slice A D.length cp] 55 (0, 0))).alloc (.cells #[.int .u8 d, .int .i64 N, .int .i64 u.f0, .string u.f1, .int .i64 u.f2] 29 (0, 0))) (.cells #[.slice none 0 0] 55 (0, 0))) (.cells #[.int .i64 u.f0, .string u.f1, .int .i64 u.f2] 24 (0, 0))
  have B3 := blk_new (((w.alloc (.cells #[.slice A D.length cp] 55 (0, 0))).alloc (.cells #[.int .u8 d, .int .i64 N, .int .i64 u.f0, .string u.f1, .int .i64 u.f2] 29 (0, 0))).alloc (.cells #[.slice none 0 0] 55 (0, 0))) (.cells #[.int .i64 u.f0, .string u.f1, .int .i64 u.f2] 24 (0, 0))
  simp only [World.size_alloc] at B1 B2 B3
  replace B0 := Aside0.mk B0
  replace B1 := Aside0.mk B1
  replace B2 := Aside0.mk B2
  replace B3 := Aside0.mk B3
  have HSL := Aside0.mk (show ∀ j, j < 4 → Boxes E w.heap.size (w.heap.size + j) from fun j hj => .inl ⟨by omega, by omega⟩)
  have HEE := Aside0.mk hE
  have HK0 := Aside0.mk (fun k (hk : E k) => HB4.out.block k (hE k hk))
  have HR := Aside0.mk hr
  have HM := Aside0.mk hm
  clear h HP0 hB hr hm hE
  have e : d.tmod 8 = 0 := e_
  clear e_
  go_enter Try.func30, Try.ntmps30
  go_wp2_with fail
  obtain ⟨D', er, ho, hrf, hrel⟩ := push_pair HR.out
  refine (HP.out.code ho HBB.out HE.out).mono ?_
  rintro x w5 ⟨rfl, hp, hb, hsz, hk⟩
  have B0a := Aside0.mk (show w5.heap[w.heap.size]? = some (.cells #[.slice A D.length cp] 55 (0, 0)) from (hk _ (HSL.out 0 (by omega))).trans B0.out)
  have B1a := Aside0.mk (show w5.heap[w.heap.size + 1]? = some (.cells #[.int .u8 d, .int .i64 N, .int .i64 u.f0, .string u.f1, .int .i64 u.f2] 29 (0, 0)) from (hk _ (HSL.out 1 (by omega))).trans B1.out)
  have B2a := Aside0.mk (show w5.heap[w.heap.size + 1 + 1]? = some (.cells #[.slice none 0 0] 55 (0, 0)) from (hk _ (HSL.out 2 (by omega))).trans B2.out)
  have B3a := Aside0.mk (show w5.heap[w.heap.size + 1 + 1 + 1]? = some (.cells #[.int .i64 u.f0, .string u.f1, .int .i64 u.f2] 24 (0, 0)) from (hk _ (HSL.out 3 (by omega))).trans B3.out)
  have HP1 := Aside0.mk hp
  have HK1 := Aside0.mk (fun q (hq : E q) => (hk q (.inr hq)).trans (HK0.out q hq))
  have HB1 := Aside0.mk (HBw.out.trans hb)
  have HE1 := Aside0.mk (fun k hk => Nat.lt_of_lt_of_le (HE.out k hk) hsz)
  have HRF := Aside0.mk hrf
  have HREL := Aside0.mk hrel
  clear hp hb hsz hk ho hrf hrel B0 B1 B2 B3 HP HBB
  have b0c0a := (blk_cell B0a.out 0).trans rfl
  go_wp2_with fail
  refine (HP1.out.ref HRF.out HE1.out).mono ?_
  rintro x w6 ⟨A', c', rfl, hp, hb⟩
  have B0b := Aside0.mk (blk_below B0a.out hb)
  have B2b := Aside0.mk (blk_below B2a.out hb)
  have HP2 := Aside0.mk (hp.set (p := ⟨w.heap.size, 0, none⟩) (HSL.out 0 (by omega)) (.slice A' (D'.map Prod.snd).length c'))
  have HB2 := Aside0.mk ((HB1.out.trans (hb.mono (Nat.le_trans HB.out HB1.out.size))).setCell (p := ⟨w.heap.size, 0, none⟩) HB.out (.slice A' (D'.map Prod.snd).length c'))
  have HKF := Aside0.mk (fun q (hq : E q) => (Below.heap_setCell w6 ⟨w.heap.size, 0, none⟩ (.slice A' (D'.map Prod.snd).length c') q (by have := HEE.out q hq; dsimp only; omega)).trans ((hb.block q (Nat.lt_of_lt_of_le (HEE.out q hq) HB1.out.size)).trans (HK1.out q hq)))
  have b0 := (blk_cell B0b.out 0).trans rfl
  have f0 := blk_frozen B0b.out 0
  clear hp hb
  clear b0c0a
  go_wp2_with fail
  have B0c := Aside0.mk (blk_put B0b.out 0 (.slice A' (D'.map Prod.snd).length c') rfl)
  have B2c := Aside0.mk (blk_far (p := ⟨w.heap.size, 0, none⟩) B2b.out (by dsimp only; omega) (.slice A' (D'.map Prod.snd).length c'))
  have HPF := HP2
  have HBF := HB2
  clear b0 f0 B0a B1a B2a B3a B0b B2b HP1 HB1 HE1 HRF HP2 HB2 HE HB4 HBw HK0 HK1
  simp only [List.length_map] at B0c B2c HPF HBF HKF
  generalize (w6.setCell ⟨w.heap.size, 0, none⟩ (.slice A' D'.length c')) = w9 at *
  refine start_ (n := 8) (S := fun W => W.heap[w.heap.size]? = some (.cells #[.slice A' D'.length c'] 55 (0, 0)) ∧ W.heap[w.heap.size + 1 + 1]? = some (.cells #[.slice none 0 0] 55 (0, 0)) ∧ Below w9.heap.size w9 W) (ds := [6]) #[false, false, false, false, false, false, false, false] (by kernel_rfl) rfl rfl ⟨blk_drew B0c.out, blk_drew B2c.out, below_drew (Below.refl _ _)⟩ (fun hHeld => ?_)
  generalize w9.drew = w10 at hHeld ⊢
  refine pure_ (i := 0) (N := some 113) (v := ?_) (a' := ?_) #[true, false, false, false, false, false, false, false] rfl rfl (by kernel_rfl) (fun _ _ _ h => h) (Or.inl ⟨by rfl, ?_⟩) ?_ ?_
  rotate_left
  · intro w_
    go_simp
    with_reducible rfl
  rotate_left
  · simp only [Act.put, List.setIfInBounds_toArray, List.set_cons_zero, List.set_cons_succ, i64_w, i32_w]
    rfl
  refine take_ (i := 1) (N := some 114) (v := ?_) (a' := ?_) #[true, true, false, false, false, false, false, false] rfl rfl (by kernel_rfl) (fun _ _ _ h => h) (Or.inl ⟨by rfl, ?_⟩) hHeld ?_ ?_
  rotate_left
  · rintro w_ ⟨hs_, _⟩
    have s0 := (blk_cell hs_ 0).trans rfl
    go_simp
    with_reducible rfl
  rotate_left
  · simp only [Act.put, List.setIfInBounds_toArray, List.set_cons_zero, List.set_cons_succ, i64_w, i32_w]
    rfl
  refine pure_ (i := 2) (N := some 115) (v := ?_) (a' := ?_) #[true, true, true, false, false, false, false, false] rfl rfl (by kernel_rfl) (fun _ _ _ h => h) (Or.inl ⟨by rfl, ?_⟩) ?_ ?_
  rotate_left
  · intro w_
    go_simp
    with_reducible rfl
  rotate_left
  · simp only [Act.put, List.setIfInBounds_toArray, List.set_cons_zero, List.set_cons_succ, i64_w, i32_w]
    rfl
  refine pure_ (i := 3) (N := some 116) (v := ?_) (a' := ?_) #[true, true, true, true, false, false, false, false] rfl rfl (by kernel_rfl) (fun _ _ _ h => h) (Or.inl ⟨by rfl, ?_⟩) ?_ ?_
  rotate_left
  · intro w_
    go_simp
    with_reducible rfl
  rotate_left
  · simp only [Act.put, List.setIfInBounds_toArray, List.set_cons_zero, List.set_cons_succ, i64_w, i32_w]
    rfl
  refine pure_ (i := 4) (N := some 117) (v := ?_) (a' := ?_) #[true, true, true, true, true, false, false, false] rfl rfl (by kernel_rfl) (fun _ _ _ h => h) (Or.inl ⟨by rfl, ?_⟩) ?_ ?_
  rotate_left
  · intro w_
    go_simp
    with_reducible rfl
  rotate_left
  · simp only [Act.put, List.setIfInBounds_toArray, List.set_cons_zero, List.set_cons_succ, i64_w, i32_w]
    rfl
  refine pure_ (i := 5) (N := some 6) (v := ?_) (a' := ?_) #[true, true, true, true, true, true, false, false] rfl rfl (by kernel_rfl) (fun _ _ _ h => h) (Or.inl ⟨by rfl, ?_⟩) ?_ ?_
  rotate_left
  · intro w_
    go_simp
    with_reducible rfl
  rotate_left
  · simp only [Act.put, List.setIfInBounds_toArray, List.set_cons_zero, List.set_cons_succ, i64_w, i32_w]
    rfl
  have hc3 := (blk_cell hHeld.2.1 0).trans rfl
  have hf3 := blk_frozen hHeld.2.1 0
  refine last_ (i := 6) (N := none) #[true, true, true, true, true, true, true, false] rfl rfl (by kernel_rfl) (by decide) (fun K' hK => ?_)
  refine skip_ (w1 := ?_) (by rfl) rfl ?_ ?_
  rotate_left
  · go_simp
    rfl
  refine hK.out _ _ ?_
  clear hK K'
  refine pure_ (i := 7) (N := some 8) (v := ?_) (a' := ?_) #[true, true, true, true, true, true, true, true] rfl rfl (by kernel_rfl) (fun _ _ _ h => h) (Or.inl ⟨by rfl, ?_⟩) ?_ ?_
  rotate_left
  · intro w_
    go_simp
    with_reducible rfl
  rotate_left
  · simp only [Act.put, List.setIfInBounds_toArray, List.set_cons_zero, List.set_cons_succ, i64_w, i32_w]
    rfl
  refine done_ (by kernel_rfl) ?_
  have hPF := Aside0.mk ((HPF.out.below hHeld.2.2).set (p := ⟨w.heap.size + 1 + 1, 0, none⟩) (HSL.out 2 (by omega)) (.slice A' D'.length c'))
  have hBF := Aside0.mk ((HBF.out.trans (hHeld.2.2.mono (Nat.le_trans HB.out HBF.out.size))).setCell (p := ⟨w.heap.size + 1 + 1, 0, none⟩) (show B ≤ w.heap.size + 1 + 1 by have := HB.out; omega) (.slice A' D'.length c'))
  have hKF := Aside0.mk (fun q (hq : E q) => (Below.heap_setCell w10 ⟨w.heap.size + 1 + 1, 0, none⟩ (.slice A' D'.length c') q (by have := HEE.out q hq; dsimp only; omega)).trans ((hHeld.2.2.block q (Nat.lt_of_lt_of_le (HEE.out q hq) HBF.out.size)).trans (HKF.out q hq)))
  have hRF := Aside0.mk (blk_put hHeld.2.1 0 (.slice A' D'.length c') rfl)
  clear hHeld hc3 hf3
  go_wp2_with fail
  refine bodyPost_ret (v := .tuple #[.pointer (some ⟨s, 0, none⟩), .agg #[.slice A' D'.length c'], .bool true]) ?_ rfl ?_
  · have z0 := (blk_cell hRF.out 0).trans rfl
    simp [results, Try.f30, Try.results30, go_sem, z0]
  exact ⟨s, _, D', rfl, hPF.out.mono (fun _ e => .inr e), HREL.out.more (Nat.le_succ m), hBF.out, hKF.out⟩
set_option maxRecDepth 100000 in
set_option maxHeartbeats 8000000 in
theorem done_1 (B : Nat) (d N : Int) (u : S24) (s : Nat) (A : Option Addr) (cp : Nat) (D : List (Fr × S94)) (m : Nat) (w : World) (hB : B ≤ w.heap.size) (E : Nat → Prop) (hE : ∀ k, E k → k < w.heap.size) (h : PE E B w s (.slice A D.length cp) (D.map Prod.fst) (D.map Prod.snd)) (hr : Rel m D) (hm : m ≤ 800) (e_ : d.tmod 8 = 1) :
    Calls Try.prog 30 #[.pointer (some ⟨s, 0, none⟩), .agg #[.slice A D.length cp], .agg #[.int .u8 d, .int .i64 N, .int .i64 u.f0, .string u.f1, .int .i64 u.f2]] w fun e w' => ∃ s' v' D', e = .returned (.tuple #[.pointer (some ⟨s', 0, none⟩), .agg #[v'], .bool true]) ∧ PE E B w' s' v' (D'.map Prod.fst) (D'.map Prod.snd) ∧ Rel (m + 1) D' ∧ Below B w w' ∧ ∀ k, E k → w'.heap[k]? = w.heap[k]? := by
  obtain ⟨HP0⟩ := Aside0.mk (h.fresh (E' := Boxes E w.heap.size) (fun k hk => hk.elim (fun e => .inr e.1) .inl))
  have HB4 := Aside0.mk (((((Below.refl w.heap.size w).alloc (Nat.le_refl _) (.cells #[.slice A D.length cp] 55 (0, 0))).alloc (by simp) (.cells #[.int .u8 d, .int .i64 N, .int .i64 u.f0, .string u.f1, .int .i64 u.f2] 29 (0, 0))).alloc (by simp only [World.size_alloc]; omega) (.cells #[.slice none 0 0] 55 (0, 0))).alloc (by simp only [World.size_alloc]; omega) (.cells #[.int .i64 u.f0, .string u.f1, .int .i64 u.f2] 24 (0, 0)))
  have HP := Aside0.mk (HP0.below HB4.out)
  have HE := Aside0.mk (fun k (hk : Boxes E w.heap.size k) => (show k < ((((w.alloc (.cells #[.slice A D.length cp] 55 (0, 0))).alloc (.cells #[.int .u8 d, .int .i64 N, .int .i64 u.f0, .string u.f1, .int .i64 u.f2] 29 (0, 0))).alloc (.cells #[.slice none 0 0] 55 (0, 0))).alloc (.cells #[.int .i64 u.f0, .string u.f1, .int .i64 u.f2] 24 (0, 0))).heap.size by
    rcases hk with hk | hk
    · have := hk.2
      simp only [World.size_alloc]
      omega
    · have := hE k hk
      simp only [World.size_alloc]
      omega))
  have HBB := Aside0.mk (show B ≤ ((((w.alloc (.cells #[.slice A D.length cp] 55 (0, 0))).alloc (.cells #[.int .u8 d, .int .i64 N, .int .i64 u.f0, .string u.f1, .int .i64 u.f2] 29 (0, 0))).alloc (.cells #[.slice none 0 0] 55 (0, 0))).alloc (.cells #[.int .i64 u.f0, .string u.f1, .int .i64 u.f2] 24 (0, 0))).heap.size by simp only [World.size_alloc]; omega)
  have HBw := Aside0.mk (HB4.out.mono hB)
  have HB := Aside0.mk hB
  have B0 := blk_alloc (blk_alloc (blk_alloc (blk_new w (.cells #[.slice A D.length cp] 55 (0, 0))) (.cells #[.int .u8 d, .int .i64 N, .int .i64 u.f0, .string u.f1, .int .i64 u.f2] 29 (0, 0))) (.cells #[.slice none 0 0] 55 (0, 0))) (.cells #[.int .i64 u.f0, .string u.f1, .int .i64 u.f2] 24 (0, 0))
  have B1 := blk_alloc (blk_alloc (blk_new (w.alloc (.cells #[.slice A D.length cp] 55 (0, 0))) (.cells #[.int .u8 d, .int .i64 N, .int .i64 u.f0, .string u.f1, .int .i64 u.f2] 29 (0, 0))) (.cells #[.slice none 0 0] 55 (0, 0))) (.cells #[.int .i64 u.f0, .string u.f1, .int .i64 u.f2] 24 (0, 0))
  have B2 := blk_alloc (blk_new ((w.alloc (.cells #[.slice A D.length cp] 55 (0, 0))).alloc (.cells #[.int .u8 d, .int .i64 N, .int .i64 u.f0, .string u.f1, .int .i64 u.f2] 29 (0, 0))) (.cells #[.slice none 0 0] 55 (0, 0))) (.cells #[.int .i64 u.f0, .string u.f1, .int .i64 u.f2] 24 (0, 0))
  have B3 := blk_new (((w.alloc (.cells #[.slice A D.length cp] 55 (0, 0))).alloc (.cells #[.int .u8 d, .int .i64 N, .int .i64 u.f0, .string u.f1, .int .i64 u.f2] 29 (0, 0))).alloc (.cells #[.slice none 0 0] 55 (0, 0))) (.cells #[.int .i64 u.f0, .string u.f1, .int .i64 u.f2] 24 (0, 0))
  simp only [World.size_alloc] at B1 B2 B3
  replace B0 := Aside0.mk B0
  replace B1 := Aside0.mk B1
  replace B2 := Aside0.mk B2
  replace B3 := Aside0.mk B3
  have HSL := Aside0.mk (show ∀ j, j < 4 → Boxes E w.heap.size (w.heap.size + j) from fun j hj => .inl ⟨by omega, by omega⟩)
  have HEE := Aside0.mk hE
  have HK0 := Aside0.mk (fun k (hk : E k) => HB4.out.block k (hE k hk))
  have HR := Aside0.mk hr
  have HM := Aside0.mk hm
  clear h HP0 hB hr hm hE
  have e : d.tmod 8 = 1 := e_
  clear e_
  go_enter Try.func30, Try.ntmps30
  go_wp2_with fail
  obtain ⟨D', er, ho, hrf, hrel⟩ := pop_pair HR.out N
  refine (HP.out.code ho HBB.out HE.out).mono ?_
  rintro x w5 ⟨rfl, hp, hb, hsz, hk⟩
  have B0a := Aside0.mk (show w5.heap[w.heap.size]? = some (.cells #[.slice A D.length cp] 55 (0, 0)) from (hk _ (HSL.out 0 (by omega))).trans B0.out)
  have B1a := Aside0.mk (show w5.heap[w.heap.size + 1]? = some (.cells #[.int .u8 d, .int .i64 N, .int .i64 u.f0, .string u.f1, .int .i64 u.f2] 29 (0, 0)) from (hk _ (HSL.out 1 (by omega))).trans B1.out)
  have B2a := Aside0.mk (show w5.heap[w.heap.size + 1 + 1]? = some (.cells #[.slice none 0 0] 55 (0, 0)) from (hk _ (HSL.out 2 (by omega))).trans B2.out)
  have B3a := Aside0.mk (show w5.heap[w.heap.size + 1 + 1 + 1]? = some (.cells #[.int .i64 u.f0, .string u.f1, .int .i64 u.f2] 24 (0, 0)) from (hk _ (HSL.out 3 (by omega))).trans B3.out)
  have HP1 := Aside0.mk hp
  have HK1 := Aside0.mk (fun q (hq : E q) => (hk q (.inr hq)).trans (HK0.out q hq))
  have HB1 := Aside0.mk (HBw.out.trans hb)
  have HE1 := Aside0.mk (fun k hk => Nat.lt_of_lt_of_le (HE.out k hk) hsz)
  have HRF := Aside0.mk hrf
  have HREL := Aside0.mk hrel
  clear hp hb hsz hk ho hrf hrel B0 B1 B2 B3 HP HBB
  have b0c0a := (blk_cell B0a.out 0).trans rfl
  have b1c1a := (blk_cell B1a.out 1).trans rfl
  go_wp2_with fail
  refine (HP1.out.ref HRF.out HE1.out).mono ?_
  rintro x w6 ⟨A', c', rfl, hp, hb⟩
  have B0b := Aside0.mk (blk_below B0a.out hb)
  have B2b := Aside0.mk (blk_below B2a.out hb)
  have HP2 := Aside0.mk (hp.set (p := ⟨w.heap.size, 0, none⟩) (HSL.out 0 (by omega)) (.slice A' (D'.map Prod.snd).length c'))
  have HB2 := Aside0.mk ((HB1.out.trans (hb.mono (Nat.le_trans HB.out HB1.out.size))).setCell (p := ⟨w.heap.size, 0, none⟩) HB.out (.slice A' (D'.map Prod.snd).length c'))
  have HKF := Aside0.mk (fun q (hq : E q) => (Below.heap_setCell w6 ⟨w.heap.size, 0, none⟩ (.slice A' (D'.map Prod.snd).length c') q (by have := HEE.out q hq; dsimp only; omega)).trans ((hb.block q (Nat.lt_of_lt_of_le (HEE.out q hq) HB1.out.size)).trans (HK1.out q hq)))
  have b0 := (blk_cell B0b.out 0).trans rfl
  have f0 := blk_frozen B0b.out 0
  clear hp hb
  clear b0c0a b1c1a
  go_wp2_with fail
  have B0c := Aside0.mk (blk_put B0b.out 0 (.slice A' (D'.map Prod.snd).length c') rfl)
  have B2c := Aside0.mk (blk_far (p := ⟨w.heap.size, 0, none⟩) B2b.out (by dsimp only; omega) (.slice A' (D'.map Prod.snd).length c'))
  have HPF := HP2
  have HBF := HB2
  clear b0 f0 B0a B1a B2a B3a B0b B2b HP1 HB1 HE1 HRF HP2 HB2 HE HB4 HBw HK0 HK1
  simp only [List.length_map] at B0c B2c HPF HBF HKF
  generalize (w6.setCell ⟨w.heap.size, 0, none⟩ (.slice A' D'.length c')) = w9 at *
  refine start_ (n := 8) (S := fun W => W.heap[w.heap.size]? = some (.cells #[.slice A' D'.length c'] 55 (0, 0)) ∧ W.heap[w.heap.size + 1 + 1]? = some (.cells #[.slice none 0 0] 55 (0, 0)) ∧ Below w9.heap.size w9 W) (ds := [6]) #[false, false, false, false, false, false, false, false] (by kernel_rfl) rfl rfl ⟨blk_drew B0c.out, blk_drew B2c.out, below_drew (Below.refl _ _)⟩ (fun hHeld => ?_)
  generalize w9.drew = w10 at hHeld ⊢
  refine pure_ (i := 0) (N := some 113) (v := ?_) (a' := ?_) #[true, false, false, false, false, false, false, false] rfl rfl (by kernel_rfl) (fun _ _ _ h => h) (Or.inl ⟨by rfl, ?_⟩) ?_ ?_
  rotate_left
  · intro w_
    go_simp
    with_reducible rfl
  rotate_left
  · simp only [Act.put, List.setIfInBounds_toArray, List.set_cons_zero, List.set_cons_succ, i64_w, i32_w]
    rfl
  refine take_ (i := 1) (N := some 114) (v := ?_) (a' := ?_) #[true, true, false, false, false, false, false, false] rfl rfl (by kernel_rfl) (fun _ _ _ h => h) (Or.inl ⟨by rfl, ?_⟩) hHeld ?_ ?_
  rotate_left
  · rintro w_ ⟨hs_, _⟩
    have s0 := (blk_cell hs_ 0).trans rfl
    go_simp
    with_reducible rfl
  rotate_left
  · simp only [Act.put, List.setIfInBounds_toArray, List.set_cons_zero, List.set_cons_succ, i64_w, i32_w]
    rfl
  refine pure_ (i := 2) (N := some 115) (v := ?_) (a' := ?_) #[true, true, true, false, false, false, false, false] rfl rfl (by kernel_rfl) (fun _ _ _ h => h) (Or.inl ⟨by rfl, ?_⟩) ?_ ?_
  rotate_left
  · intro w_
    go_simp
    with_reducible rfl
  rotate_left
  · simp only [Act.put, List.setIfInBounds_toArray, List.set_cons_zero, List.set_cons_succ, i64_w, i32_w]
    rfl
  refine pure_ (i := 3) (N := some 116) (v := ?_) (a' := ?_) #[true, true, true, true, false, false, false, false] rfl rfl (by kernel_rfl) (fun _ _ _ h => h) (Or.inl ⟨by rfl, ?_⟩) ?_ ?_
  rotate_left
  · intro w_
    go_simp
    with_reducible rfl
  rotate_left
  · simp only [Act.put, List.setIfInBounds_toArray, List.set_cons_zero, List.set_cons_succ, i64_w, i32_w]
    rfl
  refine pure_ (i := 4) (N := some 117) (v := ?_) (a' := ?_) #[true, true, true, true, true, false, false, false] rfl rfl (by kernel_rfl) (fun _ _ _ h => h) (Or.inl ⟨by rfl, ?_⟩) ?_ ?_
  rotate_left
  · intro w_
    go_simp
    with_reducible rfl
  rotate_left
  · simp only [Act.put, List.setIfInBounds_toArray, List.set_cons_zero, List.set_cons_succ, i64_w, i32_w]
    rfl
  refine pure_ (i := 5) (N := some 6) (v := ?_) (a' := ?_) #[true, true, true, true, true, true, false, false] rfl rfl (by kernel_rfl) (fun _ _ _ h => h) (Or.inl ⟨by rfl, ?_⟩) ?_ ?_
  rotate_left
  · intro w_
    go_simp
    with_reducible rfl
  rotate_left
  · simp only [Act.put, List.setIfInBounds_toArray, List.set_cons_zero, List.set_cons_succ, i64_w, i32_w]
    rfl
  have hc3 := (blk_cell hHeld.2.1 0).trans rfl
  have hf3 := blk_frozen hHeld.2.1 0
  refine last_ (i := 6) (N := none) #[true, true, true, true, true, true, true, false] rfl rfl (by kernel_rfl) (by decide) (fun K' hK => ?_)
  refine skip_ (w1 := ?_) (by rfl) rfl ?_ ?_
  rotate_left
  · go_simp
    rfl
  refine hK.out _ _ ?_
  clear hK K'
  refine pure_ (i := 7) (N := some 8) (v := ?_) (a' := ?_) #[true, true, true, true, true, true, true, true] rfl rfl (by kernel_rfl) (fun _ _ _ h => h) (Or.inl ⟨by rfl, ?_⟩) ?_ ?_
  rotate_left
  · intro w_
    go_simp
    with_reducible rfl
  rotate_left
  · simp only [Act.put, List.setIfInBounds_toArray, List.set_cons_zero, List.set_cons_succ, i64_w, i32_w]
    rfl
  refine done_ (by kernel_rfl) ?_
  have hPF := Aside0.mk ((HPF.out.below hHeld.2.2).set (p := ⟨w.heap.size + 1 + 1, 0, none⟩) (HSL.out 2 (by omega)) (.slice A' D'.length c'))
  have hBF := Aside0.mk ((HBF.out.trans (hHeld.2.2.mono (Nat.le_trans HB.out HBF.out.size))).setCell (p := ⟨w.heap.size + 1 + 1, 0, none⟩) (show B ≤ w.heap.size + 1 + 1 by have := HB.out; omega) (.slice A' D'.length c'))
  have hKF := Aside0.mk (fun q (hq : E q) => (Below.heap_setCell w10 ⟨w.heap.size + 1 + 1, 0, none⟩ (.slice A' D'.length c') q (by have := HEE.out q hq; dsimp only; omega)).trans ((hHeld.2.2.block q (Nat.lt_of_lt_of_le (HEE.out q hq) HBF.out.size)).trans (HKF.out q hq)))
  have hRF := Aside0.mk (blk_put hHeld.2.1 0 (.slice A' D'.length c') rfl)
  clear hHeld hc3 hf3
  go_wp2_with fail
  refine bodyPost_ret (v := .tuple #[.pointer (some ⟨s, 0, none⟩), .agg #[.slice A' D'.length c'], .bool true]) ?_ rfl ?_
  · have z0 := (blk_cell hRF.out 0).trans rfl
    simp [results, Try.f30, Try.results30, go_sem, z0]
  exact ⟨s, _, D', rfl, hPF.out.mono (fun _ e => .inr e), HREL.out.more (Nat.le_succ m), hBF.out, hKF.out⟩
set_option maxRecDepth 100000 in
set_option maxHeartbeats 8000000 in
theorem done_2 (B : Nat) (d N : Int) (u : S24) (s : Nat) (A : Option Addr) (cp : Nat) (D : List (Fr × S94)) (m : Nat) (w : World) (hB : B ≤ w.heap.size) (E : Nat → Prop) (hE : ∀ k, E k → k < w.heap.size) (h : PE E B w s (.slice A D.length cp) (D.map Prod.fst) (D.map Prod.snd)) (hr : Rel m D) (hm : m ≤ 800) (e_ : d.tmod 8 = 2) :
    Calls Try.prog 30 #[.pointer (some ⟨s, 0, none⟩), .agg #[.slice A D.length cp], .agg #[.int .u8 d, .int .i64 N, .int .i64 u.f0, .string u.f1, .int .i64 u.f2]] w fun e w' => ∃ s' v' D', e = .returned (.tuple #[.pointer (some ⟨s', 0, none⟩), .agg #[v'], .bool true]) ∧ PE E B w' s' v' (D'.map Prod.fst) (D'.map Prod.snd) ∧ Rel (m + 1) D' ∧ Below B w w' ∧ ∀ k, E k → w'.heap[k]? = w.heap[k]? := by
  obtain ⟨HP0⟩ := Aside0.mk (h.fresh (E' := Boxes E w.heap.size) (fun k hk => hk.elim (fun e => .inr e.1) .inl))
  have HB4 := Aside0.mk (((((Below.refl w.heap.size w).alloc (Nat.le_refl _) (.cells #[.slice A D.length cp] 55 (0, 0))).alloc (by simp) (.cells #[.int .u8 d, .int .i64 N, .int .i64 u.f0, .string u.f1, .int .i64 u.f2] 29 (0, 0))).alloc (by simp only [World.size_alloc]; omega) (.cells #[.slice none 0 0] 55 (0, 0))).alloc (by simp only [World.size_alloc]; omega) (.cells #[.int .i64 u.f0, .string u.f1, .int .i64 u.f2] 24 (0, 0)))
  have HP := Aside0.mk (HP0.below HB4.out)
  have HE := Aside0.mk (fun k (hk : Boxes E w.heap.size k) => (show k < ((((w.alloc (.cells #[.slice A D.length cp] 55 (0, 0))).alloc (.cells #[.int .u8 d, .int .i64 N, .int .i64 u.f0, .string u.f1, .int .i64 u.f2] 29 (0, 0))).alloc (.cells #[.slice none 0 0] 55 (0, 0))).alloc (.cells #[.int .i64 u.f0, .string u.f1, .int .i64 u.f2] 24 (0, 0))).heap.size by
    rcases hk with hk | hk
    · have := hk.2
      simp only [World.size_alloc]
      omega
    · have := hE k hk
      simp only [World.size_alloc]
      omega))
  have HBB := Aside0.mk (show B ≤ ((((w.alloc (.cells #[.slice A D.length cp] 55 (0, 0))).alloc (.cells #[.int .u8 d, .int .i64 N, .int .i64 u.f0, .string u.f1, .int .i64 u.f2] 29 (0, 0))).alloc (.cells #[.slice none 0 0] 55 (0, 0))).alloc (.cells #[.int .i64 u.f0, .string u.f1, .int .i64 u.f2] 24 (0, 0))).heap.size by simp only [World.size_alloc]; omega)
  have HBw := Aside0.mk (HB4.out.mono hB)
  have HB := Aside0.mk hB
  have B0 := blk_alloc (blk_alloc (blk_alloc (blk_new w (.cells #[.slice A D.length cp] 55 (0, 0))) (.cells #[.int .u8 d, .int .i64 N, .int .i64 u.f0, .string u.f1, .int .i64 u.f2] 29 (0, 0))) (.cells #[.slice none 0 0] 55 (0, 0))) (.cells #[.int .i64 u.f0, .string u.f1, .int .i64 u.f2] 24 (0, 0))
  have B1 := blk_alloc (blk_alloc (blk_new (w.alloc (.cells #[.slice A D.length cp] 55 (0, 0))) (.cells #[.int .u8 d, .int .i64 N, .int .i64 u.f0, .string u.f1, .int .i64 u.f2] 29 (0, 0))) (.cells #[.slice none 0 0] 55 (0, 0))) (.cells #[.int .i64 u.f0, .string u.f1, .int .i64 u.f2] 24 (0, 0))
  have B2 := blk_alloc (blk_new ((w.alloc (.cells #[.slice A D.length cp] 55 (0, 0))).alloc (.cells #[.int .u8 d, .int .i64 N, .int .i64 u.f0, .string u.f1, .int .i64 u.f2] 29 (0, 0))) (.cells #[.slice none 0 0] 55 (0, 0))) (.cells #[.int .i64 u.f0, .string u.f1, .int .i64 u.f2] 24 (0, 0))
  have B3 := blk_new (((w.alloc (.cells #[.slice A D.length cp] 55 (0, 0))).alloc (.cells #[.int .u8 d, .int .i64 N, .int .i64 u.f0, .string u.f1, .int .i64 u.f2] 29 (0, 0))).alloc (.cells #[.slice none 0 0] 55 (0, 0))) (.cells #[.int .i64 u.f0, .string u.f1, .int .i64 u.f2] 24 (0, 0))
  simp only [World.size_alloc] at B1 B2 B3
  replace B0 := Aside0.mk B0
  replace B1 := Aside0.mk B1
  replace B2 := Aside0.mk B2
  replace B3 := Aside0.mk B3
  have HSL := Aside0.mk (show ∀ j, j < 4 → Boxes E w.heap.size (w.heap.size + j) from fun j hj => .inl ⟨by omega, by omega⟩)
  have HEE := Aside0.mk hE
  have HK0 := Aside0.mk (fun k (hk : E k) => HB4.out.block k (hE k hk))
  have HR := Aside0.mk hr
  have HM := Aside0.mk hm
  clear h HP0 hB hr hm hE
  have e : d.tmod 8 = 2 := e_
  clear e_
  go_enter Try.func30, Try.ntmps30
  go_wp2_with fail
  obtain ⟨D', er, ho, hrf, hrel⟩ := on_pair HR.out (Nat.le_trans HM.out (by decide)) u
  refine (HP.out.code ho HBB.out HE.out).mono ?_
  rintro x w5 ⟨rfl, hp, hb, hsz, hk⟩
  have B0a := Aside0.mk (show w5.heap[w.heap.size]? = some (.cells #[.slice A D.length cp] 55 (0, 0)) from (hk _ (HSL.out 0 (by omega))).trans B0.out)
  have B1a := Aside0.mk (show w5.heap[w.heap.size + 1]? = some (.cells #[.int .u8 d, .int .i64 N, .int .i64 u.f0, .string u.f1, .int .i64 u.f2] 29 (0, 0)) from (hk _ (HSL.out 1 (by omega))).trans B1.out)
  have B2a := Aside0.mk (show w5.heap[w.heap.size + 1 + 1]? = some (.cells #[.slice none 0 0] 55 (0, 0)) from (hk _ (HSL.out 2 (by omega))).trans B2.out)
  have B3a := Aside0.mk (show w5.heap[w.heap.size + 1 + 1 + 1]? = some (.cells #[.int .i64 u.f0, .string u.f1, .int .i64 u.f2] 24 (0, 0)) from (hk _ (HSL.out 3 (by omega))).trans B3.out)
  have HP1 := Aside0.mk hp
  have HK1 := Aside0.mk (fun q (hq : E q) => (hk q (.inr hq)).trans (HK0.out q hq))
  have HB1 := Aside0.mk (HBw.out.trans hb)
  have HE1 := Aside0.mk (fun k hk => Nat.lt_of_lt_of_le (HE.out k hk) hsz)
  have HRF := Aside0.mk hrf
  have HREL := Aside0.mk hrel
  clear hp hb hsz hk ho hrf hrel B0 B1 B2 B3 HP HBB
  have b0c0a := (blk_cell B0a.out 0).trans rfl
  have b3c0a := (blk_cell B3a.out 0).trans rfl
  have b3c1a := (blk_cell B3a.out 1).trans rfl
  have b3c2a := (blk_cell B3a.out 2).trans rfl
  go_wp2_with fail
  refine (HP1.out.ref HRF.out HE1.out).mono ?_
  rintro x w6 ⟨A', c', rfl, hp, hb⟩
  have B0b := Aside0.mk (blk_below B0a.out hb)
  have B2b := Aside0.mk (blk_below B2a.out hb)
  have HP2 := Aside0.mk (hp.set (p := ⟨w.heap.size, 0, none⟩) (HSL.out 0 (by omega)) (.slice A' (D'.map Prod.snd).length c'))
  have HB2 := Aside0.mk ((HB1.out.trans (hb.mono (Nat.le_trans HB.out HB1.out.size))).setCell (p := ⟨w.heap.size, 0, none⟩) HB.out (.slice A' (D'.map Prod.snd).length c'))
  have HKF := Aside0.mk (fun q (hq : E q) => (Below.heap_setCell w6 ⟨w.heap.size, 0, none⟩ (.slice A' (D'.map Prod.snd).length c') q (by have := HEE.out q hq; dsimp only; omega)).trans ((hb.block q (Nat.lt_of_lt_of_le (HEE.out q hq) HB1.out.size)).trans (HK1.out q hq)))
  have b0 := (blk_cell B0b.out 0).trans rfl
  have f0 := blk_frozen B0b.out 0
  clear hp hb
  clear b0c0a b3c0a b3c1a b3c2a
  go_wp2_with fail
  have B0c := Aside0.mk (blk_put B0b.out 0 (.slice A' (D'.map Prod.snd).length c') rfl)
  have B2c := Aside0.mk (blk_far (p := ⟨w.heap.size, 0, none⟩) B2b.out (by dsimp only; omega) (.slice A' (D'.map Prod.snd).length c'))
  have HPF := HP2
  have HBF := HB2
  clear b0 f0 B0a B1a B2a B3a B0b B2b HP1 HB1 HE1 HRF HP2 HB2 HE HB4 HBw HK0 HK1
  simp only [List.length_map] at B0c B2c HPF HBF HKF
  generalize (w6.setCell ⟨w.heap.size, 0, none⟩ (.slice A' D'.length c')) = w9 at *
  refine start_ (n := 8) (S := fun W => W.heap[w.heap.size]? = some (.cells #[.slice A' D'.length c'] 55 (0, 0)) ∧ W.heap[w.heap.size + 1 + 1]? = some (.cells #[.slice none 0 0] 55 (0, 0)) ∧ Below w9.heap.size w9 W) (ds := [6]) #[false, false, false, false, false, false, false, false] (by kernel_rfl) rfl rfl ⟨blk_drew B0c.out, blk_drew B2c.out, below_drew (Below.refl _ _)⟩ (fun hHeld => ?_)
  generalize w9.drew = w10 at hHeld ⊢
  refine pure_ (i := 0) (N := some 113) (v := ?_) (a' := ?_) #[true, false, false, false, false, false, false, false] rfl rfl (by kernel_rfl) (fun _ _ _ h => h) (Or.inl ⟨by rfl, ?_⟩) ?_ ?_
  rotate_left
  · intro w_
    go_simp
    with_reducible rfl
  rotate_left
  · simp only [Act.put, List.setIfInBounds_toArray, List.set_cons_zero, List.set_cons_succ, i64_w, i32_w]
    rfl
  refine take_ (i := 1) (N := some 114) (v := ?_) (a' := ?_) #[true, true, false, false, false, false, false, false] rfl rfl (by kernel_rfl) (fun _ _ _ h => h) (Or.inl ⟨by rfl, ?_⟩) hHeld ?_ ?_
  rotate_left
  · rintro w_ ⟨hs_, _⟩
    have s0 := (blk_cell hs_ 0).trans rfl
    go_simp
    with_reducible rfl
  rotate_left
  · simp only [Act.put, List.setIfInBounds_toArray, List.set_cons_zero, List.set_cons_succ, i64_w, i32_w]
    rfl
  refine pure_ (i := 2) (N := some 115) (v := ?_) (a' := ?_) #[true, true, true, false, false, false, false, false] rfl rfl (by kernel_rfl) (fun _ _ _ h => h) (Or.inl ⟨by rfl, ?_⟩) ?_ ?_
  rotate_left
  · intro w_
    go_simp
    with_reducible rfl
  rotate_left
  · simp only [Act.put, List.setIfInBounds_toArray, List.set_cons_zero, List.set_cons_succ, i64_w, i32_w]
    rfl
  refine pure_ (i := 3) (N := some 116) (v := ?_) (a' := ?_) #[true, true, true, true, false, false, false, false] rfl rfl (by kernel_rfl) (fun _ _ _ h => h) (Or.inl ⟨by rfl, ?_⟩) ?_ ?_
  rotate_left
  · intro w_
    go_simp
    with_reducible rfl
  rotate_left
  · simp only [Act.put, List.setIfInBounds_toArray, List.set_cons_zero, List.set_cons_succ, i64_w, i32_w]
    rfl
  refine pure_ (i := 4) (N := some 117) (v := ?_) (a' := ?_) #[true, true, true, true, true, false, false, false] rfl rfl (by kernel_rfl) (fun _ _ _ h => h) (Or.inl ⟨by rfl, ?_⟩) ?_ ?_
  rotate_left
  · intro w_
    go_simp
    with_reducible rfl
  rotate_left
  · simp only [Act.put, List.setIfInBounds_toArray, List.set_cons_zero, List.set_cons_succ, i64_w, i32_w]
    rfl
  refine pure_ (i := 5) (N := some 6) (v := ?_) (a' := ?_) #[true, true, true, true, true, true, false, false] rfl rfl (by kernel_rfl) (fun _ _ _ h => h) (Or.inl ⟨by rfl, ?_⟩) ?_ ?_
  rotate_left
  · intro w_
    go_simp
    with_reducible rfl
  rotate_left
  · simp only [Act.put, List.setIfInBounds_toArray, List.set_cons_zero, List.set_cons_succ, i64_w, i32_w]
    rfl
  have hc3 := (blk_cell hHeld.2.1 0).trans rfl
  have hf3 := blk_frozen hHeld.2.1 0
  refine last_ (i := 6) (N := none) #[true, true, true, true, true, true, true, false] rfl rfl (by kernel_rfl) (by decide) (fun K' hK => ?_)
  refine skip_ (w1 := ?_) (by rfl) rfl ?_ ?_
  rotate_left
  · go_simp
    rfl
  refine hK.out _ _ ?_
  clear hK K'
  refine pure_ (i := 7) (N := some 8) (v := ?_) (a' := ?_) #[true, true, true, true, true, true, true, true] rfl rfl (by kernel_rfl) (fun _ _ _ h => h) (Or.inl ⟨by rfl, ?_⟩) ?_ ?_
  rotate_left
  · intro w_
    go_simp
    with_reducible rfl
  rotate_left
  · simp only [Act.put, List.setIfInBounds_toArray, List.set_cons_zero, List.set_cons_succ, i64_w, i32_w]
    rfl
  refine done_ (by kernel_rfl) ?_
  have hPF := Aside0.mk ((HPF.out.below hHeld.2.2).set (p := ⟨w.heap.size + 1 + 1, 0, none⟩) (HSL.out 2 (by omega)) (.slice A' D'.length c'))
  have hBF := Aside0.mk ((HBF.out.trans (hHeld.2.2.mono (Nat.le_trans HB.out HBF.out.size))).setCell (p := ⟨w.heap.size + 1 + 1, 0, none⟩) (show B ≤ w.heap.size + 1 + 1 by have := HB.out; omega) (.slice A' D'.length c'))
  have hKF := Aside0.mk (fun q (hq : E q) => (Below.heap_setCell w10 ⟨w.heap.size + 1 + 1, 0, none⟩ (.slice A' D'.length c') q (by have := HEE.out q hq; dsimp only; omega)).trans ((hHeld.2.2.block q (Nat.lt_of_lt_of_le (HEE.out q hq) HBF.out.size)).trans (HKF.out q hq)))
  have hRF := Aside0.mk (blk_put hHeld.2.1 0 (.slice A' D'.length c') rfl)
  clear hHeld hc3 hf3
  go_wp2_with fail
  refine bodyPost_ret (v := .tuple #[.pointer (some ⟨s, 0, none⟩), .agg #[.slice A' D'.length c'], .bool true]) ?_ rfl ?_
  · have z0 := (blk_cell hRF.out 0).trans rfl
    simp [results, Try.f30, Try.results30, go_sem, z0]
  exact ⟨s, _, D', rfl, hPF.out.mono (fun _ e => .inr e), HREL.out, hBF.out, hKF.out⟩
set_option maxRecDepth 100000 in
set_option maxHeartbeats 8000000 in
theorem done_3 (B : Nat) (d N : Int) (u : S24) (s : Nat) (A : Option Addr) (cp : Nat) (D : List (Fr × S94)) (m : Nat) (w : World) (hB : B ≤ w.heap.size) (E : Nat → Prop) (hE : ∀ k, E k → k < w.heap.size) (h : PE E B w s (.slice A D.length cp) (D.map Prod.fst) (D.map Prod.snd)) (hr : Rel m D) (hm : m ≤ 800) (e_ : d.tmod 8 = 3) :
    Calls Try.prog 30 #[.pointer (some ⟨s, 0, none⟩), .agg #[.slice A D.length cp], .agg #[.int .u8 d, .int .i64 N, .int .i64 u.f0, .string u.f1, .int .i64 u.f2]] w fun e w' => ∃ s' v' D', e = .returned (.tuple #[.pointer (some ⟨s', 0, none⟩), .agg #[v'], .bool true]) ∧ PE E B w' s' v' (D'.map Prod.fst) (D'.map Prod.snd) ∧ Rel (m + 1) D' ∧ Below B w w' ∧ ∀ k, E k → w'.heap[k]? = w.heap[k]? := by
  obtain ⟨HP0⟩ := Aside0.mk (h.fresh (E' := Boxes E w.heap.size) (fun k hk => hk.elim (fun e => .inr e.1) .inl))
  have HB4 := Aside0.mk (((((Below.refl w.heap.size w).alloc (Nat.le_refl _) (.cells #[.slice A D.length cp] 55 (0, 0))).alloc (by simp) (.cells #[.int .u8 d, .int .i64 N, .int .i64 u.f0, .string u.f1, .int .i64 u.f2] 29 (0, 0))).alloc (by simp only [World.size_alloc]; omega) (.cells #[.slice none 0 0] 55 (0, 0))).alloc (by simp only [World.size_alloc]; omega) (.cells #[.int .i64 u.f0, .string u.f1, .int .i64 u.f2] 24 (0, 0)))
  have HP := Aside0.mk (HP0.below HB4.out)
  have HE := Aside0.mk (fun k (hk : Boxes E w.heap.size k) => (show k < ((((w.alloc (.cells #[.slice A D.length cp] 55 (0, 0))).alloc (.cells #[.int .u8 d, .int .i64 N, .int .i64 u.f0, .string u.f1, .int .i64 u.f2] 29 (0, 0))).alloc (.cells #[.slice none 0 0] 55 (0, 0))).alloc (.cells #[.int .i64 u.f0, .string u.f1, .int .i64 u.f2] 24 (0, 0))).heap.size by
    rcases hk with hk | hk
    · have := hk.2
      simp only [World.size_alloc]
      omega
    · have := hE k hk
      simp only [World.size_alloc]
      omega))
  have HBB := Aside0.mk (show B ≤ ((((w.alloc (.cells #[.slice A D.length cp] 55 (0, 0))).alloc (.cells #[.int .u8 d, .int .i64 N, .int .i64 u.f0, .string u.f1, .int .i64 u.f2] 29 (0, 0))).alloc (.cells #[.slice none 0 0] 55 (0, 0))).alloc (.cells #[.int .i64 u.f0, .string u.f1, .int .i64 u.f2] 24 (0, 0))).heap.size by simp only [World.size_alloc]; omega)
  have HBw := Aside0.mk (HB4.out.mono hB)
  have HB := Aside0.mk hB
  have B0 := blk_alloc (blk_alloc (blk_alloc (blk_new w (.cells #[.slice A D.length cp] 55 (0, 0))) (.cells #[.int .u8 d, .int .i64 N, .int .i64 u.f0, .string u.f1, .int .i64 u.f2] 29 (0, 0))) (.cells #[.slice none 0 0] 55 (0, 0))) (.cells #[.int .i64 u.f0, .string u.f1, .int .i64 u.f2] 24 (0, 0))
  have B1 := blk_alloc (blk_alloc (blk_new (w.alloc (.cells #[.slice A D.length cp] 55 (0, 0))) (.cells #[.int .u8 d, .int .i64 N, .int .i64 u.f0, .string u.f1, .int .i64 u.f2] 29 (0, 0))) (.cells #[.slice none 0 0] 55 (0, 0))) (.cells #[.int .i64 u.f0, .string u.f1, .int .i64 u.f2] 24 (0, 0))
  have B2 := blk_alloc (blk_new ((w.alloc (.cells #[.slice A D.length cp] 55 (0, 0))).alloc (.cells #[.int .u8 d, .int .i64 N, .int .i64 u.f0, .string u.f1, .int .i64 u.f2] 29 (0, 0))) (.cells #[.slice none 0 0] 55 (0, 0))) (.cells #[.int .i64 u.f0, .string u.f1, .int .i64 u.f2] 24 (0, 0))
  have B3 := blk_new (((w.alloc (.cells #[.slice A D.length cp] 55 (0, 0))).alloc (.cells #[.int .u8 d, .int .i64 N, .int .i64 u.f0, .string u.f1, .int .i64 u.f2] 29 (0, 0))).alloc (.cells #[.slice none 0 0] 55 (0, 0))) (.cells #[.int .i64 u.f0, .string u.f1, .int .i64 u.f2] 24 (0, 0))
  simp only [World.size_alloc] at B1 B2 B3
  replace B0 := Aside0.mk B0
  replace B1 := Aside0.mk B1
  replace B2 := Aside0.mk B2
  replace B3 := Aside0.mk B3
  have HSL := Aside0.mk (show ∀ j, j < 4 → Boxes E w.heap.size (w.heap.size + j) from fun j hj => .inl ⟨by omega, by omega⟩)
  have HEE := Aside0.mk hE
  have HK0 := Aside0.mk (fun k (hk : E k) => HB4.out.block k (hE k hk))
  have HR := Aside0.mk hr
  have HM := Aside0.mk hm
  clear h HP0 hB hr hm hE
  have e : d.tmod 8 = 3 := e_
  clear e_
  go_enter Try.func30, Try.ntmps30
  go_wp2_with fail
  obtain ⟨D', er, ho, hrf, hrel⟩ := on_pair HR.out (Nat.le_trans HM.out (by decide)) u
  refine (HP.out.code ho HBB.out HE.out).mono ?_
  rintro x w5 ⟨rfl, hp, hb, hsz, hk⟩
  have B0a := Aside0.mk (show w5.heap[w.heap.size]? = some (.cells #[.slice A D.length cp] 55 (0, 0)) from (hk _ (HSL.out 0 (by omega))).trans B0.out)
  have B1a := Aside0.mk (show w5.heap[w.heap.size + 1]? = some (.cells #[.int .u8 d, .int .i64 N, .int .i64 u.f0, .string u.f1, .int .i64 u.f2] 29 (0, 0)) from (hk _ (HSL.out 1 (by omega))).trans B1.out)
  have B2a := Aside0.mk (show w5.heap[w.heap.size + 1 + 1]? = some (.cells #[.slice none 0 0] 55 (0, 0)) from (hk _ (HSL.out 2 (by omega))).trans B2.out)
  have B3a := Aside0.mk (show w5.heap[w.heap.size + 1 + 1 + 1]? = some (.cells #[.int .i64 u.f0, .string u.f1, .int .i64 u.f2] 24 (0, 0)) from (hk _ (HSL.out 3 (by omega))).trans B3.out)
  have HP1 := Aside0.mk hp
  have HK1 := Aside0.mk (fun q (hq : E q) => (hk q (.inr hq)).trans (HK0.out q hq))
  have HB1 := Aside0.mk (HBw.out.trans hb)
  have HE1 := Aside0.mk (fun k hk => Nat.lt_of_lt_of_le (HE.out k hk) hsz)
  have HRF := Aside0.mk hrf
  have HREL := Aside0.mk hrel
  clear hp hb hsz hk ho hrf hrel B0 B1 B2 B3 HP HBB
  have b0c0a := (blk_cell B0a.out 0).trans rfl
  have b3c0a := (blk_cell B3a.out 0).trans rfl
  have b3c1a := (blk_cell B3a.out 1).trans rfl
  have b3c2a := (blk_cell B3a.out 2).trans rfl
  go_wp2_with fail
  refine (HP1.out.ref HRF.out HE1.out).mono ?_
  rintro x w6 ⟨A', c', rfl, hp, hb⟩
  have B0b := Aside0.mk (blk_below B0a.out hb)
  have B2b := Aside0.mk (blk_below B2a.out hb)
  have HP2 := Aside0.mk (hp.set (p := ⟨w.heap.size, 0, none⟩) (HSL.out 0 (by omega)) (.slice A' (D'.map Prod.snd).length c'))
  have HB2 := Aside0.mk ((HB1.out.trans (hb.mono (Nat.le_trans HB.out HB1.out.size))).setCell (p := ⟨w.heap.size, 0, none⟩) HB.out (.slice A' (D'.map Prod.snd).length c'))
  have HKF := Aside0.mk (fun q (hq : E q) => (Below.heap_setCell w6 ⟨w.heap.size, 0, none⟩ (.slice A' (D'.map Prod.snd).length c') q (by have := HEE.out q hq; dsimp only; omega)).trans ((hb.block q (Nat.lt_of_lt_of_le (HEE.out q hq) HB1.out.size)).trans (HK1.out q hq)))
  have b0 := (blk_cell B0b.out 0).trans rfl
  have f0 := blk_frozen B0b.out 0
  clear hp hb
  clear b0c0a b3c0a b3c1a b3c2a
  go_wp2_with fail
  have B0c := Aside0.mk (blk_put B0b.out 0 (.slice A' (D'.map Prod.snd).length c') rfl)
  have B2c := Aside0.mk (blk_far (p := ⟨w.heap.size, 0, none⟩) B2b.out (by dsimp only; omega) (.slice A' (D'.map Prod.snd).length c'))
  have HPF := HP2
  have HBF := HB2
  clear b0 f0 B0a B1a B2a B3a B0b B2b HP1 HB1 HE1 HRF HP2 HB2 HE HB4 HBw HK0 HK1
  simp only [List.length_map] at B0c B2c HPF HBF HKF
  generalize (w6.setCell ⟨w.heap.size, 0, none⟩ (.slice A' D'.length c')) = w9 at *
  refine start_ (n := 8) (S := fun W => W.heap[w.heap.size]? = some (.cells #[.slice A' D'.length c'] 55 (0, 0)) ∧ W.heap[w.heap.size + 1 + 1]? = some (.cells #[.slice none 0 0] 55 (0, 0)) ∧ Below w9.heap.size w9 W) (ds := [6]) #[false, false, false, false, false, false, false, false] (by kernel_rfl) rfl rfl ⟨blk_drew B0c.out, blk_drew B2c.out, below_drew (Below.refl _ _)⟩ (fun hHeld => ?_)
  generalize w9.drew = w10 at hHeld ⊢
  refine pure_ (i := 0) (N := some 113) (v := ?_) (a' := ?_) #[true, false, false, false, false, false, false, false] rfl rfl (by kernel_rfl) (fun _ _ _ h => h) (Or.inl ⟨by rfl, ?_⟩) ?_ ?_
  rotate_left
  · intro w_
    go_simp
    with_reducible rfl
  rotate_left
  · simp only [Act.put, List.setIfInBounds_toArray, List.set_cons_zero, List.set_cons_succ, i64_w, i32_w]
    rfl
  refine take_ (i := 1) (N := some 114) (v := ?_) (a' := ?_) #[true, true, false, false, false, false, false, false] rfl rfl (by kernel_rfl) (fun _ _ _ h => h) (Or.inl ⟨by rfl, ?_⟩) hHeld ?_ ?_
  rotate_left
  · rintro w_ ⟨hs_, _⟩
    have s0 := (blk_cell hs_ 0).trans rfl
    go_simp
    with_reducible rfl
  rotate_left
  · simp only [Act.put, List.setIfInBounds_toArray, List.set_cons_zero, List.set_cons_succ, i64_w, i32_w]
    rfl
  refine pure_ (i := 2) (N := some 115) (v := ?_) (a' := ?_) #[true, true, true, false, false, false, false, false] rfl rfl (by kernel_rfl) (fun _ _ _ h => h) (Or.inl ⟨by rfl, ?_⟩) ?_ ?_
  rotate_left
  · intro w_
    go_simp
    with_reducible rfl
  rotate_left
  · simp only [Act.put, List.setIfInBounds_toArray, List.set_cons_zero, List.set_cons_succ, i64_w, i32_w]
    rfl
  refine pure_ (i := 3) (N := some 116) (v := ?_) (a' := ?_) #[true, true, true, true, false, false, false, false] rfl rfl (by kernel_rfl) (fun _ _ _ h => h) (Or.inl ⟨by rfl, ?_⟩) ?_ ?_
  rotate_left
  · intro w_
    go_simp
    with_reducible rfl
  rotate_left
  · simp only [Act.put, List.setIfInBounds_toArray, List.set_cons_zero, List.set_cons_succ, i64_w, i32_w]
    rfl
  refine pure_ (i := 4) (N := some 117) (v := ?_) (a' := ?_) #[true, true, true, true, true, false, false, false] rfl rfl (by kernel_rfl) (fun _ _ _ h => h) (Or.inl ⟨by rfl, ?_⟩) ?_ ?_
  rotate_left
  · intro w_
    go_simp
    with_reducible rfl
  rotate_left
  · simp only [Act.put, List.setIfInBounds_toArray, List.set_cons_zero, List.set_cons_succ, i64_w, i32_w]
    rfl
  refine pure_ (i := 5) (N := some 6) (v := ?_) (a' := ?_) #[true, true, true, true, true, true, false, false] rfl rfl (by kernel_rfl) (fun _ _ _ h => h) (Or.inl ⟨by rfl, ?_⟩) ?_ ?_
  rotate_left
  · intro w_
    go_simp
    with_reducible rfl
  rotate_left
  · simp only [Act.put, List.setIfInBounds_toArray, List.set_cons_zero, List.set_cons_succ, i64_w, i32_w]
    rfl
  have hc3 := (blk_cell hHeld.2.1 0).trans rfl
  have hf3 := blk_frozen hHeld.2.1 0
  refine last_ (i := 6) (N := none) #[true, true, true, true, true, true, true, false] rfl rfl (by kernel_rfl) (by decide) (fun K' hK => ?_)
  refine skip_ (w1 := ?_) (by rfl) rfl ?_ ?_
  rotate_left
  · go_simp
    rfl
  refine hK.out _ _ ?_
  clear hK K'
  refine pure_ (i := 7) (N := some 8) (v := ?_) (a' := ?_) #[true, true, true, true, true, true, true, true] rfl rfl (by kernel_rfl) (fun _ _ _ h => h) (Or.inl ⟨by rfl, ?_⟩) ?_ ?_
  rotate_left
  · intro w_
    go_simp
    with_reducible rfl
  rotate_left
  · simp only [Act.put, List.setIfInBounds_toArray, List.set_cons_zero, List.set_cons_succ, i64_w, i32_w]
    rfl
  refine done_ (by kernel_rfl) ?_
  have hPF := Aside0.mk ((HPF.out.below hHeld.2.2).set (p := ⟨w.heap.size + 1 + 1, 0, none⟩) (HSL.out 2 (by omega)) (.slice A' D'.length c'))
  have hBF := Aside0.mk ((HBF.out.trans (hHeld.2.2.mono (Nat.le_trans HB.out HBF.out.size))).setCell (p := ⟨w.heap.size + 1 + 1, 0, none⟩) (show B ≤ w.heap.size + 1 + 1 by have := HB.out; omega) (.slice A' D'.length c'))
  have hKF := Aside0.mk (fun q (hq : E q) => (Below.heap_setCell w10 ⟨w.heap.size + 1 + 1, 0, none⟩ (.slice A' D'.length c') q (by have := HEE.out q hq; dsimp only; omega)).trans ((hHeld.2.2.block q (Nat.lt_of_lt_of_le (HEE.out q hq) HBF.out.size)).trans (HKF.out q hq)))
  have hRF := Aside0.mk (blk_put hHeld.2.1 0 (.slice A' D'.length c') rfl)
  clear hHeld hc3 hf3
  go_wp2_with fail
  refine bodyPost_ret (v := .tuple #[.pointer (some ⟨s, 0, none⟩), .agg #[.slice A' D'.length c'], .bool true]) ?_ rfl ?_
  · have z0 := (blk_cell hRF.out 0).trans rfl
    simp [results, Try.f30, Try.results30, go_sem, z0]
  exact ⟨s, _, D', rfl, hPF.out.mono (fun _ e => .inr e), HREL.out, hBF.out, hKF.out⟩
set_option maxRecDepth 100000 in
set_option maxHeartbeats 8000000 in
theorem done_4 (B : Nat) (d N : Int) (u : S24) (s : Nat) (A : Option Addr) (cp : Nat) (D : List (Fr × S94)) (m : Nat) (w : World) (hB : B ≤ w.heap.size) (E : Nat → Prop) (hE : ∀ k, E k → k < w.heap.size) (h : PE E B w s (.slice A D.length cp) (D.map Prod.fst) (D.map Prod.snd)) (hr : Rel m D) (hm : m ≤ 800) (e_ : d.tmod 8 = 4) :
    Calls Try.prog 30 #[.pointer (some ⟨s, 0, none⟩), .agg #[.slice A D.length cp], .agg #[.int .u8 d, .int .i64 N, .int .i64 u.f0, .string u.f1, .int .i64 u.f2]] w fun e w' => ∃ s' v' D', e = .returned (.tuple #[.pointer (some ⟨s', 0, none⟩), .agg #[v'], .bool true]) ∧ PE E B w' s' v' (D'.map Prod.fst) (D'.map Prod.snd) ∧ Rel (m + 1) D' ∧ Below B w w' ∧ ∀ k, E k → w'.heap[k]? = w.heap[k]? := by
  obtain ⟨HP0⟩ := Aside0.mk (h.fresh (E' := Boxes E w.heap.size) (fun k hk => hk.elim (fun e => .inr e.1) .inl))
  have HB4 := Aside0.mk (((((Below.refl w.heap.size w).alloc (Nat.le_refl _) (.cells #[.slice A D.length cp] 55 (0, 0))).alloc (by simp) (.cells #[.int .u8 d, .int .i64 N, .int .i64 u.f0, .string u.f1, .int .i64 u.f2] 29 (0, 0))).alloc (by simp only [World.size_alloc]; omega) (.cells #[.slice none 0 0] 55 (0, 0))).alloc (by simp only [World.size_alloc]; omega) (.cells #[.int .i64 u.f0, .string u.f1, .int .i64 u.f2] 24 (0, 0)))
  have HP := Aside0.mk (HP0.below HB4.out)
  have HE := Aside0.mk (fun k (hk : Boxes E w.heap.size k) => (show k < ((((w.alloc (.cells #[.slice A D.length cp] 55 (0, 0))).alloc (.cells #[.int .u8 d, .int .i64 N, .int .i64 u.f0, .string u.f1, .int .i64 u.f2] 29 (0, 0))).alloc (.cells #[.slice none 0 0] 55 (0, 0))).alloc (.cells #[.int .i64 u.f0, .string u.f1, .int .i64 u.f2] 24 (0, 0))).heap.size by
    rcases hk with hk | hk
    · have := hk.2
      simp only [World.size_alloc]
      omega
    · have := hE k hk
      simp only [World.size_alloc]
      omega))
  have HBB := Aside0.mk (show B ≤ ((((w.alloc (.cells #[.slice A D.length cp] 55 (0, 0))).alloc (.cells #[.int .u8 d, .int .i64 N, .int .i64 u.f0, .string u.f1, .int .i64 u.f2] 29 (0, 0))).alloc (.cells #[.slice none 0 0] 55 (0, 0))).alloc (.cells #[.int .i64 u.f0, .string u.f1, .int .i64 u.f2] 24 (0, 0))).heap.size by simp only [World.size_alloc]; omega)
  have HBw := Aside0.mk (HB4.out.mono hB)
  have HB := Aside0.mk hB
  have B0 := blk_alloc (blk_alloc (blk_alloc (blk_new w (.cells #[.slice A D.length cp] 55 (0, 0))) (.cells #[.int .u8 d, .int .i64 N, .int .i64 u.f0, .string u.f1, .int .i64 u.f2] 29 (0, 0))) (.cells #[.slice none 0 0] 55 (0, 0))) (.cells #[.int .i64 u.f0, .string u.f1, .int .i64 u.f2] 24 (0, 0))
  have B1 := blk_alloc (blk_alloc (blk_new (w.alloc (.cells #[.slice A D.length cp] 55 (0, 0))) (.cells #[.int .u8 d, .int .i64 N, .int .i64 u.f0, .string u.f1, .int .i64 u.f2] 29 (0, 0))) (.cells #[.slice none 0 0] 55 (0, 0))) (.cells #[.int .i64 u.f0, .string u.f1, .int .i64 u.f2] 24 (0, 0))
  have B2 := blk_alloc (blk_new ((w.alloc (.cells #[.slice A D.length cp] 55 (0, 0))).alloc (.cells #[.int .u8 d, .int .i64 N, .int .i64 u.f0, .string u.f1, .int .i64 u.f2] 29 (0, 0))) (.cells #[.slice none 0 0] 55 (0, 0))) (.cells #[.int .i64 u.f0, .string u.f1, .int .i64 u.f2] 24 (0, 0))
  have B3 := blk_new (((w.alloc (.cells #[.slice A D.length cp] 55 (0, 0))).alloc (.cells #[.int .u8 d, .int .i64 N, .int .i64 u.f0, .string u.f1, .int .i64 u.f2] 29 (0, 0))).alloc (.cells #[.slice none 0 0] 55 (0, 0))) (.cells #[.int .i64 u.f0, .string u.f1, .int .i64 u.f2] 24 (0, 0))
  simp only [World.size_alloc] at B1 B2 B3
  replace B0 := Aside0.mk B0
  replace B1 := Aside0.mk B1
  replace B2 := Aside0.mk B2
  replace B3 := Aside0.mk B3
  have HSL := Aside0.mk (show ∀ j, j < 4 → Boxes E w.heap.size (w.heap.size + j) from fun j hj => .inl ⟨by omega, by omega⟩)
  have HEE := Aside0.mk hE
  have HK0 := Aside0.mk (fun k (hk : E k) => HB4.out.block k (hE k hk))
  have HR := Aside0.mk hr
  have HM := Aside0.mk hm
  clear h HP0 hB hr hm hE
  have e : d.tmod 8 = 4 := e_
  clear e_
  go_enter Try.func30, Try.ntmps30
  go_wp2_with fail
  obtain ⟨D', er, ho, hrf, hrel⟩ := rev_pair HR.out (Nat.le_trans HM.out (by decide)) u.f0 u.f1
  refine (HP.out.code ho HBB.out HE.out).mono ?_
  rintro x w5 ⟨rfl, hp, hb, hsz, hk⟩
  have B0a := Aside0.mk (show w5.heap[w.heap.size]? = some (.cells #[.slice A D.length cp] 55 (0, 0)) from (hk _ (HSL.out 0 (by omega))).trans B0.out)
  have B1a := Aside0.mk (show w5.heap[w.heap.size + 1]? = some (.cells #[.int .u8 d, .int .i64 N, .int .i64 u.f0, .string u.f1, .int .i64 u.f2] 29 (0, 0)) from (hk _ (HSL.out 1 (by omega))).trans B1.out)
  have B2a := Aside0.mk (show w5.heap[w.heap.size + 1 + 1]? = some (.cells #[.slice none 0 0] 55 (0, 0)) from (hk _ (HSL.out 2 (by omega))).trans B2.out)
  have B3a := Aside0.mk (show w5.heap[w.heap.size + 1 + 1 + 1]? = some (.cells #[.int .i64 u.f0, .string u.f1, .int .i64 u.f2] 24 (0, 0)) from (hk _ (HSL.out 3 (by omega))).trans B3.out)
  have HP1 := Aside0.mk hp
  have HK1 := Aside0.mk (fun q (hq : E q) => (hk q (.inr hq)).trans (HK0.out q hq))
  have HB1 := Aside0.mk (HBw.out.trans hb)
  have HE1 := Aside0.mk (fun k hk => Nat.lt_of_lt_of_le (HE.out k hk) hsz)
  have HRF := Aside0.mk hrf
  have HREL := Aside0.mk hrel
  clear hp hb hsz hk ho hrf hrel B0 B1 B2 B3 HP HBB
  have b0c0a := (blk_cell B0a.out 0).trans rfl
  have b3c0a := (blk_cell B3a.out 0).trans rfl
  have b3c1a := (blk_cell B3a.out 1).trans rfl
  go_wp2_with fail
  refine (HP1.out.ref HRF.out HE1.out).mono ?_
  rintro x w6 ⟨A', c', rfl, hp, hb⟩
  have B0b := Aside0.mk (blk_below B0a.out hb)
  have B2b := Aside0.mk (blk_below B2a.out hb)
  have HP2 := Aside0.mk (hp.set (p := ⟨w.heap.size, 0, none⟩) (HSL.out 0 (by omega)) (.slice A' (D'.map Prod.snd).length c'))
  have HB2 := Aside0.mk ((HB1.out.trans (hb.mono (Nat.le_trans HB.out HB1.out.size))).setCell (p := ⟨w.heap.size, 0, none⟩) HB.out (.slice A' (D'.map Prod.snd).length c'))
  have HKF := Aside0.mk (fun q (hq : E q) => (Below.heap_setCell w6 ⟨w.heap.size, 0, none⟩ (.slice A' (D'.map Prod.snd).length c') q (by have := HEE.out q hq; dsimp only; omega)).trans ((hb.block q (Nat.lt_of_lt_of_le (HEE.out q hq) HB1.out.size)).trans (HK1.out q hq)))
  have b0 := (blk_cell B0b.out 0).trans rfl
  have f0 := blk_frozen B0b.out 0
  clear hp hb
  clear b0c0a b3c0a b3c1a
  go_wp2_with fail
  have B0c := Aside0.mk (blk_put B0b.out 0 (.slice A' (D'.map Prod.snd).length c') rfl)
  have B2c := Aside0.mk (blk_far (p := ⟨w.heap.size, 0, none⟩) B2b.out (by dsimp only; omega) (.slice A' (D'.map Prod.snd).length c'))
  have HPF := HP2
  have HBF := HB2
  clear b0 f0 B0a B1a B2a B3a B0b B2b HP1 HB1 HE1 HRF HP2 HB2 HE HB4 HBw HK0 HK1
  simp only [List.length_map] at B0c B2c HPF HBF HKF
  generalize (w6.setCell ⟨w.heap.size, 0, none⟩ (.slice A' D'.length c')) = w9 at *
  refine start_ (n := 8) (S := fun W => W.heap[w.heap.size]? = some (.cells #[.slice A' D'.length c'] 55 (0, 0)) ∧ W.heap[w.heap.size + 1 + 1]? = some (.cells #[.slice none 0 0] 55 (0, 0)) ∧ Below w9.heap.size w9 W) (ds := [6]) #[false, false, false, false, false, false, false, false] (by kernel_rfl) rfl rfl ⟨blk_drew B0c.out, blk_drew B2c.out, below_drew (Below.refl _ _)⟩ (fun hHeld => ?_)
  generalize w9.drew = w10 at hHeld ⊢
  refine pure_ (i := 0) (N := some 113) (v := ?_) (a' := ?_) #[true, false, false, false, false, false, false, false] rfl rfl (by kernel_rfl) (fun _ _ _ h => h) (Or.inl ⟨by rfl, ?_⟩) ?_ ?_
  rotate_left
  · intro w_
    go_simp
    with_reducible rfl
  rotate_left
  · simp only [Act.put, List.setIfInBounds_toArray, List.set_cons_zero, List.set_cons_succ, i64_w, i32_w]
    rfl
  refine take_ (i := 1) (N := some 114) (v := ?_) (a' := ?_) #[true, true, false, false, false, false, false, false] rfl rfl (by kernel_rfl) (fun _ _ _ h => h) (Or.inl ⟨by rfl, ?_⟩) hHeld ?_ ?_
  rotate_left
  · rintro w_ ⟨hs_, _⟩
    have s0 := (blk_cell hs_ 0).trans rfl
    go_simp
    with_reducible rfl
  rotate_left
  · simp only [Act.put, List.setIfInBounds_toArray, List.set_cons_zero, List.set_cons_succ, i64_w, i32_w]
    rfl
  refine pure_ (i := 2) (N := some 115) (v := ?_) (a' := ?_) #[true, true, true, false, false, false, false, false] rfl rfl (by kernel_rfl) (fun _ _ _ h => h) (Or.inl ⟨by rfl, ?_⟩) ?_ ?_
  rotate_left
  · intro w_
    go_simp
    with_reducible rfl
  rotate_left
  · simp only [Act.put, List.setIfInBounds_toArray, List.set_cons_zero, List.set_cons_succ, i64_w, i32_w]
    rfl
  refine pure_ (i := 3) (N := some 116) (v := ?_) (a' := ?_) #[true, true, true, true, false, false, false, false] rfl rfl (by kernel_rfl) (fun _ _ _ h => h) (Or.inl ⟨by rfl, ?_⟩) ?_ ?_
  rotate_left
  · intro w_
    go_simp
    with_reducible rfl
  rotate_left
  · simp only [Act.put, List.setIfInBounds_toArray, List.set_cons_zero, List.set_cons_succ, i64_w, i32_w]
    rfl
  refine pure_ (i := 4) (N := some 117) (v := ?_) (a' := ?_) #[true, true, true, true, true, false, false, false] rfl rfl (by kernel_rfl) (fun _ _ _ h => h) (Or.inl ⟨by rfl, ?_⟩) ?_ ?_
  rotate_left
  · intro w_
    go_simp
    with_reducible rfl
  rotate_left
  · simp only [Act.put, List.setIfInBounds_toArray, List.set_cons_zero, List.set_cons_succ, i64_w, i32_w]
    rfl
  refine pure_ (i := 5) (N := some 6) (v := ?_) (a' := ?_) #[true, true, true, true, true, true, false, false] rfl rfl (by kernel_rfl) (fun _ _ _ h => h) (Or.inl ⟨by rfl, ?_⟩) ?_ ?_
  rotate_left
  · intro w_
    go_simp
    with_reducible rfl
  rotate_left
  · simp only [Act.put, List.setIfInBounds_toArray, List.set_cons_zero, List.set_cons_succ, i64_w, i32_w]
    rfl
  have hc3 := (blk_cell hHeld.2.1 0).trans rfl
  have hf3 := blk_frozen hHeld.2.1 0
  refine last_ (i := 6) (N := none) #[true, true, true, true, true, true, true, false] rfl rfl (by kernel_rfl) (by decide) (fun K' hK => ?_)
  refine skip_ (w1 := ?_) (by rfl) rfl ?_ ?_
  rotate_left
  · go_simp
    rfl
  refine hK.out _ _ ?_
  clear hK K'
  refine pure_ (i := 7) (N := some 8) (v := ?_) (a' := ?_) #[true, true, true, true, true, true, true, true] rfl rfl (by kernel_rfl) (fun _ _ _ h => h) (Or.inl ⟨by rfl, ?_⟩) ?_ ?_
  rotate_left
  · intro w_
    go_simp
    with_reducible rfl
  rotate_left
  · simp only [Act.put, List.setIfInBounds_toArray, List.set_cons_zero, List.set_cons_succ, i64_w, i32_w]
    rfl
  refine done_ (by kernel_rfl) ?_
  have hPF := Aside0.mk ((HPF.out.below hHeld.2.2).set (p := ⟨w.heap.size + 1 + 1, 0, none⟩) (HSL.out 2 (by omega)) (.slice A' D'.length c'))
  have hBF := Aside0.mk ((HBF.out.trans (hHeld.2.2.mono (Nat.le_trans HB.out HBF.out.size))).setCell (p := ⟨w.heap.size + 1 + 1, 0, none⟩) (show B ≤ w.heap.size + 1 + 1 by have := HB.out; omega) (.slice A' D'.length c'))
  have hKF := Aside0.mk (fun q (hq : E q) => (Below.heap_setCell w10 ⟨w.heap.size + 1 + 1, 0, none⟩ (.slice A' D'.length c') q (by have := HEE.out q hq; dsimp only; omega)).trans ((hHeld.2.2.block q (Nat.lt_of_lt_of_le (HEE.out q hq) HBF.out.size)).trans (HKF.out q hq)))
  have hRF := Aside0.mk (blk_put hHeld.2.1 0 (.slice A' D'.length c') rfl)
  clear hHeld hc3 hf3
  go_wp2_with fail
  refine bodyPost_ret (v := .tuple #[.pointer (some ⟨s, 0, none⟩), .agg #[.slice A' D'.length c'], .bool true]) ?_ rfl ?_
  · have z0 := (blk_cell hRF.out 0).trans rfl
    simp [results, Try.f30, Try.results30, go_sem, z0]
  exact ⟨s, _, D', rfl, hPF.out.mono (fun _ e => .inr e), HREL.out.more (Nat.le_succ m), hBF.out, hKF.out⟩
set_option maxRecDepth 100000 in
set_option maxHeartbeats 8000000 in
theorem done_5 (B : Nat) (d N : Int) (u : S24) (s : Nat) (A : Option Addr) (cp : Nat) (D : List (Fr × S94)) (m : Nat) (w : World) (hB : B ≤ w.heap.size) (E : Nat → Prop) (hE : ∀ k, E k → k < w.heap.size) (h : PE E B w s (.slice A D.length cp) (D.map Prod.fst) (D.map Prod.snd)) (hr : Rel m D) (hm : m ≤ 800) (e_ : d.tmod 8 = 5) :
    Calls Try.prog 30 #[.pointer (some ⟨s, 0, none⟩), .agg #[.slice A D.length cp], .agg #[.int .u8 d, .int .i64 N, .int .i64 u.f0, .string u.f1, .int .i64 u.f2]] w fun e w' => ∃ s' v' D', e = .returned (.tuple #[.pointer (some ⟨s', 0, none⟩), .agg #[v'], .bool true]) ∧ PE E B w' s' v' (D'.map Prod.fst) (D'.map Prod.snd) ∧ Rel (m + 1) D' ∧ Below B w w' ∧ ∀ k, E k → w'.heap[k]? = w.heap[k]? := by
  obtain ⟨HP0⟩ := Aside0.mk (h.fresh (E' := Boxes E w.heap.size) (fun k hk => hk.elim (fun e => .inr e.1) .inl))
  have HB4 := Aside0.mk (((((Below.refl w.heap.size w).alloc (Nat.le_refl _) (.cells #[.slice A D.length cp] 55 (0, 0))).alloc (by simp) (.cells #[.int .u8 d, .int .i64 N, .int .i64 u.f0, .string u.f1, .int .i64 u.f2] 29 (0, 0))).alloc (by simp only [World.size_alloc]; omega) (.cells #[.slice none 0 0] 55 (0, 0))).alloc (by simp only [World.size_alloc]; omega) (.cells #[.int .i64 u.f0, .string u.f1, .int .i64 u.f2] 24 (0, 0)))
  have HP := Aside0.mk (HP0.below HB4.out)
  have HE := Aside0.mk (fun k (hk : Boxes E w.heap.size k) => (show k < ((((w.alloc (.cells #[.slice A D.length cp] 55 (0, 0))).alloc (.cells #[.int .u8 d, .int .i64 N, .int .i64 u.f0, .string u.f1, .int .i64 u.f2] 29 (0, 0))).alloc (.cells #[.slice none 0 0] 55 (0, 0))).alloc (.cells #[.int .i64 u.f0, .string u.f1, .int .i64 u.f2] 24 (0, 0))).heap.size by
    rcases hk with hk | hk
    · have := hk.2
      simp only [World.size_alloc]
      omega
    · have := hE k hk
      simp only [World.size_alloc]
      omega))
  have HBB := Aside0.mk (show B ≤ ((((w.alloc (.cells #[.slice A D.length cp] 55 (0, 0))).alloc (.cells #[.int .u8 d, .int .i64 N, .int .i64 u.f0, .string u.f1, .int .i64 u.f2] 29 (0, 0))).alloc (.cells #[.slice none 0 0] 55 (0, 0))).alloc (.cells #[.int .i64 u.f0, .string u.f1, .int .i64 u.f2] 24 (0, 0))).heap.size by simp only [World.size_alloc]; omega)
  have HBw := Aside0.mk (HB4.out.mono hB)
  have HB := Aside0.mk hB
  have B0 := blk_alloc (blk_alloc (blk_alloc (blk_new w (.cells #[.slice A D.length cp] 55 (0, 0))) (.cells #[.int .u8 d, .int .i64 N, .int .i64 u.f0, .string u.f1, .int .i64 u.f2] 29 (0, 0))) (.cells #[.slice none 0 0] 55 (0, 0))) (.cells #[.int .i64 u.f0, .string u.f1, .int .i64 u.f2] 24 (0, 0))
  have B1 := blk_alloc (blk_alloc (blk_new (w.alloc (.cells #[.slice A D.length cp] 55 (0, 0))) (.cells #[.int .u8 d, .int .i64 N, .int .i64 u.f0, .string u.f1, .int .i64 u.f2] 29 (0, 0))) (.cells #[.slice none 0 0] 55 (0, 0))) (.cells #[.int .i64 u.f0, .string u.f1, .int .i64 u.f2] 24 (0, 0))
  have B2 := blk_alloc (blk_new ((w.alloc (.cells #[.slice A D.length cp] 55 (0, 0))).alloc (.cells #[.int .u8 d, .int .i64 N, .int .i64 u.f0, .string u.f1, .int .i64 u.f2] 29 (0, 0))) (.cells #[.slice none 0 0] 55 (0, 0))) (.cells #[.int .i64 u.f0, .string u.f1, .int .i64 u.f2] 24 (0, 0))
  have B3 := blk_new (((w.alloc (.cells #[.slice A D.length cp] 55 (0, 0))).alloc (.cells #[.int .u8 d, .int .i64 N, .int .i64 u.f0, .string u.f1, .int .i64 u.f2] 29 (0, 0))).alloc (.cells #[.slice none 0 0] 55 (0, 0))) (.cells #[.int .i64 u.f0, .string u.f1, .int .i64 u.f2] 24 (0, 0))
  simp only [World.size_alloc] at B1 B2 B3
  replace B0 := Aside0.mk B0
  replace B1 := Aside0.mk B1
  replace B2 := Aside0.mk B2
  replace B3 := Aside0.mk B3
  have HSL := Aside0.mk (show ∀ j, j < 4 → Boxes E w.heap.size (w.heap.size + j) from fun j hj => .inl ⟨by omega, by omega⟩)
  have HEE := Aside0.mk hE
  have HK0 := Aside0.mk (fun k (hk : E k) => HB4.out.block k (hE k hk))
  have HR := Aside0.mk hr
  have HM := Aside0.mk hm
  clear h HP0 hB hr hm hE
  have e : d.tmod 8 = 5 := e_
  clear e_
  go_enter Try.func30, Try.ntmps30
  go_wp2_with fail
  obtain ⟨D', er, ho, hrf, hrel⟩ := beg_pair HR.out (Nat.le_trans HM.out (by decide)) u.f0 u.f1 N
  refine (HP.out.code ho HBB.out HE.out).mono ?_
  rintro x w5 ⟨rfl, hp, hb, hsz, hk⟩
  have B0a := Aside0.mk (show w5.heap[w.heap.size]? = some (.cells #[.slice A D.length cp] 55 (0, 0)) from (hk _ (HSL.out 0 (by omega))).trans B0.out)
  have B1a := Aside0.mk (show w5.heap[w.heap.size + 1]? = some (.cells #[.int .u8 d, .int .i64 N, .int .i64 u.f0, .string u.f1, .int .i64 u.f2] 29 (0, 0)) from (hk _ (HSL.out 1 (by omega))).trans B1.out)
  have B2a := Aside0.mk (show w5.heap[w.heap.size + 1 + 1]? = some (.cells #[.slice none 0 0] 55 (0, 0)) from (hk _ (HSL.out 2 (by omega))).trans B2.out)
  have B3a := Aside0.mk (show w5.heap[w.heap.size + 1 + 1 + 1]? = some (.cells #[.int .i64 u.f0, .string u.f1, .int .i64 u.f2] 24 (0, 0)) from (hk _ (HSL.out 3 (by omega))).trans B3.out)
  have HP1 := Aside0.mk hp
  have HK1 := Aside0.mk (fun q (hq : E q) => (hk q (.inr hq)).trans (HK0.out q hq))
  have HB1 := Aside0.mk (HBw.out.trans hb)
  have HE1 := Aside0.mk (fun k hk => Nat.lt_of_lt_of_le (HE.out k hk) hsz)
  have HRF := Aside0.mk hrf
  have HREL := Aside0.mk hrel
  clear hp hb hsz hk ho hrf hrel B0 B1 B2 B3 HP HBB
  have b0c0a := (blk_cell B0a.out 0).trans rfl
  have b3c0a := (blk_cell B3a.out 0).trans rfl
  have b3c1a := (blk_cell B3a.out 1).trans rfl
  go_wp2_with fail
  refine (HP1.out.ref HRF.out HE1.out).mono ?_
  rintro x w6 ⟨A', c', rfl, hp, hb⟩
  have B0b := Aside0.mk (blk_below B0a.out hb)
  have B2b := Aside0.mk (blk_below B2a.out hb)
  have HP2 := Aside0.mk (hp.set (p := ⟨w.heap.size, 0, none⟩) (HSL.out 0 (by omega)) (.slice A' (D'.map Prod.snd).length c'))
  have HB2 := Aside0.mk ((HB1.out.trans (hb.mono (Nat.le_trans HB.out HB1.out.size))).setCell (p := ⟨w.heap.size, 0, none⟩) HB.out (.slice A' (D'.map Prod.snd).length c'))
  have HKF := Aside0.mk (fun q (hq : E q) => (Below.heap_setCell w6 ⟨w.heap.size, 0, none⟩ (.slice A' (D'.map Prod.snd).length c') q (by have := HEE.out q hq; dsimp only; omega)).trans ((hb.block q (Nat.lt_of_lt_of_le (HEE.out q hq) HB1.out.size)).trans (HK1.out q hq)))
  have b0 := (blk_cell B0b.out 0).trans rfl
  have f0 := blk_frozen B0b.out 0
  clear hp hb
  clear b0c0a b3c0a b3c1a
  go_wp2_with fail
  have B0c := Aside0.mk (blk_put B0b.out 0 (.slice A' (D'.map Prod.snd).length c') rfl)
  have B2c := Aside0.mk (blk_far (p := ⟨w.heap.size, 0, none⟩) B2b.out (by dsimp only; omega) (.slice A' (D'.map Prod.snd).length c'))
  have HPF := HP2
  have HBF := HB2
  clear b0 f0 B0a B1a B2a B3a B0b B2b HP1 HB1 HE1 HRF HP2 HB2 HE HB4 HBw HK0 HK1
  simp only [List.length_map] at B0c B2c HPF HBF HKF
  generalize (w6.setCell ⟨w.heap.size, 0, none⟩ (.slice A' D'.length c')) = w9 at *
  refine start_ (n := 8) (S := fun W => W.heap[w.heap.size]? = some (.cells #[.slice A' D'.length c'] 55 (0, 0)) ∧ W.heap[w.heap.size + 1 + 1]? = some (.cells #[.slice none 0 0] 55 (0, 0)) ∧ Below w9.heap.size w9 W) (ds := [6]) #[false, false, false, false, false, false, false, false] (by kernel_rfl) rfl rfl ⟨blk_drew B0c.out, blk_drew B2c.out, below_drew (Below.refl _ _)⟩ (fun hHeld => ?_)
  generalize w9.drew = w10 at hHeld ⊢
  refine pure_ (i := 0) (N := some 113) (v := ?_) (a' := ?_) #[true, false, false, false, false, false, false, false] rfl rfl (by kernel_rfl) (fun _ _ _ h => h) (Or.inl ⟨by rfl, ?_⟩) ?_ ?_
  rotate_left
  · intro w_
    go_simp
    with_reducible rfl
  rotate_left
  · simp only [Act.put, List.setIfInBounds_toArray, List.set_cons_zero, List.set_cons_succ, i64_w, i32_w]
    rfl
  refine take_ (i := 1) (N := some 114) (v := ?_) (a' := ?_) #[true, true, false, false, false, false, false, false] rfl rfl (by kernel_rfl) (fun _ _ _ h => h) (Or.inl ⟨by rfl, ?_⟩) hHeld ?_ ?_
  rotate_left
  · rintro w_ ⟨hs_, _⟩
    have s0 := (blk_cell hs_ 0).trans rfl
    go_simp
    with_reducible rfl
  rotate_left
  · simp only [Act.put, List.setIfInBounds_toArray, List.set_cons_zero, List.set_cons_succ, i64_w, i32_w]
    rfl
  refine pure_ (i := 2) (N := some 115) (v := ?_) (a' := ?_) #[true, true, true, false, false, false, false, false] rfl rfl (by kernel_rfl) (fun _ _ _ h => h) (Or.inl ⟨by rfl, ?_⟩) ?_ ?_
  rotate_left
  · intro w_
    go_simp
    with_reducible rfl
  rotate_left
  · simp only [Act.put, List.setIfInBounds_toArray, List.set_cons_zero, List.set_cons_succ, i64_w, i32_w]
    rfl
  refine pure_ (i := 3) (N := some 116) (v := ?_) (a' := ?_) #[true, true, true, true, false, false, false, false] rfl rfl (by kernel_rfl) (fun _ _ _ h => h) (Or.inl ⟨by rfl, ?_⟩) ?_ ?_
  rotate_left
  · intro w_
    go_simp
    with_reducible rfl
  rotate_left
  · simp only [Act.put, List.setIfInBounds_toArray, List.set_cons_zero, List.set_cons_succ, i64_w, i32_w]
    rfl
  refine pure_ (i := 4) (N := some 117) (v := ?_) (a' := ?_) #[true, true, true, true, true, false, false, false] rfl rfl (by kernel_rfl) (fun _ _ _ h => h) (Or.inl ⟨by rfl, ?_⟩) ?_ ?_
  rotate_left
  · intro w_
    go_simp
    with_reducible rfl
  rotate_left
  · simp only [Act.put, List.setIfInBounds_toArray, List.set_cons_zero, List.set_cons_succ, i64_w, i32_w]
    rfl
  refine pure_ (i := 5) (N := some 6) (v := ?_) (a' := ?_) #[true, true, true, true, true, true, false, false] rfl rfl (by kernel_rfl) (fun _ _ _ h => h) (Or.inl ⟨by rfl, ?_⟩) ?_ ?_
  rotate_left
  · intro w_
    go_simp
    with_reducible rfl
  rotate_left
  · simp only [Act.put, List.setIfInBounds_toArray, List.set_cons_zero, List.set_cons_succ, i64_w, i32_w]
    rfl
  have hc3 := (blk_cell hHeld.2.1 0).trans rfl
  have hf3 := blk_frozen hHeld.2.1 0
  refine last_ (i := 6) (N := none) #[true, true, true, true, true, true, true, false] rfl rfl (by kernel_rfl) (by decide) (fun K' hK => ?_)
  refine skip_ (w1 := ?_) (by rfl) rfl ?_ ?_
  rotate_left
  · go_simp
    rfl
  refine hK.out _ _ ?_
  clear hK K'
  refine pure_ (i := 7) (N := some 8) (v := ?_) (a' := ?_) #[true, true, true, true, true, true, true, true] rfl rfl (by kernel_rfl) (fun _ _ _ h => h) (Or.inl ⟨by rfl, ?_⟩) ?_ ?_
  rotate_left
  · intro w_
    go_simp
    with_reducible rfl
  rotate_left
  · simp only [Act.put, List.setIfInBounds_toArray, List.set_cons_zero, List.set_cons_succ, i64_w, i32_w]
    rfl
  refine done_ (by kernel_rfl) ?_
  have hPF := Aside0.mk ((HPF.out.below hHeld.2.2).set (p := ⟨w.heap.size + 1 + 1, 0, none⟩) (HSL.out 2 (by omega)) (.slice A' D'.length c'))
  have hBF := Aside0.mk ((HBF.out.trans (hHeld.2.2.mono (Nat.le_trans HB.out HBF.out.size))).setCell (p := ⟨w.heap.size + 1 + 1, 0, none⟩) (show B ≤ w.heap.size + 1 + 1 by have := HB.out; omega) (.slice A' D'.length c'))
  have hKF := Aside0.mk (fun q (hq : E q) => (Below.heap_setCell w10 ⟨w.heap.size + 1 + 1, 0, none⟩ (.slice A' D'.length c') q (by have := HEE.out q hq; dsimp only; omega)).trans ((hHeld.2.2.block q (Nat.lt_of_lt_of_le (HEE.out q hq) HBF.out.size)).trans (HKF.out q hq)))
  have hRF := Aside0.mk (blk_put hHeld.2.1 0 (.slice A' D'.length c') rfl)
  clear hHeld hc3 hf3
  go_wp2_with fail
  refine bodyPost_ret (v := .tuple #[.pointer (some ⟨s, 0, none⟩), .agg #[.slice A' D'.length c'], .bool true]) ?_ rfl ?_
  · have z0 := (blk_cell hRF.out 0).trans rfl
    simp [results, Try.f30, Try.results30, go_sem, z0]
  exact ⟨s, _, D', rfl, hPF.out.mono (fun _ e => .inr e), HREL.out.more (Nat.le_succ m), hBF.out, hKF.out⟩
set_option maxRecDepth 100000 in
set_option maxHeartbeats 8000000 in
theorem done_6 (B : Nat) (d N : Int) (u : S24) (s : Nat) (A : Option Addr) (cp : Nat) (D : List (Fr × S94)) (m : Nat) (w : World) (hB : B ≤ w.heap.size) (E : Nat → Prop) (hE : ∀ k, E k → k < w.heap.size) (h : PE E B w s (.slice A D.length cp) (D.map Prod.fst) (D.map Prod.snd)) (hr : Rel m D) (hm : m ≤ 800) (e_ : d.tmod 8 = 6) :
    Calls Try.prog 30 #[.pointer (some ⟨s, 0, none⟩), .agg #[.slice A D.length cp], .agg #[.int .u8 d, .int .i64 N, .int .i64 u.f0, .string u.f1, .int .i64 u.f2]] w fun e w' => ∃ s' v' D', e = .returned (.tuple #[.pointer (some ⟨s', 0, none⟩), .agg #[v'], .bool true]) ∧ PE E B w' s' v' (D'.map Prod.fst) (D'.map Prod.snd) ∧ Rel (m + 1) D' ∧ Below B w w' ∧ ∀ k, E k → w'.heap[k]? = w.heap[k]? := by
  obtain ⟨HP0⟩ := Aside0.mk (h.fresh (E' := Boxes E w.heap.size) (fun k hk => hk.elim (fun e => .inr e.1) .inl))
  have HB4 := Aside0.mk (((((Below.refl w.heap.size w).alloc (Nat.le_refl _) (.cells #[.slice A D.length cp] 55 (0, 0))).alloc (by simp) (.cells #[.int .u8 d, .int .i64 N, .int .i64 u.f0, .string u.f1, .int .i64 u.f2] 29 (0, 0))).alloc (by simp only [World.size_alloc]; omega) (.cells #[.slice none 0 0] 55 (0, 0))).alloc (by simp only [World.size_alloc]; omega) (.cells #[.int .i64 u.f0, .string u.f1, .int .i64 u.f2] 24 (0, 0)))
  have HP := Aside0.mk (HP0.below HB4.out)
  have HE := Aside0.mk (fun k (hk : Boxes E w.heap.size k) => (show k < ((((w.alloc (.cells #[.slice A D.length cp] 55 (0, 0))).alloc (.cells #[.int .u8 d, .int .i64 N, .int .i64 u.f0, .string u.f1, .int .i64 u.f2] 29 (0, 0))).alloc (.cells #[.slice none 0 0] 55 (0, 0))).alloc (.cells #[.int .i64 u.f0, .string u.f1, .int .i64 u.f2] 24 (0, 0))).heap.size by
    rcases hk with hk | hk
    · have := hk.2
      simp only [World.size_alloc]
      omega
    · have := hE k hk
      simp only [World.size_alloc]
      omega))
  have HBB := Aside0.mk (show B ≤ ((((w.alloc (.cells #[.slice A D.length cp] 55 (0, 0))).alloc (.cells #[.int .u8 d, .int .i64 N, .int .i64 u.f0, .string u.f1, .int .i64 u.f2] 29 (0, 0))).alloc (.cells #[.slice none 0 0] 55 (0, 0))).alloc (.cells #[.int .i64 u.f0, .string u.f1, .int .i64 u.f2] 24 (0, 0))).heap.size by simp only [World.size_alloc]; omega)
  have HBw := Aside0.mk (HB4.out.mono hB)
  have HB := Aside0.mk hB
  have B0 := blk_alloc (blk_alloc (blk_alloc (blk_new w (.cells #[.slice A D.length cp] 55 (0, 0))) (.cells #[.int .u8 d, .int .i64 N, .int .i64 u.f0, .string u.f1, .int .i64 u.f2] 29 (0, 0))) (.cells #[.slice none 0 0] 55 (0, 0))) (.cells #[.int .i64 u.f0, .string u.f1, .int .i64 u.f2] 24 (0, 0))
  have B1 := blk_alloc (blk_alloc (blk_new (w.alloc (.cells #[.slice A D.length cp] 55 (0, 0))) (.cells #[.int .u8 d, .int .i64 N, .int .i64 u.f0, .string u.f1, .int .i64 u.f2] 29 (0, 0))) (.cells #[.slice none 0 0] 55 (0, 0))) (.cells #[.int .i64 u.f0, .string u.f1, .int .i64 u.f2] 24 (0, 0))
  have B2 := blk_alloc (blk_new ((w.alloc (.cells #[.slice A D.length cp] 55 (0, 0))).alloc (.cells #[.int .u8 d, .int .i64 N, .int .i64 u.f0, .string u.f1, .int .i64 u.f2] 29 (0, 0))) (.cells #[.slice none 0 0] 55 (0, 0))) (.cells #[.int .i64 u.f0, .string u.f1, .int .i64 u.f2] 24 (0, 0))
  have B3 := blk_new (((w.alloc (.cells #[.slice A D.length cp] 55 (0, 0))).alloc (.cells #[.int .u8 d, .int .i64 N, .int .i64 u.f0, .string u.f1, .int .i64 u.f2] 29 (0, 0))).alloc (.cells #[.slice none 0 0] 55 (0, 0))) (.cells #[.int .i64 u.f0, .string u.f1, .int .i64 u.f2] 24 (0, 0))
  simp only [World.size_alloc] at B1 B2 B3
  replace B0 := Aside0.mk B0
  replace B1 := Aside0.mk B1
  replace B2 := Aside0.mk B2
  replace B3 := Aside0.mk B3
  have HSL := Aside0.mk (show ∀ j, j < 4 → Boxes E w.heap.size (w.heap.size + j) from fun j hj => .inl ⟨by omega, by omega⟩)
  have HEE := Aside0.mk hE
  have HK0 := Aside0.mk (fun k (hk : E k) => HB4.out.block k (hE k hk))
  have HR := Aside0.mk hr
  have HM := Aside0.mk hm
  clear h HP0 hB hr hm hE
  have e : d.tmod 8 = 6 := e_
  clear e_
  have HMT := Aside0.mk (HP.out.meet HR.out HM.out u.f0 u.f1)
  go_enter Try.func30, Try.ntmps30
  go_wp2_with fail
  refine HMT.out.mono ?_
  rintro x w3 ⟨⟨x0, x1, x2, at_, er_, rfl⟩, hb⟩
  have hal := (Below.refl w3.heap.size w3).alloc (Nat.le_refl _) (.cells #[.int .i64 x0, .string x1, .int .i64 x2] 24 (0, 0))
  have HEm := HE
  have HP := Aside0.mk ((HP.out.below hb).below hal)
  have HE := Aside0.mk (fun k hk => Nat.lt_of_lt_of_le (HE.out k hk) (Nat.le_trans hb.size hal.size))
  have HBw := Aside0.mk ((HBw.out.trans (hb.mono HBB.out)).trans (hal.mono (Nat.le_trans HBB.out hb.size)))
  have HBB := Aside0.mk (Nat.le_trans HBB.out (Nat.le_trans hb.size hal.size))
  have B0 := Aside0.mk (blk_below (blk_below B0.out hb) hal)
  have B1 := Aside0.mk (blk_below (blk_below B1.out hb) hal)
  have B2 := Aside0.mk (blk_below (blk_below B2.out hb) hal)
  have B3 := Aside0.mk (blk_below (blk_below B3.out hb) hal)
  have HK0 := Aside0.mk (fun q (hq : E q) => (hal.block q (Nat.lt_of_lt_of_le (HEm.out q (.inr hq)) hb.size)).trans ((hb.block q (HEm.out q (.inr hq))).trans (HK0.out q hq)))
  have k0 := (blk_cell B3.out 0).trans rfl
  have k1 := (blk_cell B3.out 1).trans rfl
  have k2 := (blk_cell B1.out 0).trans rfl
  have k3 := (blk_cell B1.out 1).trans rfl
  clear hb hal HMT HEm
  by_cases he_ : er_ = 0
  · have he : er_ = 0 := he_
    clear he_
    go_wp2_with fail
    obtain ⟨D', er, ho, hrf, hrel⟩ := beg_pair HR.out (Nat.le_trans HM.out (by decide)) u.f0 u.f1 at_
    refine (HP.out.code ho HBB.out HE.out).mono ?_
    rintro x w5 ⟨rfl, hp, hb, hsz, hk⟩
    have B0a := Aside0.mk (show w5.heap[w.heap.size]? = some (.cells #[.slice A D.length cp] 55 (0, 0)) from (hk _ (HSL.out 0 (by omega))).trans B0.out)
    have B1a := Aside0.mk (show w5.heap[w.heap.size + 1]? = some (.cells #[.int .u8 d, .int .i64 N, .int .i64 u.f0, .string u.f1, .int .i64 u.f2] 29 (0, 0)) from (hk _ (HSL.out 1 (by omega))).trans B1.out)
    have B2a := Aside0.mk (show w5.heap[w.heap.size + 1 + 1]? = some (.cells #[.slice none 0 0] 55 (0, 0)) from (hk _ (HSL.out 2 (by omega))).trans B2.out)
    have B3a := Aside0.mk (show w5.heap[w.heap.size + 1 + 1 + 1]? = some (.cells #[.int .i64 u.f0, .string u.f1, .int .i64 u.f2] 24 (0, 0)) from (hk _ (HSL.out 3 (by omega))).trans B3.out)
    have HP1 := Aside0.mk hp
    have HK1 := Aside0.mk (fun q (hq : E q) => (hk q (.inr hq)).trans (HK0.out q hq))
    have HB1 := Aside0.mk (HBw.out.trans hb)
    have HE1 := Aside0.mk (fun k hk => Nat.lt_of_lt_of_le (HE.out k hk) hsz)
    have HRF := Aside0.mk hrf
    have HREL := Aside0.mk hrel
    clear hp hb hsz hk ho hrf hrel B0 B1 B2 B3 HP HBB
    have b0c0a := (blk_cell B0a.out 0).trans rfl
    have b3c0a := (blk_cell B3a.out 0).trans rfl
    have b3c1a := (blk_cell B3a.out 1).trans rfl
    go_wp2_with fail
    refine (HP1.out.ref HRF.out HE1.out).mono ?_
    rintro x w6 ⟨A', c', rfl, hp, hb⟩
    have B0b := Aside0.mk (blk_below B0a.out hb)
    have B2b := Aside0.mk (blk_below B2a.out hb)
    have HP2 := Aside0.mk (hp.set (p := ⟨w.heap.size, 0, none⟩) (HSL.out 0 (by omega)) (.slice A' (D'.map Prod.snd).length c'))
    have HB2 := Aside0.mk ((HB1.out.trans (hb.mono (Nat.le_trans HB.out HB1.out.size))).setCell (p := ⟨w.heap.size, 0, none⟩) HB.out (.slice A' (D'.map Prod.snd).length c'))
    have HKF := Aside0.mk (fun q (hq : E q) => (Below.heap_setCell w6 ⟨w.heap.size, 0, none⟩ (.slice A' (D'.map Prod.snd).length c') q (by have := HEE.out q hq; dsimp only; omega)).trans ((hb.block q (Nat.lt_of_lt_of_le (HEE.out q hq) HB1.out.size)).trans (HK1.out q hq)))
    have b0 := (blk_cell B0b.out 0).trans rfl
    have f0 := blk_frozen B0b.out 0
    clear hp hb
    clear b0c0a b3c0a b3c1a
    go_wp2_with fail
    have B0c := Aside0.mk (blk_put B0b.out 0 (.slice A' (D'.map Prod.snd).length c') rfl)
    have B2c := Aside0.mk (blk_far (p := ⟨w.heap.size, 0, none⟩) B2b.out (by dsimp only; omega) (.slice A' (D'.map Prod.snd).length c'))
    have HPF := HP2
    have HBF := HB2
    clear he
    clear b0 f0 B0a B1a B2a B3a B0b B2b HP1 HB1 HE1 HRF HP2 HB2 HE HB4 HBw HK0 HK1
    simp only [List.length_map] at B0c B2c HPF HBF HKF
    generalize (w6.setCell ⟨w.heap.size, 0, none⟩ (.slice A' D'.length c')) = w9 at *
    refine start_ (n := 8) (S := fun W => W.heap[w.heap.size]? = some (.cells #[.slice A' D'.length c'] 55 (0, 0)) ∧ W.heap[w.heap.size + 1 + 1]? = some (.cells #[.slice none 0 0] 55 (0, 0)) ∧ Below w9.heap.size w9 W) (ds := [6]) #[false, false, false, false, false, false, false, false] (by kernel_rfl) rfl rfl ⟨blk_drew B0c.out, blk_drew B2c.out, below_drew (Below.refl _ _)⟩ (fun hHeld => ?_)
    generalize w9.drew = w10 at hHeld ⊢
    refine pure_ (i := 0) (N := some 113) (v := ?_) (a' := ?_) #[true, false, false, false, false, false, false, false] rfl rfl (by kernel_rfl) (fun _ _ _ h => h) (Or.inl ⟨by rfl, ?_⟩) ?_ ?_
    rotate_left
    · intro w_
      go_simp
      with_reducible rfl
    rotate_left
    · simp only [Act.put, List.setIfInBounds_toArray, List.set_cons_zero, List.set_cons_succ, i64_w, i32_w]
      rfl
    refine take_ (i := 1) (N := some 114) (v := ?_) (a' := ?_) #[true, true, false, false, false, false, false, false] rfl rfl (by kernel_rfl) (fun _ _ _ h => h) (Or.inl ⟨by rfl, ?_⟩) hHeld ?_ ?_
    rotate_left
    · rintro w_ ⟨hs_, _⟩
      have s0 := (blk_cell hs_ 0).trans rfl
      go_simp
      with_reducible rfl
    rotate_left
    · simp only [Act.put, List.setIfInBounds_toArray, List.set_cons_zero, List.set_cons_succ, i64_w, i32_w]
      rfl
    refine pure_ (i := 2) (N := some 115) (v := ?_) (a' := ?_) #[true, true, true, false, false, false, false, false] rfl rfl (by kernel_rfl) (fun _ _ _ h => h) (Or.inl ⟨by rfl, ?_⟩) ?_ ?_
    rotate_left
    · intro w_
      go_simp
      with_reducible rfl
    rotate_left
    · simp only [Act.put, List.setIfInBounds_toArray, List.set_cons_zero, List.set_cons_succ, i64_w, i32_w]
      rfl
    refine pure_ (i := 3) (N := some 116) (v := ?_) (a' := ?_) #[true, true, true, true, false, false, false, false] rfl rfl (by kernel_rfl) (fun _ _ _ h => h) (Or.inl ⟨by rfl, ?_⟩) ?_ ?_
    rotate_left
    · intro w_
      go_simp
      with_reducible rfl
    rotate_left
    · simp only [Act.put, List.setIfInBounds_toArray, List.set_cons_zero, List.set_cons_succ, i64_w, i32_w]
      rfl
    refine pure_ (i := 4) (N := some 117) (v := ?_) (a' := ?_) #[true, true, true, true, true, false, false, false] rfl rfl (by kernel_rfl) (fun _ _ _ h => h) (Or.inl ⟨by rfl, ?_⟩) ?_ ?_
    rotate_left
    · intro w_
      go_simp
      with_reducible rfl
    rotate_left
    · simp only [Act.put, List.setIfInBounds_toArray, List.set_cons_zero, List.set_cons_succ, i64_w, i32_w]
      rfl
    refine pure_ (i := 5) (N := some 6) (v := ?_) (a' := ?_) #[true, true, true, true, true, true, false, false] rfl rfl (by kernel_rfl) (fun _ _ _ h => h) (Or.inl ⟨by rfl, ?_⟩) ?_ ?_
    rotate_left
    · intro w_
      go_simp
      with_reducible rfl
    rotate_left
    · simp only [Act.put, List.setIfInBounds_toArray, List.set_cons_zero, List.set_cons_succ, i64_w, i32_w]
      rfl
    have hc3 := (blk_cell hHeld.2.1 0).trans rfl
    have hf3 := blk_frozen hHeld.2.1 0
    refine last_ (i := 6) (N := none) #[true, true, true, true, true, true, true, false] rfl rfl (by kernel_rfl) (by decide) (fun K' hK => ?_)
    refine skip_ (w1 := ?_) (by rfl) rfl ?_ ?_
    rotate_left
    · go_simp
      rfl
    refine hK.out _ _ ?_
    clear hK K'
    refine pure_ (i := 7) (N := some 8) (v := ?_) (a' := ?_) #[true, true, true, true, true, true, true, true] rfl rfl (by kernel_rfl) (fun _ _ _ h => h) (Or.inl ⟨by rfl, ?_⟩) ?_ ?_
    rotate_left
    · intro w_
      go_simp
      with_reducible rfl
    rotate_left
    · simp only [Act.put, List.setIfInBounds_toArray, List.set_cons_zero, List.set_cons_succ, i64_w, i32_w]
      rfl
    refine done_ (by kernel_rfl) ?_
    have hPF := Aside0.mk ((HPF.out.below hHeld.2.2).set (p := ⟨w.heap.size + 1 + 1, 0, none⟩) (HSL.out 2 (by omega)) (.slice A' D'.length c'))
    have hBF := Aside0.mk ((HBF.out.trans (hHeld.2.2.mono (Nat.le_trans HB.out HBF.out.size))).setCell (p := ⟨w.heap.size + 1 + 1, 0, none⟩) (show B ≤ w.heap.size + 1 + 1 by have := HB.out; omega) (.slice A' D'.length c'))
    have hKF := Aside0.mk (fun q (hq : E q) => (Below.heap_setCell w10 ⟨w.heap.size + 1 + 1, 0, none⟩ (.slice A' D'.length c') q (by have := HEE.out q hq; dsimp only; omega)).trans ((hHeld.2.2.block q (Nat.lt_of_lt_of_le (HEE.out q hq) HBF.out.size)).trans (HKF.out q hq)))
    have hRF := Aside0.mk (blk_put hHeld.2.1 0 (.slice A' D'.length c') rfl)
    clear hHeld hc3 hf3
    go_wp2_with fail
    refine bodyPost_ret (v := .tuple #[.pointer (some ⟨s, 0, none⟩), .agg #[.slice A' D'.length c'], .bool true]) ?_ rfl ?_
    · have z0 := (blk_cell hRF.out 0).trans rfl
      simp [results, Try.f30, Try.results30, go_sem, z0]
    exact ⟨s, _, D', rfl, hPF.out.mono (fun _ e => .inr e), HREL.out.more (Nat.le_succ m), hBF.out, hKF.out⟩
  · have he : (er_ == 0) = false := by simpa using he_
    clear he_
    go_wp2_with fail
    obtain ⟨D', er, ho, hrf, hrel⟩ := beg_pair HR.out (Nat.le_trans HM.out (by decide)) u.f0 u.f1 N
    refine (HP.out.code ho HBB.out HE.out).mono ?_
    rintro x w5 ⟨rfl, hp, hb, hsz, hk⟩
    have B0a := Aside0.mk (show w5.heap[w.heap.size]? = some (.cells #[.slice A D.length cp] 55 (0, 0)) from (hk _ (HSL.out 0 (by omega))).trans B0.out)
    have B1a := Aside0.mk (show w5.heap[w.heap.size + 1]? = some (.cells #[.int .u8 d, .int .i64 N, .int .i64 u.f0, .string u.f1, .int .i64 u.f2] 29 (0, 0)) from (hk _ (HSL.out 1 (by omega))).trans B1.out)
    have B2a := Aside0.mk (show w5.heap[w.heap.size + 1 + 1]? = some (.cells #[.slice none 0 0] 55 (0, 0)) from (hk _ (HSL.out 2 (by omega))).trans B2.out)
    have B3a := Aside0.mk (show w5.heap[w.heap.size + 1 + 1 + 1]? = some (.cells #[.int .i64 u.f0, .string u.f1, .int .i64 u.f2] 24 (0, 0)) from (hk _ (HSL.out 3 (by omega))).trans B3.out)
    have HP1 := Aside0.mk hp
    have HK1 := Aside0.mk (fun q (hq : E q) => (hk q (.inr hq)).trans (HK0.out q hq))
    have HB1 := Aside0.mk (HBw.out.trans hb)
    have HE1 := Aside0.mk (fun k hk => Nat.lt_of_lt_of_le (HE.out k hk) hsz)
    have HRF := Aside0.mk hrf
    have HREL := Aside0.mk hrel
    clear hp hb hsz hk ho hrf hrel B0 B1 B2 B3 HP HBB
    have b0c0a := (blk_cell B0a.out 0).trans rfl
    have b3c0a := (blk_cell B3a.out 0).trans rfl
    have b3c1a := (blk_cell B3a.out 1).trans rfl
    go_wp2_with fail
    refine (HP1.out.ref HRF.out HE1.out).mono ?_
    rintro x w6 ⟨A', c', rfl, hp, hb⟩
    have B0b := Aside0.mk (blk_below B0a.out hb)
    have B2b := Aside0.mk (blk_below B2a.out hb)
    have HP2 := Aside0.mk (hp.set (p := ⟨w.heap.size, 0, none⟩) (HSL.out 0 (by omega)) (.slice A' (D'.map Prod.snd).length c'))
    have HB2 := Aside0.mk ((HB1.out.trans (hb.mono (Nat.le_trans HB.out HB1.out.size))).setCell (p := ⟨w.heap.size, 0, none⟩) HB.out (.slice A' (D'.map Prod.snd).length c'))
    have HKF := Aside0.mk (fun q (hq : E q) => (Below.heap_setCell w6 ⟨w.heap.size, 0, none⟩ (.slice A' (D'.map Prod.snd).length c') q (by have := HEE.out q hq; dsimp only; omega)).trans ((hb.block q (Nat.lt_of_lt_of_le (HEE.out q hq) HB1.out.size)).trans (HK1.out q hq)))
    have b0 := (blk_cell B0b.out 0).trans rfl
    have f0 := blk_frozen B0b.out 0
    clear hp hb
    clear b0c0a b3c0a b3c1a
    go_wp2_with fail
    have B0c := Aside0.mk (blk_put B0b.out 0 (.slice A' (D'.map Prod.snd).length c') rfl)
    have B2c := Aside0.mk (blk_far (p := ⟨w.heap.size, 0, none⟩) B2b.out (by dsimp only; omega) (.slice A' (D'.map Prod.snd).length c'))
    have HPF := HP2
    have HBF := HB2
    clear he
    clear b0 f0 B0a B1a B2a B3a B0b B2b HP1 HB1 HE1 HRF HP2 HB2 HE HB4 HBw HK0 HK1
    simp only [List.length_map] at B0c B2c HPF HBF HKF
    generalize (w6.setCell ⟨w.heap.size, 0, none⟩ (.slice A' D'.length c')) = w9 at *
    refine start_ (n := 8) (S := fun W => W.heap[w.heap.size]? = some (.cells #[.slice A' D'.length c'] 55 (0, 0)) ∧ W.heap[w.heap.size + 1 + 1]? = some (.cells #[.slice none 0 0] 55 (0, 0)) ∧ Below w9.heap.size w9 W) (ds := [6]) #[false, false, false, false, false, false, false, false] (by kernel_rfl) rfl rfl ⟨blk_drew B0c.out, blk_drew B2c.out, below_drew (Below.refl _ _)⟩ (fun hHeld => ?_)
    generalize w9.drew = w10 at hHeld ⊢
    refine pure_ (i := 0) (N := some 113) (v := ?_) (a' := ?_) #[true, false, false, false, false, false, false, false] rfl rfl (by kernel_rfl) (fun _ _ _ h => h) (Or.inl ⟨by rfl, ?_⟩) ?_ ?_
    rotate_left
    · intro w_
      go_simp
      with_reducible rfl
    rotate_left
    · simp only [Act.put, List.setIfInBounds_toArray, List.set_cons_zero, List.set_cons_succ, i64_w, i32_w]
      rfl
    refine take_ (i := 1) (N := some 114) (v := ?_) (a' := ?_) #[true, true, false, false, false, false, false, false] rfl rfl (by kernel_rfl) (fun _ _ _ h => h) (Or.inl ⟨by rfl, ?_⟩) hHeld ?_ ?_
    rotate_left
    · rintro w_ ⟨hs_, _⟩
      have s0 := (blk_cell hs_ 0).trans rfl
      go_simp
      with_reducible rfl
    rotate_left
    · simp only [Act.put, List.setIfInBounds_toArray, List.set_cons_zero, List.set_cons_succ, i64_w, i32_w]
      rfl
    refine pure_ (i := 2) (N := some 115) (v := ?_) (a' := ?_) #[true, true, true, false, false, false, false, false] rfl rfl (by kernel_rfl) (fun _ _ _ h => h) (Or.inl ⟨by rfl, ?_⟩) ?_ ?_
    rotate_left
    · intro w_
      go_simp
      with_reducible rfl
    rotate_left
    · simp only [Act.put, List.setIfInBounds_toArray, List.set_cons_zero, List.set_cons_succ, i64_w, i32_w]
      rfl
    refine pure_ (i := 3) (N := some 116) (v := ?_) (a' := ?_) #[true, true, true, true, false, false, false, false] rfl rfl (by kernel_rfl) (fun _ _ _ h => h) (Or.inl ⟨by rfl, ?_⟩) ?_ ?_
    rotate_left
    · intro w_
      go_simp
      with_reducible rfl
    rotate_left
    · simp only [Act.put, List.setIfInBounds_toArray, List.set_cons_zero, List.set_cons_succ, i64_w, i32_w]
      rfl
    refine pure_ (i := 4) (N := some 117) (v := ?_) (a' := ?_) #[true, true, true, true, true, false, false, false] rfl rfl (by kernel_rfl) (fun _ _ _ h => h) (Or.inl ⟨by rfl, ?_⟩) ?_ ?_
    rotate_left
    · intro w_
      go_simp
      with_reducible rfl
    rotate_left
    · simp only [Act.put, List.setIfInBounds_toArray, List.set_cons_zero, List.set_cons_succ, i64_w, i32_w]
      rfl
    refine pure_ (i := 5) (N := some 6) (v := ?_) (a' := ?_) #[true, true, true, true, true, true, false, false] rfl rfl (by kernel_rfl) (fun _ _ _ h => h) (Or.inl ⟨by rfl, ?_⟩) ?_ ?_
    rotate_left
    · intro w_
      go_simp
      with_reducible rfl
    rotate_left
    · simp only [Act.put, List.setIfInBounds_toArray, List.set_cons_zero, List.set_cons_succ, i64_w, i32_w]
      rfl
    have hc3 := (blk_cell hHeld.2.1 0).trans rfl
    have hf3 := blk_frozen hHeld.2.1 0
    refine last_ (i := 6) (N := none) #[true, true, true, true, true, true, true, false] rfl rfl (by kernel_rfl) (by decide) (fun K' hK => ?_)
    refine skip_ (w1 := ?_) (by rfl) rfl ?_ ?_
    rotate_left
    · go_simp
      rfl
    refine hK.out _ _ ?_
    clear hK K'
    refine pure_ (i := 7) (N := some 8) (v := ?_) (a' := ?_) #[true, true, true, true, true, true, true, true] rfl rfl (by kernel_rfl) (fun _ _ _ h => h) (Or.inl ⟨by rfl, ?_⟩) ?_ ?_
    rotate_left
    · intro w_
      go_simp
      with_reducible rfl
    rotate_left
    · simp only [Act.put, List.setIfInBounds_toArray, List.set_cons_zero, List.set_cons_succ, i64_w, i32_w]
      rfl
    refine done_ (by kernel_rfl) ?_
    have hPF := Aside0.mk ((HPF.out.below hHeld.2.2).set (p := ⟨w.heap.size + 1 + 1, 0, none⟩) (HSL.out 2 (by omega)) (.slice A' D'.length c'))
    have hBF := Aside0.mk ((HBF.out.trans (hHeld.2.2.mono (Nat.le_trans HB.out HBF.out.size))).setCell (p := ⟨w.heap.size + 1 + 1, 0, none⟩) (show B ≤ w.heap.size + 1 + 1 by have := HB.out; omega) (.slice A' D'.length c'))
    have hKF := Aside0.mk (fun q (hq : E q) => (Below.heap_setCell w10 ⟨w.heap.size + 1 + 1, 0, none⟩ (.slice A' D'.length c') q (by have := HEE.out q hq; dsimp only; omega)).trans ((hHeld.2.2.block q (Nat.lt_of_lt_of_le (HEE.out q hq) HBF.out.size)).trans (HKF.out q hq)))
    have hRF := Aside0.mk (blk_put hHeld.2.1 0 (.slice A' D'.length c') rfl)
    clear hHeld hc3 hf3
    go_wp2_with fail
    refine bodyPost_ret (v := .tuple #[.pointer (some ⟨s, 0, none⟩), .agg #[.slice A' D'.length c'], .bool true]) ?_ rfl ?_
    · have z0 := (blk_cell hRF.out 0).trans rfl
      simp [results, Try.f30, Try.results30, go_sem, z0]
    exact ⟨s, _, D', rfl, hPF.out.mono (fun _ e => .inr e), HREL.out.more (Nat.le_succ m), hBF.out, hKF.out⟩
set_option maxRecDepth 100000 in
set_option maxHeartbeats 8000000 in
theorem done_7 (B : Nat) (d N : Int) (u : S24) (s : Nat) (A : Option Addr) (cp : Nat) (D : List (Fr × S94)) (m : Nat) (w : World) (hB : B ≤ w.heap.size) (E : Nat → Prop) (hE : ∀ k, E k → k < w.heap.size) (h : PE E B w s (.slice A D.length cp) (D.map Prod.fst) (D.map Prod.snd)) (hr : Rel m D) (hm : m ≤ 800) (e_ : d.tmod 8 = 7) :
    Calls Try.prog 30 #[.pointer (some ⟨s, 0, none⟩), .agg #[.slice A D.length cp], .agg #[.int .u8 d, .int .i64 N, .int .i64 u.f0, .string u.f1, .int .i64 u.f2]] w fun e w' => ∃ s' v' D', e = .returned (.tuple #[.pointer (some ⟨s', 0, none⟩), .agg #[v'], .bool true]) ∧ PE E B w' s' v' (D'.map Prod.fst) (D'.map Prod.snd) ∧ Rel (m + 1) D' ∧ Below B w w' ∧ ∀ k, E k → w'.heap[k]? = w.heap[k]? := by
  obtain ⟨HP0⟩ := Aside0.mk (h.fresh (E' := Boxes E w.heap.size) (fun k hk => hk.elim (fun e => .inr e.1) .inl))
  have HB4 := Aside0.mk (((((Below.refl w.heap.size w).alloc (Nat.le_refl _) (.cells #[.slice A D.length cp] 55 (0, 0))).alloc (by simp) (.cells #[.int .u8 d, .int .i64 N, .int .i64 u.f0, .string u.f1, .int .i64 u.f2] 29 (0, 0))).alloc (by simp only [World.size_alloc]; omega) (.cells #[.slice none 0 0] 55 (0, 0))).alloc (by simp only [World.size_alloc]; omega) (.cells #[.int .i64 u.f0, .string u.f1, .int .i64 u.f2] 24 (0, 0)))
  have HP := Aside0.mk (HP0.below HB4.out)
  have HE := Aside0.mk (fun k (hk : Boxes E w.heap.size k) => (show k < ((((w.alloc (.cells #[.slice A D.length cp] 55 (0, 0))).alloc (.cells #[.int .u8 d, .int .i64 N, .int .i64 u.f0, .string u.f1, .int .i64 u.f2] 29 (0, 0))).alloc (.cells #[.slice none 0 0] 55 (0, 0))).alloc (.cells #[.int .i64 u.f0, .string u.f1, .int .i64 u.f2] 24 (0, 0))).heap.size by
    rcases hk with hk | hk
    · have := hk.2
      simp only [World.size_alloc]
      omega
    · have := hE k hk
      simp only [World.size_alloc]
      omega))
  have HBB := Aside0.mk (show B ≤ ((((w.alloc (.cells #[.slice A D.length cp] 55 (0, 0))).alloc (.cells #[.int .u8 d, .int .i64 N, .int .i64 u.f0, .string u.f1, .int .i64 u.f2] 29 (0, 0))).alloc (.cells #[.slice none 0 0] 55 (0, 0))).alloc (.cells #[.int .i64 u.f0, .string u.f1, .int .i64 u.f2] 24 (0, 0))).heap.size by simp only [World.size_alloc]; omega)
  have HBw := Aside0.mk (HB4.out.mono hB)
  have HB := Aside0.mk hB
  have B0 := blk_alloc (blk_alloc (blk_alloc (blk_new w (.cells #[.slice A D.length cp] 55 (0, 0))) (.cells #[.int .u8 d, .int .i64 N, .int .i64 u.f0, .string u.f1, .int .i64 u.f2] 29 (0, 0))) (.cells #[.slice none 0 0] 55 (0, 0))) (.cells #[.int .i64 u.f0, .string u.f1, .int .i64 u.f2] 24 (0, 0))
  have B1 := blk_alloc (blk_alloc (blk_new (w.alloc (.cells #[.slice A D.length cp] 55 (0, 0))) (.cells #[.int .u8 d, .int .i64 N, .int .i64 u.f0, .string u.f1, .int .i64 u.f2] 29 (0, 0))) (.cells #[.slice none 0 0] 55 (0, 0))) (.cells #[.int .i64 u.f0, .string u.f1, .int .i64 u.f2] 24 (0, 0))
  have B2 := blk_alloc (blk_new ((w.alloc (.cells #[.slice A D.length cp] 55 (0, 0))).alloc (.cells #[.int .u8 d, .int .i64 N, .int .i64 u.f0, .string u.f1, .int .i64 u.f2] 29 (0, 0))) (.cells #[.slice none 0 0] 55 (0, 0))) (.cells #[.int .i64 u.f0, .string u.f1, .int .i64 u.f2] 24 (0, 0))
  have B3 := blk_new (((w.alloc (.cells #[.slice A D.length cp] 55 (0, 0))).alloc (.cells #[.int .u8 d, .int .i64 N, .int .i64 u.f0, .string u.f1, .int .i64 u.f2] 29 (0, 0))).alloc (.cells #[.slice none 0 0] 55 (0, 0))) (.cells #[.int .i64 u.f0, .string u.f1, .int .i64 u.f2] 24 (0, 0))
  simp only [World.size_alloc] at B1 B2 B3
  replace B0 := Aside0.mk B0
  replace B1 := Aside0.mk B1
  replace B2 := Aside0.mk B2
  replace B3 := Aside0.mk B3
  have HSL := Aside0.mk (show ∀ j, j < 4 → Boxes E w.heap.size (w.heap.size + j) from fun j hj => .inl ⟨by omega, by omega⟩)
  have HEE := Aside0.mk hE
  have HK0 := Aside0.mk (fun k (hk : E k) => HB4.out.block k (hE k hk))
  have HR := Aside0.mk hr
  have HM := Aside0.mk hm
  clear h HP0 hB hr hm hE
  have e : d.tmod 8 = 7 := e_
  clear e_
  have HLL := Aside0.mk (show (D.map Prod.fst).length ≤ 1000 by have := HR.out.le; simp; omega)
  have HLU := Aside0.mk (show ∀ f ∈ D.map Prod.fst, f.us.length ≤ 1000 from fun f hf => by
    obtain ⟨p, hp, rfl⟩ := List.mem_map.1 hf
    have := (HR.out.fr p hp).len
    have := HM.out
    omega)
  go_enter Try.func30, Try.ntmps30
  go_wp2_with fail
  refine (HP.out.copy HLL.out HLU.out HBB.out HE.out).mono ?_
  rintro x w5 ⟨s', rfl, hp, hb⟩
  have B0c := Aside0.mk (blk_below B0.out hb)
  have B2c := Aside0.mk (blk_below B2.out hb)
  have HPF := Aside0.mk hp
  have HBF := Aside0.mk (HBw.out.trans (hb.mono HBB.out))
  have HKF := Aside0.mk (fun q (hq : E q) => (hb.block q (HE.out q (.inr hq))).trans (HK0.out q hq))
  clear hp hb B0 B1 B2 B3 HP HBB HE HB4 HBw HLL HLU HK0
  go_wp2_with fail
  generalize w5 = w9 at *
  refine start_ (n := 8) (S := fun W => W.heap[w.heap.size]? = some (.cells #[.slice A D.length cp] 55 (0, 0)) ∧ W.heap[w.heap.size + 1 + 1]? = some (.cells #[.slice none 0 0] 55 (0, 0)) ∧ Below w9.heap.size w9 W) (ds := [6]) #[false, false, false, false, false, false, false, false] (by kernel_rfl) rfl rfl ⟨blk_drew B0c.out, blk_drew B2c.out, below_drew (Below.refl _ _)⟩ (fun hHeld => ?_)
  generalize w9.drew = w10 at hHeld ⊢
  refine pure_ (i := 0) (N := some 113) (v := ?_) (a' := ?_) #[true, false, false, false, false, false, false, false] rfl rfl (by kernel_rfl) (fun _ _ _ h => h) (Or.inl ⟨by rfl, ?_⟩) ?_ ?_
  rotate_left
  · intro w_
    go_simp
    with_reducible rfl
  rotate_left
  · simp only [Act.put, List.setIfInBounds_toArray, List.set_cons_zero, List.set_cons_succ, i64_w, i32_w]
    rfl
  refine take_ (i := 1) (N := some 114) (v := ?_) (a' := ?_) #[true, true, false, false, false, false, false, false] rfl rfl (by kernel_rfl) (fun _ _ _ h => h) (Or.inl ⟨by rfl, ?_⟩) hHeld ?_ ?_
  rotate_left
  · rintro w_ ⟨hs_, _⟩
    have s0 := (blk_cell hs_ 0).trans rfl
    go_simp
    with_reducible rfl
  rotate_left
  · simp only [Act.put, List.setIfInBounds_toArray, List.set_cons_zero, List.set_cons_succ, i64_w, i32_w]
    rfl
  refine pure_ (i := 2) (N := some 115) (v := ?_) (a' := ?_) #[true, true, true, false, false, false, false, false] rfl rfl (by kernel_rfl) (fun _ _ _ h => h) (Or.inl ⟨by rfl, ?_⟩) ?_ ?_
  rotate_left
  · intro w_
    go_simp
    with_reducible rfl
  rotate_left
  · simp only [Act.put, List.setIfInBounds_toArray, List.set_cons_zero, List.set_cons_succ, i64_w, i32_w]
    rfl
  refine pure_ (i := 3) (N := some 116) (v := ?_) (a' := ?_) #[true, true, true, true, false, false, false, false] rfl rfl (by kernel_rfl) (fun _ _ _ h => h) (Or.inl ⟨by rfl, ?_⟩) ?_ ?_
  rotate_left
  · intro w_
    go_simp
    with_reducible rfl
  rotate_left
  · simp only [Act.put, List.setIfInBounds_toArray, List.set_cons_zero, List.set_cons_succ, i64_w, i32_w]
    rfl
  refine pure_ (i := 4) (N := some 117) (v := ?_) (a' := ?_) #[true, true, true, true, true, false, false, false] rfl rfl (by kernel_rfl) (fun _ _ _ h => h) (Or.inl ⟨by rfl, ?_⟩) ?_ ?_
  rotate_left
  · intro w_
    go_simp
    with_reducible rfl
  rotate_left
  · simp only [Act.put, List.setIfInBounds_toArray, List.set_cons_zero, List.set_cons_succ, i64_w, i32_w]
    rfl
  refine pure_ (i := 5) (N := some 6) (v := ?_) (a' := ?_) #[true, true, true, true, true, true, false, false] rfl rfl (by kernel_rfl) (fun _ _ _ h => h) (Or.inl ⟨by rfl, ?_⟩) ?_ ?_
  rotate_left
  · intro w_
    go_simp
    with_reducible rfl
  rotate_left
  · simp only [Act.put, List.setIfInBounds_toArray, List.set_cons_zero, List.set_cons_succ, i64_w, i32_w]
    rfl
  have hc3 := (blk_cell hHeld.2.1 0).trans rfl
  have hf3 := blk_frozen hHeld.2.1 0
  refine last_ (i := 6) (N := none) #[true, true, true, true, true, true, true, false] rfl rfl (by kernel_rfl) (by decide) (fun K' hK => ?_)
  refine skip_ (w1 := ?_) (by rfl) rfl ?_ ?_
  rotate_left
  · go_simp
    rfl
  refine hK.out _ _ ?_
  clear hK K'
  refine pure_ (i := 7) (N := some 8) (v := ?_) (a' := ?_) #[true, true, true, true, true, true, true, true] rfl rfl (by kernel_rfl) (fun _ _ _ h => h) (Or.inl ⟨by rfl, ?_⟩) ?_ ?_
  rotate_left
  · intro w_
    go_simp
    with_reducible rfl
  rotate_left
  · simp only [Act.put, List.setIfInBounds_toArray, List.set_cons_zero, List.set_cons_succ, i64_w, i32_w]
    rfl
  refine done_ (by kernel_rfl) ?_
  have hPF := Aside0.mk ((HPF.out.below hHeld.2.2).set (p := ⟨w.heap.size + 1 + 1, 0, none⟩) (HSL.out 2 (by omega)) (.slice A D.length cp))
  have hBF := Aside0.mk ((HBF.out.trans (hHeld.2.2.mono (Nat.le_trans HB.out HBF.out.size))).setCell (p := ⟨w.heap.size + 1 + 1, 0, none⟩) (show B ≤ w.heap.size + 1 + 1 by have := HB.out; omega) (.slice A D.length cp))
  have hKF := Aside0.mk (fun q (hq : E q) => (Below.heap_setCell w10 ⟨w.heap.size + 1 + 1, 0, none⟩ (.slice A D.length cp) q (by have := HEE.out q hq; dsimp only; omega)).trans ((hHeld.2.2.block q (Nat.lt_of_lt_of_le (HEE.out q hq) HBF.out.size)).trans (HKF.out q hq)))
  have hRF := Aside0.mk (blk_put hHeld.2.1 0 (.slice A D.length cp) rfl)
  clear hHeld hc3 hf3
  go_wp2_with fail
  refine bodyPost_ret (v := .tuple #[.pointer (some ⟨s', 0, none⟩), .agg #[.slice A D.length cp], .bool true]) ?_ rfl ?_
  · have z0 := (blk_cell hRF.out 0).trans rfl
    simp [results, Try.f30, Try.results30, go_sem, z0]
  exact ⟨s', _, D, rfl, hPF.out.mono (fun _ e => .inr e), HR.out.more (Nat.le_succ m), hBF.out, hKF.out⟩
theorem done_is (B : Nat) (a : S29) (s : Nat) (A : Option Addr) (cp : Nat) (D : List (Fr × S94)) (m : Nat) (w : World) (hB : B ≤ w.heap.size) (E : Nat → Prop) (hE : ∀ k, E k → k < w.heap.size) (h : PE E B w s (.slice A D.length cp) (D.map Prod.fst) (D.map Prod.snd)) (hr : Rel m D) (hm : m ≤ 800) (hd : 0 ≤ a.f0) :
    Calls Try.prog 30 #[.pointer (some ⟨s, 0, none⟩), .agg #[.slice A D.length cp], .agg #[.int .u8 a.f0, .int .i64 a.f1, .int .i64 a.f2.f0, .string a.f2.f1, .int .i64 a.f2.f2]] w fun e w' => ∃ s' v' D', e = .returned (.tuple #[.pointer (some ⟨s', 0, none⟩), .agg #[v'], .bool true]) ∧ PE E B w' s' v' (D'.map Prod.fst) (D'.map Prod.snd) ∧ Rel (m + 1) D' ∧ Below B w w' ∧ ∀ k, E k → w'.heap[k]? = w.heap[k]? := by
  have hc : a.f0.tmod 8 = 0 ∨ a.f0.tmod 8 = 1 ∨ a.f0.tmod 8 = 2 ∨ a.f0.tmod 8 = 3 ∨ a.f0.tmod 8 = 4 ∨ a.f0.tmod 8 = 5 ∨ a.f0.tmod 8 = 6 ∨ a.f0.tmod 8 = 7 := by
    rw [Int.tmod_eq_emod_of_nonneg hd]
    omega
  rcases hc with e | e | e | e | e | e | e | e
  · exact done_0 B a.f0 a.f1 a.f2 s A cp D m w hB E hE h hr hm e
  · exact done_1 B a.f0 a.f1 a.f2 s A cp D m w hB E hE h hr hm e
  · exact done_2 B a.f0 a.f1 a.f2 s A cp D m w hB E hE h hr hm e
  · exact done_3 B a.f0 a.f1 a.f2 s A cp D m w hB E hE h hr hm e
  · exact done_4 B a.f0 a.f1 a.f2 s A cp D m w hB E hE h hr hm e
  · exact done_5 B a.f0 a.f1 a.f2 s A cp D m w hB E hE h hr hm e
  · exact done_6 B a.f0 a.f1 a.f2 s A cp D m w hB E hE h hr hm e
  · exact done_7 B a.f0 a.f1 a.f2 s A cp D m w hB E hE h hr hm e
end Go.Proofs.Ytfahpihbbkkngaa.P

-- from the text Hr
namespace Go.Proofs.Ytfahpihbbkkngaa.P
open Go.RowKit Go.Proofs.YtfahpihbbkkngaaW.PrintWords Go.Proofs.YtfahpihbbkkngaaW.PrintLast Go.Proofs.YtfahpihbbkkngaaW.PrintMore
set_option linter.unusedVariables false
set_option linter.unusedSimpArgs false
abbrev nm0 : ByteArray := ⟨#[]⟩
def u1 : S24 := ⟨19, nm0, 1⟩
def u2 : S24 := ⟨19, nm0, 2⟩
def f1 : Fr := ⟨[u1], 0, nm0, 0⟩
def f2 : Fr := ⟨[u2], 0, nm0, 0⟩
def f3 : Fr := ⟨[], 19, nm0, 1⟩
theorem right_19 : rightB 19 nm0 = true := by kernel_rfl
theorem hit_1 : hit 19 nm0 u1 = true := by simp [hit, u1]
theorem hit_2 : hit 19 nm0 u2 = true := by simp [hit, u2]
theorem meet_1 : meetV (findL 19 nm0 [f1, f2] (fromL 19 nm0 (([f1, f2].length : Int) - 1) [f1, f2] + 1).toNat) = .tuple #[.agg #[.int .i64 19, .string nm0, .int .i64 2], .int .i64 1, .int .i64 0] := by
  have e1 : fromL 19 nm0 (([f1, f2].length : Int) - 1) [f1, f2] = 1 := by simp [fromL, runs, f1, f2]
  rw [e1]
  have e2 : idxU 19 nm0 f2.us 0 = some 0 := by simp [idxU, f2, hit_2]
  have e3 : findL 19 nm0 [f1, f2] 2 = some (1, u2) := by simp [findL, e2]; rfl
  show meetV (findL 19 nm0 [f1, f2] 2) = _
  rw [e3]
  rfl
theorem meet_2 : meetV (findL 19 nm0 [f1, f2, f3] (fromL 19 nm0 (([f1, f2, f3].length : Int) - 1) [f1, f2, f3] + 1).toNat) = .tuple #[.agg #[.int .i64 19, .string nm0, .int .i64 1], .int .i64 0, .int .i64 0] := by
  have e1 : fromL 19 nm0 (([f1, f2, f3].length : Int) - 1) [f1, f2, f3] = 0 := by simp [fromL, runs, f1, f2, f3]
  rw [e1]
  have e2 : idxU 19 nm0 f1.us 0 = some 0 := by simp [idxU, f1, hit_1]
  have e3 : findL 19 nm0 [f1, f2, f3] 1 = some (0, u1) := by simp [findL, e2]; rfl
  show meetV (findL 19 nm0 [f1, f2, f3] 1) = _
  rw [e3]
  rfl
theorem bl_ok (L : List Fr) (h : L = [f1, f2] ∨ L = [f1, f2, f3]) : (∀ f ∈ L, 0 ≤ f.bl ∧ f.bl ≤ 1000) ∧ ∀ f ∈ L, f.us.length ≤ 1000 := by
  rcases h with rfl | rfl <;> simp [f1, f2, f3]
theorem below_of {F : Nat → Prop} {w a b : World} (hF : ∀ k, F k → w.heap.size ≤ k) (h : Below w.heap.size w a) (ht : Turn F a b) : Below w.heap.size w b := h.trans (ht.below hF h.size)
set_option maxRecDepth 100000 in
set_option maxHeartbeats 8000000 in
theorem awake_is (w : World) : Calls Try.prog 10 #[] w fun e w' => e = .returned (.bool true) ∧ Below w.heap.size w w' := by
  have hF : ∀ k, (fun k => w.heap.size ≤ k) k → w.heap.size ≤ k := fun k h => h
  go_enter Try.func10, Try.ntmps10
  go_wp2_with fail
  refine (new_is _).mono ?_
  rintro e w1 ⟨s, rfl, hst, hb⟩
  have S1 := Aside0.mk (St.mono (G := fun k => w.heap.size ≤ k) hst (fun k hk => hk.elim (fun e => e.elim) (fun e => e.1)))
  have B1 := Aside0.mk hb
  clear hst hb
  go_wp2_with fail
  refine (on_is s u1 [] fr0 _ w1 right_19 (by decide) S1.out (by simp [fr0]) (by simp)).mono ?_
  rintro e w2 ⟨rfl, hst, ht⟩
  have S2 := Aside0.mk (show St w2 s [f1] (fun k => w.heap.size ≤ k) from hst.mono (fun k hk => hk.elim id (fun e => Nat.le_trans B1.out.size e.1)))
  have B2 := Aside0.mk (below_of hF B1.out ht)
  clear hst ht
  go_wp2_with fail
  refine (push_is s [f1] _ w2 S2.out (by simp)).mono ?_
  rintro e w3 ⟨rfl, hst, ht⟩
  have S3 := Aside0.mk (show St w3 s [f1, fr0] (fun k => w.heap.size ≤ k) from hst.mono (fun k hk => hk.elim id (fun e => Nat.le_trans B2.out.size e.1)))
  have B3 := Aside0.mk (below_of hF B2.out ht)
  clear hst ht
  go_wp2_with fail
  refine (on_is s u2 [f1] fr0 _ w3 right_19 (by decide) S3.out (by simp [fr0]) (by simp)).mono ?_
  rintro e w4 ⟨rfl, hst, ht⟩
  have S4 := Aside0.mk (show St w4 s [f1, f2] (fun k => w.heap.size ≤ k) from hst.mono (fun k hk => hk.elim id (fun e => Nat.le_trans B3.out.size e.1)))
  have B4 := Aside0.mk (below_of hF B3.out ht)
  clear hst ht
  go_wp2_with fail
  refine (meet_is s 19 nm0 [f1, f2] _ w4 right_19 S4.out (by simp) (bl_ok _ (.inl rfl)).1 (bl_ok _ (.inl rfl)).2).mono ?_
  rw [meet_1]
  rintro e w5 ⟨rfl, hb⟩
  have S5 := Aside0.mk (S4.out.below hb)
  have B5 := Aside0.mk (B4.out.trans (hb.mono B4.out.size))
  clear hb
  go_wp2_with fail
  have HX := Aside0.mk (blk_new w5 (.cells #[.int .i64 19, .string nm0, .int .i64 2] 24 (0, 0)))
  have hbx := (Below.refl w5.heap.size w5).alloc (Nat.le_refl _) (.cells #[.int .i64 19, .string nm0, .int .i64 2] 24 (0, 0))
  have S6 := Aside0.mk (S5.out.cut.below hbx)
  have B6 := Aside0.mk (B5.out.trans (hbx.mono B5.out.size))
  clear hbx
  refine (begin_is s 19 nm0 1 [f1, f2] _ _ right_19 S6.out (by simp) (by simp) (by simp [f2])).mono ?_
  rintro e w6 ⟨_, hok⟩
  obtain ⟨rfl, hst, ht⟩ := hok (by simp [idxU, f2, hit_2])
  have S7 := Aside0.mk (show St w6 s [f1, f2, f3] (fun k => w.heap.size ≤ k) from hst.mono (fun k hk => hk.elim (fun e => e.1) (fun e => Nat.le_trans B6.out.size e.1)))
  have B7 := Aside0.mk (below_of (fun k hk => hk.1) B6.out ht)
  have HX := Aside0.mk ((ht.block _ (blk_lt HX.out) (fun e => absurd e.2 (Nat.lt_irrefl _))).trans HX.out)
  clear hst ht hok
  go_wp2_with fail
  refine (meet_is s 19 nm0 [f1, f2, f3] _ w6 right_19 S7.out (by simp) (bl_ok _ (.inr rfl)).1 (bl_ok _ (.inr rfl)).2).mono ?_
  rw [meet_2]
  rintro e w7 ⟨rfl, hb⟩
  have B8 := Aside0.mk (B7.out.trans (hb.mono B7.out.size))
  have HX := Aside0.mk (blk_below HX.out hb)
  have hx0 := (blk_cell HX.out 0).trans rfl
  have hx1 := (blk_cell HX.out 1).trans rfl
  have hx2 := (blk_cell HX.out 2).trans rfl
  have hg0 := blk_frozen HX.out 0
  have hg1 := blk_frozen HX.out 1
  have hg2 := blk_frozen HX.out 2
  clear hb
  go_wp2_with fail
  refine (cond_Word.calls 4 ⟨#[83, 73, 90, 69]⟩ _ (by kernel_rfl)).mono ?_
  rintro e w8 ⟨rfl, hb⟩
  go_wp2_with fail
  go_ret
  refine ⟨rfl, ?_⟩
  have h5 : w.heap.size ≤ w5.heap.size := B5.out.size
  have hs := ((B8.out.setCell (p := ⟨w5.heap.size, 0, none⟩) h5 (.int .i64 19)).setCell (p := ⟨w5.heap.size, 1, none⟩) h5 (.string nm0)).setCell (p := ⟨w5.heap.size, 2, none⟩) h5 (.int .i64 1)
  exact hs.trans (hb.mono hs.size)
end Go.Proofs.Ytfahpihbbkkngaa.P

-- from the text Rj
namespace Go.Proofs.Ytfahpihbbkkngaa.P
open Go.RowKit Go.Proofs.YtfahpihbbkkngaaW.PrintWords Go.Proofs.YtfahpihbbkkngaaW.PrintLast Go.Proofs.YtfahpihbbkkngaaW.PrintMore
set_option linter.unusedVariables false
set_option linter.unusedSimpArgs false
def TS (B : Nat) (w : World) (s s2 : Nat) (L L2 : List Fr) : Prop := ∃ F F2, St w s L F ∧ St w s2 L2 F2 ∧ (∀ q, F q → ¬ F2 q) ∧ ∀ q, F q → B ≤ q
theorem TS.below {B : Nat} {w w' : World} {s s2 : Nat} {L L2 : List Fr} (h : TS B w s s2 L L2) (hb : Below w.heap.size w w') : TS B w' s s2 L L2 := by
  obtain ⟨F, F2, h1, h2, h3, h4⟩ := h
  exact ⟨F, F2, h1.below hb, h2.below hb, h3, h4⟩
theorem TS.code {B : Nat} {w : World} {s s2 : Nat} {L L' L2 : List Fr} {f : FuncId} {args : Nat → Array Value} {e : Int} (h : TS B w s s2 L L2) (ho : CodeOp f args L L' e) (hB : B ≤ w.heap.size) :
    Calls Try.prog f (args s) w fun x w' => x = .returned (.int .i64 e) ∧ TS B w' s s2 L' L2 ∧ Below B w w' := by
  obtain ⟨F, F2, h1, h2, h3, h4⟩ := h
  refine (ho s (fun k => F k ∧ k < w.heap.size) w h1.cut).mono ?_
  rintro x w' ⟨rfl, hs, ht⟩
  refine ⟨rfl, ⟨_, _, hs, h2.cut.turn ht (fun k hk hf => h3 k hf.1 hk.1), ?_, ?_⟩, ht.below (fun k hk => h4 k hk.1) hB⟩
  · rintro k (hk | hk) hg
    · exact h3 k hk.1 hg.1
    · have := hg.2
      omega
  · rintro k (hk | hk)
    · exact h4 k hk.1
    · omega
end Go.Proofs.Ytfahpihbbkkngaa.P

-- from the text Pp
namespace Go.Proofs.Ytfahpihbbkkngaa.P
open Go.RowKit Go.Proofs.YtfahpihbbkkngaaW.PrintWords Go.Proofs.YtfahpihbbkkngaaW.PrintLast Go.Proofs.YtfahpihbbkkngaaW.PrintMore
set_option linter.unusedVariables false
set_option linter.unusedSimpArgs false
attribute [local go_sem high] eqA24
theorem act_pos {l : List S29} (h : ∀ y ∈ l, Wf29 y) (i : Nat) : 0 ≤ (rd_T29 l (i : Int)).f0 := by
  unfold rd_T29
  rw [Int.toNat_natCast, List.getD_eq_getElem?_getD]
  cases hi : l[i]? with
  | none => exact Int.le_refl 0
  | some y =>
    have := (h y (List.mem_of_getElem? hi)).1
    simp [Lit.wf] at this
    exact this.1
end Go.Proofs.Ytfahpihbbkkngaa.P

-- from the text Py
namespace Go.Proofs.Ytfahpihbbkkngaa.P
open Go.RowKit Go.Proofs.YtfahpihbbkkngaaW.PrintWords Go.Proofs.YtfahpihbbkkngaaW.PrintLast Go.Proofs.YtfahpihbbkkngaaW.PrintMore
set_option linter.unusedVariables false
set_option linter.unusedSimpArgs false
attribute [local go_sem high] eqA24
set_option maxRecDepth 100000 in
set_option maxHeartbeats 8000000 in
theorem CondPlays_walk (A1 : Option Addr) (c1 : Nat) (l : List S29) (w : World) (hr1 : Kd.C k29 w A1 l.length l) (hc1 : l.length ≤ c1) (_ : l.length * 48 ≤ 140737488351232) (hw1 : ∀ y ∈ l, Wf29 y) :
    Calls Try.prog 8 #[.slice A1 l.length c1] w fun e w' => e = .returned (.bool true) ∧ Below w.heap.size w w' := by
  have HL := Aside0.mk hr1
  have HD0 := Aside0.mk (fun i => act_pos hw1 i)
  have HA := Aside0.mk (fun W => awake_is W)
  clear hr1 hw1
  go_enter Try.func8, Try.ntmps8
  go_wp2_with fail
  refine (HA.out _).mono ?_
  rintro e w1 ⟨rfl, hb⟩
  have HB1 := Aside0.mk hb
  clear hb HA
  by_cases hl : 150 < l.length
  · have d1 : decide ((l.length : Int) > 150) = true := decide_eq_true (by omega)
    go_wp2_with fail
    go_ret
    exact ⟨rfl, HB1.out⟩
  have d1 : decide ((l.length : Int) > 150) = false := decide_eq_false (by omega)
  go_wp2_with fail
  refine (new_is w1).mono ?_
  rintro e w2 ⟨s, rfl, hst, hb⟩
  have HS2 := Aside0.mk hst
  have HB2 := Aside0.mk hb
  clear hst hb
  go_wp2_with fail
  refine (rnew_is w2).mono ?_
  rintro e w3 ⟨v, rfl, hrd, hb⟩
  obtain ⟨pv, cv, rfl, _, _⟩ := hrd.slice
  have hP : PE (fun _ => False) w1.heap.size w3 s (.slice pv [z94].length cv) [fr0] [z94] :=
    ⟨_, _, HS2.out.below hb, hrd, fun q hq hg => by rcases hq with hq | hq <;> rcases hg with hg | hg <;> first | exact hq | exact hg | omega, fun q hq => by rcases hq with hq | hq; exact hq.elim; exact hq.1, fun _ _ e => e, fun _ _ e => e⟩
  have HB3 := Aside0.mk (HB2.out.trans (hb.mono HB2.out.size))
  have hal := (Below.refl w3.heap.size w3).alloc (Nat.le_refl _) (.cells #[.slice pv [z94].length cv] 55 (0, 0))
  have HP3 := Aside0.mk ((hP.fresh (E' := fun q => q = w3.heap.size) (fun q hq => .inr (Nat.le_of_eq hq.symm))).below hal)
  have HX3 := Aside0.mk (blk_new w3 (.cells #[.slice pv [z94].length cv] 55 (0, 0)))
  have HB4 := Aside0.mk (HB3.out.trans (hal.mono HB3.out.size))
  clear hP hrd hb hal HS2
  have HBX := Aside0.mk (show w1.heap.size ≤ w3.heap.size by have := HB3.out.size; exact this)
  have hbxlt := HB4.out.size
  have HRL := Aside0.mk rel_new
  go_wp2_with fail
  generalize hwx : w3.alloc (.cells #[.slice pv [z94].length cv] 55 (0, 0)) = wx at *
  clear hwx
  generalize w3.heap.size = bx at *
  clear hbxlt
  refine (alike_is (fun q => q = bx) w1.heap.size s pv cv [(fr0, z94)] 0 ⟨19, _, 0⟩ wx HP3.out HRL.out (by omega)).mono ?_
  rintro e w4 ⟨rfl, hb⟩
  have HP4 := Aside0.mk (HP3.out.below hb)
  have HX4 := Aside0.mk (blk_below HX3.out hb)
  have HB5 := Aside0.mk (HB4.out.trans (hb.mono HB4.out.size))
  clear hb HP3 HX3 HB4 HB2 HB3
  go_wp2_with fail
  go_loopw [3, 5] (fun p q wr => ∃ (i s : Nat) (A : Option Addr) (cp : Nat) (D : List (Fr × S94)), i ≤ l.length ∧ p = .pointer (some ⟨s, 0, none⟩) ∧ q = .int .i64 (i : Int) ∧ Aside0 (PE (fun q => q = bx) w1.heap.size wr s (.slice A D.length cp) (D.map Prod.fst) (D.map Prod.snd)) ∧ Aside0 (Rel i D) ∧ Aside0 (wr.heap[bx]? = some (.cells #[.slice A D.length cp] 55 (0, 0))) ∧ Aside0 (Below w1.heap.size w1 wr)) (fun _ q _ => l.length - (intOf q).toNat)
  case atStart => exact ⟨0, s, pv, cv, [(fr0, z94)], by omega, rfl, rfl, HP4, HRL, HX4, HB5⟩
  case round =>
    clear HP4 HRL HX4 HB5
    obtain ⟨i, s, A, cp, D, hi, rfl, rfl, HP, HR, HX, HB⟩ := hrel
    by_cases hlt : i < l.length
    · have hlt' : (i : Int) < (l.length : Int) := by omega
      have h0 : (0 : Int) ≤ (i : Int) := by omega
      have hwi : wrap64 ((i : Int) + 1) = ((i + 1 : Nat) : Int) := by unfold wrap64; omega
      obtain ⟨ad, rfl, x0, x1, x2, x3, x4⟩ := at_T29 HL.out (i : Int) h0 hlt'
      simp only [Int.toNat_natCast] at x0 x1 x2 x3 x4
      have hac := HD0.out i
      generalize rd_T29 l (i : Int) = a at *
      obtain ⟨f0, f1, ⟨g0, g1, g2⟩⟩ := a
      dsimp only at x0 x1 x2 x3 x4 hac
      have X0 := Aside0.mk (pw_cell_below HB1.out x0)
      have X1 := Aside0.mk (pw_cell_below HB1.out x1)
      have X2 := Aside0.mk (pw_cell_below HB1.out x2)
      have X3 := Aside0.mk (pw_cell_below HB1.out x3)
      have X4 := Aside0.mk (pw_cell_below HB1.out x4)
      clear x0 x1 x2 x3 x4
      go_wp2_with fail
      refine start_ (n := 14) (S := fun W => W.heap[bx]? = some (.cells #[.slice A D.length cp] 55 (0, 0)) ∧ Below w1.heap.size w1 W) (ds := [12]) #[false, false, false, false, false, false, false, false, false, false, false, false, false, false] (by kernel_rfl) rfl rfl ⟨blk_drew HX.out, below_drew HB.out⟩ (fun hHeld => ?_)
      have HPd := Aside0.mk (HP.out.below (below_drew (Below.refl _ _)))
      have HLTd := Aside0.mk (show ∀ q, q = bx → q < wr.drew.heap.size from fun q hq => by subst hq; exact blk_lt hHeld.1)
      have HBd := Aside0.mk (below_drew HB.out)
      clear HP HX HB
      generalize wr.drew = w10 at hHeld HPd HLTd HBd ⊢
      refine pure_ (i := 0) (N := some 26) (v := ?_) (a' := ?_) #[true, false, false, false, false, false, false, false, false, false, false, false, false, false] rfl rfl (by kernel_rfl) (fun _ _ _ h => h) (Or.inl ⟨by rfl, ?_⟩) ?_ ?_
      rotate_left
      · intro w_
        go_simp
        with_reducible rfl
      rotate_left
      · simp only [Act.put, List.setIfInBounds_toArray, List.set_cons_zero, List.set_cons_succ, i64_w, i32_w]
        rfl
      refine take_ (i := 1) (N := some 27) (v := ?_) (a' := ?_) #[true, true, false, false, false, false, false, false, false, false, false, false, false, false] rfl rfl (by kernel_rfl) (fun _ _ _ h => h) (Or.inl ⟨by rfl, ?_⟩) hHeld ?_ ?_
      rotate_left
      · rintro w_ ⟨hs_, _⟩
        have s0 := (blk_cell hs_ 0).trans rfl
        go_simp
        with_reducible rfl
      rotate_left
      · simp only [Act.put, List.setIfInBounds_toArray, List.set_cons_zero, List.set_cons_succ, i64_w, i32_w]
        rfl
      refine pure_ (i := 2) (N := some 28) (v := ?_) (a' := ?_) #[true, true, true, false, false, false, false, false, false, false, false, false, false, false] rfl rfl (by kernel_rfl) (fun _ _ _ h => h) (Or.inl ⟨by rfl, ?_⟩) ?_ ?_
      rotate_left
      · intro w_
        go_simp
        with_reducible rfl
      rotate_left
      · simp only [Act.put, List.setIfInBounds_toArray, List.set_cons_zero, List.set_cons_succ, i64_w, i32_w]
        rfl
      refine pure_ (i := 3) (N := some 29) (v := ?_) (a' := ?_) #[true, true, true, true, false, false, false, false, false, false, false, false, false, false] rfl rfl (by kernel_rfl) (fun _ _ _ h => h) (Or.inl ⟨by rfl, ?_⟩) ?_ ?_
      rotate_left
      · intro w_
        go_simp
        with_reducible rfl
      rotate_left
      · simp only [Act.put, List.setIfInBounds_toArray, List.set_cons_zero, List.set_cons_succ, i64_w, i32_w]
        rfl
      refine pure_ (i := 4) (N := some 30) (v := ?_) (a' := ?_) #[true, true, true, true, true, false, false, false, false, false, false, false, false, false] rfl rfl (by kernel_rfl) (fun _ _ _ h => h) (Or.inl ⟨by rfl, ?_⟩) ?_ ?_
      rotate_left
      · intro w_
        go_simp
        with_reducible rfl
      rotate_left
      · simp only [Act.put, List.setIfInBounds_toArray, List.set_cons_zero, List.set_cons_succ, i64_w, i32_w]
        rfl
      refine take_ (i := 5) (N := some 31) (v := ?_) (a' := ?_) #[true, true, true, true, true, true, false, false, false, false, false, false, false, false] rfl rfl (by kernel_rfl) (fun _ _ _ h => h) (Or.inl ⟨by rfl, ?_⟩) hHeld ?_ ?_
      rotate_left
      · rintro w_ ⟨_, hs_⟩
        have s0 := pw_cell_below hs_ X0.out
        have s1 := pw_cell_below hs_ X1.out
        have s2 := pw_cell_below hs_ X2.out
        have s3 := pw_cell_below hs_ X3.out
        have s4 := pw_cell_below hs_ X4.out
        go_simp
        with_reducible rfl
      rotate_left
      · simp only [Act.put, List.setIfInBounds_toArray, List.set_cons_zero, List.set_cons_succ, i64_w, i32_w]
        rfl
      refine one_ (i := 6) (N := some 32) #[true, true, true, true, true, true, true, false, false, false, false, false, false, false] rfl rfl (by kernel_rfl) (by decide) (fun K' hK => ?_)
      refine goes_ Try.func30 (by kernel_rfl) rfl #[.pointer (some ⟨s, 0, none⟩), .agg #[.slice A D.length cp], .agg #[.int .u8 f0, .int .i64 f1, .int .i64 g0, .string g1, .int .i64 g2]] (by rfl) rfl rfl (by (try simp only [List.map_toArray, List.map_cons, List.map_nil]); first | done | rfl) ?_
      refine (done_is w1.heap.size ⟨f0, f1, ⟨g0, g1, g2⟩⟩ s A cp D i w10 HBd.out.size (fun q => q = bx) HLTd.out HPd.out HR.out (by omega) hac).mono ?_
      rintro e w11 ⟨s', v', D', rfl, hp, hrel', hb, hk⟩
      obtain ⟨A', cp', hv'⟩ : ∃ A' cp', v' = .slice A' D'.length cp' := by
        obtain ⟨_, _, _, h2, _⟩ := hp
        obtain ⟨A', cp', e, _, _⟩ := h2.slice
        exact ⟨A', cp', by rw [e]; simp⟩
      subst hv'
      have hx := (hk bx rfl).trans hHeld.1
      have hbb := HBd.out.trans hb
      refine ⟨_, rfl, ?_⟩
      refine hK.out _ _ ⟨hx, hbb⟩ (fun hHeld => ?_)
      clear hK K' hb hk HPd HLTd HBd
      refine norm_ (a' := ?_) ?_ ?_
      rotate_left
      · show Act.put _ (some 32) _ = _
        simp only [Act.put, List.setIfInBounds_toArray, List.set_cons_zero, List.set_cons_succ, i64_w, i32_w]
        rfl
      refine pure_ (i := 7) (N := some 25) (v := ?_) (a' := ?_) #[true, true, true, true, true, true, true, true, false, false, false, false, false, false] rfl rfl (by kernel_rfl) (fun _ _ _ h => h) (Or.inl ⟨by rfl, ?_⟩) ?_ ?_
      rotate_left
      · intro w_
        go_simp
        with_reducible rfl
      rotate_left
      · simp only [Act.put, List.setIfInBounds_toArray, List.set_cons_zero, List.set_cons_succ, i64_w, i32_w]
        rfl
      refine pure_ (i := 8) (N := some 33) (v := ?_) (a' := ?_) #[true, true, true, true, true, true, true, true, true, false, false, false, false, false] rfl rfl (by kernel_rfl) (fun _ _ _ h => h) (Or.inl ⟨by rfl, ?_⟩) ?_ ?_
      rotate_left
      · intro w_
        go_simp
        with_reducible rfl
      rotate_left
      · simp only [Act.put, List.setIfInBounds_toArray, List.set_cons_zero, List.set_cons_succ, i64_w, i32_w]
        rfl
      refine pure_ (i := 9) (N := some 34) (v := ?_) (a' := ?_) #[true, true, true, true, true, true, true, true, true, true, false, false, false, false] rfl rfl (by kernel_rfl) (fun _ _ _ h => h) (Or.inl ⟨by rfl, ?_⟩) ?_ ?_
      rotate_left
      · intro w_
        go_simp
        with_reducible rfl
      rotate_left
      · simp only [Act.put, List.setIfInBounds_toArray, List.set_cons_zero, List.set_cons_succ, i64_w, i32_w]
        rfl
      refine pure_ (i := 10) (N := some 35) (v := ?_) (a' := ?_) #[true, true, true, true, true, true, true, true, true, true, true, false, false, false] rfl rfl (by kernel_rfl) (fun _ _ _ h => h) (Or.inl ⟨by rfl, ?_⟩) ?_ ?_
      rotate_left
      · intro w_
        go_simp
        with_reducible rfl
      rotate_left
      · simp only [Act.put, List.setIfInBounds_toArray, List.set_cons_zero, List.set_cons_succ, i64_w, i32_w]
        rfl
      refine pure_ (i := 11) (N := some 3) (v := ?_) (a' := ?_) #[true, true, true, true, true, true, true, true, true, true, true, true, false, false] rfl rfl (by kernel_rfl) (fun _ _ _ h => h) (Or.inl ⟨by rfl, ?_⟩) ?_ ?_
      rotate_left
      · intro w_
        go_simp
        with_reducible rfl
      rotate_left
      · simp only [Act.put, List.setIfInBounds_toArray, List.set_cons_zero, List.set_cons_succ, i64_w, i32_w]
        rfl
      have hc3 := (blk_cell hx 0).trans rfl
      have hf3 := blk_frozen hx 0
      refine last_ (i := 12) (N := none) #[true, true, true, true, true, true, true, true, true, true, true, true, true, false] rfl rfl (by kernel_rfl) (by decide) (fun K' hK => ?_)
      refine skip_ (w1 := ?_) (by rfl) rfl ?_ ?_
      rotate_left
      · go_simp
        rfl
      refine hK.out _ _ ?_
      clear hK K' hHeld
      refine pure_ (i := 13) (N := some 6) (v := ?_) (a' := ?_) #[true, true, true, true, true, true, true, true, true, true, true, true, true, true] rfl rfl (by kernel_rfl) (fun _ _ _ h => h) (Or.inl ⟨by rfl, ?_⟩) ?_ ?_
      rotate_left
      · intro w_
        go_simp
        with_reducible rfl
      rotate_left
      · simp only [Act.put, List.setIfInBounds_toArray, List.set_cons_zero, List.set_cons_succ, i64_w, i32_w]
        rfl
      refine done_ (by kernel_rfl) ?_
      have HP5 := Aside0.mk (hp.set (p := ⟨bx, 0, none⟩) rfl (.slice A' D'.length cp'))
      have HX5 := Aside0.mk (blk_put hx 0 (.slice A' D'.length cp') rfl)
      have HB5 := Aside0.mk (hbb.setCell (p := ⟨bx, 0, none⟩) HBX.out (.slice A' D'.length cp'))
      have HR5 := Aside0.mk hrel'
      clear hp hx hbb hc3 hf3 hrel' HR
      go_wp2_with fail
      generalize (w11.setCell ⟨bx, 0, none⟩ (.slice A' D'.length cp')) = w5 at HP5 HX5 HB5 ⊢
      refine start_ (n := 13) (S := fun W => W.heap[bx]? = some (.cells #[.slice A' D'.length cp'] 55 (0, 0)) ∧ Below w1.heap.size w1 W) (ds := []) #[false, false, false, false, false, false, false, false, false, false, false, false, false] (by kernel_rfl) rfl rfl ⟨blk_drew HX5.out, below_drew HB5.out⟩ (fun hHeld => ?_)
      have HPd := Aside0.mk (HP5.out.below (below_drew (Below.refl _ _)))
      clear HP5 HX5 HB5
      generalize w5.drew = w12 at hHeld HPd ⊢
      refine pure_ (i := 0) (N := some 36) (v := ?_) (a' := ?_) #[true, false, false, false, false, false, false, false, false, false, false, false, false] rfl rfl (by kernel_rfl) (fun _ _ _ h => h) (Or.inl ⟨by rfl, ?_⟩) ?_ ?_
      rotate_left
      · intro w_
        go_simp
        with_reducible rfl
      rotate_left
      · simp only [Act.put, List.setIfInBounds_toArray, List.set_cons_zero, List.set_cons_succ, i64_w, i32_w]
        rfl
      refine pure_ (i := 1) (N := some 37) (v := ?_) (a' := ?_) #[true, true, false, false, false, false, false, false, false, false, false, false, false] rfl rfl (by kernel_rfl) (fun _ _ _ h => h) (Or.inl ⟨by rfl, ?_⟩) ?_ ?_
      rotate_left
      · intro w_
        go_simp
        with_reducible rfl
      rotate_left
      · simp only [Act.put, List.setIfInBounds_toArray, List.set_cons_zero, List.set_cons_succ, i64_w, i32_w]
        rfl
      refine pure_ (i := 2) (N := some 38) (v := ?_) (a' := ?_) #[true, true, true, false, false, false, false, false, false, false, false, false, false] rfl rfl (by kernel_rfl) (fun _ _ _ h => h) (Or.inl ⟨by rfl, ?_⟩) ?_ ?_
      rotate_left
      · intro w_
        go_simp
        with_reducible rfl
      rotate_left
      · simp only [Act.put, List.setIfInBounds_toArray, List.set_cons_zero, List.set_cons_succ, i64_w, i32_w]
        rfl
      refine pure_ (i := 3) (N := some 39) (v := ?_) (a' := ?_) #[true, true, true, true, false, false, false, false, false, false, false, false, false] rfl rfl (by kernel_rfl) (fun _ _ _ h => h) (Or.inl ⟨by rfl, ?_⟩) ?_ ?_
      rotate_left
      · intro w_
        go_simp
        with_reducible rfl
      rotate_left
      · simp only [Act.put, List.setIfInBounds_toArray, List.set_cons_zero, List.set_cons_succ, i64_w, i32_w]
        rfl
      refine take_ (i := 4) (N := some 40) (v := ?_) (a' := ?_) #[true, true, true, true, true, false, false, false, false, false, false, false, false] rfl rfl (by kernel_rfl) (fun _ _ _ h => h) (Or.inl ⟨by rfl, ?_⟩) hHeld ?_ ?_
      rotate_left
      · rintro w_ ⟨hs_, _⟩
        have s0 := (blk_cell hs_ 0).trans rfl
        go_simp
        with_reducible rfl
      rotate_left
      · simp only [Act.put, List.setIfInBounds_toArray, List.set_cons_zero, List.set_cons_succ, i64_w, i32_w]
        rfl
      refine pure_ (i := 5) (N := some 41) (v := ?_) (a' := ?_) #[true, true, true, true, true, true, false, false, false, false, false, false, false] rfl rfl (by kernel_rfl) (fun _ _ _ h => h) (Or.inl ⟨by rfl, ?_⟩) ?_ ?_
      rotate_left
      · intro w_
        go_simp
        with_reducible rfl
      rotate_left
      · simp only [Act.put, List.setIfInBounds_toArray, List.set_cons_zero, List.set_cons_succ, i64_w, i32_w]
        rfl
      refine pure_ (i := 6) (N := some 42) (v := ?_) (a' := ?_) #[true, true, true, true, true, true, true, false, false, false, false, false, false] rfl rfl (by kernel_rfl) (fun _ _ _ h => h) (Or.inl ⟨by rfl, ?_⟩) ?_ ?_
      rotate_left
      · intro w_
        go_simp
        with_reducible rfl
      rotate_left
      · simp only [Act.put, List.setIfInBounds_toArray, List.set_cons_zero, List.set_cons_succ, i64_w, i32_w]
        rfl
      refine pure_ (i := 7) (N := some 43) (v := ?_) (a' := ?_) #[true, true, true, true, true, true, true, true, false, false, false, false, false] rfl rfl (by kernel_rfl) (fun _ _ _ h => h) (Or.inl ⟨by rfl, ?_⟩) ?_ ?_
      rotate_left
      · intro w_
        go_simp
        with_reducible rfl
      rotate_left
      · simp only [Act.put, List.setIfInBounds_toArray, List.set_cons_zero, List.set_cons_succ, i64_w, i32_w]
        rfl
      refine pure_ (i := 8) (N := some 44) (v := ?_) (a' := ?_) #[true, true, true, true, true, true, true, true, true, false, false, false, false] rfl rfl (by kernel_rfl) (fun _ _ _ h => h) (Or.inl ⟨by rfl, ?_⟩) ?_ ?_
      rotate_left
      · intro w_
        go_simp
        with_reducible rfl
      rotate_left
      · simp only [Act.put, List.setIfInBounds_toArray, List.set_cons_zero, List.set_cons_succ, i64_w, i32_w]
        rfl
      refine take_ (i := 9) (N := some 45) (v := ?_) (a' := ?_) #[true, true, true, true, true, true, true, true, true, true, false, false, false] rfl rfl (by kernel_rfl) (fun _ _ _ h => h) (Or.inl ⟨by rfl, ?_⟩) hHeld ?_ ?_
      rotate_left
      · rintro w_ ⟨_, hs_⟩
        have s2 := pw_cell_below hs_ X2.out
        have s3 := pw_cell_below hs_ X3.out
        have s4 := pw_cell_below hs_ X4.out
        go_simp
        with_reducible rfl
      rotate_left
      · simp only [Act.put, List.setIfInBounds_toArray, List.set_cons_zero, List.set_cons_succ, i64_w, i32_w]
        rfl
      refine one_ (i := 10) (N := some 46) #[true, true, true, true, true, true, true, true, true, true, true, false, false] rfl rfl (by kernel_rfl) (by decide) (fun K' hK => ?_)
      refine goes_ Try.func34 (by kernel_rfl) rfl #[.pointer (some ⟨s', 0, none⟩), .agg #[.slice A' D'.length cp'], .agg #[.int .i64 g0, .string g1, .int .i64 g2]] (by rfl) rfl rfl (by (try simp only [List.map_toArray, List.map_cons, List.map_nil]); first | done | rfl) ?_
      refine (alike_is (fun q => q = bx) w1.heap.size s' A' cp' D' (i + 1) ⟨g0, g1, g2⟩ w12 HPd.out HR5.out (by omega)).mono ?_
      rintro e w13 ⟨rfl, hb⟩
      refine ⟨_, rfl, ?_⟩
      refine hK.out _ _ ⟨blk_below hHeld.1 hb, hHeld.2.trans (hb.mono hHeld.2.size)⟩ (fun hHeld => ?_)
      have HP6 := Aside0.mk (HPd.out.below hb)
      clear hK K' hb HPd
      refine norm_ (a' := ?_) ?_ ?_
      rotate_left
      · show Act.put _ (some 46) _ = _
        simp only [Act.put, List.setIfInBounds_toArray, List.set_cons_zero, List.set_cons_succ, i64_w, i32_w]
        rfl
      refine pure_ (i := 11) (N := some 47) (v := ?_) (a' := ?_) #[true, true, true, true, true, true, true, true, true, true, true, true, false] rfl rfl (by kernel_rfl) (fun _ _ _ h => h) (Or.inl ⟨by rfl, ?_⟩) ?_ ?_
      rotate_left
      · intro w_
        go_simp
        with_reducible rfl
      rotate_left
      · simp only [Act.put, List.setIfInBounds_toArray, List.set_cons_zero, List.set_cons_succ, i64_w, i32_w]
        rfl
      refine pure_ (i := 12) (N := some 48) (v := ?_) (a' := ?_) #[true, true, true, true, true, true, true, true, true, true, true, true, true] rfl rfl (by kernel_rfl) (fun _ _ _ h => h) (Or.inl ⟨by rfl, ?_⟩) ?_ ?_
      rotate_left
      · intro w_
        go_simp
        with_reducible rfl
      rotate_left
      · simp only [Act.put, List.setIfInBounds_toArray, List.set_cons_zero, List.set_cons_succ, i64_w, i32_w]
        rfl
      refine done_ (by kernel_rfl) ?_
      have HX6 := Aside0.mk hHeld.1
      have HB6 := Aside0.mk hHeld.2
      clear hHeld
      go_wp2_with fail
      rw [show ((i : Int) + 1) = ((i + 1 : Nat) : Int) from by omega]
      exact ⟨⟨i + 1, s', A', cp', D', hlt, rfl, rfl, HP6, HR5, HX6, HB6⟩, by simp [intOf]; omega⟩
    · obtain rfl : i = l.length := by omega
      go_wp2_with fail
      go_ret
      exact ⟨rfl, HB1.out.trans (HB.out.mono HB1.out.size)⟩
end Go.Proofs.Ytfahpihbbkkngaa.P
