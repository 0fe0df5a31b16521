/- bits.Index and bits.Tally. -/
import Derived.Test.YtnelblndidciiaaHf
namespace Go.Proofs.Ytnelblndidciiaa.P
open Go.RowKit Go.Proofs.YtnelblndidciiaaW.PrintWords Go.Proofs.YtnelblndidciiaaW.PrintLast Go.Proofs.YtnelblndidciiaaW.PrintMore
set_option linter.unusedVariables false
set_option linter.unusedSimpArgs false

def bits_Index.f (a0_0 a0_1 a0_2 : Int) (a0_3 : ByteArray) (a1_0 a1_1 a1_2 : Int) (a1_3 : ByteArray) : Option (Int × Int) :=
  if askedI [⟨a0_0, a0_1, a0_2, a0_3⟩, ⟨a1_0, a1_1, a1_2, a1_3⟩] = 0 then some (if a1_3.size ≤ a0_3.size then idxFrom a0_3 a1_3 (a0_3.size - a1_3.size + 1) 0 else 0, 0)
  else some (0, askedI [⟨a0_0, a0_1, a0_2, a0_3⟩, ⟨a1_0, a1_1, a1_2, a1_3⟩])
set_option maxRecDepth 100000 in
theorem index_asked (x y : S23) (w : World) (h : askedI [x, y] ≠ 0) :
    Calls Try.prog 12 #[.agg #[.int .i64 x.f0, .int .i64 x.f1, .int .i64 x.f2, .string x.f3], .agg #[.int .i64 y.f0, .int .i64 y.f1, .int .i64 y.f2, .string y.f3]] w fun e w' =>
      e = .returned (.tuple #[.int .i64 0, .int .i64 (askedI [x, y])]) ∧ Below w.heap.size w w' := by
  have h1 : (askedI [x, y] != 0) = true := bne_iff_ne.2 h
  clear h
  go_enter Try.func12, Try.ntmps12
  go_wp2_with (go_at_call 55; refine (asked_two x y _ _ ?hh).mono ?_)
  case hh => (refine ⟨(0, 0), ?_⟩; exact blk_at_n (by simp))
  rintro e w' ⟨rfl, hb1⟩
  have hb : Below w.heap.size w w' := ((((Below.refl _ _).alloc (Nat.le_refl _) _).alloc (by simp) _).alloc (by simp; omega) _).trans (hb1.mono (by simp; omega))
  clear hb1
  go_wp2_with fail
  go_ret2
  exact ⟨rfl, hb⟩
set_option maxRecDepth 100000 in
theorem index_does (x y : S23) (w : World) (h : askedI [x, y] = 0) (tot : Int) (ht : tot = if y.f3.size ≤ x.f3.size then idxFrom x.f3 y.f3 (x.f3.size - y.f3.size + 1) 0 else 0) :
    Calls Try.prog 12 #[.agg #[.int .i64 x.f0, .int .i64 x.f1, .int .i64 x.f2, .string x.f3], .agg #[.int .i64 y.f0, .int .i64 y.f1, .int .i64 y.f2, .string y.f3]] w fun e w' =>
      e = .returned (.tuple #[.int .i64 tot, .int .i64 0]) ∧ Below w.heap.size w w' := by
  obtain ⟨ok1, ok2, -⟩ := askedI_two h
  have hs := (okV_parts ok1).2.2.2.1
  have hv := (okV_parts ok2).2.2.2.1
  have h0 := asked_two x y
  rw [h] at h0
  have H0 := Lib.hid h0
  have HT := Lib.hid ht
  clear h h0 ok1 ok2 ht
  have hmf : ∀ (fn : Fn) (first cap : Array Value) (w : World), (Instr.makeFunc fn first cap).run Try.prog w = .ok (.func fn first cap) w := fun _ _ _ _ => rfl
  go_enter Try.func12, Try.ntmps12
  go_wp2_with (go_at_call 55; refine (H0.out _ _ ?hh).mono ?_)
  case hh => (refine ⟨(0, 0), ?_⟩; exact blk_at_n (by simp))
  rintro e w' ⟨rfl, hb1⟩
  have hb : Below w.heap.size w w' := ((((Below.refl _ _).alloc (Nat.le_refl _) _).alloc (by simp) _).alloc (by simp; omega) _).trans (hb1.mono (by simp; omega))
  have hX := blk_below (blk_alloc (blk_alloc (blk_at_n (W := w) (o := .cells #[.int .i64 x.f0, .int .i64 x.f1, .int .i64 x.f2, .string x.f3] 23 (0, 0)) rfl) (.cells #[.int .i64 y.f0, .int .i64 y.f1, .int .i64 y.f2, .string y.f3] 23 (0, 0))) _) hb1
  have hY := blk_below (blk_alloc (blk_at_n (W := w.alloc (.cells #[.int .i64 x.f0, .int .i64 x.f1, .int .i64 x.f2, .string x.f3] 23 (0, 0))) (o := .cells #[.int .i64 y.f0, .int .i64 y.f1, .int .i64 y.f2, .string y.f3] 23 (0, 0)) rfl) _) hb1
  have hY' : w'.heap[w.heap.size + 1]? = _ := (by have := hY; simpa using this)
  have x3 : (w'.alloc (.cells #[.int .i64 0] 3)).cell? ⟨w.heap.size, 3, none⟩ = some (.string x.f3) := (blk_cell (blk_alloc hX _) 3).trans rfl
  have y3 : (w'.alloc (.cells #[.int .i64 0] 3)).cell? ⟨w.heap.size + 1, 3, none⟩ = some (.string y.f3) := (blk_cell (blk_alloc hY' _) 3).trans rfl
  clear hb1 hX hY hY'
  by_cases hle : y.f3.size ≤ x.f3.size
  · have HT2 := HT.out
    rw [if_pos hle] at HT2
    have HT := Lib.hid HT2
    clear HT2
    have hb2 : Below w.heap.size w (w'.alloc (.cells #[.int .i64 0] 3)) := hb.alloc hb.size _
    have hsz := hb.size
    have hn : (w'.alloc (.cells #[.int .i64 0] 3)).heap[w'.heap.size]? = some (.cells #[.int .i64 0] 3 (0, 0)) := blk_new _ _
    have HB2 := Aside0.mk hb2
    have HN := Aside0.mk hn
    clear hb2 hn
    go_wp2_with (go_at_call 59; refine (places_index x.f3 y.f3 w'.heap.size w.heap.size _ hs hle hsz HN.out).mono ?_)
    rintro e w2 ⟨rfl, hb3, hc⟩
    rw [← HT.out] at hc
    have c0 : w2.cell? ⟨w'.heap.size, 0, none⟩ = some (.int .i64 tot) := (blk_cell hc 0).trans rfl
    have hb4 := HB2.out.trans hb3
    clear hb3 hc x3 y3
    go_wp2_with fail
    go_ret2
    exact ⟨rfl, hb4⟩
  · have HT2 := HT.out
    rw [if_neg hle] at HT2
    subst HT2
    have hb2 : Below w.heap.size w (w'.alloc (.cells #[.int .i64 0] 3)) := hb.alloc hb.size _
    go_wp2_with fail
    go_ret2
    exact ⟨rfl, hb2⟩
theorem bits_Index.calls (a0_0 a0_1 a0_2 : Int) (a0_3 : ByteArray) (a1_0 a1_1 a1_2 : Int) (a1_3 : ByteArray) (r1 r2 : Int) (w : World) (h : bits_Index.f a0_0 a0_1 a0_2 a0_3 a1_0 a1_1 a1_2 a1_3 = some (r1, r2)) :
    Calls Try.prog 12 #[.agg #[.int .i64 a0_0, .int .i64 a0_1, .int .i64 a0_2, .string a0_3], .agg #[.int .i64 a1_0, .int .i64 a1_1, .int .i64 a1_2, .string a1_3]] w fun e w' => e = .returned (.tuple #[.int .i64 r1, .int .i64 r2]) ∧ Below w.heap.size w w' := by
  unfold bits_Index.f at h
  split at h
  · rename_i h1
    simp only [Option.some.injEq, Prod.mk.injEq] at h
    obtain ⟨rfl, rfl⟩ := h
    exact index_does ⟨a0_0, a0_1, a0_2, a0_3⟩ ⟨a1_0, a1_1, a1_2, a1_3⟩ w h1 _ rfl
  · rename_i h1
    simp only [Option.some.injEq, Prod.mk.injEq] at h
    obtain ⟨rfl, rfl⟩ := h
    exact index_asked ⟨a0_0, a0_1, a0_2, a0_3⟩ ⟨a1_0, a1_1, a1_2, a1_3⟩ w h1

def bits_Tally.f (a0_0 a0_1 a0_2 : Int) (a0_3 : ByteArray) (a1_0 a1_1 a1_2 : Int) (a1_3 : ByteArray) : Option (Int × Int) :=
  if askedI [⟨a0_0, a0_1, a0_2, a0_3⟩, ⟨a1_0, a1_1, a1_2, a1_3⟩] = 0 then some (if a1_3.size ≤ a0_3.size then tallyFrom a0_3 a1_3 (a0_3.size - a1_3.size + 1) 0 else 0, 0)
  else some (0, askedI [⟨a0_0, a0_1, a0_2, a0_3⟩, ⟨a1_0, a1_1, a1_2, a1_3⟩])
set_option maxRecDepth 100000 in
theorem tally_asked (x y : S23) (w : World) (h : askedI [x, y] ≠ 0) :
    Calls Try.prog 15 #[.agg #[.int .i64 x.f0, .int .i64 x.f1, .int .i64 x.f2, .string x.f3], .agg #[.int .i64 y.f0, .int .i64 y.f1, .int .i64 y.f2, .string y.f3]] w fun e w' =>
      e = .returned (.tuple #[.int .i64 0, .int .i64 (askedI [x, y])]) ∧ Below w.heap.size w w' := by
  have h1 : (askedI [x, y] != 0) = true := bne_iff_ne.2 h
  clear h
  go_enter Try.func15, Try.ntmps15
  go_wp2_with (go_at_call 55; refine (asked_two x y _ _ ?hh).mono ?_)
  case hh => (refine ⟨(0, 0), ?_⟩; exact blk_at_n (by simp))
  rintro e w' ⟨rfl, hb1⟩
  have hb : Below w.heap.size w w' := ((((Below.refl _ _).alloc (Nat.le_refl _) _).alloc (by simp) _).alloc (by simp; omega) _).trans (hb1.mono (by simp; omega))
  clear hb1
  go_wp2_with fail
  go_ret2
  exact ⟨rfl, hb⟩
set_option maxRecDepth 100000 in
theorem tally_does (x y : S23) (w : World) (h : askedI [x, y] = 0) (tot : Int) (ht : tot = if y.f3.size ≤ x.f3.size then tallyFrom x.f3 y.f3 (x.f3.size - y.f3.size + 1) 0 else 0) :
    Calls Try.prog 15 #[.agg #[.int .i64 x.f0, .int .i64 x.f1, .int .i64 x.f2, .string x.f3], .agg #[.int .i64 y.f0, .int .i64 y.f1, .int .i64 y.f2, .string y.f3]] w fun e w' =>
      e = .returned (.tuple #[.int .i64 tot, .int .i64 0]) ∧ Below w.heap.size w w' := by
  obtain ⟨ok1, ok2, -⟩ := askedI_two h
  have hs := (okV_parts ok1).2.2.2.1
  have hv := (okV_parts ok2).2.2.2.1
  have h0 := asked_two x y
  rw [h] at h0
  have H0 := Lib.hid h0
  have HT := Lib.hid ht
  clear h h0 ok1 ok2 ht
  have hmf : ∀ (fn : Fn) (first cap : Array Value) (w : World), (Instr.makeFunc fn first cap).run Try.prog w = .ok (.func fn first cap) w := fun _ _ _ _ => rfl
  go_enter Try.func15, Try.ntmps15
  go_wp2_with (go_at_call 55; refine (H0.out _ _ ?hh).mono ?_)
  case hh => (refine ⟨(0, 0), ?_⟩; exact blk_at_n (by simp))
  rintro e w' ⟨rfl, hb1⟩
  have hb : Below w.heap.size w w' := ((((Below.refl _ _).alloc (Nat.le_refl _) _).alloc (by simp) _).alloc (by simp; omega) _).trans (hb1.mono (by simp; omega))
  have hX := blk_below (blk_alloc (blk_alloc (blk_at_n (W := w) (o := .cells #[.int .i64 x.f0, .int .i64 x.f1, .int .i64 x.f2, .string x.f3] 23 (0, 0)) rfl) (.cells #[.int .i64 y.f0, .int .i64 y.f1, .int .i64 y.f2, .string y.f3] 23 (0, 0))) _) hb1
  have hY := blk_below (blk_alloc (blk_at_n (W := w.alloc (.cells #[.int .i64 x.f0, .int .i64 x.f1, .int .i64 x.f2, .string x.f3] 23 (0, 0))) (o := .cells #[.int .i64 y.f0, .int .i64 y.f1, .int .i64 y.f2, .string y.f3] 23 (0, 0)) rfl) _) hb1
  have hY' : w'.heap[w.heap.size + 1]? = _ := (by have := hY; simpa using this)
  have x3 : (w'.alloc (.cells #[.int .i64 0] 3)).cell? ⟨w.heap.size, 3, none⟩ = some (.string x.f3) := (blk_cell (blk_alloc hX _) 3).trans rfl
  have y3 : (w'.alloc (.cells #[.int .i64 0] 3)).cell? ⟨w.heap.size + 1, 3, none⟩ = some (.string y.f3) := (blk_cell (blk_alloc hY' _) 3).trans rfl
  clear hb1 hX hY hY'
  by_cases hle : y.f3.size ≤ x.f3.size
  · have HT2 := HT.out
    rw [if_pos hle] at HT2
    have HT := Lib.hid HT2
    clear HT2
    have hb2 : Below w.heap.size w (w'.alloc (.cells #[.int .i64 0] 3)) := hb.alloc hb.size _
    have hsz := hb.size
    have hn : (w'.alloc (.cells #[.int .i64 0] 3)).heap[w'.heap.size]? = some (.cells #[.int .i64 0] 3 (0, 0)) := blk_new _ _
    have HB2 := Aside0.mk hb2
    have HN := Aside0.mk hn
    clear hb2 hn
    go_wp2_with (go_at_call 59; refine (places_tally x.f3 y.f3 w'.heap.size w.heap.size _ hs hle hsz HN.out).mono ?_)
    rintro e w2 ⟨rfl, hb3, hc⟩
    rw [← HT.out] at hc
    have c0 : w2.cell? ⟨w'.heap.size, 0, none⟩ = some (.int .i64 tot) := (blk_cell hc 0).trans rfl
    have hb4 := HB2.out.trans hb3
    clear hb3 hc x3 y3
    go_wp2_with fail
    go_ret2
    exact ⟨rfl, hb4⟩
  · have HT2 := HT.out
    rw [if_neg hle] at HT2
    subst HT2
    have hb2 : Below w.heap.size w (w'.alloc (.cells #[.int .i64 0] 3)) := hb.alloc hb.size _
    go_wp2_with fail
    go_ret2
    exact ⟨rfl, hb2⟩
theorem bits_Tally.calls (a0_0 a0_1 a0_2 : Int) (a0_3 : ByteArray) (a1_0 a1_1 a1_2 : Int) (a1_3 : ByteArray) (r1 r2 : Int) (w : World) (h : bits_Tally.f a0_0 a0_1 a0_2 a0_3 a1_0 a1_1 a1_2 a1_3 = some (r1, r2)) :
    Calls Try.prog 15 #[.agg #[.int .i64 a0_0, .int .i64 a0_1, .int .i64 a0_2, .string a0_3], .agg #[.int .i64 a1_0, .int .i64 a1_1, .int .i64 a1_2, .string a1_3]] w fun e w' => e = .returned (.tuple #[.int .i64 r1, .int .i64 r2]) ∧ Below w.heap.size w w' := by
  unfold bits_Tally.f at h
  split at h
  · rename_i h1
    simp only [Option.some.injEq, Prod.mk.injEq] at h
    obtain ⟨rfl, rfl⟩ := h
    exact tally_does ⟨a0_0, a0_1, a0_2, a0_3⟩ ⟨a1_0, a1_1, a1_2, a1_3⟩ w h1 _ rfl
  · rename_i h1
    simp only [Option.some.injEq, Prod.mk.injEq] at h
    obtain ⟨rfl, rfl⟩ := h
    exact tally_asked ⟨a0_0, a0_1, a0_2, a0_3⟩ ⟨a1_0, a1_1, a1_2, a1_3⟩ w h1

end Go.Proofs.Ytnelblndidciiaa.P
