/- A row of bytes that a conversion of a string made: its word, and bits.SetSub and bits.Reverse over it. -/
import Derived.Test.YtnelblndidciiaaHc
import Derived.Test.YtnelblndidciiaaHcf
import Derived.Test.YtnelblndidciiaaA64
import Derived.Test.YtnelblndidciiaaA65
import Derived.Test.YtnelblndidciiaaA66
namespace Go.Proofs.Ytnelblndidciiaa.P
open Go.RowKit Go.Proofs.YtnelblndidciiaaW.PrintWords Go.Proofs.YtnelblndidciiaaW.PrintLast Go.Proofs.YtnelblndidciiaaW.PrintMore
set_option linter.unusedVariables false
set_option linter.unusedSimpArgs false

/-- Block g is a row of bytes whose first cells are vals; none of its cells is frozen. -/
structure BRow (W : World) (g : Nat) (e : Nat) (vals : List Int) : Prop where mk ::
  out : ∃ cur : Array Value, W.heap[g]? = some (.cells cur e (cur.size, cur.size + 1)) ∧ vals.length ≤ cur.size ∧ ∀ j : Nat, j < vals.length → cur[j]? = some (.int .u8 (vals.getD j 0))
theorem BRow.cell {W : World} {g e : Nat} {vals : List Int} (h : BRow W g e vals) {j : Nat} (hj : j < vals.length) : W.cell? ⟨g, j, none⟩ = some (.int .u8 (vals.getD j 0)) := by
  obtain ⟨cur, h1, h2, h3⟩ := h.out
  simp [World.cell?, h1, h3 j hj]
theorem BRow.free {W : World} {g e : Nat} {vals : List Int} (h : BRow W g e vals) {j : Nat} (hj : j < vals.length) : W.frozen? ⟨g, j, none⟩ = false := by
  obtain ⟨cur, h1, h2, h3⟩ := h.out
  simp [World.frozen?, h1]; omega
theorem BRow.move {W W' : World} {g e : Nat} {vals : List Int} (h : BRow W g e vals) (hm : W'.heap[g]? = W.heap[g]?) : BRow W' g e vals := by
  obtain ⟨cur, h1, h2, h3⟩ := h.out
  exact ⟨cur, hm.trans h1, h2, h3⟩
theorem BRow.lt {W : World} {g e : Nat} {vals : List Int} (h : BRow W g e vals) : g < W.heap.size := by
  obtain ⟨cur, h1, _⟩ := h.out
  rcases Nat.lt_or_ge g W.heap.size with h' | h'
  · exact h'
  · rw [Array.getElem?_eq_none h'] at h1; cases h1
theorem BRow.below {W W' : World} {g e : Nat} {vals : List Int} (h : BRow W g e vals) (hb : Below W.heap.size W W') : BRow W' g e vals := h.move (hb.block g h.lt)
theorem BRow.set {W : World} {g e : Nat} {vals : List Int} (h : BRow W g e vals) (j : Nat) (x : Int) : BRow (W.setCell ⟨g, j, none⟩ (.int .u8 x)) g e (vals.set j x) := by
  obtain ⟨cur, h1, h2, h3⟩ := h.out
  have hg := h.lt
  refine ⟨cur.setIfInBounds j (.int .u8 x), ?_, by simpa using h2, fun i hi => ?_⟩
  · have h1' : W.heap[g] = .cells cur e (cur.size, cur.size + 1) := by
      rw [Array.getElem?_eq_getElem hg] at h1; exact Option.some.inj h1
    simp [World.setCell, Array.getElem?_modify, Array.getElem?_eq_getElem hg, h1']
  · rw [List.length_set] at hi
    by_cases hij : j = i
    · subst hij
      rw [Array.getElem?_setIfInBounds_self_of_lt (by omega)]
      simp [List.getD_eq_getElem?_getD, List.getElem?_set_self hi]
    · rw [Array.getElem?_setIfInBounds_ne hij, h3 i hi]
      simp [List.getD_eq_getElem?_getD, List.getElem?_set_ne hij]
theorem BRow.make (w : World) (e : Nat) (s : ByteArray) : BRow (Lib.bytesWorld w e s) w.heap.size e (bytesOf s) := by
  refine ⟨Lib.bytesCells w e s, Lib.bytesWorld_at_new w e s, by simp [Lib.bytesCells, bytesOf], fun j hj => ?_⟩
  have hj' : j < s.size := by simpa [bytesOf] using hj
  have := Lib.bytesWorld_cell w e s j hj'
  rw [World.cell?, Lib.bytesWorld_at_new] at this
  simp only [Option.isSome_none, Bool.false_eq_true, if_false] at this
  rw [this]
  have hjl : j < s.data.toList.length := hj'
  simp [bytesOf, List.getD_eq_getElem?_getD, List.getElem?_map, List.getElem?_eq_getElem hjl]
theorem below_bytes {w W : World} (e : Nat) (s : ByteArray) (h : Below w.heap.size w W) : Below w.heap.size w (Lib.bytesWorld W e s) :=
  ⟨h.os, h.tape, h.output, Nat.le_trans h.size (by rw [Lib.bytesWorld_size]; omega), fun k hk => (Lib.bytesWorld_at_old W e s k (Nat.lt_of_lt_of_le hk h.size)).trans (h.block k hk)⟩
theorem below_bytes_self (W : World) (e : Nat) (s : ByteArray) : Below W.heap.size W (Lib.bytesWorld W e s) := below_bytes e s (Below.refl _ _)
theorem BRow.string {P : Program} {W : World} {g e src dst c : Nat} {vals : List Int} (h : BRow W g e vals) (hl : vals.length ≤ 9223372036854775807) (hs : P.underlying src = some (.slice e)) (he : P.underlying e = some (.int .u8)) (hd : P.underlying dst = some .string) :
    (convert src dst (.slice (some ⟨g, 0, none⟩) vals.length c)).run P W = .ok (.string (strOfNums vals)) W := by
  refine string_of_reads hs he hd ⟨rfl, hl, fun _ => ⟨_, rfl, fun j hj => ?_⟩⟩
  rw [add_plain]; exact h.cell hj
theorem bytesOf_len (s : ByteArray) : (bytesOf s).length = s.size := by simp [bytesOf]

/-! ### SetSub -/
/-- The bytes behind the setting of a part: those from 'from' on, m of them. -/
def setL (n : Int) (v : ByteArray) (i fr : Int) (m : Nat) (vals : List Int) : List Int := (List.range m).foldl (fun l j => l.set (fr.toNat + j) (if fr + j - i + 1 < v.size then bt v (fr + j - i + 1) else fillc n)) vals
theorem setL_len (n : Int) (v : ByteArray) (i fr : Int) (m : Nat) (vals : List Int) : (setL n v i fr m vals).length = vals.length := by
  unfold setL
  induction m with
  | zero => rfl
  | succ m ih => rw [List.range_succ, List.foldl_append]; simp only [List.foldl_cons, List.foldl_nil, List.length_set]; exact ih
theorem setL_succ (n : Int) (v : ByteArray) (i fr : Int) (m : Nat) (vals : List Int) : setL n v i fr (m + 1) vals = (setL n v i fr m vals).set (fr.toNat + m) (if fr + m - i + 1 < v.size then bt v (fr + m - i + 1) else fillc n) := by
  unfold setL
  rw [List.range_succ, List.foldl_append]; rfl
def bits_SetSub.f (a0_0 a0_1 a0_2 : Int) (a0_3 : ByteArray) (a1 a2 : Int) (a3_0 a3_1 a3_2 : Int) (a3_3 : ByteArray) : Option (Int × Int × Int × ByteArray × Int × Int) :=
  if askedI [⟨a0_0, a0_1, a0_2, a0_3⟩, ⟨a3_0, a3_1, a3_2, a3_3⟩] = 0 then
    (if farI a1 || farI a2 then some (0, 0, 0, ⟨#[]⟩, 0, 7)
     else (bits_part.f (a0_3.size : Int) a1 a2).bind fun p => (bits_cond.f p.2.2).bind fun c => some (a0_0, 0, 0, strOfNums (setL a3_0 a3_3 a1 p.1 (p.2.1 - p.1).toNat (bytesOf a0_3)), c, 0))
  else some (0, 0, 0, ⟨#[]⟩, 0, askedI [⟨a0_0, a0_1, a0_2, a0_3⟩, ⟨a3_0, a3_1, a3_2, a3_3⟩])
theorem askedI_two {x y : S23} (h : askedI [x, y] = 0) : okV x = true ∧ okV y = true ∧ x.f0 = y.f0 := by
  simp [askedI] at h
  split at h
  · rename_i h1
    split at h
    · rename_i h2; exact ⟨h1.1, h1.2, h2.symm⟩
    · cases h
  · cases h
theorem okV_parts {v : S23} (h : okV v = true) : (v.f0 = 4 ∨ v.f0 = 5) ∧ v.f1 = 0 ∧ v.f2 = 0 ∧ v.f3.size ≤ 250 ∧ okS v.f0 v.f3 = true := by
  simpa [okV, validB] using h
theorem kd_two {W : World} {B : Nat} {x y : S23} (h : ∃ f, W.heap[B]? = some (.cells #[.int .i64 x.f0, .int .i64 x.f1, .int .i64 x.f2, .string x.f3, .int .i64 y.f0, .int .i64 y.f1, .int .i64 y.f2, .string y.f3] 23 f)) : Kd.C k23 W (some ⟨B, 0, none⟩) 2 [x, y] := by
  obtain ⟨f, h⟩ := h
  refine ⟨rfl, by decide, fun _ => ⟨_, rfl, fun j p hj => ?_⟩⟩
  match j, hj with
  | 0, hj =>
    obtain rfl : x = p := by simpa using hj
    refine ⟨_, rfl, k23_mk W x, fun i u hu => ?_⟩
    rw [add_plain]
    match i, hu with
    | 0, hu | 1, hu | 2, hu | 3, hu => simp [World.cell?, h, k23, Kd.iso, Kd.pair, Kd.int, Kd.string, Kd.scalar] at hu ⊢; exact hu
    | n + 4, hu => simp at hu
  | 1, hj =>
    obtain rfl : y = p := by simpa using hj
    refine ⟨_, rfl, k23_mk W y, fun i u hu => ?_⟩
    rw [add_plain]
    match i, hu with
    | 0, hu | 1, hu | 2, hu | 3, hu => simp [World.cell?, h, k23, Kd.iso, Kd.pair, Kd.int, Kd.string, Kd.scalar] at hu ⊢; exact hu
    | n + 4, hu => simp at hu
  | j + 2, hj => simp at hj
theorem asked_two (x y : S23) (B : Nat) (w : World) (h : ∃ f, w.heap[B]? = some (.cells #[.int .i64 x.f0, .int .i64 x.f1, .int .i64 x.f2, .string x.f3, .int .i64 y.f0, .int .i64 y.f1, .int .i64 y.f2, .string y.f3] 23 f)) :
    Calls Try.prog 55 #[.slice (some ⟨B, 0, none⟩) 2 2] w fun e w' => e = .returned (.int .i64 (askedI [x, y])) ∧ Below w.heap.size w w' :=
  bits_askedT.calls _ 2 [x, y] _ w (kd_two h) (Nat.le_refl _) rfl
theorem far_two (x y : Int) (B : Nat) (w : World) (h0 : w.cell? ⟨B, 0, none⟩ = some (.int .i64 x)) (h1 : w.cell? ⟨B, 1, none⟩ = some (.int .i64 y)) :
    Calls Try.prog 63 #[.slice (some ⟨B, 0, none⟩) 2 2] w fun e w' => e = .returned (.bool (farI x || farI y)) ∧ Below w.heap.size w w' := by
  have := bits_farT.calls (some ⟨B, 0, none⟩) 2 [x, y] (farI x || farI y) w (Kd.C_of_reads (d := (0 : Int)) (h1 := fun _ => rfl) ⟨rfl, by show 2 ≤ _; omega, fun _ => ⟨_, rfl, fun j hj => by
    rw [add_plain]
    match j, hj with
    | 0, _ => exact h0
    | 1, _ => exact h1⟩⟩) (Nat.le_refl _) (by simp [bits_farT.f])
  exact this.mono fun e w' ⟨he, hd⟩ => ⟨he, hd.below⟩
theorem part_bounds (l i n fr tt : Int) (rt : Bool) (hl : 0 ≤ l) (hl2 : l ≤ 250) (hi : farI i = false) (hn : farI n = false) (h : bits_part.f l i n = some (fr, tt, rt)) :
    0 ≤ fr ∧ fr ≤ tt ∧ tt ≤ l ∧ fr = mn (mx i 1 - 1) l ∧ tt = mx (mn (i + n - 1) l) fr ∧ rt = (decide (1 ≤ i) && (decide (0 ≤ n) && decide (i + n - 1 ≤ l))) := by
  simp [farI] at hi hn
  unfold bits_part.f at h
  have e1 : wrap64 ((mx i 1) - 1) = mx i 1 - 1 := by unfold wrap64 mx; split <;> omega
  have e2 : wrap64 (i + n) = i + n := by unfold wrap64; omega
  have e3 : wrap64 (i + n - 1) = i + n - 1 := by unfold wrap64; omega
  rw [e2, e3, e1] at h
  split at h
  · split at h
    · simp only [Option.some.injEq, Prod.mk.injEq] at h
      obtain ⟨rfl, rfl, rfl⟩ := h
      refine ⟨by unfold mn mx; repeat' split <;> omega, by unfold mn mx; repeat' split <;> omega, by unfold mn mx; repeat' split <;> omega, rfl, rfl, ?_⟩
      rename_i h1 h2; rw [decide_eq_true (show 1 ≤ i from h1), decide_eq_true (show 0 ≤ n from h2)]; rfl
    · simp only [Option.some.injEq, Prod.mk.injEq] at h
      obtain ⟨rfl, rfl, rfl⟩ := h
      refine ⟨by unfold mn mx; repeat' split <;> omega, by unfold mn mx; repeat' split <;> omega, by unfold mn mx; repeat' split <;> omega, rfl, rfl, ?_⟩
      rename_i h1 h2; simp; omega
  · simp only [Option.some.injEq, Prod.mk.injEq] at h
    obtain ⟨rfl, rfl, rfl⟩ := h
    refine ⟨by unfold mn mx; repeat' split <;> omega, by unfold mn mx; repeat' split <;> omega, by unfold mn mx; repeat' split <;> omega, rfl, rfl, ?_⟩
    rename_i h1; simp; omega

theorem blk_at_n {W : World} {o : Obj} {n : Nat} (h : n = W.heap.size) : (W.alloc o).heap[n]? = some o := h ▸ blk_new W o
def box23 (v : S23) : Array Value := #[.int .i64 v.f0, .int .i64 v.f1, .int .i64 v.f2, .string v.f3]
set_option maxRecDepth 100000 in
theorem setsub_asked (s v : S23) (i n : Int) (w : World) (h : askedI [s, v] ≠ 0) :
    Calls Try.prog 38 #[.agg #[.int .i64 s.f0, .int .i64 s.f1, .int .i64 s.f2, .string s.f3], .int .i64 i, .int .i64 n, .agg #[.int .i64 v.f0, .int .i64 v.f1, .int .i64 v.f2, .string v.f3]] w fun e w' =>
      e = .returned (.tuple #[.agg #[.int .i64 0, .int .i64 0, .int .i64 0, .string ⟨#[]⟩], .int .i64 0, .int .i64 (askedI [s, v])]) ∧ Below w.heap.size w w' := by
  have h1 : (askedI [s, v] != 0) = true := bne_iff_ne.2 h
  clear h
  go_enter Try.func38, Try.ntmps38
  go_wp2_with (go_at_call 55; refine (asked_two s v _ _ ?hh).mono ?_)
  case hh => (refine ⟨(0, 0), ?_⟩; exact blk_at_n (by simp))
  rintro e w' ⟨rfl, hb1⟩
  have hb : Below w.heap.size w w' := (((((Below.refl _ _).alloc (Nat.le_refl _) _).alloc (by simp) _).alloc (by simp; omega) _).alloc (by simp; omega) _).trans (hb1.mono (by simp; omega))
  have hZ : w'.heap[w.heap.size + 1 + 1]? = some (.cells #[.int .i64 0, .int .i64 0, .int .i64 0, .string ⟨#[]⟩] 23 (0, 0)) := blk_below (blk_alloc (blk_at_n (by simp)) _) hb1
  have c0 := blk_cell hZ 0
  have c1 := blk_cell hZ 1
  have c2 := blk_cell hZ 2
  have c3 := blk_cell hZ 3
  have f0 := blk_frozen hZ 0
  have f1 := blk_frozen hZ 1
  have f2 := blk_frozen hZ 2
  have f3 := blk_frozen hZ 3
  have HZ := Aside0.mk hZ
  clear hZ hb1
  go_wp2_with fail
  refine bodyPost_ret (v := .tuple #[.agg #[.int .i64 0, .int .i64 0, .int .i64 0, .string ⟨#[]⟩], .int .i64 0, .int .i64 (askedI [s, v])]) (by simp [results, Try.results38, go_sem, c0, c1, c2, c3]) rfl ⟨rfl, ?_⟩
  repeat (first | exact hb | refine Below.setCell ?_ (by simp; omega) _)
set_option maxRecDepth 100000 in
theorem setsub_far (s v : S23) (i n : Int) (w : World) (h : askedI [s, v] = 0) (hf : (farI i || farI n) = true) :
    Calls Try.prog 38 #[.agg #[.int .i64 s.f0, .int .i64 s.f1, .int .i64 s.f2, .string s.f3], .int .i64 i, .int .i64 n, .agg #[.int .i64 v.f0, .int .i64 v.f1, .int .i64 v.f2, .string v.f3]] w fun e w' =>
      e = .returned (.tuple #[.agg #[.int .i64 0, .int .i64 0, .int .i64 0, .string ⟨#[]⟩], .int .i64 0, .int .i64 7]) ∧ Below w.heap.size w w' := by
  have h0 := asked_two s v
  rw [h] at h0
  have h2 := far_two i n
  rw [hf] at h2
  have H0 := Lib.hid h0
  have H2 := Lib.hid h2
  clear h h0 h2 hf
  go_enter Try.func38, Try.ntmps38
  go_wp2_with (go_at_call 55; refine (H0.out _ _ ?hh).mono ?_)
  case hh => (refine ⟨(0, 0), ?_⟩; exact blk_at_n (by simp))
  rintro e w' ⟨rfl, hb1⟩
  have hb : Below w.heap.size w w' := (((((Below.refl _ _).alloc (Nat.le_refl _) _).alloc (by simp) _).alloc (by simp; omega) _).alloc (by simp; omega) _).trans (hb1.mono (by simp; omega))
  have hZ : w'.heap[w.heap.size + 1 + 1]? = some (.cells #[.int .i64 0, .int .i64 0, .int .i64 0, .string ⟨#[]⟩] 23 (0, 0)) := blk_below (blk_alloc (blk_at_n (by simp)) _) hb1
  have HZ := Aside0.mk hZ
  clear hZ hb1
  go_wp2_with (go_at_call 63; refine (H2.out _ _ ?h0 ?h1).mono ?_)
  case h0 => simp [go_sem]
  case h1 => simp [go_sem]
  rintro e w2 ⟨rfl, hb2⟩
  have hZ : w2.heap[w.heap.size + 1 + 1]? = some (.cells #[.int .i64 0, .int .i64 0, .int .i64 0, .string ⟨#[]⟩] 23 (0, 0)) := blk_below (blk_alloc HZ.out _) hb2
  have hb3 : Below w.heap.size w w2 := (hb.alloc hb.size _).trans (hb2.mono (by have := hb.size; simp; omega))
  have c0 := blk_cell hZ 0
  have c1 := blk_cell hZ 1
  have c2 := blk_cell hZ 2
  have c3 := blk_cell hZ 3
  have f0 := blk_frozen hZ 0
  have f1 := blk_frozen hZ 1
  have f2 := blk_frozen hZ 2
  have f3 := blk_frozen hZ 3
  clear hZ hb2 hb HZ
  go_wp2_with fail
  refine bodyPost_ret (v := .tuple #[.agg #[.int .i64 0, .int .i64 0, .int .i64 0, .string ⟨#[]⟩], .int .i64 0, .int .i64 7]) (by simp [results, Try.results38, go_sem, c0, c1, c2, c3]) rfl ⟨rfl, ?_⟩
  repeat (first | exact hb3 | refine Below.setCell ?_ (by simp; omega) _)
theorem bits_with.is (n a b : Int) (s r : ByteArray) : bits_with.f n a b s r = some (n, 0, 0, r) := rfl
set_option maxRecDepth 100000 in
set_option maxHeartbeats 4000000 in
theorem setsub_does (s v : S23) (i n : Int) (w : World) (h : askedI [s, v] = 0) (hi : farI i = false) (hn : farI n = false) (fr tt : Int) (rt : Bool) (hp : bits_part.f (s.f3.size : Int) i n = some (fr, tt, rt)) (c : Int) (hcnd : bits_cond.f rt = some c) (out : ByteArray) (hout : strOfNums (setL v.f0 v.f3 i fr (tt - fr).toNat (bytesOf s.f3)) = out) :
    Calls Try.prog 38 #[.agg #[.int .i64 s.f0, .int .i64 s.f1, .int .i64 s.f2, .string s.f3], .int .i64 i, .int .i64 n, .agg #[.int .i64 v.f0, .int .i64 v.f1, .int .i64 v.f2, .string v.f3]] w fun e w' =>
      e = .returned (.tuple #[.agg #[.int .i64 s.f0, .int .i64 0, .int .i64 0, .string out], .int .i64 c, .int .i64 0]) ∧ Below w.heap.size w w' := by
  have HO := Lib.hid hout
  clear hout
  obtain ⟨ok1, ok2, -⟩ := askedI_two h
  have hs := (okV_parts ok1).2.2.2.1
  have hv := (okV_parts ok2).2.2.2.1
  have hk := (okV_parts ok2).1
  obtain ⟨hfr0, hfrt, htl, hfre, -, -⟩ := part_bounds _ _ _ _ _ _ (by omega) (by omega) hi hn hp
  have hfi : fr < tt → i ≤ fr + 1 := by intro h3; rw [hfre] at h3 ⊢; unfold mn mx at *; split at h3 <;> split at h3 <;> omega
  clear hfre
  have hi2 : -1000000000 ≤ i ∧ i ≤ 1000000000 := by simp [farI] at hi; omega
  have h0 := asked_two s v
  rw [h] at h0
  have h2 := far_two i n
  rw [hi, hn] at h2
  have H0 := Lib.hid h0
  have H2 := Lib.hid h2
  have HP := Lib.hid hp
  have HC := Lib.hid hcnd
  clear h h0 h2 hi hn ok1 ok2 hp hcnd
  go_enter Try.func38, Try.ntmps38
  go_wp2_with (go_at_call 55; refine (H0.out _ _ ?hh).mono ?_)
  case hh => (refine ⟨(0, 0), ?_⟩; exact blk_at_n (by simp))
  rintro e w' ⟨rfl, hb1⟩
  have hb : Below w.heap.size w w' := (((((Below.refl _ _).alloc (Nat.le_refl _) _).alloc (by simp) _).alloc (by simp; omega) _).alloc (by simp; omega) _).trans (hb1.mono (by simp; omega))
  have hS : w'.heap[w.heap.size]? = some (.cells (box23 s) 23 (0, 0)) := blk_below (blk_alloc (blk_alloc (blk_alloc (blk_at_n (by simp)) _) _) _) hb1
  have hV : w'.heap[w.heap.size + 1]? = some (.cells (box23 v) 23 (0, 0)) := blk_below (blk_alloc (blk_alloc (blk_at_n (by simp)) _) _) hb1
  have hZ : w'.heap[w.heap.size + 1 + 1]? = some (.cells #[.int .i64 0, .int .i64 0, .int .i64 0, .string ⟨#[]⟩] 23 (0, 0)) := blk_below (blk_alloc (blk_at_n (by simp)) _) hb1
  have HS := Aside0.mk hS
  have HV := Aside0.mk hV
  have HZ := Aside0.mk hZ
  clear hZ hS hV hb1
  go_wp2_with (go_at_call 63; refine (H2.out _ _ ?h0 ?h1).mono ?_)
  case h0 => simp [go_sem]
  case h1 => simp [go_sem]
  rintro e w2 ⟨rfl, hb2⟩
  have hS := Aside0.mk (blk_below (blk_alloc HS.out _) hb2)
  have hV := Aside0.mk (blk_below (blk_alloc HV.out _) hb2)
  have hZ := Aside0.mk (blk_below (blk_alloc HZ.out _) hb2)
  have hb3 : Below w.heap.size w w2 := (hb.alloc hb.size _).trans (hb2.mono (by have := hb.size; simp; omega))
  clear hb2 hb HZ HS HV
  have s3 : w2.cell? ⟨w.heap.size, 3, none⟩ = some (.string s.f3) := (blk_cell hS.out 3).trans rfl
  go_wp2_with (go_at_call 64; refine (bits_part.calls _ _ _ _ _ _ _ HP.out).mono ?_)
  rintro e w3 ⟨rfl, hb4⟩
  clear s3
  have hS := Aside0.mk (blk_below hS.out hb4)
  have hV := Aside0.mk (blk_below hV.out hb4)
  have hZ := Aside0.mk (blk_below hZ.out hb4)
  have hb5 := hb3.trans (hb4.mono hb3.size)
  clear hb4 hb3
  have s3 : w3.cell? ⟨w.heap.size, 3, none⟩ = some (.string s.f3) := (blk_cell hS.out 3).trans rfl
  have hconv := fun (W : World) => Lib.run_convert_string_bytes (P := Try.prog) W 9 77 5 s.f3 Try.underlying9 Try.underlying77 Try.underlying5
  go_wp2_with fail
  clear s3
  go_loopw [16] (fun p wr => ∃ m : Nat, m ≤ (tt - fr).toNat ∧ p = .int .i64 (fr + m) ∧ Aside0 (Below w.heap.size w wr) ∧ Aside0 (wr.heap[w.heap.size]? = some (.cells (box23 s) 23 (0, 0))) ∧ Aside0 (wr.heap[w.heap.size + 1]? = some (.cells (box23 v) 23 (0, 0))) ∧ Aside0 (wr.heap[w.heap.size + 1 + 1]? = some (.cells #[.int .i64 0, .int .i64 0, .int .i64 0, .string ⟨#[]⟩] 23 (0, 0))) ∧ BRow wr w3.heap.size 5 (setL v.f0 v.f3 i fr m (bytesOf s.f3))) (fun p _ => (tt - intOf p).toNat)
  case atStart =>
    exact ⟨0, Nat.zero_le _, by simp, ⟨below_bytes 5 _ hb5⟩, ⟨blk_below hS.out (below_bytes_self _ _ _)⟩, ⟨blk_below hV.out (below_bytes_self _ _ _)⟩, ⟨blk_below hZ.out (below_bytes_self _ _ _)⟩, BRow.make _ _ _⟩
  case round =>
    obtain ⟨m, hm, rfl, HB, KS, KV, KZ, HR⟩ := hrel
    by_cases hlt : m < (tt - fr).toNat
    · have hge : 0 ≤ fr + m - i + 1 := by have := hfi (by omega); omega
      obtain ⟨x, hx⟩ : ∃ x, x = (if fr + m - i + 1 < v.f3.size then bt v.f3 (fr + m - i + 1) else fillc v.f0) := ⟨_, rfl⟩
      have hat : bits_at.f v.f0 v.f1 v.f2 v.f3 (fr + m - i + 1) = some x := by
        unfold bits_at.f
        by_cases h5 : fr + m - i + 1 < v.f3.size
        · rw [if_pos h5, if_pos hge, hx, if_pos h5]
        · rw [if_neg h5, if_pos hk, hx, if_neg h5]
      have HX := Lib.hid hx
      have HAT := Lib.hid hat
      clear hx hat
      have v0 : wr.cell? ⟨w.heap.size + 1, 0, none⟩ = some (.int .i64 v.f0) := (blk_cell KV.out 0).trans rfl
      have v1 : wr.cell? ⟨w.heap.size + 1, 1, none⟩ = some (.int .i64 v.f1) := (blk_cell KV.out 1).trans rfl
      have v2 : wr.cell? ⟨w.heap.size + 1, 2, none⟩ = some (.int .i64 v.f2) := (blk_cell KV.out 2).trans rfl
      have v3 : wr.cell? ⟨w.heap.size + 1, 3, none⟩ = some (.string v.f3) := (blk_cell KV.out 3).trans rfl
      go_wp2_with (go_at_call 56; refine (bits_at.calls _ _ _ _ _ _ _ HAT.out).mono ?_)
      rintro e w4 ⟨rfl, hb6⟩
      clear v0 v1 v2 v3
      have hlen : (setL v.f0 v.f3 i fr m (bytesOf s.f3)).length = s.f3.size := by rw [setL_len, bytesOf_len]
      have HR4 := HR.below hb6
      have hidx : (fr + m).toNat < (setL v.f0 v.f3 i fr m (bytesOf s.f3)).length := by rw [hlen]; omega
      have hcell := HR4.cell hidx
      have hfree := HR4.free hidx
      have hbd : 0 ≤ fr + (m : Int) ∧ fr + (m : Int) < (s.f3.size : Int) := ⟨by omega, by omega⟩
      have hbw := Aside0.mk (HB.out.trans (hb6.mono HB.out.size))
      have KS := Aside0.mk (blk_below KS.out hb6)
      have KV := Aside0.mk (blk_below KV.out hb6)
      have KZ := Aside0.mk (blk_below KZ.out hb6)
      clear hlen HR hidx hb6
      go_wp2_with fail
      have hg1 : w.heap.size ≠ w3.heap.size := by have := blk_lt hZ.out; omega
      have hg2 : w.heap.size + 1 ≠ w3.heap.size := by have := blk_lt hZ.out; omega
      have hg3 : w.heap.size + 1 + 1 ≠ w3.heap.size := by have := blk_lt hZ.out; omega
      have hset := HR4.set (fr + m).toNat x
      rw [HX.out, show (fr + (m : Int)).toNat = fr.toNat + m by omega, ← setL_succ, ← HX.out] at hset
      go_roundw
      case rel =>
        refine ⟨m + 1, by omega, by congr 1; omega, ⟨hbw.out.setCell (by have := hb5.size; exact this) _⟩, ⟨blk_far KS.out hg1 _⟩, ⟨blk_far KV.out hg2 _⟩, ⟨blk_far KZ.out hg3 _⟩, ?_⟩
        rw [show (fr + (m : Int)).toNat = fr.toNat + m by omega]
        exact hset
      case measure => simp [intOf]; omega
    · obtain rfl : m = (tt - fr).toNat := by omega
      have hmm : fr + (((tt - fr).toNat : Nat) : Int) = tt := by omega
      have hlen : (setL v.f0 v.f3 i fr (tt - fr).toNat (bytesOf s.f3)).length = s.f3.size := by rw [setL_len, bytesOf_len]
      have s0 : wr.cell? ⟨w.heap.size, 0, none⟩ = some (.int .i64 s.f0) := (blk_cell KS.out 0).trans rfl
      have s1 : wr.cell? ⟨w.heap.size, 1, none⟩ = some (.int .i64 s.f1) := (blk_cell KS.out 1).trans rfl
      have s2 : wr.cell? ⟨w.heap.size, 2, none⟩ = some (.int .i64 s.f2) := (blk_cell KS.out 2).trans rfl
      have s3 : wr.cell? ⟨w.heap.size, 3, none⟩ = some (.string s.f3) := (blk_cell KS.out 3).trans rfl
      have hcv : ∀ c : Nat, (convert 77 9 (.slice (some ⟨w3.heap.size, 0, none⟩) s.f3.size c)).run Try.prog wr = .ok (.string (strOfNums (setL v.f0 v.f3 i fr (tt - fr).toNat (bytesOf s.f3)))) wr := fun c => by
        have := HR.string (P := Try.prog) (src := 77) (dst := 9) (c := c) (by rw [hlen]; omega) Try.underlying77 Try.underlying5 Try.underlying9
        rw [hlen] at this; exact this
      clear hlen HR
      rw [HO.out] at hcv
      rw [hmm]
      clear hmm
      go_wp2_with (go_at_call 65; refine (bits_with.calls _ _ _ _ _ _ _ _ _ _ (bits_with.is _ _ _ _ _)).mono ?_)
      rintro e w4 ⟨rfl, hb6⟩
      have KZ := Aside0.mk (blk_below KZ.out hb6)
      have hb7 := Aside0.mk (HB.out.trans (hb6.mono HB.out.size))
      clear s0 s1 s2 s3 hb6 hcv
      go_wp2_with (go_at_call 66; refine (bits_cond.calls _ _ _ HC.out).mono ?_)
      rintro e w5 ⟨rfl, hd⟩
      have hb8 := hd.below
      have KZ := blk_below KZ.out hb8
      have hb9 := Aside0.mk (hb7.out.trans (hb8.mono hb7.out.size))
      clear hd hb8
      have c0 := blk_cell KZ 0
      have c1 := blk_cell KZ 1
      have c2 := blk_cell KZ 2
      have c3 := blk_cell KZ 3
      have f0 := blk_frozen KZ 0
      have f1 := blk_frozen KZ 1
      have f2 := blk_frozen KZ 2
      have f3 := blk_frozen KZ 3
      clear KZ
      go_wp2_with fail
      refine bodyPost_ret (v := .tuple #[.agg #[.int .i64 s.f0, .int .i64 0, .int .i64 0, .string out], .int .i64 c, .int .i64 0]) (by simp [results, Try.results38, go_sem, c0, c1, c2, c3]) rfl ⟨rfl, ?_⟩
      repeat (first | exact hb9.out | refine Below.setCell ?_ (by simp; omega) _)
theorem bits_SetSub.calls (a0_0 a0_1 a0_2 : Int) (a0_3 : ByteArray) (a1 a2 : Int) (a3_0 a3_1 a3_2 : Int) (a3_3 : ByteArray) (r1 r2 r3 : Int) (r4 : ByteArray) (r5 r6 : Int) (w : World)
    (h : bits_SetSub.f a0_0 a0_1 a0_2 a0_3 a1 a2 a3_0 a3_1 a3_2 a3_3 = some (r1, r2, r3, r4, r5, r6)) :
    Calls Try.prog 38 #[.agg #[.int .i64 a0_0, .int .i64 a0_1, .int .i64 a0_2, .string a0_3], .int .i64 a1, .int .i64 a2, .agg #[.int .i64 a3_0, .int .i64 a3_1, .int .i64 a3_2, .string a3_3]] w fun e w' =>
      e = .returned (.tuple #[.agg #[.int .i64 r1, .int .i64 r2, .int .i64 r3, .string r4], .int .i64 r5, .int .i64 r6]) ∧ Below w.heap.size w w' := by
  unfold bits_SetSub.f at h
  split at h
  · rename_i h1
    split at h
    · rename_i h2
      simp only [Option.some.injEq, Prod.mk.injEq] at h
      obtain ⟨rfl, rfl, rfl, rfl, rfl, rfl⟩ := h
      exact setsub_far ⟨a0_0, a0_1, a0_2, a0_3⟩ ⟨a3_0, a3_1, a3_2, a3_3⟩ a1 a2 w h1 h2
    · rename_i h2
      obtain ⟨p, hp, h⟩ := Option.bind_eq_some_iff.1 h
      obtain ⟨c, hc, h⟩ := Option.bind_eq_some_iff.1 h
      simp only [Option.some.injEq, Prod.mk.injEq] at h
      obtain ⟨rfl, rfl, rfl, rfl, rfl, rfl⟩ := h
      simp only [Bool.or_eq_true, not_or, Bool.not_eq_true] at h2
      exact setsub_does ⟨a0_0, a0_1, a0_2, a0_3⟩ ⟨a3_0, a3_1, a3_2, a3_3⟩ a1 a2 w h1 h2.1 h2.2 p.1 p.2.1 p.2.2 hp c hc _ rfl
  · rename_i h1
    simp only [Option.some.injEq, Prod.mk.injEq] at h
    obtain ⟨rfl, rfl, rfl, rfl, rfl, rfl⟩ := h
    exact setsub_asked ⟨a0_0, a0_1, a0_2, a0_3⟩ ⟨a3_0, a3_1, a3_2, a3_3⟩ a1 a2 w h1
end Go.Proofs.Ytnelblndidciiaa.P
