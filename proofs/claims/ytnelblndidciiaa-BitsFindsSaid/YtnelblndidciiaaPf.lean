/- The plain law of BitsFinds: Index, Tally, Verify and Search are the reference's; what is found stands there, and at no lesser place. -/
import Derived.Test.YtnelblndidciiaaC4
import Derived.Test.YtnelblndidciiaaQ
namespace Go.Proofs.Ytnelblndidciiaa.P
open Go.RowKit Go.Proofs.YtnelblndidciiaaW.PrintWords Go.Proofs.YtnelblndidciiaaW.PrintLast Go.Proofs.YtnelblndidciiaaW.PrintMore
set_option linter.unusedVariables false
set_option linter.unusedSimpArgs false

theorem awake_trueF : ironbarklaw05_awake.f = some true := by decide +kernel
/-! ### hits -/
theorem hit_pos {s p : ByteArray} {i : Nat} (h : hit s p i = true) : 0 < p.size ∧ matchAt s p i = true := by simpa [hit] using h
theorem match_eq {s p : ByteArray} {i : Nat} (h : matchAt s p i = true) : s.extract i (i + p.size) = p := by
  have h2 : (s.extract i (i + p.size)).toList = p.toList := by simpa [matchAt] using h
  rw [ByteArray.toList_eq, ByteArray.toList_eq] at h2
  have h3 := Array.toList_inj.1 h2
  cases hs : s.extract i (i + p.size) with | mk a => cases p with | mk b => rw [hs] at h3; exact congrArg ByteArray.mk h3
theorem match_room {s p : ByteArray} {i : Nat} (h : matchAt s p i = true) (h0 : 0 < p.size) : i + p.size ≤ s.size := by
  have := congrArg ByteArray.size (match_eq h)
  rw [ByteArray.size_extract] at this
  omega
theorem hit_out (s p : ByteArray) (i : Nat) (h : s.size < i + p.size) : hit s p i = false := by
  cases e : hit s p i with
  | false => rfl
  | true => obtain ⟨h1, h2⟩ := hit_pos e; have := match_room h2 h1; omega
theorem hit_empty (s p : ByteArray) (i : Nat) (h : p.size = 0) : hit s p i = false := by simp [hit, h]
theorem idx_none (s p : ByteArray) : ∀ d i, (∀ j, i ≤ j → hit s p j = false) → idxFrom s p d i = 0 := by
  intro d
  induction d with
  | zero => intro i _; rfl
  | succ d ih => intro i h; simp only [idxFrom]; rw [h i (Nat.le_refl _), if_neg (by decide)]; exact ih _ (fun j hj => h j (by omega))
theorem idx_more (s p : ByteArray) (m : Nat) : ∀ d i, (∀ j, i + d ≤ j → hit s p j = false) → idxFrom s p (d + m) i = idxFrom s p d i := by
  intro d
  induction d with
  | zero => intro i h; rw [Nat.zero_add]; exact idx_none s p m i (fun j hj => h j (by omega))
  | succ d ih =>
    intro i h
    rw [show d + 1 + m = (d + m) + 1 by omega]
    simp only [idxFrom]
    rw [ih (i + 1) (fun j hj => h j (by omega))]
theorem tal_none (s p : ByteArray) : ∀ d i, (∀ j, i ≤ j → hit s p j = false) → tallyFrom s p d i = 0 := by
  intro d
  induction d with
  | zero => intro i _; rfl
  | succ d ih => intro i h; simp only [tallyFrom]; rw [h i (Nat.le_refl _), if_neg (by decide), ih _ (fun j hj => h j (by omega))]; rfl
theorem tal_more (s p : ByteArray) (m : Nat) : ∀ d i, (∀ j, i + d ≤ j → hit s p j = false) → tallyFrom s p (d + m) i = tallyFrom s p d i := by
  intro d
  induction d with
  | zero => intro i h; rw [Nat.zero_add]; exact tal_none s p m i (fun j hj => h j (by omega))
  | succ d ih =>
    intro i h
    rw [show d + 1 + m = (d + m) + 1 by omega]
    simp only [tallyFrom]
    rw [ih (i + 1) (fun j hj => h j (by omega))]
theorem idx_all (s p : ByteArray) : (if p.size ≤ s.size then idxFrom s p (s.size - p.size + 1) 0 else 0) = idxFrom s p s.size 0 := by
  by_cases h : p.size ≤ s.size
  · rw [if_pos h]
    by_cases h0 : p.size = 0
    · rw [idx_none s p _ 0 (fun j _ => hit_empty s p j h0), idx_none s p _ 0 (fun j _ => hit_empty s p j h0)]
    · have := idx_more s p (p.size - 1) (s.size - p.size + 1) 0 (fun j hj => hit_out s p j (by omega))
      rw [show s.size - p.size + 1 + (p.size - 1) = s.size by omega] at this
      exact this.symm
  · rw [if_neg h, idx_none s p _ 0 (fun j _ => hit_out s p j (by omega))]
theorem tal_all (s p : ByteArray) : (if p.size ≤ s.size then tallyFrom s p (s.size - p.size + 1) 0 else 0) = tallyFrom s p s.size 0 := by
  by_cases h : p.size ≤ s.size
  · rw [if_pos h]
    by_cases h0 : p.size = 0
    · rw [tal_none s p _ 0 (fun j _ => hit_empty s p j h0), tal_none s p _ 0 (fun j _ => hit_empty s p j h0)]
    · have := tal_more s p (p.size - 1) (s.size - p.size + 1) 0 (fun j hj => hit_out s p j (by omega))
      rw [show s.size - p.size + 1 + (p.size - 1) = s.size by omega] at this
      exact this.symm
  · rw [if_neg h, tal_none s p _ 0 (fun j _ => hit_out s p j (by omega))]
theorem idx_found (s p : ByteArray) : ∀ d i, idxFrom s p d i = 0 ∨ ∃ j, i ≤ j ∧ j < i + d ∧ idxFrom s p d i = (j : Int) + 1 ∧ hit s p j = true ∧ ∀ m, i ≤ m → m < j → hit s p m = false := by
  intro d
  induction d with
  | zero => intro i; exact .inl rfl
  | succ d ih =>
    intro i
    simp only [idxFrom]
    cases h : hit s p i with
    | true => exact .inr ⟨i, Nat.le_refl _, by omega, by rw [if_pos rfl], h, fun m h1 h2 => by omega⟩
    | false =>
      rw [if_neg (by decide)]
      rcases ih (i + 1) with h0 | ⟨j, h1, h2, h3, h4, h5⟩
      · exact .inl h0
      · refine .inr ⟨j, by omega, by omega, h3, h4, fun m h6 h7 => ?_⟩
        by_cases hm : m = i
        · subst hm; exact h
        · exact h5 m (by omega) h7
def idxR (x y : S23) : Int × Int := if askedI [x, y] = 0 then (idxFrom x.f3 y.f3 x.f3.size 0, 0) else (0, askedI [x, y])
def talR (x y : S23) : Int × Int := if askedI [x, y] = 0 then (tallyFrom x.f3 y.f3 x.f3.size 0, 0) else (0, askedI [x, y])
theorem index_is (x y : S23) : bits_Index.f x.f0 x.f1 x.f2 x.f3 y.f0 y.f1 y.f2 y.f3 = some (idxR x y) := by
  unfold bits_Index.f idxR
  by_cases h : askedI [x, y] = 0
  · rw [if_pos h, if_pos h, idx_all]
  · rw [if_neg h, if_neg h]
theorem tally_is (x y : S23) : bits_Tally.f x.f0 x.f1 x.f2 x.f3 y.f0 y.f1 y.f2 y.f3 = some (talR x y) := by
  unfold bits_Tally.f talR
  by_cases h : askedI [x, y] = 0
  · rw [if_pos h, if_pos h, tal_all]
  · rw [if_neg h, if_neg h]
/-! ### the reference's Index and Tally -/
theorem neNil (p : ByteArray) : (p.toList != ([] : List UInt8)) = decide (0 < p.size) := by
  by_cases h : 0 < p.size
  · rw [decide_eq_true h, bne_iff_ne]; exact toList_ne p h
  · rw [decide_eq_false h, toList_nil p (by omega)]; rfl
theorem at_hit (s p : ByteArray) (i : Nat) (hs : s.size ≤ 250) (hp : p.size ≤ 250) (hi : i < s.size) (h0 : 0 < p.size) : ironbarkref05_at.f s p (i : Int) = some (hit s p i) := by
  unfold ironbarkref05_at.f
  have e : wrap64 ((i : Int) + (p.size : Int)) = ((i + p.size : Nat) : Int) := by unfold wrap64; omega
  rw [e]
  by_cases h : i + p.size ≤ s.size
  · rw [if_pos (by omega), if_pos (by omega), if_pos (by omega)]
    simp only [Int.toNat_natCast, hit, decide_eq_true h0, matchAt, Bool.true_and]
  · rw [if_neg (by omega), hit_out s p i (by omega)]
theorem rindex_l0 (x y : S23) (hx : x.f3.size ≤ 250) (hy : y.f3.size ≤ 250) : ∀ d i : Nat, i + d = x.f3.size →
    Ev (fun k => ironbarkref05_Index.l0 k (i : Int) x.f0 x.f1 x.f2 x.f3 y.f0 y.f1 y.f2 y.f3) (idxFrom x.f3 y.f3 d i, 0) := by
  intro d
  induction d with
  | zero =>
    intro i h
    refine Ev.step (f := fun k => ironbarkref05_Index.j1 k (i : Int) false x.f0 x.f1 x.f2 x.f3 y.f0 y.f1 y.f2 y.f3) (fun k => by simp only [ironbarkref05_Index.l0]; rw [if_neg (by omega)]) ?_
    exact Ev.step (f := fun _ => some (0, 0)) (fun k => by simp only [ironbarkref05_Index.j1]; rw [if_neg (by decide)]) (Ev.now _)
  | succ d ih =>
    intro i h
    have hi : i < x.f3.size := by omega
    refine Ev.step (f := fun k => ironbarkref05_Index.j1 k (i : Int) (decide (0 < y.f3.size)) x.f0 x.f1 x.f2 x.f3 y.f0 y.f1 y.f2 y.f3) (fun k => by simp only [ironbarkref05_Index.l0]; rw [if_pos (by omega), neNil]) ?_
    by_cases h0 : 0 < y.f3.size
    · rw [decide_eq_true h0]
      have e : ∀ k, ironbarkref05_Index.j1 (k + 1) (i : Int) true x.f0 x.f1 x.f2 x.f3 y.f0 y.f1 y.f2 y.f3 = if hit x.f3 y.f3 i = true then some (((i : Int) + 1), 0) else ironbarkref05_Index.l0 k ((i + 1 : Nat) : Int) x.f0 x.f1 x.f2 x.f3 y.f0 y.f1 y.f2 y.f3 := fun k => by
        simp only [ironbarkref05_Index.j1]
        rw [if_pos trivial, at_hit _ _ i hx hy hi h0, wrapN hi (by omega)]
        simp only [Option.bind_some]; rfl
      simp only [idxFrom]
      cases hh : hit x.f3 y.f3 i with
      | true => rw [if_pos rfl]; exact Ev.step (f := fun _ => some ((i : Int) + 1, 0)) (fun k => by rw [e, if_pos hh]) (Ev.now _)
      | false => rw [if_neg (by decide)]; exact Ev.step (fun k => by rw [e, if_neg (by rw [hh]; decide)]) (ih (i + 1) (by omega))
    · rw [decide_eq_false h0, idx_none _ _ _ _ (fun j _ => hit_empty _ _ j (by omega))]
      exact Ev.step (f := fun _ => some (0, 0)) (fun k => by simp only [ironbarkref05_Index.j1]; rw [if_neg (by decide)]) (Ev.now _)
theorem rindex_ev (x y : S23) : Ev (fun k => ironbarkref05_Index.f k x.f0 x.f1 x.f2 x.f3 y.f0 y.f1 y.f2 y.f3) (idxR x y) := by
  unfold ironbarkref05_Index.f idxR
  simp only [ironbarkref05_stringsT.f, Option.bind_some, strings_asked]
  by_cases h : askedI [x, y] = 0
  · obtain ⟨ha, hb, hk⟩ := askedI_two h
    rw [if_pos h]
    refine Ev.congr (fun k => if_pos h) ?_
    exact rindex_l0 x y (okV_parts ha).2.2.2.1 (okV_parts hb).2.2.2.1 _ 0 (by omega)
  · rw [if_neg h]
    exact Ev.congr (f := fun _ => some (0, askedI [x, y])) (fun k => if_neg h) (Ev.now _)
theorem rtally_l0 (x y : S23) (hx : x.f3.size ≤ 250) (hy : y.f3.size ≤ 250) : ∀ (d i : Nat) (c : Int), i + d = x.f3.size → 0 ≤ c → c ≤ i →
    Ev (fun k => ironbarkref05_Tally.l0 k c (i : Int) x.f0 x.f1 x.f2 x.f3 y.f0 y.f1 y.f2 y.f3) (c + tallyFrom x.f3 y.f3 d i, 0) := by
  intro d
  induction d with
  | zero =>
    intro i c h h1 h2
    refine Ev.step (f := fun k => ironbarkref05_Tally.j1 k c (i : Int) false x.f0 x.f1 x.f2 x.f3 y.f0 y.f1 y.f2 y.f3) (fun k => by simp only [ironbarkref05_Tally.l0]; rw [if_neg (by omega)]) ?_
    refine Ev.step (f := fun _ => some (c, 0)) (fun k => by simp only [ironbarkref05_Tally.j1]; rw [if_neg (by decide)]) ?_
    simp only [tallyFrom, Int.add_zero]; exact Ev.now _
  | succ d ih =>
    intro i c h h1 h2
    have hi : i < x.f3.size := by omega
    refine Ev.step (f := fun k => ironbarkref05_Tally.j1 k c (i : Int) (decide (0 < y.f3.size)) x.f0 x.f1 x.f2 x.f3 y.f0 y.f1 y.f2 y.f3) (fun k => by simp only [ironbarkref05_Tally.l0]; rw [if_pos (by omega), neNil]) ?_
    by_cases h0 : 0 < y.f3.size
    · rw [decide_eq_true h0]
      have e : ∀ k, ironbarkref05_Tally.j1 (k + 1) c (i : Int) true x.f0 x.f1 x.f2 x.f3 y.f0 y.f1 y.f2 y.f3 = if hit x.f3 y.f3 i = true then ironbarkref05_Tally.l0 k (c + 1) ((i + 1 : Nat) : Int) x.f0 x.f1 x.f2 x.f3 y.f0 y.f1 y.f2 y.f3 else ironbarkref05_Tally.l0 k c ((i + 1 : Nat) : Int) x.f0 x.f1 x.f2 x.f3 y.f0 y.f1 y.f2 y.f3 := fun k => by
        simp only [ironbarkref05_Tally.j1]
        rw [if_pos trivial, at_hit _ _ i hx hy hi h0, wrapN hi (by omega), show wrap64 (c + 1) = c + 1 by unfold wrap64; omega]
        simp only [Option.bind_some]
      simp only [tallyFrom]
      cases hh : hit x.f3 y.f3 i with
      | true => rw [if_pos rfl, ← Int.add_assoc]; exact Ev.step (fun k => by rw [e, if_pos hh]) (ih (i + 1) (c + 1) (by omega) (by omega) (by omega))
      | false => rw [if_neg (by decide), Int.zero_add]; exact Ev.step (fun k => by rw [e, if_neg (by rw [hh]; decide)]) (ih (i + 1) c (by omega) h1 (by omega))
    · rw [decide_eq_false h0, tal_none _ _ _ _ (fun j _ => hit_empty _ _ j (by omega)), Int.add_zero]
      exact Ev.step (f := fun _ => some (c, 0)) (fun k => by simp only [ironbarkref05_Tally.j1]; rw [if_neg (by decide)]) (Ev.now _)
theorem rtally_ev (x y : S23) : Ev (fun k => ironbarkref05_Tally.f k x.f0 x.f1 x.f2 x.f3 y.f0 y.f1 y.f2 y.f3) (talR x y) := by
  unfold ironbarkref05_Tally.f talR
  simp only [ironbarkref05_stringsT.f, Option.bind_some, strings_asked]
  by_cases h : askedI [x, y] = 0
  · obtain ⟨ha, hb, hk⟩ := askedI_two h
    rw [if_pos h]
    refine Ev.congr (fun k => if_pos h) ?_
    have := rtally_l0 x y (okV_parts ha).2.2.2.1 (okV_parts hb).2.2.2.1 x.f3.size 0 0 (by omega) (Int.le_refl _) (by simp)
    rw [Int.zero_add] at this
    exact this
  · rw [if_neg h]
    exact Ev.congr (f := fun _ => some (0, askedI [x, y])) (fun k => if_neg h) (Ev.now _)
/-! ### Verify and Search -/
theorem indexByte_inL (c : Int) (h0 : 0 ≤ c) (h1 : c ≤ 255) : ∀ l : List UInt8, (0 ≤ Lib.indexByte l c.toNat.toUInt8) ↔ inL c l ≠ 0
  | [] => by simp [Lib.indexByte, inL]
  | b :: l => by
    have ih := indexByte_inL c h0 h1 l
    have hg := Lib.indexByte_ge l c.toNat.toUInt8
    have hr := inL_range c l
    simp only [Lib.indexByte, inL, addI]
    have hb : (b == c.toNat.toUInt8) = decide ((b.toNat : Int) = c) := by
      by_cases hh : (b.toNat : Int) = c
      · rw [decide_eq_true hh, beq_iff_eq]; apply UInt8.toNat.inj; simp; omega
      · rw [decide_eq_false hh, beq_eq_false_iff_ne]; intro e; apply hh; rw [e]; simp; omega
    rw [hb]
    by_cases hh : (b.toNat : Int) = c
    · rw [decide_eq_true hh, if_pos rfl, if_pos hh]; simp
    · rw [decide_eq_false hh, if_neg (by decide), if_neg hh]
      by_cases hz : inL c l = 0
      · rw [if_pos hz]
        have : Lib.indexByte l c.toNat.toUInt8 = -1 := by
          rcases Int.lt_or_le (Lib.indexByte l c.toNat.toUInt8) 0 with h | h
          · omega
          · exact absurd hz (ih.1 h)
        rw [this]; simp
      · rw [if_neg hz]
        have := ih.2 hz
        have h3 : ¬ (Lib.indexByte l c.toNat.toUInt8 == -1) = true := by rw [beq_iff_eq]; omega
        rw [if_neg h3]
        constructor
        · intro _; omega
        · intro _; omega
/-- The least place whose item is in the set (b) or is not. -/
def firstF (b : Bool) (s p : ByteArray) : Nat → Nat → Int
  | 0, _ => 0
  | d + 1, i => if (decide (inI p (bt s (i : Int)) ≠ 0) == b) = true then (i : Int) + 1 else firstF b s p d (i + 1)
theorem first_l0 (b : Bool) (x y : S23) (hx : x.f3.size ≤ 250) : ∀ d i : Nat, i + d = x.f3.size →
    Ev (fun k => bits_first.l0 k b (x.f3.size : Int) (i : Int) x.f0 x.f1 x.f2 x.f3 y.f0 y.f1 y.f2 y.f3) (firstF b x.f3 y.f3 d i, 0) := by
  intro d
  induction d with
  | zero =>
    intro i h
    exact Ev.step (f := fun _ => some (0, 0)) (fun k => by simp only [bits_first.l0]; rw [if_neg (by omega)]) (Ev.now _)
  | succ d ih =>
    intro i h
    have hi : i < x.f3.size := by omega
    have e : ∀ k, bits_first.l0 (k + 1) b (x.f3.size : Int) (i : Int) x.f0 x.f1 x.f2 x.f3 y.f0 y.f1 y.f2 y.f3 = if (decide (inI y.f3 (bt x.f3 (i : Int)) ≠ 0) == b) = true then some ((i : Int) + 1, 0) else bits_first.l0 k b (x.f3.size : Int) ((i + 1 : Nat) : Int) x.f0 x.f1 x.f2 x.f3 y.f0 y.f1 y.f2 y.f3 := fun k => by
      simp only [bits_first.l0]
      rw [if_pos (by omega), if_pos (by omega), if_pos (by omega), wrapN hi (by omega)]
      simp only [strings_IndexByte.f, Option.bind_some]
      have hr := bt_range x.f3 (i : Int)
      have : decide (Lib.indexByte y.f3.data.toList (bt x.f3 (i : Int)).toNat.toUInt8 ≥ 0) = decide (inI y.f3 (bt x.f3 (i : Int)) ≠ 0) := decide_eq_decide.2 (indexByte_inL _ hr.1 hr.2 _)
      rw [this]; rfl
    simp only [firstF]
    cases hc : (decide (inI y.f3 (bt x.f3 (i : Int)) ≠ 0) == b) with
    | true => rw [if_pos rfl]; exact Ev.step (f := fun _ => some ((i : Int) + 1, 0)) (fun k => by rw [e, if_pos hc]) (Ev.now _)
    | false => rw [if_neg (by decide)]; exact Ev.step (fun k => by rw [e, if_neg (by rw [hc]; decide)]) (ih (i + 1) (by omega))
def firR (b : Bool) (x y : S23) : Int × Int := if askedI [x, y] = 0 then (firstF b x.f3 y.f3 x.f3.size 0, 0) else (0, askedI [x, y])
theorem first_ev (b : Bool) (x y : S23) : Ev (fun k => bits_first.f k x.f0 x.f1 x.f2 x.f3 y.f0 y.f1 y.f2 y.f3 b) (firR b x y) := by
  unfold bits_first.f firR
  simp only [bits_askedT.f, Option.bind_some]
  by_cases h : askedI [x, y] = 0
  · obtain ⟨ha, hb, hk⟩ := askedI_two h
    rw [if_pos h]
    refine Ev.congr (fun k => if_pos h) ?_
    exact first_l0 b x y (okV_parts ha).2.2.2.1 _ 0 (by omega)
  · rw [if_neg h]
    exact Ev.congr (f := fun _ => some (0, askedI [x, y])) (fun k => if_neg h) (Ev.now _)
theorem verify_ev (x y : S23) : Ev (fun k => bits_Verify.f k x.f0 x.f1 x.f2 x.f3 y.f0 y.f1 y.f2 y.f3) (firR false x y) := by
  unfold bits_Verify.f; exact Ev.bind (first_ev false x y) (Ev.now _)
theorem search_ev (x y : S23) : Ev (fun k => bits_Search.f k x.f0 x.f1 x.f2 x.f3 y.f0 y.f1 y.f2 y.f3) (firR true x y) := by
  unfold bits_Search.f; exact Ev.bind (first_ev true x y) (Ev.now _)
theorem rverify_l0 (x y : S23) (hx : x.f3.size ≤ 250) (hy : y.f3.size ≤ 250) : ∀ d i : Nat, i + d = x.f3.size →
    Ev (fun k => ironbarkref05_Verify.l0 k (i : Int) x.f0 x.f1 x.f2 x.f3 y.f0 y.f1 y.f2 y.f3) (firstF false x.f3 y.f3 d i, 0) := by
  intro d
  induction d with
  | zero =>
    intro i h
    exact Ev.step (f := fun _ => some (0, 0)) (fun k => by simp only [ironbarkref05_Verify.l0]; rw [if_neg (by omega)]) (Ev.now _)
  | succ d ih =>
    intro i h
    have hi : i < x.f3.size := by omega
    have e : ∀ k, ironbarkref05_Verify.l0 (k + 1) (i : Int) x.f0 x.f1 x.f2 x.f3 y.f0 y.f1 y.f2 y.f3 = if inI y.f3 (bt x.f3 (i : Int)) = 0 then some ((i : Int) + 1, 0) else ironbarkref05_Verify.l0 k ((i + 1 : Nat) : Int) x.f0 x.f1 x.f2 x.f3 y.f0 y.f1 y.f2 y.f3 := fun k => by
      simp only [ironbarkref05_Verify.l0, ironbarkref05_inT.f]
      rw [if_pos (by omega), if_pos (by omega), wrapN hi (by omega), if_pos (by omega)]
      simp only [Option.bind_some]; rfl
    simp only [firstF]
    by_cases hc : inI y.f3 (bt x.f3 (i : Int)) = 0
    · rw [if_pos (by simp [hc])]; exact Ev.step (f := fun _ => some ((i : Int) + 1, 0)) (fun k => by rw [e, if_pos hc]) (Ev.now _)
    · rw [if_neg (by simp [hc])]; exact Ev.step (fun k => by rw [e, if_neg hc]) (ih (i + 1) (by omega))
theorem rverify_ev (x y : S23) : Ev (fun k => ironbarkref05_Verify.f k x.f0 x.f1 x.f2 x.f3 y.f0 y.f1 y.f2 y.f3) (firR false x y) := by
  unfold ironbarkref05_Verify.f firR
  simp only [ironbarkref05_stringsT.f, Option.bind_some, strings_asked]
  by_cases h : askedI [x, y] = 0
  · obtain ⟨ha, hb, hk⟩ := askedI_two h
    rw [if_pos h]
    refine Ev.congr (fun k => if_pos h) ?_
    exact rverify_l0 x y (okV_parts ha).2.2.2.1 (okV_parts hb).2.2.2.1 _ 0 (by omega)
  · rw [if_neg h]
    exact Ev.congr (f := fun _ => some (0, askedI [x, y])) (fun k => if_neg h) (Ev.now _)
theorem rsearch_l0 (x y : S23) (hx : x.f3.size ≤ 250) (hy : y.f3.size ≤ 250) : ∀ d i : Nat, i + d = x.f3.size →
    Ev (fun k => ironbarkref05_Search.l0 k (i : Int) x.f0 x.f1 x.f2 x.f3 y.f0 y.f1 y.f2 y.f3) (firstF true x.f3 y.f3 d i, 0) := by
  intro d
  induction d with
  | zero =>
    intro i h
    exact Ev.step (f := fun _ => some (0, 0)) (fun k => by simp only [ironbarkref05_Search.l0]; rw [if_neg (by omega)]) (Ev.now _)
  | succ d ih =>
    intro i h
    have hi : i < x.f3.size := by omega
    have hr := inL_range (bt x.f3 (i : Int)) y.f3.data.toList
    have e : ∀ k, ironbarkref05_Search.l0 (k + 1) (i : Int) x.f0 x.f1 x.f2 x.f3 y.f0 y.f1 y.f2 y.f3 = if inI y.f3 (bt x.f3 (i : Int)) > 0 then some ((i : Int) + 1, 0) else ironbarkref05_Search.l0 k ((i + 1 : Nat) : Int) x.f0 x.f1 x.f2 x.f3 y.f0 y.f1 y.f2 y.f3 := fun k => by
      simp only [ironbarkref05_Search.l0, ironbarkref05_inT.f]
      rw [if_pos (by omega), if_pos (by omega), wrapN hi (by omega), if_pos (by omega)]
      simp only [Option.bind_some]; rfl
    have hr2 : 0 ≤ inI y.f3 (bt x.f3 (i : Int)) := hr.1
    simp only [firstF]
    by_cases hc : inI y.f3 (bt x.f3 (i : Int)) = 0
    · rw [if_neg (by simp [hc])]; exact Ev.step (fun k => by rw [e, if_neg (by omega)]) (ih (i + 1) (by omega))
    · rw [if_pos (by simp [hc])]; exact Ev.step (f := fun _ => some ((i : Int) + 1, 0)) (fun k => by rw [e, if_pos (by omega)]) (Ev.now _)
theorem rsearch_ev (x y : S23) : Ev (fun k => ironbarkref05_Search.f k x.f0 x.f1 x.f2 x.f3 y.f0 y.f1 y.f2 y.f3) (firR true x y) := by
  unfold ironbarkref05_Search.f firR
  simp only [ironbarkref05_stringsT.f, Option.bind_some, strings_asked]
  by_cases h : askedI [x, y] = 0
  · obtain ⟨ha, hb, hk⟩ := askedI_two h
    rw [if_pos h]
    refine Ev.congr (fun k => if_pos h) ?_
    exact rsearch_l0 x y (okV_parts ha).2.2.2.1 (okV_parts hb).2.2.2.1 _ 0 (by omega)
  · rw [if_neg h]
    exact Ev.congr (f := fun _ => some (0, askedI [x, y])) (fun k => if_neg h) (Ev.now _)
/-! ### Sub at what was found -/
theorem far_small (n : Int) (h : 0 ≤ n) (h2 : n ≤ 1000) : farI n = false := by simp [farI]; omega
theorem okS_sub (n : Int) (s : ByteArray) (a b : Nat) (h : okS n s = true) : okS n (s.extract a b) = true := by
  rw [okS_iff] at h ⊢
  intro k hk
  rw [ByteArray.getElem_extract]
  exact h _ _
theorem part_in (l fr len : Nat) (h : fr + len ≤ l) (hl : l ≤ 250) : bits_part.f (l : Int) ((fr : Int) + 1) (len : Int) = some ((fr : Int), ((fr + len : Nat) : Int), true) := by
  unfold bits_part.f
  have e1 : wrap64 ((mx ((fr : Int) + 1) 1) - 1) = fr := by unfold wrap64 mx; split <;> omega
  have e2 : wrap64 (wrap64 ((fr : Int) + 1 + (len : Int)) - 1) = ((fr + len : Nat) : Int) := by unfold wrap64; omega
  rw [if_pos (by omega), if_pos (by omega), e1, e2]
  have e3 : mn (fr : Int) (l : Int) = fr := by unfold mn; split <;> omega
  have e4 : mx (mn ((fr + len : Nat) : Int) (l : Int)) (fr : Int) = ((fr + len : Nat) : Int) := by unfold mx mn; repeat' split <;> omega
  rw [e3, e4, decide_eq_true (by omega)]
theorem sub_in (x : S23) (hx : okV x = true) (fr len : Nat) (h : fr + len ≤ x.f3.size) : bits_Sub.f x.f0 x.f1 x.f2 x.f3 ((fr : Int) + 1) (len : Int) = some (x.f0, 0, 0, x.f3.extract fr (fr + len), 0, 0) := by
  have hs := (okV_parts hx).2.2.2.1
  unfold bits_Sub.f
  have hv : bits_Valid.f x.f0 x.f1 x.f2 x.f3 = some true := by unfold bits_Valid.f; exact congrArg some hx
  rw [hv]
  simp only [Option.bind_some, if_true, bits_farT.f]
  rw [if_neg (by simp [far_small ((fr : Int) + 1) (by omega) (by omega), far_small (len : Int) (by omega) (by omega)]), part_in _ _ _ h hs]
  simp only [Option.bind_some]
  rw [if_pos (by omega), if_pos (by omega), if_pos (by omega)]
  simp only [bits_with.f, bits_cond.f, Int.toNat_natCast, Option.bind_some, if_true]
theorem hit_sub (s p : ByteArray) (m j : Nat) (hm : m ≤ s.size) (h : j + p.size ≤ m) : hit (s.extract 0 m) p j = hit s p j := by
  unfold hit matchAt
  congr 3
  apply bytes_ext
  · simp only [ByteArray.size_extract]; omega
  · intro i hi
    simp only [ByteArray.size_extract] at hi
    rw [btN _ i (by simp only [ByteArray.size_extract]; omega), btN _ i (by simp only [ByteArray.size_extract]; omega), ByteArray.getElem_extract, ByteArray.getElem_extract, ByteArray.getElem_extract]
    simp
theorem asked_zeroF {a b : S23} (ha : okV a = true) (hb : okV b = true) (h : a.f0 = b.f0) : askedI [a, b] = 0 := by
  simp [askedI, ha, hb, h]
/-- Behind the head of what was found, nothing lesser is found. -/
theorem index_before (x y : S23) (h : askedI [x, y] = 0) (j : Nat) (hh : hit x.f3 y.f3 j = true) (hmin : ∀ m, m < j → hit x.f3 y.f3 m = false) :
    bits_Index.f x.f0 0 0 (x.f3.extract 0 (j + y.f3.size - 1)) y.f0 y.f1 y.f2 y.f3 = some (0, 0) := by
  obtain ⟨ha, hb, hk⟩ := askedI_two h
  obtain ⟨h1, h2⟩ := hit_pos hh
  have hroom := match_room h2 h1
  obtain ⟨k1, k2, k3, k4, k5⟩ := okV_parts ha
  have hsz : (x.f3.extract 0 (j + y.f3.size - 1)).size = j + y.f3.size - 1 := by rw [ByteArray.size_extract]; omega
  have hz : okV ⟨x.f0, 0, 0, x.f3.extract 0 (j + y.f3.size - 1)⟩ = true := by
    simp only [okV, validB, okS_sub _ _ _ _ k5, hsz]
    rw [decide_eq_true (by omega)]
    rcases k1 with e | e <;> rw [e] <;> rfl
  have hz2 := asked_zeroF hz hb hk
  have := index_is ⟨x.f0, 0, 0, x.f3.extract 0 (j + y.f3.size - 1)⟩ y
  rw [this]
  unfold idxR
  rw [if_pos hz2]
  congr 1
  refine Prod.ext ?_ rfl
  show idxFrom _ _ _ _ = 0
  refine idx_none _ _ _ 0 (fun m _ => ?_)
  by_cases hm : m + y.f3.size ≤ j + y.f3.size - 1
  · rw [hit_sub _ _ _ _ (by omega) hm]; exact hmin m (by omega)
  · exact hit_out _ _ _ (by rw [hsz]; omega)
theorem finds_j4 (x y : S23) : Ev (fun k => ironbarklaw05_BitsFinds.j4 k false x.f0 x.f1 x.f2 x.f3 y.f0 y.f1 y.f2 y.f3) true := by
  refine Ev.step (f := fun k => (bits_Search.f k x.f0 x.f1 x.f2 x.f3 y.f0 y.f1 y.f2 y.f3).bind fun bt258 => (ironbarkref05_Search.f k x.f0 x.f1 x.f2 x.f3 y.f0 y.f1 y.f2 y.f3).bind fun bt260 => if bt258.1 = bt260.1 then if bt258.2 = bt260.2 then some true else some false else some false) (fun k => by
    simp only [ironbarklaw05_BitsFinds.j4, awake_trueF, Option.bind_some]; rw [if_neg (by decide)]) ?_
  refine Ev.bind (search_ev x y) (Ev.bind (rsearch_ev x y) ?_)
  simp only [if_true]; exact Ev.now _
theorem finds_j3 (x y : S23) : Ev (fun k => ironbarklaw05_BitsFinds.j3 k false x.f0 x.f1 x.f2 x.f3 y.f0 y.f1 y.f2 y.f3) true := by
  refine Ev.step (f := fun k => (bits_Verify.f k x.f0 x.f1 x.f2 x.f3 y.f0 y.f1 y.f2 y.f3).bind fun bt254 => (ironbarkref05_Verify.f k x.f0 x.f1 x.f2 x.f3 y.f0 y.f1 y.f2 y.f3).bind fun bt256 => if bt254.1 = bt256.1 then ironbarklaw05_BitsFinds.j4 k (bt254.2 != bt256.2) x.f0 x.f1 x.f2 x.f3 y.f0 y.f1 y.f2 y.f3 else ironbarklaw05_BitsFinds.j4 k true x.f0 x.f1 x.f2 x.f3 y.f0 y.f1 y.f2 y.f3) (fun k => by
    simp only [ironbarklaw05_BitsFinds.j3]; rw [if_neg (by decide)]) ?_
  refine Ev.bind (verify_ev x y) (Ev.bind (rverify_ev x y) ?_)
  simp only [if_true, bne_self_eq_false]; exact finds_j4 x y
theorem finds_j2 (x y : S23) : Ev (fun k => ironbarklaw05_BitsFinds.j2 k x.f0 x.f1 x.f2 x.f3 y.f0 y.f1 y.f2 y.f3) true := by
  refine Ev.step (f := fun k => (ironbarkref05_Tally.f k x.f0 x.f1 x.f2 x.f3 y.f0 y.f1 y.f2 y.f3).bind fun bt252 => if (talR x y).1 = bt252.1 then ironbarklaw05_BitsFinds.j3 k ((talR x y).2 != bt252.2) x.f0 x.f1 x.f2 x.f3 y.f0 y.f1 y.f2 y.f3 else ironbarklaw05_BitsFinds.j3 k true x.f0 x.f1 x.f2 x.f3 y.f0 y.f1 y.f2 y.f3) (fun k => by
    simp only [ironbarklaw05_BitsFinds.j2, tally_is, Option.bind_some]) ?_
  refine Ev.bind (rtally_ev x y) ?_
  simp only [if_true, bne_self_eq_false]; exact finds_j3 x y
theorem wrap_two {j n : Nat} (h1 : j ≤ 1000) (h2 : n ≤ 1000) (h3 : 0 < n) : wrap64 (wrap64 ((j : Int) + 1 + (n : Int)) - 2) = ((j + n - 1 : Nat) : Int) := by
  have e1 : wrap64 ((j : Int) + 1 + (n : Int)) = (j : Int) + 1 + (n : Int) := by unfold wrap64; omega
  rw [e1]; unfold wrap64; omega
set_option maxHeartbeats 1000000 in
theorem finds_ev (x y : S23) : Ev (fun k => ironbarklaw05_BitsFinds.f k x.f0 x.f1 x.f2 x.f3 y.f0 y.f1 y.f2 y.f3) true := by
  unfold ironbarklaw05_BitsFinds.f
  simp only [ironbarklaw05_lightT.f, Option.bind_some, awake_trueF, index_is]
  split
  · refine Ev.bind (rindex_ev x y) ?_
    simp only [if_true, bne_self_eq_false]
    have hj0 : (¬ (idxR x y).1 > 0) → Ev (fun k => ironbarklaw05_BitsFinds.j0 k (idxR x y).1 false x.f0 x.f1 x.f2 x.f3 y.f0 y.f1 y.f2 y.f3) true := fun h =>
      Ev.step (fun k => by simp only [ironbarklaw05_BitsFinds.j0]; rw [if_neg (by decide), if_neg h]) (finds_j2 x y)
    by_cases h : askedI [x, y] = 0
    · obtain ⟨ha, hb, hk⟩ := askedI_two h
      have hx := (okV_parts ha).2.2.2.1
      have hy := (okV_parts hb).2.2.2.1
      have e : (idxR x y).1 = idxFrom x.f3 y.f3 x.f3.size 0 := by simp [idxR, h]
      rcases idx_found x.f3 y.f3 x.f3.size 0 with h0 | ⟨j, h1, h2, h3, h4, h5⟩
      · exact hj0 (by rw [e, h0]; omega)
      · obtain ⟨p1, p2⟩ := hit_pos h4
        have hroom := match_room p2 p1
        have hs := sub_in x ha j y.f3.size hroom
        have hme := match_eq p2
        rw [hme] at hs
        have y1 := (okV_parts hb).2.1
        have y2 := (okV_parts hb).2.2.1
        rw [e, h3]
        refine Ev.step (f := fun k => ironbarklaw05_BitsFinds.j1 k ((j : Int) + 1) false x.f0 x.f1 x.f2 x.f3 y.f0 y.f1 y.f2 y.f3) (fun k => by
          simp only [ironbarklaw05_BitsFinds.j0]
          rw [if_neg (by decide), if_pos (by omega), hs]
          simp only [Option.bind_some, y1, y2, hk, beq_self_eq_true, Bool.not_true, Bool.or_self, if_true]
          rw [if_neg (by decide)]; rfl) ?_
        have hs2 : bits_Sub.f x.f0 x.f1 x.f2 x.f3 1 ((j + y.f3.size - 1 : Nat) : Int) = some (x.f0, 0, 0, x.f3.extract 0 (j + y.f3.size - 1), 0, 0) := by
          have h9 := sub_in x ha 0 (j + y.f3.size - 1) (by omega)
          rw [Nat.zero_add] at h9
          exact h9
        have ew : wrap64 (wrap64 ((j : Int) + 1 + (y.f3.size : Int)) - 2) = ((j + y.f3.size - 1 : Nat) : Int) := wrap_two (by omega) (by omega) p1
        have hi := index_before x y h j h4 (fun m hm => h5 m (Nat.zero_le _) hm)
        refine Ev.step (f := fun k => ironbarklaw05_BitsFinds.j2 k x.f0 x.f1 x.f2 x.f3 y.f0 y.f1 y.f2 y.f3) (fun k => by
          simp only [ironbarklaw05_BitsFinds.j1]
          rw [if_neg (by decide), ew]
          rw [hs2]
          simp only [Option.bind_some]
          rw [hi]
          simp only [Option.bind_some, if_true]) (finds_j2 x y)
    · exact hj0 (by simp [idxR, h])
  · exact Ev.now _
theorem BitsFinds_walk (x y : S23) (w : World) (_ : Wf23 x) (_ : Wf23 y) :
    Calls Try.prog 4 #[.agg #[.int .i64 x.f0, .int .i64 x.f1, .int .i64 x.f2, .string x.f3], .agg #[.int .i64 y.f0, .int .i64 y.f1, .int .i64 y.f2, .string y.f3]] w fun e w' => e = .returned (.bool true) ∧ Below w.heap.size w w' := by
  obtain ⟨k, hk⟩ := (finds_ev x y).rounds
  exact ironbarklaw05_BitsFinds.calls k _ _ _ _ _ _ _ _ true w hk
end Go.Proofs.Ytnelblndidciiaa.P
