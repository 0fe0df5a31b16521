/- Plain forms of small loops: asked, light, the reference's Valid and strings. -/
import Derived.Test.YtnelblndidciiaaHb
import Derived.Test.YtnelblndidciiaaA8
import Derived.Test.YtnelblndidciiaaA57
import Derived.Test.YtnelblndidciiaaB55
namespace Go.Proofs.Ytnelblndidciiaa.P
open Go.RowKit Go.Proofs.YtnelblndidciiaaW.PrintWords Go.Proofs.YtnelblndidciiaaW.PrintLast Go.Proofs.YtnelblndidciiaaW.PrintMore
set_option linter.unusedVariables false
set_option linter.unusedSimpArgs false

theorem wrapN {i n : Nat} (h : i < n) (hn : n ≤ 9223372036854775807) : wrap64 ((i : Int) + 1) = ((i + 1 : Nat) : Int) := by
  unfold wrap64; omega
theorem drop_getD {α : Type} (z : α) {l : List α} {i : Nat} (h : i < l.length) : l.drop i = l.getD i z :: l.drop (i + 1) := by
  rw [List.drop_eq_getElem_cons h, List.getD_eq_getElem?_getD, List.getElem?_eq_getElem h]; rfl
theorem rdT (l : List S23) (i : Nat) : rd_T23 l (i : Int) = l.getD i z23 := by simp [rd_T23]
theorem rdI (l : List Int) (i : Nat) : rd l (i : Int) = l.getD i 0 := by simp [rd]

/-! ### asked, logical -/
def okV (v : S23) : Bool := validB v.f0 v.f1 v.f2 v.f3
def askedI (l : List S23) : Int := if l.all okV = true then (if l.all (fun v => v.f0 == (l.getD 0 z23).f0) = true then 0 else 10) else 1

theorem asked_l1 (l : List S23) (hl : l.length ≤ 9223372036854775807) : ∀ d i : Nat, i + d = l.length →
    Ev (fun k => bits_asked.l1 k l l (l.length : Int) (i : Int)) (if (l.drop i).all (fun v => v.f0 == (l.getD 0 z23).f0) = true then 0 else 10) := by
  intro d
  induction d with
  | zero =>
    intro i h
    rw [List.drop_of_length_le (by omega), List.all_nil, if_pos rfl]
    exact Ev.step (f := fun _ => some 0) (fun k => by simp only [bits_asked.l1]; rw [if_neg (by omega)]) (Ev.now _)
  | succ d ih =>
    intro i h
    have hi : i < l.length := by omega
    have e : ∀ k, bits_asked.l1 (k + 1) l l (l.length : Int) (i : Int) = if (l.getD i z23).f0 = (l.getD 0 z23).f0 then bits_asked.l1 k l l (l.length : Int) ((i + 1 : Nat) : Int) else some 10 := fun k => by
      simp only [bits_asked.l1]
      rw [if_pos (by omega), if_pos (by omega), if_pos (by omega), if_pos (by omega), rdT, wrapN hi hl, show rd_T23 l 0 = l.getD 0 z23 from rdT l 0]
    rw [drop_getD z23 hi, List.all_cons]
    by_cases hc : (l.getD i z23).f0 = (l.getD 0 z23).f0
    · rw [beq_iff_eq.2 hc, Bool.true_and]
      exact Ev.step (fun k => by rw [e, if_pos hc]) (ih (i + 1) (by omega))
    · rw [beq_eq_false_iff_ne.2 hc, Bool.false_and, if_neg (by decide)]
      exact Ev.step (f := fun _ => some 10) (fun k => by rw [e, if_neg hc]) (Ev.now _)
theorem asked_l0 (l : List S23) (hl : l.length ≤ 9223372036854775807) : ∀ d i : Nat, i + d = l.length →
    Ev (fun k => bits_asked.l0 k l l (l.length : Int) (i : Int)) (if (l.drop i).all okV = true then (if l.all (fun v => v.f0 == (l.getD 0 z23).f0) = true then 0 else 10) else 1) := by
  intro d
  induction d with
  | zero =>
    intro i h
    rw [List.drop_of_length_le (by omega), List.all_nil, if_pos rfl]
    refine Ev.step (f := fun k => bits_asked.l1 k l l (l.length : Int) 0) (fun k => by simp only [bits_asked.l0]; rw [if_neg (by omega)]) ?_
    exact asked_l1 l hl l.length 0 (by omega)
  | succ d ih =>
    intro i h
    have hi : i < l.length := by omega
    have e : ∀ k, bits_asked.l0 (k + 1) l l (l.length : Int) (i : Int) = if okV (l.getD i z23) = true then bits_asked.l0 k l l (l.length : Int) ((i + 1 : Nat) : Int) else some 1 := fun k => by
      simp only [bits_asked.l0]
      rw [if_pos (by omega), if_pos (by omega), if_pos (by omega), rdT, wrapN hi hl]
      simp only [bits_Valid.f, Option.bind_some]
      rfl
    rw [drop_getD z23 hi, List.all_cons]
    cases hc : okV (l.getD i z23) with
    | true =>
      rw [Bool.true_and]
      exact Ev.step (fun k => by rw [e, if_pos hc]) (ih (i + 1) (by omega))
    | false =>
      rw [Bool.false_and, if_neg (by decide)]
      exact Ev.step (f := fun _ => some 1) (fun k => by rw [e, if_neg (by rw [hc]; decide)]) (Ev.now _)
theorem asked_ev (l : List S23) (hl : l.length ≤ 9223372036854775807) : Ev (fun k => bits_asked.f k l) (askedI l) := asked_l0 l hl l.length 0 (by omega)
def bits_askedT.f (l0 : List S23) : Option Int := some (askedI l0)
theorem bits_askedT.calls (A0 : Option Addr) (c0 : Nat) (l0 : List (S23)) (r : Int) (w : World) (hr0 : Kd.C k23 w A0 l0.length l0) (hc0 : l0.length ≤ c0) (h : bits_askedT.f l0 = some r) :
    Calls Try.prog 55 #[.slice A0 l0.length c0] w fun e w' => e = .returned (.int .i64 r) ∧ Below w.heap.size w w' := by
  obtain rfl : askedI l0 = r := by simpa [bits_askedT.f] using h
  obtain ⟨k, hk⟩ := (asked_ev l0 hr0.2.1).rounds
  exact bits_asked.calls k A0 c0 l0 _ w hr0 hc0 hk

/-! ### light -/
theorem light_l0 (l : List S23) (hl : l.length ≤ 9223372036854775807) : ∀ d i : Nat, i + d = l.length →
    Ev (fun k => ironbarklaw05_light.l0 k l (i : Int)) ((l.drop i).all fun v => decide (v.f3.size ≤ 600)) := by
  intro d
  induction d with
  | zero =>
    intro i h
    rw [List.drop_of_length_le (by omega), List.all_nil]
    exact Ev.step (f := fun _ => some true) (fun k => by simp only [ironbarklaw05_light.l0]; rw [if_neg (by omega)]) (Ev.now _)
  | succ d ih =>
    intro i h
    have hi : i < l.length := by omega
    have e : ∀ k, ironbarklaw05_light.l0 (k + 1) l (i : Int) = if (l.getD i z23).f3.size ≤ 600 then ironbarklaw05_light.l0 k l ((i + 1 : Nat) : Int) else some false := fun k => by
      simp only [ironbarklaw05_light.l0]
      rw [if_pos (by omega), if_pos (by omega), rdT, wrapN hi hl]
      by_cases h1 : (l.getD i z23).f3.size ≤ 600
      · rw [if_neg (by omega), if_pos h1]
      · rw [if_pos (by omega), if_neg h1]
    rw [drop_getD z23 hi, List.all_cons]
    by_cases hc : (l.getD i z23).f3.size ≤ 600
    · rw [decide_eq_true hc, Bool.true_and]
      exact Ev.step (fun k => by rw [e, if_pos hc]) (ih (i + 1) (by omega))
    · rw [decide_eq_false hc, Bool.false_and]
      exact Ev.step (f := fun _ => some false) (fun k => by rw [e, if_neg hc]) (Ev.now _)
def ironbarklaw05_lightT.f (l0 : List S23) : Option Bool := some (l0.all fun v => decide (v.f3.size ≤ 600))
theorem ironbarklaw05_lightT.calls (A0 : Option Addr) (c0 : Nat) (l0 : List (S23)) (r : Bool) (w : World) (hr0 : Kd.C k23 w A0 l0.length l0) (hc0 : l0.length ≤ c0) (h : ironbarklaw05_lightT.f l0 = some r) :
    Calls Try.prog 8 #[.slice A0 l0.length c0] w fun e w' => e = .returned (.bool r) ∧ Drawn0 w w' := by
  obtain rfl : (l0.all fun v => decide (v.f3.size ≤ 600)) = r := by simpa [ironbarklaw05_lightT.f] using h
  obtain ⟨k, hk⟩ := (light_l0 l0 hr0.2.1 l0.length 0 (by omega)).rounds
  exact ironbarklaw05_light.calls k A0 c0 l0 _ w hr0 hc0 hk

/-! ### the reference's Valid -/
theorem btN (s : ByteArray) (i : Nat) (h : i < s.size) : bt s (i : Int) = ((s[i]'h).toNat : Int) := (bt_at s (i : Int) (by simpa using h)).symm
theorem okc4 (c : Int) : okc 4 c = (decide (32 ≤ c) && decide (c ≤ 126)) := rfl
theorem okc5 (c : Int) : okc 5 c = (c == 48 || c == 49) := rfl
/-- From an index on. -/
def okFrom (n : Int) (s : ByteArray) (i : Nat) : Bool := (s.data.toList.drop i).all fun c => okc n (c.toNat : Int)
theorem okFrom_end (n : Int) (s : ByteArray) (i : Nat) (h : s.size ≤ i) : okFrom n s i = true := by
  unfold okFrom; rw [List.drop_of_length_le (by simpa using h)]; rfl
theorem okFrom_step (n : Int) (s : ByteArray) (i : Nat) (h : i < s.size) : okFrom n s i = (okc n (bt s (i : Int)) && okFrom n s (i + 1)) := by
  unfold okFrom
  rw [List.drop_eq_getElem_cons (by simpa using h), List.all_cons, btN s i h]; rfl
theorem rvalid_l0 (n a b : Int) (hn : n = 4 ∨ n = 5) (s : ByteArray) (hl : s.size ≤ 9223372036854775807) : ∀ d i : Nat, i + d = s.size →
    Ev (fun k => ironbarkref05_Valid.l0 k (i : Int) n a b s) (okFrom n s i) := by
  intro d
  induction d with
  | zero =>
    intro i h
    rw [okFrom_end n s i (by omega)]
    exact Ev.step (f := fun _ => some true) (fun k => by simp only [ironbarkref05_Valid.l0]; rw [if_neg (by omega)]) (Ev.now _)
  | succ d ih =>
    intro i h
    have hi : i < s.size := by omega
    have e : ∀ k, ironbarkref05_Valid.l0 (k + 1) (i : Int) n a b s = if okc n (bt s (i : Int)) = true then ironbarkref05_Valid.l0 k ((i + 1 : Nat) : Int) n a b s else some false := fun k => by
      simp only [ironbarkref05_Valid.l0]
      rw [if_pos (by omega), wrapN hi hl]
      generalize bt s (i : Int) = c
      rcases hn with rfl | rfl
      · rw [if_neg (by decide), if_pos (by omega), okc4]
        by_cases h1 : c < 32
        · rw [if_pos h1, if_neg (by simp; omega)]
        · by_cases h2 : c > 126
          · rw [if_neg h1, if_pos h2, if_neg (by simp; omega)]
          · rw [if_neg h1, if_neg h2, if_pos (by simp; omega)]
      · rw [if_pos rfl, if_pos (by omega), okc5]
        by_cases h1 : c = 48
        · subst h1; rw [if_pos rfl, if_neg (by decide), if_neg (by decide), if_pos (by decide)]
        · by_cases h2 : c = 49
          · subst h2; rw [if_neg (by decide), if_pos rfl, if_neg (by decide), if_neg (by decide), if_pos (by decide)]
          · rw [if_neg h1, if_neg h2, if_neg (by simp [h1, h2])]
    rw [okFrom_step n s i hi]
    cases hc : okc n (bt s (i : Int)) with
    | true =>
      rw [Bool.true_and]
      exact Ev.step (fun k => by rw [e, if_pos hc]) (ih (i + 1) (by omega))
    | false =>
      rw [Bool.false_and]
      exact Ev.step (f := fun _ => some false) (fun k => by rw [e, if_neg (by rw [hc]; decide)]) (Ev.now _)
theorem rvalid_j0 (b : Bool) (n p q : Int) (hn : b = false → n = 4 ∨ n = 5) (s : ByteArray) (hl : s.size ≤ 9223372036854775807) :
    Ev (fun k => ironbarkref05_Valid.j0 k b n p q s) (!b && okS n s) := by
  cases b with
  | true => exact Ev.step (f := fun _ => some false) (fun k => by simp only [ironbarkref05_Valid.j0]; rw [if_pos trivial]) (Ev.now _)
  | false =>
    refine Ev.step (f := fun k => ironbarkref05_Valid.l0 k 0 n p q s) (fun k => by simp only [ironbarkref05_Valid.j0]; rw [if_neg (by decide)]) ?_
    exact rvalid_l0 n p q (hn rfl) s hl s.size 0 (by omega)
theorem rvalid_ev (n a b : Int) (s : ByteArray) : Ev (fun k => ironbarkref05_Valid.f k n a b s) (validB n a b s) := by
  unfold ironbarkref05_Valid.f
  by_cases ha : a = 0
  · by_cases hb : b = 0
    · by_cases hs : (s.size : Int) > 250
      · refine Ev.congr (f := fun k => ironbarkref05_Valid.j0 k true n a b s) (fun k => by rw [if_pos ha, if_pos hb, if_pos hs]) ?_
        have e : validB n a b s = (!true && okS n s) := by simp [validB, show ¬ s.size ≤ 250 by omega]
        rw [e]
        refine Ev.step (f := fun _ => some false) (fun k => by simp only [ironbarkref05_Valid.j0]; rw [if_pos trivial]) (Ev.now _)
      · have hsz : s.size ≤ 250 := by omega
        by_cases h4 : n = 4
        · refine Ev.congr (f := fun k => ironbarkref05_Valid.j0 k false n a b s) (fun k => by rw [if_pos ha, if_pos hb, if_neg hs, if_pos h4]) ?_
          have e : validB n a b s = (!false && okS n s) := by simp [validB, ha, hb, h4, hsz]
          rw [e]
          exact rvalid_j0 false n a b (fun _ => .inl h4) s (by omega)
        · refine Ev.congr (f := fun k => ironbarkref05_Valid.j0 k (n != 5) n a b s) (fun k => by rw [if_pos ha, if_pos hb, if_neg hs, if_neg h4]) ?_
          have e : validB n a b s = (!(n != 5) && okS n s) := by rw [show (!(n != 5)) = (n == 5) by simp [bne]]; simp [validB, ha, hb, beq_eq_false_iff_ne.2 h4, hsz]
          rw [e]
          exact rvalid_j0 _ n a b (fun h => .inr (by simpa using h)) s (by omega)
    · refine Ev.congr (f := fun k => ironbarkref05_Valid.j0 k true n a b s) (fun k => by rw [if_pos ha, if_neg hb]) ?_
      have e : validB n a b s = false := by simp [validB, hb]
      rw [e]
      exact Ev.step (f := fun _ => some false) (fun k => by simp only [ironbarkref05_Valid.j0]; rw [if_pos trivial]) (Ev.now _)
  · refine Ev.congr (f := fun k => ironbarkref05_Valid.j0 k true n a b s) (fun k => by rw [if_neg ha]) ?_
    have e : validB n a b s = false := by simp [validB, ha]
    rw [e]
    exact Ev.step (f := fun _ => some false) (fun k => by simp only [ironbarkref05_Valid.j0]; rw [if_pos trivial]) (Ev.now _)
def ironbarkref05_ValidT.f (a0_0 a0_1 a0_2 : Int) (a0_3 : ByteArray) : Option Bool := some (validB a0_0 a0_1 a0_2 a0_3)
theorem ironbarkref05_ValidT.calls (a0_0 a0_1 a0_2 : Int) (a0_3 : ByteArray) (r : Bool) (w : World) (h : ironbarkref05_ValidT.f a0_0 a0_1 a0_2 a0_3 = some r) :
    Calls Try.prog 79 #[.agg #[.int .i64 a0_0, .int .i64 a0_1, .int .i64 a0_2, .string a0_3]] w fun e w' => e = .returned (.bool r) ∧ Below w.heap.size w w' := by
  obtain rfl : validB a0_0 a0_1 a0_2 a0_3 = r := by simpa [ironbarkref05_ValidT.f] using h
  obtain ⟨k, hk⟩ := (rvalid_ev a0_0 a0_1 a0_2 a0_3).rounds
  exact ironbarkref05_Valid.calls k a0_0 a0_1 a0_2 a0_3 _ w hk

/-! ### the reference's strings -/
def stringsI (l : List S23) (n : Int) : Int := if l.all okV = true then (if l.all (fun v => v.f0 == (l.getD 0 z23).f0 && (n == 0 || v.f0 == n)) = true then 0 else 10) else 1
theorem strings_l1 (l : List S23) (n : Int) (hl : l.length ≤ 9223372036854775807) : ∀ d i : Nat, i + d = l.length →
    Ev (fun k => ironbarkref05_strings.l1 k l n (i : Int)) (if (l.drop i).all (fun v => v.f0 == (l.getD 0 z23).f0 && (n == 0 || v.f0 == n)) = true then 0 else 10) := by
  intro d
  induction d with
  | zero =>
    intro i h
    rw [List.drop_of_length_le (by omega), List.all_nil, if_pos rfl]
    exact Ev.step (f := fun _ => some 0) (fun k => by simp only [ironbarkref05_strings.l1]; rw [if_neg (by omega)]) (Ev.now _)
  | succ d ih =>
    intro i h
    have hi : i < l.length := by omega
    have e : ∀ k, ironbarkref05_strings.l1 (k + 1) l n (i : Int) = if ((l.getD i z23).f0 == (l.getD 0 z23).f0 && (n == 0 || (l.getD i z23).f0 == n)) = true then ironbarkref05_strings.l1 k l n ((i + 1 : Nat) : Int) else some 10 := fun k => by
      simp only [ironbarkref05_strings.l1]
      rw [if_pos (by omega), if_pos (by omega), if_pos (by omega), rdT, wrapN hi hl, show rd_T23 l 0 = l.getD 0 z23 from rdT l 0]
      generalize (l.getD i z23).f0 = x
      generalize (l.getD 0 z23).f0 = y
      by_cases h1 : x = y <;> by_cases h2 : n = 0 <;> by_cases h3 : x = n <;> simp [h1, h2, h3] <;> simp_all
    rw [drop_getD z23 hi, List.all_cons]
    cases hc : ((l.getD i z23).f0 == (l.getD 0 z23).f0 && (n == 0 || (l.getD i z23).f0 == n)) with
    | true =>
      rw [Bool.true_and]
      exact Ev.step (fun k => by rw [e, if_pos hc]) (ih (i + 1) (by omega))
    | false =>
      rw [Bool.false_and, if_neg (by decide)]
      exact Ev.step (f := fun _ => some 10) (fun k => by rw [e, if_neg (by rw [hc]; decide)]) (Ev.now _)
theorem strings_l0 (l : List S23) (n : Int) (hl : l.length ≤ 9223372036854775807) : ∀ d i : Nat, i + d = l.length →
    Ev (fun k => ironbarkref05_strings.l0 k l n (i : Int)) (if (l.drop i).all okV = true then (if l.all (fun v => v.f0 == (l.getD 0 z23).f0 && (n == 0 || v.f0 == n)) = true then 0 else 10) else 1) := by
  intro d
  induction d with
  | zero =>
    intro i h
    rw [List.drop_of_length_le (by omega), List.all_nil, if_pos rfl]
    refine Ev.step (f := fun k => ironbarkref05_strings.l1 k l n 0) (fun k => by simp only [ironbarkref05_strings.l0]; rw [if_neg (by omega)]) ?_
    exact strings_l1 l n hl l.length 0 (by omega)
  | succ d ih =>
    intro i h
    have hi : i < l.length := by omega
    have e : ∀ k, ironbarkref05_strings.l0 (k + 1) l n (i : Int) = (ironbarkref05_Valid.f k (l.getD i z23).f0 (l.getD i z23).f1 (l.getD i z23).f2 (l.getD i z23).f3).bind fun t => if t = true then ironbarkref05_strings.l0 k l n ((i + 1 : Nat) : Int) else some 1 := fun k => by
      simp only [ironbarkref05_strings.l0]
      rw [if_pos (by omega), if_pos (by omega), rdT, wrapN hi hl]
    rw [drop_getD z23 hi, List.all_cons]
    refine Ev.step e (Ev.bind (rvalid_ev _ _ _ _) ?_)
    show Ev (fun k => if okV (l.getD i z23) = true then _ else _) _
    cases hc : okV (l.getD i z23) with
    | true =>
      rw [Bool.true_and]
      exact Ev.congr (fun k => if_pos rfl) (ih (i + 1) (by omega))
    | false =>
      rw [Bool.false_and, if_neg (by decide)]
      exact Ev.congr (f := fun _ => some 1) (fun k => if_neg (by decide)) (Ev.now _)
def ironbarkref05_stringsT.f (l0 : List S23) (a1 : Int) : Option Int := some (stringsI l0 a1)
theorem ironbarkref05_stringsT.calls (A0 : Option Addr) (c0 : Nat) (l0 : List (S23)) (a1 : Int) (r : Int) (w : World) (hr0 : Kd.C k23 w A0 l0.length l0) (hc0 : l0.length ≤ c0) (h : ironbarkref05_stringsT.f l0 a1 = some r) :
    Calls Try.prog 57 #[.slice A0 l0.length c0, .int .i64 a1] w fun e w' => e = .returned (.int .i64 r) ∧ Below w.heap.size w w' := by
  obtain rfl : stringsI l0 a1 = r := by simpa [ironbarkref05_stringsT.f] using h
  obtain ⟨k, hk⟩ := (strings_l0 l0 a1 hr0.2.1 l0.length 0 (by omega)).rounds
  exact ironbarkref05_strings.calls k A0 c0 l0 a1 _ w hr0 hc0 hk
theorem strings_asked (l : List S23) : stringsI l 0 = askedI l := by simp [stringsI, askedI]
end Go.Proofs.Ytnelblndidciiaa.P
