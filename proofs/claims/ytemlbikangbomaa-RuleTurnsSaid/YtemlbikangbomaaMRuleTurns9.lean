/- Part 9 of the proof of the law RuleTurns: functions, contracts and plain laws; merged by this session's program. -/
import Derived.Deep.Slices
import Derived.Deep.Fields
import Derived.ProofKit
import Derived.ChangeSame
import Derived.Test.YtemlbikangbomaaMRuleTurns1
import Derived.Test.YtemlbikangbomaaMRuleTurns2
import Derived.Test.YtemlbikangbomaaMRuleTurns3
import Derived.Test.YtemlbikangbomaaMRuleTurns4
import Derived.Test.YtemlbikangbomaaMRuleTurns5
import Derived.Test.YtemlbikangbomaaMRuleTurns6
import Derived.Test.YtemlbikangbomaaMRuleTurns7
import Derived.Test.YtemlbikangbomaaMRuleTurns8
-- from the text Q
namespace Go.Proofs.Ytemlbikangbomaa.P
open Go.RowKit Go.ChangeShapes Go.WideShapes Go.ChangeAt Go.Deep Go.Proofs.YtemlbikangbomaaW.PrintWords Go.Proofs.YtemlbikangbomaaW.PrintLast Go.Proofs.YtemlbikangbomaaW.PrintMore
set_option linter.unusedVariables false
set_option linter.unusedSimpArgs false
set_option maxRecDepth 100000
theorem list_of {α : Type} {p : Nat → α → Prop} : ∀ n : Nat, (∀ i, i < n → ∃ x, p i x) → ∃ l : List α, l.length = n ∧ ∀ i x, l[i]? = some x → p i x
  | 0, _ => ⟨[], rfl, fun i x h => by simp at h⟩
  | n + 1, h => by
    obtain ⟨l, hl, hp⟩ := list_of n (fun i hi => h i (by omega))
    obtain ⟨x, hx⟩ := h n (by omega)
    refine ⟨l ++ [x], by simp [hl], fun i y hy => ?_⟩
    rcases Nat.lt_trichotomy i n with h1 | h1 | h1
    · exact hp i y (by rw [List.getElem?_append_left (by omega)] at hy; exact hy)
    · subst h1; rw [List.getElem?_append_right (by omega), hl] at hy; simp at hy; subst hy; exact hx
    · rw [List.getElem?_eq_none (by simp; omega)] at hy; cases hy
section
variable {H : Type} {enc : TypeId × Value → H} {w : World} {base : Nat} {spare : Nat → Bool} {held : Bool} {fuel : Nat} {cs : List Value} {x : DataW H × List MemPlace}
def Wf85 (x : S85) : Prop := (Lit.int .i64 x.f0).wf = true
theorem cells85 : Try.prog.cellsOf 85 = 1 := by kernel_rfl
theorem trod85 (h : DataW.trod enc Try.prog w base spare held fuel 85 cs = some x) : ∃ s : S85, cs = [.int .i64 s.f0] ∧ Wf85 s := by
  obtain ⟨xs, n, _, _, hlen, hxl, hf⟩ := DataW.trod_struct Try.underlying85 h
  rw [cells85] at hlen
  match cs, hlen, xs, hxl with
  | [c0], _, [y0], _ =>
    have g0 : DataW.trod enc Try.prog w base spare held n 28 (List.take (Try.prog.cellsOf 28) (List.drop 0 [c0])) = some y0 := hf 0 _ rfl
    rw [show Try.prog.cellsOf 28 = 1 from by kernel_rfl] at g0
    replace g0 : DataW.trod enc Try.prog w base spare held n 28 [c0] = some y0 := g0
    obtain ⟨s0, e0, -, w0⟩ := DataW.trod_int Try.underlying28 g0
    simp only [List.cons.injEq, and_true] at e0
    subst e0
    exact ⟨⟨s0⟩, rfl, w0⟩
theorem arg85 {W : World} {r : Reach} {b0 : Nat} {v : Value} {d : DataW H} {p : List MemPlace} (hv : Value.okWide Try.prog W r b0 85 v) (h : DataW.Trod enc Try.prog w base spare held 85 v d p) : ∃ s : S85, v = .agg #[.int .i64 s.f0] ∧ Wf85 s := by
  obtain ⟨cs, rfl, _⟩ := okWide_struct Try.underlying85 hv
  obtain ⟨fuel, hf⟩ := h
  obtain ⟨s, e, hw⟩ := trod85 hf
  refine ⟨s, ?_, hw⟩
  have e2 : cs.toList = _ := e
  rw [← e2]
def Wf23 (x : S23) : Prop := (Lit.int .i64 x.f0).wf = true ∧ (Lit.int .i64 x.f1).wf = true ∧ (Lit.int .i64 x.f2).wf = true ∧ x.f3.size ≤ maxLen
theorem cells23 : Try.prog.cellsOf 23 = 4 := by kernel_rfl
theorem trod23 (h : DataW.trod enc Try.prog w base spare held fuel 23 cs = some x) : ∃ s : S23, cs = [.int .i64 s.f0, .int .i64 s.f1, .int .i64 s.f2, .string s.f3] ∧ Wf23 s := by
  obtain ⟨xs, n, _, _, hlen, hxl, hf⟩ := DataW.trod_struct Try.underlying23 h
  rw [cells23] at hlen
  match cs, hlen, xs, hxl with
  | [c0, c1, c2, c3], _, [y0, y1, y2, y3], _ =>
    have g0 : DataW.trod enc Try.prog w base spare held n 3 (List.take (Try.prog.cellsOf 3) (List.drop 0 [c0, c1, c2, c3])) = some y0 := hf 0 _ rfl
    rw [show Try.prog.cellsOf 3 = 1 from by kernel_rfl] at g0
    replace g0 : DataW.trod enc Try.prog w base spare held n 3 [c0] = some y0 := g0
    have g1 : DataW.trod enc Try.prog w base spare held n 3 (List.take (Try.prog.cellsOf 3) (List.drop 1 [c0, c1, c2, c3])) = some y1 := hf 1 _ rfl
    rw [show Try.prog.cellsOf 3 = 1 from by kernel_rfl] at g1
    replace g1 : DataW.trod enc Try.prog w base spare held n 3 [c1] = some y1 := g1
    have g2 : DataW.trod enc Try.prog w base spare held n 3 (List.take (Try.prog.cellsOf 3) (List.drop 2 [c0, c1, c2, c3])) = some y2 := hf 2 _ rfl
    rw [show Try.prog.cellsOf 3 = 1 from by kernel_rfl] at g2
    replace g2 : DataW.trod enc Try.prog w base spare held n 3 [c2] = some y2 := g2
    have g3 : DataW.trod enc Try.prog w base spare held n 9 (List.take (Try.prog.cellsOf 9) (List.drop 3 [c0, c1, c2, c3])) = some y3 := hf 3 _ rfl
    rw [show Try.prog.cellsOf 9 = 1 from by kernel_rfl] at g3
    replace g3 : DataW.trod enc Try.prog w base spare held n 9 [c3] = some y3 := g3
    obtain ⟨s0, e0, -, w0⟩ := DataW.trod_int Try.underlying3 g0
    simp only [List.cons.injEq, and_true] at e0
    subst e0
    obtain ⟨s1, e1, -, w1⟩ := DataW.trod_int Try.underlying3 g1
    simp only [List.cons.injEq, and_true] at e1
    subst e1
    obtain ⟨s2, e2, -, w2⟩ := DataW.trod_int Try.underlying3 g2
    simp only [List.cons.injEq, and_true] at e2
    subst e2
    obtain ⟨s3, e3, -, w3⟩ := DataW.trod_string Try.underlying9 g3
    simp only [List.cons.injEq, and_true] at e3
    subst e3
    exact ⟨⟨s0, s1, s2, s3⟩, rfl, w0, w1, w2, w3⟩
theorem arg23 {W : World} {r : Reach} {b0 : Nat} {v : Value} {d : DataW H} {p : List MemPlace} (hv : Value.okWide Try.prog W r b0 23 v) (h : DataW.Trod enc Try.prog w base spare held 23 v d p) : ∃ s : S23, v = .agg #[.int .i64 s.f0, .int .i64 s.f1, .int .i64 s.f2, .string s.f3] ∧ Wf23 s := by
  obtain ⟨cs, rfl, _⟩ := okWide_struct Try.underlying23 hv
  obtain ⟨fuel, hf⟩ := h
  obtain ⟨s, e, hw⟩ := trod23 hf
  refine ⟨s, ?_, hw⟩
  have e2 : cs.toList = _ := e
  rw [← e2]
def Wf25 (x : S25) : Prop := (Lit.int .i64 x.f0).wf = true ∧ (Lit.int .i64 x.f1).wf = true ∧ (Lit.int .i64 x.f2).wf = true ∧ (Lit.int .i64 x.f3).wf = true ∧ True ∧ x.f5.size ≤ maxLen
theorem cells25 : Try.prog.cellsOf 25 = 6 := by kernel_rfl
theorem trod25 (h : DataW.trod enc Try.prog w base spare held fuel 25 cs = some x) : ∃ s : S25, cs = [.int .i64 s.f0, .int .i64 s.f1, .int .i64 s.f2, .int .i64 s.f3, .bool s.f4, .string s.f5] ∧ Wf25 s := by
  obtain ⟨xs, n, _, _, hlen, hxl, hf⟩ := DataW.trod_struct Try.underlying25 h
  rw [cells25] at hlen
  match cs, hlen, xs, hxl with
  | [c0, c1, c2, c3, c4, c5], _, [y0, y1, y2, y3, y4, y5], _ =>
    have g0 : DataW.trod enc Try.prog w base spare held n 3 (List.take (Try.prog.cellsOf 3) (List.drop 0 [c0, c1, c2, c3, c4, c5])) = some y0 := hf 0 _ rfl
    rw [show Try.prog.cellsOf 3 = 1 from by kernel_rfl] at g0
    replace g0 : DataW.trod enc Try.prog w base spare held n 3 [c0] = some y0 := g0
    have g1 : DataW.trod enc Try.prog w base spare held n 3 (List.take (Try.prog.cellsOf 3) (List.drop 1 [c0, c1, c2, c3, c4, c5])) = some y1 := hf 1 _ rfl
    rw [show Try.prog.cellsOf 3 = 1 from by kernel_rfl] at g1
    replace g1 : DataW.trod enc Try.prog w base spare held n 3 [c1] = some y1 := g1
    have g2 : DataW.trod enc Try.prog w base spare held n 3 (List.take (Try.prog.cellsOf 3) (List.drop 2 [c0, c1, c2, c3, c4, c5])) = some y2 := hf 2 _ rfl
    rw [show Try.prog.cellsOf 3 = 1 from by kernel_rfl] at g2
    replace g2 : DataW.trod enc Try.prog w base spare held n 3 [c2] = some y2 := g2
    have g3 : DataW.trod enc Try.prog w base spare held n 3 (List.take (Try.prog.cellsOf 3) (List.drop 3 [c0, c1, c2, c3, c4, c5])) = some y3 := hf 3 _ rfl
    rw [show Try.prog.cellsOf 3 = 1 from by kernel_rfl] at g3
    replace g3 : DataW.trod enc Try.prog w base spare held n 3 [c3] = some y3 := g3
    have g4 : DataW.trod enc Try.prog w base spare held n 4 (List.take (Try.prog.cellsOf 4) (List.drop 4 [c0, c1, c2, c3, c4, c5])) = some y4 := hf 4 _ rfl
    rw [show Try.prog.cellsOf 4 = 1 from by kernel_rfl] at g4
    replace g4 : DataW.trod enc Try.prog w base spare held n 4 [c4] = some y4 := g4
    have g5 : DataW.trod enc Try.prog w base spare held n 9 (List.take (Try.prog.cellsOf 9) (List.drop 5 [c0, c1, c2, c3, c4, c5])) = some y5 := hf 5 _ rfl
    rw [show Try.prog.cellsOf 9 = 1 from by kernel_rfl] at g5
    replace g5 : DataW.trod enc Try.prog w base spare held n 9 [c5] = some y5 := g5
    obtain ⟨s0, e0, -, w0⟩ := DataW.trod_int Try.underlying3 g0
    simp only [List.cons.injEq, and_true] at e0
    subst e0
    obtain ⟨s1, e1, -, w1⟩ := DataW.trod_int Try.underlying3 g1
    simp only [List.cons.injEq, and_true] at e1
    subst e1
    obtain ⟨s2, e2, -, w2⟩ := DataW.trod_int Try.underlying3 g2
    simp only [List.cons.injEq, and_true] at e2
    subst e2
    obtain ⟨s3, e3, -, w3⟩ := DataW.trod_int Try.underlying3 g3
    simp only [List.cons.injEq, and_true] at e3
    subst e3
    obtain ⟨s4, e4, -⟩ := DataW.trod_bool Try.underlying4 g4
    simp only [List.cons.injEq, and_true] at e4
    subst e4
    obtain ⟨s5, e5, -, w5⟩ := DataW.trod_string Try.underlying9 g5
    simp only [List.cons.injEq, and_true] at e5
    subst e5
    exact ⟨⟨s0, s1, s2, s3, s4, s5⟩, rfl, w0, w1, w2, w3, trivial, w5⟩
theorem arg25 {W : World} {r : Reach} {b0 : Nat} {v : Value} {d : DataW H} {p : List MemPlace} (hv : Value.okWide Try.prog W r b0 25 v) (h : DataW.Trod enc Try.prog w base spare held 25 v d p) : ∃ s : S25, v = .agg #[.int .i64 s.f0, .int .i64 s.f1, .int .i64 s.f2, .int .i64 s.f3, .bool s.f4, .string s.f5] ∧ Wf25 s := by
  obtain ⟨cs, rfl, _⟩ := okWide_struct Try.underlying25 hv
  obtain ⟨fuel, hf⟩ := h
  obtain ⟨s, e, hw⟩ := trod25 hf
  refine ⟨s, ?_, hw⟩
  have e2 : cs.toList = _ := e
  rw [← e2]
theorem arg33 {W : World} {r : Reach} {b0 : Nat} {v : Value} {d : DataW H} {p : List MemPlace} (hv : Value.okWide Try.prog W r b0 33 v) (h : DataW.Trod enc Try.prog w base (fun _ => true) held 33 v d p) : ∃ (A : Option Addr) (cap : Nat) (l : List Int), v = .slice A l.length cap ∧ Kd.C (Kd.int .i64) w A l.length l ∧ l.length ≤ cap ∧ ∀ y ∈ l, (Lit.int .i64 y).wf = true := by
  obtain ⟨a0, len0, cap0, rfl⟩ := okWide_slice Try.underlying33 hv
  obtain ⟨fuel, hf⟩ := h
  rcases open_slice Try.underlying33 hf with ⟨hcs, _⟩ | ⟨a, len, cap, m, n, D, Pl, hcs, _, hl, hm, hmm, _, hi⟩
  · simp [Value.cells] at hcs
    obtain ⟨rfl, rfl, rfl⟩ := hcs
    exact ⟨none, 0, [], rfl, ⟨rfl, by simp, fun h => absurd h (by simp)⟩, Nat.le_refl _, fun y hy => by cases hy⟩
  · simp [Value.cells] at hcs
    obtain ⟨rfl, rfl, rfl⟩ := hcs
    simp only [if_true] at hmm
    subst hmm
    obtain ⟨l, hll, hp⟩ := list_of (p := fun i (s : Int) => (∀ j u, ([.int .i64 s] : List Value)[j]? = some u → w.cell? (a.add (i * 1 + j)) = some u) ∧ (Lit.int .i64 s).wf = true) len0 (fun i him => by
      obtain ⟨cs', hc, ht⟩ := hi i (by omega)
      rw [show Try.prog.cellsOf 3 = 1 from by kernel_rfl] at hc
      obtain ⟨_, hcl, hat⟩ := World.cells?_some hc
      obtain ⟨s, rfl, -, hw⟩ := DataW.trod_int Try.underlying3 ht
      refine ⟨s, fun j u hj => ?_, hw⟩
      have hjn : j < 1 := by rcases Nat.lt_or_ge j 1 with h | h; exact h; rw [List.getElem?_eq_none (by simpa using h)] at hj; cases hj
      rw [← Go.Deep.add_add, hat j hjn]; exact hj)
    subst hll
    refine ⟨some a, _, l, rfl, ⟨rfl, by simp only [maxLen] at hm; omega, fun _ => ⟨a, rfl, fun j q hq => ⟨_, rfl, rfl, fun i u hu => (hp j q hq).1 i u hu⟩⟩⟩, hl, fun y hy => ?_⟩
    obtain ⟨i, hi, rfl⟩ := List.getElem_of_mem hy
    exact (hp i _ (List.getElem?_eq_getElem hi)).2
theorem arg46 {W : World} {r : Reach} {b0 : Nat} {v : Value} {d : DataW H} {p : List MemPlace} (hv : Value.okWide Try.prog W r b0 46 v) (h : DataW.Trod enc Try.prog w base (fun _ => true) held 46 v d p) : ∃ (A : Option Addr) (cap : Nat) (l : List S25), v = .slice A l.length cap ∧ Kd.C k25 w A l.length l ∧ l.length ≤ cap ∧ ∀ y ∈ l, Wf25 y := by
  obtain ⟨a0, len0, cap0, rfl⟩ := okWide_slice Try.underlying46 hv
  obtain ⟨fuel, hf⟩ := h
  rcases open_slice Try.underlying46 hf with ⟨hcs, _⟩ | ⟨a, len, cap, m, n, D, Pl, hcs, _, hl, hm, hmm, _, hi⟩
  · simp [Value.cells] at hcs
    obtain ⟨rfl, rfl, rfl⟩ := hcs
    exact ⟨none, 0, [], rfl, ⟨rfl, by simp, fun h => absurd h (by simp)⟩, Nat.le_refl _, fun y hy => by cases hy⟩
  · simp [Value.cells] at hcs
    obtain ⟨rfl, rfl, rfl⟩ := hcs
    simp only [if_true] at hmm
    subst hmm
    obtain ⟨l, hll, hp⟩ := list_of (p := fun i (s : S25) => (∀ j u, ([.int .i64 s.f0, .int .i64 s.f1, .int .i64 s.f2, .int .i64 s.f3, .bool s.f4, .string s.f5] : List Value)[j]? = some u → w.cell? (a.add (i * 6 + j)) = some u) ∧ Wf25 s) len0 (fun i him => by
      obtain ⟨cs', hc, ht⟩ := hi i (by omega)
      rw [show Try.prog.cellsOf 25 = 6 from by kernel_rfl] at hc
      obtain ⟨_, hcl, hat⟩ := World.cells?_some hc
      obtain ⟨s, rfl, hw⟩ := trod25 ht
      refine ⟨s, fun j u hj => ?_, hw⟩
      have hjn : j < 6 := by rcases Nat.lt_or_ge j 6 with h | h; exact h; rw [List.getElem?_eq_none (by simpa using h)] at hj; cases hj
      rw [← Go.Deep.add_add, hat j hjn]; exact hj)
    subst hll
    refine ⟨some a, _, l, rfl, ⟨rfl, by simp only [maxLen] at hm; omega, fun _ => ⟨a, rfl, fun j q hq => ⟨_, rfl, k25_mk w q, fun i u hu => (hp j q hq).1 i u hu⟩⟩⟩, hl, fun y hy => ?_⟩
    obtain ⟨i, hi, rfl⟩ := List.getElem_of_mem hy
    exact (hp i _ (List.getElem?_eq_getElem hi)).2
end
end Go.Proofs.Ytemlbikangbomaa.P

-- from the text Pt
namespace Go.Proofs.Ytemlbikangbomaa.P
open Go.RowKit Go.Proofs.YtemlbikangbomaaW.PrintWords Go.Proofs.YtemlbikangbomaaW.PrintLast Go.Proofs.YtemlbikangbomaaW.PrintMore
set_option linter.unusedVariables false
set_option linter.unusedSimpArgs false
abbrev R7 := Int × Int × Int × Int × Bool × ByteArray × Int
def r7 (u : S25) (e : Int) : R7 := (u.f0, u.f1, u.f2, u.f3, u.f4, u.f5, e)
/-- Both tell the same, and what they tell is valid if there is no error. -/
def okR (f : Option R7) (g : Nat → Option R7) : Prop := ∃ u e, f = some (r7 u e) ∧ Ev g (r7 u e) ∧ (e = 0 → tyB u = true)
theorem validO_one (t : S25) (h : validO [t] = 0) : tyB t = true ∧ numK t = true := by
  unfold validO at h
  simp only [List.all_cons, List.all_nil, Bool.and_true] at h
  cases h1 : tyB t <;> cases h2 : numK t <;> simp [h1, h2] at h ⊢
theorem tyB_num (t : S25) (h : tyB t = true) (hk : numK t = true) : (1 ≤ t.f1 ∧ t.f1 ≤ 31) ∧ (0 ≤ t.f2 ∧ t.f2 ≤ 31) ∧ (t.f0 = 1 ∨ (t.f0 = 2 ∧ t.f1 ≤ 15) ∨ (t.f0 = 3 ∧ t.f1 ≤ 15 ∧ t.f2 = 0)) := by
  have hk : 1 ≤ t.f0 ∧ t.f0 ≤ 3 := by simpa [numK, inB] using hk
  have hk : t.f0 = 1 ∨ t.f0 = 2 ∨ t.f0 = 3 := by omega
  rcases hk with e | e | e <;> simp [tyB, e, vNum, inB] at h <;> omega
theorem tyB_mk1 (p q : Int) (hp : 1 ≤ p) (hp2 : p ≤ 31) (hq : 0 ≤ q) (hq2 : q ≤ 31) : tyB ⟨1, p, q, 0, false, ⟨#[]⟩⟩ = true := by
  have : (⟨#[]⟩ : ByteArray).size = 0 := rfl
  simp [tyB, vNum, inB, this, hp, hp2, hq, hq2]
theorem tyB_mk2 (p q : Int) (hp : 1 ≤ p) (hp2 : p ≤ 15) (hq : 0 ≤ q) (hq2 : q ≤ 31) : tyB ⟨2, p, q, 0, false, ⟨#[]⟩⟩ = true := by
  have : (⟨#[]⟩ : ByteArray).size = 0 := rfl
  simp [tyB, vNum, inB, this, hp, hp2, hq, hq2]
theorem tyB_mk3 (p : Int) (hp : 1 ≤ p) (hp2 : p ≤ 15) : tyB ⟨3, p, 0, 0, false, ⟨#[]⟩⟩ = true := by
  have : (⟨#[]⟩ : ByteArray).size = 0 := rfl
  simp [tyB, vNum, inB, this, hp, hp2]
theorem asked1 (t : S25) : Ev (fun k => ironbarkref02_asked.f k [t]) (validO [t]) := asked_ev [t] (by simp)
theorem tdv (a b : Int) (h : 0 ≤ a) : Int.tdiv a b = a / b := Int.tdiv_eq_ediv_of_nonneg h
theorem wrapS (x : Int) (h : -1000000 ≤ x) (h2 : x ≤ 1000000) : wrap64 x = x := by unfold wrap64; omega
theorem binary_ok (t : S25) : okR (rule_Binary.f t.f0 t.f1 t.f2 t.f3 t.f4 t.f5) (fun k => ironbarkref02_Binary.f k t.f0 t.f1 t.f2 t.f3 t.f4 t.f5) := by
  unfold rule_Binary.f ironbarkref02_Binary.f
  by_cases hv : validO [t] = 0
  · obtain ⟨h1, h2⟩ := validO_one t hv
    obtain ⟨hp, hq, hk⟩ := tyB_num t h1 h2
    rw [if_pos hv]
    by_cases h3 : t.f0 = 3
    · refine ⟨z25, 10, if_pos h3, Ev.bind (asked1 t) ?_, fun h => by cases h⟩
      exact Ev.congr (fun k => (if_pos hv).trans (if_pos h3)) (Ev.now _)
    · by_cases h4 : t.f0 = 1
      · refine ⟨t, 0, ?_, Ev.bind (asked1 t) ?_, fun _ => h1⟩
        · rw [if_neg h3]; unfold rule_binary.f rule_must.f
          rw [if_pos (bne_iff_ne.2 h3), Option.bind_some, if_pos h4]; rfl
        · refine Ev.congr (fun k => (if_pos hv).trans (if_neg h3)) ?_
          unfold ironbarkref02_bin.f; rw [if_pos h4]; exact Ev.now _
      · refine ⟨⟨1, mn 31 (wrap64 ((wrap64 (Int.tdiv (wrap64 ((wrap64 (10 * t.f1)) + 2)) 3)) + 1)), mn 31 (wrap64 (Int.tdiv (wrap64 ((wrap64 (10 * t.f2)) + 2)) 3)), 0, false, ⟨#[]⟩⟩, 0, ?_, Ev.bind (asked1 t) ?_, fun _ => ?_⟩
        · rw [if_neg h3]; unfold rule_binary.f rule_must.f
          rw [if_pos (bne_iff_ne.2 h3), Option.bind_some, if_neg h4]; rfl
        · refine Ev.congr (fun k => (if_pos hv).trans (if_neg h3)) ?_
          unfold ironbarkref02_bin.f; rw [if_neg h4]; exact Ev.now _
        · have e1 : wrap64 (wrap64 (10 * t.f1) + 2) = 10 * t.f1 + 2 := by unfold wrap64; omega
          have e2 : wrap64 (wrap64 (10 * t.f2) + 2) = 10 * t.f2 + 2 := by unfold wrap64; omega
          rw [e1, e2, tdv _ _ (by omega), tdv _ _ (by omega), wrapS ((10 * t.f1 + 2) / 3) (by omega) (by omega), wrapS ((10 * t.f2 + 2) / 3) (by omega) (by omega), wrapS ((10 * t.f1 + 2) / 3 + 1) (by omega) (by omega)]
          apply tyB_mk1 <;> (unfold mn; split <;> omega)
  · rw [if_neg hv]
    refine ⟨z25, validO [t], rfl, Ev.bind (asked1 t) ?_, fun h => absurd h hv⟩
    exact Ev.congr (fun k => if_neg hv) (Ev.now _)
theorem decimal_ok (t : S25) : okR (rule_Decimal.f t.f0 t.f1 t.f2 t.f3 t.f4 t.f5) (fun k => ironbarkref02_Decimal.f k t.f0 t.f1 t.f2 t.f3 t.f4 t.f5) := by
  unfold rule_Decimal.f ironbarkref02_Decimal.f
  by_cases hv : validO [t] = 0
  · obtain ⟨h1, h2⟩ := validO_one t hv
    obtain ⟨hp, hq, hk⟩ := tyB_num t h1 h2
    rw [if_pos hv]
    by_cases h3 : t.f0 = 3
    · refine ⟨z25, 10, if_pos h3, Ev.bind (asked1 t) ?_, fun h => by cases h⟩
      exact Ev.congr (fun k => (if_pos hv).trans (if_pos h3)) (Ev.now _)
    · by_cases h4 : t.f0 = 2
      · refine ⟨t, 0, ?_, Ev.bind (asked1 t) ?_, fun _ => h1⟩
        · rw [if_neg h3]; unfold rule_decimal.f rule_must.f
          rw [if_pos (bne_iff_ne.2 h3), Option.bind_some, if_pos h4]; rfl
        · refine Ev.congr (fun k => (if_pos hv).trans (if_neg h3)) ?_
          unfold ironbarkref02_dec.f; rw [if_pos h4]; exact Ev.now _
      · refine ⟨⟨2, mn 15 (wrap64 ((wrap64 (Int.tdiv (wrap64 ((wrap64 (3 * t.f1)) + 9)) 10)) + 1)), mn 31 (wrap64 (Int.tdiv (wrap64 ((wrap64 (3 * t.f2)) + 9)) 10)), 0, false, ⟨#[]⟩⟩, 0, ?_, Ev.bind (asked1 t) ?_, fun _ => ?_⟩
        · rw [if_neg h3]; unfold rule_decimal.f rule_must.f
          rw [if_pos (bne_iff_ne.2 h3), Option.bind_some, if_neg h4]; rfl
        · refine Ev.congr (fun k => (if_pos hv).trans (if_neg h3)) ?_
          unfold ironbarkref02_dec.f; rw [if_neg h4]; exact Ev.now _
        · have e1 : wrap64 (wrap64 (3 * t.f1) + 9) = 3 * t.f1 + 9 := by unfold wrap64; omega
          have e2 : wrap64 (wrap64 (3 * t.f2) + 9) = 3 * t.f2 + 9 := by unfold wrap64; omega
          rw [e1, e2, tdv _ _ (by omega), tdv _ _ (by omega), wrapS ((3 * t.f1 + 9) / 10) (by omega) (by omega), wrapS ((3 * t.f2 + 9) / 10) (by omega) (by omega), wrapS ((3 * t.f1 + 9) / 10 + 1) (by omega) (by omega)]
          apply tyB_mk2 <;> (unfold mn; split <;> omega)
  · rw [if_neg hv]
    refine ⟨z25, validO [t], rfl, Ev.bind (asked1 t) ?_, fun h => absurd h hv⟩
    exact Ev.congr (fun k => if_neg hv) (Ev.now _)
theorem float_ok (t : S25) : okR (rule_Float.f t.f0 t.f1 t.f2 t.f3 t.f4 t.f5) (fun k => ironbarkref02_Float.f k t.f0 t.f1 t.f2 t.f3 t.f4 t.f5) := by
  unfold rule_Float.f ironbarkref02_Float.f
  by_cases hv : validO [t] = 0
  · obtain ⟨h1, h2⟩ := validO_one t hv
    obtain ⟨hp, hq, hk⟩ := tyB_num t h1 h2
    rw [if_pos hv]
    by_cases h4 : t.f0 = 1
    · refine ⟨⟨3, mn 15 (wrap64 (Int.tdiv (wrap64 ((wrap64 (3 * t.f1)) + 9)) 10)), 0, 0, false, ⟨#[]⟩⟩, 0, ?_, Ev.bind (asked1 t) ?_, fun _ => ?_⟩
      · unfold rule_float.f; rw [if_neg (by omega), if_pos h4]; rfl
      · refine Ev.congr (fun k => if_pos hv) ?_
        unfold ironbarkref02_float.f; rw [if_pos h4]; exact Ev.now _
      · have e1 : wrap64 (wrap64 (3 * t.f1) + 9) = 3 * t.f1 + 9 := by unfold wrap64; omega
        rw [e1, tdv _ _ (by omega), wrapS ((3 * t.f1 + 9) / 10) (by omega) (by omega)]
        apply tyB_mk3 <;> (unfold mn; split <;> omega)
    · by_cases h5 : t.f0 = 2
      · refine ⟨⟨3, t.f1, 0, 0, false, ⟨#[]⟩⟩, 0, ?_, Ev.bind (asked1 t) ?_, fun _ => tyB_mk3 _ (by omega) (by omega)⟩
        · unfold rule_float.f; rw [if_pos h5]; rfl
        · refine Ev.congr (fun k => if_pos hv) ?_
          unfold ironbarkref02_float.f; rw [if_neg h4]; exact Ev.now _
      · have h6 : t.f0 = 3 := by omega
        have h7 : t = ⟨3, t.f1, 0, 0, false, ⟨#[]⟩⟩ := by
          obtain ⟨k, p, q, n, v, s⟩ := t
          simp only at h6
          subst h6
          have hn : n = 0 ∧ v = false ∧ s.size = 0 ∧ q = 0 := by
            have h1' : (inB p 1 15 && (inB q 0 0 && (n == 0 && (!v && decide (s.size = 0))))) = true := h1
            simp only [Bool.and_eq_true, beq_iff_eq, Bool.not_eq_true', decide_eq_true_eq] at h1'
            have hq0 : q = 0 := by have := h1'.2.1; simp only [inB, Bool.and_eq_true, decide_eq_true_eq] at this; omega
            exact ⟨h1'.2.2.1, h1'.2.2.2.1, h1'.2.2.2.2, hq0⟩
          obtain ⟨rfl, rfl, hs, rfl⟩ := hn
          have : s = ⟨#[]⟩ := by
            apply ByteArray.ext
            exact Array.eq_empty_of_size_eq_zero hs
          rw [this]
        refine ⟨t, 0, ?_, Ev.bind (asked1 t) ?_, fun _ => h1⟩
        · unfold rule_float.f; rw [if_neg h5, if_neg h4]; rfl
        · refine Ev.congr (fun k => if_pos hv) ?_
          unfold ironbarkref02_float.f; rw [if_neg h4, Option.bind_some]
          rw [show r7 t 0 = (3, t.f1, 0, 0, false, ⟨#[]⟩, 0) by rw [h7]; rfl]; exact Ev.now _
  · rw [if_neg hv]
    refine ⟨z25, validO [t], rfl, Ev.bind (asked1 t) ?_, fun h => absurd h hv⟩
    exact Ev.congr (fun k => if_neg hv) (Ev.now _)
theorem negated_ok (t : S25) : okR (rule_Negated.f t.f0 t.f1 t.f2 t.f3 t.f4 t.f5) (fun k => ironbarkref02_Negated.f k t.f0 t.f1 t.f2 t.f3 t.f4 t.f5) := by
  unfold rule_Negated.f ironbarkref02_Negated.f
  by_cases hv : validO [t] = 0
  · rw [if_pos hv]
    exact ⟨t, 0, rfl, Ev.bind (asked1 t) (Ev.congr (fun k => if_pos hv) (Ev.now _)), fun _ => (validO_one t hv).1⟩
  · rw [if_neg hv]
    refine ⟨z25, validO [t], rfl, Ev.bind (asked1 t) ?_, fun h => absurd h hv⟩
    exact Ev.congr (fun k => if_neg hv) (Ev.now _)
theorem number_ok (t : S25) : okR (rule_Number.f t.f0 t.f1 t.f2 t.f3 t.f4 t.f5) (fun k => ironbarkref02_Number.f k t.f0 t.f1 t.f2 t.f3 t.f4 t.f5) := by
  refine ⟨(numO t).1, (numO t).2, rfl, ?_, fun h => ?_⟩
  · unfold ironbarkref02_Number.f ironbarkref01_NumericB.f numO
    refine Ev.bind (rValid_ev t) ?_
    simp only [numeric_is, Option.bind_some]
    cases hv : tyB t with
    | false => exact Ev.congr (fun k => if_neg (by decide)) (Ev.now _)
    | true =>
      refine Ev.congr (fun k => if_pos rfl) ?_
      rw [if_neg (show ¬ (true = false) by decide)]
      by_cases h4 : t.f0 = 4
      · simp only [if_pos h4]; exact Ev.congr (fun k => if_neg (by rw [h4]; decide)) (Ev.now _)
      simp only [if_neg h4]
      by_cases h5 : t.f0 = 5
      · simp only [if_pos h5]; exact Ev.congr (fun k => if_neg (by rw [h5]; decide)) (Ev.now _)
      simp only [if_neg h5]
      have hk : 1 ≤ t.f0 := by
        by_cases h : t.f0 = 1 ∨ t.f0 = 2 ∨ t.f0 = 3 ∨ t.f0 = 4 ∨ t.f0 = 5 ∨ t.f0 = 6 ∨ t.f0 = 7 ∨ t.f0 = 8 ∨ t.f0 = 9
        · omega
        · rw [tyB_out t h] at hv; cases hv
      by_cases h3 : t.f0 ≤ 3
      · simp only [if_pos h3]; exact Ev.congr (fun k => if_pos (by simp [inB, hk, h3])) (Ev.now _)
      · simp only [if_neg h3]; exact Ev.congr (fun k => if_neg (by simp [inB, h3])) (Ev.now _)
  · unfold numO at h ⊢
    cases hv : tyB t with
    | false => simp [hv] at h
    | true =>
      simp only [hv] at h ⊢
      rw [if_neg (by decide)] at h ⊢
      by_cases h4 : t.f0 = 4
      · rw [if_pos h4]; rfl
      rw [if_neg h4] at h ⊢
      by_cases h5 : t.f0 = 5
      · rw [if_pos h5]; rfl
      rw [if_neg h5] at h ⊢
      by_cases h3 : t.f0 ≤ 3
      · rw [if_pos h3]; exact hv
      · rw [if_neg h3] at h; cases h
theorem awake_ev : Ev (fun k => ironbarklaw02_awake.f k) true := Ev.of (fun k => ironbarklaw02_awake.mono k) (k := 9) (by decide +kernel)
theorem light1_ev (t : S25) : ∃ b, Ev (fun k => ironbarklaw02_light.f k [t]) b := by
  by_cases h : (t.f5.size : Int) > 300
  · refine ⟨false, Ev.step (f := fun _ => some false) (fun k => ?_) (Ev.now _)⟩
    unfold ironbarklaw02_light.f
    simp only [ironbarklaw02_light.l0]
    rw [if_pos (by simp), if_pos (by simp), if_pos (by simpa [rd_T25] using h)]
  · refine ⟨true, Ev.step (f := fun k => ironbarklaw02_light.l0 k [t] 1) (fun k => ?_) (Ev.step (f := fun _ => some true) (fun k => ?_) (Ev.now _))⟩
    · unfold ironbarklaw02_light.f
      simp only [ironbarklaw02_light.l0]
      rw [if_pos (by simp), if_pos (by simp), if_neg (by simpa [rd_T25] using h), show wrap64 (0 + 1) = 1 by unfold wrap64; omega]
    · simp only [ironbarklaw02_light.l0]
      rw [if_neg (by simp)]
theorem j1_true (t : S25) : Ev (fun k => ironbarklaw02_RuleTurns.j1 k false t.f0 t.f1 t.f2 t.f3 t.f4 t.f5) true := by
  obtain ⟨u, e, h1, h2, -⟩ := negated_ok t
  refine Ev.step (f := fun k => (ironbarkref02_Negated.f k t.f0 t.f1 t.f2 t.f3 t.f4 t.f5).bind fun bt180 => (if (u.f0 == bt180.1 && (u.f1 == bt180.2.1 && (u.f2 == bt180.2.2.1 && (u.f3 == bt180.2.2.2.1 && (u.f4 == bt180.2.2.2.2.1 && (u.f5.toList == bt180.2.2.2.2.2.1.toList)))))) = true then (if e = bt180.2.2.2.2.2.2 then ((ironbarklaw02_awake.f k).bind fun t187 => (some t187)) else (some false)) else (some false))) (fun k => ?_) ?_
  · simp only [ironbarklaw02_RuleTurns.j1]
    rw [if_neg (by decide), h1]; rfl
  · refine Ev.bind h2 ?_
    refine Ev.congr (fun k => (if_pos (by simp [r7])).trans (if_pos rfl)) ?_
    exact Ev.bind awake_ev (Ev.now _)
theorem j0_true (t : S25) : Ev (fun k => ironbarklaw02_RuleTurns.j0 k false t.f0 t.f1 t.f2 t.f3 t.f4 t.f5) true := by
  obtain ⟨u, e, h1, h2, h3⟩ := float_ok t
  obtain ⟨v, g, h4, h5, h6⟩ := number_ok t
  refine Ev.step (f := fun k => (rule_Float.f t.f0 t.f1 t.f2 t.f3 t.f4 t.f5).bind fun bt142 => ((ironbarkref02_Float.f k t.f0 t.f1 t.f2 t.f3 t.f4 t.f5).bind fun bt149 => ((rule_Number.f t.f0 t.f1 t.f2 t.f3 t.f4 t.f5).bind fun bt156 => ((ironbarkref02_Number.f k t.f0 t.f1 t.f2 t.f3 t.f4 t.f5).bind fun bt163 => (if (!(bt142.1 == bt149.1) || (!(bt142.2.1 == bt149.2.1) || (!(bt142.2.2.1 == bt149.2.2.1) || (!(bt142.2.2.2.1 == bt149.2.2.2.1) || (!(bt142.2.2.2.2.1 == bt149.2.2.2.2.1) || (!(bt142.2.2.2.2.2.1.toList == bt149.2.2.2.2.2.1.toList))))))) = true then (ironbarklaw02_RuleTurns.j1 k true t.f0 t.f1 t.f2 t.f3 t.f4 t.f5) else (if bt142.2.2.2.2.2.2 = bt149.2.2.2.2.2.2 then (if (!(bt156.1 == bt163.1) || (!(bt156.2.1 == bt163.2.1) || (!(bt156.2.2.1 == bt163.2.2.1) || (!(bt156.2.2.2.1 == bt163.2.2.2.1) || (!(bt156.2.2.2.2.1 == bt163.2.2.2.2.1) || (!(bt156.2.2.2.2.2.1.toList == bt163.2.2.2.2.2.1.toList))))))) = true then (ironbarklaw02_RuleTurns.j1 k true t.f0 t.f1 t.f2 t.f3 t.f4 t.f5) else (if bt156.2.2.2.2.2.2 = bt163.2.2.2.2.2.2 then (if bt142.2.2.2.2.2.2 = 0 then ((ironbarkref01_Valid.f k bt142.1 bt142.2.1 bt142.2.2.1 bt142.2.2.2.1 bt142.2.2.2.2.1 bt142.2.2.2.2.2.1).bind fun t170 => (if t170 = true then (if bt156.2.2.2.2.2.2 = 0 then ((ironbarkref01_Valid.f k bt156.1 bt156.2.1 bt156.2.2.1 bt156.2.2.2.1 bt156.2.2.2.2.1 bt156.2.2.2.2.2.1).bind fun t171 => (ironbarklaw02_RuleTurns.j1 k (!t171) t.f0 t.f1 t.f2 t.f3 t.f4 t.f5)) else (ironbarklaw02_RuleTurns.j1 k false t.f0 t.f1 t.f2 t.f3 t.f4 t.f5)) else (ironbarklaw02_RuleTurns.j1 k true t.f0 t.f1 t.f2 t.f3 t.f4 t.f5))) else (if bt156.2.2.2.2.2.2 = 0 then ((ironbarkref01_Valid.f k bt156.1 bt156.2.1 bt156.2.2.1 bt156.2.2.2.1 bt156.2.2.2.2.1 bt156.2.2.2.2.2.1).bind fun t172 => (ironbarklaw02_RuleTurns.j1 k (!t172) t.f0 t.f1 t.f2 t.f3 t.f4 t.f5)) else (ironbarklaw02_RuleTurns.j1 k false t.f0 t.f1 t.f2 t.f3 t.f4 t.f5))) else (ironbarklaw02_RuleTurns.j1 k true t.f0 t.f1 t.f2 t.f3 t.f4 t.f5))) else (ironbarklaw02_RuleTurns.j1 k true t.f0 t.f1 t.f2 t.f3 t.f4 t.f5))))))) (fun k => ?_) ?_
  · simp only [ironbarklaw02_RuleTurns.j0]
    rw [if_neg (by decide)]
  · skip
    simp only [h1, h4, Option.bind_some]
    refine Ev.bind h2 (Ev.bind h5 ?_)
    refine Ev.congr (fun k => (if_neg (by simp [r7])).trans ((if_pos rfl).trans ((if_neg (by simp [r7])).trans (if_pos rfl)))) ?_
    simp only [r7]
    refine ev_ite (fun he => ?_) fun he => ?_
    · have a := rValid_ev u; rw [h3 he] at a
      refine Ev.bind a (Ev.congr (fun k => if_pos rfl) (ev_ite (fun hg => ?_) fun hg => j1_true t))
      have b := rValid_ev v; rw [h6 hg] at b
      exact Ev.bind b (j1_true t)
    · refine ev_ite (fun hg => ?_) fun hg => j1_true t
      have b := rValid_ev v; rw [h6 hg] at b
      exact Ev.bind b (j1_true t)
theorem turns_ev (t : S25) : Ev (fun k => ironbarklaw02_RuleTurns.f k t.f0 t.f1 t.f2 t.f3 t.f4 t.f5) true := by
  obtain ⟨u, e, h1, h2, h3⟩ := binary_ok t
  obtain ⟨v, g, h4, h5, h6⟩ := decimal_ok t
  obtain ⟨l, hl⟩ := light1_ev t
  unfold ironbarklaw02_RuleTurns.f
  refine Ev.bind hl ?_
  cases l with
  | false => exact Ev.congr (fun k => if_neg (by decide)) (Ev.bind awake_ev (Ev.now _))
  | true =>
    refine Ev.congr (fun k => if_pos rfl) ?_
    simp only [h1, h4, Option.bind_some]
    refine Ev.bind h2 (Ev.bind h5 ?_)
    refine Ev.congr (fun k => (if_neg (by simp [r7])).trans ((if_pos rfl).trans ((if_neg (by simp [r7])).trans (if_pos rfl)))) ?_
    simp only [r7]
    refine ev_ite (fun he => ?_) fun he => ?_
    · have a := rValid_ev u; rw [h3 he] at a
      refine Ev.bind a (Ev.congr (fun k => if_pos rfl) (ev_ite (fun hg => ?_) fun hg => j0_true t))
      have b := rValid_ev v; rw [h6 hg] at b
      exact Ev.bind b (j0_true t)
    · refine ev_ite (fun hg => ?_) fun hg => j0_true t
      have b := rValid_ev v; rw [h6 hg] at b
      exact Ev.bind b (j0_true t)
theorem RuleTurns_walk (t : S25) (w : World) (_ : Wf25 t) :
    Calls Try.prog 6 #[.agg #[.int .i64 t.f0, .int .i64 t.f1, .int .i64 t.f2, .int .i64 t.f3, .bool t.f4, .string t.f5]] w fun e w' => e = .returned (.bool true) ∧ Below w.heap.size w w' := by
  obtain ⟨k, hk⟩ := (turns_ev t).rounds
  exact ironbarklaw02_RuleTurns.calls k _ _ _ _ _ _ true w hk ⟨rfl⟩
end Go.Proofs.Ytemlbikangbomaa.P
