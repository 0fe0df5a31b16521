/- Part 2 of the proof of the law RuleResult: functions, contracts and plain laws; merged by this session's program. -/
import Derived.Test.YtemlbikangbomaaProg
import Derived.Below
import Derived.Deep.Draws
import Derived.Deep.AppendLies
import Derived.Maps.AppendAt
import Derived.OwnWalk
import Derived.Laws.BytesArg
import Derived.Laws.MakeOwn
import Derived.Laws.OwnMore
import Derived.Deep.OwnRows
import Derived.Tactics
import Derived.Lib.ConvBytes
import Derived.Laws.Slices
import Derived.WalkKit
import Derived.KernelRfl
import Derived.RowKit3
import Derived.Deep.LoopGhost
import Derived.Deep.QuietTactic
import Derived.BigQuiet
import Derived.WideLaws
import Derived.Deep.DeepCutAuto
import Derived.Deep.CutBlock
import Derived.Deep.RegionHeld3
import Derived.Laws.Rows
import Derived.Lib.AppendStr
import Derived.ArgAppend
import Derived.Laws.IdiomCopy
import Derived.OrdersHeld
import Derived.Laws.BitsLemmas
import Derived.RowKit
import Derived.WalkSpells
import Derived.WalkLawsBesides
import Derived.Lib.Hide
import Derived.IntWalk
import Derived.Defers
import Derived.Recover
import Derived.Test.YtemlbikangbomaaMRuleResult1
-- from the text K
namespace Go.Proofs.Ytemlbikangbomaa.P
open Go.RowKit Go.Proofs.YtemlbikangbomaaW.PrintWords Go.Proofs.YtemlbikangbomaaW.PrintLast Go.Proofs.YtemlbikangbomaaW.PrintMore
theorem blk_six {w : World} {g : Nat} {t : TypeId} {a b c d e f : Value} (h : w.heap[g]? = some (.cells #[a, b, c, d, e, f] t (0, 0))) : w.cell? ⟨g, 0, none⟩ = some a ∧ w.cell? ⟨g, 1, none⟩ = some b ∧ w.cell? ⟨g, 2, none⟩ = some c ∧ w.cell? ⟨g, 3, none⟩ = some d ∧ w.cell? ⟨g, 4, none⟩ = some e ∧ w.cell? ⟨g, 5, none⟩ = some f :=
  ⟨(blk_cell h 0).trans rfl, (blk_cell h 1).trans rfl, (blk_cell h 2).trans rfl, (blk_cell h 3).trans rfl, (blk_cell h 4).trans rfl, (blk_cell h 5).trans rfl⟩
theorem blk_six_free {w : World} {g : Nat} {t : TypeId} {cs : Array Value} (h : w.heap[g]? = some (.cells cs t (0, 0))) : w.frozen? ⟨g, 0, none⟩ = false ∧ w.frozen? ⟨g, 1, none⟩ = false ∧ w.frozen? ⟨g, 2, none⟩ = false ∧ w.frozen? ⟨g, 3, none⟩ = false ∧ w.frozen? ⟨g, 4, none⟩ = false ∧ w.frozen? ⟨g, 5, none⟩ = false :=
  ⟨blk_frozen h 0, blk_frozen h 1, blk_frozen h 2, blk_frozen h 3, blk_frozen h 4, blk_frozen h 5⟩
end Go.Proofs.Ytemlbikangbomaa.P
namespace Go.Proofs.Ytemlbikangbomaa.P
open Go.RowKit Go.Proofs.YtemlbikangbomaaW.PrintWords Go.Proofs.YtemlbikangbomaaW.PrintLast Go.Proofs.YtemlbikangbomaaW.PrintMore
attribute [local go_sem] max2_int min2_int max_two min_two max_three min_three max_four min_four   -- for this text's walks alone
set_option linter.unusedVariables false
set_option linter.unusedSimpArgs false
def errW : Option Int → Value
  | none => .nilIface
  | some c => .iface 0 (.int .i64 c)
theorem errW_none : errW none = .nilIface := rfl
theorem errW_some (c : Int) : errW (some c) = .iface 0 (.int .i64 c) := rfl
structure S25 where
  f0 : Int
  f1 : Int
  f2 : Int
  f3 : Int
  f4 : Bool
  f5 : ByteArray
def z25 : S25 := ⟨(0 : Int), (0 : Int), (0 : Int), (0 : Int), false, (⟨#[]⟩ : ByteArray)⟩
def k25 : Kd S25 := Kd.iso (Kd.pair (Kd.int .i64) (Kd.pair (Kd.int .i64) (Kd.pair (Kd.int .i64) (Kd.pair (Kd.int .i64) (Kd.pair Kd.bool Kd.string))))) (fun x : S25 => (x.f0, x.f1, x.f2, x.f3, x.f4, x.f5))
theorem k25_open {w : World} {x : S25} {cs : List Value} (h : k25.K w x cs) : cs = [.int .i64 x.f0, .int .i64 x.f1, .int .i64 x.f2, .int .i64 x.f3, .bool x.f4, .string x.f5] := by
  obtain ⟨_, _, rfl, rfl, ⟨_, _, rfl, rfl, ⟨_, _, rfl, rfl, ⟨_, _, rfl, rfl, ⟨_, _, rfl, rfl, rfl⟩⟩⟩⟩⟩ := h
  exact rfl
theorem k25_mk (w : World) (x : S25)  : k25.K w x [.int .i64 x.f0, .int .i64 x.f1, .int .i64 x.f2, .int .i64 x.f3, .bool x.f4, .string x.f5] := ⟨[.int .i64 x.f0], [.int .i64 x.f1, .int .i64 x.f2, .int .i64 x.f3, .bool x.f4, .string x.f5], rfl, rfl, ⟨[.int .i64 x.f1], [.int .i64 x.f2, .int .i64 x.f3, .bool x.f4, .string x.f5], rfl, rfl, ⟨[.int .i64 x.f2], [.int .i64 x.f3, .bool x.f4, .string x.f5], rfl, rfl, ⟨[.int .i64 x.f3], [.bool x.f4, .string x.f5], rfl, rfl, ⟨[.bool x.f4], [.string x.f5], rfl, rfl, rfl⟩⟩⟩⟩⟩
theorem k25_mkM (w : World) (base : Nat) (ok : Nat → Prop) (x : S25)  : k25.M w base ok x [.int .i64 x.f0, .int .i64 x.f1, .int .i64 x.f2, .int .i64 x.f3, .bool x.f4, .string x.f5] := ⟨[.int .i64 x.f0], [.int .i64 x.f1, .int .i64 x.f2, .int .i64 x.f3, .bool x.f4, .string x.f5], rfl, rfl, ⟨[.int .i64 x.f1], [.int .i64 x.f2, .int .i64 x.f3, .bool x.f4, .string x.f5], rfl, rfl, ⟨[.int .i64 x.f2], [.int .i64 x.f3, .bool x.f4, .string x.f5], rfl, rfl, ⟨[.int .i64 x.f3], [.bool x.f4, .string x.f5], rfl, rfl, ⟨[.bool x.f4], [.string x.f5], rfl, rfl, rfl⟩⟩⟩⟩⟩
def rd_T25 (xs : List S25) (i : Int) : S25 := xs.getD i.toNat z25
theorem at_T25 {w : World} {A : Option Addr} {n : Nat} {xs : List S25} (h : Kd.C k25 w A n xs) (i : Int) (h0 : 0 ≤ i) (h1 : i < n) : ∃ ad , A = some ad ∧ w.cell? (ad.add (i.toNat * 6)) = some (.int .i64 (rd_T25 xs i).f0) ∧ w.cell? ⟨(ad.add (i.toNat * 6)).block, (ad.add (i.toNat * 6)).off + 1, none⟩ = some (.int .i64 (rd_T25 xs i).f1) ∧ w.cell? ⟨(ad.add (i.toNat * 6)).block, (ad.add (i.toNat * 6)).off + 2, none⟩ = some (.int .i64 (rd_T25 xs i).f2) ∧ w.cell? ⟨(ad.add (i.toNat * 6)).block, (ad.add (i.toNat * 6)).off + 3, none⟩ = some (.int .i64 (rd_T25 xs i).f3) ∧ w.cell? ⟨(ad.add (i.toNat * 6)).block, (ad.add (i.toNat * 6)).off + 4, none⟩ = some (.bool (rd_T25 xs i).f4) ∧ w.cell? ⟨(ad.add (i.toNat * 6)).block, (ad.add (i.toNat * 6)).off + 5, none⟩ = some (.string (rd_T25 xs i).f5) := by
  obtain ⟨ad, c, e, _, hK, hc0⟩ := Kd.C_get h z25 i h0 h1
  have hc : ∀ j u, c[j]? = some u → w.cell? (ad.add (i.toNat * 6 + j)) = some u := hc0
  obtain rfl := k25_open hK
  exact ⟨ad, e, hc 0 _ rfl, by rw [← add_field _ _ 1 (by omega)]; exact hc 1 _ rfl, by rw [← add_field _ _ 2 (by omega)]; exact hc 2 _ rfl, by rw [← add_field _ _ 3 (by omega)]; exact hc 3 _ rfl, by rw [← add_field _ _ 4 (by omega)]; exact hc 4 _ rfl, by rw [← add_field _ _ 5 (by omega)]; exact hc 5 _ rfl⟩
structure S23 where
  f0 : Int
  f1 : Int
  f2 : Int
  f3 : ByteArray
structure S35 where
  f0 : Bool
  f1 : (List Int)
  f2 : (List Int)
structure S85 where
  f0 : Int
theorem eqA25 (d : Nat) (w : World) (x0 y0 : Int) (x1 y1 : Int) (x2 y2 : Int) (x3 y3 : Int) (x4 y4 : Bool) (x5 y5 : ByteArray) :
    (Op.equalIn (d + 2) 25 (.agg #[.int .i64 x0, .int .i64 x1, .int .i64 x2, .int .i64 x3, .bool x4, .string x5]) (.agg #[.int .i64 y0, .int .i64 y1, .int .i64 y2, .int .i64 y3, .bool y4, .string y5])).run Try.prog w = .ok (x0 == y0 && (x1 == y1 && (x2 == y2 && (x3 == y3 && (x4 == y4 && (x5.toList == y5.toList)))))) w := by
  refine eqA_of Try.underlying25 (by kernel_rfl) ?_
  refine eqf_cons (by rfl) (by go_simp; rfl) (by go_simp; rfl) (by go_simp) ?_
  refine eqf_cons (by rfl) (by go_simp; rfl) (by go_simp; rfl) (by go_simp) ?_
  refine eqf_cons (by rfl) (by go_simp; rfl) (by go_simp; rfl) (by go_simp) ?_
  refine eqf_cons (by rfl) (by go_simp; rfl) (by go_simp; rfl) (by go_simp) ?_
  refine eqf_cons (by rfl) (by go_simp; rfl) (by go_simp; rfl) (by go_simp) ?_
  exact eqf_last (by rfl) (by go_simp; rfl) (by go_simp; rfl) (by go_simp)
end Go.Proofs.Ytemlbikangbomaa.P

-- from the text Ha
namespace Go.Proofs.Ytemlbikangbomaa.P
open Go.RowKit Go.Proofs.YtemlbikangbomaaW.PrintWords Go.Proofs.YtemlbikangbomaaW.PrintLast Go.Proofs.YtemlbikangbomaaW.PrintMore
set_option linter.unusedVariables false
set_option linter.unusedSimpArgs false
theorem blk_at_n {W : World} {o : Obj} {n : Nat} (h : n = W.heap.size) : (W.alloc o).heap[n]? = some o := h ▸ blk_new W o
/-- The functions of the table; the numbers' bounds lie in blocks from b on. -/
def ruleF (b : Nat) : Array Value := #[.func (.func 89) #[] #[], .func (.func 85) #[] #[.pointer (some ⟨b, 0, none⟩), .pointer (some ⟨b + 1, 0, none⟩)], .func (.func 85) #[] #[.pointer (some ⟨b + 1 + 1, 0, none⟩), .pointer (some ⟨b + 1 + 1 + 1, 0, none⟩)],
  .func (.func 85) #[] #[.pointer (some ⟨b + 1 + 1 + 1 + 1, 0, none⟩), .pointer (some ⟨b + 1 + 1 + 1 + 1 + 1, 0, none⟩)], .func (.func 86) #[] #[], .func (.func 86) #[] #[], .func (.func 88) #[] #[], .func (.func 87) #[] #[], .func (.func 87) #[] #[], .func (.func 87) #[] #[]]
def RulesAt (b : Nat) (w' : World) : Prop :=
  w'.heap[b]? = some (.cells #[.int .i64 31] 3 (0, 0)) ∧ w'.heap[b + 1]? = some (.cells #[.int .i64 31] 3 (0, 0)) ∧ w'.heap[b + 1 + 1]? = some (.cells #[.int .i64 15] 3 (0, 0)) ∧ w'.heap[b + 1 + 1 + 1]? = some (.cells #[.int .i64 31] 3 (0, 0)) ∧
  w'.heap[b + 1 + 1 + 1 + 1]? = some (.cells #[.int .i64 15] 3 (0, 0)) ∧ w'.heap[b + 1 + 1 + 1 + 1 + 1]? = some (.cells #[.int .i64 0] 3 (0, 0)) ∧ w'.heap[b + 1 + 1 + 1 + 1 + 1 + 1]? = some (.cells (ruleF b) 44 (0, 0))
set_option maxRecDepth 100000 in
theorem rules_any (w : World) : Calls Try.prog 78 #[] w fun e w' => e = .returned (.slice (some ⟨w.heap.size + 1 + 1 + 1 + 1 + 1 + 1, 0, none⟩) 10 10) ∧ Below w.heap.size w w' ∧ RulesAt w.heap.size w' := by
  have hmf : ∀ (fn : Fn) (first cap : Array Value) (w : World), (Instr.makeFunc fn first cap).run Try.prog w = .ok (.func fn first cap) w := fun _ _ _ _ => rfl
  go_enter Try.func78, Try.ntmps78
  go_wp2
  go_ret
  refine ⟨rfl, ?_, ?_⟩
  · exact (((((((Below.refl _ _).alloc (Nat.le_refl _) _).alloc (by simp) _).alloc (by simp; omega) _).alloc (by simp; omega) _).alloc (by simp; omega) _).alloc (by simp; omega) _).alloc (by simp; omega) _
  · unfold RulesAt ruleF
    refine ⟨?_, ?_, ?_, ?_, ?_, ?_, ?_⟩ <;> repeat (first | (refine blk_at_n ?_; simp; done) | refine blk_alloc ?_ _)
end Go.Proofs.Ytemlbikangbomaa.P

-- from the text A79
namespace Go.Proofs.Ytemlbikangbomaa.P
open Go.RowKit Go.Proofs.YtemlbikangbomaaW.PrintWords Go.Proofs.YtemlbikangbomaaW.PrintLast Go.Proofs.YtemlbikangbomaaW.PrintMore
attribute [local go_sem] max2_int min2_int max_two min_two max_three min_three max_four min_four   -- for this text's walks alone
set_option linter.unusedVariables false
set_option linter.unusedSimpArgs false
def digit_within.f (a0 : Int) (a1 : Int) (a2 : Int) : Option (Bool) := if a0 ≥ a1 then (some (decide (a0 ≤ a2))) else (some false)
set_option maxHeartbeats 8000000 in
set_option maxRecDepth 100000 in
theorem digit_within.calls (a0 : Int) (a1 : Int) (a2 : Int) (r : Bool) (w : World) (h : digit_within.f a0 a1 a2 = some r) :
    Calls Try.prog 79 #[.int .i64 a0, .int .i64 a1, .int .i64 a2] w fun e w' => e = .returned (.bool r) ∧ Drawn0 w w' := by
  have H : (if a0 ≥ a1 then (some (decide (a0 ≤ a2))) else (some false)) = some r := h
  clear h
  by_cases c4 : a0 ≥ a1
  · rw [if_pos c4] at H
    have c4b0 : decide (a1 ≤ a0) = true := decide_eq_true c4
    clear c4
    obtain rfl := Option.some.inj H
    go_enter Try.func79, Try.ntmps79
    go_wp2
    go_ret
    exact ⟨by first | rfl | (simp; done) | (simp [*]; done), by repeat (first | exact Drawn0.refl _ | apply Drawn0.step)⟩
  · rw [if_neg c4] at H
    have c4b0 : decide (a1 ≤ a0) = false := decide_eq_false c4
    clear c4
    obtain rfl := Option.some.inj H
    go_enter Try.func79, Try.ntmps79
    go_wp2
    go_ret
    exact ⟨by first | rfl | (simp; done) | (simp [*]; done), by repeat (first | exact Drawn0.refl _ | apply Drawn0.step)⟩
/-- THE ONE PURE STATEMENT of digit_within: yours. -/
def digit_within.Pure : Prop := ∀ (a0 : Int) (a1 : Int) (a2 : Int), (Lit.int .i64 a0).wf = true → (Lit.int .i64 a1).wf = true → (Lit.int .i64 a2).wf = true → digit_within.f a0 a1 a2 = some true
theorem digit_within.walk (P : digit_within.Pure) (a0 : Int) (a1 : Int) (a2 : Int) (w : World) (w0 : (Lit.int .i64 a0).wf = true) (w1 : (Lit.int .i64 a1).wf = true) (w2 : (Lit.int .i64 a2).wf = true) :
    Calls Try.prog 79 #[.int .i64 a0, .int .i64 a1, .int .i64 a2] w fun e w' => e = .returned (.bool true) ∧ Below w.heap.size w w' := by
  have h := P a0 a1 a2 w0 w1 w2
  refine (digit_within.calls a0 a1 a2 true w h).mono ?_
  rintro e w' ⟨rfl, hd⟩
  exact ⟨rfl, hd.below⟩
end Go.Proofs.Ytemlbikangbomaa.P

-- from the text A86
namespace Go.Proofs.Ytemlbikangbomaa.P
open Go.RowKit Go.Proofs.YtemlbikangbomaaW.PrintWords Go.Proofs.YtemlbikangbomaaW.PrintLast Go.Proofs.YtemlbikangbomaaW.PrintMore
attribute [local go_sem] max2_int min2_int max_two min_two max_three min_three max_four min_four   -- for this text's walks alone
set_option linter.unusedVariables false
set_option linter.unusedSimpArgs false
def digit_rules_2.f (a0_0 : Int) (a0_1 : Int) (a0_2 : Int) (a0_3 : Int) (a0_4 : Bool) (a0_5 : ByteArray) : Option (Bool) := if a0_1 = 0 then (if a0_2 = 0 then ((digit_within.f a0_3 0 250).bind fun t102 => (if t102 = true then (some (a0_5.toList == ([] : List UInt8))) else (some false))) else (some false)) else (some false)
set_option maxHeartbeats 8000000 in
set_option maxRecDepth 100000 in
theorem digit_rules_2.calls (a0_0 : Int) (a0_1 : Int) (a0_2 : Int) (a0_3 : Int) (a0_4 : Bool) (a0_5 : ByteArray) (r : Bool) (w : World) (h : digit_rules_2.f a0_0 a0_1 a0_2 a0_3 a0_4 a0_5 = some r) :
    Calls Try.prog 86 #[.agg #[.int .i64 a0_0, .int .i64 a0_1, .int .i64 a0_2, .int .i64 a0_3, .bool a0_4, .string a0_5]] w fun e w' => e = .returned (.bool r) ∧ Below w.heap.size w w' := by
  have hu25 := Try.underlying25
  have HB := Aside0.mk (Below.refl w.heap.size w)
  have H : (if a0_1 = 0 then (if a0_2 = 0 then ((digit_within.f a0_3 0 250).bind fun t102 => (if t102 = true then (some (a0_5.toList == ([] : List UInt8))) else (some false))) else (some false)) else (some false)) = some r := h
  clear h
  by_cases c2 : a0_1 = 0
  · rw [if_pos c2] at H
    have c2b0 : (a0_1 == 0) = true := beq_iff_eq.mpr c2
    have c2b1 : (a0_1 != 0) = false := bne_eq_false_iff_eq.mpr c2
    clear c2
    by_cases c3 : a0_2 = 0
    · rw [if_pos c3] at H
      have c3b0 : (a0_2 == 0) = true := beq_iff_eq.mpr c3
      have c3b1 : (a0_2 != 0) = false := bne_eq_false_iff_eq.mpr c3
      clear c3
      replace H := Option.bind_eq_some_iff.mp H
      obtain ⟨t102, A40, H⟩ := H
      replace H : (if t102 = true then (some (a0_5.toList == ([] : List UInt8))) else (some false)) = some r := H
      have A4 := Aside0.mk A40
      clear A40
      by_cases c5 : t102 = true
      · subst c5
        have H1 : (some (a0_5.toList == ([] : List UInt8))) = some r := by rw [if_pos rfl] at H; exact H
        clear H
        have H := H1
        clear H1
        obtain rfl := Option.some.inj H
        go_enter Try.func86, Try.ntmps86
        go_wp2_with (first | ((with_reducible refine gate_dst (N := 1) rfl ?_); refine box_event ?hg (N := 1) ?hd (cs := #[.int .i64 a0_0, .int .i64 a0_1, .int .i64 a0_2, .int .i64 a0_3, .bool a0_4, .string a0_5]) (t := 25) ?hr ?_; (case hd => rfl); (case hg => rfl); (case hr => first | (go_simp; done) | (go_simp; rfl)); intro gb101 hg w6 hbox hb; have n0_ := Aside0.mk (below_step (by repeat (first | (with_reducible first | exact HB.out | apply below_alloc | apply pw_below_drewN | apply below_drew1) | exact HB.out)) hb); have n1_ := Aside0.mk (hbox); have n2_ := Aside0.mk ((by rw [hg]; exact (below_size (by repeat (first | (with_reducible first | exact HB.out | apply below_alloc | apply pw_below_drewN | apply below_drew1) | exact HB.out))) : w.heap.size ≤ gb101)); have n3_ := n2_; clear HB; have HB := n0_; have BK101 := n1_; have GW101 := n2_; have GE101 := n3_; clear n0_ n1_ n2_ n3_; clear hb hbox hg; obtain ⟨hcz7_0, hcz7_1, hcz7_2, hcz7_3, hcz7_4, hcz7_5⟩ := blk_six BK101.out; obtain ⟨hfz7_0, hfz7_1, hfz7_2, hfz7_3, hfz7_4, hfz7_5⟩ := blk_six_free BK101.out) | (go_at_call 79; (with_reducible refine (digit_within.calls a0_3 0 250 true _ A4.out).mono ?_); rintro e w' ⟨rfl, ⟨nd, rfl⟩⟩))
        go_ret
        exact ⟨by first | rfl | (simp [errW_none, errW_some] <;> rfl) | (simp [*, errW_none, errW_some] <;> rfl), by repeat (first | (with_reducible first | exact HB.out | apply below_alloc | apply pw_below_drewN | apply below_drew1 | refine below_set ?_ GE101.out) | exact HB.out)⟩
      · replace c5 := Bool.eq_false_iff.mpr c5
        subst c5
        have H1 : (some false) = some r := by rw [if_neg (show ¬ (false = true) by decide)] at H; exact H
        clear H
        have H := H1
        clear H1
        obtain rfl := Option.some.inj H
        go_enter Try.func86, Try.ntmps86
        go_wp2_with (first | ((with_reducible refine gate_dst (N := 1) rfl ?_); refine box_event ?hg (N := 1) ?hd (cs := #[.int .i64 a0_0, .int .i64 a0_1, .int .i64 a0_2, .int .i64 a0_3, .bool a0_4, .string a0_5]) (t := 25) ?hr ?_; (case hd => rfl); (case hg => rfl); (case hr => first | (go_simp; done) | (go_simp; rfl)); intro gb101 hg w8 hbox hb; have n0_ := Aside0.mk (below_step (by repeat (first | (with_reducible first | exact HB.out | apply below_alloc | apply pw_below_drewN | apply below_drew1) | exact HB.out)) hb); have n1_ := Aside0.mk (hbox); have n2_ := Aside0.mk ((by rw [hg]; exact (below_size (by repeat (first | (with_reducible first | exact HB.out | apply below_alloc | apply pw_below_drewN | apply below_drew1) | exact HB.out))) : w.heap.size ≤ gb101)); have n3_ := n2_; clear HB; have HB := n0_; have BK101 := n1_; have GW101 := n2_; have GE101 := n3_; clear n0_ n1_ n2_ n3_; clear hb hbox hg; obtain ⟨hcz9_0, hcz9_1, hcz9_2, hcz9_3, hcz9_4, hcz9_5⟩ := blk_six BK101.out; obtain ⟨hfz9_0, hfz9_1, hfz9_2, hfz9_3, hfz9_4, hfz9_5⟩ := blk_six_free BK101.out) | (go_at_call 79; (with_reducible refine (digit_within.calls a0_3 0 250 false _ A4.out).mono ?_); rintro e w' ⟨rfl, ⟨nd, rfl⟩⟩))
        go_ret
        exact ⟨by first | rfl | (simp [errW_none, errW_some] <;> rfl) | (simp [*, errW_none, errW_some] <;> rfl), by repeat (first | (with_reducible first | exact HB.out | apply below_alloc | apply pw_below_drewN | apply below_drew1 | refine below_set ?_ GE101.out) | exact HB.out)⟩
    · rw [if_neg c3] at H
      have c3b0 : (a0_2 == 0) = false := beq_eq_false_iff_ne.mpr c3
      have c3b1 : (a0_2 != 0) = true := bne_iff_ne.mpr c3
      obtain rfl := Option.some.inj H
      go_enter Try.func86, Try.ntmps86
      go_wp2_with (first | ((with_reducible refine gate_dst (N := 1) rfl ?_); refine box_event ?hg (N := 1) ?hd (cs := #[.int .i64 a0_0, .int .i64 a0_1, .int .i64 a0_2, .int .i64 a0_3, .bool a0_4, .string a0_5]) (t := 25) ?hr ?_; (case hd => rfl); (case hg => rfl); (case hr => first | (go_simp; done) | (go_simp; rfl)); intro gb101 hg w10 hbox hb; have n0_ := Aside0.mk (below_step (by repeat (first | (with_reducible first | exact HB.out | apply below_alloc | apply pw_below_drewN | apply below_drew1) | exact HB.out)) hb); have n1_ := Aside0.mk (hbox); have n2_ := Aside0.mk ((by rw [hg]; exact (below_size (by repeat (first | (with_reducible first | exact HB.out | apply below_alloc | apply pw_below_drewN | apply below_drew1) | exact HB.out))) : w.heap.size ≤ gb101)); have n3_ := n2_; clear HB; have HB := n0_; have BK101 := n1_; have GW101 := n2_; have GE101 := n3_; clear n0_ n1_ n2_ n3_; clear hb hbox hg; obtain ⟨hcz11_0, hcz11_1, hcz11_2, hcz11_3, hcz11_4, hcz11_5⟩ := blk_six BK101.out; obtain ⟨hfz11_0, hfz11_1, hfz11_2, hfz11_3, hfz11_4, hfz11_5⟩ := blk_six_free BK101.out))
      go_ret
      exact ⟨by first | rfl | (simp [errW_none, errW_some] <;> rfl) | (simp [*, errW_none, errW_some] <;> rfl), by repeat (first | (with_reducible first | exact HB.out | apply below_alloc | apply pw_below_drewN | apply below_drew1 | refine below_set ?_ GE101.out) | exact HB.out)⟩
  · rw [if_neg c2] at H
    have c2b0 : (a0_1 == 0) = false := beq_eq_false_iff_ne.mpr c2
    have c2b1 : (a0_1 != 0) = true := bne_iff_ne.mpr c2
    obtain rfl := Option.some.inj H
    go_enter Try.func86, Try.ntmps86
    go_wp2_with (first | ((with_reducible refine gate_dst (N := 1) rfl ?_); refine box_event ?hg (N := 1) ?hd (cs := #[.int .i64 a0_0, .int .i64 a0_1, .int .i64 a0_2, .int .i64 a0_3, .bool a0_4, .string a0_5]) (t := 25) ?hr ?_; (case hd => rfl); (case hg => rfl); (case hr => first | (go_simp; done) | (go_simp; rfl)); intro gb101 hg w12 hbox hb; have n0_ := Aside0.mk (below_step (by repeat (first | (with_reducible first | exact HB.out | apply below_alloc | apply pw_below_drewN | apply below_drew1) | exact HB.out)) hb); have n1_ := Aside0.mk (hbox); have n2_ := Aside0.mk ((by rw [hg]; exact (below_size (by repeat (first | (with_reducible first | exact HB.out | apply below_alloc | apply pw_below_drewN | apply below_drew1) | exact HB.out))) : w.heap.size ≤ gb101)); have n3_ := n2_; clear HB; have HB := n0_; have BK101 := n1_; have GW101 := n2_; have GE101 := n3_; clear n0_ n1_ n2_ n3_; clear hb hbox hg; obtain ⟨hcz13_0, hcz13_1, hcz13_2, hcz13_3, hcz13_4, hcz13_5⟩ := blk_six BK101.out; obtain ⟨hfz13_0, hfz13_1, hfz13_2, hfz13_3, hfz13_4, hfz13_5⟩ := blk_six_free BK101.out))
    go_ret
    exact ⟨by first | rfl | (simp [errW_none, errW_some] <;> rfl) | (simp [*, errW_none, errW_some] <;> rfl), by repeat (first | (with_reducible first | exact HB.out | apply below_alloc | apply pw_below_drewN | apply below_drew1 | refine below_set ?_ GE101.out) | exact HB.out)⟩
end Go.Proofs.Ytemlbikangbomaa.P

-- from the text A87
namespace Go.Proofs.Ytemlbikangbomaa.P
open Go.RowKit Go.Proofs.YtemlbikangbomaaW.PrintWords Go.Proofs.YtemlbikangbomaaW.PrintLast Go.Proofs.YtemlbikangbomaaW.PrintMore
attribute [local go_sem] max2_int min2_int max_two min_two max_three min_three max_four min_four   -- for this text's walks alone
set_option linter.unusedVariables false
set_option linter.unusedSimpArgs false
attribute [local go_sem high] eqA25
def digit_rules_3.f (a0_0 : Int) (a0_1 : Int) (a0_2 : Int) (a0_3 : Int) (a0_4 : Bool) (a0_5 : ByteArray) : Option (Bool) := some (a0_1 == 0 && (a0_2 == 0 && (a0_3 == 0 && (!a0_4 && (a0_5.toList == ([] : List UInt8))))))
set_option maxHeartbeats 8000000 in
set_option maxRecDepth 100000 in
theorem digit_rules_3.calls (a0_0 : Int) (a0_1 : Int) (a0_2 : Int) (a0_3 : Int) (a0_4 : Bool) (a0_5 : ByteArray) (r : Bool) (w : World) (h : digit_rules_3.f a0_0 a0_1 a0_2 a0_3 a0_4 a0_5 = some r) :
    Calls Try.prog 87 #[.agg #[.int .i64 a0_0, .int .i64 a0_1, .int .i64 a0_2, .int .i64 a0_3, .bool a0_4, .string a0_5]] w fun e w' => e = .returned (.bool r) ∧ Below w.heap.size w w' := by
  have hu25 := Try.underlying25
  have HB := Aside0.mk (Below.refl w.heap.size w)
  have H : (some (a0_1 == 0 && (a0_2 == 0 && (a0_3 == 0 && (!a0_4 && (a0_5.toList == ([] : List UInt8))))))) = some r := h
  clear h
  obtain rfl := Option.some.inj H
  go_enter Try.func87, Try.ntmps87
  go_wp2_with (first | ((with_reducible refine gate_dst (N := 1) rfl ?_); refine box_event ?hg (N := 1) ?hd (cs := #[.int .i64 a0_0, .int .i64 a0_1, .int .i64 a0_2, .int .i64 a0_3, .bool a0_4, .string a0_5]) (t := 25) ?hr ?_; (case hd => rfl); (case hg => rfl); (case hr => first | (go_simp; done) | (go_simp; rfl)); intro gb101 hg w2 hbox hb; have n0_ := Aside0.mk (below_step (by repeat (first | (with_reducible first | exact HB.out | apply below_alloc | apply pw_below_drewN | apply below_drew1) | exact HB.out)) hb); have n1_ := Aside0.mk (hbox); have n2_ := Aside0.mk ((by rw [hg]; exact (below_size (by repeat (first | (with_reducible first | exact HB.out | apply below_alloc | apply pw_below_drewN | apply below_drew1) | exact HB.out))) : w.heap.size ≤ gb101)); have n3_ := n2_; clear HB; have HB := n0_; have BK101 := n1_; have GW101 := n2_; have GE101 := n3_; clear n0_ n1_ n2_ n3_; clear hb hbox hg; obtain ⟨hcz3_0, hcz3_1, hcz3_2, hcz3_3, hcz3_4, hcz3_5⟩ := blk_six BK101.out; obtain ⟨hfz3_0, hfz3_1, hfz3_2, hfz3_3, hfz3_4, hfz3_5⟩ := blk_six_free BK101.out))
  go_ret
  exact ⟨by first | rfl | (simp [errW_none, errW_some] <;> rfl) | (simp [*, errW_none, errW_some] <;> rfl), by repeat (first | (with_reducible first | exact HB.out | apply below_alloc | apply pw_below_drewN | apply below_drew1 | refine below_set ?_ GE101.out) | exact HB.out)⟩
end Go.Proofs.Ytemlbikangbomaa.P

-- from the text A88
namespace Go.Proofs.Ytemlbikangbomaa.P
open Go.RowKit Go.Proofs.YtemlbikangbomaaW.PrintWords Go.Proofs.YtemlbikangbomaaW.PrintLast Go.Proofs.YtemlbikangbomaaW.PrintMore
attribute [local go_sem] max2_int min2_int max_two min_two max_three min_three max_four min_four   -- for this text's walks alone
set_option linter.unusedVariables false
set_option linter.unusedSimpArgs false
attribute [local go_sem high] eqA25
def digit_rules_4.f (a0_0 : Int) (a0_1 : Int) (a0_2 : Int) (a0_3 : Int) (a0_4 : Bool) (a0_5 : ByteArray) : Option (Bool) := (digit_within.f (a0_5.size : Int) 1 80).bind fun t102 => (if t102 = true then (some (a0_1 == 0 && (a0_2 == 0 && (a0_3 == 0 && (!a0_4))))) else (some false))
set_option maxHeartbeats 8000000 in
set_option maxRecDepth 100000 in
theorem digit_rules_4.calls (a0_0 : Int) (a0_1 : Int) (a0_2 : Int) (a0_3 : Int) (a0_4 : Bool) (a0_5 : ByteArray) (r : Bool) (w : World) (h : digit_rules_4.f a0_0 a0_1 a0_2 a0_3 a0_4 a0_5 = some r) :
    Calls Try.prog 88 #[.agg #[.int .i64 a0_0, .int .i64 a0_1, .int .i64 a0_2, .int .i64 a0_3, .bool a0_4, .string a0_5]] w fun e w' => e = .returned (.bool r) ∧ Below w.heap.size w w' := by
  have hu25 := Try.underlying25
  have HB := Aside0.mk (Below.refl w.heap.size w)
  have H : ((digit_within.f (a0_5.size : Int) 1 80).bind fun t102 => (if t102 = true then (some (a0_1 == 0 && (a0_2 == 0 && (a0_3 == 0 && (!a0_4))))) else (some false))) = some r := h
  clear h
  replace H := Option.bind_eq_some_iff.mp H
  obtain ⟨t102, A20, H⟩ := H
  replace H : (if t102 = true then (some (a0_1 == 0 && (a0_2 == 0 && (a0_3 == 0 && (!a0_4))))) else (some false)) = some r := H
  have A2 := Aside0.mk A20
  clear A20
  by_cases c3 : t102 = true
  · subst c3
    have H1 : (some (a0_1 == 0 && (a0_2 == 0 && (a0_3 == 0 && (!a0_4))))) = some r := by rw [if_pos rfl] at H; exact H
    clear H
    have H := H1
    clear H1
    obtain rfl := Option.some.inj H
    go_enter Try.func88, Try.ntmps88
    go_wp2_with (first | ((with_reducible refine gate_dst (N := 1) rfl ?_); refine box_event ?hg (N := 1) ?hd (cs := #[.int .i64 a0_0, .int .i64 a0_1, .int .i64 a0_2, .int .i64 a0_3, .bool a0_4, .string a0_5]) (t := 25) ?hr ?_; (case hd => rfl); (case hg => rfl); (case hr => first | (go_simp; done) | (go_simp; rfl)); intro gb101 hg w4 hbox hb; have n0_ := Aside0.mk (below_step (by repeat (first | (with_reducible first | exact HB.out | apply below_alloc | apply pw_below_drewN | apply below_drew1) | exact HB.out)) hb); have n1_ := Aside0.mk (hbox); have n2_ := Aside0.mk ((by rw [hg]; exact (below_size (by repeat (first | (with_reducible first | exact HB.out | apply below_alloc | apply pw_below_drewN | apply below_drew1) | exact HB.out))) : w.heap.size ≤ gb101)); have n3_ := n2_; clear HB; have HB := n0_; have BK101 := n1_; have GW101 := n2_; have GE101 := n3_; clear n0_ n1_ n2_ n3_; clear hb hbox hg; obtain ⟨hcz5_0, hcz5_1, hcz5_2, hcz5_3, hcz5_4, hcz5_5⟩ := blk_six BK101.out; obtain ⟨hfz5_0, hfz5_1, hfz5_2, hfz5_3, hfz5_4, hfz5_5⟩ := blk_six_free BK101.out) | ((with_reducible refine gate_callee (f := 79) rfl ?_); refine goesL_ (some 6) rfl rfl Try.func79 (by kernel_rfl) rfl #[.int .i64 (a0_5.size : Int), .int .i64 1, .int .i64 80] rfl (by (try simp only [List.map_toArray, List.map_cons, List.map_nil]); first | done | rfl | (simp only [List.length_drop, List.length_take]; rfl)) ?_; (with_reducible refine (digit_within.calls (a0_5.size : Int) 1 80 true _ A2.out).mono ?_); rintro e w' ⟨rfl, ⟨nd, rfl⟩⟩; refine ⟨_, rfl, ?_⟩))
    go_ret
    exact ⟨by first | rfl | (simp [errW_none, errW_some] <;> rfl) | (simp [*, errW_none, errW_some] <;> rfl), by repeat (first | (with_reducible first | exact HB.out | apply below_alloc | apply pw_below_drewN | apply below_drew1 | refine below_set ?_ GE101.out) | exact HB.out)⟩
  · replace c3 := Bool.eq_false_iff.mpr c3
    subst c3
    have H1 : (some false) = some r := by rw [if_neg (show ¬ (false = true) by decide)] at H; exact H
    clear H
    have H := H1
    clear H1
    obtain rfl := Option.some.inj H
    go_enter Try.func88, Try.ntmps88
    go_wp2_with (first | ((with_reducible refine gate_dst (N := 1) rfl ?_); refine box_event ?hg (N := 1) ?hd (cs := #[.int .i64 a0_0, .int .i64 a0_1, .int .i64 a0_2, .int .i64 a0_3, .bool a0_4, .string a0_5]) (t := 25) ?hr ?_; (case hd => rfl); (case hg => rfl); (case hr => first | (go_simp; done) | (go_simp; rfl)); intro gb101 hg w6 hbox hb; have n0_ := Aside0.mk (below_step (by repeat (first | (with_reducible first | exact HB.out | apply below_alloc | apply pw_below_drewN | apply below_drew1) | exact HB.out)) hb); have n1_ := Aside0.mk (hbox); have n2_ := Aside0.mk ((by rw [hg]; exact (below_size (by repeat (first | (with_reducible first | exact HB.out | apply below_alloc | apply pw_below_drewN | apply below_drew1) | exact HB.out))) : w.heap.size ≤ gb101)); have n3_ := n2_; clear HB; have HB := n0_; have BK101 := n1_; have GW101 := n2_; have GE101 := n3_; clear n0_ n1_ n2_ n3_; clear hb hbox hg; obtain ⟨hcz7_0, hcz7_1, hcz7_2, hcz7_3, hcz7_4, hcz7_5⟩ := blk_six BK101.out; obtain ⟨hfz7_0, hfz7_1, hfz7_2, hfz7_3, hfz7_4, hfz7_5⟩ := blk_six_free BK101.out) | ((with_reducible refine gate_callee (f := 79) rfl ?_); refine goesL_ (some 6) rfl rfl Try.func79 (by kernel_rfl) rfl #[.int .i64 (a0_5.size : Int), .int .i64 1, .int .i64 80] rfl (by (try simp only [List.map_toArray, List.map_cons, List.map_nil]); first | done | rfl | (simp only [List.length_drop, List.length_take]; rfl)) ?_; (with_reducible refine (digit_within.calls (a0_5.size : Int) 1 80 false _ A2.out).mono ?_); rintro e w' ⟨rfl, ⟨nd, rfl⟩⟩; refine ⟨_, rfl, ?_⟩))
    go_ret
    exact ⟨by first | rfl | (simp [errW_none, errW_some] <;> rfl) | (simp [*, errW_none, errW_some] <;> rfl), by repeat (first | (with_reducible first | exact HB.out | apply below_alloc | apply pw_below_drewN | apply below_drew1 | refine below_set ?_ GE101.out) | exact HB.out)⟩
end Go.Proofs.Ytemlbikangbomaa.P

-- from the text A89
namespace Go.Proofs.Ytemlbikangbomaa.P
open Go.RowKit Go.Proofs.YtemlbikangbomaaW.PrintWords Go.Proofs.YtemlbikangbomaaW.PrintLast Go.Proofs.YtemlbikangbomaaW.PrintMore
attribute [local go_sem] max2_int min2_int max_two min_two max_three min_three max_four min_four   -- for this text's walks alone
set_option linter.unusedVariables false
set_option linter.unusedSimpArgs false
def digit_rules_5.f (a0_0 : Int) (a0_1 : Int) (a0_2 : Int) (a0_3 : Int) (a0_4 : Bool) (a0_5 : ByteArray) : Option (Bool) := some false
set_option maxHeartbeats 8000000 in
set_option maxRecDepth 100000 in
theorem digit_rules_5.calls (a0_0 : Int) (a0_1 : Int) (a0_2 : Int) (a0_3 : Int) (a0_4 : Bool) (a0_5 : ByteArray) (r : Bool) (w : World) (h : digit_rules_5.f a0_0 a0_1 a0_2 a0_3 a0_4 a0_5 = some r) :
    Calls Try.prog 89 #[.agg #[.int .i64 a0_0, .int .i64 a0_1, .int .i64 a0_2, .int .i64 a0_3, .bool a0_4, .string a0_5]] w fun e w' => e = .returned (.bool r) ∧ Below w.heap.size w w' := by
  have hu25 := Try.underlying25
  have HB := Aside0.mk (Below.refl w.heap.size w)
  have H : (some false) = some r := h
  clear h
  obtain rfl := Option.some.inj H
  go_enter Try.func89, Try.ntmps89
  go_wp2_with (first | ((with_reducible refine gate_dst (N := 1) rfl ?_); refine box_event ?hg (N := 1) ?hd (cs := #[.int .i64 a0_0, .int .i64 a0_1, .int .i64 a0_2, .int .i64 a0_3, .bool a0_4, .string a0_5]) (t := 25) ?hr ?_; (case hd => rfl); (case hg => rfl); (case hr => first | (go_simp; done) | (go_simp; rfl)); intro gb101 hg w2 hbox hb; have n0_ := Aside0.mk (below_step (by repeat (first | (with_reducible first | exact HB.out | apply below_alloc | apply pw_below_drewN | apply below_drew1) | exact HB.out)) hb); have n1_ := Aside0.mk (hbox); have n2_ := Aside0.mk ((by rw [hg]; exact (below_size (by repeat (first | (with_reducible first | exact HB.out | apply below_alloc | apply pw_below_drewN | apply below_drew1) | exact HB.out))) : w.heap.size ≤ gb101)); have n3_ := n2_; clear HB; have HB := n0_; have BK101 := n1_; have GW101 := n2_; have GE101 := n3_; clear n0_ n1_ n2_ n3_; clear hb hbox hg))
  go_ret
  exact ⟨by first | rfl | (simp [errW_none, errW_some] <;> rfl) | (simp [*, errW_none, errW_some] <;> rfl), by repeat (first | (with_reducible first | exact HB.out | apply below_alloc | apply pw_below_drewN | apply below_drew1 | refine below_set ?_ GE101.out) | exact HB.out)⟩
end Go.Proofs.Ytemlbikangbomaa.P

-- from the text Hb
namespace Go.Proofs.Ytemlbikangbomaa.P
open Go.RowKit Go.Proofs.YtemlbikangbomaaW.PrintWords Go.Proofs.YtemlbikangbomaaW.PrintLast Go.Proofs.YtemlbikangbomaaW.PrintMore
set_option linter.unusedVariables false
set_option linter.unusedSimpArgs false
theorem toList_nil (p : ByteArray) (h : p.size = 0) : p.toList = [] := by
  rw [ByteArray.toList_eq]; exact List.eq_nil_of_length_eq_zero (by simpa using h)
theorem toList_ne (p : ByteArray) (h : 0 < p.size) : ¬ p.toList = [] := by
  rw [ByteArray.toList_eq]; intro e
  have : p.size = 0 := by rw [← data_length, e]; rfl
  omega
theorem eqNil (p : ByteArray) : (p.toList == ([] : List UInt8)) = decide (p.size = 0) := by
  by_cases h : p.size = 0
  · rw [decide_eq_true h, toList_nil p h]; rfl
  · rw [decide_eq_false h, beq_eq_false_iff_ne]; exact toList_ne p (by omega)
def inB (n a b : Int) : Bool := decide (a ≤ n) && decide (n ≤ b)
theorem within_is (n a b : Int) (r : Bool) (h : inB n a b = r) (w : World) : Calls Try.prog 79 #[.int .i64 n, .int .i64 a, .int .i64 b] w fun e w' => e = .returned (.bool r) ∧ Drawn0 w w' := by
  refine digit_within.calls n a b r w ?_
  unfold digit_within.f
  rw [← h]; unfold inB
  by_cases h1 : n ≥ a
  · rw [if_pos h1, decide_eq_true (show a ≤ n from h1), Bool.true_and]
  · rw [if_neg h1, decide_eq_false (show ¬ a ≤ n from h1), Bool.false_and]
def vNum (t : S25) (most scale : Int) : Bool := inB t.f1 1 most && (inB t.f2 0 scale && (t.f3 == 0 && (!t.f4 && decide (t.f5.size = 0))))
def ty25 (t : S25) : Value := .agg #[.int .i64 t.f0, .int .i64 t.f1, .int .i64 t.f2, .int .i64 t.f3, .bool t.f4, .string t.f5]
set_option maxRecDepth 100000 in
theorem num_p (t : S25) (most scale : Int) (g1 g2 : Nat) (w : World) (hg1 : w.heap[g1]? = some (.cells #[.int .i64 most] 3 (0, 0))) (hg2 : w.heap[g2]? = some (.cells #[.int .i64 scale] 3 (0, 0))) (h1 : inB t.f1 1 most = false) :
    Calls Try.prog 85 #[.agg #[.int .i64 t.f0, .int .i64 t.f1, .int .i64 t.f2, .int .i64 t.f3, .bool t.f4, .string t.f5], .pointer (some ⟨g1, 0, none⟩), .pointer (some ⟨g2, 0, none⟩)] w fun e w' => e = .returned (.bool false) ∧ Below w.heap.size w w' := by
  have hG1 := blk_alloc hg1 (.cells #[.int .i64 t.f0, .int .i64 t.f1, .int .i64 t.f2, .int .i64 t.f3, .bool t.f4, .string t.f5] 25 (0, 0))
  have hG2 := blk_alloc hg2 (.cells #[.int .i64 t.f0, .int .i64 t.f1, .int .i64 t.f2, .int .i64 t.f3, .bool t.f4, .string t.f5] 25 (0, 0))
  have m0 := (blk_cell hG1 0).trans rfl
  have HG2 := Aside0.mk hG2
  have HT := Aside0.mk (blk_at_n (W := w) (o := .cells #[.int .i64 t.f0, .int .i64 t.f1, .int .i64 t.f2, .int .i64 t.f3, .bool t.f4, .string t.f5] 25 (0, 0)) rfl)
  clear hg1 hg2 hG1 hG2
  have H1 := Lib.hid h1
  clear h1
  go_enter Try.func85, Try.ntmps85
  go_wp2_with fail
  refine (within_is _ _ _ _ H1.out _).mono ?_
  rintro e w1 ⟨rfl, hd1⟩
  have hb1 := hd1.below
  have hbb := Aside0.mk (((Below.refl w.heap.size w).alloc (Nat.le_refl _) _).trans (hb1.mono (by simp)))
  have HT := Aside0.mk (blk_below HT.out hb1)
  have HG2 := Aside0.mk (blk_below HG2.out hb1)
  have s0 := (blk_cell HG2.out 0).trans rfl
  have t2 := (blk_cell HT.out 2).trans rfl
  have t3 := (blk_cell HT.out 3).trans rfl
  have t4 := (blk_cell HT.out 4).trans rfl
  have t5 := (blk_cell HT.out 5).trans rfl
  clear hb1 hd1 m0
  go_wp2_with fail
  go_ret
  exact ⟨rfl, hbb.out⟩
set_option maxRecDepth 100000 in
theorem num_q (t : S25) (most scale : Int) (g1 g2 : Nat) (w : World) (hg1 : w.heap[g1]? = some (.cells #[.int .i64 most] 3 (0, 0))) (hg2 : w.heap[g2]? = some (.cells #[.int .i64 scale] 3 (0, 0))) (h1 : inB t.f1 1 most = true) (h2 : inB t.f2 0 scale = false) :
    Calls Try.prog 85 #[.agg #[.int .i64 t.f0, .int .i64 t.f1, .int .i64 t.f2, .int .i64 t.f3, .bool t.f4, .string t.f5], .pointer (some ⟨g1, 0, none⟩), .pointer (some ⟨g2, 0, none⟩)] w fun e w' => e = .returned (.bool false) ∧ Below w.heap.size w w' := by
  have hG1 := blk_alloc hg1 (.cells #[.int .i64 t.f0, .int .i64 t.f1, .int .i64 t.f2, .int .i64 t.f3, .bool t.f4, .string t.f5] 25 (0, 0))
  have hG2 := blk_alloc hg2 (.cells #[.int .i64 t.f0, .int .i64 t.f1, .int .i64 t.f2, .int .i64 t.f3, .bool t.f4, .string t.f5] 25 (0, 0))
  have m0 := (blk_cell hG1 0).trans rfl
  have HG2 := Aside0.mk hG2
  have HT := Aside0.mk (blk_at_n (W := w) (o := .cells #[.int .i64 t.f0, .int .i64 t.f1, .int .i64 t.f2, .int .i64 t.f3, .bool t.f4, .string t.f5] 25 (0, 0)) rfl)
  clear hg1 hg2 hG1 hG2
  have H1 := Lib.hid h1
  clear h1
  have H2 := Lib.hid h2
  clear h2
  go_enter Try.func85, Try.ntmps85
  go_wp2_with fail
  refine (within_is _ _ _ _ H1.out _).mono ?_
  rintro e w1 ⟨rfl, hd1⟩
  have hb1 := hd1.below
  have hbb := Aside0.mk (((Below.refl w.heap.size w).alloc (Nat.le_refl _) _).trans (hb1.mono (by simp)))
  have HT := Aside0.mk (blk_below HT.out hb1)
  have HG2 := Aside0.mk (blk_below HG2.out hb1)
  have s0 := (blk_cell HG2.out 0).trans rfl
  have t2 := (blk_cell HT.out 2).trans rfl
  have t3 := (blk_cell HT.out 3).trans rfl
  have t4 := (blk_cell HT.out 4).trans rfl
  have t5 := (blk_cell HT.out 5).trans rfl
  clear hb1 hd1 m0
  go_wp2_with fail
  refine (within_is _ _ _ _ H2.out _).mono ?_
  rintro e w2 ⟨rfl, hd2⟩
  have hb2 := hd2.below
  have hbb := Aside0.mk (hbb.out.trans (hb2.mono hbb.out.size))
  have HT := Aside0.mk (blk_below HT.out hb2)
  clear hb2 hd2 s0 t2 t3 t4 t5
  have t3 := (blk_cell HT.out 3).trans rfl
  have t4 := (blk_cell HT.out 4).trans rfl
  have t5 := (blk_cell HT.out 5).trans rfl
  go_wp2_with fail
  go_ret
  exact ⟨rfl, hbb.out⟩
set_option maxRecDepth 100000 in
theorem num_n (t : S25) (most scale : Int) (g1 g2 : Nat) (w : World) (hg1 : w.heap[g1]? = some (.cells #[.int .i64 most] 3 (0, 0))) (hg2 : w.heap[g2]? = some (.cells #[.int .i64 scale] 3 (0, 0))) (h1 : inB t.f1 1 most = true) (h2 : inB t.f2 0 scale = true) (h3 : t.f3 ≠ 0) :
    Calls Try.prog 85 #[.agg #[.int .i64 t.f0, .int .i64 t.f1, .int .i64 t.f2, .int .i64 t.f3, .bool t.f4, .string t.f5], .pointer (some ⟨g1, 0, none⟩), .pointer (some ⟨g2, 0, none⟩)] w fun e w' => e = .returned (.bool false) ∧ Below w.heap.size w w' := by
  have hG1 := blk_alloc hg1 (.cells #[.int .i64 t.f0, .int .i64 t.f1, .int .i64 t.f2, .int .i64 t.f3, .bool t.f4, .string t.f5] 25 (0, 0))
  have hG2 := blk_alloc hg2 (.cells #[.int .i64 t.f0, .int .i64 t.f1, .int .i64 t.f2, .int .i64 t.f3, .bool t.f4, .string t.f5] 25 (0, 0))
  have m0 := (blk_cell hG1 0).trans rfl
  have HG2 := Aside0.mk hG2
  have HT := Aside0.mk (blk_at_n (W := w) (o := .cells #[.int .i64 t.f0, .int .i64 t.f1, .int .i64 t.f2, .int .i64 t.f3, .bool t.f4, .string t.f5] 25 (0, 0)) rfl)
  clear hg1 hg2 hG1 hG2
  have H1 := Lib.hid h1
  clear h1
  have H2 := Lib.hid h2
  clear h2
  have h4 : (t.f3 == 0) = false := beq_eq_false_iff_ne.2 h3
  go_enter Try.func85, Try.ntmps85
  go_wp2_with fail
  refine (within_is _ _ _ _ H1.out _).mono ?_
  rintro e w1 ⟨rfl, hd1⟩
  have hb1 := hd1.below
  have hbb := Aside0.mk (((Below.refl w.heap.size w).alloc (Nat.le_refl _) _).trans (hb1.mono (by simp)))
  have HT := Aside0.mk (blk_below HT.out hb1)
  have HG2 := Aside0.mk (blk_below HG2.out hb1)
  have s0 := (blk_cell HG2.out 0).trans rfl
  have t2 := (blk_cell HT.out 2).trans rfl
  have t3 := (blk_cell HT.out 3).trans rfl
  have t4 := (blk_cell HT.out 4).trans rfl
  have t5 := (blk_cell HT.out 5).trans rfl
  clear hb1 hd1 m0
  go_wp2_with fail
  refine (within_is _ _ _ _ H2.out _).mono ?_
  rintro e w2 ⟨rfl, hd2⟩
  have hb2 := hd2.below
  have hbb := Aside0.mk (hbb.out.trans (hb2.mono hbb.out.size))
  have HT := Aside0.mk (blk_below HT.out hb2)
  clear hb2 hd2 s0 t2 t3 t4 t5
  have t3 := (blk_cell HT.out 3).trans rfl
  have t4 := (blk_cell HT.out 4).trans rfl
  have t5 := (blk_cell HT.out 5).trans rfl
  go_wp2_with fail
  go_ret
  exact ⟨rfl, hbb.out⟩
set_option maxRecDepth 100000 in
theorem num_v (t : S25) (most scale : Int) (g1 g2 : Nat) (w : World) (hg1 : w.heap[g1]? = some (.cells #[.int .i64 most] 3 (0, 0))) (hg2 : w.heap[g2]? = some (.cells #[.int .i64 scale] 3 (0, 0))) (h1 : inB t.f1 1 most = true) (h2 : inB t.f2 0 scale = true) (h3 : t.f3 = 0) (h4 : t.f4 = true) :
    Calls Try.prog 85 #[.agg #[.int .i64 t.f0, .int .i64 t.f1, .int .i64 t.f2, .int .i64 t.f3, .bool t.f4, .string t.f5], .pointer (some ⟨g1, 0, none⟩), .pointer (some ⟨g2, 0, none⟩)] w fun e w' => e = .returned (.bool false) ∧ Below w.heap.size w w' := by
  have hG1 := blk_alloc hg1 (.cells #[.int .i64 t.f0, .int .i64 t.f1, .int .i64 t.f2, .int .i64 t.f3, .bool t.f4, .string t.f5] 25 (0, 0))
  have hG2 := blk_alloc hg2 (.cells #[.int .i64 t.f0, .int .i64 t.f1, .int .i64 t.f2, .int .i64 t.f3, .bool t.f4, .string t.f5] 25 (0, 0))
  have m0 := (blk_cell hG1 0).trans rfl
  have HG2 := Aside0.mk hG2
  have HT := Aside0.mk (blk_at_n (W := w) (o := .cells #[.int .i64 t.f0, .int .i64 t.f1, .int .i64 t.f2, .int .i64 t.f3, .bool t.f4, .string t.f5] 25 (0, 0)) rfl)
  clear hg1 hg2 hG1 hG2
  have H1 := Lib.hid h1
  clear h1
  have H2 := Lib.hid h2
  clear h2
  have h5 : (t.f3 == 0) = true := beq_iff_eq.2 h3
  have H3 := Lib.hid h3
  have H4 := Lib.hid h4
  have h6 : (!t.f4) = false := by rw [h4]; rfl
  clear h3 h4
  go_enter Try.func85, Try.ntmps85
  go_wp2_with fail
  refine (within_is _ _ _ _ H1.out _).mono ?_
  rintro e w1 ⟨rfl, hd1⟩
  have hb1 := hd1.below
  have hbb := Aside0.mk (((Below.refl w.heap.size w).alloc (Nat.le_refl _) _).trans (hb1.mono (by simp)))
  have HT := Aside0.mk (blk_below HT.out hb1)
  have HG2 := Aside0.mk (blk_below HG2.out hb1)
  have s0 := (blk_cell HG2.out 0).trans rfl
  have t2 := (blk_cell HT.out 2).trans rfl
  have t3 := (blk_cell HT.out 3).trans rfl
  have t4 := (blk_cell HT.out 4).trans rfl
  have t5 := (blk_cell HT.out 5).trans rfl
  clear hb1 hd1 m0
  go_wp2_with fail
  refine (within_is _ _ _ _ H2.out _).mono ?_
  rintro e w2 ⟨rfl, hd2⟩
  have hb2 := hd2.below
  have hbb := Aside0.mk (hbb.out.trans (hb2.mono hbb.out.size))
  have HT := Aside0.mk (blk_below HT.out hb2)
  clear hb2 hd2 s0 t2 t3 t4 t5
  have t3 := (blk_cell HT.out 3).trans rfl
  have t4 := (blk_cell HT.out 4).trans rfl
  have t5 := (blk_cell HT.out 5).trans rfl
  go_wp2_with fail
  go_ret
  exact ⟨rfl, hbb.out⟩
set_option maxRecDepth 100000 in
theorem num_s (t : S25) (most scale : Int) (g1 g2 : Nat) (w : World) (hg1 : w.heap[g1]? = some (.cells #[.int .i64 most] 3 (0, 0))) (hg2 : w.heap[g2]? = some (.cells #[.int .i64 scale] 3 (0, 0))) (h1 : inB t.f1 1 most = true) (h2 : inB t.f2 0 scale = true) (h3 : t.f3 = 0) (h4 : t.f4 = false) (h5 : 0 < t.f5.size) :
    Calls Try.prog 85 #[.agg #[.int .i64 t.f0, .int .i64 t.f1, .int .i64 t.f2, .int .i64 t.f3, .bool t.f4, .string t.f5], .pointer (some ⟨g1, 0, none⟩), .pointer (some ⟨g2, 0, none⟩)] w fun e w' => e = .returned (.bool false) ∧ Below w.heap.size w w' := by
  have hG1 := blk_alloc hg1 (.cells #[.int .i64 t.f0, .int .i64 t.f1, .int .i64 t.f2, .int .i64 t.f3, .bool t.f4, .string t.f5] 25 (0, 0))
  have hG2 := blk_alloc hg2 (.cells #[.int .i64 t.f0, .int .i64 t.f1, .int .i64 t.f2, .int .i64 t.f3, .bool t.f4, .string t.f5] 25 (0, 0))
  have m0 := (blk_cell hG1 0).trans rfl
  have HG2 := Aside0.mk hG2
  have HT := Aside0.mk (blk_at_n (W := w) (o := .cells #[.int .i64 t.f0, .int .i64 t.f1, .int .i64 t.f2, .int .i64 t.f3, .bool t.f4, .string t.f5] 25 (0, 0)) rfl)
  clear hg1 hg2 hG1 hG2
  have H1 := Lib.hid h1
  clear h1
  have H2 := Lib.hid h2
  clear h2
  have h7 : (t.f3 == 0) = true := beq_iff_eq.2 h3
  have h6 : (!t.f4) = true := by rw [h4]; rfl
  have h8 : t.f5.toList.isEmpty = false := by cases e : t.f5.toList with | nil => exact absurd e (toList_ne _ h5) | cons _ _ => rfl
  have h9 := toList_ne _ h5
  clear h3 h4
  go_enter Try.func85, Try.ntmps85
  go_wp2_with fail
  refine (within_is _ _ _ _ H1.out _).mono ?_
  rintro e w1 ⟨rfl, hd1⟩
  have hb1 := hd1.below
  have hbb := Aside0.mk (((Below.refl w.heap.size w).alloc (Nat.le_refl _) _).trans (hb1.mono (by simp)))
  have HT := Aside0.mk (blk_below HT.out hb1)
  have HG2 := Aside0.mk (blk_below HG2.out hb1)
  have s0 := (blk_cell HG2.out 0).trans rfl
  have t2 := (blk_cell HT.out 2).trans rfl
  have t3 := (blk_cell HT.out 3).trans rfl
  have t4 := (blk_cell HT.out 4).trans rfl
  have t5 := (blk_cell HT.out 5).trans rfl
  clear hb1 hd1 m0
  go_wp2_with fail
  refine (within_is _ _ _ _ H2.out _).mono ?_
  rintro e w2 ⟨rfl, hd2⟩
  have hb2 := hd2.below
  have hbb := Aside0.mk (hbb.out.trans (hb2.mono hbb.out.size))
  have HT := Aside0.mk (blk_below HT.out hb2)
  clear hb2 hd2 s0 t2 t3 t4 t5
  have t3 := (blk_cell HT.out 3).trans rfl
  have t4 := (blk_cell HT.out 4).trans rfl
  have t5 := (blk_cell HT.out 5).trans rfl
  go_wp2_with fail
  go_ret
  exact ⟨rfl, hbb.out⟩
set_option maxRecDepth 100000 in
theorem num_y (t : S25) (most scale : Int) (g1 g2 : Nat) (w : World) (hg1 : w.heap[g1]? = some (.cells #[.int .i64 most] 3 (0, 0))) (hg2 : w.heap[g2]? = some (.cells #[.int .i64 scale] 3 (0, 0))) (h1 : inB t.f1 1 most = true) (h2 : inB t.f2 0 scale = true) (h3 : t.f3 = 0) (h4 : t.f4 = false) (h5 : t.f5.size = 0) :
    Calls Try.prog 85 #[.agg #[.int .i64 t.f0, .int .i64 t.f1, .int .i64 t.f2, .int .i64 t.f3, .bool t.f4, .string t.f5], .pointer (some ⟨g1, 0, none⟩), .pointer (some ⟨g2, 0, none⟩)] w fun e w' => e = .returned (.bool true) ∧ Below w.heap.size w w' := by
  have hG1 := blk_alloc hg1 (.cells #[.int .i64 t.f0, .int .i64 t.f1, .int .i64 t.f2, .int .i64 t.f3, .bool t.f4, .string t.f5] 25 (0, 0))
  have hG2 := blk_alloc hg2 (.cells #[.int .i64 t.f0, .int .i64 t.f1, .int .i64 t.f2, .int .i64 t.f3, .bool t.f4, .string t.f5] 25 (0, 0))
  have m0 := (blk_cell hG1 0).trans rfl
  have HG2 := Aside0.mk hG2
  have HT := Aside0.mk (blk_at_n (W := w) (o := .cells #[.int .i64 t.f0, .int .i64 t.f1, .int .i64 t.f2, .int .i64 t.f3, .bool t.f4, .string t.f5] 25 (0, 0)) rfl)
  clear hg1 hg2 hG1 hG2
  have H1 := Lib.hid h1
  clear h1
  have H2 := Lib.hid h2
  clear h2
  have h7 : (t.f3 == 0) = true := beq_iff_eq.2 h3
  have h6 : (!t.f4) = true := by rw [h4]; rfl
  have h8 := toList_nil _ h5
  have h9 : t.f5.toList.isEmpty = true := by rw [h8]; rfl
  clear h3 h4 h5
  go_enter Try.func85, Try.ntmps85
  go_wp2_with fail
  refine (within_is _ _ _ _ H1.out _).mono ?_
  rintro e w1 ⟨rfl, hd1⟩
  have hb1 := hd1.below
  have hbb := Aside0.mk (((Below.refl w.heap.size w).alloc (Nat.le_refl _) _).trans (hb1.mono (by simp)))
  have HT := Aside0.mk (blk_below HT.out hb1)
  have HG2 := Aside0.mk (blk_below HG2.out hb1)
  have s0 := (blk_cell HG2.out 0).trans rfl
  have t2 := (blk_cell HT.out 2).trans rfl
  have t3 := (blk_cell HT.out 3).trans rfl
  have t4 := (blk_cell HT.out 4).trans rfl
  have t5 := (blk_cell HT.out 5).trans rfl
  clear hb1 hd1 m0
  go_wp2_with fail
  refine (within_is _ _ _ _ H2.out _).mono ?_
  rintro e w2 ⟨rfl, hd2⟩
  have hb2 := hd2.below
  have hbb := Aside0.mk (hbb.out.trans (hb2.mono hbb.out.size))
  have HT := Aside0.mk (blk_below HT.out hb2)
  clear hb2 hd2 s0 t2 t3 t4 t5
  have t3 := (blk_cell HT.out 3).trans rfl
  have t4 := (blk_cell HT.out 4).trans rfl
  have t5 := (blk_cell HT.out 5).trans rfl
  go_wp2_with fail
  go_ret
  exact ⟨rfl, hbb.out⟩
theorem num_is (t : S25) (most scale : Int) (g1 g2 : Nat) (w : World) (hg1 : w.heap[g1]? = some (.cells #[.int .i64 most] 3 (0, 0))) (hg2 : w.heap[g2]? = some (.cells #[.int .i64 scale] 3 (0, 0))) (r : Bool) (hr : vNum t most scale = r) :
    Calls Try.prog 85 #[.agg #[.int .i64 t.f0, .int .i64 t.f1, .int .i64 t.f2, .int .i64 t.f3, .bool t.f4, .string t.f5], .pointer (some ⟨g1, 0, none⟩), .pointer (some ⟨g2, 0, none⟩)] w fun e w' => e = .returned (.bool r) ∧ Below w.heap.size w w' := by
  subst hr
  unfold vNum
  cases h1 : inB t.f1 1 most with
  | false => exact num_p t most scale g1 g2 w hg1 hg2 h1
  | true =>
    cases h2 : inB t.f2 0 scale with
    | false => exact num_q t most scale g1 g2 w hg1 hg2 h1 h2
    | true =>
      by_cases h3 : t.f3 = 0
      · rw [beq_iff_eq.2 h3]
        cases h4 : t.f4 with
        | true => have := num_v t most scale g1 g2 w hg1 hg2 h1 h2 h3 h4; rw [h4] at this; exact this
        | false =>
          by_cases h5 : t.f5.size = 0
          · rw [decide_eq_true h5]; have := num_y t most scale g1 g2 w hg1 hg2 h1 h2 h3 h4 h5; rw [h4] at this; exact this
          · rw [decide_eq_false h5]; have := num_s t most scale g1 g2 w hg1 hg2 h1 h2 h3 h4 (by omega); rw [h4] at this; exact this
      · rw [beq_eq_false_iff_ne.2 h3]; exact num_n t most scale g1 g2 w hg1 hg2 h1 h2 h3
end Go.Proofs.Ytemlbikangbomaa.P

-- from the text Hc
namespace Go.Proofs.Ytemlbikangbomaa.P
open Go.RowKit Go.Proofs.YtemlbikangbomaaW.PrintWords Go.Proofs.YtemlbikangbomaaW.PrintLast Go.Proofs.YtemlbikangbomaaW.PrintMore
set_option linter.unusedVariables false
set_option linter.unusedSimpArgs false
/-- Whether a type is valid. -/
def tyB (t : S25) : Bool :=
  if t.f0 = 1 then vNum t 31 31 else if t.f0 = 2 then vNum t 15 31 else if t.f0 = 3 then vNum t 15 0
  else if t.f0 = 4 ∨ t.f0 = 5 then (t.f1 == 0 && (t.f2 == 0 && (inB t.f3 0 250 && decide (t.f5.size = 0))))
  else if t.f0 = 6 then (inB t.f5.size 1 80 && (t.f1 == 0 && (t.f2 == 0 && (t.f3 == 0 && !t.f4))))
  else if t.f0 = 7 ∨ t.f0 = 8 ∨ t.f0 = 9 then (t.f1 == 0 && (t.f2 == 0 && (t.f3 == 0 && (!t.f4 && decide (t.f5.size = 0)))))
  else false
theorem r2_is (k p q n : Int) (v : Bool) (s : ByteArray) : digit_rules_2.f k p q n v s = some (p == 0 && (q == 0 && (inB n 0 250 && decide (s.size = 0)))) := by
  unfold digit_rules_2.f digit_within.f
  rw [eqNil]
  generalize decide (s.size = 0) = z
  by_cases h1 : p = 0
  · by_cases h2 : q = 0
    · by_cases h3 : n ≥ 0
      · by_cases h4 : n ≤ 250
        · simp [h1, h2, h3, h4, inB]
        · simp [h1, h2, h3, h4, inB]
      · simp [h1, h2, h3, inB]
    · simp [h1, h2]
  · simp [h1]
theorem r3_is (k p q n : Int) (v : Bool) (s : ByteArray) : digit_rules_3.f k p q n v s = some (p == 0 && (q == 0 && (n == 0 && (!v && decide (s.size = 0))))) := by
  unfold digit_rules_3.f; rw [eqNil]
theorem r4_is (k p q n : Int) (v : Bool) (s : ByteArray) : digit_rules_4.f k p q n v s = some (inB s.size 1 80 && (p == 0 && (q == 0 && (n == 0 && !v)))) := by
  unfold digit_rules_4.f digit_within.f
  by_cases h3 : (s.size : Int) ≥ 1
  · by_cases h4 : (s.size : Int) ≤ 80
    · rw [if_pos h3, decide_eq_true h4]; simp [inB, show 1 ≤ s.size by omega, show s.size ≤ 80 by omega, show (1 : Int) ≤ s.size by omega, show (s.size : Int) ≤ 80 by omega]
    · rw [if_pos h3, decide_eq_false h4]; simp [inB, show ¬ s.size ≤ 80 by omega, show ¬ (s.size : Int) ≤ 80 by omega]
  · rw [if_neg h3]; simp [inB, show ¬ 1 ≤ s.size by omega, show ¬ (1 : Int) ≤ s.size by omega]
set_option maxRecDepth 100000 in
set_option maxHeartbeats 4000000 in
theorem valid_k0 (p q n : Int) (v : Bool) (s : ByteArray) (w : World) (r : Bool) (hrs : digit_rules_5.f 0 p q n v s = some r) :
    Calls Try.prog 58 #[.agg #[.int .i64 0, .int .i64 p, .int .i64 q, .int .i64 n, .bool v, .string s]] w fun e w' => e = .returned (.bool r) ∧ Below w.heap.size w w' := by
  have HRS := Lib.hid hrs
  clear hrs
  go_enter Try.func58, Try.ntmps58
  go_wp2_with fail
  refine (rules_any _).mono ?_
  rintro e w1 ⟨rfl, hb1, hR0⟩
  have hbb : Below w.heap.size w w1 := ((Below.refl w.heap.size w).alloc (Nat.le_refl _) _).trans (hb1.mono (by simp))
  have hT := blk_below (blk_at_n (W := w) (o := .cells #[.int .i64 0, .int .i64 p, .int .i64 q, .int .i64 n, .bool v, .string s] 25 (0, 0)) rfl) hb1
  have hR : RulesAt (w.heap.size + 1) w1 := by simpa using hR0
  unfold RulesAt at hR
  have f0 : w1.cell? ⟨w.heap.size + 1 + 1 + 1 + 1 + 1 + 1 + 1, 0, none⟩ = some (.func (.func 89) #[] #[]) := (blk_cell hR.2.2.2.2.2.2 0).trans rfl
  have t0 : w1.cell? ⟨w.heap.size, 0, none⟩ = some (.int .i64 0) := (blk_cell hT 0).trans rfl
  have t1 : w1.cell? ⟨w.heap.size, 1, none⟩ = some (.int .i64 p) := (blk_cell hT 1).trans rfl
  have t2 : w1.cell? ⟨w.heap.size, 2, none⟩ = some (.int .i64 q) := (blk_cell hT 2).trans rfl
  have t3 : w1.cell? ⟨w.heap.size, 3, none⟩ = some (.int .i64 n) := (blk_cell hT 3).trans rfl
  have t4 : w1.cell? ⟨w.heap.size, 4, none⟩ = some (.bool v) := (blk_cell hT 4).trans rfl
  have t5 : w1.cell? ⟨w.heap.size, 5, none⟩ = some (.string s) := (blk_cell hT 5).trans rfl
  have HBB := Aside0.mk hbb
  clear hb1 hR0 hR hT hbb
  go_wp2_with fail
  go_region_held3 (fun w' => w'.cell? ⟨w.heap.size + 1 + 1 + 1 + 1 + 1 + 1 + 1, 0, none⟩ = some (.func (.func 89) #[] #[]) ∧ w'.cell? ⟨w.heap.size, 0, none⟩ = some (.int .i64 0) ∧ w'.cell? ⟨w.heap.size, 1, none⟩ = some (.int .i64 p) ∧ w'.cell? ⟨w.heap.size, 2, none⟩ = some (.int .i64 q) ∧ w'.cell? ⟨w.heap.size, 3, none⟩ = some (.int .i64 n) ∧ w'.cell? ⟨w.heap.size, 4, none⟩ = some (.bool v) ∧ w'.cell? ⟨w.heap.size, 5, none⟩ = some (.string s)) (((refine ⟨?_, ?_, ?_, ?_, ?_, ?_, ?_⟩) <;> (first | (simp [go_sem, *]; done) | (refine pw_cell_below (by first | assumption | exact hd.below) ?_; first | assumption | (simp [go_sem, *]; done)))))
    ((first | (go_at_call 79; refine (within_is 0 0 9 true rfl _).mono ?_; rintro e w2 ⟨rfl, hd⟩) | (go_at_call 89; refine (digit_rules_5.calls _ _ _ _ _ _ _ _ HRS.out).mono ?_; rintro e w9 ⟨rfl, hb9⟩)))
  go_wp2_with fail
  go_ret
  exact ⟨rfl, (HBB.out.drew.trans (hd.below.mono HBB.out.size)).trans (hb9.mono (HBB.out.drew.trans (hd.below.mono HBB.out.size)).size)⟩
set_option maxRecDepth 100000 in
set_option maxHeartbeats 4000000 in
theorem valid_k1 (p q n : Int) (v : Bool) (s : ByteArray) (w : World) (r : Bool) (hrs : vNum ⟨1, p, q, n, v, s⟩ 31 31 = r) :
    Calls Try.prog 58 #[.agg #[.int .i64 1, .int .i64 p, .int .i64 q, .int .i64 n, .bool v, .string s]] w fun e w' => e = .returned (.bool r) ∧ Below w.heap.size w w' := by
  have HRS := Lib.hid hrs
  clear hrs
  go_enter Try.func58, Try.ntmps58
  go_wp2_with fail
  refine (rules_any _).mono ?_
  rintro e w1 ⟨rfl, hb1, hR0⟩
  have hbb : Below w.heap.size w w1 := ((Below.refl w.heap.size w).alloc (Nat.le_refl _) _).trans (hb1.mono (by simp))
  have hT := blk_below (blk_at_n (W := w) (o := .cells #[.int .i64 1, .int .i64 p, .int .i64 q, .int .i64 n, .bool v, .string s] 25 (0, 0)) rfl) hb1
  have hR : RulesAt (w.heap.size + 1) w1 := by simpa using hR0
  unfold RulesAt at hR
  have f0 : w1.cell? ⟨w.heap.size + 1 + 1 + 1 + 1 + 1 + 1 + 1, 1, none⟩ = some (.func (.func 85) #[] #[.pointer (some ⟨w.heap.size + 1, 0, none⟩), .pointer (some ⟨w.heap.size + 1 + 1, 0, none⟩)]) := (blk_cell hR.2.2.2.2.2.2 1).trans rfl
  have KA := Aside0.mk hR.1
  have KB := Aside0.mk hR.2.1
  have t0 : w1.cell? ⟨w.heap.size, 0, none⟩ = some (.int .i64 1) := (blk_cell hT 0).trans rfl
  have t1 : w1.cell? ⟨w.heap.size, 1, none⟩ = some (.int .i64 p) := (blk_cell hT 1).trans rfl
  have t2 : w1.cell? ⟨w.heap.size, 2, none⟩ = some (.int .i64 q) := (blk_cell hT 2).trans rfl
  have t3 : w1.cell? ⟨w.heap.size, 3, none⟩ = some (.int .i64 n) := (blk_cell hT 3).trans rfl
  have t4 : w1.cell? ⟨w.heap.size, 4, none⟩ = some (.bool v) := (blk_cell hT 4).trans rfl
  have t5 : w1.cell? ⟨w.heap.size, 5, none⟩ = some (.string s) := (blk_cell hT 5).trans rfl
  have HBB := Aside0.mk hbb
  clear hb1 hR0 hR hT hbb
  go_wp2_with fail
  go_region_held3 (fun w' => w'.cell? ⟨w.heap.size + 1 + 1 + 1 + 1 + 1 + 1 + 1, 1, none⟩ = some (.func (.func 85) #[] #[.pointer (some ⟨w.heap.size + 1, 0, none⟩), .pointer (some ⟨w.heap.size + 1 + 1, 0, none⟩)]) ∧ w'.cell? ⟨w.heap.size, 0, none⟩ = some (.int .i64 1) ∧ w'.cell? ⟨w.heap.size, 1, none⟩ = some (.int .i64 p) ∧ w'.cell? ⟨w.heap.size, 2, none⟩ = some (.int .i64 q) ∧ w'.cell? ⟨w.heap.size, 3, none⟩ = some (.int .i64 n) ∧ w'.cell? ⟨w.heap.size, 4, none⟩ = some (.bool v) ∧ w'.cell? ⟨w.heap.size, 5, none⟩ = some (.string s)) (((refine ⟨?_, ?_, ?_, ?_, ?_, ?_, ?_⟩) <;> (first | (simp [go_sem, *]; done) | (refine pw_cell_below (by first | assumption | exact hd.below) ?_; first | assumption | (simp [go_sem, *]; done)))))
    ((first | (go_at_call 79; refine (within_is 1 0 9 true rfl _).mono ?_; rintro e w2 ⟨rfl, hd⟩) | (go_at_call 85; refine (num_is ⟨1, p, q, n, v, s⟩ _ _ _ _ _ (blk_below (blk_drew KA.out) hd.below) (blk_below (blk_drew KB.out) hd.below) _ HRS.out).mono ?_; rintro e w9 ⟨rfl, hb9⟩)))
  go_wp2_with fail
  go_ret
  exact ⟨rfl, (HBB.out.drew.trans (hd.below.mono HBB.out.size)).trans (hb9.mono (HBB.out.drew.trans (hd.below.mono HBB.out.size)).size)⟩
set_option maxRecDepth 100000 in
set_option maxHeartbeats 4000000 in
theorem valid_k2 (p q n : Int) (v : Bool) (s : ByteArray) (w : World) (r : Bool) (hrs : vNum ⟨2, p, q, n, v, s⟩ 15 31 = r) :
    Calls Try.prog 58 #[.agg #[.int .i64 2, .int .i64 p, .int .i64 q, .int .i64 n, .bool v, .string s]] w fun e w' => e = .returned (.bool r) ∧ Below w.heap.size w w' := by
  have HRS := Lib.hid hrs
  clear hrs
  go_enter Try.func58, Try.ntmps58
  go_wp2_with fail
  refine (rules_any _).mono ?_
  rintro e w1 ⟨rfl, hb1, hR0⟩
  have hbb : Below w.heap.size w w1 := ((Below.refl w.heap.size w).alloc (Nat.le_refl _) _).trans (hb1.mono (by simp))
  have hT := blk_below (blk_at_n (W := w) (o := .cells #[.int .i64 2, .int .i64 p, .int .i64 q, .int .i64 n, .bool v, .string s] 25 (0, 0)) rfl) hb1
  have hR : RulesAt (w.heap.size + 1) w1 := by simpa using hR0
  unfold RulesAt at hR
  have f0 : w1.cell? ⟨w.heap.size + 1 + 1 + 1 + 1 + 1 + 1 + 1, 2, none⟩ = some (.func (.func 85) #[] #[.pointer (some ⟨w.heap.size + 1 + 1 + 1, 0, none⟩), .pointer (some ⟨w.heap.size + 1 + 1 + 1 + 1, 0, none⟩)]) := (blk_cell hR.2.2.2.2.2.2 2).trans rfl
  have KA := Aside0.mk hR.2.2.1
  have KB := Aside0.mk hR.2.2.2.1
  have t0 : w1.cell? ⟨w.heap.size, 0, none⟩ = some (.int .i64 2) := (blk_cell hT 0).trans rfl
  have t1 : w1.cell? ⟨w.heap.size, 1, none⟩ = some (.int .i64 p) := (blk_cell hT 1).trans rfl
  have t2 : w1.cell? ⟨w.heap.size, 2, none⟩ = some (.int .i64 q) := (blk_cell hT 2).trans rfl
  have t3 : w1.cell? ⟨w.heap.size, 3, none⟩ = some (.int .i64 n) := (blk_cell hT 3).trans rfl
  have t4 : w1.cell? ⟨w.heap.size, 4, none⟩ = some (.bool v) := (blk_cell hT 4).trans rfl
  have t5 : w1.cell? ⟨w.heap.size, 5, none⟩ = some (.string s) := (blk_cell hT 5).trans rfl
  have HBB := Aside0.mk hbb
  clear hb1 hR0 hR hT hbb
  go_wp2_with fail
  go_region_held3 (fun w' => w'.cell? ⟨w.heap.size + 1 + 1 + 1 + 1 + 1 + 1 + 1, 2, none⟩ = some (.func (.func 85) #[] #[.pointer (some ⟨w.heap.size + 1 + 1 + 1, 0, none⟩), .pointer (some ⟨w.heap.size + 1 + 1 + 1 + 1, 0, none⟩)]) ∧ w'.cell? ⟨w.heap.size, 0, none⟩ = some (.int .i64 2) ∧ w'.cell? ⟨w.heap.size, 1, none⟩ = some (.int .i64 p) ∧ w'.cell? ⟨w.heap.size, 2, none⟩ = some (.int .i64 q) ∧ w'.cell? ⟨w.heap.size, 3, none⟩ = some (.int .i64 n) ∧ w'.cell? ⟨w.heap.size, 4, none⟩ = some (.bool v) ∧ w'.cell? ⟨w.heap.size, 5, none⟩ = some (.string s)) (((refine ⟨?_, ?_, ?_, ?_, ?_, ?_, ?_⟩) <;> (first | (simp [go_sem, *]; done) | (refine pw_cell_below (by first | assumption | exact hd.below) ?_; first | assumption | (simp [go_sem, *]; done)))))
    ((first | (go_at_call 79; refine (within_is 2 0 9 true rfl _).mono ?_; rintro e w2 ⟨rfl, hd⟩) | (go_at_call 85; refine (num_is ⟨2, p, q, n, v, s⟩ _ _ _ _ _ (blk_below (blk_drew KA.out) hd.below) (blk_below (blk_drew KB.out) hd.below) _ HRS.out).mono ?_; rintro e w9 ⟨rfl, hb9⟩)))
  go_wp2_with fail
  go_ret
  exact ⟨rfl, (HBB.out.drew.trans (hd.below.mono HBB.out.size)).trans (hb9.mono (HBB.out.drew.trans (hd.below.mono HBB.out.size)).size)⟩
set_option maxRecDepth 100000 in
set_option maxHeartbeats 4000000 in
theorem valid_k3 (p q n : Int) (v : Bool) (s : ByteArray) (w : World) (r : Bool) (hrs : vNum ⟨3, p, q, n, v, s⟩ 15 0 = r) :
    Calls Try.prog 58 #[.agg #[.int .i64 3, .int .i64 p, .int .i64 q, .int .i64 n, .bool v, .string s]] w fun e w' => e = .returned (.bool r) ∧ Below w.heap.size w w' := by
  have HRS := Lib.hid hrs
  clear hrs
  go_enter Try.func58, Try.ntmps58
  go_wp2_with fail
  refine (rules_any _).mono ?_
  rintro e w1 ⟨rfl, hb1, hR0⟩
  have hbb : Below w.heap.size w w1 := ((Below.refl w.heap.size w).alloc (Nat.le_refl _) _).trans (hb1.mono (by simp))
  have hT := blk_below (blk_at_n (W := w) (o := .cells #[.int .i64 3, .int .i64 p, .int .i64 q, .int .i64 n, .bool v, .string s] 25 (0, 0)) rfl) hb1
  have hR : RulesAt (w.heap.size + 1) w1 := by simpa using hR0
  unfold RulesAt at hR
  have f0 : w1.cell? ⟨w.heap.size + 1 + 1 + 1 + 1 + 1 + 1 + 1, 3, none⟩ = some (.func (.func 85) #[] #[.pointer (some ⟨w.heap.size + 1 + 1 + 1 + 1 + 1, 0, none⟩), .pointer (some ⟨w.heap.size + 1 + 1 + 1 + 1 + 1 + 1, 0, none⟩)]) := (blk_cell hR.2.2.2.2.2.2 3).trans rfl
  have KA := Aside0.mk hR.2.2.2.2.1
  have KB := Aside0.mk hR.2.2.2.2.2.1
  have t0 : w1.cell? ⟨w.heap.size, 0, none⟩ = some (.int .i64 3) := (blk_cell hT 0).trans rfl
  have t1 : w1.cell? ⟨w.heap.size, 1, none⟩ = some (.int .i64 p) := (blk_cell hT 1).trans rfl
  have t2 : w1.cell? ⟨w.heap.size, 2, none⟩ = some (.int .i64 q) := (blk_cell hT 2).trans rfl
  have t3 : w1.cell? ⟨w.heap.size, 3, none⟩ = some (.int .i64 n) := (blk_cell hT 3).trans rfl
  have t4 : w1.cell? ⟨w.heap.size, 4, none⟩ = some (.bool v) := (blk_cell hT 4).trans rfl
  have t5 : w1.cell? ⟨w.heap.size, 5, none⟩ = some (.string s) := (blk_cell hT 5).trans rfl
  have HBB := Aside0.mk hbb
  clear hb1 hR0 hR hT hbb
  go_wp2_with fail
  go_region_held3 (fun w' => w'.cell? ⟨w.heap.size + 1 + 1 + 1 + 1 + 1 + 1 + 1, 3, none⟩ = some (.func (.func 85) #[] #[.pointer (some ⟨w.heap.size + 1 + 1 + 1 + 1 + 1, 0, none⟩), .pointer (some ⟨w.heap.size + 1 + 1 + 1 + 1 + 1 + 1, 0, none⟩)]) ∧ w'.cell? ⟨w.heap.size, 0, none⟩ = some (.int .i64 3) ∧ w'.cell? ⟨w.heap.size, 1, none⟩ = some (.int .i64 p) ∧ w'.cell? ⟨w.heap.size, 2, none⟩ = some (.int .i64 q) ∧ w'.cell? ⟨w.heap.size, 3, none⟩ = some (.int .i64 n) ∧ w'.cell? ⟨w.heap.size, 4, none⟩ = some (.bool v) ∧ w'.cell? ⟨w.heap.size, 5, none⟩ = some (.string s)) (((refine ⟨?_, ?_, ?_, ?_, ?_, ?_, ?_⟩) <;> (first | (simp [go_sem, *]; done) | (refine pw_cell_below (by first | assumption | exact hd.below) ?_; first | assumption | (simp [go_sem, *]; done)))))
    ((first | (go_at_call 79; refine (within_is 3 0 9 true rfl _).mono ?_; rintro e w2 ⟨rfl, hd⟩) | (go_at_call 85; refine (num_is ⟨3, p, q, n, v, s⟩ _ _ _ _ _ (blk_below (blk_drew KA.out) hd.below) (blk_below (blk_drew KB.out) hd.below) _ HRS.out).mono ?_; rintro e w9 ⟨rfl, hb9⟩)))
  go_wp2_with fail
  go_ret
  exact ⟨rfl, (HBB.out.drew.trans (hd.below.mono HBB.out.size)).trans (hb9.mono (HBB.out.drew.trans (hd.below.mono HBB.out.size)).size)⟩
set_option maxRecDepth 100000 in
set_option maxHeartbeats 4000000 in
theorem valid_k4 (p q n : Int) (v : Bool) (s : ByteArray) (w : World) (r : Bool) (hrs : digit_rules_2.f 4 p q n v s = some r) :
    Calls Try.prog 58 #[.agg #[.int .i64 4, .int .i64 p, .int .i64 q, .int .i64 n, .bool v, .string s]] w fun e w' => e = .returned (.bool r) ∧ Below w.heap.size w w' := by
  have HRS := Lib.hid hrs
  clear hrs
  go_enter Try.func58, Try.ntmps58
  go_wp2_with fail
  refine (rules_any _).mono ?_
  rintro e w1 ⟨rfl, hb1, hR0⟩
  have hbb : Below w.heap.size w w1 := ((Below.refl w.heap.size w).alloc (Nat.le_refl _) _).trans (hb1.mono (by simp))
  have hT := blk_below (blk_at_n (W := w) (o := .cells #[.int .i64 4, .int .i64 p, .int .i64 q, .int .i64 n, .bool v, .string s] 25 (0, 0)) rfl) hb1
  have hR : RulesAt (w.heap.size + 1) w1 := by simpa using hR0
  unfold RulesAt at hR
  have f0 : w1.cell? ⟨w.heap.size + 1 + 1 + 1 + 1 + 1 + 1 + 1, 4, none⟩ = some (.func (.func 86) #[] #[]) := (blk_cell hR.2.2.2.2.2.2 4).trans rfl
  have t0 : w1.cell? ⟨w.heap.size, 0, none⟩ = some (.int .i64 4) := (blk_cell hT 0).trans rfl
  have t1 : w1.cell? ⟨w.heap.size, 1, none⟩ = some (.int .i64 p) := (blk_cell hT 1).trans rfl
  have t2 : w1.cell? ⟨w.heap.size, 2, none⟩ = some (.int .i64 q) := (blk_cell hT 2).trans rfl
  have t3 : w1.cell? ⟨w.heap.size, 3, none⟩ = some (.int .i64 n) := (blk_cell hT 3).trans rfl
  have t4 : w1.cell? ⟨w.heap.size, 4, none⟩ = some (.bool v) := (blk_cell hT 4).trans rfl
  have t5 : w1.cell? ⟨w.heap.size, 5, none⟩ = some (.string s) := (blk_cell hT 5).trans rfl
  have HBB := Aside0.mk hbb
  clear hb1 hR0 hR hT hbb
  go_wp2_with fail
  go_region_held3 (fun w' => w'.cell? ⟨w.heap.size + 1 + 1 + 1 + 1 + 1 + 1 + 1, 4, none⟩ = some (.func (.func 86) #[] #[]) ∧ w'.cell? ⟨w.heap.size, 0, none⟩ = some (.int .i64 4) ∧ w'.cell? ⟨w.heap.size, 1, none⟩ = some (.int .i64 p) ∧ w'.cell? ⟨w.heap.size, 2, none⟩ = some (.int .i64 q) ∧ w'.cell? ⟨w.heap.size, 3, none⟩ = some (.int .i64 n) ∧ w'.cell? ⟨w.heap.size, 4, none⟩ = some (.bool v) ∧ w'.cell? ⟨w.heap.size, 5, none⟩ = some (.string s)) (((refine ⟨?_, ?_, ?_, ?_, ?_, ?_, ?_⟩) <;> (first | (simp [go_sem, *]; done) | (refine pw_cell_below (by first | assumption | exact hd.below) ?_; first | assumption | (simp [go_sem, *]; done)))))
    ((first | (go_at_call 79; refine (within_is 4 0 9 true rfl _).mono ?_; rintro e w2 ⟨rfl, hd⟩) | (go_at_call 86; refine (digit_rules_2.calls _ _ _ _ _ _ _ _ HRS.out).mono ?_; rintro e w9 ⟨rfl, hb9⟩)))
  go_wp2_with fail
  go_ret
  exact ⟨rfl, (HBB.out.drew.trans (hd.below.mono HBB.out.size)).trans (hb9.mono (HBB.out.drew.trans (hd.below.mono HBB.out.size)).size)⟩
set_option maxRecDepth 100000 in
set_option maxHeartbeats 4000000 in
theorem valid_k5 (p q n : Int) (v : Bool) (s : ByteArray) (w : World) (r : Bool) (hrs : digit_rules_2.f 5 p q n v s = some r) :
    Calls Try.prog 58 #[.agg #[.int .i64 5, .int .i64 p, .int .i64 q, .int .i64 n, .bool v, .string s]] w fun e w' => e = .returned (.bool r) ∧ Below w.heap.size w w' := by
  have HRS := Lib.hid hrs
  clear hrs
  go_enter Try.func58, Try.ntmps58
  go_wp2_with fail
  refine (rules_any _).mono ?_
  rintro e w1 ⟨rfl, hb1, hR0⟩
  have hbb : Below w.heap.size w w1 := ((Below.refl w.heap.size w).alloc (Nat.le_refl _) _).trans (hb1.mono (by simp))
  have hT := blk_below (blk_at_n (W := w) (o := .cells #[.int .i64 5, .int .i64 p, .int .i64 q, .int .i64 n, .bool v, .string s] 25 (0, 0)) rfl) hb1
  have hR : RulesAt (w.heap.size + 1) w1 := by simpa using hR0
  unfold RulesAt at hR
  have f0 : w1.cell? ⟨w.heap.size + 1 + 1 + 1 + 1 + 1 + 1 + 1, 5, none⟩ = some (.func (.func 86) #[] #[]) := (blk_cell hR.2.2.2.2.2.2 5).trans rfl
  have t0 : w1.cell? ⟨w.heap.size, 0, none⟩ = some (.int .i64 5) := (blk_cell hT 0).trans rfl
  have t1 : w1.cell? ⟨w.heap.size, 1, none⟩ = some (.int .i64 p) := (blk_cell hT 1).trans rfl
  have t2 : w1.cell? ⟨w.heap.size, 2, none⟩ = some (.int .i64 q) := (blk_cell hT 2).trans rfl
  have t3 : w1.cell? ⟨w.heap.size, 3, none⟩ = some (.int .i64 n) := (blk_cell hT 3).trans rfl
  have t4 : w1.cell? ⟨w.heap.size, 4, none⟩ = some (.bool v) := (blk_cell hT 4).trans rfl
  have t5 : w1.cell? ⟨w.heap.size, 5, none⟩ = some (.string s) := (blk_cell hT 5).trans rfl
  have HBB := Aside0.mk hbb
  clear hb1 hR0 hR hT hbb
  go_wp2_with fail
  go_region_held3 (fun w' => w'.cell? ⟨w.heap.size + 1 + 1 + 1 + 1 + 1 + 1 + 1, 5, none⟩ = some (.func (.func 86) #[] #[]) ∧ w'.cell? ⟨w.heap.size, 0, none⟩ = some (.int .i64 5) ∧ w'.cell? ⟨w.heap.size, 1, none⟩ = some (.int .i64 p) ∧ w'.cell? ⟨w.heap.size, 2, none⟩ = some (.int .i64 q) ∧ w'.cell? ⟨w.heap.size, 3, none⟩ = some (.int .i64 n) ∧ w'.cell? ⟨w.heap.size, 4, none⟩ = some (.bool v) ∧ w'.cell? ⟨w.heap.size, 5, none⟩ = some (.string s)) (((refine ⟨?_, ?_, ?_, ?_, ?_, ?_, ?_⟩) <;> (first | (simp [go_sem, *]; done) | (refine pw_cell_below (by first | assumption | exact hd.below) ?_; first | assumption | (simp [go_sem, *]; done)))))
    ((first | (go_at_call 79; refine (within_is 5 0 9 true rfl _).mono ?_; rintro e w2 ⟨rfl, hd⟩) | (go_at_call 86; refine (digit_rules_2.calls _ _ _ _ _ _ _ _ HRS.out).mono ?_; rintro e w9 ⟨rfl, hb9⟩)))
  go_wp2_with fail
  go_ret
  exact ⟨rfl, (HBB.out.drew.trans (hd.below.mono HBB.out.size)).trans (hb9.mono (HBB.out.drew.trans (hd.below.mono HBB.out.size)).size)⟩
set_option maxRecDepth 100000 in
set_option maxHeartbeats 4000000 in
theorem valid_k6 (p q n : Int) (v : Bool) (s : ByteArray) (w : World) (r : Bool) (hrs : digit_rules_4.f 6 p q n v s = some r) :
    Calls Try.prog 58 #[.agg #[.int .i64 6, .int .i64 p, .int .i64 q, .int .i64 n, .bool v, .string s]] w fun e w' => e = .returned (.bool r) ∧ Below w.heap.size w w' := by
  have HRS := Lib.hid hrs
  clear hrs
  go_enter Try.func58, Try.ntmps58
  go_wp2_with fail
  refine (rules_any _).mono ?_
  rintro e w1 ⟨rfl, hb1, hR0⟩
  have hbb : Below w.heap.size w w1 := ((Below.refl w.heap.size w).alloc (Nat.le_refl _) _).trans (hb1.mono (by simp))
  have hT := blk_below (blk_at_n (W := w) (o := .cells #[.int .i64 6, .int .i64 p, .int .i64 q, .int .i64 n, .bool v, .string s] 25 (0, 0)) rfl) hb1
  have hR : RulesAt (w.heap.size + 1) w1 := by simpa using hR0
  unfold RulesAt at hR
  have f0 : w1.cell? ⟨w.heap.size + 1 + 1 + 1 + 1 + 1 + 1 + 1, 6, none⟩ = some (.func (.func 88) #[] #[]) := (blk_cell hR.2.2.2.2.2.2 6).trans rfl
  have t0 : w1.cell? ⟨w.heap.size, 0, none⟩ = some (.int .i64 6) := (blk_cell hT 0).trans rfl
  have t1 : w1.cell? ⟨w.heap.size, 1, none⟩ = some (.int .i64 p) := (blk_cell hT 1).trans rfl
  have t2 : w1.cell? ⟨w.heap.size, 2, none⟩ = some (.int .i64 q) := (blk_cell hT 2).trans rfl
  have t3 : w1.cell? ⟨w.heap.size, 3, none⟩ = some (.int .i64 n) := (blk_cell hT 3).trans rfl
  have t4 : w1.cell? ⟨w.heap.size, 4, none⟩ = some (.bool v) := (blk_cell hT 4).trans rfl
  have t5 : w1.cell? ⟨w.heap.size, 5, none⟩ = some (.string s) := (blk_cell hT 5).trans rfl
  have HBB := Aside0.mk hbb
  clear hb1 hR0 hR hT hbb
  go_wp2_with fail
  go_region_held3 (fun w' => w'.cell? ⟨w.heap.size + 1 + 1 + 1 + 1 + 1 + 1 + 1, 6, none⟩ = some (.func (.func 88) #[] #[]) ∧ w'.cell? ⟨w.heap.size, 0, none⟩ = some (.int .i64 6) ∧ w'.cell? ⟨w.heap.size, 1, none⟩ = some (.int .i64 p) ∧ w'.cell? ⟨w.heap.size, 2, none⟩ = some (.int .i64 q) ∧ w'.cell? ⟨w.heap.size, 3, none⟩ = some (.int .i64 n) ∧ w'.cell? ⟨w.heap.size, 4, none⟩ = some (.bool v) ∧ w'.cell? ⟨w.heap.size, 5, none⟩ = some (.string s)) (((refine ⟨?_, ?_, ?_, ?_, ?_, ?_, ?_⟩) <;> (first | (simp [go_sem, *]; done) | (refine pw_cell_below (by first | assumption | exact hd.below) ?_; first | assumption | (simp [go_sem, *]; done)))))
    ((first | (go_at_call 79; refine (within_is 6 0 9 true rfl _).mono ?_; rintro e w2 ⟨rfl, hd⟩) | (go_at_call 88; refine (digit_rules_4.calls _ _ _ _ _ _ _ _ HRS.out).mono ?_; rintro e w9 ⟨rfl, hb9⟩)))
  go_wp2_with fail
  go_ret
  exact ⟨rfl, (HBB.out.drew.trans (hd.below.mono HBB.out.size)).trans (hb9.mono (HBB.out.drew.trans (hd.below.mono HBB.out.size)).size)⟩
set_option maxRecDepth 100000 in
set_option maxHeartbeats 4000000 in
theorem valid_k7 (p q n : Int) (v : Bool) (s : ByteArray) (w : World) (r : Bool) (hrs : digit_rules_3.f 7 p q n v s = some r) :
    Calls Try.prog 58 #[.agg #[.int .i64 7, .int .i64 p, .int .i64 q, .int .i64 n, .bool v, .string s]] w fun e w' => e = .returned (.bool r) ∧ Below w.heap.size w w' := by
  have HRS := Lib.hid hrs
  clear hrs
  go_enter Try.func58, Try.ntmps58
  go_wp2_with fail
  refine (rules_any _).mono ?_
  rintro e w1 ⟨rfl, hb1, hR0⟩
  have hbb : Below w.heap.size w w1 := ((Below.refl w.heap.size w).alloc (Nat.le_refl _) _).trans (hb1.mono (by simp))
  have hT := blk_below (blk_at_n (W := w) (o := .cells #[.int .i64 7, .int .i64 p, .int .i64 q, .int .i64 n, .bool v, .string s] 25 (0, 0)) rfl) hb1
  have hR : RulesAt (w.heap.size + 1) w1 := by simpa using hR0
  unfold RulesAt at hR
  have f0 : w1.cell? ⟨w.heap.size + 1 + 1 + 1 + 1 + 1 + 1 + 1, 7, none⟩ = some (.func (.func 87) #[] #[]) := (blk_cell hR.2.2.2.2.2.2 7).trans rfl
  have t0 : w1.cell? ⟨w.heap.size, 0, none⟩ = some (.int .i64 7) := (blk_cell hT 0).trans rfl
  have t1 : w1.cell? ⟨w.heap.size, 1, none⟩ = some (.int .i64 p) := (blk_cell hT 1).trans rfl
  have t2 : w1.cell? ⟨w.heap.size, 2, none⟩ = some (.int .i64 q) := (blk_cell hT 2).trans rfl
  have t3 : w1.cell? ⟨w.heap.size, 3, none⟩ = some (.int .i64 n) := (blk_cell hT 3).trans rfl
  have t4 : w1.cell? ⟨w.heap.size, 4, none⟩ = some (.bool v) := (blk_cell hT 4).trans rfl
  have t5 : w1.cell? ⟨w.heap.size, 5, none⟩ = some (.string s) := (blk_cell hT 5).trans rfl
  have HBB := Aside0.mk hbb
  clear hb1 hR0 hR hT hbb
  go_wp2_with fail
  go_region_held3 (fun w' => w'.cell? ⟨w.heap.size + 1 + 1 + 1 + 1 + 1 + 1 + 1, 7, none⟩ = some (.func (.func 87) #[] #[]) ∧ w'.cell? ⟨w.heap.size, 0, none⟩ = some (.int .i64 7) ∧ w'.cell? ⟨w.heap.size, 1, none⟩ = some (.int .i64 p) ∧ w'.cell? ⟨w.heap.size, 2, none⟩ = some (.int .i64 q) ∧ w'.cell? ⟨w.heap.size, 3, none⟩ = some (.int .i64 n) ∧ w'.cell? ⟨w.heap.size, 4, none⟩ = some (.bool v) ∧ w'.cell? ⟨w.heap.size, 5, none⟩ = some (.string s)) (((refine ⟨?_, ?_, ?_, ?_, ?_, ?_, ?_⟩) <;> (first | (simp [go_sem, *]; done) | (refine pw_cell_below (by first | assumption | exact hd.below) ?_; first | assumption | (simp [go_sem, *]; done)))))
    ((first | (go_at_call 79; refine (within_is 7 0 9 true rfl _).mono ?_; rintro e w2 ⟨rfl, hd⟩) | (go_at_call 87; refine (digit_rules_3.calls _ _ _ _ _ _ _ _ HRS.out).mono ?_; rintro e w9 ⟨rfl, hb9⟩)))
  go_wp2_with fail
  go_ret
  exact ⟨rfl, (HBB.out.drew.trans (hd.below.mono HBB.out.size)).trans (hb9.mono (HBB.out.drew.trans (hd.below.mono HBB.out.size)).size)⟩
set_option maxRecDepth 100000 in
set_option maxHeartbeats 4000000 in
theorem valid_k8 (p q n : Int) (v : Bool) (s : ByteArray) (w : World) (r : Bool) (hrs : digit_rules_3.f 8 p q n v s = some r) :
    Calls Try.prog 58 #[.agg #[.int .i64 8, .int .i64 p, .int .i64 q, .int .i64 n, .bool v, .string s]] w fun e w' => e = .returned (.bool r) ∧ Below w.heap.size w w' := by
  have HRS := Lib.hid hrs
  clear hrs
  go_enter Try.func58, Try.ntmps58
  go_wp2_with fail
  refine (rules_any _).mono ?_
  rintro e w1 ⟨rfl, hb1, hR0⟩
  have hbb : Below w.heap.size w w1 := ((Below.refl w.heap.size w).alloc (Nat.le_refl _) _).trans (hb1.mono (by simp))
  have hT := blk_below (blk_at_n (W := w) (o := .cells #[.int .i64 8, .int .i64 p, .int .i64 q, .int .i64 n, .bool v, .string s] 25 (0, 0)) rfl) hb1
  have hR : RulesAt (w.heap.size + 1) w1 := by simpa using hR0
  unfold RulesAt at hR
  have f0 : w1.cell? ⟨w.heap.size + 1 + 1 + 1 + 1 + 1 + 1 + 1, 8, none⟩ = some (.func (.func 87) #[] #[]) := (blk_cell hR.2.2.2.2.2.2 8).trans rfl
  have t0 : w1.cell? ⟨w.heap.size, 0, none⟩ = some (.int .i64 8) := (blk_cell hT 0).trans rfl
  have t1 : w1.cell? ⟨w.heap.size, 1, none⟩ = some (.int .i64 p) := (blk_cell hT 1).trans rfl
  have t2 : w1.cell? ⟨w.heap.size, 2, none⟩ = some (.int .i64 q) := (blk_cell hT 2).trans rfl
  have t3 : w1.cell? ⟨w.heap.size, 3, none⟩ = some (.int .i64 n) := (blk_cell hT 3).trans rfl
  have t4 : w1.cell? ⟨w.heap.size, 4, none⟩ = some (.bool v) := (blk_cell hT 4).trans rfl
  have t5 : w1.cell? ⟨w.heap.size, 5, none⟩ = some (.string s) := (blk_cell hT 5).trans rfl
  have HBB := Aside0.mk hbb
  clear hb1 hR0 hR hT hbb
  go_wp2_with fail
  go_region_held3 (fun w' => w'.cell? ⟨w.heap.size + 1 + 1 + 1 + 1 + 1 + 1 + 1, 8, none⟩ = some (.func (.func 87) #[] #[]) ∧ w'.cell? ⟨w.heap.size, 0, none⟩ = some (.int .i64 8) ∧ w'.cell? ⟨w.heap.size, 1, none⟩ = some (.int .i64 p) ∧ w'.cell? ⟨w.heap.size, 2, none⟩ = some (.int .i64 q) ∧ w'.cell? ⟨w.heap.size, 3, none⟩ = some (.int .i64 n) ∧ w'.cell? ⟨w.heap.size, 4, none⟩ = some (.bool v) ∧ w'.cell? ⟨w.heap.size, 5, none⟩ = some (.string s)) (((refine ⟨?_, ?_, ?_, ?_, ?_, ?_, ?_⟩) <;> (first | (simp [go_sem, *]; done) | (refine pw_cell_below (by first | assumption | exact hd.below) ?_; first | assumption | (simp [go_sem, *]; done)))))
    ((first | (go_at_call 79; refine (within_is 8 0 9 true rfl _).mono ?_; rintro e w2 ⟨rfl, hd⟩) | (go_at_call 87; refine (digit_rules_3.calls _ _ _ _ _ _ _ _ HRS.out).mono ?_; rintro e w9 ⟨rfl, hb9⟩)))
  go_wp2_with fail
  go_ret
  exact ⟨rfl, (HBB.out.drew.trans (hd.below.mono HBB.out.size)).trans (hb9.mono (HBB.out.drew.trans (hd.below.mono HBB.out.size)).size)⟩
set_option maxRecDepth 100000 in
set_option maxHeartbeats 4000000 in
theorem valid_k9 (p q n : Int) (v : Bool) (s : ByteArray) (w : World) (r : Bool) (hrs : digit_rules_3.f 9 p q n v s = some r) :
    Calls Try.prog 58 #[.agg #[.int .i64 9, .int .i64 p, .int .i64 q, .int .i64 n, .bool v, .string s]] w fun e w' => e = .returned (.bool r) ∧ Below w.heap.size w w' := by
  have HRS := Lib.hid hrs
  clear hrs
  go_enter Try.func58, Try.ntmps58
  go_wp2_with fail
  refine (rules_any _).mono ?_
  rintro e w1 ⟨rfl, hb1, hR0⟩
  have hbb : Below w.heap.size w w1 := ((Below.refl w.heap.size w).alloc (Nat.le_refl _) _).trans (hb1.mono (by simp))
  have hT := blk_below (blk_at_n (W := w) (o := .cells #[.int .i64 9, .int .i64 p, .int .i64 q, .int .i64 n, .bool v, .string s] 25 (0, 0)) rfl) hb1
  have hR : RulesAt (w.heap.size + 1) w1 := by simpa using hR0
  unfold RulesAt at hR
  have f0 : w1.cell? ⟨w.heap.size + 1 + 1 + 1 + 1 + 1 + 1 + 1, 9, none⟩ = some (.func (.func 87) #[] #[]) := (blk_cell hR.2.2.2.2.2.2 9).trans rfl
  have t0 : w1.cell? ⟨w.heap.size, 0, none⟩ = some (.int .i64 9) := (blk_cell hT 0).trans rfl
  have t1 : w1.cell? ⟨w.heap.size, 1, none⟩ = some (.int .i64 p) := (blk_cell hT 1).trans rfl
  have t2 : w1.cell? ⟨w.heap.size, 2, none⟩ = some (.int .i64 q) := (blk_cell hT 2).trans rfl
  have t3 : w1.cell? ⟨w.heap.size, 3, none⟩ = some (.int .i64 n) := (blk_cell hT 3).trans rfl
  have t4 : w1.cell? ⟨w.heap.size, 4, none⟩ = some (.bool v) := (blk_cell hT 4).trans rfl
  have t5 : w1.cell? ⟨w.heap.size, 5, none⟩ = some (.string s) := (blk_cell hT 5).trans rfl
  have HBB := Aside0.mk hbb
  clear hb1 hR0 hR hT hbb
  go_wp2_with fail
  go_region_held3 (fun w' => w'.cell? ⟨w.heap.size + 1 + 1 + 1 + 1 + 1 + 1 + 1, 9, none⟩ = some (.func (.func 87) #[] #[]) ∧ w'.cell? ⟨w.heap.size, 0, none⟩ = some (.int .i64 9) ∧ w'.cell? ⟨w.heap.size, 1, none⟩ = some (.int .i64 p) ∧ w'.cell? ⟨w.heap.size, 2, none⟩ = some (.int .i64 q) ∧ w'.cell? ⟨w.heap.size, 3, none⟩ = some (.int .i64 n) ∧ w'.cell? ⟨w.heap.size, 4, none⟩ = some (.bool v) ∧ w'.cell? ⟨w.heap.size, 5, none⟩ = some (.string s)) (((refine ⟨?_, ?_, ?_, ?_, ?_, ?_, ?_⟩) <;> (first | (simp [go_sem, *]; done) | (refine pw_cell_below (by first | assumption | exact hd.below) ?_; first | assumption | (simp [go_sem, *]; done)))))
    ((first | (go_at_call 79; refine (within_is 9 0 9 true rfl _).mono ?_; rintro e w2 ⟨rfl, hd⟩) | (go_at_call 87; refine (digit_rules_3.calls _ _ _ _ _ _ _ _ HRS.out).mono ?_; rintro e w9 ⟨rfl, hb9⟩)))
  go_wp2_with fail
  go_ret
  exact ⟨rfl, (HBB.out.drew.trans (hd.below.mono HBB.out.size)).trans (hb9.mono (HBB.out.drew.trans (hd.below.mono HBB.out.size)).size)⟩
set_option maxRecDepth 100000 in
theorem valid_out (k p q n : Int) (v : Bool) (s : ByteArray) (w : World) (h : inB k 0 9 = false) :
    Calls Try.prog 58 #[.agg #[.int .i64 k, .int .i64 p, .int .i64 q, .int .i64 n, .bool v, .string s]] w fun e w' => e = .returned (.bool false) ∧ Below w.heap.size w w' := by
  have H := Lib.hid h
  clear h
  go_enter Try.func58, Try.ntmps58
  go_wp2_with fail
  refine (rules_any _).mono ?_
  rintro e w1 ⟨rfl, hb1, hR0⟩
  have hbb : Below w.heap.size w w1 := ((Below.refl w.heap.size w).alloc (Nat.le_refl _) _).trans (hb1.mono (by simp))
  have hT := blk_below (blk_at_n (W := w) (o := .cells #[.int .i64 k, .int .i64 p, .int .i64 q, .int .i64 n, .bool v, .string s] 25 (0, 0)) rfl) hb1
  have t0 : w1.cell? ⟨w.heap.size, 0, none⟩ = some (.int .i64 k) := (blk_cell hT 0).trans rfl
  have HBB := Aside0.mk hbb
  clear hb1 hR0 hT hbb
  go_wp2_with fail
  go_quiet ((go_at_call 79; exact Calls.quiet_of ((within_is k 0 9 false H.out _).mono (fun e w2 hh => ⟨hh.1, hh.2.out⟩))))
  go_wp2_with fail
  go_ret
  exact ⟨rfl, HBB.out.trans ((Drawn0.below (w := w1) ⟨⟨_, rfl⟩⟩).mono HBB.out.size)⟩
theorem digit_Valid_is (t : S25) (w : World) :
    Calls Try.prog 58 #[.agg #[.int .i64 t.f0, .int .i64 t.f1, .int .i64 t.f2, .int .i64 t.f3, .bool t.f4, .string t.f5]] w fun e w' => e = .returned (.bool (tyB t)) ∧ Below w.heap.size w w' := by
  obtain ⟨k, p, q, n, v, s⟩ := t
  by_cases hin : inB k 0 9 = true
  · simp only [inB, Bool.and_eq_true, decide_eq_true_eq] at hin
    have hk : k = 0 ∨ k = 1 ∨ k = 2 ∨ k = 3 ∨ k = 4 ∨ k = 5 ∨ k = 6 ∨ k = 7 ∨ k = 8 ∨ k = 9 := by omega
    rcases hk with rfl | rfl | rfl | rfl | rfl | rfl | rfl | rfl | rfl | rfl
    · exact valid_k0 p q n v s w _ rfl
    · exact valid_k1 p q n v s w _ rfl
    · exact valid_k2 p q n v s w _ rfl
    · exact valid_k3 p q n v s w _ rfl
    · exact valid_k4 p q n v s w _ (r2_is _ _ _ _ _ _)
    · exact valid_k5 p q n v s w _ (r2_is _ _ _ _ _ _)
    · exact valid_k6 p q n v s w _ (r4_is _ _ _ _ _ _)
    · exact valid_k7 p q n v s w _ (r3_is _ _ _ _ _ _)
    · exact valid_k8 p q n v s w _ (r3_is _ _ _ _ _ _)
    · exact valid_k9 p q n v s w _ (r3_is _ _ _ _ _ _)
  · have h : inB k 0 9 = false := by simpa using hin
    have e : tyB ⟨k, p, q, n, v, s⟩ = false := by
      simp only [inB, Bool.and_eq_false_iff, decide_eq_false_iff_not] at h
      unfold tyB; simp only
      repeat (first | rw [if_neg (by omega)] | rfl)
    rw [e]; exact valid_out k p q n v s w h
def digit_Valid.f (a0_0 a0_1 a0_2 a0_3 : Int) (a0_4 : Bool) (a0_5 : ByteArray) : Option Bool := some (tyB ⟨a0_0, a0_1, a0_2, a0_3, a0_4, a0_5⟩)
theorem digit_Valid.calls (a0_0 a0_1 a0_2 a0_3 : Int) (a0_4 : Bool) (a0_5 : ByteArray) (r : Bool) (w : World) (h : digit_Valid.f a0_0 a0_1 a0_2 a0_3 a0_4 a0_5 = some r) :
    Calls Try.prog 58 #[.agg #[.int .i64 a0_0, .int .i64 a0_1, .int .i64 a0_2, .int .i64 a0_3, .bool a0_4, .string a0_5]] w fun e w' => e = .returned (.bool r) ∧ Below w.heap.size w w' := by
  obtain rfl : tyB ⟨a0_0, a0_1, a0_2, a0_3, a0_4, a0_5⟩ = r := by simpa [digit_Valid.f] using h
  exact digit_Valid_is ⟨a0_0, a0_1, a0_2, a0_3, a0_4, a0_5⟩ w
end Go.Proofs.Ytemlbikangbomaa.P

-- from the text Hd
namespace Go.Proofs.Ytemlbikangbomaa.P
open Go.RowKit Go.Proofs.YtemlbikangbomaaW.PrintWords Go.Proofs.YtemlbikangbomaaW.PrintLast Go.Proofs.YtemlbikangbomaaW.PrintMore
set_option linter.unusedVariables false
set_option linter.unusedSimpArgs false
def stopE (e : Int) : Ending := .panicked [{ v := .iface 85 (.agg #[.int .i64 e]), recovered := false }]
theorem must_ok (e : Int) (w : World) : Calls Try.prog 68 #[.bool true, .int .i64 e] w fun r w' => r = .returned (.tuple #[]) ∧ w' = w := by
  go_enter Try.func68, Try.ntmps68
  go_wp2_with fail
  first | go_end0 | refine bodyPost_ret (results_none rfl _ _ _) rfl ?_
  exact ⟨rfl, rfl⟩
theorem must_bad (e : Int) (w : World) : Calls Try.prog 68 #[.bool false, .int .i64 e] w fun r w' => r = stopE e ∧ w' = w := by
  unfold stopE
  go_enter Try.func68, Try.ntmps68
  go_wp2_with fail
  exact ⟨rfl, rfl, rfl⟩
def rule_must.f (ok : Bool) (e : Int) : Option Unit := if ok = true then some () else none
theorem rule_must.calls (ok : Bool) (e : Int) (w : World) (h : rule_must.f ok e = some ()) : Calls Try.prog 68 #[.bool ok, .int .i64 e] w fun e w' => e = .returned (.tuple #[]) ∧ Below w.heap.size w w' := by
  cases ok with
  | false => simp [rule_must.f] at h
  | true => exact (must_ok e w).mono fun _ _ hh => ⟨hh.1, hh.2 ▸ Below.refl _ _⟩
end Go.Proofs.Ytemlbikangbomaa.P

-- from the text He
namespace Go.Proofs.Ytemlbikangbomaa.P
open Go.RowKit Go.Proofs.YtemlbikangbomaaW.PrintWords Go.Proofs.YtemlbikangbomaaW.PrintLast Go.Proofs.YtemlbikangbomaaW.PrintMore
set_option linter.unusedVariables false
set_option linter.unusedSimpArgs false
def numK (t : S25) : Bool := inB t.f0 1 3
/-- What `valid` stops with: 0 if it does not. -/
def validO (l : List S25) : Int := if l.all tyB then (if l.all numK then 0 else 10) else 13
def endU (e : Int) : Ending := if e = 0 then .returned (.tuple #[]) else stopE e
def upTo (p : S25 → Bool) (l : List S25) (x : Int) : Prop := ∀ i : Int, 0 ≤ i → i < x → p (rd_T25 l i) = true
theorem rdAt (l : List S25) (n : Nat) (h : n < l.length) : rd_T25 l (n : Int) = l[n] := by
  unfold rd_T25
  simp [List.getD, h]
theorem upTo_all (p : S25 → Bool) (l : List S25) (h : upTo p l l.length) : l.all p = true := by
  rw [List.all_eq_true]; intro x hx
  obtain ⟨i, hi, rfl⟩ := List.getElem_of_mem hx
  have := h (i : Int) (by omega) (by omega)
  rwa [rdAt l i hi] at this
theorem upTo_not (p : S25 → Bool) (l : List S25) (x : Int) (h0 : 0 ≤ x) (h : x < l.length) (hp : p (rd_T25 l x) = false) : l.all p = false := by
  obtain ⟨n, rfl⟩ := Int.eq_ofNat_of_zero_le h0
  rw [rdAt l n (by omega)] at hp
  rw [List.all_eq_false]; exact ⟨l[n]'(by omega), List.getElem_mem _, by simp [hp]⟩
theorem upTo_step (p : S25 → Bool) (l : List S25) (x : Int) (h : upTo p l x) (hp : p (rd_T25 l x) = true) : upTo p l (x + 1) := by
  intro i h0 h1
  by_cases e : i = x
  · rw [e]; exact hp
  · exact h i h0 (by omega)
theorem numK_1 (t : S25) (h : 1 ≤ t.f0) : numK t = decide (t.f0 ≤ 3) := by simp [numK, inB, h]
theorem numK_0 (t : S25) (h : ¬ 1 ≤ t.f0) : numK t = false := by simp [numK, inB, h]
set_option maxHeartbeats 8000000 in
set_option maxRecDepth 100000 in
theorem valid_is (A0 : Option Addr) (c0 : Nat) (l0 : List S25) (w : World) (hr0 : Kd.C k25 w A0 l0.length l0) (hc0 : l0.length ≤ c0) (hl : (l0.length : Int) < 4611686018427387904) :
    Calls Try.prog 42 #[.slice A0 l0.length c0] w fun e w' => e = endU (validO l0) ∧ Below w.heap.size w w' := by
  have hu25 := Try.underlying25
  have HL := Aside0.mk hl
  have HR0 := Aside0.mk hr0
  have HC0 := Aside0.mk hc0
  clear hr0 hc0 hl
  have HB := Aside0.mk (Below.refl w.heap.size w)
  go_enter Try.func42, Try.ntmps42
  go_wp2
  go_loopg [8] l0.length (fun kq v8 w' => ∃ (x : Int), v8 = .int .i64 x ∧ Aside0 (0 ≤ x ∧ x + kq = l0.length) ∧ Aside0 (upTo tyB l0 x) ∧ Aside0 (Below w.heap.size w w'))
  case atStart => exact ⟨(0), rfl, ⟨by omega, by omega⟩, ⟨fun i h0 h1 => by omega⟩, HB⟩
  case round =>
    obtain ⟨x, rfl, HX, HU, HB⟩ := hrel
    by_cases c2 : x < (l0.length : Int)
    · have c2b : decide (x < (l0.length : Int)) = true := decide_eq_true c2
      have c0 : 0 ≤ x := HX.out.1
      obtain ⟨ad, e101, hx0, hx1, hx2, hx3, hx4, hx5⟩ := at_T25 HR0.out x c0 c2
      cases e101
      replace hx0 := (HB.out.cell (World.block_lt_of_cell? w _ hx0)).trans hx0
      replace hx1 := (HB.out.cell (World.block_lt_of_cell? w _ hx1)).trans hx1
      replace hx2 := (HB.out.cell (World.block_lt_of_cell? w _ hx2)).trans hx2
      replace hx3 := (HB.out.cell (World.block_lt_of_cell? w _ hx3)).trans hx3
      replace hx4 := (HB.out.cell (World.block_lt_of_cell? w _ hx4)).trans hx4
      replace hx5 := (HB.out.cell (World.block_lt_of_cell? w _ hx5)).trans hx5
      have p101 := eq_true c0
      have q101 := eq_true c2
      have C0 := Aside0.mk c0
      have C2 := Aside0.mk c2
      clear c0 c2
      have HWr := Aside0.mk (blk_new wr (.cells #[.int .i64 0, .int .i64 0, .int .i64 0, .int .i64 0, .bool false, .string (⟨#[]⟩ : ByteArray)] 25 (0, 0)))
      have HSz := Aside0.mk (below_size HB.out)
      go_wp2_with fail
      refine (digit_Valid_is (rd_T25 l0 x) _).mono ?_
      rintro e w9 ⟨rfl, hb9⟩
      have HB9 := Aside0.mk (below_step (by repeat (first | (with_reducible first | exact HB.out | apply below_alloc | apply pw_below_drewN | apply below_drew1 | refine below_set ?_ HSz.out) | exact HB.out)) hb9)
      clear hb9 hx0 hx1 hx2 hx3 hx4 hx5
      cases hv : tyB (rd_T25 l0 x) with
      | false =>
        have HV := Aside0.mk (show validO l0 = 13 by unfold validO; rw [upTo_not tyB l0 x C0.out C2.out hv]; rfl)
        clear hv
        go_wp2_with fail
        refine (must_bad 13 _).mono ?_
        rintro e w10 ⟨rfl, rfl⟩
        unfold stopE
        go_wp2_with fail
        exact ⟨rfl, by rw [HV.out]; rfl, HB9.out⟩
      | true =>
        have HU := Aside0.mk (upTo_step tyB l0 x HU.out hv)
        clear hv
        go_wp2_with fail
        refine (must_ok 13 _).mono ?_
        rintro e w10 ⟨rfl, rfl⟩
        have HW : wrap64 (x + 1) = x + 1 := by have := C0.out; have := C2.out; have := HL.out; unfold wrap64; omega
        have HW' := Aside0.mk HW
        clear HW
        go_wp2_with fail
        go_roundg (gk - 1)
        case measure => have := HX.out; have := C2.out; omega
        case rel => exact ⟨wrap64 (x + 1), rfl, ⟨by rw [HW'.out]; have := HX.out; have := C2.out; omega⟩, ⟨by rw [HW'.out]; exact HU.out⟩, HB9⟩
    · have c2b : decide (x < (l0.length : Int)) = false := decide_eq_false c2
      have hxl : x = l0.length := by have := HX.out; omega
      have HT := Aside0.mk (upTo_all tyB l0 (hxl ▸ HU.out))
      clear hxl HU HX c2
      go_wp2
      go_loopg [18] l0.length (fun kq v8 w' => ∃ (x : Int), v8 = .int .i64 x ∧ Aside0 (0 ≤ x ∧ x + kq = l0.length) ∧ Aside0 (upTo numK l0 x) ∧ Aside0 (Below w.heap.size w w'))
      case atStart => exact ⟨(0), rfl, ⟨by omega, by omega⟩, ⟨fun i h0 h1 => by omega⟩, HB⟩
      case round =>
        clear c2b HB
        obtain ⟨y, rfl, HX, HU, HB⟩ := hrel
        by_cases c2 : y < (l0.length : Int)
        · have c2b : decide (y < (l0.length : Int)) = true := decide_eq_true c2
          have c0 : 0 ≤ y := HX.out.1
          obtain ⟨ad, e101, hx0, hx1, hx2, hx3, hx4, hx5⟩ := at_T25 HR0.out y c0 c2
          cases e101
          replace hx0 := (HB.out.cell (World.block_lt_of_cell? w _ hx0)).trans hx0
          replace hx1 := (HB.out.cell (World.block_lt_of_cell? w _ hx1)).trans hx1
          replace hx2 := (HB.out.cell (World.block_lt_of_cell? w _ hx2)).trans hx2
          replace hx3 := (HB.out.cell (World.block_lt_of_cell? w _ hx3)).trans hx3
          replace hx4 := (HB.out.cell (World.block_lt_of_cell? w _ hx4)).trans hx4
          replace hx5 := (HB.out.cell (World.block_lt_of_cell? w _ hx5)).trans hx5
          have p101 := eq_true c0
          have q101 := eq_true c2
          have C0 := Aside0.mk c0
          have C2 := Aside0.mk c2
          clear c0 c2
          have HSz := Aside0.mk (below_size HB.out)
          by_cases n1 : 1 ≤ (rd_T25 l0 y).f0
          · have n1b : decide (1 ≤ (rd_T25 l0 y).f0) = true := decide_eq_true n1
            have NE := Aside0.mk (numK_1 _ n1)
            clear n1
            cases hv : decide ((rd_T25 l0 y).f0 ≤ 3) with
            | false =>
              have HV := Aside0.mk (show validO l0 = 10 by unfold validO; rw [HT.out, upTo_not numK l0 y C0.out C2.out (NE.out.trans hv)]; rfl)
              go_wp2_with fail
              refine (must_bad 10 _).mono ?_
              rintro e w10 ⟨rfl, rfl⟩
              unfold stopE
              go_wp2_with fail
              exact ⟨rfl, by rw [HV.out]; rfl, by repeat (first | (with_reducible first | exact HB.out | apply below_alloc | apply pw_below_drewN | apply below_drew1 | refine below_set ?_ HSz.out) | exact HB.out)⟩
            | true =>
              have HU := Aside0.mk (upTo_step numK l0 y HU.out (NE.out.trans hv))
              go_wp2_with fail
              refine (must_ok 10 _).mono ?_
              rintro e w10 ⟨rfl, rfl⟩
              have HW' := Aside0.mk (show wrap64 (y + 1) = y + 1 by have := C0.out; have := C2.out; have := HL.out; unfold wrap64; omega)
              go_wp2_with fail
              go_roundg (gk - 1)
              case measure => have := HX.out; have := C2.out; omega
              case rel => exact ⟨wrap64 (y + 1), rfl, ⟨by rw [HW'.out]; have := HX.out; have := C2.out; omega⟩, ⟨by rw [HW'.out]; exact HU.out⟩, ⟨by repeat (first | (with_reducible first | exact HB.out | apply below_alloc | apply pw_below_drewN | apply below_drew1 | refine below_set ?_ HSz.out) | exact HB.out)⟩⟩
          · have n1b : decide (1 ≤ (rd_T25 l0 y).f0) = false := decide_eq_false n1
            have HV := Aside0.mk (show validO l0 = 10 by unfold validO; rw [HT.out, upTo_not numK l0 y C0.out C2.out (numK_0 _ n1)]; rfl)
            clear n1
            go_wp2_with fail
            refine (must_bad 10 _).mono ?_
            rintro e w10 ⟨rfl, rfl⟩
            unfold stopE
            go_wp2_with fail
            exact ⟨rfl, by rw [HV.out]; rfl, by repeat (first | (with_reducible first | exact HB.out | apply below_alloc | apply pw_below_drewN | apply below_drew1 | refine below_set ?_ HSz.out) | exact HB.out)⟩
        · have c2b : decide (y < (l0.length : Int)) = false := decide_eq_false c2
          have hxl : y = l0.length := by have := HX.out; omega
          have HV := Aside0.mk (show validO l0 = 0 by unfold validO; rw [HT.out, upTo_all numK l0 (hxl ▸ HU.out)]; rfl)
          clear hxl HU HX c2
          go_wp2
          first | go_end0 | refine bodyPost_ret (results_none rfl _ _ _) rfl ?_
          exact ⟨by rw [HV.out]; rfl, HB.out⟩
end Go.Proofs.Ytemlbikangbomaa.P
