/- Part 2 of the proof of the law CondBelow: functions, contracts and plain laws; merged by this session's program. -/
import Derived.Test.YtfahpihbbkkngaaProg
import Derived.Below
import Derived.Deep.Draws
import Derived.Deep.AppendLies
import Derived.Maps.AppendAt
import Derived.OwnWalk
import Derived.Laws.BytesArg
import Derived.Laws.MakeOwn
import Derived.Laws.OwnMore
import Derived.Deep.OwnRows
import Derived.Tactics
import Derived.Lib.ConvBytes
import Derived.Laws.Slices
import Derived.WalkKit
import Derived.KernelRfl
import Derived.RowKit3
import Derived.Deep.LoopGhost
import Derived.Deep.QuietTactic
import Derived.BigQuiet
import Derived.WideLaws
import Derived.Deep.DeepCutAuto
import Derived.Deep.CutBlock
import Derived.Deep.RegionHeld3
import Derived.Laws.Rows
import Derived.Lib.AppendStr
import Derived.ArgAppend
import Derived.Laws.IdiomCopy
import Derived.OrdersHeld
import Derived.Laws.BitsLemmas
import Derived.RowKit
import Derived.WalkSpells
import Derived.WalkLawsBesides
import Derived.Lib.Hide
import Derived.IntWalk
import Derived.Laws.EntriesVeiled
import Derived.Deep.WholeRow
import Derived.Laws.CopyOwn
import Derived.Lib.AppendZeros
import Derived.RangeFuncNested
import Derived.RangeFuncBound
import Derived.RangeFuncCalls
import Derived.RangeFuncLeaves
import Derived.Shelf.Abstract
import Derived.OwnWalkIn
import Derived.TacticsInMore
import Derived.LoopNIn
import Derived.LoopIn
import Derived.Deep.Slices
import Derived.Deep.Fields
import Derived.ProofKit
import Derived.ChangeSame
import Derived.SizedLaws
import Derived.Test.YtfahpihbbkkngaaMCondBelow1
-- from the text K
namespace Go.Proofs.Ytfahpihbbkkngaa.P
open Go.RowKit Go.Proofs.YtfahpihbbkkngaaW.PrintWords Go.Proofs.YtfahpihbbkkngaaW.PrintLast Go.Proofs.YtfahpihbbkkngaaW.PrintMore
theorem blk_six {w : World} {g : Nat} {t : TypeId} {a b c d e f : Value} (h : w.heap[g]? = some (.cells #[a, b, c, d, e, f] t (0, 0))) : w.cell? ⟨g, 0, none⟩ = some a ∧ w.cell? ⟨g, 1, none⟩ = some b ∧ w.cell? ⟨g, 2, none⟩ = some c ∧ w.cell? ⟨g, 3, none⟩ = some d ∧ w.cell? ⟨g, 4, none⟩ = some e ∧ w.cell? ⟨g, 5, none⟩ = some f :=
  ⟨(blk_cell h 0).trans rfl, (blk_cell h 1).trans rfl, (blk_cell h 2).trans rfl, (blk_cell h 3).trans rfl, (blk_cell h 4).trans rfl, (blk_cell h 5).trans rfl⟩
theorem blk_six_free {w : World} {g : Nat} {t : TypeId} {cs : Array Value} (h : w.heap[g]? = some (.cells cs t (0, 0))) : w.frozen? ⟨g, 0, none⟩ = false ∧ w.frozen? ⟨g, 1, none⟩ = false ∧ w.frozen? ⟨g, 2, none⟩ = false ∧ w.frozen? ⟨g, 3, none⟩ = false ∧ w.frozen? ⟨g, 4, none⟩ = false ∧ w.frozen? ⟨g, 5, none⟩ = false :=
  ⟨blk_frozen h 0, blk_frozen h 1, blk_frozen h 2, blk_frozen h 3, blk_frozen h 4, blk_frozen h 5⟩
theorem blk_quad {w : World} {g : Nat} {t : TypeId} {a b c d : Value} (h : w.heap[g]? = some (.cells #[a, b, c, d] t (0, 0))) : w.cell? ⟨g, 0, none⟩ = some a ∧ w.cell? ⟨g, 1, none⟩ = some b ∧ w.cell? ⟨g, 2, none⟩ = some c ∧ w.cell? ⟨g, 3, none⟩ = some d :=
  ⟨(blk_cell h 0).trans rfl, (blk_cell h 1).trans rfl, (blk_cell h 2).trans rfl, (blk_cell h 3).trans rfl⟩
theorem blk_quad_free {w : World} {g : Nat} {t : TypeId} {cs : Array Value} (h : w.heap[g]? = some (.cells cs t (0, 0))) : w.frozen? ⟨g, 0, none⟩ = false ∧ w.frozen? ⟨g, 1, none⟩ = false ∧ w.frozen? ⟨g, 2, none⟩ = false ∧ w.frozen? ⟨g, 3, none⟩ = false :=
  ⟨blk_frozen h 0, blk_frozen h 1, blk_frozen h 2, blk_frozen h 3⟩
/-- What stands in a world stands in what is made of it by allocations and draws. -/
class Kp (w0 : outParam World) (w : World) : Prop where
  k : ∀ {g : Nat} {o : Obj}, w0.heap[g]? = some o → w.heap[g]? = some o
instance (priority := 10) kp_refl (w : World) : Kp w w := ⟨id⟩
instance kp_drewN (w0 w : World) (n : Nat) [i : Kp w0 w] : Kp w0 (w.drewN n) := ⟨fun h => blk_drewN (i.k h) n⟩
instance kp_drew (w0 w : World) [i : Kp w0 w] : Kp w0 w.drew := ⟨fun h => blk_drew (i.k h)⟩
instance kp_alloc (w0 w : World) (o : Obj) [i : Kp w0 w] : Kp w0 (w.alloc o) := ⟨fun h => blk_alloc (i.k h) o⟩
theorem zk {w0 w : World} {g : Nat} {o : Obj} [i : Kp w0 w] (h : w0.heap[g]? = some o) : w.heap[g]? = some o := i.k h
end Go.Proofs.Ytfahpihbbkkngaa.P
namespace Go.Proofs.Ytfahpihbbkkngaa.P
open Go.RowKit Go.Proofs.YtfahpihbbkkngaaW.PrintWords Go.Proofs.YtfahpihbbkkngaaW.PrintLast Go.Proofs.YtfahpihbbkkngaaW.PrintMore
attribute [local go_sem] max2_int min2_int max_two min_two max_three min_three max_four min_four   -- for this text's walks alone
set_option linter.unusedVariables false
set_option linter.unusedSimpArgs false
theorem info24 : (Try.prog.info? 24).map (fun i => (i.zero, i.size, i.bytes)) = some (some (.agg #[(.int .i64 0), (.string ⟨#[]⟩), (.int .i64 0)]), 3, 32) := by kernel_rfl
theorem info73 : (Try.prog.info? 73).map (fun i => (i.zero, i.size, i.bytes)) = some (some (.agg #[(.slice none 0 0), (.int .i64 0), (.string ⟨#[]⟩), (.int .i64 0)]), 4, 56) := by kernel_rfl
structure S24 where
  f0 : Int
  f1 : ByteArray
  f2 : Int
def z24 : S24 := ⟨(0 : Int), (⟨#[]⟩ : ByteArray), (0 : Int)⟩
def k24 : Kd S24 := Kd.iso (Kd.pair (Kd.int .i64) (Kd.pair Kd.string (Kd.int .i64))) (fun x : S24 => (x.f0, x.f1, x.f2))
theorem k24_open {w : World} {x : S24} {cs : List Value} (h : k24.K w x cs) : cs = [.int .i64 x.f0, .string x.f1, .int .i64 x.f2] := by
  obtain ⟨_, _, rfl, rfl, ⟨_, _, rfl, rfl, rfl⟩⟩ := h
  exact rfl
theorem k24_mk (w : World) (x : S24)  : k24.K w x [.int .i64 x.f0, .string x.f1, .int .i64 x.f2] := ⟨[.int .i64 x.f0], [.string x.f1, .int .i64 x.f2], rfl, rfl, ⟨[.string x.f1], [.int .i64 x.f2], rfl, rfl, rfl⟩⟩
structure S69 where
  f0 : (List S24)
structure S71 where
  f0 : Int
  f1 : ByteArray
structure S73 where
  f0 : S69
  f1 : S71
  f2 : Int
structure S42 where
  f0 : ByteArray
  f1 : Int
  f2 : Bool
  f3 : Bool
  f4 : Bool
  f5 : Bool
  f6 : Int
  f7 : Int
def z42 : S42 := ⟨(⟨#[]⟩ : ByteArray), (0 : Int), false, false, false, false, (0 : Int), (0 : Int)⟩
def k42 : Kd S42 := Kd.iso (Kd.pair Kd.string (Kd.pair (Kd.int .i64) (Kd.pair Kd.bool (Kd.pair Kd.bool (Kd.pair Kd.bool (Kd.pair Kd.bool (Kd.pair (Kd.int .i64) (Kd.int .i64)))))))) (fun x : S42 => (x.f0, x.f1, x.f2, x.f3, x.f4, x.f5, x.f6, x.f7))
theorem k42_mk (w : World) (x : S42)  : k42.K w x [.string x.f0, .int .i64 x.f1, .bool x.f2, .bool x.f3, .bool x.f4, .bool x.f5, .int .i64 x.f6, .int .i64 x.f7] := ⟨[.string x.f0], [.int .i64 x.f1, .bool x.f2, .bool x.f3, .bool x.f4, .bool x.f5, .int .i64 x.f6, .int .i64 x.f7], rfl, rfl, ⟨[.int .i64 x.f1], [.bool x.f2, .bool x.f3, .bool x.f4, .bool x.f5, .int .i64 x.f6, .int .i64 x.f7], rfl, rfl, ⟨[.bool x.f2], [.bool x.f3, .bool x.f4, .bool x.f5, .int .i64 x.f6, .int .i64 x.f7], rfl, rfl, ⟨[.bool x.f3], [.bool x.f4, .bool x.f5, .int .i64 x.f6, .int .i64 x.f7], rfl, rfl, ⟨[.bool x.f4], [.bool x.f5, .int .i64 x.f6, .int .i64 x.f7], rfl, rfl, ⟨[.bool x.f5], [.int .i64 x.f6, .int .i64 x.f7], rfl, rfl, ⟨[.int .i64 x.f6], [.int .i64 x.f7], rfl, rfl, rfl⟩⟩⟩⟩⟩⟩⟩
structure S90 where
  f0 : Int
  f1 : S42
def k90 : Kd S90 := Kd.iso (Kd.pair (Kd.int .i64) k42) (fun x : S90 => (x.f0, x.f1))
theorem k90_mk (w : World) (x : S90)  : k90.K w x [.int .i64 x.f0, .string x.f1.f0, .int .i64 x.f1.f1, .bool x.f1.f2, .bool x.f1.f3, .bool x.f1.f4, .bool x.f1.f5, .int .i64 x.f1.f6, .int .i64 x.f1.f7] := ⟨[.int .i64 x.f0], [.string x.f1.f0, .int .i64 x.f1.f1, .bool x.f1.f2, .bool x.f1.f3, .bool x.f1.f4, .bool x.f1.f5, .int .i64 x.f1.f6, .int .i64 x.f1.f7], rfl, rfl, (k42_mk w x.f1 )⟩
structure S51 where
  f0 : Int
  f1 : ByteArray
  f2 : Bool
def k51 : Kd S51 := Kd.iso (Kd.pair (Kd.int .i64) (Kd.pair Kd.string Kd.bool)) (fun x : S51 => (x.f0, x.f1, x.f2))
theorem k51_mk (w : World) (x : S51)  : k51.K w x [.int .i64 x.f0, .string x.f1, .bool x.f2] := ⟨[.int .i64 x.f0], [.string x.f1, .bool x.f2], rfl, rfl, ⟨[.string x.f1], [.bool x.f2], rfl, rfl, rfl⟩⟩
structure S94 where
  f0 : (List S24)
  f1 : Bool
  f2 : Int
  f3 : ByteArray
  f4 : Int
structure S29 where
  f0 : Int
  f1 : Int
  f2 : S24
def z29 : S29 := ⟨(0 : Int), (0 : Int), z24⟩
def k29 : Kd S29 := Kd.iso (Kd.pair (Kd.int .u8) (Kd.pair (Kd.int .i64) k24)) (fun x : S29 => (x.f0, x.f1, x.f2))
theorem k29_open {w : World} {x : S29} {cs : List Value} (h : k29.K w x cs) : cs = [.int .u8 x.f0, .int .i64 x.f1, .int .i64 x.f2.f0, .string x.f2.f1, .int .i64 x.f2.f2] := by
  obtain ⟨_, _, rfl, rfl, ⟨_, _, rfl, rfl, s2⟩⟩ := h
  obtain rfl := k24_open s2
  exact rfl
theorem k29_mk (w : World) (x : S29)  : k29.K w x [.int .u8 x.f0, .int .i64 x.f1, .int .i64 x.f2.f0, .string x.f2.f1, .int .i64 x.f2.f2] := ⟨[.int .u8 x.f0], [.int .i64 x.f1, .int .i64 x.f2.f0, .string x.f2.f1, .int .i64 x.f2.f2], rfl, rfl, ⟨[.int .i64 x.f1], [.int .i64 x.f2.f0, .string x.f2.f1, .int .i64 x.f2.f2], rfl, rfl, (k24_mk w x.f2 )⟩⟩
def rd_T29 (xs : List S29) (i : Int) : S29 := xs.getD i.toNat z29
theorem at_T29 {w : World} {A : Option Addr} {n : Nat} {xs : List S29} (h : Kd.C k29 w A n xs) (i : Int) (h0 : 0 ≤ i) (h1 : i < n) : ∃ ad , A = some ad ∧ w.cell? (ad.add (i.toNat * 5)) = some (.int .u8 (rd_T29 xs i).f0) ∧ w.cell? ⟨(ad.add (i.toNat * 5)).block, (ad.add (i.toNat * 5)).off + 1, none⟩ = some (.int .i64 (rd_T29 xs i).f1) ∧ w.cell? ⟨(ad.add (i.toNat * 5)).block, (ad.add (i.toNat * 5)).off + 2, none⟩ = some (.int .i64 (rd_T29 xs i).f2.f0) ∧ w.cell? ⟨(ad.add (i.toNat * 5)).block, (ad.add (i.toNat * 5)).off + 3, none⟩ = some (.string (rd_T29 xs i).f2.f1) ∧ w.cell? ⟨(ad.add (i.toNat * 5)).block, (ad.add (i.toNat * 5)).off + 4, none⟩ = some (.int .i64 (rd_T29 xs i).f2.f2) := by
  obtain ⟨ad, c, e, _, hK, hc0⟩ := Kd.C_get h z29 i h0 h1
  have hc : ∀ j u, c[j]? = some u → w.cell? (ad.add (i.toNat * 5 + j)) = some u := hc0
  obtain rfl := k29_open hK
  exact ⟨ad, e, hc 0 _ rfl, by rw [← add_field _ _ 1 (by omega)]; exact hc 1 _ rfl, by rw [← add_field _ _ 2 (by omega)]; exact hc 2 _ rfl, by rw [← add_field _ _ 3 (by omega)]; exact hc 3 _ rfl, by rw [← add_field _ _ 4 (by omega)]; exact hc 4 _ rfl⟩
structure S55 where
  f0 : (List S94)
structure S76 where
  f0 : (List S73)
theorem eqA24 (d : Nat) (w : World) (x0 y0 : Int) (x1 y1 : ByteArray) (x2 y2 : Int) :
    (Op.equalIn (d + 2) 24 (.agg #[.int .i64 x0, .string x1, .int .i64 x2]) (.agg #[.int .i64 y0, .string y1, .int .i64 y2])).run Try.prog w = .ok (x0 == y0 && (x1.toList == y1.toList && (x2 == y2))) w := by
  refine eqA_of Try.underlying24 (by kernel_rfl) ?_
  refine eqf_cons (by rfl) (by go_simp; rfl) (by go_simp; rfl) (by go_simp) ?_
  refine eqf_cons (by rfl) (by go_simp; rfl) (by go_simp; rfl) (by go_simp) ?_
  exact eqf_last (by rfl) (by go_simp; rfl) (by go_simp; rfl) (by go_simp)
theorem eqA71 (d : Nat) (w : World) (x0 y0 : Int) (x1 y1 : ByteArray) :
    (Op.equalIn (d + 2) 71 (.agg #[.int .i64 x0, .string x1]) (.agg #[.int .i64 y0, .string y1])).run Try.prog w = .ok (x0 == y0 && (x1.toList == y1.toList)) w := by
  refine eqA_of Try.underlying71 (by kernel_rfl) ?_
  refine eqf_cons (by rfl) (by go_simp; rfl) (by go_simp; rfl) (by go_simp) ?_
  exact eqf_last (by rfl) (by go_simp; rfl) (by go_simp; rfl) (by go_simp)
end Go.Proofs.Ytfahpihbbkkngaa.P

-- from the text Ha
namespace Go.Proofs.Ytfahpihbbkkngaa.P
open Go.RowKit Go.Proofs.YtfahpihbbkkngaaW.PrintWords Go.Proofs.YtfahpihbbkkngaaW.PrintLast Go.Proofs.YtfahpihbbkkngaaW.PrintMore
set_option linter.unusedVariables false
set_option linter.unusedSimpArgs false
/-- The table before its last assignment, and behind it. -/
def abs0 : List S42 := [⟨⟨#[]⟩, 0, false, false, false, false, 0, 0⟩,
  ⟨⟨#[67, 79, 78, 86, 69, 82, 83, 73, 79, 78]⟩, 600, true, true, false, false, 1, 2⟩,
  ⟨⟨#[70, 73, 88, 69, 68, 79, 86, 69, 82, 70, 76, 79, 87]⟩, 310, true, true, false, false, 1, 1⟩,
  ⟨⟨#[79, 86, 69, 82, 70, 76, 79, 87]⟩, 300, true, true, false, false, 1, 1⟩,
  ⟨⟨#[83, 73, 90, 69]⟩, 340, false, true, false, false, 1, 1⟩,
  ⟨⟨#[83, 84, 82, 73, 78, 71, 82, 65, 78, 71, 69]⟩, 350, false, true, false, false, 2, 1⟩,
  ⟨⟨#[83, 84, 82, 73, 78, 71, 83, 73, 90, 69]⟩, 150, false, true, false, false, 2, 1⟩,
  ⟨⟨#[83, 85, 66, 83, 67, 82, 73, 80, 84, 82, 65, 78, 71, 69]⟩, 520, false, true, false, false, 1, 3⟩,
  ⟨⟨#[85, 78, 68, 69, 82, 70, 76, 79, 87]⟩, 330, true, true, false, false, 2, 1⟩,
  ⟨⟨#[90, 69, 82, 79, 68, 73, 86, 73, 68, 69]⟩, 320, true, true, false, false, 1, 1⟩,
  ⟨⟨#[69, 78, 68, 70, 73, 76, 69]⟩, 70, true, false, true, false, 1, 1⟩,
  ⟨⟨#[69, 78, 68, 80, 65, 71, 69]⟩, 90, true, false, true, false, 2, 1⟩,
  ⟨⟨#[75, 69, 89]⟩, 50, true, false, true, false, 1, 1⟩,
  ⟨⟨#[82, 69, 67, 79, 82, 68]⟩, 20, true, false, true, false, 1, 1⟩,
  ⟨⟨#[78, 65, 77, 69]⟩, 10, true, false, true, false, 2, 1⟩,
  ⟨⟨#[85, 78, 68, 69, 70, 73, 78, 69, 68, 70, 73, 76, 69]⟩, 80, true, false, true, false, 1, 1⟩,
  ⟨⟨#[65, 82, 69, 65]⟩, 360, true, false, false, false, 1, 2⟩,
  ⟨⟨#[83, 84, 79, 82, 65, 71, 69]⟩, 450, true, false, false, false, 1, 1⟩,
  ⟨⟨#[67, 79, 78, 68, 73, 84, 73, 79, 78]⟩, 500, true, false, false, false, 2, 1⟩,
  ⟨⟨#[69, 82, 82, 79, 82]⟩, 9, true, false, false, false, 3, 4⟩,
  ⟨⟨#[70, 73, 78, 73, 83, 72]⟩, 4, true, false, false, false, 3, 4⟩]
def abs1 : List S42 := abs0.set 18 ⟨⟨#[67, 79, 78, 68, 73, 84, 73, 79, 78]⟩, 500, true, false, false, true, 2, 1⟩
def cellsA (x : S42) : List Value := [.string x.f0, .int .i64 x.f1, .bool x.f2, .bool x.f3, .bool x.f4, .bool x.f5, .int .i64 x.f6, .int .i64 x.f7]
def tab0 : Array Value := (abs0.flatMap cellsA).toArray
def tab1 : Array Value := (abs1.flatMap cellsA).toArray
section
variable {P : Program} {ops : Array Oper} {rest : List Oper} {o : Oper} {a : Act} {Q : Exit → Act → World → Prop} {W w1 : World}
theorem wl_val {v : Value} (hg : o.guard = none) (hrun : (execOp a.eval o).run P W = .ok (.value v) w1) (h : wpList P ops Q rest (a.put o.dst v) w1) : wpList P ops Q (o :: rest) a W := by
  refine wpList_plain hg fun K hK => ?_
  unfold Oper.wp
  rw [hrun]
  exact hK _ _ h
theorem wl_same {v : Value} (hg : o.guard = none) (hrun : (execOp a.eval o).run P W = .ok (.value v) W) (h : wpList P ops Q rest (a.put o.dst v) W) : wpList P ops Q (o :: rest) a W := wl_val hg hrun h
theorem wl_skip (hg : o.guard = none) (hrun : (execOp a.eval o).run P W = .ok .skip w1) (h : wpList P ops Q rest (a.put o.dst undef) w1) : wpList P ops Q (o :: rest) a W := by
  refine wpList_plain hg fun K hK => ?_
  unfold Oper.wp
  rw [hrun]
  exact hK _ _ h
theorem results_c {fn : Func} {p : Tmp} {ty : TypeId} (h : fn.results = #[.cell p ty]) (tmps : Array Value) (w : World) (g : Nat) (t : TypeId) (cs : Array Value) (fr : Nat × Nat) (d : TypeDesc)
    (hp : tmps.getD p undef = .pointer (some ⟨g, 0, none⟩)) (hg : w.heap[g]? = some (.cells cs t fr))
    (hu : P.underlying ty = some d) (hd : (match d with | .struct _ | .array _ _ => true | _ => false) = true) (hi : (P.info? ty).map (·.size) = some cs.size) :
    (results fn tmps).run P w = .ok (.agg cs) w := by
  have hp' : tmps[p]?.getD undef = .pointer (some ⟨g, 0, none⟩) := by simpa using hp
  simp [results, h, hp', asAddr, run_loadVar_row w g t ty cs fr d hg hu hd hi]
theorem ex_load {t : TypeId} {p : Operand} {g : Nat} {c : Array Value} {d : TypeDesc} {fr : Nat × Nat} {u : TypeId} (ho : o.op = .load t p) (hp : a.eval p = .pointer (some ⟨g, 0, none⟩)) (hrow : W.heap[g]? = some (.cells c u fr))
    (hu : P.underlying t = some d) (hd : (match d with | .struct _ | .array _ _ => true | _ => false) = true) (hi : (P.info? t).map (·.size) = some c.size) : (execOp a.eval o).run P W = .ok (.value (.agg c)) W := by
  have h := run_loadVar_row (P := P) W g u t c fr d hrow hu hd hi
  simp only [execOp, ho, hp, Instr.loadAt, Instr.sureAddr, Sem.run_bind, Sem.run_pure, Result.andThen, h]
theorem ex_store {t : TypeId} {p x : Operand} {g : Nat} {old c : Array Value} {u : TypeId} (ho : o.op = .store t p x) (hp : a.eval p = .pointer (some ⟨g, 0, none⟩)) (hx : a.eval x = .agg c) (hrow : W.heap[g]? = some (.cells old u (0, 0)))
    (hi : (P.info? t).map (·.size) = some c.size) (hs : old.size = c.size) (h1 : c.all (·.oneCell') = true) : (execOp a.eval o).run P W = .ok .skip (W.setRow g c) := by
  have h := run_storeVar_row (P := P) W g u t old c hrow hi hs h1
  simp only [execOp, ho, hp, hx, Instr.storeAt, Instr.sureAddr, Sem.run_bind, Sem.run_pure, Result.andThen, h]
end
set_option maxRecDepth 100000 in
set_option maxHeartbeats 4000000 in
theorem t1_is (a : ByteArray) (b : Int) (c : Bool) (d : Int) (k : Int) (w : World) : Calls Try.prog 60 #[.string a, .int .i64 b, .bool c, .int .i64 d, .int .i64 k] w fun e w' => e = .returned (.agg #[.string a, .int .i64 b, .bool c, .bool true, .bool false, .bool false, .int .i64 d, .int .i64 k]) ∧ Below w.heap.size w w' := by
  have hB := (Below.refl w.heap.size w).alloc (Nat.le_refl _) (.cells #[.string a, .int .i64 b, .bool c, .bool true, .bool false, .bool false, .int .i64 d, .int .i64 k] 42 (0, 0))
  go_enter Try.func60, Try.ntmps60
  go_wp2
  have hO := blk_new w (.cells #[.string a, .int .i64 b, .bool c, .bool true, .bool false, .bool false, .int .i64 d, .int .i64 k] 42 (0, 0))
  generalize w.alloc (.cells #[.string a, .int .i64 b, .bool c, .bool true, .bool false, .bool false, .int .i64 d, .int .i64 k] 42 (0, 0)) = W at *
  have o0 := (blk_cell hO 0).trans rfl
  have o1 := (blk_cell hO 1).trans rfl
  have o2 := (blk_cell hO 2).trans rfl
  have o3 := (blk_cell hO 3).trans rfl
  have o4 := (blk_cell hO 4).trans rfl
  have o5 := (blk_cell hO 5).trans rfl
  have o6 := (blk_cell hO 6).trans rfl
  have o7 := (blk_cell hO 7).trans rfl
  refine bodyPost_ret (v := .agg #[.string a, .int .i64 b, .bool c, .bool true, .bool false, .bool false, .int .i64 d, .int .i64 k]) (by simp [results, Try.results60, go_sem, o0, o1, o2, o3, o4, o5, o6, o7]) rfl ⟨rfl, hB⟩
set_option maxRecDepth 100000 in
set_option maxHeartbeats 4000000 in
theorem t2_is (a : ByteArray) (b : Int) (d : Int) (w : World) : Calls Try.prog 61 #[.string a, .int .i64 b, .int .i64 d] w fun e w' => e = .returned (.agg #[.string a, .int .i64 b, .bool true, .bool false, .bool true, .bool false, .int .i64 d, .int .i64 1]) ∧ Below w.heap.size w w' := by
  have hB := (Below.refl w.heap.size w).alloc (Nat.le_refl _) (.cells #[.string a, .int .i64 b, .bool true, .bool false, .bool true, .bool false, .int .i64 d, .int .i64 1] 42 (0, 0))
  go_enter Try.func61, Try.ntmps61
  go_wp2
  have hO := blk_new w (.cells #[.string a, .int .i64 b, .bool true, .bool false, .bool true, .bool false, .int .i64 d, .int .i64 1] 42 (0, 0))
  generalize w.alloc (.cells #[.string a, .int .i64 b, .bool true, .bool false, .bool true, .bool false, .int .i64 d, .int .i64 1] 42 (0, 0)) = W at *
  have o0 := (blk_cell hO 0).trans rfl
  have o1 := (blk_cell hO 1).trans rfl
  have o2 := (blk_cell hO 2).trans rfl
  have o3 := (blk_cell hO 3).trans rfl
  have o4 := (blk_cell hO 4).trans rfl
  have o5 := (blk_cell hO 5).trans rfl
  have o6 := (blk_cell hO 6).trans rfl
  have o7 := (blk_cell hO 7).trans rfl
  refine bodyPost_ret (v := .agg #[.string a, .int .i64 b, .bool true, .bool false, .bool true, .bool false, .int .i64 d, .int .i64 1]) (by simp [results, Try.results61, go_sem, o0, o1, o2, o3, o4, o5, o6, o7]) rfl ⟨rfl, hB⟩
set_option maxRecDepth 100000 in
set_option maxHeartbeats 4000000 in
theorem t3_is (a : ByteArray) (b : Int) (d : Int) (k : Int) (w : World) : Calls Try.prog 62 #[.string a, .int .i64 b, .int .i64 d, .int .i64 k] w fun e w' => e = .returned (.agg #[.string a, .int .i64 b, .bool true, .bool false, .bool false, .bool false, .int .i64 d, .int .i64 k]) ∧ Below w.heap.size w w' := by
  have hB := (Below.refl w.heap.size w).alloc (Nat.le_refl _) (.cells #[.string a, .int .i64 b, .bool true, .bool false, .bool false, .bool false, .int .i64 d, .int .i64 k] 42 (0, 0))
  go_enter Try.func62, Try.ntmps62
  go_wp2
  have hO := blk_new w (.cells #[.string a, .int .i64 b, .bool true, .bool false, .bool false, .bool false, .int .i64 d, .int .i64 k] 42 (0, 0))
  generalize w.alloc (.cells #[.string a, .int .i64 b, .bool true, .bool false, .bool false, .bool false, .int .i64 d, .int .i64 k] 42 (0, 0)) = W at *
  have o0 := (blk_cell hO 0).trans rfl
  have o1 := (blk_cell hO 1).trans rfl
  have o2 := (blk_cell hO 2).trans rfl
  have o3 := (blk_cell hO 3).trans rfl
  have o4 := (blk_cell hO 4).trans rfl
  have o5 := (blk_cell hO 5).trans rfl
  have o6 := (blk_cell hO 6).trans rfl
  have o7 := (blk_cell hO 7).trans rfl
  refine bodyPost_ret (v := .agg #[.string a, .int .i64 b, .bool true, .bool false, .bool false, .bool false, .int .i64 d, .int .i64 k]) (by simp [results, Try.results62, go_sem, o0, o1, o2, o3, o4, o5, o6, o7]) rfl ⟨rfl, hB⟩
set_option maxRecDepth 100000 in
set_option maxHeartbeats 4000000 in
theorem table_is (w : World) : Calls Try.prog 40 #[] w fun e w' => e = .returned (.agg tab1) ∧ Below w.heap.size w w' := by
  have hmf : ∀ (fn : Fn) (first cap : Array Value) (w : World), (Instr.makeFunc fn first cap).run Try.prog w = .ok (.func fn first cap) w := fun _ _ _ _ => rfl
  go_enter Try.func40, Try.ntmps40
  go_wp2_with fail
  have HZ := Aside0.mk (blk_new w (.cells Try.zeroCells83 83 (0, 0)))
  have HB := Aside0.mk ((Below.refl w.heap.size w).alloc (Nat.le_refl _) (.cells Try.zeroCells83 83 (0, 0)))
  refine (t1_is _ _ _ _ _ _).mono ?_
  rintro e w1 ⟨rfl, hb⟩
  have HZ := Aside0.mk (blk_below HZ.out hb)
  have HB := Aside0.mk (HB.out.trans (hb.mono HB.out.size))
  clear hb
  go_wp2_with fail
  refine (t1_is _ _ _ _ _ _).mono ?_
  rintro e w2 ⟨rfl, hb⟩
  have HZ := Aside0.mk (blk_below HZ.out hb)
  have HB := Aside0.mk (HB.out.trans (hb.mono HB.out.size))
  clear hb
  go_wp2_with fail
  refine (t1_is _ _ _ _ _ _).mono ?_
  rintro e w3 ⟨rfl, hb⟩
  have HZ := Aside0.mk (blk_below HZ.out hb)
  have HB := Aside0.mk (HB.out.trans (hb.mono HB.out.size))
  clear hb
  go_wp2_with fail
  refine (t1_is _ _ _ _ _ _).mono ?_
  rintro e w4 ⟨rfl, hb⟩
  have HZ := Aside0.mk (blk_below HZ.out hb)
  have HB := Aside0.mk (HB.out.trans (hb.mono HB.out.size))
  clear hb
  go_wp2_with fail
  refine (t1_is _ _ _ _ _ _).mono ?_
  rintro e w5 ⟨rfl, hb⟩
  have HZ := Aside0.mk (blk_below HZ.out hb)
  have HB := Aside0.mk (HB.out.trans (hb.mono HB.out.size))
  clear hb
  go_wp2_with fail
  refine (t1_is _ _ _ _ _ _).mono ?_
  rintro e w6 ⟨rfl, hb⟩
  have HZ := Aside0.mk (blk_below HZ.out hb)
  have HB := Aside0.mk (HB.out.trans (hb.mono HB.out.size))
  clear hb
  go_wp2_with fail
  refine (t1_is _ _ _ _ _ _).mono ?_
  rintro e w7 ⟨rfl, hb⟩
  have HZ := Aside0.mk (blk_below HZ.out hb)
  have HB := Aside0.mk (HB.out.trans (hb.mono HB.out.size))
  clear hb
  go_wp2_with fail
  refine (t1_is _ _ _ _ _ _).mono ?_
  rintro e w8 ⟨rfl, hb⟩
  have HZ := Aside0.mk (blk_below HZ.out hb)
  have HB := Aside0.mk (HB.out.trans (hb.mono HB.out.size))
  clear hb
  go_wp2_with fail
  refine (t1_is _ _ _ _ _ _).mono ?_
  rintro e w9 ⟨rfl, hb⟩
  have HZ := Aside0.mk (blk_below HZ.out hb)
  have HB := Aside0.mk (HB.out.trans (hb.mono HB.out.size))
  clear hb
  go_wp2_with fail
  refine (t2_is _ _ _ _).mono ?_
  rintro e w10 ⟨rfl, hb⟩
  have HZ := Aside0.mk (blk_below HZ.out hb)
  have HB := Aside0.mk (HB.out.trans (hb.mono HB.out.size))
  clear hb
  go_wp2_with fail
  refine (t2_is _ _ _ _).mono ?_
  rintro e w11 ⟨rfl, hb⟩
  have HZ := Aside0.mk (blk_below HZ.out hb)
  have HB := Aside0.mk (HB.out.trans (hb.mono HB.out.size))
  clear hb
  go_wp2_with fail
  refine (t2_is _ _ _ _).mono ?_
  rintro e w12 ⟨rfl, hb⟩
  have HZ := Aside0.mk (blk_below HZ.out hb)
  have HB := Aside0.mk (HB.out.trans (hb.mono HB.out.size))
  clear hb
  go_wp2_with fail
  refine (t2_is _ _ _ _).mono ?_
  rintro e w13 ⟨rfl, hb⟩
  have HZ := Aside0.mk (blk_below HZ.out hb)
  have HB := Aside0.mk (HB.out.trans (hb.mono HB.out.size))
  clear hb
  go_wp2_with fail
  refine (t2_is _ _ _ _).mono ?_
  rintro e w14 ⟨rfl, hb⟩
  have HZ := Aside0.mk (blk_below HZ.out hb)
  have HB := Aside0.mk (HB.out.trans (hb.mono HB.out.size))
  clear hb
  go_wp2_with fail
  refine (t2_is _ _ _ _).mono ?_
  rintro e w15 ⟨rfl, hb⟩
  have HZ := Aside0.mk (blk_below HZ.out hb)
  have HB := Aside0.mk (HB.out.trans (hb.mono HB.out.size))
  clear hb
  go_wp2_with fail
  refine (t3_is _ _ _ _ _).mono ?_
  rintro e w16 ⟨rfl, hb⟩
  have HZ := Aside0.mk (blk_below HZ.out hb)
  have HB := Aside0.mk (HB.out.trans (hb.mono HB.out.size))
  clear hb
  go_wp2_with fail
  refine (t3_is _ _ _ _ _).mono ?_
  rintro e w17 ⟨rfl, hb⟩
  have HZ := Aside0.mk (blk_below HZ.out hb)
  have HB := Aside0.mk (HB.out.trans (hb.mono HB.out.size))
  clear hb
  go_wp2_with fail
  refine (t3_is _ _ _ _ _).mono ?_
  rintro e w18 ⟨rfl, hb⟩
  have HZ := Aside0.mk (blk_below HZ.out hb)
  have HB := Aside0.mk (HB.out.trans (hb.mono HB.out.size))
  clear hb
  go_wp2_with fail
  refine (t3_is _ _ _ _ _).mono ?_
  rintro e w19 ⟨rfl, hb⟩
  have HZ := Aside0.mk (blk_below HZ.out hb)
  have HB := Aside0.mk (HB.out.trans (hb.mono HB.out.size))
  clear hb
  go_wp2_with fail
  refine (t3_is _ _ _ _ _).mono ?_
  rintro e w20 ⟨rfl, hb⟩
  have HZ := Aside0.mk (blk_below HZ.out hb)
  have HB := Aside0.mk (HB.out.trans (hb.mono HB.out.size))
  clear hb
  have T1 := Aside0.mk (blk_new w20 (.cells tab0 83 (0, 0)))
  have Z1 := Aside0.mk (blk_alloc HZ.out (.cells tab0 83 (0, 0)))
  have B1 := Aside0.mk (HB.out.alloc (Below.size HB.out) (.cells tab0 83 (0, 0)))
  have N1 := Aside0.mk (Nat.ne_of_lt (blk_lt HZ.out))
  have G1 := Aside0.mk (Below.size HB.out)
  clear HZ HB
  go_wp2_with (first | ((with_reducible refine gate_dst (N := 45) rfl ?_); refine wl_same rfl (v := .agg tab0) (by kernel_rfl) ?_) | ((with_reducible refine gate_store (t := 83) (p := 4) rfl ?_); refine wl_skip rfl (ex_store rfl rfl rfl (blk_new _ _) (by kernel_rfl) (by kernel_rfl) (by kernel_rfl)) ?_; rw [World.setRow_alloc_new]; generalize w20.alloc (.cells tab0 83 (0, 0)) = W1 at T1 Z1 B1 ⊢; have hc := (blk_cell T1.out 149).trans (show tab0[149]? = some (.bool false) by kernel_rfl); have hf := blk_frozen T1.out 149; have T2 := Aside0.mk (blk_put (cs := tab0) (cs' := tab1) T1.out 149 (.bool true) (by kernel_rfl)); have Z2 := Aside0.mk (blk_far Z1.out (p := ⟨w20.heap.size, 149, none⟩) N1.out (.bool true)); have B2 := Aside0.mk (B1.out.setCell (p := ⟨w20.heap.size, 149, none⟩) G1.out (.bool true))) | ((with_reducible refine gate_dst (N := 48) rfl ?_); refine wl_same rfl (v := .agg tab1) (ex_load rfl rfl T2.out Try.underlying83 rfl (by kernel_rfl)) ?_) | ((with_reducible refine gate_store (t := 83) (p := 0) rfl ?_); refine wl_skip rfl (ex_store rfl rfl rfl Z2.out (by kernel_rfl) (by kernel_rfl) (by kernel_rfl)) ?_; have Z3 := Aside0.mk (setRow_heap _ _ _ tab1 _ _ Z2.out); have B3 := Aside0.mk (below_setRow B2.out (Nat.le_refl _) tab1); clear T2 Z2 B2 hc hf))
  refine bodyPost_ret (results_c (cs := tab1) rfl _ _ _ _ _ _ rfl Z3.out Try.underlying83 rfl (by kernel_rfl)) rfl ⟨rfl, ?_⟩
  first | exact B3.out | exact Below.drew B3.out
end Go.Proofs.Ytfahpihbbkkngaa.P

-- from the text Hc
namespace Go.Proofs.Ytfahpihbbkkngaa.P
open Go.RowKit Go.Proofs.YtfahpihbbkkngaaW.PrintWords Go.Proofs.YtfahpihbbkkngaaW.PrintLast Go.Proofs.YtfahpihbbkkngaaW.PrintMore
set_option linter.unusedVariables false
set_option linter.unusedSimpArgs false
/-- Whether there is a condition of this number. -/
def isC (c : Int) : Bool := decide (1 ≤ c) && decide (c ≤ 20)
theorem isC_iff (c : Int) : isC c = true ↔ 1 ≤ c ∧ c ≤ 20 := by simp [isC]
theorem is_is (c : Int) (w : World) : Calls Try.prog 39 #[.int .i64 c] w fun e w' => e = .returned (.bool (isC c)) ∧ Below w.heap.size w w' := by
  unfold isC
  by_cases h1 : 1 ≤ c
  · have h1b : decide (1 ≤ c) = true := decide_eq_true h1
    go_enter Try.func39, Try.ntmps39
    go_wp2
    go_ret
    exact ⟨by simp [h1b], Below.refl _ _⟩
  · have h1b : decide (1 ≤ c) = false := decide_eq_false h1
    go_enter Try.func39, Try.ntmps39
    go_wp2
    go_ret
    exact ⟨by simp [h1b], Below.refl _ _⟩
/-- The row of a condition. -/
def rowC (c : Int) : S42 := abs1.getD c.toNat z42
def aggC (x : S42) : Value := .agg #[.string x.f0, .int .i64 x.f1, .bool x.f2, .bool x.f3, .bool x.f4, .bool x.f5, .int .i64 x.f6, .int .i64 x.f7]
theorem index_n : ∀ n : Nat, n ≤ 20 → ∀ w : World, (Instr.index 83 (.agg tab1) (.int .i64 (n : Int))).run Try.prog w = .ok (aggC (rowC n)) w
  | 0, _, w => by kernel_rfl
  | 1, _, w => by kernel_rfl
  | 2, _, w => by kernel_rfl
  | 3, _, w => by kernel_rfl
  | 4, _, w => by kernel_rfl
  | 5, _, w => by kernel_rfl
  | 6, _, w => by kernel_rfl
  | 7, _, w => by kernel_rfl
  | 8, _, w => by kernel_rfl
  | 9, _, w => by kernel_rfl
  | 10, _, w => by kernel_rfl
  | 11, _, w => by kernel_rfl
  | 12, _, w => by kernel_rfl
  | 13, _, w => by kernel_rfl
  | 14, _, w => by kernel_rfl
  | 15, _, w => by kernel_rfl
  | 16, _, w => by kernel_rfl
  | 17, _, w => by kernel_rfl
  | 18, _, w => by kernel_rfl
  | 19, _, w => by kernel_rfl
  | 20, _, w => by kernel_rfl
  | n + 21, h, _ => absurd h (by omega)
theorem index_is (c : Int) (h : isC c = true) (w : World) : (Instr.index 83 (.agg tab1) (.int .i64 c)).run Try.prog w = .ok (aggC (rowC c)) w := by
  obtain ⟨h0, h1⟩ := (isC_iff c).1 h
  obtain ⟨n, rfl⟩ := Int.eq_ofNat_of_zero_le (show 0 ≤ c by omega)
  exact index_n n (by omega) w
/-- Whether a name is right for a condition. -/
def rightB (c : Int) (s : ByteArray) : Bool := isC c && (if ((rowC c).f4 || (rowC c).f5) = true then decide (1 ≤ s.size) && decide (s.size ≤ 31) else s.toList.isEmpty)
theorem setRow_ne (W : World) (g : Nat) (cs : Array Value) {k : Nat} (h : k ≠ g) : (W.setRow g cs).heap[k]? = W.heap[k]? := by
  unfold World.setRow
  simp [Array.getElem?_modify, Ne.symm h]
theorem ex_index {P : Program} {o : Oper} {a : Act} {W : World} {t : TypeId} {x i : Operand} {v j r : Value} (ho : o.op = .index t x i) (hx : a.eval x = v) (hi : a.eval i = j) (h : (Instr.index t v j).run P W = .ok r W) : (execOp a.eval o).run P W = .ok (.value r) W := by
  simp only [execOp, ho, hx, hi, Sem.run_bind, Sem.run_pure, Result.andThen, h]
set_option maxRecDepth 100000 in
set_option maxHeartbeats 4000000 in
theorem right_is (c : Int) (s : ByteArray) (w : World) : Calls Try.prog 36 #[.agg #[.int .i64 c, .string s]] w fun e w' => e = .returned (.bool (rightB c s)) ∧ Below w.heap.size w w' := by
  cases hC : isC c with
  | false =>
    have hr : rightB c s = false := by unfold rightB; rw [hC]; rfl
    rw [hr]
    have HI := Aside0.mk (fun W => is_is c W)
    rw [hC] at HI
    clear hr hC
    go_enter Try.func36, Try.ntmps36
    go_wp2_with fail
    refine (HI.out _).mono ?_
    rintro e w' ⟨rfl, hb⟩
    have HB := Aside0.mk (((Below.refl w.heap.size w).alloc (Nat.le_refl _) (.cells #[.int .i64 c, .string s] 71 (0, 0))).trans (hb.mono (show w.heap.size ≤ _ by simp)))
    clear hb
    go_wp2_with fail
    go_ret
    exact ⟨rfl, HB.out⟩
  | true =>
    have HX := Aside0.mk (fun W => index_is c hC W)
    have HI := Aside0.mk (fun W => is_is c W)
    rw [hC] at HI
    generalize hr : rightB c s = r
    unfold rightB at hr
    rw [hC, Bool.true_and] at hr
    have HR := Aside0.mk hr
    clear hr hC
    unfold aggC at HX
    generalize rowC c = x at *
    go_enter Try.func36, Try.ntmps36
    go_wp2_with fail
    refine (HI.out _).mono ?_
    rintro e w' ⟨rfl, hb⟩
    have HS := Aside0.mk (blk_below (blk_new w (.cells #[.int .i64 c, .string s] 71 (0, 0))) hb)
    have HB := Aside0.mk (((Below.refl w.heap.size w).alloc (Nat.le_refl _) (.cells #[.int .i64 c, .string s] 71 (0, 0))).trans (hb.mono (show w.heap.size ≤ _ by simp)))
    clear hb
    go_wp2_with fail
    have s0 := (blk_cell HS.out 0).trans rfl
    have s1 := (blk_cell HS.out 1).trans rfl
    have hx := HX.out
    clear hx s0 s1
    refine start_ (n := 6) (S := fun W => W.heap[w.heap.size]? = some (.cells #[.int .i64 c, .string s] 71 (0, 0)) ∧ Below w.heap.size w W) (ds := [5]) #[false, false, false, false, false, false] (by kernel_rfl) rfl rfl ⟨blk_drew HS.out, Below.drew HB.out⟩ (fun hHeld => ?_)
    generalize w'.drew = w1 at hHeld ⊢
    clear HS HB
    refine pure_ (i := 1) (N := some 9) (v := ?_) (a' := ?_) #[false, true, false, false, false, false] rfl rfl (by kernel_rfl) (fun _ _ _ h => h) (Or.inl ⟨by rfl, ?_⟩) ?_ ?_
    rotate_left
    · intro w_
      go_simp
      with_reducible rfl
    rotate_left
    · simp only [Act.put, List.setIfInBounds_toArray, List.set_cons_zero, List.set_cons_succ, i64_w, i32_w]
      rfl
    refine take_ (i := 2) (N := some 10) (v := ?_) (a' := ?_) #[false, true, true, false, false, false] rfl rfl (by kernel_rfl) (fun _ _ _ h => h) (Or.inl ⟨by rfl, ?_⟩) hHeld ?_ ?_
    rotate_left
    · rintro w_ ⟨hs_, _⟩
      have s0 := (blk_cell hs_ 0).trans rfl
      go_simp
      with_reducible rfl
    rotate_left
    · simp only [Act.put, List.setIfInBounds_toArray, List.set_cons_zero, List.set_cons_succ, i64_w, i32_w]
      rfl
    refine join_ (σ := Nat) 1 #[true, true, true, true, true, false] (fun g => [(8, .agg tab1), (11, .agg #[.string x.f0, .int .i64 x.f1, .bool x.f2, .bool x.f3, .bool x.f4, .bool x.f5, .int .i64 x.f6, .int .i64 x.f7]), (3, .pointer (some ⟨g, 0, none⟩))]) (fun g W => W.heap[g]? = some (.cells #[.string (⟨#[]⟩ : ByteArray), .int .i64 0, .bool false, .bool false, .bool false, .bool false, .int .i64 0, .int .i64 0] 42 (0, 0)) ∧ W.heap[w.heap.size]? = some (.cells #[.int .i64 c, .string s] 71 (0, 0)) ∧ Below w.heap.size w W ∧ w.heap.size < g) ?_ ?_
    · rintro g W ⟨hG, hS, hB, hlt⟩
      refine norm_ (a' := ?_) ?_ ?_
      rotate_left
      · simp only [putAll, Act.put, List.setIfInBounds_toArray, List.set_cons_zero, List.set_cons_succ, i64_w, i32_w]
        rfl
      refine last_ (i := 5) (N := none) #[true, true, true, true, true, true] rfl rfl (by kernel_rfl) (by decide) (fun K' hK => ?_)
      refine skip_ (by rfl) rfl (ex_store rfl rfl rfl hG rfl rfl (by first | kernel_rfl | simp [Value.oneCell'])) ?_
      refine hK.out _ _ ?_
      clear hK K' hHeld
      have hG2 := Aside0.mk (setRow_heap _ _ _ #[.string x.f0, .int .i64 x.f1, .bool x.f2, .bool x.f3, .bool x.f4, .bool x.f5, .int .i64 x.f6, .int .i64 x.f7] _ _ hG)
      have hB2 := Aside0.mk (below_setRow hB (Nat.le_of_lt hlt) #[.string x.f0, .int .i64 x.f1, .bool x.f2, .bool x.f3, .bool x.f4, .bool x.f5, .int .i64 x.f6, .int .i64 x.f7])
      have hS2 := Aside0.mk ((show (W.setRow g #[.string x.f0, .int .i64 x.f1, .bool x.f2, .bool x.f3, .bool x.f4, .bool x.f5, .int .i64 x.f6, .int .i64 x.f7]).heap[w.heap.size]? = W.heap[w.heap.size]? from setRow_ne _ _ _ (by omega)).trans hS)
      generalize W.setRow g #[.string x.f0, .int .i64 x.f1, .bool x.f2, .bool x.f3, .bool x.f4, .bool x.f5, .int .i64 x.f6, .int .i64 x.f7] = W2 at hG2 hB2 hS2 ⊢
      clear hG hB hS HX
      refine done_ (by kernel_rfl) ?_
      have r4 := (blk_cell hG2.out 4).trans rfl
      have r5 := (blk_cell hG2.out 5).trans rfl
      have s1 := (blk_cell hS2.out 1).trans rfl
      have HR := HR.out
      obtain ⟨f0, f1, f2, f3, f4, f5, f6, f7⟩ := x
      dsimp only at r4 r5 HR
      cases f4 <;> cases f5 <;> (simp only [Bool.or_false, Bool.or_true, Bool.or_self, if_true, if_false, Bool.false_eq_true] at HR; go_wp2_with fail)
      all_goals (go_ret; refine ⟨?_, hB2.out⟩; rw [← HR]; (first | rfl | (rename_i h_; simp [show 1 ≤ s.size by omega]; omega) | (rename_i h_; simp [show ¬ 1 ≤ s.size by omega])))
    · intro hj
      refine two_ (i := 0) (j := 4) (Ni := some 8) (Nj := some 3) #[true, true, true, false, false, false] #[false, true, true, false, true, false] rfl rfl rfl rfl (by kernel_rfl) (by decide) (by decide) (fun K' hK => ?_) (fun K' hK => ?_)
      · refine goes_ Try.func40 (by kernel_rfl) rfl #[] (by rfl) rfl rfl (by simp) ?_
        refine (table_is _).mono ?_
        rintro e w2 ⟨rfl, hb⟩
        refine ⟨_, rfl, ?_⟩
        refine hK.out _ _ ⟨blk_below hHeld.1 hb, hHeld.2.trans (hb.mono hHeld.2.size)⟩ (fun hHeld => ?_)
        clear hb hK K'
        refine norm_ (a' := ?_) ?_ ?_
        rotate_left
        · show Act.put _ (some 8) _ = _
          simp only [Act.put, List.setIfInBounds_toArray, List.set_cons_zero, List.set_cons_succ, i64_w, i32_w]
          rfl
        refine pure_ (i := 3) (N := some 11) (v := (.agg #[.string x.f0, .int .i64 x.f1, .bool x.f2, .bool x.f3, .bool x.f4, .bool x.f5, .int .i64 x.f6, .int .i64 x.f7])) (a' := ?_) #[true, true, true, true, false, false] rfl rfl (by kernel_rfl) (fun _ _ _ h => h) (Or.inl ⟨by rfl, ?_⟩) ?_ ?_
        · intro w_
          exact ex_index rfl rfl rfl (HX.out w_)
        rotate_left
        · simp only [Act.put, List.setIfInBounds_toArray, List.set_cons_zero, List.set_cons_succ, i64_w, i32_w]
          rfl
        refine one_ (i := 4) (N := some 3) #[true, true, true, true, true, false] rfl rfl (by kernel_rfl) (by decide) (fun K' hK => ?_)
        refine value_ (w1 := w2.alloc (.cells #[.string (⟨#[]⟩ : ByteArray), .int .i64 0, .bool false, .bool false, .bool false, .bool false, .int .i64 0, .int .i64 0] 42 (0, 0))) (v := .pointer (some ⟨w2.heap.size, 0, none⟩)) (by rfl) rfl ?_ ?_
        · go_simp
        refine hK.out _ _ ⟨blk_alloc hHeld.1 _, hHeld.2.alloc hHeld.2.size _⟩ (fun _ => ?_)
        clear hK K'
        refine norm_ ?_ (hj _ _ ⟨blk_new _ _, blk_alloc hHeld.1 _, hHeld.2.alloc hHeld.2.size _, blk_lt hHeld.1⟩)
        simp only [putAll, Act.put, List.setIfInBounds_toArray, List.set_cons_zero, List.set_cons_succ]
      · refine value_ (w1 := w1.alloc (.cells #[.string (⟨#[]⟩ : ByteArray), .int .i64 0, .bool false, .bool false, .bool false, .bool false, .int .i64 0, .int .i64 0] 42 (0, 0))) (v := .pointer (some ⟨w1.heap.size, 0, none⟩)) (by rfl) rfl ?_ ?_
        · go_simp
        have hN := Aside0.mk (blk_new w1 (.cells #[.string (⟨#[]⟩ : ByteArray), .int .i64 0, .bool false, .bool false, .bool false, .bool false, .int .i64 0, .int .i64 0] 42 (0, 0)))
        have hlt := blk_lt hHeld.1
        refine hK.out _ _ ⟨blk_alloc hHeld.1 _, hHeld.2.alloc hHeld.2.size _⟩ (fun hHeld => ?_)
        clear hK K'
        refine norm_ (a' := ?_) ?_ ?_
        rotate_left
        · show Act.put _ (some 3) _ = _
          simp only [Act.put, List.setIfInBounds_toArray, List.set_cons_zero, List.set_cons_succ, i64_w, i32_w]
          rfl
        refine one_ (i := 0) (N := some 8) #[true, true, true, false, true, false] rfl rfl (by kernel_rfl) (by decide) (fun K' hK => ?_)
        refine goes_ Try.func40 (by kernel_rfl) rfl #[] (by rfl) rfl rfl (by simp) ?_
        refine (table_is _).mono ?_
        rintro e w2 ⟨rfl, hb⟩
        refine ⟨_, rfl, ?_⟩
        have hN := Aside0.mk (blk_below hN.out hb)
        refine hK.out _ _ ⟨blk_below hHeld.1 hb, hHeld.2.trans (hb.mono hHeld.2.size)⟩ (fun hHeld => ?_)
        clear hb hK K'
        refine norm_ (a' := ?_) ?_ ?_
        rotate_left
        · show Act.put _ (some 8) _ = _
          simp only [Act.put, List.setIfInBounds_toArray, List.set_cons_zero, List.set_cons_succ, i64_w, i32_w]
          rfl
        refine pure_ (i := 3) (N := some 11) (v := (.agg #[.string x.f0, .int .i64 x.f1, .bool x.f2, .bool x.f3, .bool x.f4, .bool x.f5, .int .i64 x.f6, .int .i64 x.f7])) (a' := ?_) #[true, true, true, true, true, false] rfl rfl (by kernel_rfl) (fun _ _ _ h => h) (Or.inl ⟨by rfl, ?_⟩) ?_ ?_
        · intro w_
          exact ex_index rfl rfl rfl (HX.out w_)
        rotate_left
        · simp only [Act.put, List.setIfInBounds_toArray, List.set_cons_zero, List.set_cons_succ, i64_w, i32_w]
          rfl
        refine norm_ ?_ (hj _ _ ⟨hN.out, hHeld.1, hHeld.2, hlt⟩)
        simp only [putAll, Act.put, List.setIfInBounds_toArray, List.set_cons_zero, List.set_cons_succ]
end Go.Proofs.Ytfahpihbbkkngaa.P

-- from the text Hh
namespace Go.Proofs.Ytfahpihbbkkngaa.P
open Go.RowKit Go.Proofs.YtfahpihbbkkngaaW.PrintWords Go.Proofs.YtfahpihbbkkngaaW.PrintLast Go.Proofs.YtfahpihbbkkngaaW.PrintMore
set_option linter.unusedVariables false
set_option linter.unusedSimpArgs false
/-- A frame. -/
structure Fr where
  us : List S24
  rc : Int
  rn : ByteArray
  bl : Int
def fr0 : Fr := ⟨[], 0, ⟨#[]⟩, 0⟩
def cU (u : S24) : List Value := [.int .i64 u.f0, .string u.f1, .int .i64 u.f2]
def cF (x : Value × Fr) : List Value := [x.1, .int .i64 x.2.rc, .string x.2.rn, .int .i64 x.2.bl]
def cUs (l : List S24) : List Value := l.flatMap cU
def cFs (l : List (Value × Fr)) : List Value := l.flatMap cF
theorem len_cUs : ∀ l : List S24, (cUs l).length = l.length * 3
  | [] => rfl
  | x :: l => by
    have := len_cUs l
    simp only [cUs, List.flatMap_cons, List.length_append, List.length_cons] at this ⊢
    simp only [cU, List.length_cons, List.length_nil]
    omega
theorem len_cFs : ∀ l : List (Value × Fr), (cFs l).length = l.length * 4
  | [] => rfl
  | x :: l => by
    have := len_cFs l
    simp only [cFs, List.flatMap_cons, List.length_append, List.length_cons] at this ⊢
    simp only [cF, List.length_cons, List.length_nil]
    omega
/-- What a call may turn: blocks of F, and what is laid anew. -/
structure Turn (F : Nat → Prop) (w w' : World) : Prop where
  os : w'.os = w.os
  tape : w'.tape = w.tape
  output : w'.output = w.output
  size : w.heap.size ≤ w'.heap.size
  block : ∀ k, k < w.heap.size → ¬ F k → w'.heap[k]? = w.heap[k]?
def More (F : Nat → Prop) (n m : Nat) (k : Nat) : Prop := F k ∨ (n ≤ k ∧ k < m)
theorem Turn.refl (F : Nat → Prop) (w : World) : Turn F w w := ⟨rfl, rfl, rfl, Nat.le_refl _, fun _ _ _ => rfl⟩
theorem Turn.of_below {F : Nat → Prop} {w w' : World} (h : Below w.heap.size w w') : Turn F w w' := ⟨h.os, h.tape, h.output, h.size, fun k hk _ => h.block k hk⟩
theorem Turn.trans {F : Nat → Prop} {a b c : World} (h : Turn F a b) (k : Turn (More F a.heap.size b.heap.size) b c) : Turn F a c :=
  ⟨k.os.trans h.os, k.tape.trans h.tape, k.output.trans h.output, Nat.le_trans h.size k.size, fun i hi hn => (k.block i (Nat.lt_of_lt_of_le hi h.size) (fun e => e.elim hn (fun e => by omega))).trans (h.block i hi hn)⟩
theorem Turn.set {F : Nat → Prop} {a b : World} (h : Turn F a b) {p : Addr} (hp : F p.block) (v : Value) : Turn F a (b.setCell p v) :=
  ⟨h.os, h.tape, h.output, by rw [World.size_setCell]; exact h.size, fun k hk hn => (Below.heap_setCell b p v k (fun e => hn (e ▸ hp))).trans (h.block k hk hn)⟩
theorem Turn.below {F : Nat → Prop} {a b : World} (h : Turn F a b) {B : Nat} (hB : ∀ k, F k → B ≤ k) (hs : B ≤ a.heap.size) : Below B a b :=
  ⟨h.os, h.tape, h.output, h.size, fun k hk => h.block k (by omega) (fun e => by have := hB k e; omega)⟩
theorem Turn.step {F : Nat → Prop} {a b c : World} (h : Turn F a b) (hb : Below b.heap.size b c) : Turn F a c :=
  ⟨hb.os.trans h.os, hb.tape.trans h.tape, hb.output.trans h.output, Nat.le_trans h.size hb.size, fun k hk hn => (hb.block k (Nat.lt_of_lt_of_le hk h.size)).trans (h.block k hk hn)⟩
theorem Turn.grown {F : Nat → Prop} {a b c : World} {row : Option Nat} (h : Turn F a b) (hg : b.grownBy c row) (hr : ∀ k, row = some k → F k ∨ a.heap.size ≤ k) : Turn F a c :=
  ⟨hg.os.trans h.os, hg.tape.trans h.tape, hg.output.trans h.output, Nat.le_trans h.size hg.size, fun k hk hn => (hg.block k (Nat.lt_of_lt_of_le hk h.size) (fun e => (hr k e.symm).elim hn (fun e => by omega))).trans (h.block k hk hn)⟩
/-- A row lies as it lay where its block does. -/
theorem ownsRow_kept {w w' : World} {base : Nat} {e : TypeId} {size : Nat} {v : Value} {n : Nat} {xs : List Value} (h : w.ownsRow base e size v n xs) (hk : ∀ k, v.ownBlock = some k → w'.heap[k]? = w.heap[k]?) : w'.ownsRow base e size v n xs := by
  refine ⟨h.1, h.2.imp id ?_⟩
  rintro ⟨g, cap, cur, rfl, hb, hg, rest⟩
  exact ⟨g, cap, cur, rfl, hb, (hk g rfl).trans hg, rest⟩
theorem ownsRow_base {w : World} {base b' : Nat} {e : TypeId} {size : Nat} {v : Value} {n : Nat} {xs : List Value} (h : w.ownsRow base e size v n xs) (hb : b' ≤ base) : w.ownsRow b' e size v n xs := by
  refine ⟨h.1, h.2.imp id ?_⟩
  rintro ⟨g, cap, cur, rfl, hg, rest⟩
  exact ⟨g, cap, cur, rfl, Nat.le_trans hb hg, rest⟩
/-- A cell of an owned row. -/
theorem ownsRow_cell {w : World} {base : Nat} {e : TypeId} {size : Nat} {g : Nat} {n cap : Nat} {xs : List Value} (h : w.ownsRow base e size (.slice (some ⟨g, 0, none⟩) n cap) n xs) {j : Nat} {u : Value} (hj : xs[j]? = some u) : w.cell? ⟨g, j, none⟩ = some u := by
  rcases h.2 with ⟨h0, _⟩ | ⟨g', cap', cur, hv, _, hg, _, _, _, ht⟩
  · cases h0
  · cases hv
    have hj2 : cur[j]? = some u := by
      rw [← ht, List.getElem?_take] at hj
      split at hj
      · simpa using hj
      · cases hj
    exact (blk_cell hg j).trans hj2
/-- The stack at block s: its frames' row fv, each frame with the row of its units. -/
structure Stk (w : World) (s : Nat) (fv : Value) (D : List (Value × Fr)) : Prop where
  head : w.heap[s]? = some (.cells #[fv] 76 (0, 0))
  row : w.ownsRow 0 73 4 fv D.length (cFs D)
  units : ∀ x ∈ D, w.ownsRow 0 24 3 x.1 x.2.us.length (cUs x.2.us)
  apart : D.Pairwise (fun x y => ∀ b, x.1.ownBlock = some b → y.1.ownBlock ≠ some b)
def foot (s : Nat) (fv : Value) (D : List (Value × Fr)) (k : Nat) : Prop := k = s ∨ fv.ownBlock = some k ∨ ∃ x ∈ D, x.1.ownBlock = some k
theorem Stk.kept {w w' : World} {s : Nat} {fv : Value} {D : List (Value × Fr)} (h : Stk w s fv D) (hk : ∀ k, foot s fv D k → w'.heap[k]? = w.heap[k]?) : Stk w' s fv D :=
  ⟨(hk s (.inl rfl)).trans h.head, ownsRow_kept h.row (fun k e => hk k (.inr (.inl e))), fun x hx => ownsRow_kept (h.units x hx) (fun k e => hk k (.inr (.inr ⟨x, hx, e⟩))), h.apart⟩
theorem blk_lt' {w : World} {k : Nat} {o : Obj} (h : w.heap[k]? = some o) : k < w.heap.size := (Array.getElem?_eq_some_iff.1 h).1
theorem Stk.foot_lt {w : World} {s : Nat} {fv : Value} {D : List (Value × Fr)} (h : Stk w s fv D) {k : Nat} (hk : foot s fv D k) : k < w.heap.size := by
  rcases hk with rfl | hk | ⟨x, hx, hk⟩
  · exact blk_lt' h.head
  · exact (h.row.lt k hk).2
  · exact ((h.units x hx).lt k hk).2
/-- The three kinds of blocks differ. -/
theorem own_type {w : World} {base : Nat} {e : TypeId} {size : Nat} {v : Value} {n : Nat} {xs : List Value} (h : w.ownsRow base e size v n xs) {k : Nat} (hk : v.ownBlock = some k) : ∃ cur, w.heap[k]? = some (.cells cur e (0, 0)) := by
  rcases h.2 with ⟨rfl, _⟩ | ⟨g, cap, cur, rfl, _, hg, _⟩
  · cases hk
  · cases hk
    exact ⟨cur, hg⟩
theorem Stk.row_ne {w : World} {s : Nat} {fv : Value} {D : List (Value × Fr)} (h : Stk w s fv D) : fv.ownBlock ≠ some s := fun e => by
  obtain ⟨cur, hc⟩ := own_type h.row e
  have := h.head.symm.trans hc
  simp at this
theorem Stk.unit_ne {w : World} {s : Nat} {fv : Value} {D : List (Value × Fr)} (h : Stk w s fv D) {x : Value × Fr} (hx : x ∈ D) : x.1.ownBlock ≠ some s := fun e => by
  obtain ⟨cur, hc⟩ := own_type (h.units x hx) e
  have := h.head.symm.trans hc
  simp at this
theorem Stk.unit_row {w : World} {s : Nat} {fv : Value} {D : List (Value × Fr)} (h : Stk w s fv D) {x : Value × Fr} (hx : x ∈ D) {k : Nat} (hk : fv.ownBlock = some k) : x.1.ownBlock ≠ some k := fun e => by
  obtain ⟨cur, hc⟩ := own_type (h.units x hx) e
  obtain ⟨cur', hc'⟩ := own_type h.row hk
  have := hc'.symm.trans hc
  simp at this
/-- The stack's frames are L, its blocks are of F. -/
def St (w : World) (s : Nat) (L : List Fr) (F : Nat → Prop) : Prop := ∃ fv D, Stk w s fv D ∧ D.map Prod.snd = L ∧ ∀ k, foot s fv D k → F k
theorem St.below {w w' : World} {s : Nat} {L : List Fr} {F : Nat → Prop} (h : St w s L F) (hb : Below w.heap.size w w') : St w' s L F := by
  obtain ⟨fv, D, h1, h2, h3⟩ := h
  exact ⟨fv, D, h1.kept (fun k hk => hb.block k (h1.foot_lt hk)), h2, h3⟩
theorem St.turn {w w' : World} {s : Nat} {L : List Fr} {F G : Nat → Prop} (h : St w s L F) (ht : Turn G w w') (hd : ∀ k, F k → ¬ G k) : St w' s L F := by
  obtain ⟨fv, D, h1, h2, h3⟩ := h
  exact ⟨fv, D, h1.kept (fun k hk => ht.block k (h1.foot_lt hk) (hd k (h3 k hk))), h2, h3⟩
theorem St.mono {w : World} {s : Nat} {L : List Fr} {F G : Nat → Prop} (h : St w s L F) (hd : ∀ k, F k → G k) : St w s L G := by
  obtain ⟨fv, D, h1, h2, h3⟩ := h
  exact ⟨fv, D, h1, h2, fun k hk => hd k (h3 k hk)⟩
end Go.Proofs.Ytfahpihbbkkngaa.P

-- from the text Hi
namespace Go.Proofs.Ytfahpihbbkkngaa.P
open Go.RowKit Go.Proofs.YtfahpihbbkkngaaW.PrintWords Go.Proofs.YtfahpihbbkkngaaW.PrintLast Go.Proofs.YtfahpihbbkkngaaW.PrintMore
set_option linter.unusedVariables false
set_option linter.unusedSimpArgs false
section
variable {ops : Array Oper} {rest : List Oper} {o : Oper} {a : Act} {Q : Exit → Act → World → Prop} {W : World}
/-- One frame more. -/
theorem wl_append73 {s x : Operand} {fv : Value} {n : Nat} {xs : List Value} (g0 : Nat) (b c d : Value) (v : Value) (hgd : o.guard = none) (ho : o.op = .call { callee := .builtin .append, args := #[s, x], argTypes := #[74, 74] })
    (hs : a.eval s = fv) (hrow : W.ownsRow 0 73 4 fv n xs) (hx : a.eval x = .slice (some ⟨g0, 0, none⟩) 1 1) (hb : W.heap[g0]? = some (.cells #[v, b, c, d] 73 (0, 0)))
    (h1 : v.oneCell' = true ∧ b.oneCell' = true ∧ c.oneCell' = true ∧ d.oneCell' = true) (hn : n ≤ 1000000)
    (h : ∀ g cap w', w'.ownsRow 0 73 4 (.slice (some ⟨g, 0, none⟩) (n + 1) cap) (n + 1) (xs ++ [v, b, c, d]) → W.grownBy w' fv.ownBlock → (fv.ownBlock = some g ∨ g = W.heap.size) → g < w'.heap.size → wpList Try.prog ops Q rest (a.put o.dst (.slice (some ⟨g, 0, none⟩) (n + 1) cap)) w') : wpList Try.prog ops Q (o :: rest) a W := by
  obtain ⟨i0, hi, hz0, hz1, hz2⟩ := info_parts info73
  exact wpList_append_lies W hgd s x 74 ho 0 73 i0 _ 4 56 Try.underlying74 hi hz0 hz1 hz2 rfl (by decide) fv n xs hs hrow ⟨g0, 0, none⟩ 1 1 [v, b, c, d] hx rfl
    (fun j u hj => by rw [add_plain]; exact (blk_cell hb j).trans (by simpa using hj)) (by simp [h1]) (by decide) (by simp only [maxLen]; omega) (by omega) (Nat.zero_le _) _ rfl h
end
set_option maxRecDepth 100000 in
set_option maxHeartbeats 4000000 in
theorem new_is (w : World) : Calls Try.prog 11 #[] w fun e w' => ∃ s, e = .returned (.pointer (some ⟨s, 0, none⟩)) ∧ St w' s [fr0] (More (fun _ => False) w.heap.size w'.heap.size) ∧ Below w.heap.size w w' := by
  go_enter Try.func11, Try.ntmps11
  go_wp2_with fail
  go_ret
  have h1 := blk_new w (.cells #[.slice none 0 0, .int .i64 0, .string ⟨#[]⟩, .int .i64 0] 73 (0, 0))
  have h2 := blk_alloc h1 (.cells #[.slice (some ⟨w.heap.size, 0, none⟩) 1 1] 76 (0, 0))
  have h3 := blk_new (w.alloc (.cells #[.slice none 0 0, .int .i64 0, .string ⟨#[]⟩, .int .i64 0] 73 (0, 0))) (.cells #[.slice (some ⟨w.heap.size, 0, none⟩) 1 1] 76 (0, 0))
  rw [World.size_alloc] at h3
  refine ⟨w.heap.size + 1, rfl, ⟨.slice (some ⟨w.heap.size, 0, none⟩) 1 1, [(.slice none 0 0, fr0)], ⟨h3, ⟨rfl, .inr ⟨_, _, _, rfl, Nat.zero_le _, h2, by simp, by simp [maxLen], rfl, rfl⟩⟩, ?_, by simp⟩, rfl, ?_⟩, ?_⟩
  · intro x hx
    simp only [List.mem_singleton] at hx
    subst hx
    exact ⟨rfl, .inl ⟨rfl, rfl⟩⟩
  · intro k hk
    refine .inr ?_
    rcases hk with rfl | hk | ⟨x, hx, hk⟩
    · simp
    · cases hk
      simp only [World.size_alloc]
      omega
    · simp only [List.mem_singleton] at hx
      subst hx
      cases hk
  · exact ((Below.refl _ _).alloc (Nat.le_refl _) _).alloc (by simp) _
/-- What the stack's head tells. -/
theorem St.open_ {w : World} {s : Nat} {L : List Fr} {F : Nat → Prop} (h : St w s L F) : ∃ fv D, Stk w s fv D ∧ D.map Prod.snd = L ∧ (∀ k, foot s fv D k → F k) ∧ (∃ p c, fv = .slice p L.length c) ∧ w.cell? ⟨s, 0, none⟩ = some fv ∧ w.frozen? ⟨s, 0, none⟩ = false := by
  obtain ⟨fv, D, h1, h2, h3⟩ := h
  have hl : D.length = L.length := by rw [← h2]; simp
  refine ⟨fv, D, h1, h2, h3, ?_, (blk_cell h1.head 0).trans rfl, blk_frozen h1.head 0⟩
  rcases h1.row.2 with ⟨rfl, h0⟩ | ⟨g, cap, cur, rfl, _⟩
  · exact ⟨none, 0, by rw [← hl, h0]⟩
  · exact ⟨_, _, by rw [← hl]⟩
theorem depth_is (s : Nat) (L : List Fr) (F : Nat → Prop) (w : World) (h : St w s L F) : Calls Try.prog 15 #[.pointer (some ⟨s, 0, none⟩)] w fun e w' => e = .returned (.int .i64 (L.length : Int)) ∧ Below w.heap.size w w' := by
  obtain ⟨fv, D, h1, h2, h3, ⟨p, c, rfl⟩, hc, hf⟩ := h.open_
  clear h1 h2 h3
  go_enter Try.func15, Try.ntmps15
  go_wp2_with fail
  go_ret
  exact ⟨rfl, Below.refl _ _⟩
theorem push_full (s : Nat) (L : List Fr) (F : Nat → Prop) (w : World) (h : St w s L F) (hl : 60 ≤ L.length) : Calls Try.prog 12 #[.pointer (some ⟨s, 0, none⟩)] w fun e w' => e = .returned (.int .i64 4) ∧ Below w.heap.size w w' := by
  obtain ⟨fv, D, h1, h2, h3, ⟨p, c, rfl⟩, hc, hf⟩ := h.open_
  clear h1 h2 h3
  have hd : decide (60 ≤ (L.length : Int)) = true := decide_eq_true (by omega)
  go_enter Try.func12, Try.ntmps12
  go_wp2_with fail
  go_ret
  exact ⟨rfl, Below.refl _ _⟩
/-- A frame is put on top. -/
theorem St.pushed {w W w2 : World} {s g cap : Nat} {fv : Value} {D : List (Value × Fr)} {L : List Fr} {F : Nat → Prop} {f : Fr} (h : Stk w s fv D) (h2 : D.map Prod.snd = L) (h3 : ∀ k, foot s fv D k → F k) (hf : f.us = []) (hW : Below w.heap.size w W)
    (hown : w2.ownsRow 0 73 4 (.slice (some ⟨g, 0, none⟩) (D.length + 1) cap) (D.length + 1) (cFs D ++ cF (.slice none 0 0, f))) (hgrow : W.grownBy w2 fv.ownBlock) (hat : fv.ownBlock = some g ∨ g = W.heap.size) (hlt : g < w2.heap.size) :
    St (w2.setCell ⟨s, 0, none⟩ (.slice (some ⟨g, 0, none⟩) (D.length + 1) cap)) s (L ++ [f]) (More F w.heap.size (w2.setCell ⟨s, 0, none⟩ (.slice (some ⟨g, 0, none⟩) (D.length + 1) cap)).heap.size) ∧ Turn F w (w2.setCell ⟨s, 0, none⟩ (.slice (some ⟨g, 0, none⟩) (D.length + 1) cap)) := by
  have hs : s < w.heap.size := blk_lt' h.head
  have hk2 : ∀ k, k < w.heap.size → fv.ownBlock ≠ some k → w2.heap[k]? = w.heap[k]? := fun k hk hn => (hgrow.block k (Nat.lt_of_lt_of_le hk hW.size) (fun e => hn e.symm)).trans (hW.block k hk)
  have hh := (hk2 s hs h.row_ne).trans h.head
  have hgs : g ≠ s := by
    rintro rfl
    rcases hat with e | e
    · exact h.row_ne e
    · have := hW.size
      omega
  refine ⟨⟨.slice (some ⟨g, 0, none⟩) (D.length + 1) cap, D ++ [(.slice none 0 0, f)], ⟨blk_put hh 0 _ rfl, ?_, ?_, ?_⟩, by simp [h2], ?_⟩, ?_⟩
  · have e1 : (D ++ [((Value.slice none 0 0 : Value), f)]).length = D.length + 1 := by simp
    have e2 : cFs (D ++ [((Value.slice none 0 0 : Value), f)]) = cFs D ++ cF (.slice none 0 0, f) := by simp [cFs]
    rw [e1, e2]
    exact ownsRow_kept hown (fun k hk => by cases hk; exact Below.heap_setCell _ _ _ _ hgs)
  · intro x hx
    rcases List.mem_append.1 hx with hx | hx
    · exact ownsRow_kept (h.units x hx) (fun k hk => (Below.heap_setCell w2 _ _ _ (fun e => h.unit_ne hx (hk.trans (congrArg some e)))).trans (hk2 k ((h.units x hx).lt k hk).2 (fun e => h.unit_row hx e hk)))
    · simp only [List.mem_singleton] at hx
      subst hx
      exact ⟨by simp [hf, cUs], .inl ⟨rfl, by simp [hf]⟩⟩
  · refine List.pairwise_append.2 ⟨h.apart, by simp, fun x hx y hy b hb => ?_⟩
    simp only [List.mem_singleton] at hy
    subst hy
    simp [Value.ownBlock]
  · rw [World.size_setCell]
    rintro k (rfl | hk | ⟨x, hx, hk⟩)
    · exact .inl (h3 _ (.inl rfl))
    · cases hk
      rcases hat with e | e
      · exact .inl (h3 _ (.inr (.inl e)))
      · exact .inr ⟨e ▸ hW.size, hlt⟩
    · rcases List.mem_append.1 hx with hx | hx
      · exact .inl (h3 _ (.inr (.inr ⟨x, hx, hk⟩)))
      · simp only [List.mem_singleton] at hx
        subst hx
        cases hk
  · exact Turn.set (Turn.grown (Turn.of_below hW) hgrow (fun k hk => .inl (h3 k (.inr (.inl hk))))) (h3 s (.inl rfl)) _
set_option maxRecDepth 100000 in
set_option maxHeartbeats 4000000 in
theorem push_is (s : Nat) (L : List Fr) (F : Nat → Prop) (w : World) (h : St w s L F) (hl : L.length < 60) : Calls Try.prog 12 #[.pointer (some ⟨s, 0, none⟩)] w fun e w' => e = .returned (.int .i64 0) ∧ St w' s (L ++ [fr0]) (More F w.heap.size w'.heap.size) ∧ Turn F w w' := by
  obtain ⟨fv, D, h1, h2, h3, hv, hc, hf⟩ := h.open_
  have hd : decide (60 ≤ (L.length : Int)) = false := decide_eq_false (by omega)
  have hL : D.length = L.length := by rw [← h2]; simp
  have H1 := Aside0.mk h1
  have H2 := Aside0.mk h2
  have H3 := Aside0.mk h3
  have HR := Aside0.mk (ownsRow_kept (w' := w.alloc (.cells #[.slice none 0 0, .int .i64 0, .string ⟨#[]⟩, .int .i64 0] 73 (0, 0))) h1.row (fun k hk => Below.heap_alloc w _ k (h1.row.lt k hk).2))
  have HN := Aside0.mk (blk_new w (.cells #[.slice none 0 0, .int .i64 0, .string ⟨#[]⟩, .int .i64 0] 73 (0, 0)))
  have HH0 := Aside0.mk ((Below.heap_alloc w (.cells #[.slice none 0 0, .int .i64 0, .string ⟨#[]⟩, .int .i64 0] 73 (0, 0)) s (blk_lt' h1.head)).trans h1.head)
  have HB0 := Aside0.mk ((Below.refl w.heap.size w).alloc (Nat.le_refl _) (.cells #[.slice none 0 0, .int .i64 0, .string ⟨#[]⟩, .int .i64 0] 73 (0, 0)))
  have HS := Aside0.mk (show s < (w.alloc (.cells #[.slice none 0 0, .int .i64 0, .string ⟨#[]⟩, .int .i64 0] 73 (0, 0))).heap.size by rw [World.size_alloc]; exact Nat.lt_succ_of_lt (blk_lt' h1.head))
  obtain ⟨p, c, hv⟩ := hv
  subst hv
  clear h1 h2 h3
  go_enter Try.func12, Try.ntmps12
  go_wp2_with (((with_reducible refine gate_dst (N := 18) rfl ?_); refine wl_append73 w.heap.size _ _ _ _ rfl rfl rfl HR.out rfl HN.out ⟨rfl, rfl, rfl, rfl⟩ (by omega) ?_; intro g cap w2 hown hgrow hat hlt; have HH := Aside0.mk ((hgrow.block s HS.out (fun e => H1.out.row_ne e.symm)).trans HH0.out); have HF := Aside0.mk (St.pushed (f := fr0) H1.out H2.out H3.out rfl HB0.out hown hgrow hat hlt); clear hown hgrow hat hlt; have hc2 := (blk_cell HH.out 0).trans rfl; have hf2 := blk_frozen HH.out 0))
  go_ret
  rw [hL] at HF
  exact ⟨rfl, HF.out⟩
end Go.Proofs.Ytfahpihbbkkngaa.P

-- from the text Hj
namespace Go.Proofs.Ytfahpihbbkkngaa.P
open Go.RowKit Go.Proofs.YtfahpihbbkkngaaW.PrintWords Go.Proofs.YtfahpihbbkkngaaW.PrintLast Go.Proofs.YtfahpihbbkkngaaW.PrintMore
set_option linter.unusedVariables false
set_option linter.unusedSimpArgs false
attribute [local go_sem high] eqA71
/-- Whether a unit is for a condition and name. -/
def hit (c : Int) (s : ByteArray) (u : S24) : Bool := u.f0 == c && (u.f1.toList == s.toList)
/-- Where the first such unit stands. -/
def idxU (c : Int) (s : ByteArray) : List S24 → Nat → Option Nat
  | [], _ => none
  | u :: r, k => if hit c s u = true then some k else idxU c s r (k + 1)
theorem idxU_cons (c : Int) (s : ByteArray) (u : S24) (r : List S24) (k : Nat) : idxU c s (u :: r) k = if hit c s u = true then some k else idxU c s r (k + 1) := rfl
def idxI : Option Nat → Int
  | some k => (k : Int)
  | none => -1
theorem cUs_at (i : Nat) (hi : i < 3) : ∀ (us : List S24) (k : Nat) (u : S24), us[k]? = some u → (cUs us)[k * 3 + i]? = (cU u)[i]?
  | [], k, u, h => by simp at h
  | x :: us, 0, u, h => by
    simp at h
    subst h
    simp only [cUs, List.flatMap_cons, Nat.zero_mul, Nat.zero_add]
    rw [List.getElem?_append_left (by simpa [cU] using hi)]
  | x :: us, k + 1, u, h => by
    have := cUs_at i hi us k u (by simpa using h)
    simp only [cUs, List.flatMap_cons] at this ⊢
    rw [List.getElem?_append_right (by simp [cU]; omega)]
    have e : (k + 1) * 3 + i - (cU x).length = k * 3 + i := by simp [cU]; omega
    rw [e, this]
set_option maxRecDepth 100000 in
set_option maxHeartbeats 4000000 in
theorem place1_is (c : Int) (s : ByteArray) (x : S24) (B : Nat) (W : World) (hB : W.heap[B]? = some (.cells #[.int .i64 c, .string s] 71 (0, 0))) :
    Calls Try.prog 59 #[.agg #[.int .i64 x.f0, .string x.f1, .int .i64 x.f2], .pointer (some ⟨B, 0, none⟩)] W fun e w' => e = .returned (.bool (hit c s x)) ∧ Below W.heap.size W w' := by
  have HA := Aside0.mk (blk_alloc hB (.cells #[.int .i64 x.f0, .string x.f1, .int .i64 x.f2] 24 (0, 0)))
  have b0 := (blk_cell HA.out 0).trans rfl
  have b1 := (blk_cell HA.out 1).trans rfl
  go_enter Try.func59, Try.ntmps59
  go_wp2
  go_ret
  exact ⟨rfl, (Below.refl _ _).alloc (Nat.le_refl _) _⟩
set_option maxRecDepth 100000 in
set_option maxHeartbeats 4000000 in
theorem index_u (c : Int) (s : ByteArray) (us : List S24) (fv : Value) (B : Nat) (w : World) (hB : w.heap[B]? = some (.cells #[.int .i64 c, .string s] 71 (0, 0))) (hr : w.ownsRow 0 24 3 fv us.length (cUs us)) (hl : us.length ≤ 1000000) :
    Calls Try.prog 58 #[fv, .func (.func 59) #[] #[.pointer (some ⟨B, 0, none⟩)]] w fun e w' => e = .returned (.int .i64 (idxI (idxU c s us 0))) ∧ Below w.heap.size w w' := by
  have hv : ∃ p cap, fv = .slice p us.length cap := by
    rcases hr.2 with ⟨rfl, h0⟩ | ⟨g, cap, cur, rfl, _⟩
    · exact ⟨none, 0, by rw [h0]⟩
    · exact ⟨_, _, rfl⟩
  obtain ⟨p, cap, rfl⟩ := hv
  have HR := Aside0.mk hr
  have HB := Aside0.mk hB
  clear hr hB
  go_enter Try.func58, Try.ntmps58
  go_wp2_with fail
  go_loopw [5, 8] (fun _ v wr => ∃ k : Nat, k ≤ us.length ∧ v = .int .i64 (k : Int) ∧ Aside0 (idxU c s (us.drop k) k = idxU c s us 0) ∧ Aside0 (Below w.heap.size w wr)) (fun _ v _ => us.length - (intOf v).toNat)
  case atStart => exact ⟨0, Nat.zero_le _, rfl, ⟨rfl⟩, ⟨Below.refl _ _⟩⟩
  case round =>
    obtain ⟨k, hk, rfl, HA, HW⟩ := hrel
    by_cases hlt : k < us.length
    · have hlt' : (k : Int) < (us.length : Int) := by omega
      have h0 : (0 : Int) ≤ (k : Int) := by omega
      have hform : ∃ g, p = some ⟨g, 0, none⟩ := by
        obtain ⟨g, cap', hv, _⟩ := HR.out.form (by omega)
        cases hv
        exact ⟨g, rfl⟩
      obtain ⟨g, rfl⟩ := hform
      have hu : us[k]? = some us[k] := List.getElem?_eq_getElem hlt
      have HD := List.drop_eq_getElem_cons hlt
      generalize us[k] = u at hu HD
      have x0 := HW.out.cell (World.block_lt_of_cell? w _ (ownsRow_cell HR.out ((cUs_at 0 (by omega) us k u hu).trans rfl))) |>.trans (ownsRow_cell HR.out ((cUs_at 0 (by omega) us k u hu).trans rfl))
      have x1 := HW.out.cell (World.block_lt_of_cell? w _ (ownsRow_cell HR.out ((cUs_at 1 (by omega) us k u hu).trans rfl))) |>.trans (ownsRow_cell HR.out ((cUs_at 1 (by omega) us k u hu).trans rfl))
      have x2 := HW.out.cell (World.block_lt_of_cell? w _ (ownsRow_cell HR.out ((cUs_at 2 (by omega) us k u hu).trans rfl))) |>.trans (ownsRow_cell HR.out ((cUs_at 2 (by omega) us k u hu).trans rfl))
      rw [Nat.add_zero] at x0
      have HC := Aside0.mk (place1_is c s u B wr (blk_below HB.out HW.out))
      have HA := HA.out
      rw [HD] at HA
      rw [idxU_cons] at HA
      clear hu HD
      cases hq : hit c s u with
      | true =>
        rw [hq] at HC
        rw [if_pos hq] at HA
        replace HA := Aside0.mk HA
        clear hq
        go_wp2_with fail
        refine HC.out.mono ?_
        rintro e w' ⟨rfl, hb'⟩
        go_wp2_with fail
        go_ret
        rw [← HA.out]
        exact ⟨rfl, HW.out.trans (hb'.mono HW.out.size)⟩
      | false =>
        rw [hq] at HC
        rw [if_neg (by simp [hq])] at HA
        replace HA := Aside0.mk HA
        clear hq
        go_wp2_with fail
        refine HC.out.mono ?_
        rintro e w' ⟨rfl, hb'⟩
        go_wp2_with fail
        go_roundw
        case rel => exact ⟨k + 1, hlt, by rfl, HA, Aside0.mk (HW.out.trans (hb'.mono HW.out.size))⟩
        case measure => simp [intOf]; omega
    · obtain rfl : k = us.length := by omega
      have hn : idxU c s us 0 = none := by rw [← HA.out]; simp [idxU]
      replace hn := Aside0.mk hn
      go_wp2_with fail
      go_ret
      rw [hn.out]
      exact ⟨rfl, HW.out⟩
set_option maxRecDepth 100000 in
set_option maxHeartbeats 4000000 in
theorem place_is (c : Int) (s : ByteArray) (us : List S24) (fv : Value) (w : World) (hr : w.ownsRow 0 24 3 fv us.length (cUs us)) (hl : us.length ≤ 1000000) :
    Calls Try.prog 38 #[.agg #[fv], .agg #[.int .i64 c, .string s]] w fun e w' => e = .returned (.int .i64 (idxI (idxU c s us 0))) ∧ Below w.heap.size w w' := by
  have h1 := Aside0.mk ((Below.refl w.heap.size w).alloc (Nat.le_refl _) (.cells #[fv] 69 (0, 0)))
  have h2 := Aside0.mk (h1.out.alloc h1.out.size (.cells #[.int .i64 c, .string s] 71 (0, 0)))
  have HB := Aside0.mk (blk_new (w.alloc (.cells #[fv] 69 (0, 0))) (.cells #[.int .i64 c, .string s] 71 (0, 0)))
  rw [World.size_alloc] at HB
  have HF := Aside0.mk (blk_alloc (blk_new w (.cells #[fv] 69 (0, 0))) (.cells #[.int .i64 c, .string s] 71 (0, 0)))
  have f0 := (blk_cell HF.out 0).trans rfl
  have HC := Aside0.mk (index_u c s us fv (w.heap.size + 1) _ HB.out (ownsRow_kept hr (fun k hk => h2.out.block k (hr.lt k hk).2)) hl)
  have hmf : ∀ (fn : Fn) (first cap : Array Value) (w : World), (Instr.makeFunc fn first cap).run Try.prog w = .ok (.func fn first cap) w := fun _ _ _ _ => rfl
  clear hr
  go_enter Try.func38, Try.ntmps38
  go_wp2_with fail
  refine HC.out.mono ?_
  rintro e w' ⟨rfl, hb⟩
  go_wp2_with fail
  go_ret
  exact ⟨rfl, h2.out.trans (hb.mono h2.out.size)⟩
end Go.Proofs.Ytfahpihbbkkngaa.P

-- from the text Hk
namespace Go.Proofs.Ytfahpihbbkkngaa.P
open Go.RowKit Go.Proofs.YtfahpihbbkkngaaW.PrintWords Go.Proofs.YtfahpihbbkkngaaW.PrintLast Go.Proofs.YtfahpihbbkkngaaW.PrintMore
set_option linter.unusedVariables false
set_option linter.unusedSimpArgs false
theorem zero24 (m : Nat) : ∀ u ∈ (Builtin.zeroCells (Value.agg #[(.int .i64 0), (.string ⟨#[]⟩), (.int .i64 0)]).cells m).toList, u.oneCell' = true := by
  intro u hu
  simp only [Builtin.zeroCells, Array.mem_toList_iff, Array.mem_map] at hu
  obtain ⟨i, _, rfl⟩ := hu
  have h3 : i % (Value.agg #[(.int .i64 0), (.string ⟨#[]⟩), (.int .i64 0)]).cells.size < 3 := Nat.mod_lt _ (by decide)
  generalize i % (Value.agg #[(.int .i64 0), (.string ⟨#[]⟩), (.int .i64 0)]).cells.size = q at h3 ⊢
  match q, h3 with
  | 0, _ => rfl
  | 1, _ => rfl
  | 2, _ => rfl
set_option maxRecDepth 100000 in
set_option maxHeartbeats 4000000 in
theorem grow_is (n : Nat) (hn : n ≤ 1000000) (w : World) : Calls Try.prog 67 #[.slice none 0 0, .int .i64 (n : Int)] w fun e w' => ∃ v, e = .returned v ∧ w'.ownsRow w.heap.size 24 3 v 0 [] ∧ Below w.heap.size w w' := by
  by_cases h0 : n = 0
  · subst h0
    go_enter Try.func67, Try.ntmps67
    go_wp2_with fail
    go_ret
    exact ⟨_, rfl, World.ownsRow_nil _ _ _ _, Below.refl _ _⟩
  · have hp : (0 : Int) < (n : Int) := by omega
    have hnn : ¬ ((n : Int) < 0) := by omega
    have hw : wrap64 (n : Int) = (n : Int) := by unfold wrap64; omega
    obtain ⟨i0, hi, hz0, hz1, hz2⟩ := info_parts info24
    obtain ⟨v', w1, hr, hown, hgrow, _⟩ := run_append_zeros (P := Try.prog) w w.heap.size 64 3 64 24 i0 _ 3 32 Try.underlying64 Try.underlying3 hi hz0 hz1 hz2 rfl (by decide) (by decide) (.slice none 0 0) 0 [] (World.ownsRow_nil _ _ _ _) .i64 n (zero24 n) (by omega) (Nat.le_refl _)
    rcases hown.2 with ⟨_, hbad⟩ | ⟨g, cap, cur, rfl, hb, hg, hc1, hc2, hsz, ht⟩
    · omega
    have HG := Aside0.mk (show w1.ownsRow w.heap.size 24 3 (.slice (some ⟨g, 0, none⟩) 0 cap) 0 [] from ⟨rfl, .inr ⟨g, cap, cur, rfl, hb, hg, Nat.zero_le _, hc2, hsz, by simp⟩⟩)
    have HB := Aside0.mk ((Below.refl w.heap.size w).grown hgrow (Nat.le_refl _) (fun k hk => by cases hk))
    have HR := Aside0.mk hr
    rw [Nat.zero_add] at HR hc1
    have hcap : (0 : Int) ≤ (cap : Int) := by omega
    clear hr hown hgrow hz0 hz1 hz2 hi ht hsz hg hc2
    go_enter Try.func67, Try.ntmps67
    go_wp2_with ((with_reducible refine gate_dst (N := 22) rfl ?_); refine Lib.wpList_append_run _ rfl _ _ 64 3 rfl _ _ rfl rfl _ _ HR.out ?_)
    go_ret
    exact ⟨_, rfl, HG.out, HB.out⟩
theorem oneCell_cUs (l : List S24) : ∀ u ∈ cUs l, u.oneCell' = true := by
  intro u hu
  simp only [cUs, List.mem_flatMap] at hu
  obtain ⟨x, _, hu⟩ := hu
  simp only [cU, List.mem_cons, List.not_mem_nil, or_false] at hu
  rcases hu with rfl | rfl | rfl <;> rfl
section
variable {ops : Array Oper} {rest : List Oper} {o : Oper} {a : Act} {Q : Exit → Act → World → Prop} {W : World}
theorem wl_appendU {s x : Operand} {v : Value} {base n : Nat} {xs : List Value} (m c : Nat) (ad : Addr) (us : List S24) (hgd : o.guard = none) (ho : o.op = .call { callee := .builtin .append, args := #[s, x], argTypes := #[64, 64] })
    (hs : a.eval s = v) (hrow : W.ownsRow base 24 3 v n xs) (hx : a.eval x = .slice (some ad) m c) (hl : us.length = m) (hnews : ∀ j u, (cUs us)[j]? = some u → W.cell? (ad.add j) = some u) (hn : n + m ≤ 1000000) (hb : base ≤ W.heap.size)
    (h : ∀ v' w', w'.ownsRow base 24 3 v' (n + m) (xs ++ cUs us) → W.grownBy w' v.ownBlock → wpList Try.prog ops Q rest (a.put o.dst v') w') : wpList Try.prog ops Q (o :: rest) a W := by
  obtain ⟨i0, hi, hz0, hz1, hz2⟩ := info_parts info24
  exact wpList_append_own W hgd s x 64 ho base 24 i0 _ 3 32 Try.underlying64 hi hz0 hz1 hz2 rfl (by decide) v n xs hs hrow ad m c (cUs us) hx (by rw [len_cUs, hl]) hnews (oneCell_cUs us) (by simp only [maxLen]; omega) (by omega) hb (fun v' w' h1 h2 _ => h v' w' h1 h2)
end
set_option maxRecDepth 100000 in
set_option maxHeartbeats 4000000 in
theorem concat_is (sl : Nat) (a1 a2 : Addr) (c1 c2 : Nat) (x1 x2 : List S24) (w : World) (hsl : w.heap[sl]? = some (.cells #[.slice (some a1) x1.length c1, .slice (some a2) x2.length c2] 64 (0, 0)))
    (h1 : ∀ j u, (cUs x1)[j]? = some u → w.cell? (a1.add j) = some u) (h2 : ∀ j u, (cUs x2)[j]? = some u → w.cell? (a2.add j) = some u) (hn : x1.length + x2.length ≤ 1000000) :
    Calls Try.prog 53 #[.slice (some ⟨sl, 0, none⟩) 2 2] w fun e w' => ∃ v, e = .returned v ∧ w'.ownsRow w.heap.size 24 3 v (x1.length + x2.length) (cUs (x1 ++ x2)) ∧ Below w.heap.size w w' := by
  have HS := Aside0.mk hsl
  have H1 := Aside0.mk h1
  have H2 := Aside0.mk h2
  have HGR := Aside0.mk (grow_is (x1.length + x2.length) hn)
  clear hsl h1 h2
  go_enter Try.func53, Try.ntmps53
  go_wp2_with fail
  go_loopw [3, 11] (fun t p wr => ∃ k n : Nat, p = .int .i64 (k : Int) ∧ t = .int .i64 (n : Int) ∧ Aside0 ((k = 0 ∧ n = 0) ∨ (k = 1 ∧ n = x1.length) ∨ (k = 2 ∧ n = x1.length + x2.length)) ∧ Aside0 (Below w.heap.size w wr)) (fun _ p _ => 2 - (intOf p).toNat)
  case atStart => exact ⟨0, 0, rfl, rfl, ⟨.inl ⟨rfl, rfl⟩⟩, ⟨Below.refl _ _⟩⟩
  case round =>
    obtain ⟨k, n, rfl, rfl, HK, HB⟩ := hrel
    rcases HK.out with ⟨rfl, rfl⟩ | ⟨rfl, rfl⟩ | ⟨rfl, rfl⟩
    · have HSL := Aside0.mk (blk_below HS.out HB.out)
      have s0 := (blk_cell HSL.out 0).trans rfl
      have hnn : ¬ ((x1.length : Int) < 0) := by omega
      go_wp2_with fail
      go_roundw
      case rel => exact ⟨1, x1.length, rfl, by simp, ⟨.inr (.inl ⟨rfl, rfl⟩)⟩, HB⟩
      case measure => simp [intOf]
    · have HSL := Aside0.mk (blk_below HS.out HB.out)
      have s1 := (blk_cell HSL.out 1).trans rfl
      have hnn : ¬ ((x1.length : Int) + (x2.length : Int) < 0) := by omega
      go_wp2_with fail
      go_roundw
      case rel => exact ⟨2, x1.length + x2.length, rfl, by simp, ⟨.inr (.inr ⟨rfl, rfl⟩)⟩, HB⟩
      case measure => simp [intOf]
    · have HG := Aside0.mk (HGR.out wr)
      go_wp2_with fail
      refine HG.out.mono ?_
      rintro e w1 ⟨v, rfl, hv, hb⟩
      have HV := Aside0.mk (ownsRow_base hv HB.out.size)
      have HB1 := Aside0.mk (HB.out.trans (hb.mono HB.out.size))
      clear hv hb
      go_wp2_with fail
      clear HGR HG
      go_loopw [6, 27] (fun v p wr => ∃ (k : Nat) (n : Nat) (xs : List S24), p = .int .i64 (k : Int) ∧ Aside0 ((k = 0 ∧ n = 0 ∧ xs = []) ∨ (k = 1 ∧ n = x1.length ∧ xs = x1) ∨ (k = 2 ∧ n = x1.length + x2.length ∧ xs = x1 ++ x2)) ∧ Aside0 (wr.ownsRow w.heap.size 24 3 v n (cUs xs)) ∧ Aside0 (Below w.heap.size w wr)) (fun _ p _ => 2 - (intOf p).toNat)
      case atStart => exact ⟨0, 0, [], rfl, ⟨.inl ⟨rfl, rfl, rfl⟩⟩, HV, HB1⟩
      case round =>
        clear HV HB1 HB
        obtain ⟨k, n, xs, rfl, HK, HV, HB⟩ := hrel
        rcases HK.out with ⟨rfl, rfl, rfl⟩ | ⟨rfl, rfl, rfl⟩ | ⟨rfl, rfl, rfl⟩
        · have HSL := Aside0.mk (blk_below HS.out HB.out)
          have s0 := (blk_cell HSL.out 0).trans rfl
          have HX := Aside0.mk (fun j u (hj : (cUs x1)[j]? = some u) => pw_cell_below HB.out (H1.out j u hj))
          go_wp2_with ((with_reducible refine gate_dst (N := 33) rfl ?_); refine wl_appendU _ _ _ x1 rfl rfl rfl HV.out rfl rfl HX.out (by omega) HB.out.size ?_; intro v' w' hv' hgr; have HV' := Aside0.mk hv'; have HB' := Aside0.mk (HB.out.grown hgr HB.out.size (fun k hk => (HV.out.lt k hk).1)); clear hv' hgr)
          go_roundw
          case rel => exact ⟨1, x1.length, x1, rfl, ⟨.inr (.inl ⟨rfl, rfl, rfl⟩)⟩, ⟨by simpa [cUs] using HV'.out⟩, HB'⟩
          case measure => simp [intOf]
        · have HSL := Aside0.mk (blk_below HS.out HB.out)
          have s1 := (blk_cell HSL.out 1).trans rfl
          have HX := Aside0.mk (fun j u (hj : (cUs x2)[j]? = some u) => pw_cell_below HB.out (H2.out j u hj))
          go_wp2_with ((with_reducible refine gate_dst (N := 33) rfl ?_); refine wl_appendU _ _ _ x2 rfl rfl rfl HV.out rfl rfl HX.out (by omega) HB.out.size ?_; intro v' w' hv' hgr; have HV' := Aside0.mk hv'; have HB' := Aside0.mk (HB.out.grown hgr HB.out.size (fun k hk => (HV.out.lt k hk).1)); clear hv' hgr)
          go_roundw
          case rel => exact ⟨2, _, _, rfl, ⟨.inr (.inr ⟨rfl, rfl, rfl⟩)⟩, ⟨by simpa [cUs] using HV'.out⟩, HB'⟩
          case measure => simp [intOf]
        · go_wp2_with fail
          go_ret
          exact ⟨_, rfl, HV.out, HB.out⟩
end Go.Proofs.Ytfahpihbbkkngaa.P

-- from the text Hl
namespace Go.Proofs.Ytfahpihbbkkngaa.P
open Go.RowKit Go.Proofs.YtfahpihbbkkngaaW.PrintWords Go.Proofs.YtfahpihbbkkngaaW.PrintLast Go.Proofs.YtfahpihbbkkngaaW.PrintMore
set_option linter.unusedVariables false
set_option linter.unusedSimpArgs false
/-- The units without the first one for a condition and name. -/
def revU (c : Int) (s : ByteArray) (us : List S24) : List S24 :=
  match idxU c s us 0 with
  | some k => us.take k ++ us.drop (k + 1)
  | none => us
theorem idxU_lt (c : Int) (s : ByteArray) : ∀ (us : List S24) (i k : Nat), idxU c s us i = some k → i ≤ k ∧ k < i + us.length
  | [], i, k, h => by simp [idxU] at h
  | u :: r, i, k, h => by
    rw [idxU_cons] at h
    split at h
    · cases h
      simp
    · have := idxU_lt c s r (i + 1) k h
      simp
      omega
theorem ownsRow_frozen {w : World} {base : Nat} {e : TypeId} {size : Nat} {g : Nat} {n cap : Nat} {xs : List Value} (h : w.ownsRow base e size (.slice (some ⟨g, 0, none⟩) n cap) n xs) (j : Nat) : w.frozen? ⟨g, j, none⟩ = false := by
  rcases h.2 with ⟨h0, _⟩ | ⟨g', cap', cur, hv, _, hg, _⟩
  · cases h0
  · cases hv
    exact blk_frozen hg j
/-- The newest frame. -/
theorem St.top {w : World} {s : Nat} {L0 : List Fr} {f : Fr} {F : Nat → Prop} (h : St w s (L0 ++ [f]) F) : ∃ fv D0 v, Stk w s fv (D0 ++ [(v, f)]) ∧ D0.map Prod.snd = L0 ∧ (∀ k, foot s fv (D0 ++ [(v, f)]) k → F k) ∧
    (∃ g cap, fv = .slice (some ⟨g, 0, none⟩) (L0.length + 1) cap ∧ w.cell? ⟨g, L0.length * 4, none⟩ = some v ∧ w.frozen? ⟨g, L0.length * 4, none⟩ = false) ∧ w.cell? ⟨s, 0, none⟩ = some fv := by
  obtain ⟨fv, D, h1, h2, h3⟩ := h
  obtain ⟨D0, D1, rfl, h4, h5⟩ := List.map_eq_append_iff.1 h2
  obtain ⟨⟨v, f'⟩, D2, rfl, h6, h7⟩ := List.map_eq_cons_iff.1 h5
  obtain rfl : D2 = [] := List.map_eq_nil_iff.1 h7
  obtain rfl : f' = f := h6
  have hlen : (D0 ++ [(v, f')]).length = L0.length + 1 := by rw [← h4]; simp
  refine ⟨fv, D0, v, h1, h4, h3, ?_, (blk_cell h1.head 0).trans rfl⟩
  have hr := h1.row
  rw [hlen] at hr
  obtain ⟨g, cap, rfl, _, _⟩ := hr.form (by omega)
  refine ⟨g, cap, rfl, ownsRow_cell hr ?_, ownsRow_frozen hr _⟩
  have e : (cFs D0).length = L0.length * 4 := by rw [len_cFs, ← h4]; simp
  have e2 : cFs (D0 ++ [(v, f')]) = cFs D0 ++ cF (v, f') := by simp [cFs]
  rw [e2, List.getElem?_append_right (by omega), e, Nat.sub_self]
  rfl
theorem concat_n (sl : Nat) (a1 a2 : Addr) (n1 n2 c1 c2 : Nat) (x1 x2 us' : List S24) (w : World) (hus : x1 ++ x2 = us') (e1 : x1.length = n1) (e2 : x2.length = n2) (hsl : w.heap[sl]? = some (.cells #[.slice (some a1) n1 c1, .slice (some a2) n2 c2] 64 (0, 0)))
    (h1 : ∀ j u, (cUs x1)[j]? = some u → w.cell? (a1.add j) = some u) (h2 : ∀ j u, (cUs x2)[j]? = some u → w.cell? (a2.add j) = some u) (hn : n1 + n2 ≤ 1000000) :
    Calls Try.prog 53 #[.slice (some ⟨sl, 0, none⟩) 2 2] w fun e w' => ∃ v, e = .returned v ∧ w'.ownsRow w.heap.size 24 3 v us'.length (cUs us') ∧ Below w.heap.size w w' := by
  subst e1
  subst e2
  subst hus
  rw [List.length_append]
  exact concat_is sl a1 a2 c1 c2 x1 x2 w hsl h1 h2 hn
theorem cUs_take : ∀ (us : List S24) (k : Nat), cUs (us.take k) = (cUs us).take (k * 3)
  | [], k => by simp [cUs]
  | x :: us, 0 => by simp [cUs]
  | x :: us, k + 1 => by
    have := cUs_take us k
    have e : (k + 1) * 3 = k * 3 + 3 := by omega
    simp only [cUs, List.take_succ_cons, List.flatMap_cons] at this ⊢
    rw [this, e]
    rfl
theorem cUs_drop : ∀ (us : List S24) (k : Nat), cUs (us.drop k) = (cUs us).drop (k * 3)
  | [], k => by simp [cUs]
  | x :: us, 0 => by simp [cUs]
  | x :: us, k + 1 => by
    have := cUs_drop us k
    have e : (k + 1) * 3 = k * 3 + 3 := by omega
    simp only [cUs, List.drop_succ_cons, List.flatMap_cons] at this ⊢
    rw [this, e]
    rfl
/-- Another unit row in the newest frame. -/
theorem St.retop {w W : World} {s g cap : Nat} {D0 : List (Value × Fr)} {v v' : Value} {f : Fr} {us' : List S24} {L0 : List Fr} {F : Nat → Prop} (h : Stk w s (.slice (some ⟨g, 0, none⟩) (L0.length + 1) cap) (D0 ++ [(v, f)])) (h2 : D0.map Prod.snd = L0) (h3 : ∀ k, foot s (.slice (some ⟨g, 0, none⟩) (L0.length + 1) cap) (D0 ++ [(v, f)]) k → F k)
    (ht : Turn F w W) (hk : ∀ k, k < w.heap.size → v.ownBlock ≠ some k → W.heap[k]? = w.heap[k]?) (hv : W.ownsRow 0 24 3 v' us'.length (cUs us')) (hat : ∀ k, v'.ownBlock = some k → v.ownBlock = some k ∨ w.heap.size ≤ k) :
    St (W.setCell ⟨g, L0.length * 4, none⟩ v') s (L0 ++ [{ f with us := us' }]) (More F w.heap.size (W.setCell ⟨g, L0.length * 4, none⟩ v').heap.size) ∧ Turn F w (W.setCell ⟨g, L0.length * 4, none⟩ v') := by
  have hgF : F g := h3 g (.inr (.inl rfl))
  have hx : (v, f) ∈ D0 ++ [(v, f)] := by simp
  have hvg : v.ownBlock ≠ some g := h.unit_row hx rfl
  have hs : s < w.heap.size := blk_lt' h.head
  have hsv : v.ownBlock ≠ some s := h.unit_ne hx
  have hgs : g ≠ s := fun e => h.row_ne (congrArg some e)
  have hg : g < w.heap.size := (h.row.lt g rfl).2
  have hv'g : v'.ownBlock ≠ some g := fun e => (hat g e).elim hvg (fun e => by omega)
  have hv's : v'.ownBlock ≠ some s := fun e => (hat s e).elim hsv (fun e => by omega)
  have hlen : (D0 ++ [(v, f)]).length = L0.length + 1 := by rw [← h2]; simp
  have hD0 : D0.length = L0.length := by rw [← h2]; simp
  refine ⟨⟨.slice (some ⟨g, 0, none⟩) (L0.length + 1) cap, D0 ++ [(v', { f with us := us' })], ⟨?_, ?_, ?_, ?_⟩, by simp [h2], ?_⟩, ht.set hgF _⟩
  · rw [Below.heap_setCell _ _ _ _ (fun e => hgs e.symm), hk s hs hsv]
    exact h.head
  · have hr := h.row
    rw [hlen] at hr
    have e1 : (D0 ++ [(v', { f with us := us' })]).length = L0.length + 1 := by simp [hD0]
    rw [e1]
    rcases hr.2 with ⟨hbad, _⟩ | ⟨g', cap', cur, he, hb, hgc, hc1, hc2, hcs, hct⟩
    · cases hbad
    · cases he
      have hcur : W.heap[g]? = some (.cells cur 73 (0, 0)) := (hk g hg hvg).trans hgc
      refine ⟨by rw [len_cFs, e1], .inr ⟨g, cap, cur.setIfInBounds (L0.length * 4) v', rfl, hb, blk_put hcur _ _ rfl, hc1, hc2, by simp [hcs], ?_⟩⟩
      have e2 : cFs (D0 ++ [(v, f)]) = cFs D0 ++ (v :: [.int .i64 f.rc, .string f.rn, .int .i64 f.bl]) := by simp [cFs, cF]
      have e3 : cFs (D0 ++ [(v', { f with us := us' })]) = cFs D0 ++ (v' :: [.int .i64 f.rc, .string f.rn, .int .i64 f.bl]) := by simp [cFs, cF]
      have e4 : (cFs D0).length = L0.length * 4 := by rw [len_cFs, hD0]
      rw [Array.toList_setIfInBounds, List.take_set, hct, e2, e3, ← e4, List.set_append_right _ _ (Nat.le_refl _), Nat.sub_self, List.set_cons_zero]
  · intro x hx
    rcases List.mem_append.1 hx with hx | hx
    · have hx2 : x ∈ D0 ++ [(v, f)] := List.mem_append_left _ hx
      refine ownsRow_kept (h.units x hx2) (fun k hk' => ?_)
      have hkg : k ≠ g := fun e => h.unit_row hx2 (show (Value.slice (some ⟨g, 0, none⟩) (L0.length + 1) cap).ownBlock = some g from rfl) (hk'.trans (congrArg some e))
      rw [Below.heap_setCell _ _ _ _ hkg]
      exact hk k ((h.units x hx2).lt k hk').2 ((List.pairwise_append.1 h.apart).2.2 x hx (v, f) (by simp) k hk')
    · simp only [List.mem_singleton] at hx
      subst hx
      exact ownsRow_kept hv (fun k hk' => Below.heap_setCell _ _ _ _ (fun e => hv'g (hk'.trans (congrArg some e))))
  · obtain ⟨p1, p2, p3⟩ := List.pairwise_append.1 h.apart
    refine List.pairwise_append.2 ⟨p1, by simp, fun x hx y hy b hb hyb => ?_⟩
    simp only [List.mem_singleton] at hy
    subst hy
    rcases hat b hyb with e | e
    · exact p3 x hx (v, f) (by simp) b hb e
    · have := ((h.units x (List.mem_append_left _ hx)).lt b hb).2
      omega
  · rw [World.size_setCell]
    rintro k (rfl | hk' | ⟨x, hx, hk'⟩)
    · exact .inl (h3 _ (.inl rfl))
    · exact .inl (h3 _ (.inr (.inl hk')))
    · rcases List.mem_append.1 hx with hx | hx
      · exact .inl (h3 _ (.inr (.inr ⟨x, List.mem_append_left _ hx, hk'⟩)))
      · simp only [List.mem_singleton] at hx
        subst hx
        rcases hat k hk' with e | e
        · exact .inl (h3 _ (.inr (.inr ⟨(v, f), by simp, e⟩)))
        · exact .inr ⟨e, (hv.lt k hk').2⟩
theorem ownsRow_slice {w : World} {base : Nat} {e : TypeId} {size : Nat} {v : Value} {n : Nat} {xs : List Value} (h : w.ownsRow base e size v n xs) : ∃ p c, v = .slice p n c := by
  rcases h.2 with ⟨rfl, rfl⟩ | ⟨g, cap, cur, rfl, _⟩
  · exact ⟨none, 0, rfl⟩
  · exact ⟨_, _, rfl⟩
set_option maxRecDepth 100000 in
set_option maxHeartbeats 8000000 in
theorem revert_is (s : Nat) (c : Int) (n : ByteArray) (L0 : List Fr) (f : Fr) (F : Nat → Prop) (w : World) (hr : rightB c n = true) (h : St w s (L0 ++ [f]) F) (hl : f.us.length ≤ 1000) (hL : L0.length ≤ 1000) :
    Calls Try.prog 32 #[.pointer (some ⟨s, 0, none⟩), .int .i64 c, .string n] w fun e w' => e = .returned (.int .i64 0) ∧ St w' s (L0 ++ [{ f with us := revU c n f.us }]) (More F w.heap.size w'.heap.size) ∧ Turn F w w' := by
  have HR := Aside0.mk (fun W => right_is c n W)
  rw [hr] at HR
  clear hr
  obtain ⟨fv, D0, v, h1, h2, h3, ⟨g, cap, rfl, hcv, hfv⟩, hc0⟩ := h.top
  have HST := Aside0.mk h1
  have H2 := Aside0.mk h2
  have H3 := Aside0.mk h3
  have hU := h1.units (v, f) (by simp)
  have HU := Aside0.mk hU
  have hpos : (0 : Int) ≤ (L0.length : Int) := by omega
  have hlt : (L0.length : Int) < (L0.length : Int) + 1 := by omega
  have HW := Aside0.mk ((Below.refl w.heap.size w).alloc (Nat.le_refl _) (.cells #[.int .i64 c, .string n] 71 (0, 0)))
  have HN := Aside0.mk (blk_new w (.cells #[.int .i64 c, .string n] 71 (0, 0)))
  have hlt0 : w.heap.size < (w.alloc (.cells #[.int .i64 c, .string n] 71 (0, 0))).heap.size := by simp
  generalize hRV : revU c n f.us = us'
  have HRV := Aside0.mk hRV
  clear h1 h2 h3 hU hRV
  go_enter Try.func32, Try.ntmps32
  go_wp2_with fail
  refine (HR.out _).mono ?_
  rintro e w1 ⟨rfl, hb⟩
  have HB := Aside0.mk (HW.out.trans (hb.mono HW.out.size))
  have HN := Aside0.mk (blk_below HN.out hb)
  have HT0 := Aside0.mk hc0
  have HT1 := Aside0.mk hcv
  clear hb HW
  replace hc0 := pw_cell_below HB.out hc0
  replace hcv := pw_cell_below HB.out hcv
  go_wp2_with fail
  go_quiet (fail)
  go_wp2_with fail
  have HB := Aside0.mk (pw_below_drewN HB.out nq)
  have HN := Aside0.mk (blk_drewN HN.out nq)
  replace hcv : (w1.drewN nq).cell? ⟨g, L0.length * 4, none⟩ = some v := hcv
  clear hc0
  generalize w1.drewN nq = w2 at HB HN hcv ⊢
  refine start_ (n := 7) (S := fun W => W.cell? ⟨g, L0.length * 4, none⟩ = some v ∧ W.heap[w.heap.size]? = some (.cells #[.int .i64 c, .string n] 71 (0, 0)) ∧ Below w.heap.size w W) (ds := [6]) #[false, false, false, false, false, false, false] (by kernel_rfl) rfl rfl ⟨hcv, blk_drew HN.out, Below.drew HB.out⟩ (fun hHeld => ?_)
  generalize w2.drew = w3 at hHeld ⊢
  clear HN HB hcv
  refine pure_ (i := 0) (N := some 31) (v := ?_) (a' := ?_) #[true, false, false, false, false, false, false] rfl rfl (by kernel_rfl) (fun _ _ _ h => h) (Or.inl ⟨by rfl, ?_⟩) ?_ ?_
  rotate_left
  · intro w_
    go_simp
    with_reducible rfl
  rotate_left
  · simp only [Act.put, List.setIfInBounds_toArray, List.set_cons_zero, List.set_cons_succ, i64_w, i32_w]
    rfl
  refine pure_ (i := 1) (N := some 32) (v := ?_) (a' := ?_) #[true, true, false, false, false, false, false] rfl rfl (by kernel_rfl) (fun _ _ _ h => h) (Or.inl ⟨by rfl, ?_⟩) ?_ ?_
  rotate_left
  · intro w_
    go_simp
    with_reducible rfl
  rotate_left
  · simp only [Act.put, List.setIfInBounds_toArray, List.set_cons_zero, List.set_cons_succ, i64_w, i32_w]
    rfl
  refine pure_ (i := 2) (N := some 33) (v := ?_) (a' := ?_) #[true, true, true, false, false, false, false] rfl rfl (by kernel_rfl) (fun _ _ _ h => h) (Or.inl ⟨by rfl, ?_⟩) ?_ ?_
  rotate_left
  · intro w_
    go_simp
    with_reducible rfl
  rotate_left
  · simp only [Act.put, List.setIfInBounds_toArray, List.set_cons_zero, List.set_cons_succ, i64_w, i32_w]
    rfl
  refine take_ (i := 3) (N := some 34) (v := ?_) (a' := ?_) #[true, true, true, true, false, false, false] rfl rfl (by kernel_rfl) (fun _ _ _ h => h) (Or.inl ⟨by rfl, ?_⟩) hHeld ?_ ?_
  rotate_left
  · rintro w_ ⟨s0, _⟩
    go_simp
    with_reducible rfl
  rotate_left
  · simp only [Act.put, List.setIfInBounds_toArray, List.set_cons_zero, List.set_cons_succ, i64_w, i32_w]
    rfl
  refine take_ (i := 4) (N := some 35) (v := ?_) (a' := ?_) #[true, true, true, true, true, false, false] rfl rfl (by kernel_rfl) (fun _ _ _ h => h) (Or.inl ⟨by rfl, ?_⟩) hHeld ?_ ?_
  rotate_left
  · rintro w_ ⟨_, hs_, _⟩
    have s0 := (blk_cell hs_ 0).trans rfl
    have s1 := (blk_cell hs_ 1).trans rfl
    go_simp
    with_reducible rfl
  rotate_left
  · simp only [Act.put, List.setIfInBounds_toArray, List.set_cons_zero, List.set_cons_succ, i64_w, i32_w]
    rfl
  refine one_ (i := 5) (N := some 36) #[true, true, true, true, true, true, false] rfl rfl (by kernel_rfl) (by decide) (fun K' hK => ?_)
  refine goes_ Try.func38 (by kernel_rfl) rfl #[.agg #[v], .agg #[.int .i64 c, .string n]] (by rfl) rfl rfl (by (try simp only [List.map_toArray, List.map_cons, List.map_nil]); first | done | rfl) ?_
  refine (place_is c n f.us v w3 (ownsRow_kept HU.out (fun k hk => hHeld.2.2.block k (HU.out.lt k hk).2)) (by omega)).mono ?_
  rintro e w4 ⟨rfl, hb⟩
  refine ⟨_, rfl, ?_⟩
  refine hK.out _ _ ⟨pw_cell_below hb hHeld.1, blk_below hHeld.2.1 hb, hHeld.2.2.trans (hb.mono hHeld.2.2.size)⟩ (fun hHeld => ?_)
  clear hb hK K'
  refine norm_ (a' := ?_) ?_ ?_
  rotate_left
  · show Act.put _ (some 36) _ = _
    simp only [Act.put, List.setIfInBounds_toArray, List.set_cons_zero, List.set_cons_succ, i64_w, i32_w]
    rfl
  refine pure_ (i := 6) (N := some 9) (v := ?_) (a' := ?_) #[true, true, true, true, true, true, true] rfl rfl (by kernel_rfl) (fun _ _ _ h => h) (Or.inl ⟨by rfl, ?_⟩) ?_ ?_
  rotate_left
  · intro w_
    go_simp
    with_reducible rfl
  rotate_left
  · simp only [Act.put, List.setIfInBounds_toArray, List.set_cons_zero, List.set_cons_succ, i64_w, i32_w]
    rfl
  refine done_ (by kernel_rfl) ?_
  have HCV := Aside0.mk hHeld.1
  have HB := Aside0.mk hHeld.2.2
  clear hHeld
  generalize hq : idxU c n f.us 0 = q
  cases q with
  | none =>
    have hR : revU c n f.us = f.us := by simp [revU, hq]
    have HE := Aside0.mk (St.mono (h.below HB.out) (fun k hk => (.inl hk : More F w.heap.size w4.heap.size k)))
    have HT := Aside0.mk (Turn.of_below (F := F) HB.out)
    have HRE := Aside0.mk (hR.symm.trans HRV.out)
    clear hq hR
    unfold idxI
    go_wp2_with fail
    go_ret
    rw [← HRE.out]
    exact ⟨rfl, HE.out, HT.out⟩
  | some k =>
    have hk := idxU_lt c n f.us 0 k hq
    have hR : revU c n f.us = f.us.take k ++ f.us.drop (k + 1) := by simp [revU, hq]
    have HRE := Aside0.mk (hR.symm.trans HRV.out)
    clear hq hR
    unfold idxI
    dsimp only
    have hk0 : (0 : Int) ≤ (k : Int) := by omega
    obtain ⟨cur0, hcur0⟩ := own_type HST.out.row (show (Value.slice (some ⟨g, 0, none⟩) (L0.length + 1) cap).ownBlock = some g from rfl)
    have HG := Aside0.mk hcur0
    have HVG := HST.out.unit_row (x := (v, f)) (by simp) (show (Value.slice (some ⟨g, 0, none⟩) (L0.length + 1) cap).ownBlock = some g from rfl)
    obtain ⟨gu, cu, rfl, _, _⟩ := HU.out.form (by omega)
    have hcu : f.us.length ≤ cu := by
      rcases HU.out.2 with ⟨hbad, _⟩ | ⟨_, _, _, he, _, _, h1, _⟩
      · cases hbad
      · cases he
        exact h1
    have hk1 : (k : Int) ≤ (cu : Int) := by omega
    have hk2 : (k : Int) + 1 ≤ (f.us.length : Int) := by omega
    have hk3 : (0 : Int) ≤ (k : Int) + 1 := by omega
    have hk4 : (f.us.length : Int) ≤ (cu : Int) := by omega
    have hsum : IntKind.i64.wrap ((k : Int) + 1) = (k : Int) + 1 := by rw [IntKind.wrap_i64]; omega
    have hsum2 : wrap64 ((k : Int) + 1) = (k : Int) + 1 := by unfold wrap64; omega
    clear hcur0
    obtain ⟨ad2, had2, had⟩ : ∃ ad2 : Addr, (if cu = k + 1 then some (⟨gu, 0, none⟩ : Addr) else some (⟨gu, (k + 1) * 3, none⟩ : Addr)) = some ad2 ∧ ∀ j u, (cUs (f.us.drop (k + 1)))[j]? = some u → w.cell? (ad2.add j) = some u := by
      by_cases hce : cu = k + 1
      · refine ⟨_, if_pos hce, fun j u hj => ?_⟩
        rw [List.drop_eq_nil_of_le (by omega)] at hj
        simp [cUs] at hj
      · refine ⟨_, if_neg hce, fun j u hj => ?_⟩
        rw [cUs_drop, List.getElem?_drop] at hj
        rw [Addr.add_lit]
        exact ownsRow_cell HU.out hj
    have HAD := Aside0.mk had
    clear had
    go_wp2_with fail
    refine start_ (n := 22) (S := fun W => W.cell? ⟨g, L0.length * 4, none⟩ = some (.slice (some ⟨gu, 0, none⟩) f.us.length cu) ∧ Below w.heap.size w W) (ds := [21]) #[false, false, false, false, false, false, false, false, false, false, false, false, false, false, false, false, false, false, false, false, false, false] (by kernel_rfl) rfl rfl ⟨HCV.out, Below.drew HB.out⟩ (fun hHeld => ?_)
    generalize w4.drew = w5 at hHeld ⊢
    clear HCV HB
    have hW5 := hHeld.2
    refine pure_ (i := 0) (N := some 39) (v := ?_) (a' := ?_) #[true, false, false, false, false, false, false, false, false, false, false, false, false, false, false, false, false, false, false, false, false, false] rfl rfl (by kernel_rfl) (fun _ _ _ h => h) (Or.inl ⟨by rfl, ?_⟩) ?_ ?_
    rotate_left
    · intro w_
      go_simp
      with_reducible rfl
    rotate_left
    · simp only [Act.put, List.setIfInBounds_toArray, List.set_cons_zero, List.set_cons_succ, i64_w, i32_w]
      rfl
    refine pure_ (i := 1) (N := some 40) (v := ?_) (a' := ?_) #[true, true, false, false, false, false, false, false, false, false, false, false, false, false, false, false, false, false, false, false, false, false] rfl rfl (by kernel_rfl) (fun _ _ _ h => h) (Or.inl ⟨by rfl, ?_⟩) ?_ ?_
    rotate_left
    · intro w_
      go_simp
      with_reducible rfl
    rotate_left
    · simp only [Act.put, List.setIfInBounds_toArray, List.set_cons_zero, List.set_cons_succ, i64_w, i32_w]
      rfl
    refine pure_ (i := 2) (N := some 41) (v := ?_) (a' := ?_) #[true, true, true, false, false, false, false, false, false, false, false, false, false, false, false, false, false, false, false, false, false, false] rfl rfl (by kernel_rfl) (fun _ _ _ h => h) (Or.inl ⟨by rfl, ?_⟩) ?_ ?_
    rotate_left
    · intro w_
      go_simp
      with_reducible rfl
    rotate_left
    · simp only [Act.put, List.setIfInBounds_toArray, List.set_cons_zero, List.set_cons_succ, i64_w, i32_w]
      rfl
    refine pure_ (i := 3) (N := some 42) (v := ?_) (a' := ?_) #[true, true, true, true, false, false, false, false, false, false, false, false, false, false, false, false, false, false, false, false, false, false] rfl rfl (by kernel_rfl) (fun _ _ _ h => h) (Or.inl ⟨by rfl, ?_⟩) ?_ ?_
    rotate_left
    · intro w_
      go_simp
      with_reducible rfl
    rotate_left
    · simp only [Act.put, List.setIfInBounds_toArray, List.set_cons_zero, List.set_cons_succ, i64_w, i32_w]
      rfl
    refine pure_ (i := 4) (N := some 43) (v := ?_) (a' := ?_) #[true, true, true, true, true, false, false, false, false, false, false, false, false, false, false, false, false, false, false, false, false, false] rfl rfl (by kernel_rfl) (fun _ _ _ h => h) (Or.inl ⟨by rfl, ?_⟩) ?_ ?_
    rotate_left
    · intro w_
      go_simp
      with_reducible rfl
    rotate_left
    · simp only [Act.put, List.setIfInBounds_toArray, List.set_cons_zero, List.set_cons_succ, i64_w, i32_w]
      rfl
    refine take_ (i := 5) (N := some 44) (v := ?_) (a' := ?_) #[true, true, true, true, true, true, false, false, false, false, false, false, false, false, false, false, false, false, false, false, false, false] rfl rfl (by kernel_rfl) (fun _ _ _ h => h) (Or.inl ⟨by rfl, ?_⟩) hHeld ?_ ?_
    rotate_left
    · rintro w_ ⟨s0, _⟩
      go_simp
      with_reducible rfl
    rotate_left
    · simp only [Act.put, List.setIfInBounds_toArray, List.set_cons_zero, List.set_cons_succ, i64_w, i32_w]
      rfl
    refine pure_ (i := 6) (N := some 45) (v := ?_) (a' := ?_) #[true, true, true, true, true, true, true, false, false, false, false, false, false, false, false, false, false, false, false, false, false, false] rfl rfl (by kernel_rfl) (fun _ _ _ h => h) (Or.inl ⟨by rfl, ?_⟩) ?_ ?_
    rotate_left
    · intro w_
      go_simp
      with_reducible rfl
    rotate_left
    · simp only [Act.put, List.setIfInBounds_toArray, List.set_cons_zero, List.set_cons_succ, i64_w, i32_w]
      rfl
    refine pure_ (i := 7) (N := some 46) (v := ?_) (a' := ?_) #[true, true, true, true, true, true, true, true, false, false, false, false, false, false, false, false, false, false, false, false, false, false] rfl rfl (by kernel_rfl) (fun _ _ _ h => h) (Or.inl ⟨by rfl, ?_⟩) ?_ ?_
    rotate_left
    · intro w_
      go_simp
      with_reducible rfl
    rotate_left
    · simp only [Act.put, List.setIfInBounds_toArray, List.set_cons_zero, List.set_cons_succ, i64_w, i32_w]
      rfl
    refine pure_ (i := 8) (N := some 47) (v := ?_) (a' := ?_) #[true, true, true, true, true, true, true, true, true, false, false, false, false, false, false, false, false, false, false, false, false, false] rfl rfl (by kernel_rfl) (fun _ _ _ h => h) (Or.inl ⟨by rfl, ?_⟩) ?_ ?_
    rotate_left
    · intro w_
      go_simp
      with_reducible rfl
    rotate_left
    · simp only [Act.put, List.setIfInBounds_toArray, List.set_cons_zero, List.set_cons_succ, i64_w, i32_w]
      rfl
    refine pure_ (i := 9) (N := some 48) (v := ?_) (a' := ?_) #[true, true, true, true, true, true, true, true, true, true, false, false, false, false, false, false, false, false, false, false, false, false] rfl rfl (by kernel_rfl) (fun _ _ _ h => h) (Or.inl ⟨by rfl, ?_⟩) ?_ ?_
    rotate_left
    · intro w_
      go_simp
      with_reducible rfl
    rotate_left
    · simp only [Act.put, List.setIfInBounds_toArray, List.set_cons_zero, List.set_cons_succ, i64_w, i32_w]
      rfl
    refine pure_ (i := 10) (N := some 49) (v := ?_) (a' := ?_) #[true, true, true, true, true, true, true, true, true, true, true, false, false, false, false, false, false, false, false, false, false, false] rfl rfl (by kernel_rfl) (fun _ _ _ h => h) (Or.inl ⟨by rfl, ?_⟩) ?_ ?_
    rotate_left
    · intro w_
      go_simp
      with_reducible rfl
    rotate_left
    · simp only [Act.put, List.setIfInBounds_toArray, List.set_cons_zero, List.set_cons_succ, i64_w, i32_w]
      rfl
    refine pure_ (i := 11) (N := some 50) (v := ?_) (a' := ?_) #[true, true, true, true, true, true, true, true, true, true, true, true, false, false, false, false, false, false, false, false, false, false] rfl rfl (by kernel_rfl) (fun _ _ _ h => h) (Or.inl ⟨by rfl, ?_⟩) ?_ ?_
    rotate_left
    · intro w_
      go_simp
      with_reducible rfl
    rotate_left
    · simp only [Act.put, List.setIfInBounds_toArray, List.set_cons_zero, List.set_cons_succ, i64_w, i32_w]
      rfl
    refine take_ (i := 12) (N := some 51) (v := ?_) (a' := ?_) #[true, true, true, true, true, true, true, true, true, true, true, true, true, false, false, false, false, false, false, false, false, false] rfl rfl (by kernel_rfl) (fun _ _ _ h => h) (Or.inl ⟨by rfl, ?_⟩) hHeld ?_ ?_
    rotate_left
    · rintro w_ ⟨s0, _⟩
      go_simp
      with_reducible rfl
    rotate_left
    · simp only [Act.put, List.setIfInBounds_toArray, List.set_cons_zero, List.set_cons_succ, i64_w, i32_w]
      rfl
    refine pure_ (i := 13) (N := some 52) (v := ?_) (a' := ?_) #[true, true, true, true, true, true, true, true, true, true, true, true, true, true, false, false, false, false, false, false, false, false] rfl rfl (by kernel_rfl) (fun _ _ _ h => h) (Or.inl ⟨by rfl, ?_⟩) ?_ ?_
    rotate_left
    · intro w_
      go_simp
      with_reducible rfl
    rotate_left
    · simp only [Act.put, List.setIfInBounds_toArray, List.set_cons_zero, List.set_cons_succ, i64_w, i32_w]
      rfl
    refine pure_ (i := 14) (N := some 53) (v := ?_) (a' := ?_) #[true, true, true, true, true, true, true, true, true, true, true, true, true, true, true, false, false, false, false, false, false, false] rfl rfl (by kernel_rfl) (fun _ _ _ h => h) (Or.inl ⟨by rfl, ?_⟩) ?_ ?_
    rotate_left
    · intro w_
      go_simp
      with_reducible rfl
    rotate_left
    · simp only [Act.put, List.setIfInBounds_toArray, List.set_cons_zero, List.set_cons_succ, i64_w, i32_w]
      rfl
    refine pure_ (i := 15) (N := some 54) (v := ?_) (a' := ?_) #[true, true, true, true, true, true, true, true, true, true, true, true, true, true, true, true, false, false, false, false, false, false] rfl rfl (by kernel_rfl) (fun _ _ _ h => h) (Or.inl ⟨by rfl, ?_⟩) ?_ ?_
    rotate_left
    · intro w_
      go_simp
      with_reducible rfl
    rotate_left
    · simp only [Act.put, List.setIfInBounds_toArray, List.set_cons_zero, List.set_cons_succ, i64_w, i32_w]
      rfl
    refine one_ (i := 16) (N := some 55) #[true, true, true, true, true, true, true, true, true, true, true, true, true, true, true, true, true, false, false, false, false, false] rfl rfl (by kernel_rfl) (by decide) (fun K' hK => ?_)
    refine value_ (w1 := w5.alloc (.cells #[.slice (some ⟨gu, 0, none⟩) k cu, .slice (some ad2) (f.us.length - (k + 1)) (cu - (k + 1))] 64 (0, 0))) (v := .slice (some ⟨w5.heap.size, 0, none⟩) 2 2) (by rfl) rfl ?_ ?_
    · go_simp
    have HSL := Aside0.mk (blk_new w5 (.cells #[.slice (some ⟨gu, 0, none⟩) k cu, .slice (some ad2) (f.us.length - (k + 1)) (cu - (k + 1))] 64 (0, 0)))
    have hb5 := (Below.refl w5.heap.size w5).alloc (Nat.le_refl _) (.cells #[.slice (some ⟨gu, 0, none⟩) k cu, .slice (some ad2) (f.us.length - (k + 1)) (cu - (k + 1))] 64 (0, 0))
    refine hK.out _ _ ⟨pw_cell_below hb5 hHeld.1, hHeld.2.trans (hb5.mono hHeld.2.size)⟩ (fun hHeld => ?_)
    clear hK K'
    refine norm_ (a' := ?_) ?_ ?_
    rotate_left
    · show Act.put _ (some 55) _ = _
      simp only [Act.put, List.setIfInBounds_toArray, List.set_cons_zero, List.set_cons_succ, i64_w, i32_w]
      rfl
    refine one_ (i := 17) (N := some 56) #[true, true, true, true, true, true, true, true, true, true, true, true, true, true, true, true, true, true, false, false, false, false] rfl rfl (by kernel_rfl) (by decide) (fun K' hK => ?_)
    refine goes_ Try.func53 (by kernel_rfl) rfl #[.slice (some ⟨w5.heap.size, 0, none⟩) 2 2] (by rfl) rfl rfl (by (try simp only [List.map_toArray, List.map_cons, List.map_nil]); first | done | rfl) ?_
    refine (concat_n w5.heap.size ⟨gu, 0, none⟩ ad2 k (f.us.length - (k + 1)) cu (cu - (k + 1)) (f.us.take k) (f.us.drop (k + 1)) us' _ HRE.out (by simp; omega) (by simp) HSL.out ?_ ?_ (by omega)).mono ?_
    · intro j u hj
      rw [cUs_take, List.getElem?_take] at hj
      split at hj
      · rw [add_plain]
        exact pw_cell_below hb5 (pw_cell_below hW5 (ownsRow_cell HU.out hj))
      · cases hj
    · intro j u hj
      exact pw_cell_below hb5 (pw_cell_below hW5 (HAD.out j u hj))
    rintro e w6 ⟨v', rfl, hv', hb⟩
    obtain ⟨p', c', rfl⟩ := ownsRow_slice hv'
    refine ⟨_, rfl, ?_⟩
    refine hK.out _ _ ⟨pw_cell_below hb hHeld.1, hHeld.2.trans (hb.mono hHeld.2.size)⟩ (fun hHeld => ?_)
    clear hK K' HSL hb5
    refine norm_ (a' := ?_) ?_ ?_
    rotate_left
    · show Act.put _ (some 56) _ = _
      simp only [Act.put, List.setIfInBounds_toArray, List.set_cons_zero, List.set_cons_succ, i64_w, i32_w]
      rfl
    refine pure_ (i := 18) (N := some 57) (v := ?_) (a' := ?_) #[true, true, true, true, true, true, true, true, true, true, true, true, true, true, true, true, true, true, true, false, false, false] rfl rfl (by kernel_rfl) (fun _ _ _ h => h) (Or.inl ⟨by rfl, ?_⟩) ?_ ?_
    rotate_left
    · intro w_
      go_simp
      with_reducible rfl
    rotate_left
    · simp only [Act.put, List.setIfInBounds_toArray, List.set_cons_zero, List.set_cons_succ, i64_w, i32_w]
      rfl
    refine pure_ (i := 19) (N := some 58) (v := ?_) (a' := ?_) #[true, true, true, true, true, true, true, true, true, true, true, true, true, true, true, true, true, true, true, true, false, false] rfl rfl (by kernel_rfl) (fun _ _ _ h => h) (Or.inl ⟨by rfl, ?_⟩) ?_ ?_
    rotate_left
    · intro w_
      go_simp
      with_reducible rfl
    rotate_left
    · simp only [Act.put, List.setIfInBounds_toArray, List.set_cons_zero, List.set_cons_succ, i64_w, i32_w]
      rfl
    refine pure_ (i := 20) (N := some 59) (v := ?_) (a' := ?_) #[true, true, true, true, true, true, true, true, true, true, true, true, true, true, true, true, true, true, true, true, true, false] rfl rfl (by kernel_rfl) (fun _ _ _ h => h) (Or.inl ⟨by rfl, ?_⟩) ?_ ?_
    rotate_left
    · intro w_
      go_simp
      with_reducible rfl
    rotate_left
    · simp only [Act.put, List.setIfInBounds_toArray, List.set_cons_zero, List.set_cons_succ, i64_w, i32_w]
      rfl
    refine last_ (i := 21) (N := none) #[true, true, true, true, true, true, true, true, true, true, true, true, true, true, true, true, true, true, true, true, true, true] rfl rfl (by kernel_rfl) (by decide) (fun K' hK => ?_)
    have hc6 := hHeld.1
    have hf6 := blk_frozen ((hHeld.2.block g (blk_lt HG.out)).trans HG.out) (L0.length * 4)
    refine skip_ (w1 := ?_) (by rfl) rfl ?_ ?_
    rotate_left
    · go_simp
      rfl
    refine hK.out _ _ ?_
    clear hK K'
    refine done_ (by kernel_rfl) ?_
    have HFIN := Aside0.mk (St.retop HST.out H2.out H3.out (Turn.of_below hHeld.2) (fun k hk _ => hHeld.2.block k hk) (ownsRow_base hv' (Nat.zero_le _)) (fun k hk => .inr (Nat.le_trans (by rw [World.size_alloc]; exact Nat.le_succ_of_le hW5.size) (hv'.lt k hk).1)))
    clear hHeld hv' hb
    go_wp2_with fail
    go_ret
    exact ⟨rfl, HFIN.out⟩
end Go.Proofs.Ytfahpihbbkkngaa.P

-- from the text Hn
namespace Go.Proofs.Ytfahpihbbkkngaa.P
open Go.RowKit Go.Proofs.YtfahpihbbkkngaaW.PrintWords Go.Proofs.YtfahpihbbkkngaaW.PrintLast Go.Proofs.YtfahpihbbkkngaaW.PrintMore
set_option linter.unusedVariables false
set_option linter.unusedSimpArgs false
attribute [local go_sem high] eqA71
theorem cFs_at (i : Nat) (hi : i < 4) : ∀ (us : List (Value × Fr)) (k : Nat) (u : Value × Fr), us[k]? = some u → (cFs us)[k * 4 + i]? = (cF u)[i]?
  | [], k, u, h => by simp at h
  | x :: us, 0, u, h => by
    simp at h
    subst h
    simp only [cFs, List.flatMap_cons, Nat.zero_mul, Nat.zero_add]
    rw [List.getElem?_append_left (by simpa [cF] using hi)]
  | x :: us, k + 1, u, h => by
    have := cFs_at i hi us k u (by simpa using h)
    simp only [cFs, List.flatMap_cons] at this ⊢
    rw [List.getElem?_append_right (by simp [cF]; omega)]
    have e : (k + 1) * 4 + i - (cF x).length = k * 4 + i := by simp [cF]; omega
    rw [e, this]
/-- Whether a frame runs a unit for a condition and name. -/
def runs (c : Int) (n : ByteArray) (f : Fr) : Bool := f.rc == c && (f.rn.toList == n.toList)
def fromL (c : Int) (n : ByteArray) (m : Int) : List Fr → Int
  | [] => m
  | f :: r => fromL c n (if runs c n f = true then (if f.bl - 1 < m then f.bl - 1 else m) else m) r
theorem fromL_cons (c : Int) (n : ByteArray) (m : Int) (f : Fr) (r : List Fr) : fromL c n m (f :: r) = fromL c n (if runs c n f = true then (if f.bl - 1 < m then f.bl - 1 else m) else m) r := rfl
/-- A frame of the stack. -/
theorem Stk.frame {w : World} {s : Nat} {fv : Value} {D : List (Value × Fr)} (h : Stk w s fv D) {k : Nat} (hk : k < D.length) : ∃ g cap v f, fv = .slice (some ⟨g, 0, none⟩) D.length cap ∧ D.length ≤ cap ∧ D[k]? = some (v, f) ∧
    w.cell? ⟨g, k * 4, none⟩ = some v ∧ w.cell? ⟨g, k * 4 + 1, none⟩ = some (.int .i64 f.rc) ∧ w.cell? ⟨g, k * 4 + 2, none⟩ = some (.string f.rn) ∧ w.cell? ⟨g, k * 4 + 3, none⟩ = some (.int .i64 f.bl) := by
  have hd : D[k]? = some D[k] := List.getElem?_eq_getElem hk
  have hr := h.row
  rcases hr.2 with ⟨_, h0⟩ | ⟨g, cap, cur, rfl, _, _, hc, _⟩
  · omega
  · refine ⟨g, cap, D[k].1, D[k].2, rfl, hc, hd, ?_, ?_, ?_, ?_⟩
    · exact ownsRow_cell hr ((cFs_at 0 (by omega) D k _ hd).trans rfl)
    · exact ownsRow_cell hr ((cFs_at 1 (by omega) D k _ hd).trans rfl)
    · exact ownsRow_cell hr ((cFs_at 2 (by omega) D k _ hd).trans rfl)
    · exact ownsRow_cell hr ((cFs_at 3 (by omega) D k _ hd).trans rfl)
set_option maxRecDepth 100000 in
set_option maxHeartbeats 8000000 in
theorem down_is (s : Nat) (c : Int) (n : ByteArray) (L : List Fr) (F : Nat → Prop) (w : World) (h : St w s L F) (hL : L.length ≤ 1000) (hb : ∀ f ∈ L, 0 ≤ f.bl ∧ f.bl ≤ 1000) :
    Calls Try.prog 37 #[.pointer (some ⟨s, 0, none⟩), .agg #[.int .i64 c, .string n]] w fun e w' => e = .returned (.func (.func 57) #[] #[.pointer (some ⟨w.heap.size + 1 + 1, 0, none⟩), .pointer (some ⟨w.heap.size, 0, none⟩)]) ∧
      w'.heap[w.heap.size]? = some (.cells #[.pointer (some ⟨s, 0, none⟩)] 26 (0, 0)) ∧ w'.heap[w.heap.size + 1 + 1]? = some (.cells #[.int .i64 (fromL c n ((L.length : Int) - 1) L)] 3 (0, 0)) ∧ Below w.heap.size w w' := by
  obtain ⟨fv, D, h1, h2, h3, ⟨p, cap, rfl⟩, hc, hf⟩ := h.open_
  have hD : D.length = L.length := by rw [← h2]; simp
  have HST := Aside0.mk h1
  have H2 := Aside0.mk h2
  have hs := blk_lt h1.head
  have hmf : ∀ (fn : Fn) (first cap : Array Value) (w : World), (Instr.makeFunc fn first cap).run Try.prog w = .ok (.func fn first cap) w := fun _ _ _ _ => rfl
  have hw1 : wrap64 ((L.length : Int) - 1) = (L.length : Int) - 1 := by unfold wrap64; omega
  have hw2 : IntKind.i64.wrap ((L.length : Int) - 1) = (L.length : Int) - 1 := by rw [IntKind.wrap_i64]; omega
  have B0 := Aside0.mk ((Below.refl w.heap.size w).alloc (Nat.le_refl _) (.cells #[.pointer (some ⟨s, 0, none⟩)] 26 (0, 0)))
  have B1 := Aside0.mk (B0.out.alloc B0.out.size (.cells #[.int .i64 c, .string n] 71 (0, 0)))
  have B2 := Aside0.mk (B1.out.alloc B1.out.size (.cells #[.int .i64 ((L.length : Int) - 1)] 3 (0, 0)))
  have hcA := pw_cell_below B1.out hc
  have hcB := pw_cell_below B2.out hc
  have P2 := Aside0.mk (blk_alloc (blk_alloc (blk_new w (.cells #[.pointer (some ⟨s, 0, none⟩)] 26 (0, 0))) (.cells #[.int .i64 c, .string n] 71 (0, 0))) (.cells #[.int .i64 ((L.length : Int) - 1)] 3 (0, 0)))
  have P3 := Aside0.mk (blk_alloc (blk_new (w.alloc (.cells #[.pointer (some ⟨s, 0, none⟩)] 26 (0, 0))) (.cells #[.int .i64 c, .string n] 71 (0, 0))) (.cells #[.int .i64 ((L.length : Int) - 1)] 3 (0, 0)))
  have P5 := Aside0.mk (blk_new ((w.alloc (.cells #[.pointer (some ⟨s, 0, none⟩)] 26 (0, 0))).alloc (.cells #[.int .i64 c, .string n] 71 (0, 0))) (.cells #[.int .i64 ((L.length : Int) - 1)] 3 (0, 0)))
  rw [World.size_alloc] at P3
  rw [World.size_alloc, World.size_alloc] at P5
  clear h1 h2 h3
  go_enter Try.func37, Try.ntmps37
  go_wp2_with fail
  go_loopw [19] (fun q wr => ∃ (k : Nat) (m : Int), k ≤ L.length ∧ q = .int .i64 (k : Int) ∧ Aside0 (fromL c n m (L.drop k) = fromL c n ((L.length : Int) - 1) L) ∧ Aside0 (Below w.heap.size w wr) ∧ Aside0 (wr.heap[w.heap.size]? = some (.cells #[.pointer (some ⟨s, 0, none⟩)] 26 (0, 0))) ∧ Aside0 (wr.heap[w.heap.size + 1]? = some (.cells #[.int .i64 c, .string n] 71 (0, 0))) ∧ Aside0 (wr.heap[w.heap.size + 1 + 1]? = some (.cells #[.int .i64 m] 3 (0, 0)))) (fun q _ => L.length - (intOf q).toNat)
  case atStart => exact ⟨0, (L.length : Int) - 1, Nat.zero_le _, rfl, ⟨rfl⟩, B2, P2, P3, P5⟩
  case round =>
    clear P2 P3 P5 B2 B1 B0 hcA hcB hc hf
    obtain ⟨k, m, hk, rfl, HA, HB, P2, P3, P5⟩ := hrel
    by_cases hlt : k < L.length
    · have hlt' : (k : Int) < (L.length : Int) := by omega
      have h0 : (0 : Int) ≤ (k : Int) := by omega
      obtain ⟨g, cap', v, f, hv, hcp, hdk, x0, x1, x2, x3⟩ := HST.out.frame (k := k) (by omega)
      rw [hD] at hv hcp
      cases hv
      have hvs := HST.out.units (v, f) (List.mem_of_getElem? hdk)
      dsimp only at hvs
      obtain ⟨pv, cv, rfl⟩ := ownsRow_slice hvs
      have hLk : L[k]? = some f := by rw [← H2.out, List.getElem?_map, hdk]; rfl
      have hbf := hb f (List.mem_of_getElem? hLk)
      replace x0 := pw_cell_below HB.out x0
      replace x1 := pw_cell_below HB.out x1
      replace x2 := pw_cell_below HB.out x2
      replace x3 := pw_cell_below HB.out x3
      have HD : L.drop k = f :: L.drop (k + 1) := by
        rw [List.drop_eq_getElem_cons hlt]
        congr 1
        rw [List.getElem?_eq_getElem hlt] at hLk
        exact Option.some.inj hLk
      have hA := HA.out
      rw [HD, fromL_cons] at hA
      have hs1 : wrap64 (f.bl - 1) = f.bl - 1 := by unfold wrap64; omega
      have hs2 : IntKind.i64.wrap (f.bl - 1) = f.bl - 1 := by rw [IntKind.wrap_i64]; omega
      have HBx := Aside0.mk (HB.out.alloc HB.out.size (.cells #[.slice pv f.us.length cv, .int .i64 f.rc, .string f.rn, .int .i64 f.bl] 73 (0, 0)))
      have N7 := Aside0.mk (blk_new wr (.cells #[.slice pv f.us.length cv, .int .i64 f.rc, .string f.rn, .int .i64 f.bl] 73 (0, 0)))
      have N2 := Aside0.mk (blk_alloc P2.out (.cells #[.slice pv f.us.length cv, .int .i64 f.rc, .string f.rn, .int .i64 f.bl] 73 (0, 0)))
      have N3 := Aside0.mk (blk_alloc P3.out (.cells #[.slice pv f.us.length cv, .int .i64 f.rc, .string f.rn, .int .i64 f.bl] 73 (0, 0)))
      have N5 := Aside0.mk (blk_alloc P5.out (.cells #[.slice pv f.us.length cv, .int .i64 f.rc, .string f.rn, .int .i64 f.bl] 73 (0, 0)))
      have y1 := (blk_cell N7.out 1).trans rfl
      have y2 := (blk_cell N7.out 2).trans rfl
      have y3 := (blk_cell N7.out 3).trans rfl
      have z0 := (blk_cell N3.out 0).trans rfl
      have z1 := (blk_cell N3.out 1).trans rfl
      have m0 := (blk_cell N5.out 0).trans rfl
      have mf := blk_frozen N5.out 0
      cases hq : runs c n f with
      | true =>
        rw [if_pos hq] at hA
        replace hA := Aside0.mk hA
        unfold runs at hq
        go_wp2_with fail
        refine ⟨⟨k + 1, _, hlt, rfl, hA, Aside0.mk (HBx.out.setCell (p := ⟨w.heap.size + 1 + 1, 0, none⟩) (by show w.heap.size ≤ w.heap.size + 1 + 1; omega) _), Aside0.mk (blk_far N2.out (p := ⟨w.heap.size + 1 + 1, 0, none⟩) (by show w.heap.size ≠ w.heap.size + 1 + 1; omega) _), Aside0.mk (blk_far N3.out (p := ⟨w.heap.size + 1 + 1, 0, none⟩) (by show w.heap.size + 1 ≠ w.heap.size + 1 + 1; omega) _), Aside0.mk (blk_put N5.out 0 _ rfl)⟩, by simp [intOf]; omega⟩
      | false =>
        rw [if_neg (by simp [hq])] at hA
        replace hA := Aside0.mk hA
        unfold runs at hq
        go_wp2_with fail
        exact ⟨⟨k + 1, _, hlt, rfl, hA, HBx, N2, N3, N5⟩, by simp [intOf]; omega⟩
    · obtain rfl : k = L.length := by omega
      have hA : m = fromL c n ((L.length : Int) - 1) L := by rw [← HA.out]; simp [fromL]
      replace hA := Aside0.mk hA
      go_wp2_with fail
      go_ret
      rw [← hA.out]
      exact ⟨rfl, P2.out, P5.out, HB.out⟩
end Go.Proofs.Ytfahpihbbkkngaa.P

-- from the text Ho
namespace Go.Proofs.Ytfahpihbbkkngaa.P
open Go.RowKit Go.Shelf Go.Proofs.YtfahpihbbkkngaaW.PrintWords Go.Proofs.YtfahpihbbkkngaaW.PrintLast Go.Proofs.YtfahpihbbkkngaaW.PrintMore
set_option linter.unusedVariables false
set_option linter.unusedSimpArgs false
attribute [local go_sem] Oper.semAt_some
/-- The places below n, the greatest one first. -/
def downTo : Nat → List Nat
  | 0 => []
  | n + 1 => n :: downTo n
theorem downTo_length : ∀ n, (downTo n).length = n
  | 0 => rfl
  | n + 1 => by simp [downTo, downTo_length n]
def frD (D : List (Value × Fr)) (k : Nat) : Value × Fr := D.getD k (.slice none 0 0, fr0)
def encD (D : List (Value × Fr)) (k : Nat) : Array Value := #[.int .i64 (k : Int), .agg #[(frD D k).1, .int .i64 (frD D k).2.rc, .string (frD D k).2.rn, .int .i64 (frD D k).2.bl]]
set_option maxRecDepth 100000 in
set_option maxHeartbeats 4000000 in
theorem down1_in (F : Fence) (n : Nat) (h57 : F.fn 57) (hro : F.round = none) (hn : 1 ≤ n) (l b5 b2 n₀ s N : Nat) (fv : Value) (D : List (Value × Fr)) (J Jx : List Nat → World → Prop)
    (hY : ∀ pre x W, J pre W → pre.length < N → YieldAt F (n - 1) Try.prog l (encD D x) W fun e W' =>
      (e = .returned (.bool true) ∧ J (pre ++ [x]) W' ∧ Below n₀ W W') ∨ (e = .returned (.bool false) ∧ Jx (pre ++ [x]) W'))
    (W : World) (hb5 : W.heap[b5]? = some (.cells #[.int .i64 ((N : Int) - 1)] 3 (0, 0))) (hb2 : W.heap[b2]? = some (.cells #[.pointer (some ⟨s, 0, none⟩)] 26 (0, 0))) (hl5 : b5 < n₀) (hl2 : b2 < n₀)
    (hS : Stk W s fv D) (hlt : ∀ k, foot s fv D k → k < n₀) (hN : N ≤ D.length) (hD : D.length ≤ 1000) (h0 : J [] W) :
    CallsIn F n Try.prog 57 #[.func (.yield l) #[] #[], .pointer (some ⟨b5, 0, none⟩), .pointer (some ⟨b2, 0, none⟩)] W fun e W' => (∃ v, e = .returned v) ∧
      ((∃ ys, ys = downTo N ∧ J ys W') ∨ (∃ pre, pre <+: downTo N ∧ Jx pre W')) := by
  refine callsIn_of_wp Try.func57 rfl h57 ?_ hro
  simp only [Try.ntmps57, List.size_toArray, List.length_cons, List.length_nil, Nat.reduceAdd, Nat.reduceSub, Array.replicate_succ, Array.replicate_zero, List.push_toArray, List.append_toArray, List.nil_append, List.cons_append]
  have q5 := (blk_cell hb5 0).trans rfl
  gi_wp2
  gi_loopw [4] (fun i wr => ∃ (j : Nat) (pre : List Nat), i = .int .i64 ((j : Int) - 1) ∧ pre ++ downTo j = downTo N ∧ J pre wr ∧ Below n₀ W wr)
    (fun i _ => (intOf i + 1).toNat)
  case atStart => exact ⟨N, [], rfl, by simp, h0, Below.refl _ _⟩
  case round =>
    obtain ⟨j, pre, rfl, hp, hJs, hnx⟩ := hrel
    have hlen : pre.length + j = N := by
      have := congrArg List.length hp
      rw [List.length_append, downTo_length, downTo_length] at this
      exact this
    cases j with
    | zero =>
      rw [show ((0 : Nat) : Int) - 1 = -1 from rfl]
      have hpre : pre = downTo N := by rw [← hp]; simp [downTo]
      gi_wp2
      go_end0
      exact ⟨⟨_, rfl⟩, .inl ⟨pre, hpre, hJs⟩⟩
    | succ j =>
      rw [show ((j + 1 : Nat) : Int) - 1 = (j : Int) by omega]
      have hSw := hS.kept (fun k hk => hnx.block k (hlt k hk))
      have hh := (blk_cell hSw.head 0).trans rfl
      obtain ⟨g, cap, v, f, rfl, hcap, hdj, x0, x1, x2, x3⟩ := hSw.frame (k := j) (by omega)
      have hx : frD D j = (v, f) := by unfold frD; rw [List.getD_eq_getElem?_getD, hdj]; rfl
      obtain ⟨fn, tmps, assign, body, hy, hR⟩ := hY pre j wr hJs (by omega)
      simp only [encD, hx] at hy hR
      have r2 := (blk_cell ((hnx.block b2 hl2).trans hb2) 0).trans rfl
      have j0 : (0 : Int) ≤ (j : Int) := by omega
      have j1 : (j : Int) < (D.length : Int) := by omega
      have jm : IntKind.i64.wrap ((j : Int) - 1) = (j : Int) - 1 := by rw [IntKind.wrap_i64]; omega
      have jw : wrap64 ((j : Int) - 1) = (j : Int) - 1 := by unfold wrap64; omega
      have hp2 : (pre ++ [j]) ++ downTo j = downTo N := by
        rw [← hp]
        simp only [downTo, List.append_assoc, List.singleton_append]
      gi_wp2
      refine hR.mono ?_
      rintro e W3 (⟨rfl, hJ3, hk3⟩ | ⟨rfl, hJx3⟩)
      · gi_wp2
        go_roundw
        case rel => exact ⟨j, pre ++ [j], rfl, hp2, hJ3, hnx.trans hk3⟩
        case measure => simp [intOf]
      · gi_wp2
        refine bodyPost_ret (results_none rfl _ _ _) rfl ?_
        exact ⟨⟨_, rfl⟩, .inr ⟨_, ⟨downTo j, hp2⟩, hJx3⟩⟩
/-- What the iterator tells. -/
theorem down_stops (F : Fence) (n : Nat) (h57 : F.fn 57) (hro : F.round = none) (hn : 1 ≤ n) (b5 b2 s N : Nat) (fv : Value) (D : List (Value × Fr)) (w : World) (hb5 : w.heap[b5]? = some (.cells #[.int .i64 ((N : Int) - 1)] 3 (0, 0))) (hb2 : w.heap[b2]? = some (.cells #[.pointer (some ⟨s, 0, none⟩)] 26 (0, 0)))
    (hS : Stk w s fv D) (hN : N ≤ D.length) (hD : D.length ≤ 1000) :
    SeqStopsK F n Try.prog 57 #[.pointer (some ⟨b5, 0, none⟩), .pointer (some ⟨b2, 0, none⟩)] (encD D) (Below w.heap.size) (fun ys => ys = downTo N) (fun pre => pre <+: downTo N) N w := fun l J Jx W hW _ _ hY h0 =>
  down1_in F n h57 hro hn l b5 b2 w.heap.size s N fv D J Jx hY W (blk_below hb5 hW) (blk_below hb2 hW) (blk_lt hb5) (blk_lt hb2) (hS.kept (fun k hk => hW.block k (hS.foot_lt hk))) (fun k hk => hS.foot_lt hk) hN hD h0
end Go.Proofs.Ytfahpihbbkkngaa.P

-- from the text Hp
namespace Go.Proofs.Ytfahpihbbkkngaa.P
open Go.RowKit Go.Shelf Go.Proofs.YtfahpihbbkkngaaW.PrintWords Go.Proofs.YtfahpihbbkkngaaW.PrintLast Go.Proofs.YtfahpihbbkkngaaW.PrintMore
set_option linter.unusedVariables false
set_option linter.unusedSimpArgs false
attribute [local go_sem] Oper.semAt_some
theorem fromL_bounds (c : Int) (n : ByteArray) : ∀ (L : List Fr) (m : Int), -1 ≤ m → (∀ f ∈ L, 0 ≤ f.bl ∧ f.bl ≤ 1000) → -1 ≤ fromL c n m L ∧ fromL c n m L ≤ m
  | [], m, h, _ => ⟨h, Int.le_refl _⟩
  | f :: r, m, h, hb => by
    have hf := hb f (by simp)
    have ih := fromL_bounds c n r (if runs c n f = true then (if f.bl - 1 < m then f.bl - 1 else m) else m) (by split <;> (try split) <;> omega) (fun g hg => hb g (by simp [hg]))
    rw [fromL_cons]
    refine ⟨ih.1, Int.le_trans ih.2 ?_⟩
    split <;> (try split) <;> omega
/-- The first frame from the n-th one down that has a unit for a condition and name. -/
def findL (c : Int) (n : ByteArray) (L : List Fr) : Nat → Option (Nat × S24)
  | 0 => none
  | k + 1 => match idxU c n (L.getD k fr0).us 0 with
    | some i => some (k, ((L.getD k fr0).us[i]?).getD z24)
    | none => findL c n L k
def miss (c : Int) (n : ByteArray) (L : List Fr) (k : Nat) : Prop := idxU c n (L.getD k fr0).us 0 = none
def found (c : Int) (n : ByteArray) (L : List Fr) (k : Nat) (u : S24) : Prop := ∃ i, idxU c n (L.getD k fr0).us 0 = some i ∧ (L.getD k fr0).us[i]? = some u
theorem find_none (c : Int) (n : ByteArray) (L : List Fr) : ∀ N, (∀ x ∈ downTo N, miss c n L x) → findL c n L N = none
  | 0, _ => rfl
  | N + 1, h => by
    have h0 : miss c n L N := h N (by simp [downTo])
    unfold miss at h0
    simp only [findL, h0]
    exact find_none c n L N (fun x hx => h x (by simp [downTo, hx]))
theorem find_some (c : Int) (n : ByteArray) (L : List Fr) (k : Nat) (u : S24) (hf : found c n L k u) : ∀ (N : Nat) (pre : List Nat), pre ++ [k] <+: downTo N → (∀ x ∈ pre, miss c n L x) → findL c n L N = some (k, u)
  | 0, pre, h, _ => by
    have := h.length_le
    simp [downTo] at this
  | N + 1, [], h, _ => by
    obtain ⟨t, ht⟩ := h
    simp only [downTo, List.nil_append, List.singleton_append, List.cons.injEq] at ht
    obtain ⟨rfl, _⟩ := ht
    obtain ⟨i, h1, h2⟩ := hf
    simp only [findL, h1, h2, Option.getD_some]
  | N + 1, x :: pre, h, hm => by
    obtain ⟨t, ht⟩ := h
    simp only [downTo, List.cons_append, List.cons.injEq] at ht
    obtain ⟨rfl, ht⟩ := ht
    have h0 : miss c n L x := hm x (by simp)
    unfold miss at h0
    simp only [findL, h0]
    exact find_some c n L k u hf x pre ⟨t, ht⟩ (fun y hy => hm y (by simp [hy]))
theorem own_blk {A B : World} {row : Option Nat} {n : Nat} (hg : A.grownBy B row) (hr : ∀ r, row = some r → n ≤ r ∧ ∃ o : Obj, A.heap[r]? = some o ∧ o.isCells = false) {b : Nat} {cs : Array Value} {t : TypeId} {fr : Nat × Nat} (h : A.heap[b]? = some (.cells cs t fr)) : B.heap[b]? = some (.cells cs t fr) :=
  (hg.block b (blk_lt h) (fun e => by obtain ⟨_, o, ho, hc⟩ := hr b e.symm; rw [h] at ho; cases ho; cases hc)).trans h
theorem keepsFrom_of {B : Nat} {W W' : World} (h : Below W.heap.size W W') : KeepsFrom B W W' := ⟨h.size, fun k o _ hk _ => blk_below hk h⟩
theorem frD_snd (D : List (Value × Fr)) (k : Nat) : (frD D k).2 = (D.map Prod.snd).getD k fr0 := by
  unfold frD
  rw [List.getD_eq_getElem?_getD, List.getD_eq_getElem?_getD, List.getElem?_map]
  cases D[k]? <;> rfl
/-- What lies in a frame's place. -/
theorem Stk.frD_row {w : World} {s : Nat} {fv : Value} {D : List (Value × Fr)} (h : Stk w s fv D) (k : Nat) : w.ownsRow 0 24 3 (frD D k).1 (frD D k).2.us.length (cUs (frD D k).2.us) := by
  unfold frD
  rw [List.getD_eq_getElem?_getD]
  cases hk : D[k]? with
  | none => exact World.ownsRow_nil _ _ _ _
  | some x => exact h.units x (List.mem_of_getElem? hk)
def meetV : Option (Nat × S24) → Value
  | some (k, u) => .tuple #[.agg #[.int .i64 u.f0, .string u.f1, .int .i64 u.f2], .int .i64 (k : Int), .int .i64 0]
  | none => .tuple #[.agg #[.int .i64 0, .string ⟨#[]⟩, .int .i64 0], .int .i64 0, .int .i64 8]
set_option maxRecDepth 100000 in
set_option maxHeartbeats 8000000 in
theorem meet_is (s : Nat) (c : Int) (n : ByteArray) (L : List Fr) (F : Nat → Prop) (w : World) (hr : rightB c n = true) (h : St w s L F) (hL : L.length ≤ 1000) (hb : ∀ f ∈ L, 0 ≤ f.bl ∧ f.bl ≤ 1000) (hu : ∀ f ∈ L, f.us.length ≤ 1000) :
    Calls Try.prog 14 #[.pointer (some ⟨s, 0, none⟩), .int .i64 c, .string n] w fun e w' => e = .returned (meetV (findL c n L (fromL c n ((L.length : Int) - 1) L + 1).toNat)) ∧ Below w.heap.size w w' := by
  have HR := Aside0.mk (fun W => right_is c n W)
  rw [hr] at HR
  have HD := Aside0.mk (fun W (hW : St W s L F) => down_is s c n L F W hW hL hb)
  clear hr
  have A1 := Aside0.mk ((Below.refl w.heap.size w).alloc (Nat.le_refl _) (.cells #[.int .i64 0, .string ⟨#[]⟩, .int .i64 0] 24 (0, 0)))
  have A2 := Aside0.mk (A1.out.alloc A1.out.size (.cells #[.int .i64 0] 3 (0, 0)))
  have A3 := Aside0.mk (A2.out.alloc A2.out.size (.cells #[.int .i64 0] 30 (0, 0)))
  have A4 := Aside0.mk (A3.out.alloc A3.out.size (.cells #[.int .i64 c, .string n] 71 (0, 0)))
  have R6 := Aside0.mk (blk_alloc (blk_alloc (blk_alloc (blk_new w (.cells #[.int .i64 0, .string ⟨#[]⟩, .int .i64 0] 24 (0, 0))) (.cells #[.int .i64 0] 3 (0, 0))) (.cells #[.int .i64 0] 30 (0, 0))) (.cells #[.int .i64 c, .string n] 71 (0, 0)))
  have R7 := Aside0.mk (blk_alloc (blk_alloc (blk_new (w.alloc (.cells #[.int .i64 0, .string ⟨#[]⟩, .int .i64 0] 24 (0, 0))) (.cells #[.int .i64 0] 3 (0, 0))) (.cells #[.int .i64 0] 30 (0, 0))) (.cells #[.int .i64 c, .string n] 71 (0, 0)))
  have R8 := Aside0.mk (blk_alloc (blk_new ((w.alloc (.cells #[.int .i64 0, .string ⟨#[]⟩, .int .i64 0] 24 (0, 0))).alloc (.cells #[.int .i64 0] 3 (0, 0))) (.cells #[.int .i64 0] 30 (0, 0))) (.cells #[.int .i64 c, .string n] 71 (0, 0)))
  have R9 := Aside0.mk (blk_new (((w.alloc (.cells #[.int .i64 0, .string ⟨#[]⟩, .int .i64 0] 24 (0, 0))).alloc (.cells #[.int .i64 0] 3 (0, 0))).alloc (.cells #[.int .i64 0] 30 (0, 0))) (.cells #[.int .i64 c, .string n] 71 (0, 0)))
  simp only [World.size_alloc] at R7 R8 R9
  have hfb := fromL_bounds c n L ((L.length : Int) - 1) (by omega) hb
  obtain ⟨N, hN⟩ : ∃ N : Nat, fromL c n ((L.length : Int) - 1) L = (N : Int) - 1 := ⟨(fromL c n ((L.length : Int) - 1) L + 1).toNat, by omega⟩
  have hN2 : N ≤ L.length := by omega
  have hN3 : (fromL c n ((L.length : Int) - 1) L + 1).toNat = N := by omega
  rw [hN3]
  rw [hN] at HD
  clear hfb hN3 hN
  have HH := Aside0.mk h
  clear h A1 A2 A3
  refine (callsIn_wide (n := 9)).1 ?_
  refine callsIn_of_wp_marks Try.func14 rfl trivial ?_ rfl
  simp only [Try.ntmps14, List.size_toArray, List.length_cons, List.length_nil, Nat.reduceAdd, Nat.reduceSub, Array.replicate_succ, Array.replicate_zero, List.push_toArray, List.append_toArray, List.nil_append, List.cons_append]
  gi_wp2_with (first | (refine ⟨trivial, ?_⟩; gi_at_call 36; refine (callsIn_wide.2 (HR.out _)).mono ?_; rintro e w1 ⟨rfl, hb1⟩; have B1 := Aside0.mk (A4.out.trans (hb1.mono A4.out.size)); have S6 := Aside0.mk (blk_below R6.out hb1); have S7 := Aside0.mk (blk_below R7.out hb1); have S8 := Aside0.mk (blk_below R8.out hb1); have S9 := Aside0.mk (blk_below R9.out hb1); clear hb1; have s90 := (blk_cell S9.out 0).trans rfl; have s91 := (blk_cell S9.out 1).trans rfl) | (refine ⟨trivial, ?_⟩; gi_at_call 37; refine (callsIn_wide.2 (HD.out _ (HH.out.below B1.out))).mono ?_; rintro e w2 ⟨rfl, hx2, hx5, hb2⟩; have T6 := Aside0.mk (blk_below S6.out hb2); have T7 := Aside0.mk (blk_below S7.out hb2); have T8 := Aside0.mk (blk_below S8.out hb2); have T9 := Aside0.mk (blk_below S9.out hb2); have B2 := Aside0.mk (B1.out.trans (hb2.mono B1.out.size)); have X2 := Aside0.mk hx2; have X5 := Aside0.mk hx5; clear hx2 hx5 hb2 s90 s91))
  clear HR HD R6 R7 R8 R9 S6 S7 S8 S9
  obtain ⟨fv, D, h1, h2, h3⟩ := (HH.out.below B2.out)
  have hDL : D.length = L.length := by rw [← h2]; simp
  have hfd : ∀ k, (frD D k).2 = L.getD k fr0 := fun k => by rw [frD_snd, h2]
  have hsz2 : w.heap.size ≤ w2.heap.size := B2.out.size
  have hl6 := blk_lt T6.out
  have hl9 := blk_lt T9.out
  refine wpIn_rangeFunc_ownH rfl (by omega) (gf := 57) (lb := #[.pointer (some ⟨w1.heap.size + 1 + 1, 0, none⟩), .pointer (some ⟨w1.heap.size, 0, none⟩)]) rfl trivial (enters_of Try.func57 (by kernel_rfl) rfl)
    (down_stops Fence.wide (9 - 1) trivial rfl (by omega) (w1.heap.size + 1 + 1) w1.heap.size s N fv D w2 X5.out X2.out h1 (by omega) (by omega)) belowK_t (belowK_b (Nat.le_refl _)) (Below.refl _ _) (fun _ => rfl)
    (fun pre W => (∀ x ∈ pre, miss c n L x) ∧ Below w2.heap.size w2 W)
    (fun cd pre W => (cd = .ret ∧ ∃ pre0 k u, pre = pre0 ++ [k] ∧ (∀ x ∈ pre0, miss c n L x) ∧ found c n L k u ∧ W.heap[w.heap.size]? = some (.cells #[.int .i64 u.f0, .string u.f1, .int .i64 u.f2] 24 (0, 0)) ∧ W.heap[w.heap.size + 1]? = some (.cells #[.int .i64 (k : Int)] 3 (0, 0)) ∧ W.heap[w.heap.size + 1 + 1]? = some (.cells #[.int .i64 0] 30 (0, 0))) ∧ Below w.heap.size w W)
    (OwnFrom.and (ownFrom_pure _ _) (ownFrom_below (Nat.le_refl _) (Nat.le_refl _)))
    (fun cd => OwnFrom.and (fun s A B row hs hg hr => by
      obtain ⟨hcd, pre0, k, u, e1, e2, e3, e4, e5, e6⟩ := hs
      exact ⟨hcd, pre0, k, u, e1, e2, e3, own_blk hg hr e4, own_blk hg hr e5, own_blk hg hr e6⟩) (ownFrom_below (Nat.le_refl _) hsz2))
    ⟨by simp, Below.refl _ _⟩
    (fun x a' W => ∃ Bx, w2.heap.size ≤ Bx ∧ W.heap[Bx]? = some (.cells #[(frD D x).1, .int .i64 (frD D x).2.rc, .string (frD D x).2.rn, .int .i64 (frD D x).2.bl] 73 (0, 0)) ∧ a' = { tmps := #[.pointer (some ⟨s, 0, none⟩), .int .i64 c, .string n, undef, undef, undef, .pointer (some ⟨w.heap.size, 0, none⟩), .pointer (some ⟨w.heap.size + 1, 0, none⟩), .pointer (some ⟨w.heap.size + 1 + 1, 0, none⟩), .pointer (some ⟨w.heap.size + 1 + 1 + 1, 0, none⟩), .int .i64 (x : Int), .pointer (some ⟨Bx, 0, none⟩), undef, .int .i64 c, .string n, .agg #[.int .i64 c, .string n], .pointer (some ⟨s, 0, none⟩), .bool false, .bool false, .agg #[.int .i64 c, .string n], .bool true, .bool false, .bool false, undef, .pointer (some ⟨s, 0, none⟩), .agg #[.int .i64 c, .string n], .func (.func 57) #[] #[.pointer (some ⟨w1.heap.size + 1 + 1, 0, none⟩), .pointer (some ⟨w1.heap.size, 0, none⟩)], .int .i64 (x : Int), .agg #[(frD D x).1, .int .i64 (frD D x).2.rc, .string (frD D x).2.rn, .int .i64 (frD D x).2.bl], undef, undef, undef, undef, undef, undef, undef, undef, undef, undef, undef, undef, undef, undef], defers := [] })
    (fun x a' s A B row hs hg hr => by
      obtain ⟨Bx, e1, e2, e3⟩ := hs
      exact ⟨Bx, e1, own_blk hg hr e2, e3⟩)
    ?assign ?body ?done ?stop
  case assign =>
    rintro l pre x W K ⟨hm, hB⟩ hK
    obtain ⟨pv, cv, hpv⟩ := ownsRow_slice (h1.frD_row x)
    unfold encD
    generalize frD D x = y at hpv hK ⊢
    obtain ⟨v, f⟩ := y
    dsimp only at hpv hK ⊢
    subst hpv
    gi_wp2
    exact hK _ _ ((KeepsOthers.alloc _ _).from _) ((Below.refl _ W).alloc hB.size _) ⟨hm, hB.alloc hB.size _⟩ ⟨W.heap.size, hB.size, blk_new _ _, rfl⟩
  case body =>
    rintro l pre x a' W hl ⟨r, hr⟩ ⟨hm, hB⟩ ⟨Bx, hBx, bX, rfl⟩ hlt
    have hrow := ownsRow_kept (h1.frD_row x) (fun k hk => hB.block k ((h1.frD_row x).lt k hk).2)
    have hul : (frD D x).2.us.length ≤ 1000 := by
      rw [hfd, List.getD_eq_getElem?_getD]
      cases hk : L[x]? with
      | none => simp [fr0]
      | some f => exact hu f (List.mem_of_getElem? hk)
    have hfx := hfd x
    have hb9 := blk_below T9.out hB
    have n0 := (blk_cell hb9 0).trans rfl
    have n1 := (blk_cell hb9 1).trans rfl
    have x0 := (blk_cell bX 0).trans rfl
    generalize frD D x = y at *
    obtain ⟨v, f⟩ := y
    dsimp only at hrow hul hfx bX x0 ⊢
    have HR := Aside0.mk hrow
    have HX := Aside0.mk bX
    have HM := Aside0.mk hm
    have HBW := Aside0.mk hB
    have hPL := Aside0.mk (place_is c n f.us v W hrow (by omega))
    have hF := Aside0.mk hfx
    clear hrow bX hm hB hfx
    cases hq : idxU c n f.us 0 with
    | none =>
      rw [hq] at hPL
      have HQ := Aside0.mk hq
      clear hq
      gi_wp2_with (refine ⟨trivial, ?_⟩; gi_at_call 38; refine (CallsIn.inRound l (callsIn_wide.2 hPL.out)).mono ?_; rintro e w3 ⟨rfl, hb3⟩)
      refine ⟨keepsFrom_of hb3, hb3.mono HBW.out.size, fun x' hx' => ?_, HBW.out.trans (hb3.mono HBW.out.size)⟩
      rcases List.mem_append.1 hx' with hx' | hx'
      · exact HM.out x' hx'
      · simp only [List.mem_singleton] at hx'
        subst hx'
        unfold miss
        rw [← hF.out]
        exact HQ.out
    | some i =>
      rw [hq] at hPL
      have hi := (idxU_lt c n f.us 0 i hq).2
      rw [Nat.zero_add] at hi
      have HQ := Aside0.mk hq
      clear hq
      obtain ⟨u, huu⟩ : ∃ u, f.us[i]? = some u := ⟨_, List.getElem?_eq_getElem hi⟩
      obtain ⟨gu, cu, rfl, _, _⟩ := HR.out.form (by omega)
      have hi0 : (0 : Int) ≤ (i : Int) := by omega
      have hi1 : (i : Int) < (f.us.length : Int) := by omega
      unfold idxI at hPL
      gi_wp2_with (refine ⟨trivial, ?_⟩; gi_at_call 38; refine (CallsIn.inRound l (callsIn_wide.2 hPL.out)).mono ?_; rintro e w3 ⟨rfl, hb3⟩; have y0 := (blk_cell (blk_below HX.out hb3) 0).trans rfl; have c0 := pw_cell_below hb3 (ownsRow_cell HR.out ((cUs_at 0 (by omega) f.us i u huu).trans rfl)); have c1 := pw_cell_below hb3 (ownsRow_cell HR.out ((cUs_at 1 (by omega) f.us i u huu).trans rfl)); have c2 := pw_cell_below hb3 (ownsRow_cell HR.out ((cUs_at 2 (by omega) f.us i u huu).trans rfl)); rw [Nat.add_zero] at c0; have Q6 := Aside0.mk (blk_below (blk_below T6.out HBW.out) hb3); have Q7 := Aside0.mk (blk_below (blk_below T7.out HBW.out) hb3); have Q8 := Aside0.mk (blk_below (blk_below T8.out HBW.out) hb3); have q60 := (blk_cell Q6.out 0).trans rfl; have q61 := (blk_cell Q6.out 1).trans rfl; have q62 := (blk_cell Q6.out 2).trans rfl; have q70 := (blk_cell Q7.out 0).trans rfl; have q80 := (blk_cell Q8.out 0).trans rfl; have g60 := blk_frozen Q6.out 0; have g61 := blk_frozen Q6.out 1; have g62 := blk_frozen Q6.out 2; have g70 := blk_frozen Q7.out 0; have g80 := blk_frozen Q8.out 0)
      have e6 := blk_far (blk_far (blk_put (blk_put (blk_put Q6.out 0 (.int .i64 u.f0) rfl) 1 (.string u.f1) rfl) 2 (.int .i64 u.f2) rfl) (p := ⟨w.heap.size + 1, 0, none⟩) (by show w.heap.size ≠ w.heap.size + 1; omega) (.int .i64 (x : Int))) (p := ⟨w.heap.size + 1 + 1, 0, none⟩) (by show w.heap.size ≠ w.heap.size + 1 + 1; omega) (.int .i64 0)
      have e7 := blk_far (blk_put (blk_far (blk_far (blk_far Q7.out (p := ⟨w.heap.size, 0, none⟩) (by show w.heap.size + 1 ≠ w.heap.size; omega) (.int .i64 u.f0)) (p := ⟨w.heap.size, 1, none⟩) (by show w.heap.size + 1 ≠ w.heap.size; omega) (.string u.f1)) (p := ⟨w.heap.size, 2, none⟩) (by show w.heap.size + 1 ≠ w.heap.size; omega) (.int .i64 u.f2)) 0 (.int .i64 (x : Int)) rfl) (p := ⟨w.heap.size + 1 + 1, 0, none⟩) (by show w.heap.size + 1 ≠ w.heap.size + 1 + 1; omega) (.int .i64 0)
      have e8 := blk_put (blk_far (blk_far (blk_far (blk_far Q8.out (p := ⟨w.heap.size, 0, none⟩) (by show w.heap.size + 1 + 1 ≠ w.heap.size; omega) (.int .i64 u.f0)) (p := ⟨w.heap.size, 1, none⟩) (by show w.heap.size + 1 + 1 ≠ w.heap.size; omega) (.string u.f1)) (p := ⟨w.heap.size, 2, none⟩) (by show w.heap.size + 1 + 1 ≠ w.heap.size; omega) (.int .i64 u.f2)) (p := ⟨w.heap.size + 1, 0, none⟩) (by show w.heap.size + 1 + 1 ≠ w.heap.size + 1; omega) (.int .i64 (x : Int))) 0 (.int .i64 0) rfl
      have hbw : Below w.heap.size w w3 := B2.out.trans ((HBW.out.mono hsz2).trans (hb3.mono (Nat.le_trans hsz2 HBW.out.size)))
      refine ⟨(keepsFrom_of hb3).trans ((((((KeepsOthers.setCell _ _ _).trans (KeepsOthers.setCell _ _ _)).trans (KeepsOthers.setCell _ _ _)).trans (KeepsOthers.setCell _ _ _)).trans (KeepsOthers.setCell _ _ _)).from _), ⟨rfl, pre, x, u, rfl, HM.out, ⟨i, by rw [← hF.out]; exact HQ.out, by rw [← hF.out]; exact huu⟩, e6, e7, e8⟩, ?_⟩
      exact ((((hbw.setCell (p := ⟨w.heap.size, 0, none⟩) (Nat.le_refl _) _).setCell (p := ⟨w.heap.size, 1, none⟩) (Nat.le_refl _) _).setCell (p := ⟨w.heap.size, 2, none⟩) (Nat.le_refl _) _).setCell (p := ⟨w.heap.size + 1, 0, none⟩) (Nat.le_succ _) _).setCell (p := ⟨w.heap.size + 1 + 1, 0, none⟩) (by show w.heap.size ≤ w.heap.size + 1 + 1; omega) _
  case done =>
    rintro Dd ys W hD rfl ⟨hm, hB⟩ hK
    have hfn := Aside0.mk (find_none c n L N hm)
    have Q6 := Aside0.mk (blk_below T6.out hB)
    have Q7 := Aside0.mk (blk_below T7.out hB)
    have Q8 := Aside0.mk (blk_below T8.out hB)
    have q60 := (blk_cell Q6.out 0).trans rfl
    have q61 := (blk_cell Q6.out 1).trans rfl
    have q62 := (blk_cell Q6.out 2).trans rfl
    have q70 := (blk_cell Q7.out 0).trans rfl
    have q80 := (blk_cell Q8.out 0).trans rfl
    have g60 := blk_frozen Q6.out 0
    have g61 := blk_frozen Q6.out 1
    have g62 := blk_frozen Q6.out 2
    have g70 := blk_frozen Q7.out 0
    have g80 := blk_frozen Q8.out 0
    gi_wp2
    have e6 := blk_far (blk_far (blk_put (blk_put (blk_put Q6.out 0 (.int .i64 0) rfl) 1 (.string ⟨#[]⟩) rfl) 2 (.int .i64 0) rfl) (p := ⟨w.heap.size + 1, 0, none⟩) (by show w.heap.size ≠ w.heap.size + 1; omega) (.int .i64 0)) (p := ⟨w.heap.size + 1 + 1, 0, none⟩) (by show w.heap.size ≠ w.heap.size + 1 + 1; omega) (.int .i64 8)
    have e7 := blk_far (blk_put (blk_far (blk_far (blk_far Q7.out (p := ⟨w.heap.size, 0, none⟩) (by show w.heap.size + 1 ≠ w.heap.size; omega) (.int .i64 0)) (p := ⟨w.heap.size, 1, none⟩) (by show w.heap.size + 1 ≠ w.heap.size; omega) (.string ⟨#[]⟩)) (p := ⟨w.heap.size, 2, none⟩) (by show w.heap.size + 1 ≠ w.heap.size; omega) (.int .i64 0)) 0 (.int .i64 0) rfl) (p := ⟨w.heap.size + 1 + 1, 0, none⟩) (by show w.heap.size + 1 ≠ w.heap.size + 1 + 1; omega) (.int .i64 8)
    have e8 := blk_put (blk_far (blk_far (blk_far (blk_far Q8.out (p := ⟨w.heap.size, 0, none⟩) (by show w.heap.size + 1 + 1 ≠ w.heap.size; omega) (.int .i64 0)) (p := ⟨w.heap.size, 1, none⟩) (by show w.heap.size + 1 + 1 ≠ w.heap.size; omega) (.string ⟨#[]⟩)) (p := ⟨w.heap.size, 2, none⟩) (by show w.heap.size + 1 + 1 ≠ w.heap.size; omega) (.int .i64 0)) (p := ⟨w.heap.size + 1, 0, none⟩) (by show w.heap.size + 1 + 1 ≠ w.heap.size + 1; omega) (.int .i64 0)) 0 (.int .i64 8) rfl
    have hK' := ((((((KeepsOthers.setCell W ⟨w.heap.size, 0, none⟩ (.int .i64 0)).trans (KeepsOthers.setCell _ ⟨w.heap.size, 1, none⟩ (.string ⟨#[]⟩))).trans (KeepsOthers.setCell _ ⟨w.heap.size, 2, none⟩ (.int .i64 0))).trans (KeepsOthers.setCell _ ⟨w.heap.size + 1, 0, none⟩ (.int .i64 0))).trans (KeepsOthers.setCell _ ⟨w.heap.size + 1 + 1, 0, none⟩ (.int .i64 8)))).same Dd _ hK rfl
    have hbw : Below w.heap.size w W := B2.out.trans (hB.mono hsz2)
    have hbw2 := ((((hbw.setCell (p := ⟨w.heap.size, 0, none⟩) (Nat.le_refl _) (.int .i64 0)).setCell (p := ⟨w.heap.size, 1, none⟩) (Nat.le_refl _) (.string ⟨#[]⟩)).setCell (p := ⟨w.heap.size, 2, none⟩) (Nat.le_refl _) (.int .i64 0)).setCell (p := ⟨w.heap.size + 1, 0, none⟩) (Nat.le_succ _) (.int .i64 0)).setCell (p := ⟨w.heap.size + 1 + 1, 0, none⟩) (by show w.heap.size ≤ w.heap.size + 1 + 1; omega) (.int .i64 8)
    refine ⟨by simp, .inl ⟨_, _, rfl, run_takeDeferred hK', ?_⟩⟩
    rw [hfn.out]
    have hrr : ∀ r, (some Dd : Option Nat) = some r → 0 ≤ r ∧ ∃ o : Obj, (((((W.setCell ⟨w.heap.size, 0, none⟩ (.int .i64 0)).setCell ⟨w.heap.size, 1, none⟩ (.string ⟨#[]⟩)).setCell ⟨w.heap.size, 2, none⟩ (.int .i64 0)).setCell ⟨w.heap.size + 1, 0, none⟩ (.int .i64 0)).setCell ⟨w.heap.size + 1 + 1, 0, none⟩ (.int .i64 8)).heap[r]? = some o ∧ o.isCells = false := fun r e => by cases e; exact ⟨Nat.zero_le _, _, hK', rfl⟩
    have f6 := own_blk (grownBy_putObj' _ Dd (.deferred none)) hrr e6
    have f7 := own_blk (grownBy_putObj' _ Dd (.deferred none)) hrr e7
    have f8 := own_blk (grownBy_putObj' _ Dd (.deferred none)) hrr e8
    have v60 := (blk_cell f6 0).trans rfl
    have v61 := (blk_cell f6 1).trans rfl
    have v62 := (blk_cell f6 2).trans rfl
    have v70 := (blk_cell f7 0).trans rfl
    have v80 := (blk_cell f8 0).trans rfl
    refine ⟨meetV none, ?_, rfl, hbw2.trans (belowK_b (w := w) (Nat.le_refl _) _ Dd _ _ (Nat.le_trans hsz2 hD) hK' rfl rfl)⟩
    unfold meetV
    simp [results, Try.f14, Try.results14, go_sem, v60, v61, v62, v70, v80]
  case stop =>
    rintro Dd cd pre W hD hpre ⟨⟨rfl, pre0, k, u, rfl, e2, e3, e4, e5, e6⟩, hB⟩ hK
    have hfn := Aside0.mk (find_some c n L k u e3 N pre0 hpre e2)
    gi_wp2
    refine ⟨by simp, .inl ⟨_, _, rfl, run_takeDeferred hK, ?_⟩⟩
    rw [hfn.out]
    have hrr : ∀ r, (some Dd : Option Nat) = some r → 0 ≤ r ∧ ∃ o : Obj, W.heap[r]? = some o ∧ o.isCells = false := fun r e => by cases e; exact ⟨Nat.zero_le _, _, hK, rfl⟩
    have f6 := own_blk (grownBy_putObj' _ Dd (.deferred none)) hrr e4
    have f7 := own_blk (grownBy_putObj' _ Dd (.deferred none)) hrr e5
    have f8 := own_blk (grownBy_putObj' _ Dd (.deferred none)) hrr e6
    have v60 := (blk_cell f6 0).trans rfl
    have v61 := (blk_cell f6 1).trans rfl
    have v62 := (blk_cell f6 2).trans rfl
    have v70 := (blk_cell f7 0).trans rfl
    have v80 := (blk_cell f8 0).trans rfl
    refine ⟨meetV (some (k, u)), ?_, rfl, hB.trans (belowK_b (w := w) (Nat.le_refl _) _ Dd _ _ (Nat.le_trans hsz2 hD) hK rfl rfl)⟩
    unfold meetV
    simp [results, Try.f14, Try.results14, go_sem, v60, v61, v62, v70, v80]
end Go.Proofs.Ytfahpihbbkkngaa.P

-- from the text Hm
namespace Go.Proofs.Ytfahpihbbkkngaa.P
open Go.RowKit Go.Proofs.YtfahpihbbkkngaaW.PrintWords Go.Proofs.YtfahpihbbkkngaaW.PrintLast Go.Proofs.YtfahpihbbkkngaaW.PrintMore
set_option linter.unusedVariables false
set_option linter.unusedSimpArgs false
theorem St.cut {w : World} {s : Nat} {L : List Fr} {F : Nat → Prop} (h : St w s L F) : St w s L (fun k => F k ∧ k < w.heap.size) := by
  obtain ⟨fv, D, h1, h2, h3⟩ := h
  exact ⟨fv, D, h1, h2, fun k hk => ⟨h3 k hk, h1.foot_lt hk⟩⟩
theorem Turn.mono {F G : Nat → Prop} {a b : World} (h : Turn F a b) (hd : ∀ k, F k → G k) : Turn G a b := ⟨h.os, h.tape, h.output, h.size, fun k hk hn => h.block k hk (fun e => hn (hd k e))⟩
theorem More.mono {F G : Nat → Prop} {n m n' m' : Nat} (hd : ∀ k, F k → G k ∨ (n' ≤ k ∧ k < m')) (h1 : n' ≤ n) (h2 : m ≤ m') (k : Nat) (h : More F n m k) : More G n' m' k := h.elim (hd k) (fun e => .inr ⟨by omega, by omega⟩)
theorem step_append24 {ops : Array Oper} {o : Oper} {a : Act} {K : Act → World → Prop} {Q : Exit → Act → World → Prop} {W : World} {s x : Operand} {fv : Value} {n : Nat} {xs : List Value} {N : Tmp} (g0 : Nat) (v b c : Value) (hw : Region.wanted o (yielded ops a.tmps) = true) (hN : o.dst = some N) (ho : o.op = .call { callee := .builtin .append, args := #[s, x], argTypes := #[64, 64] })
    (hs : a.eval s = fv) (hrow : W.ownsRow 0 24 3 fv n xs) (hx : a.eval x = .slice (some ⟨g0, 0, none⟩) 1 1) (hb : W.heap[g0]? = some (.cells #[v, b, c] 24 (0, 0)))
    (h1 : v.oneCell' = true ∧ b.oneCell' = true ∧ c.oneCell' = true) (hn : n ≤ 1000000)
    (h : ∀ g cap w', w'.ownsRow 0 24 3 (.slice (some ⟨g, 0, none⟩) (n + 1) cap) (n + 1) (xs ++ [v, b, c]) → W.grownBy w' fv.ownBlock → (fv.ownBlock = some g ∨ g = W.heap.size) → g < w'.heap.size → K (a.put (some N) (.slice (some ⟨g, 0, none⟩) (n + 1) cap)) w') : if Region.wanted o (yielded ops a.tmps) = true then Oper.wp Try.prog o a W K Q else K (a.put (some N) undef) W := by
  obtain ⟨i0, hi, hz0, hz1, hz2⟩ := info_parts info24
  rw [if_pos hw]
  refine wp_append_lies W s x 64 ho 0 24 i0 _ 3 32 Try.underlying64 hi hz0 hz1 hz2 rfl (by decide) fv n xs hs hrow ⟨g0, 0, none⟩ 1 1 [v, b, c] hx rfl
    (fun j u hj => by rw [add_plain]; exact (blk_cell hb j).trans (by simpa using hj)) (by simp [h1]) (by decide) (by simp only [maxLen]; omega) (by omega) (Nat.zero_le _) _ rfl ?_
  rw [hN]
  exact h
set_option maxRecDepth 100000 in
set_option maxHeartbeats 4000000 in
theorem on_bad (s : Nat) (u : S24) (w : World) (hr : rightB u.f0 u.f1 = false ∨ u.f2 < -2) : Calls Try.prog 13 #[.pointer (some ⟨s, 0, none⟩), .agg #[.int .i64 u.f0, .string u.f1, .int .i64 u.f2]] w fun e w' => e = .returned (.int .i64 1) ∧ Below w.heap.size w w' := by
  have HR := Aside0.mk (fun W => right_is u.f0 u.f1 W)
  have h1 := Aside0.mk (((Below.refl w.heap.size w).alloc (Nat.le_refl _) (.cells #[.int .i64 u.f0, .string u.f1, .int .i64 u.f2] 24 (0, 0))).alloc (by simp) (.cells #[.int .i64 u.f0, .string u.f1] 71 (0, 0)))
  have HU := Aside0.mk (blk_alloc (blk_new w (.cells #[.int .i64 u.f0, .string u.f1, .int .i64 u.f2] 24 (0, 0))) (.cells #[.int .i64 u.f0, .string u.f1] 71 (0, 0)))
  cases hq : rightB u.f0 u.f1 with
  | false =>
    rw [hq] at HR
    clear hr hq
    go_enter Try.func13, Try.ntmps13
    go_wp2_with fail
    refine (HR.out _).mono ?_
    rintro e w1 ⟨rfl, hb⟩
    go_wp2_with fail
    go_ret
    exact ⟨rfl, h1.out.trans (hb.mono h1.out.size)⟩
  | true =>
    rw [hq] at HR hr
    have hd : decide (u.f2 < -2) = true := decide_eq_true (hr.elim (fun e => by cases e) id)
    clear hr hq
    go_enter Try.func13, Try.ntmps13
    go_wp2_with fail
    refine (HR.out _).mono ?_
    rintro e w1 ⟨rfl, hb⟩
    have u2 := (blk_cell (blk_below HU.out hb) 2).trans rfl
    go_wp2_with fail
    go_ret
    exact ⟨rfl, h1.out.trans (hb.mono h1.out.size)⟩
set_option maxRecDepth 100000 in
set_option maxHeartbeats 8000000 in
theorem on_is (s : Nat) (u : S24) (L0 : List Fr) (f : Fr) (F : Nat → Prop) (w : World) (hr : rightB u.f0 u.f1 = true) (hp : -2 ≤ u.f2) (h : St w s (L0 ++ [f]) F) (hl : f.us.length ≤ 1000) (hL : L0.length ≤ 1000) :
    Calls Try.prog 13 #[.pointer (some ⟨s, 0, none⟩), .agg #[.int .i64 u.f0, .string u.f1, .int .i64 u.f2]] w fun e w' => e = .returned (.int .i64 0) ∧ St w' s (L0 ++ [{ f with us := revU u.f0 u.f1 f.us ++ [u] }]) (More F w.heap.size w'.heap.size) ∧ Turn F w w' := by
  have HR := Aside0.mk (fun W => right_is u.f0 u.f1 W)
  rw [hr] at HR
  have HRV := Aside0.mk (fun W G (hW : St W s (L0 ++ [f]) G) => revert_is s u.f0 u.f1 L0 f G W hr hW hl hL)
  have hrl : (revU u.f0 u.f1 f.us).length ≤ 1000 := by
    unfold revU
    split
    · simp
      omega
    · exact hl
  have hd : decide (u.f2 < -2) = false := decide_eq_false (by omega)
  generalize revU u.f0 u.f1 f.us = us1 at *
  clear hr hp hl
  have hW := Aside0.mk (((Below.refl w.heap.size w).alloc (Nat.le_refl _) (.cells #[.int .i64 u.f0, .string u.f1, .int .i64 u.f2] 24 (0, 0))).alloc (by simp) (.cells #[.int .i64 u.f0, .string u.f1] 71 (0, 0)))
  have HU := Aside0.mk (blk_alloc (blk_new w (.cells #[.int .i64 u.f0, .string u.f1, .int .i64 u.f2] 24 (0, 0))) (.cells #[.int .i64 u.f0, .string u.f1] 71 (0, 0)))
  have HH := Aside0.mk h.cut
  clear h
  go_enter Try.func13, Try.ntmps13
  go_wp2_with fail
  refine (HR.out _).mono ?_
  rintro e w1 ⟨rfl, hb⟩
  have HB := Aside0.mk (hW.out.trans (hb.mono hW.out.size))
  have HU := Aside0.mk (blk_below HU.out hb)
  clear hb hW
  have u0 := (blk_cell HU.out 0).trans rfl
  have u1 := (blk_cell HU.out 1).trans rfl
  have u2 := (blk_cell HU.out 2).trans rfl
  go_wp2_with fail
  refine (HRV.out w1 _ (HH.out.below HB.out)).mono ?_
  rintro e w2 ⟨rfl, hst, ht⟩
  have HU := Aside0.mk ((ht.block _ (blk_lt HU.out) (fun e => by have := e.2; omega)).trans HU.out)
  have HT := Aside0.mk (((Turn.of_below HB.out).trans (ht.mono (fun k hk => .inl hk))).mono (fun k hk => hk.1))
  have HSz := Aside0.mk HB.out.size
  have HT2 := Aside0.mk ht.size
  have HF0 := Aside0.mk (fun k (hk : More (fun k => F k ∧ k < w.heap.size) w1.heap.size w2.heap.size k) => More.mono (G := F) (n' := w.heap.size) (m' := w2.heap.size) (fun k hk => .inl hk.1) HSz.out (Nat.le_refl _) k hk)
  obtain ⟨fv, D0, v, h1, h2, h3, ⟨g, cap, rfl, hcv, hfv⟩, hc0⟩ := hst.top
  clear ht hst u0 u1 u2 HB HRV HR
  have HST := Aside0.mk h1
  have H2 := Aside0.mk h2
  have H3 := Aside0.mk h3
  have hUr := h1.units (v, { f with us := us1 }) (by simp)
  dsimp only at hUr
  have HUR := Aside0.mk hUr
  have hpos : (0 : Int) ≤ (L0.length : Int) := by omega
  have hlt : (L0.length : Int) < (L0.length : Int) + 1 := by omega
  clear h1 h2 h3 hUr
  obtain ⟨cur0, hcur0⟩ := own_type HST.out.row (show (Value.slice (some ⟨g, 0, none⟩) (L0.length + 1) cap).ownBlock = some g from rfl)
  have HG := Aside0.mk hcur0
  have HVG := HST.out.unit_row (x := (v, { f with us := us1 })) (by simp) (show (Value.slice (some ⟨g, 0, none⟩) (L0.length + 1) cap).ownBlock = some g from rfl)
  dsimp only at HVG
  clear hcur0
  go_wp2_with fail
  go_quiet (fail)
  go_wp2_with fail
  have HB := Aside0.mk (pw_below_drewN (Below.refl w2.heap.size w2) nq)
  have HUN := Aside0.mk (blk_drewN HU.out nq)
  replace hcv : (w2.drewN nq).cell? ⟨g, L0.length * 4, none⟩ = some v := hcv
  clear hc0
  generalize w2.drewN nq = w3 at HB HUN hcv ⊢
  refine start_ (n := 13) (S := fun W => W.cell? ⟨g, L0.length * 4, none⟩ = some v ∧ W.heap[w.heap.size]? = some (.cells #[.int .i64 u.f0, .string u.f1, .int .i64 u.f2] 24 (0, 0)) ∧ Below w2.heap.size w2 W) (ds := [8, 12]) #[false, false, false, false, false, false, false, false, false, false, false, false, false] (by kernel_rfl) rfl rfl ⟨hcv, blk_drew HUN.out, Below.drew HB.out⟩ (fun hHeld => ?_)
  generalize w3.drew = w4 at hHeld ⊢
  clear HUN HB hcv
  refine pure_ (i := 0) (N := some 41) (v := ?_) (a' := ?_) #[true, false, false, false, false, false, false, false, false, false, false, false, false] rfl rfl (by kernel_rfl) (fun _ _ _ h => h) (Or.inl ⟨by rfl, ?_⟩) ?_ ?_
  rotate_left
  · intro w_
    go_simp
    with_reducible rfl
  rotate_left
  · simp only [Act.put, List.setIfInBounds_toArray, List.set_cons_zero, List.set_cons_succ, i64_w, i32_w]
    rfl
  refine pure_ (i := 1) (N := some 42) (v := ?_) (a' := ?_) #[true, true, false, false, false, false, false, false, false, false, false, false, false] rfl rfl (by kernel_rfl) (fun _ _ _ h => h) (Or.inl ⟨by rfl, ?_⟩) ?_ ?_
  rotate_left
  · intro w_
    go_simp
    with_reducible rfl
  rotate_left
  · simp only [Act.put, List.setIfInBounds_toArray, List.set_cons_zero, List.set_cons_succ, i64_w, i32_w]
    rfl
  refine pure_ (i := 2) (N := some 43) (v := ?_) (a' := ?_) #[true, true, true, false, false, false, false, false, false, false, false, false, false] rfl rfl (by kernel_rfl) (fun _ _ _ h => h) (Or.inl ⟨by rfl, ?_⟩) ?_ ?_
  rotate_left
  · intro w_
    go_simp
    with_reducible rfl
  rotate_left
  · simp only [Act.put, List.setIfInBounds_toArray, List.set_cons_zero, List.set_cons_succ, i64_w, i32_w]
    rfl
  refine pure_ (i := 3) (N := some 44) (v := ?_) (a' := ?_) #[true, true, true, true, false, false, false, false, false, false, false, false, false] rfl rfl (by kernel_rfl) (fun _ _ _ h => h) (Or.inl ⟨by rfl, ?_⟩) ?_ ?_
  rotate_left
  · intro w_
    go_simp
    with_reducible rfl
  rotate_left
  · simp only [Act.put, List.setIfInBounds_toArray, List.set_cons_zero, List.set_cons_succ, i64_w, i32_w]
    rfl
  refine pure_ (i := 4) (N := some 45) (v := ?_) (a' := ?_) #[true, true, true, true, true, false, false, false, false, false, false, false, false] rfl rfl (by kernel_rfl) (fun _ _ _ h => h) (Or.inl ⟨by rfl, ?_⟩) ?_ ?_
  rotate_left
  · intro w_
    go_simp
    with_reducible rfl
  rotate_left
  · simp only [Act.put, List.setIfInBounds_toArray, List.set_cons_zero, List.set_cons_succ, i64_w, i32_w]
    rfl
  refine take_ (i := 5) (N := some 46) (v := ?_) (a' := ?_) #[true, true, true, true, true, true, false, false, false, false, false, false, false] rfl rfl (by kernel_rfl) (fun _ _ _ h => h) (Or.inl ⟨by rfl, ?_⟩) hHeld ?_ ?_
  rotate_left
  · rintro w_ ⟨s0, _⟩
    go_simp
    with_reducible rfl
  rotate_left
  · simp only [Act.put, List.setIfInBounds_toArray, List.set_cons_zero, List.set_cons_succ, i64_w, i32_w]
    rfl
  refine take_ (i := 6) (N := some 47) (v := ?_) (a' := ?_) #[true, true, true, true, true, true, true, false, false, false, false, false, false] rfl rfl (by kernel_rfl) (fun _ _ _ h => h) (Or.inl ⟨by rfl, ?_⟩) hHeld ?_ ?_
  rotate_left
  · rintro w_ ⟨_, hs_, _⟩
    have s0 := (blk_cell hs_ 0).trans rfl
    have s1 := (blk_cell hs_ 1).trans rfl
    have s2 := (blk_cell hs_ 2).trans rfl
    go_simp
    with_reducible rfl
  rotate_left
  · simp only [Act.put, List.setIfInBounds_toArray, List.set_cons_zero, List.set_cons_succ, i64_w, i32_w]
    rfl
  refine one_ (i := 7) (N := some 48) #[true, true, true, true, true, true, true, true, false, false, false, false, false] rfl rfl (by kernel_rfl) (by decide) (fun K' hK => ?_)
  refine value_ (w1 := w4.alloc (.cells #[.int .i64 u.f0, .string u.f1, .int .i64 u.f2] 24 (0, 0))) (v := .slice (some ⟨w4.heap.size, 0, none⟩) 1 1) (by rfl) rfl ?_ ?_
  · go_simp
  have HN := Aside0.mk (blk_new w4 (.cells #[.int .i64 u.f0, .string u.f1, .int .i64 u.f2] 24 (0, 0)))
  have hb5 := (Below.refl w4.heap.size w4).alloc (Nat.le_refl _) (.cells #[.int .i64 u.f0, .string u.f1, .int .i64 u.f2] 24 (0, 0))
  refine hK.out _ _ ⟨pw_cell_below hb5 hHeld.1, blk_below hHeld.2.1 hb5, hHeld.2.2.trans (hb5.mono hHeld.2.2.size)⟩ (fun hHeld => ?_)
  clear hK K'
  refine norm_ (a' := ?_) ?_ ?_
  rotate_left
  · show Act.put _ (some 48) _ = _
    simp only [Act.put, List.setIfInBounds_toArray, List.set_cons_zero, List.set_cons_succ, i64_w, i32_w]
    rfl
  refine last_ (i := 8) (N := some 49) #[true, true, true, true, true, true, true, true, true, false, false, false, false] rfl rfl (by kernel_rfl) (by decide) (fun K' hK => ?_)
  refine step_append24 w4.heap.size _ _ _ (by rfl) rfl rfl rfl (ownsRow_kept HUR.out (fun k hk => hHeld.2.2.block k (HUR.out.lt k hk).2)) rfl HN.out ⟨rfl, rfl, rfl⟩ (by omega) ?_
  intro g2 cap2 w6 hown hgrow hat hlt2
  refine hK.out _ _ ?_
  clear hK K'
  refine norm_ (a' := ?_) ?_ ?_
  rotate_left
  · show Act.put _ (some 49) _ = _
    simp only [Act.put, List.setIfInBounds_toArray, List.set_cons_zero, List.set_cons_succ, i64_w, i32_w]
    rfl
  refine pure_ (i := 9) (N := some 50) (v := ?_) (a' := ?_) #[true, true, true, true, true, true, true, true, true, true, false, false, false] rfl rfl (by kernel_rfl) (fun _ _ _ h => h) (Or.inl ⟨by rfl, ?_⟩) ?_ ?_
  rotate_left
  · intro w_
    go_simp
    with_reducible rfl
  rotate_left
  · simp only [Act.put, List.setIfInBounds_toArray, List.set_cons_zero, List.set_cons_succ, i64_w, i32_w]
    rfl
  refine pure_ (i := 10) (N := some 51) (v := ?_) (a' := ?_) #[true, true, true, true, true, true, true, true, true, true, true, false, false] rfl rfl (by kernel_rfl) (fun _ _ _ h => h) (Or.inl ⟨by rfl, ?_⟩) ?_ ?_
  rotate_left
  · intro w_
    go_simp
    with_reducible rfl
  rotate_left
  · simp only [Act.put, List.setIfInBounds_toArray, List.set_cons_zero, List.set_cons_succ, i64_w, i32_w]
    rfl
  refine pure_ (i := 11) (N := some 52) (v := ?_) (a' := ?_) #[true, true, true, true, true, true, true, true, true, true, true, true, false] rfl rfl (by kernel_rfl) (fun _ _ _ h => h) (Or.inl ⟨by rfl, ?_⟩) ?_ ?_
  rotate_left
  · intro w_
    go_simp
    with_reducible rfl
  rotate_left
  · simp only [Act.put, List.setIfInBounds_toArray, List.set_cons_zero, List.set_cons_succ, i64_w, i32_w]
    rfl
  have hB5 := hHeld.2.2
  have hg6 := (hgrow.block g (Nat.lt_of_lt_of_le (blk_lt HG.out) hB5.size) (fun e => HVG e.symm)).trans ((hB5.block g (blk_lt HG.out)).trans HG.out)
  have hc6 := (hgrow.cell hHeld.1 (fun e => HVG e.symm))
  have hf6 := blk_frozen hg6 (L0.length * 4)
  refine last_ (i := 12) (N := none) #[true, true, true, true, true, true, true, true, true, true, true, true, true] rfl rfl (by kernel_rfl) (by decide) (fun K' hK => ?_)
  refine skip_ (w1 := ?_) (by rfl) rfl ?_ ?_
  rotate_left
  · go_simp
    rfl
  refine hK.out _ _ ?_
  clear hK K'
  refine done_ (by kernel_rfl) ?_
  have hv6 : w6.ownsRow 0 24 3 (.slice (some ⟨g2, 0, none⟩) (us1.length + 1) cap2) (us1 ++ [u]).length (cUs (us1 ++ [u])) := by
    have e1 : (us1 ++ [u]).length = us1.length + 1 := by simp
    have e2 : cUs (us1 ++ [u]) = cUs us1 ++ [.int .i64 u.f0, .string u.f1, .int .i64 u.f2] := by simp [cUs, cU]
    rw [e1, e2]
    exact hown
  have hat6 : ∀ k, (Value.slice (some ⟨g2, 0, none⟩) (us1.length + 1) cap2).ownBlock = some k → v.ownBlock = some k ∨ w2.heap.size ≤ k := by
    intro k hk
    cases hk
    rcases hat with e | e
    · exact .inl e
    · exact .inr (by rw [e]; exact hB5.size)
  have HFIN := Aside0.mk (St.retop (us' := us1 ++ [u]) HST.out H2.out H3.out (Turn.grown (Turn.of_below hB5) hgrow (fun k hk => .inl (H3.out k (.inr (.inr ⟨_, List.mem_append_right _ (List.mem_singleton.2 rfl), hk⟩))))) (fun k hk hn => (hgrow.block k (Nat.lt_of_lt_of_le hk hB5.size) (fun e => hn e.symm)).trans (hB5.block k hk)) hv6 hat6)
  clear hHeld hown hgrow hat hlt2 hB5 hg6 hc6 hf6 hv6
  go_wp2_with fail
  go_ret
  refine ⟨rfl, HFIN.out.1.mono (fun k hk => ?_), HT.out.trans (HFIN.out.2.mono HF0.out)⟩
  refine More.mono (G := F) (fun k hk => ?_) (Nat.le_trans HSz.out HT2.out) (Nat.le_refl _) k hk
  rcases HF0.out k hk with e | e
  · exact .inl e
  · exact .inr ⟨e.1, Nat.lt_of_lt_of_le e.2 (HFIN.out.2.size)⟩
end Go.Proofs.Ytfahpihbbkkngaa.P

-- from the text Hq
namespace Go.Proofs.Ytfahpihbbkkngaa.P
open Go.RowKit Go.Proofs.YtfahpihbbkkngaaW.PrintWords Go.Proofs.YtfahpihbbkkngaaW.PrintLast Go.Proofs.YtfahpihbbkkngaaW.PrintMore
set_option linter.unusedVariables false
set_option linter.unusedSimpArgs false
theorem step_append73 {ops : Array Oper} {o : Oper} {a : Act} {K : Act → World → Prop} {Q : Exit → Act → World → Prop} {W : World} {s x : Operand} {fv : Value} {n : Nat} {xs : List Value} {N : Tmp} (g0 : Nat) (v b c d : Value) (hw : Region.wanted o (yielded ops a.tmps) = true) (hN : o.dst = some N) (ho : o.op = .call { callee := .builtin .append, args := #[s, x], argTypes := #[74, 74] })
    (hs : a.eval s = fv) (hrow : W.ownsRow 0 73 4 fv n xs) (hx : a.eval x = .slice (some ⟨g0, 0, none⟩) 1 1) (hb : W.heap[g0]? = some (.cells #[v, b, c, d] 73 (0, 0)))
    (h1 : v.oneCell' = true ∧ b.oneCell' = true ∧ c.oneCell' = true ∧ d.oneCell' = true) (hn : n ≤ 1000000)
    (h : ∀ g cap w', w'.ownsRow 0 73 4 (.slice (some ⟨g, 0, none⟩) (n + 1) cap) (n + 1) (xs ++ [v, b, c, d]) → W.grownBy w' fv.ownBlock → (fv.ownBlock = some g ∨ g = W.heap.size) → g < w'.heap.size → K (a.put (some N) (.slice (some ⟨g, 0, none⟩) (n + 1) cap)) w') : if Region.wanted o (yielded ops a.tmps) = true then Oper.wp Try.prog o a W K Q else K (a.put (some N) undef) W := by
  obtain ⟨i0, hi, hz0, hz1, hz2⟩ := info_parts info73
  rw [if_pos hw]
  refine wp_append_lies W s x 74 ho 0 73 i0 _ 4 56 Try.underlying74 hi hz0 hz1 hz2 rfl (by decide) fv n xs hs hrow ⟨g0, 0, none⟩ 1 1 [v, b, c, d] hx rfl
    (fun j u hj => by rw [add_plain]; exact (blk_cell hb j).trans (by simpa using hj)) (by simp [h1]) (by decide) (by simp only [maxLen]; omega) (by omega) (Nat.zero_le _) _ rfl ?_
  rw [hN]
  exact h
set_option maxRecDepth 100000 in
set_option maxHeartbeats 8000000 in
theorem begin_is (s : Nat) (c : Int) (n : ByteArray) (k : Nat) (L : List Fr) (F : Nat → Prop) (w : World) (hr : rightB c n = true) (h : St w s L F) (hk : k < L.length) (hl : L.length < 60) (hu : (L.getD k fr0).us.length ≤ 1000) :
    Calls Try.prog 16 #[.pointer (some ⟨s, 0, none⟩), .int .i64 c, .string n, .int .i64 (k : Int)] w fun e w' => (idxU c n (L.getD k fr0).us 0 = none → e = .returned (.int .i64 8) ∧ Below w.heap.size w w') ∧
      (idxU c n (L.getD k fr0).us 0 ≠ none → e = .returned (.int .i64 0) ∧ St w' s (L ++ [⟨[], c, n, (k : Int)⟩]) (More F w.heap.size w'.heap.size) ∧ Turn F w w') := by
  have HR := Aside0.mk (fun W => right_is c n W)
  rw [hr] at HR
  clear hr
  have h1 := Aside0.mk ((Below.refl w.heap.size w).alloc (Nat.le_refl _) (.cells #[.int .i64 c, .string n] 71 (0, 0)))
  have HN := Aside0.mk (blk_new w (.cells #[.int .i64 c, .string n] 71 (0, 0)))
  obtain ⟨fv, D, i1, i2, i3, _, hc, hf⟩ := h.open_
  have hDL : D.length = L.length := by rw [← i2]; simp
  obtain ⟨g, cap, v, f, rfl, hcap, hdk, y0, y1, y2, y3⟩ := i1.frame (k := k) (by omega)
  have hvr := i1.units (v, f) (List.mem_of_getElem? hdk)
  have hfL : L.getD k fr0 = f := by rw [← i2, List.getD_eq_getElem?_getD, List.getElem?_map, hdk]; rfl
  rw [hfL] at hu ⊢
  dsimp only at hvr
  have HST := Aside0.mk i1
  have H2 := Aside0.mk i2
  have H3 := Aside0.mk i3
  have HVR := Aside0.mk hvr
  have d1 : decide ((k : Int) < 0) = false := decide_eq_false (by omega)
  have d2 : decide ((L.length : Int) ≤ (k : Int)) = false := decide_eq_false (by omega)
  have d3 : decide (60 ≤ (L.length : Int)) = false := decide_eq_false (by omega)
  have k0 : (0 : Int) ≤ (k : Int) := by omega
  have k1 : (k : Int) < (L.length : Int) := by omega
  have HROW := Aside0.mk i1.row
  rw [hDL] at hc HST H3 HROW
  clear i1 i2 i3 h hvr y1 y2 y3
  go_enter Try.func16, Try.ntmps16
  go_wp2_with fail
  refine (HR.out _).mono ?_
  rintro e w1 ⟨rfl, hb⟩
  have HB := Aside0.mk (h1.out.trans (hb.mono h1.out.size))
  have HN := Aside0.mk (blk_below HN.out hb)
  have C0 := Aside0.mk hc
  replace hc := pw_cell_below HB.out hc
  replace y0 := pw_cell_below HB.out y0
  clear hb h1
  go_wp2_with fail
  refine start_ (n := 12) (S := fun W => W.cell? ⟨s, 0, none⟩ = some (.slice (some ⟨g, 0, none⟩) L.length cap) ∧ W.cell? ⟨g, k * 4, none⟩ = some v ∧ W.heap[w.heap.size]? = some (.cells #[.int .i64 c, .string n] 71 (0, 0)) ∧ Below w.heap.size w W) (ds := []) #[false, false, false, false, false, false, false, false, false, false, false, false] (by kernel_rfl) rfl rfl ⟨hc, y0, blk_drew HN.out, Below.drew HB.out⟩ (fun hHeld => ?_)
  generalize w1.drew = w2 at hHeld ⊢
  clear HN HB hc y0
  refine pure_ (i := 0) (N := some 41) (v := ?_) (a' := ?_) #[true, false, false, false, false, false, false, false, false, false, false, false] rfl rfl (by kernel_rfl) (fun _ _ _ h => h) (Or.inl ⟨by rfl, ?_⟩) ?_ ?_
  rotate_left
  · intro w_
    go_simp
    with_reducible rfl
  rotate_left
  · simp only [Act.put, List.setIfInBounds_toArray, List.set_cons_zero, List.set_cons_succ, i64_w, i32_w]
    rfl
  refine pure_ (i := 1) (N := some 42) (v := ?_) (a' := ?_) #[true, true, false, false, false, false, false, false, false, false, false, false] rfl rfl (by kernel_rfl) (fun _ _ _ h => h) (Or.inl ⟨by rfl, ?_⟩) ?_ ?_
  rotate_left
  · intro w_
    go_simp
    with_reducible rfl
  rotate_left
  · simp only [Act.put, List.setIfInBounds_toArray, List.set_cons_zero, List.set_cons_succ, i64_w, i32_w]
    rfl
  refine pure_ (i := 2) (N := some 43) (v := ?_) (a' := ?_) #[true, true, true, false, false, false, false, false, false, false, false, false] rfl rfl (by kernel_rfl) (fun _ _ _ h => h) (Or.inl ⟨by rfl, ?_⟩) ?_ ?_
  rotate_left
  · intro w_
    go_simp
    with_reducible rfl
  rotate_left
  · simp only [Act.put, List.setIfInBounds_toArray, List.set_cons_zero, List.set_cons_succ, i64_w, i32_w]
    rfl
  refine take_ (i := 3) (N := some 44) (v := ?_) (a' := ?_) #[true, true, true, true, false, false, false, false, false, false, false, false] rfl rfl (by kernel_rfl) (fun _ _ _ h => h) (Or.inl ⟨by rfl, ?_⟩) hHeld ?_ ?_
  rotate_left
  · rintro w_ ⟨s0, _⟩
    go_simp
    with_reducible rfl
  rotate_left
  · simp only [Act.put, List.setIfInBounds_toArray, List.set_cons_zero, List.set_cons_succ, i64_w, i32_w]
    rfl
  refine pure_ (i := 4) (N := some 45) (v := ?_) (a' := ?_) #[true, true, true, true, true, false, false, false, false, false, false, false] rfl rfl (by kernel_rfl) (fun _ _ _ h => h) (Or.inl ⟨by rfl, ?_⟩) ?_ ?_
  rotate_left
  · intro w_
    go_simp
    with_reducible rfl
  rotate_left
  · simp only [Act.put, List.setIfInBounds_toArray, List.set_cons_zero, List.set_cons_succ, i64_w, i32_w]
    rfl
  refine pure_ (i := 5) (N := some 46) (v := ?_) (a' := ?_) #[true, true, true, true, true, true, false, false, false, false, false, false] rfl rfl (by kernel_rfl) (fun _ _ _ h => h) (Or.inl ⟨by rfl, ?_⟩) ?_ ?_
  rotate_left
  · intro w_
    go_simp
    with_reducible rfl
  rotate_left
  · simp only [Act.put, List.setIfInBounds_toArray, List.set_cons_zero, List.set_cons_succ, i64_w, i32_w]
    rfl
  refine pure_ (i := 6) (N := some 47) (v := ?_) (a' := ?_) #[true, true, true, true, true, true, true, false, false, false, false, false] rfl rfl (by kernel_rfl) (fun _ _ _ h => h) (Or.inl ⟨by rfl, ?_⟩) ?_ ?_
  rotate_left
  · intro w_
    go_simp
    with_reducible rfl
  rotate_left
  · simp only [Act.put, List.setIfInBounds_toArray, List.set_cons_zero, List.set_cons_succ, i64_w, i32_w]
    rfl
  refine take_ (i := 7) (N := some 48) (v := ?_) (a' := ?_) #[true, true, true, true, true, true, true, true, false, false, false, false] rfl rfl (by kernel_rfl) (fun _ _ _ h => h) (Or.inl ⟨by rfl, ?_⟩) hHeld ?_ ?_
  rotate_left
  · rintro w_ ⟨_, s0, _⟩
    go_simp
    with_reducible rfl
  rotate_left
  · simp only [Act.put, List.setIfInBounds_toArray, List.set_cons_zero, List.set_cons_succ, i64_w, i32_w]
    rfl
  refine take_ (i := 8) (N := some 49) (v := ?_) (a' := ?_) #[true, true, true, true, true, true, true, true, true, false, false, false] rfl rfl (by kernel_rfl) (fun _ _ _ h => h) (Or.inl ⟨by rfl, ?_⟩) hHeld ?_ ?_
  rotate_left
  · rintro w_ ⟨_, _, hs_, _⟩
    have s0 := (blk_cell hs_ 0).trans rfl
    have s1 := (blk_cell hs_ 1).trans rfl
    go_simp
    with_reducible rfl
  rotate_left
  · simp only [Act.put, List.setIfInBounds_toArray, List.set_cons_zero, List.set_cons_succ, i64_w, i32_w]
    rfl
  refine one_ (i := 9) (N := some 50) #[true, true, true, true, true, true, true, true, true, true, false, false] rfl rfl (by kernel_rfl) (by decide) (fun K' hK => ?_)
  refine goes_ Try.func38 (by kernel_rfl) rfl #[.agg #[v], .agg #[.int .i64 c, .string n]] (by rfl) rfl rfl (by (try simp only [List.map_toArray, List.map_cons, List.map_nil]); first | done | rfl) ?_
  refine (place_is c n f.us v w2 (ownsRow_kept HVR.out (fun k hk => hHeld.2.2.2.block k (HVR.out.lt k hk).2)) (by omega)).mono ?_
  rintro e w3 ⟨rfl, hb⟩
  refine ⟨_, rfl, ?_⟩
  refine hK.out _ _ ⟨pw_cell_below hb hHeld.1, pw_cell_below hb hHeld.2.1, blk_below hHeld.2.2.1 hb, hHeld.2.2.2.trans (hb.mono hHeld.2.2.2.size)⟩ (fun hHeld => ?_)
  clear hb hK K'
  refine norm_ (a' := ?_) ?_ ?_
  rotate_left
  · show Act.put _ (some 50) _ = _
    simp only [Act.put, List.setIfInBounds_toArray, List.set_cons_zero, List.set_cons_succ, i64_w, i32_w]
    rfl
  generalize hq : idxU c n f.us 0 = q at hHeld ⊢
  cases q with
  | none =>
    unfold idxI
    dsimp only
    refine pure_ (i := 10) (N := some 51) (v := ?_) (a' := ?_) #[true, true, true, true, true, true, true, true, true, true, true, false] rfl rfl (by kernel_rfl) (fun _ _ _ h => h) (Or.inl ⟨by rfl, ?_⟩) ?_ ?_
    rotate_left
    · intro w_
      go_simp
      with_reducible rfl
    rotate_left
    · simp only [Act.put, List.setIfInBounds_toArray, List.set_cons_zero, List.set_cons_succ, i64_w, i32_w]
      rfl
    refine pure_ (i := 11) (N := some 40) (v := ?_) (a' := ?_) #[true, true, true, true, true, true, true, true, true, true, true, true] rfl rfl (by kernel_rfl) (fun _ _ _ h => h) (Or.inl ⟨by rfl, ?_⟩) ?_ ?_
    rotate_left
    · intro w_
      go_simp
      with_reducible rfl
    rotate_left
    · simp only [Act.put, List.setIfInBounds_toArray, List.set_cons_zero, List.set_cons_succ, i64_w, i32_w]
      rfl
    refine done_ (by kernel_rfl) ?_
    have HQ := Aside0.mk hq
    have HB2 := Aside0.mk hHeld.2.2.2
    clear hq hHeld
    go_wp2_with fail
    go_ret
    exact ⟨fun _ => ⟨rfl, HB2.out⟩, fun e => absurd HQ.out e⟩
  | some i =>
    have i0 : decide ((i : Int) < 0) = false := decide_eq_false (by omega)
    unfold idxI
    dsimp only
    refine pure_ (i := 10) (N := some 51) (v := ?_) (a' := ?_) #[true, true, true, true, true, true, true, true, true, true, true, false] rfl rfl (by kernel_rfl) (fun _ _ _ h => h) (Or.inl ⟨by rfl, ?_⟩) ?_ ?_
    rotate_left
    · intro w_
      go_simp
      with_reducible rfl
    rotate_left
    · simp only [Act.put, List.setIfInBounds_toArray, List.set_cons_zero, List.set_cons_succ, i64_w, i32_w]
      rfl
    refine pure_ (i := 11) (N := some 40) (v := ?_) (a' := ?_) #[true, true, true, true, true, true, true, true, true, true, true, true] rfl rfl (by kernel_rfl) (fun _ _ _ h => h) (Or.inl ⟨by rfl, ?_⟩) ?_ ?_
    rotate_left
    · intro w_
      go_simp
      with_reducible rfl
    rotate_left
    · simp only [Act.put, List.setIfInBounds_toArray, List.set_cons_zero, List.set_cons_succ, i64_w, i32_w]
      rfl
    refine done_ (by kernel_rfl) ?_
    have HQ := Aside0.mk (show idxU c n f.us 0 ≠ none by rw [hq]; simp)
    have hc := hHeld.1
    have HN := Aside0.mk hHeld.2.2.1
    have HB := Aside0.mk hHeld.2.2.2
    clear hq hHeld
    go_wp2_with fail
    refine start_ (n := 13) (S := fun W => W.cell? ⟨s, 0, none⟩ = some (.slice (some ⟨g, 0, none⟩) L.length cap) ∧ W.heap[w.heap.size]? = some (.cells #[.int .i64 c, .string n] 71 (0, 0)) ∧ Below w.heap.size w W) (ds := [9, 12]) #[false, false, false, false, false, false, false, false, false, false, false, false, false] (by kernel_rfl) rfl rfl ⟨hc, blk_drew HN.out, Below.drew HB.out⟩ (fun hHeld => ?_)
    generalize w3.drew = w4 at hHeld ⊢
    clear HN HB hc
    refine pure_ (i := 0) (N := some 52) (v := ?_) (a' := ?_) #[true, false, false, false, false, false, false, false, false, false, false, false, false] rfl rfl (by kernel_rfl) (fun _ _ _ h => h) (Or.inl ⟨by rfl, ?_⟩) ?_ ?_
    rotate_left
    · intro w_
      go_simp
      with_reducible rfl
    rotate_left
    · simp only [Act.put, List.setIfInBounds_toArray, List.set_cons_zero, List.set_cons_succ, i64_w, i32_w]
      rfl
    refine pure_ (i := 1) (N := some 53) (v := ?_) (a' := ?_) #[true, true, false, false, false, false, false, false, false, false, false, false, false] rfl rfl (by kernel_rfl) (fun _ _ _ h => h) (Or.inl ⟨by rfl, ?_⟩) ?_ ?_
    rotate_left
    · intro w_
      go_simp
      with_reducible rfl
    rotate_left
    · simp only [Act.put, List.setIfInBounds_toArray, List.set_cons_zero, List.set_cons_succ, i64_w, i32_w]
      rfl
    refine pure_ (i := 2) (N := some 54) (v := ?_) (a' := ?_) #[true, true, true, false, false, false, false, false, false, false, false, false, false] rfl rfl (by kernel_rfl) (fun _ _ _ h => h) (Or.inl ⟨by rfl, ?_⟩) ?_ ?_
    rotate_left
    · intro w_
      go_simp
      with_reducible rfl
    rotate_left
    · simp only [Act.put, List.setIfInBounds_toArray, List.set_cons_zero, List.set_cons_succ, i64_w, i32_w]
      rfl
    refine pure_ (i := 3) (N := some 55) (v := ?_) (a' := ?_) #[true, true, true, true, false, false, false, false, false, false, false, false, false] rfl rfl (by kernel_rfl) (fun _ _ _ h => h) (Or.inl ⟨by rfl, ?_⟩) ?_ ?_
    rotate_left
    · intro w_
      go_simp
      with_reducible rfl
    rotate_left
    · simp only [Act.put, List.setIfInBounds_toArray, List.set_cons_zero, List.set_cons_succ, i64_w, i32_w]
      rfl
    refine take_ (i := 4) (N := some 56) (v := ?_) (a' := ?_) #[true, true, true, true, true, false, false, false, false, false, false, false, false] rfl rfl (by kernel_rfl) (fun _ _ _ h => h) (Or.inl ⟨by rfl, ?_⟩) hHeld ?_ ?_
    rotate_left
    · rintro w_ ⟨s0, _⟩
      go_simp
      with_reducible rfl
    rotate_left
    · simp only [Act.put, List.setIfInBounds_toArray, List.set_cons_zero, List.set_cons_succ, i64_w, i32_w]
      rfl
    refine take_ (i := 5) (N := some 57) (v := ?_) (a' := ?_) #[true, true, true, true, true, true, false, false, false, false, false, false, false] rfl rfl (by kernel_rfl) (fun _ _ _ h => h) (Or.inl ⟨by rfl, ?_⟩) hHeld ?_ ?_
    rotate_left
    · rintro w_ ⟨_, hs_, _⟩
      have s0 := (blk_cell hs_ 0).trans rfl
      have s1 := (blk_cell hs_ 1).trans rfl
      go_simp
      with_reducible rfl
    rotate_left
    · simp only [Act.put, List.setIfInBounds_toArray, List.set_cons_zero, List.set_cons_succ, i64_w, i32_w]
      rfl
    refine pure_ (i := 6) (N := some 58) (v := ?_) (a' := ?_) #[true, true, true, true, true, true, true, false, false, false, false, false, false] rfl rfl (by kernel_rfl) (fun _ _ _ h => h) (Or.inl ⟨by rfl, ?_⟩) ?_ ?_
    rotate_left
    · intro w_
      go_simp
      with_reducible rfl
    rotate_left
    · simp only [Act.put, List.setIfInBounds_toArray, List.set_cons_zero, List.set_cons_succ, i64_w, i32_w]
      rfl
    refine pure_ (i := 7) (N := some 59) (v := ?_) (a' := ?_) #[true, true, true, true, true, true, true, true, false, false, false, false, false] rfl rfl (by kernel_rfl) (fun _ _ _ h => h) (Or.inl ⟨by rfl, ?_⟩) ?_ ?_
    rotate_left
    · intro w_
      go_simp
      with_reducible rfl
    rotate_left
    · simp only [Act.put, List.setIfInBounds_toArray, List.set_cons_zero, List.set_cons_succ, i64_w, i32_w]
      rfl
    refine one_ (i := 8) (N := some 60) #[true, true, true, true, true, true, true, true, true, false, false, false, false] rfl rfl (by kernel_rfl) (by decide) (fun K' hK => ?_)
    refine value_ (w1 := w4.alloc (.cells #[.slice none 0 0, .int .i64 c, .string n, .int .i64 (k : Int)] 73 (0, 0))) (v := .slice (some ⟨w4.heap.size, 0, none⟩) 1 1) (by rfl) rfl ?_ ?_
    · go_simp
    have HN := Aside0.mk (blk_new w4 (.cells #[.slice none 0 0, .int .i64 c, .string n, .int .i64 (k : Int)] 73 (0, 0)))
    have hb5 := (Below.refl w4.heap.size w4).alloc (Nat.le_refl _) (.cells #[.slice none 0 0, .int .i64 c, .string n, .int .i64 (k : Int)] 73 (0, 0))
    refine hK.out _ _ ⟨pw_cell_below hb5 hHeld.1, blk_below hHeld.2.1 hb5, hHeld.2.2.trans (hb5.mono hHeld.2.2.size)⟩ (fun hHeld => ?_)
    clear hK K'
    refine norm_ (a' := ?_) ?_ ?_
    rotate_left
    · show Act.put _ (some 60) _ = _
      simp only [Act.put, List.setIfInBounds_toArray, List.set_cons_zero, List.set_cons_succ, i64_w, i32_w]
      rfl
    refine last_ (i := 9) (N := some 61) #[true, true, true, true, true, true, true, true, true, true, false, false, false] rfl rfl (by kernel_rfl) (by decide) (fun K' hK => ?_)
    refine step_append73 w4.heap.size _ _ _ _ (by rfl) rfl rfl rfl (ownsRow_kept HROW.out (fun k hk => hHeld.2.2.block k (HROW.out.lt k hk).2)) rfl HN.out ⟨rfl, rfl, rfl, rfl⟩ (by omega) ?_
    intro g2 cap2 w6 hown hgrow hat hlt2
    refine hK.out _ _ ?_
    clear hK K'
    refine norm_ (a' := ?_) ?_ ?_
    rotate_left
    · show Act.put _ (some 61) _ = _
      simp only [Act.put, List.setIfInBounds_toArray, List.set_cons_zero, List.set_cons_succ, i64_w, i32_w]
      rfl
    refine pure_ (i := 10) (N := some 62) (v := ?_) (a' := ?_) #[true, true, true, true, true, true, true, true, true, true, true, false, false] rfl rfl (by kernel_rfl) (fun _ _ _ h => h) (Or.inl ⟨by rfl, ?_⟩) ?_ ?_
    rotate_left
    · intro w_
      go_simp
      with_reducible rfl
    rotate_left
    · simp only [Act.put, List.setIfInBounds_toArray, List.set_cons_zero, List.set_cons_succ, i64_w, i32_w]
      rfl
    refine pure_ (i := 11) (N := some 63) (v := ?_) (a' := ?_) #[true, true, true, true, true, true, true, true, true, true, true, true, false] rfl rfl (by kernel_rfl) (fun _ _ _ h => h) (Or.inl ⟨by rfl, ?_⟩) ?_ ?_
    rotate_left
    · intro w_
      go_simp
      with_reducible rfl
    rotate_left
    · simp only [Act.put, List.setIfInBounds_toArray, List.set_cons_zero, List.set_cons_succ, i64_w, i32_w]
      rfl
    have hB5 := hHeld.2.2
    have hs6 := (hgrow.block s (Nat.lt_of_lt_of_le (blk_lt HST.out.head) hB5.size) (fun e => HST.out.row_ne e.symm)).trans ((hB5.block s (blk_lt HST.out.head)).trans HST.out.head)
    have hc6 := (blk_cell hs6 0).trans rfl
    have hf6 := blk_frozen hs6 0
    refine last_ (i := 12) (N := none) #[true, true, true, true, true, true, true, true, true, true, true, true, true] rfl rfl (by kernel_rfl) (by decide) (fun K' hK => ?_)
    refine skip_ (w1 := ?_) (by rfl) rfl ?_ ?_
    rotate_left
    · go_simp
      rfl
    refine hK.out _ _ ?_
    clear hK K'
    refine done_ (by kernel_rfl) ?_
    have hown2 : w6.ownsRow 0 73 4 (.slice (some ⟨g2, 0, none⟩) (D.length + 1) cap2) (D.length + 1) (cFs D ++ cF (.slice none 0 0, ⟨[], c, n, (k : Int)⟩)) := by
      rw [hDL]
      exact hown
    have hgrow2 : (w4.alloc (.cells #[.slice none 0 0, .int .i64 c, .string n, .int .i64 (k : Int)] 73 (0, 0))).grownBy w6 (Value.slice (some ⟨g, 0, none⟩) L.length cap).ownBlock := hgrow
    have hat2 : (Value.slice (some ⟨g, 0, none⟩) L.length cap).ownBlock = some g2 ∨ g2 = (w4.alloc (.cells #[.slice none 0 0, .int .i64 c, .string n, .int .i64 (k : Int)] 73 (0, 0))).heap.size := hat
    have HFIN := Aside0.mk (St.pushed (f := ⟨[], c, n, (k : Int)⟩) HST.out H2.out H3.out rfl hB5 hown2 hgrow2 hat2 hlt2)
    rw [hDL] at HFIN
    clear hown2 hgrow2 hat2
    clear hHeld hown hgrow hat hlt2 hB5 hs6 hc6 hf6
    go_wp2_with fail
    go_ret
    exact ⟨fun e => absurd e HQ.out, fun _ => ⟨rfl, HFIN.out⟩⟩
end Go.Proofs.Ytfahpihbbkkngaa.P

-- from the text Hs
namespace Go.Proofs.Ytfahpihbbkkngaa.P
open Go.RowKit Go.Proofs.YtfahpihbbkkngaaW.PrintWords Go.Proofs.YtfahpihbbkkngaaW.PrintLast Go.Proofs.YtfahpihbbkkngaaW.PrintMore
set_option linter.unusedVariables false
set_option linter.unusedSimpArgs false
/-- No two units are for the same. -/
def Uniq (us : List S24) : Prop := us.Pairwise (fun a b => ∀ c n, hit c n a = true → hit c n b = false)
theorem hit_iff (c : Int) (n : ByteArray) (u : S24) : hit c n u = true ↔ u.f0 = c ∧ u.f1.toList = n.toList := by simp [hit]
theorem hit_self (u : S24) : hit u.f0 u.f1 u = true := by simp [hit]
theorem hit_two {c : Int} {n : ByteArray} {a u : S24} (h1 : hit c n a = true) (h2 : hit c n u = true) : hit u.f0 u.f1 a = true := by
  rw [hit_iff] at *
  exact ⟨h1.1.trans h2.1.symm, h1.2.trans h2.2.symm⟩
theorem idxU_none (c : Int) (n : ByteArray) : ∀ (us : List S24) (i : Nat), idxU c n us i = none ↔ ∀ u ∈ us, hit c n u = false
  | [], i => by simp [idxU]
  | u :: r, i => by
    rw [idxU_cons]
    cases h : hit c n u with
    | true => simp [h]
    | false =>
      rw [if_neg (by simp), idxU_none c n r (i + 1)]
      simp [h]
theorem idxU_some (c : Int) (n : ByteArray) : ∀ (us : List S24) (i k : Nat), idxU c n us i = some k → ∃ a u b, us = a ++ u :: b ∧ k = i + a.length ∧ hit c n u = true ∧ ∀ x ∈ a, hit c n x = false
  | [], i, k, h => by simp [idxU] at h
  | u :: r, i, k, h => by
    rw [idxU_cons] at h
    cases hh : hit c n u with
    | true =>
      rw [hh, if_pos rfl] at h
      cases h
      exact ⟨[], u, r, rfl, rfl, hh, by simp⟩
    | false =>
      rw [hh, if_neg (by simp)] at h
      obtain ⟨a, x, b, rfl, h1, h2, h3⟩ := idxU_some c n r (i + 1) k h
      refine ⟨u :: a, x, b, rfl, by simp; omega, h2, ?_⟩
      intro y hy
      rcases List.mem_cons.1 hy with rfl | hy
      · exact hh
      · exact h3 y hy
theorem idxU_end (c : Int) (n : ByteArray) (u : S24) (hu : hit c n u = true) : ∀ (us : List S24) (i : Nat), (∀ x ∈ us, hit c n x = false) → idxU c n (us ++ [u]) i = some (i + us.length)
  | [], i, _ => by simp [idxU, hu]
  | x :: r, i, h => by
    rw [List.cons_append, idxU_cons, if_neg (by simp [h x (by simp)]), idxU_end c n u hu r (i + 1) (fun y hy => h y (by simp [hy]))]
    simp
    omega
theorem revU_cases (c : Int) (n : ByteArray) (us : List S24) : (revU c n us = us ∧ ∀ u ∈ us, hit c n u = false) ∨ ∃ a u b, us = a ++ u :: b ∧ revU c n us = a ++ b ∧ hit c n u = true ∧ ∀ x ∈ a, hit c n x = false := by
  unfold revU
  cases h : idxU c n us 0 with
  | none => exact .inl ⟨rfl, (idxU_none c n us 0).1 h⟩
  | some k =>
    obtain ⟨a, u, b, rfl, rfl, h2, h3⟩ := idxU_some c n us 0 k h
    refine .inr ⟨a, u, b, rfl, ?_, h2, h3⟩
    simp only [Nat.zero_add, List.take_left']
    have e : (a ++ u :: b).drop (a.length + 1) = b := by
      rw [show a ++ u :: b = (a ++ [u]) ++ b by simp]
      exact List.drop_left' (by simp)
    rw [e]
theorem revU_sub (c : Int) (n : ByteArray) (us : List S24) : List.Sublist (revU c n us) us := by
  rcases revU_cases c n us with ⟨h, _⟩ | ⟨a, u, b, rfl, h, _⟩
  · rw [h]
    exact List.Sublist.refl _
  · rw [h]
    exact List.Sublist.append (List.Sublist.refl _) (List.sublist_cons_self _ _)
theorem revU_no (c : Int) (n : ByteArray) (us : List S24) (h : Uniq us) : ∀ x ∈ revU c n us, hit c n x = false := by
  rcases revU_cases c n us with ⟨e, h1⟩ | ⟨a, u, b, rfl, e, h2, h3⟩
  · rw [e]
    exact h1
  · rw [e]
    intro x hx
    rcases List.mem_append.1 hx with hx | hx
    · exact h3 x hx
    · have := (List.pairwise_append.1 h).2.1
      exact (List.pairwise_cons.1 this).1 x hx c n h2
theorem Uniq.rev {us : List S24} (h : Uniq us) (c : Int) (n : ByteArray) : Uniq (revU c n us) := List.Pairwise.sublist (revU_sub c n us) h
theorem Uniq.on {us : List S24} (h : Uniq us) (u : S24) : Uniq (revU u.f0 u.f1 us ++ [u]) := by
  refine List.pairwise_append.2 ⟨h.rev _ _, by simp, fun a ha b hb c n h1 => ?_⟩
  simp only [List.mem_singleton] at hb
  subst hb
  cases h2 : hit c n b with
  | false => rfl
  | true =>
    have := revU_no b.f0 b.f1 us h a ha
    rw [hit_two h1 h2] at this
    cases this
/-- The frames of a stack on which nothing was begun. -/
structure Flat (L : List Fr) (m : Nat) : Prop where
  pos : 1 ≤ L.length
  len : L.length ≤ 60
  plain : ∀ f ∈ L, f.bl = 0 ∧ f.rc = 0
  us : ∀ f ∈ L, f.us.length ≤ m ∧ Uniq f.us
theorem Flat.new : Flat [fr0] 0 := ⟨by simp, by simp, by simp [fr0], by simp [fr0, Uniq]⟩
theorem Flat.more {L : List Fr} {m m' : Nat} (h : Flat L m) (hm : m ≤ m') : Flat L m' := ⟨h.pos, h.len, h.plain, fun f hf => ⟨Nat.le_trans (h.us f hf).1 hm, (h.us f hf).2⟩⟩
theorem Flat.push {L : List Fr} {m : Nat} (h : Flat L m) (hl : L.length < 60) : Flat (L ++ [fr0]) m := by
  refine ⟨by simp, by simp; omega, fun f hf => ?_, fun f hf => ?_⟩
  · rcases List.mem_append.1 hf with hf | hf
    · exact h.plain f hf
    · simp only [List.mem_singleton] at hf
      subst hf
      simp [fr0]
  · rcases List.mem_append.1 hf with hf | hf
    · exact h.us f hf
    · simp only [List.mem_singleton] at hf
      subst hf
      simp [fr0, Uniq]
theorem Flat.on {L0 : List Fr} {f : Fr} {m : Nat} (h : Flat (L0 ++ [f]) m) (u : S24) : Flat (L0 ++ [{ f with us := revU u.f0 u.f1 f.us ++ [u] }]) (m + 1) := by
  have hf := h.us f (by simp)
  refine ⟨by simp, by have := h.len; simpa using this, fun g hg => ?_, fun g hg => ?_⟩
  · rcases List.mem_append.1 hg with hg | hg
    · exact h.plain g (by simp [hg])
    · simp only [List.mem_singleton] at hg
      subst hg
      exact h.plain f (by simp)
  · rcases List.mem_append.1 hg with hg | hg
    · have := h.us g (by simp [hg])
      exact ⟨by omega, this.2⟩
    · simp only [List.mem_singleton] at hg
      subst hg
      have := (revU_sub u.f0 u.f1 f.us).length_le
      exact ⟨by simp; omega, hf.2.on u⟩
/-- Where nothing runs, what is established last is met. -/
theorem fromL_flat (c : Int) (n : ByteArray) : ∀ (L : List Fr) (m : Int), (∀ f ∈ L, runs c n f = false) → fromL c n m L = m
  | [], m, _ => rfl
  | f :: r, m, h => by
    rw [fromL_cons, if_neg (by simp [h f (by simp)])]
    exact fromL_flat c n r m (fun g hg => h g (by simp [hg]))
theorem meet_top (u : S24) (L0 : List Fr) (f : Fr) (m : Nat) (h : Flat (L0 ++ [f]) m) (hr : rightB u.f0 u.f1 = true) :
    meetV (findL u.f0 u.f1 (L0 ++ [{ f with us := revU u.f0 u.f1 f.us ++ [u] }]) (fromL u.f0 u.f1 (((L0 ++ [{ f with us := revU u.f0 u.f1 f.us ++ [u] }]).length : Int) - 1) (L0 ++ [{ f with us := revU u.f0 u.f1 f.us ++ [u] }]) + 1).toNat) =
      .tuple #[.agg #[.int .i64 u.f0, .string u.f1, .int .i64 u.f2], .int .i64 (L0.length : Int), .int .i64 0] := by
  have hc : 1 ≤ u.f0 := by
    simp only [rightB, Bool.and_eq_true] at hr
    exact ((isC_iff _).1 hr.1).1
  rw [fromL_flat _ _ _ _ (fun g hg => by
    have := (h.on u).plain g hg
    unfold runs
    rw [this.2]
    simp
    omega)]
  have e : ((((L0 ++ [{ f with us := revU u.f0 u.f1 f.us ++ [u] }]).length : Int) - 1) + 1).toNat = L0.length + 1 := by simp
  rw [e]
  have hg : (L0 ++ [{ f with us := revU u.f0 u.f1 f.us ++ [u] }]).getD L0.length fr0 = { f with us := revU u.f0 u.f1 f.us ++ [u] } := by simp [List.getD]
  simp only [findL, hg]
  rw [idxU_end u.f0 u.f1 u (hit_self u) (revU u.f0 u.f1 f.us) 0 (revU_no _ _ _ (h.us f (by simp)).2)]
  simp [meetV]
theorem fromL_le (c : Int) (n : ByteArray) : ∀ (L : List Fr) (m : Int) (f : Fr), f ∈ L → runs c n f = true → fromL c n m L ≤ f.bl - 1
  | g :: r, m, f, h, hr => by
    rw [fromL_cons]
    rcases List.mem_cons.1 h with rfl | h
    · rw [if_pos hr]
      have := fromL_low c n r (if f.bl - 1 < m then f.bl - 1 else m)
      by_cases hlt : f.bl - 1 < m
      · rw [if_pos hlt] at this ⊢
        exact this
      · rw [if_neg hlt] at this ⊢
        omega
    · exact fromL_le c n r _ f h hr
where
  fromL_low (c : Int) (n : ByteArray) : ∀ (L : List Fr) (m : Int), fromL c n m L ≤ m
    | [], m => Int.le_refl _
    | g :: r, m => by
      rw [fromL_cons]
      refine Int.le_trans (fromL_low c n r _) ?_
      split <;> (try split) <;> omega
theorem findL_spec (c : Int) (n : ByteArray) (L : List Fr) : ∀ (N j : Nat) (u : S24), findL c n L N = some (j, u) → j < N ∧ idxU c n (L.getD j fr0).us 0 ≠ none ∧ hit c n u = true
  | 0, j, u, h => by cases h
  | N + 1, j, u, h => by
    simp only [findL] at h
    cases hi : idxU c n (L.getD N fr0).us 0 with
    | none =>
      rw [hi] at h
      have := findL_spec c n L N j u h
      exact ⟨by omega, this.2⟩
    | some i =>
      rw [hi] at h
      obtain ⟨a, x, b, e, rfl, h2, _⟩ := idxU_some c n _ 0 i hi
      simp only [Option.some.injEq, Prod.mk.injEq] at h
      obtain ⟨rfl, rfl⟩ := h
      refine ⟨by omega, by rw [hi]; simp, ?_⟩
      rw [e]
      simpa using h2
end Go.Proofs.Ytfahpihbbkkngaa.P

-- from the text Hd
namespace Go.Proofs.Ytfahpihbbkkngaa.P
open Go.RowKit Go.Proofs.YtfahpihbbkkngaaW.PrintWords Go.Proofs.YtfahpihbbkkngaaW.PrintLast Go.Proofs.YtfahpihbbkkngaaW.PrintMore
set_option linter.unusedVariables false
set_option linter.unusedSimpArgs false
def cond_Word.f (a0 : Int) : Option (ByteArray) := if isC a0 = true then some (rowC a0).f0 else some ⟨#[]⟩
set_option maxRecDepth 100000 in
set_option maxHeartbeats 4000000 in
theorem cond_Word.calls (a0 : Int) (r : ByteArray) (w : World) (h : cond_Word.f a0 = some r) : Calls Try.prog 21 #[.int .i64 a0] w fun e w' => e = .returned (.string r) ∧ Below w.heap.size w w' := by
  have HI := Aside0.mk (fun W => is_is a0 W)
  unfold cond_Word.f at h
  cases hC : isC a0 with
  | false =>
    rw [hC] at HI h
    rw [if_neg (by simp)] at h
    obtain rfl := Option.some.inj h
    clear hC h
    go_enter Try.func21, Try.ntmps21
    go_wp2_with fail
    refine (HI.out _).mono ?_
    rintro e w1 ⟨rfl, hb⟩
    go_wp2_with fail
    go_ret
    exact ⟨rfl, hb⟩
  | true =>
    have HX := Aside0.mk (fun W => index_is a0 hC W)
    rw [hC] at HI h
    rw [if_pos rfl] at h
    obtain rfl := Option.some.inj h
    unfold aggC at HX
    generalize rowC a0 = x at *
    clear hC h
    go_enter Try.func21, Try.ntmps21
    go_wp2_with fail
    refine (HI.out _).mono ?_
    rintro e w1 ⟨rfl, hb⟩
    go_wp2_with fail
    refine (table_is _).mono ?_
    rintro e w2 ⟨rfl, hb2⟩
    have HB := Aside0.mk (hb.trans (hb2.mono hb.size))
    clear hb hb2
    go_wp2_with (first | ((with_reducible refine gate_dst (N := 8) rfl ?_); refine wl_same rfl (ex_index rfl rfl rfl (HX.out _)) ?_) | ((with_reducible refine gate_dst (N := 9) rfl ?_); refine wl_same rfl (v := .string x.f0) (by kernel_rfl) ?_))
    go_ret
    exact ⟨rfl, HB.out⟩
end Go.Proofs.Ytfahpihbbkkngaa.P

-- from the text Hr
namespace Go.Proofs.Ytfahpihbbkkngaa.P
open Go.RowKit Go.Proofs.YtfahpihbbkkngaaW.PrintWords Go.Proofs.YtfahpihbbkkngaaW.PrintLast Go.Proofs.YtfahpihbbkkngaaW.PrintMore
set_option linter.unusedVariables false
set_option linter.unusedSimpArgs false
abbrev nm0 : ByteArray := ⟨#[]⟩
def u1 : S24 := ⟨19, nm0, 1⟩
def u2 : S24 := ⟨19, nm0, 2⟩
def f1 : Fr := ⟨[u1], 0, nm0, 0⟩
def f2 : Fr := ⟨[u2], 0, nm0, 0⟩
def f3 : Fr := ⟨[], 19, nm0, 1⟩
theorem right_19 : rightB 19 nm0 = true := by kernel_rfl
theorem hit_1 : hit 19 nm0 u1 = true := by simp [hit, u1]
theorem hit_2 : hit 19 nm0 u2 = true := by simp [hit, u2]
theorem meet_1 : meetV (findL 19 nm0 [f1, f2] (fromL 19 nm0 (([f1, f2].length : Int) - 1) [f1, f2] + 1).toNat) = .tuple #[.agg #[.int .i64 19, .string nm0, .int .i64 2], .int .i64 1, .int .i64 0] := by
  have e1 : fromL 19 nm0 (([f1, f2].length : Int) - 1) [f1, f2] = 1 := by simp [fromL, runs, f1, f2]
  rw [e1]
  have e2 : idxU 19 nm0 f2.us 0 = some 0 := by simp [idxU, f2, hit_2]
  have e3 : findL 19 nm0 [f1, f2] 2 = some (1, u2) := by simp [findL, e2]; rfl
  show meetV (findL 19 nm0 [f1, f2] 2) = _
  rw [e3]
  rfl
theorem meet_2 : meetV (findL 19 nm0 [f1, f2, f3] (fromL 19 nm0 (([f1, f2, f3].length : Int) - 1) [f1, f2, f3] + 1).toNat) = .tuple #[.agg #[.int .i64 19, .string nm0, .int .i64 1], .int .i64 0, .int .i64 0] := by
  have e1 : fromL 19 nm0 (([f1, f2, f3].length : Int) - 1) [f1, f2, f3] = 0 := by simp [fromL, runs, f1, f2, f3]
  rw [e1]
  have e2 : idxU 19 nm0 f1.us 0 = some 0 := by simp [idxU, f1, hit_1]
  have e3 : findL 19 nm0 [f1, f2, f3] 1 = some (0, u1) := by simp [findL, e2]; rfl
  show meetV (findL 19 nm0 [f1, f2, f3] 1) = _
  rw [e3]
  rfl
theorem bl_ok (L : List Fr) (h : L = [f1, f2] ∨ L = [f1, f2, f3]) : (∀ f ∈ L, 0 ≤ f.bl ∧ f.bl ≤ 1000) ∧ ∀ f ∈ L, f.us.length ≤ 1000 := by
  rcases h with rfl | rfl <;> simp [f1, f2, f3]
theorem below_of {F : Nat → Prop} {w a b : World} (hF : ∀ k, F k → w.heap.size ≤ k) (h : Below w.heap.size w a) (ht : Turn F a b) : Below w.heap.size w b := h.trans (ht.below hF h.size)
set_option maxRecDepth 100000 in
set_option maxHeartbeats 8000000 in
theorem awake_is (w : World) : Calls Try.prog 10 #[] w fun e w' => e = .returned (.bool true) ∧ Below w.heap.size w w' := by
  have hF : ∀ k, (fun k => w.heap.size ≤ k) k → w.heap.size ≤ k := fun k h => h
  go_enter Try.func10, Try.ntmps10
  go_wp2_with fail
  refine (new_is _).mono ?_
  rintro e w1 ⟨s, rfl, hst, hb⟩
  have S1 := Aside0.mk (St.mono (G := fun k => w.heap.size ≤ k) hst (fun k hk => hk.elim (fun e => e.elim) (fun e => e.1)))
  have B1 := Aside0.mk hb
  clear hst hb
  go_wp2_with fail
  refine (on_is s u1 [] fr0 _ w1 right_19 (by decide) S1.out (by simp [fr0]) (by simp)).mono ?_
  rintro e w2 ⟨rfl, hst, ht⟩
  have S2 := Aside0.mk (show St w2 s [f1] (fun k => w.heap.size ≤ k) from hst.mono (fun k hk => hk.elim id (fun e => Nat.le_trans B1.out.size e.1)))
  have B2 := Aside0.mk (below_of hF B1.out ht)
  clear hst ht
  go_wp2_with fail
  refine (push_is s [f1] _ w2 S2.out (by simp)).mono ?_
  rintro e w3 ⟨rfl, hst, ht⟩
  have S3 := Aside0.mk (show St w3 s [f1, fr0] (fun k => w.heap.size ≤ k) from hst.mono (fun k hk => hk.elim id (fun e => Nat.le_trans B2.out.size e.1)))
  have B3 := Aside0.mk (below_of hF B2.out ht)
  clear hst ht
  go_wp2_with fail
  refine (on_is s u2 [f1] fr0 _ w3 right_19 (by decide) S3.out (by simp [fr0]) (by simp)).mono ?_
  rintro e w4 ⟨rfl, hst, ht⟩
  have S4 := Aside0.mk (show St w4 s [f1, f2] (fun k => w.heap.size ≤ k) from hst.mono (fun k hk => hk.elim id (fun e => Nat.le_trans B3.out.size e.1)))
  have B4 := Aside0.mk (below_of hF B3.out ht)
  clear hst ht
  go_wp2_with fail
  refine (meet_is s 19 nm0 [f1, f2] _ w4 right_19 S4.out (by simp) (bl_ok _ (.inl rfl)).1 (bl_ok _ (.inl rfl)).2).mono ?_
  rw [meet_1]
  rintro e w5 ⟨rfl, hb⟩
  have S5 := Aside0.mk (S4.out.below hb)
  have B5 := Aside0.mk (B4.out.trans (hb.mono B4.out.size))
  clear hb
  go_wp2_with fail
  have HX := Aside0.mk (blk_new w5 (.cells #[.int .i64 19, .string nm0, .int .i64 2] 24 (0, 0)))
  have hbx := (Below.refl w5.heap.size w5).alloc (Nat.le_refl _) (.cells #[.int .i64 19, .string nm0, .int .i64 2] 24 (0, 0))
  have S6 := Aside0.mk (S5.out.cut.below hbx)
  have B6 := Aside0.mk (B5.out.trans (hbx.mono B5.out.size))
  clear hbx
  refine (begin_is s 19 nm0 1 [f1, f2] _ _ right_19 S6.out (by simp) (by simp) (by simp [f2])).mono ?_
  rintro e w6 ⟨_, hok⟩
  obtain ⟨rfl, hst, ht⟩ := hok (by simp [idxU, f2, hit_2])
  have S7 := Aside0.mk (show St w6 s [f1, f2, f3] (fun k => w.heap.size ≤ k) from hst.mono (fun k hk => hk.elim (fun e => e.1) (fun e => Nat.le_trans B6.out.size e.1)))
  have B7 := Aside0.mk (below_of (fun k hk => hk.1) B6.out ht)
  have HX := Aside0.mk ((ht.block _ (blk_lt HX.out) (fun e => absurd e.2 (Nat.lt_irrefl _))).trans HX.out)
  clear hst ht hok
  go_wp2_with fail
  refine (meet_is s 19 nm0 [f1, f2, f3] _ w6 right_19 S7.out (by simp) (bl_ok _ (.inr rfl)).1 (bl_ok _ (.inr rfl)).2).mono ?_
  rw [meet_2]
  rintro e w7 ⟨rfl, hb⟩
  have B8 := Aside0.mk (B7.out.trans (hb.mono B7.out.size))
  have HX := Aside0.mk (blk_below HX.out hb)
  have hx0 := (blk_cell HX.out 0).trans rfl
  have hx1 := (blk_cell HX.out 1).trans rfl
  have hx2 := (blk_cell HX.out 2).trans rfl
  have hg0 := blk_frozen HX.out 0
  have hg1 := blk_frozen HX.out 1
  have hg2 := blk_frozen HX.out 2
  clear hb
  go_wp2_with fail
  refine (cond_Word.calls 4 ⟨#[83, 73, 90, 69]⟩ _ (by kernel_rfl)).mono ?_
  rintro e w8 ⟨rfl, hb⟩
  go_wp2_with fail
  go_ret
  refine ⟨rfl, ?_⟩
  have h5 : w.heap.size ≤ w5.heap.size := B5.out.size
  have hs := ((B8.out.setCell (p := ⟨w5.heap.size, 0, none⟩) h5 (.int .i64 19)).setCell (p := ⟨w5.heap.size, 1, none⟩) h5 (.string nm0)).setCell (p := ⟨w5.heap.size, 2, none⟩) h5 (.int .i64 1)
  exact hs.trans (hb.mono hs.size)
end Go.Proofs.Ytfahpihbbkkngaa.P

-- from the text Q
namespace Go.Proofs.Ytfahpihbbkkngaa.P
open Go.RowKit Go.ChangeShapes Go.WideShapes Go.ChangeAt Go.Deep Go.Proofs.YtfahpihbbkkngaaW.PrintWords Go.Proofs.YtfahpihbbkkngaaW.PrintLast Go.Proofs.YtfahpihbbkkngaaW.PrintMore
set_option linter.unusedVariables false
set_option linter.unusedSimpArgs false
set_option maxRecDepth 100000
theorem list_of {α : Type} {p : Nat → α → Prop} : ∀ n : Nat, (∀ i, i < n → ∃ x, p i x) → ∃ l : List α, l.length = n ∧ ∀ i x, l[i]? = some x → p i x
  | 0, _ => ⟨[], rfl, fun i x h => by simp at h⟩
  | n + 1, h => by
    obtain ⟨l, hl, hp⟩ := list_of n (fun i hi => h i (by omega))
    obtain ⟨x, hx⟩ := h n (by omega)
    refine ⟨l ++ [x], by simp [hl], fun i y hy => ?_⟩
    rcases Nat.lt_trichotomy i n with h1 | h1 | h1
    · exact hp i y (by rw [List.getElem?_append_left (by omega)] at hy; exact hy)
    · subst h1; rw [List.getElem?_append_right (by omega), hl] at hy; simp at hy; subst hy; exact hx
    · rw [List.getElem?_eq_none (by simp; omega)] at hy; cases hy
section
variable {H : Type} {enc : TypeId × Value → H} {w : World} {base : Nat} {spare : Nat → Bool} {held : Bool} {fuel : Nat} {cs : List Value} {x : DataW H × List MemPlace}
theorem sized_any {P : Program} {t e : TypeId} {a : Option Addr} {len cap : Nat} {d : DataW H} {ps : List MemPlace} {ts : List TypeId} {ds : List (DataW H)} {j : Nat} (hsz : (DataW.weightsEach P ts ds).all (· ≤ reachBytes) = true) (ht : ts[j]? = some t) (hd : ds[j]? = some d) (hu : P.underlying t = some (.slice e)) {B : Nat} (hB : P.bytesOf e = B) (h : DataW.Trod enc P w base spare held t (.slice a len cap) d ps) : len * B ≤ 140737488351232 := by
  obtain ⟨fuel, hf⟩ := h
  rcases open_slice hu hf with ⟨hcs, _⟩ | ⟨a', len', cap', m, n, D, Pl, hcs, _, hl, _, _, hx, _⟩
  · simp [Value.cells] at hcs
    obtain ⟨rfl, rfl, rfl⟩ := hcs
    simp
  · simp [Value.cells] at hcs
    obtain ⟨rfl, rfl, rfl⟩ := hcs
    obtain ⟨hx, _⟩ := Prod.mk.inj hx
    subst hx
    have z := sized_slice hsz ht hd hu
    rw [hB, List.length_map, List.length_range] at z
    exact Nat.le_trans (Nat.mul_le_mul_right _ (Nat.le_add_right _ _)) z
def Wf71 (x : S71) : Prop := (Lit.int .i64 x.f0).wf = true ∧ x.f1.size ≤ maxLen
theorem cells71 : Try.prog.cellsOf 71 = 2 := by kernel_rfl
theorem trod71 (h : DataW.trod enc Try.prog w base spare held fuel 71 cs = some x) : ∃ s : S71, cs = [.int .i64 s.f0, .string s.f1] ∧ Wf71 s := by
  obtain ⟨xs, n, _, _, hlen, hxl, hf⟩ := DataW.trod_struct Try.underlying71 h
  rw [cells71] at hlen
  match cs, hlen, xs, hxl with
  | [c0, c1], _, [y0, y1], _ =>
    have g0 : DataW.trod enc Try.prog w base spare held n 3 (List.take (Try.prog.cellsOf 3) (List.drop 0 [c0, c1])) = some y0 := hf 0 _ rfl
    rw [show Try.prog.cellsOf 3 = 1 from by kernel_rfl] at g0
    replace g0 : DataW.trod enc Try.prog w base spare held n 3 [c0] = some y0 := g0
    have g1 : DataW.trod enc Try.prog w base spare held n 9 (List.take (Try.prog.cellsOf 9) (List.drop 1 [c0, c1])) = some y1 := hf 1 _ rfl
    rw [show Try.prog.cellsOf 9 = 1 from by kernel_rfl] at g1
    replace g1 : DataW.trod enc Try.prog w base spare held n 9 [c1] = some y1 := g1
    obtain ⟨s0, e0, -, w0⟩ := DataW.trod_int Try.underlying3 g0
    simp only [List.cons.injEq, and_true] at e0
    subst e0
    obtain ⟨s1, e1, -, w1⟩ := DataW.trod_string Try.underlying9 g1
    simp only [List.cons.injEq, and_true] at e1
    subst e1
    exact ⟨⟨s0, s1⟩, rfl, w0, w1⟩
theorem arg71 {W : World} {r : Reach} {b0 : Nat} {v : Value} {d : DataW H} {p : List MemPlace} (hv : Value.okWide Try.prog W r b0 71 v) (h : DataW.Trod enc Try.prog w base spare held 71 v d p) : ∃ s : S71, v = .agg #[.int .i64 s.f0, .string s.f1] ∧ Wf71 s := by
  obtain ⟨cs, rfl, _⟩ := okWide_struct Try.underlying71 hv
  obtain ⟨fuel, hf⟩ := h
  obtain ⟨s, e, hw⟩ := trod71 hf
  refine ⟨s, ?_, hw⟩
  have e2 : cs.toList = _ := e
  rw [← e2]
def Wf51 (x : S51) : Prop := (Lit.int .i64 x.f0).wf = true ∧ x.f1.size ≤ maxLen ∧ True
theorem cells51 : Try.prog.cellsOf 51 = 3 := by kernel_rfl
theorem trod51 (h : DataW.trod enc Try.prog w base spare held fuel 51 cs = some x) : ∃ s : S51, cs = [.int .i64 s.f0, .string s.f1, .bool s.f2] ∧ Wf51 s := by
  obtain ⟨xs, n, _, _, hlen, hxl, hf⟩ := DataW.trod_struct Try.underlying51 h
  rw [cells51] at hlen
  match cs, hlen, xs, hxl with
  | [c0, c1, c2], _, [y0, y1, y2], _ =>
    have g0 : DataW.trod enc Try.prog w base spare held n 3 (List.take (Try.prog.cellsOf 3) (List.drop 0 [c0, c1, c2])) = some y0 := hf 0 _ rfl
    rw [show Try.prog.cellsOf 3 = 1 from by kernel_rfl] at g0
    replace g0 : DataW.trod enc Try.prog w base spare held n 3 [c0] = some y0 := g0
    have g1 : DataW.trod enc Try.prog w base spare held n 9 (List.take (Try.prog.cellsOf 9) (List.drop 1 [c0, c1, c2])) = some y1 := hf 1 _ rfl
    rw [show Try.prog.cellsOf 9 = 1 from by kernel_rfl] at g1
    replace g1 : DataW.trod enc Try.prog w base spare held n 9 [c1] = some y1 := g1
    have g2 : DataW.trod enc Try.prog w base spare held n 4 (List.take (Try.prog.cellsOf 4) (List.drop 2 [c0, c1, c2])) = some y2 := hf 2 _ rfl
    rw [show Try.prog.cellsOf 4 = 1 from by kernel_rfl] at g2
    replace g2 : DataW.trod enc Try.prog w base spare held n 4 [c2] = some y2 := g2
    obtain ⟨s0, e0, -, w0⟩ := DataW.trod_int Try.underlying3 g0
    simp only [List.cons.injEq, and_true] at e0
    subst e0
    obtain ⟨s1, e1, -, w1⟩ := DataW.trod_string Try.underlying9 g1
    simp only [List.cons.injEq, and_true] at e1
    subst e1
    obtain ⟨s2, e2, -⟩ := DataW.trod_bool Try.underlying4 g2
    simp only [List.cons.injEq, and_true] at e2
    subst e2
    exact ⟨⟨s0, s1, s2⟩, rfl, w0, w1, trivial⟩
theorem arg51 {W : World} {r : Reach} {b0 : Nat} {v : Value} {d : DataW H} {p : List MemPlace} (hv : Value.okWide Try.prog W r b0 51 v) (h : DataW.Trod enc Try.prog w base spare held 51 v d p) : ∃ s : S51, v = .agg #[.int .i64 s.f0, .string s.f1, .bool s.f2] ∧ Wf51 s := by
  obtain ⟨cs, rfl, _⟩ := okWide_struct Try.underlying51 hv
  obtain ⟨fuel, hf⟩ := h
  obtain ⟨s, e, hw⟩ := trod51 hf
  refine ⟨s, ?_, hw⟩
  have e2 : cs.toList = _ := e
  rw [← e2]
def Wf24 (x : S24) : Prop := (Lit.int .i64 x.f0).wf = true ∧ x.f1.size ≤ maxLen ∧ (Lit.int .i64 x.f2).wf = true
theorem cells24 : Try.prog.cellsOf 24 = 3 := by kernel_rfl
theorem trod24 (h : DataW.trod enc Try.prog w base spare held fuel 24 cs = some x) : ∃ s : S24, cs = [.int .i64 s.f0, .string s.f1, .int .i64 s.f2] ∧ Wf24 s := by
  obtain ⟨xs, n, _, _, hlen, hxl, hf⟩ := DataW.trod_struct Try.underlying24 h
  rw [cells24] at hlen
  match cs, hlen, xs, hxl with
  | [c0, c1, c2], _, [y0, y1, y2], _ =>
    have g0 : DataW.trod enc Try.prog w base spare held n 3 (List.take (Try.prog.cellsOf 3) (List.drop 0 [c0, c1, c2])) = some y0 := hf 0 _ rfl
    rw [show Try.prog.cellsOf 3 = 1 from by kernel_rfl] at g0
    replace g0 : DataW.trod enc Try.prog w base spare held n 3 [c0] = some y0 := g0
    have g1 : DataW.trod enc Try.prog w base spare held n 9 (List.take (Try.prog.cellsOf 9) (List.drop 1 [c0, c1, c2])) = some y1 := hf 1 _ rfl
    rw [show Try.prog.cellsOf 9 = 1 from by kernel_rfl] at g1
    replace g1 : DataW.trod enc Try.prog w base spare held n 9 [c1] = some y1 := g1
    have g2 : DataW.trod enc Try.prog w base spare held n 3 (List.take (Try.prog.cellsOf 3) (List.drop 2 [c0, c1, c2])) = some y2 := hf 2 _ rfl
    rw [show Try.prog.cellsOf 3 = 1 from by kernel_rfl] at g2
    replace g2 : DataW.trod enc Try.prog w base spare held n 3 [c2] = some y2 := g2
    obtain ⟨s0, e0, -, w0⟩ := DataW.trod_int Try.underlying3 g0
    simp only [List.cons.injEq, and_true] at e0
    subst e0
    obtain ⟨s1, e1, -, w1⟩ := DataW.trod_string Try.underlying9 g1
    simp only [List.cons.injEq, and_true] at e1
    subst e1
    obtain ⟨s2, e2, -, w2⟩ := DataW.trod_int Try.underlying3 g2
    simp only [List.cons.injEq, and_true] at e2
    subst e2
    exact ⟨⟨s0, s1, s2⟩, rfl, w0, w1, w2⟩
theorem arg24 {W : World} {r : Reach} {b0 : Nat} {v : Value} {d : DataW H} {p : List MemPlace} (hv : Value.okWide Try.prog W r b0 24 v) (h : DataW.Trod enc Try.prog w base spare held 24 v d p) : ∃ s : S24, v = .agg #[.int .i64 s.f0, .string s.f1, .int .i64 s.f2] ∧ Wf24 s := by
  obtain ⟨cs, rfl, _⟩ := okWide_struct Try.underlying24 hv
  obtain ⟨fuel, hf⟩ := h
  obtain ⟨s, e, hw⟩ := trod24 hf
  refine ⟨s, ?_, hw⟩
  have e2 : cs.toList = _ := e
  rw [← e2]
def Wf29 (x : S29) : Prop := (Lit.int .u8 x.f0).wf = true ∧ (Lit.int .i64 x.f1).wf = true ∧ Wf24 x.f2
theorem cells29 : Try.prog.cellsOf 29 = 5 := by kernel_rfl
theorem trod29 (h : DataW.trod enc Try.prog w base spare held fuel 29 cs = some x) : ∃ s : S29, cs = [.int .u8 s.f0, .int .i64 s.f1, .int .i64 s.f2.f0, .string s.f2.f1, .int .i64 s.f2.f2] ∧ Wf29 s := by
  obtain ⟨xs, n, _, _, hlen, hxl, hf⟩ := DataW.trod_struct Try.underlying29 h
  rw [cells29] at hlen
  match cs, hlen, xs, hxl with
  | [c0, c1, c2, c3, c4], _, [y0, y1, y2], _ =>
    have g0 : DataW.trod enc Try.prog w base spare held n 5 (List.take (Try.prog.cellsOf 5) (List.drop 0 [c0, c1, c2, c3, c4])) = some y0 := hf 0 _ rfl
    rw [show Try.prog.cellsOf 5 = 1 from by kernel_rfl] at g0
    replace g0 : DataW.trod enc Try.prog w base spare held n 5 [c0] = some y0 := g0
    have g1 : DataW.trod enc Try.prog w base spare held n 3 (List.take (Try.prog.cellsOf 3) (List.drop 1 [c0, c1, c2, c3, c4])) = some y1 := hf 1 _ rfl
    rw [show Try.prog.cellsOf 3 = 1 from by kernel_rfl] at g1
    replace g1 : DataW.trod enc Try.prog w base spare held n 3 [c1] = some y1 := g1
    have g2 : DataW.trod enc Try.prog w base spare held n 24 (List.take (Try.prog.cellsOf 24) (List.drop 2 [c0, c1, c2, c3, c4])) = some y2 := hf 2 _ rfl
    rw [show Try.prog.cellsOf 24 = 3 from by kernel_rfl] at g2
    replace g2 : DataW.trod enc Try.prog w base spare held n 24 [c2, c3, c4] = some y2 := g2
    obtain ⟨s0, e0, -, w0⟩ := DataW.trod_int Try.underlying5 g0
    simp only [List.cons.injEq, and_true] at e0
    subst e0
    obtain ⟨s1, e1, -, w1⟩ := DataW.trod_int Try.underlying3 g1
    simp only [List.cons.injEq, and_true] at e1
    subst e1
    obtain ⟨s2, e2, w2⟩ := trod24 g2
    simp only [List.cons.injEq, and_true] at e2
    obtain ⟨rfl, rfl, rfl⟩ := e2
    exact ⟨⟨s0, s1, s2⟩, rfl, w0, w1, w2⟩
theorem arg29 {W : World} {r : Reach} {b0 : Nat} {v : Value} {d : DataW H} {p : List MemPlace} (hv : Value.okWide Try.prog W r b0 29 v) (h : DataW.Trod enc Try.prog w base spare held 29 v d p) : ∃ s : S29, v = .agg #[.int .u8 s.f0, .int .i64 s.f1, .int .i64 s.f2.f0, .string s.f2.f1, .int .i64 s.f2.f2] ∧ Wf29 s := by
  obtain ⟨cs, rfl, _⟩ := okWide_struct Try.underlying29 hv
  obtain ⟨fuel, hf⟩ := h
  obtain ⟨s, e, hw⟩ := trod29 hf
  refine ⟨s, ?_, hw⟩
  have e2 : cs.toList = _ := e
  rw [← e2]
def Wf42 (x : S42) : Prop := x.f0.size ≤ maxLen ∧ (Lit.int .i64 x.f1).wf = true ∧ True ∧ True ∧ True ∧ True ∧ (Lit.int .i64 x.f6).wf = true ∧ (Lit.int .i64 x.f7).wf = true
theorem cells42 : Try.prog.cellsOf 42 = 8 := by kernel_rfl
theorem trod42 (h : DataW.trod enc Try.prog w base spare held fuel 42 cs = some x) : ∃ s : S42, cs = [.string s.f0, .int .i64 s.f1, .bool s.f2, .bool s.f3, .bool s.f4, .bool s.f5, .int .i64 s.f6, .int .i64 s.f7] ∧ Wf42 s := by
  obtain ⟨xs, n, _, _, hlen, hxl, hf⟩ := DataW.trod_struct Try.underlying42 h
  rw [cells42] at hlen
  match cs, hlen, xs, hxl with
  | [c0, c1, c2, c3, c4, c5, c6, c7], _, [y0, y1, y2, y3, y4, y5, y6, y7], _ =>
    have g0 : DataW.trod enc Try.prog w base spare held n 9 (List.take (Try.prog.cellsOf 9) (List.drop 0 [c0, c1, c2, c3, c4, c5, c6, c7])) = some y0 := hf 0 _ rfl
    rw [show Try.prog.cellsOf 9 = 1 from by kernel_rfl] at g0
    replace g0 : DataW.trod enc Try.prog w base spare held n 9 [c0] = some y0 := g0
    have g1 : DataW.trod enc Try.prog w base spare held n 3 (List.take (Try.prog.cellsOf 3) (List.drop 1 [c0, c1, c2, c3, c4, c5, c6, c7])) = some y1 := hf 1 _ rfl
    rw [show Try.prog.cellsOf 3 = 1 from by kernel_rfl] at g1
    replace g1 : DataW.trod enc Try.prog w base spare held n 3 [c1] = some y1 := g1
    have g2 : DataW.trod enc Try.prog w base spare held n 4 (List.take (Try.prog.cellsOf 4) (List.drop 2 [c0, c1, c2, c3, c4, c5, c6, c7])) = some y2 := hf 2 _ rfl
    rw [show Try.prog.cellsOf 4 = 1 from by kernel_rfl] at g2
    replace g2 : DataW.trod enc Try.prog w base spare held n 4 [c2] = some y2 := g2
    have g3 : DataW.trod enc Try.prog w base spare held n 4 (List.take (Try.prog.cellsOf 4) (List.drop 3 [c0, c1, c2, c3, c4, c5, c6, c7])) = some y3 := hf 3 _ rfl
    rw [show Try.prog.cellsOf 4 = 1 from by kernel_rfl] at g3
    replace g3 : DataW.trod enc Try.prog w base spare held n 4 [c3] = some y3 := g3
    have g4 : DataW.trod enc Try.prog w base spare held n 4 (List.take (Try.prog.cellsOf 4) (List.drop 4 [c0, c1, c2, c3, c4, c5, c6, c7])) = some y4 := hf 4 _ rfl
    rw [show Try.prog.cellsOf 4 = 1 from by kernel_rfl] at g4
    replace g4 : DataW.trod enc Try.prog w base spare held n 4 [c4] = some y4 := g4
    have g5 : DataW.trod enc Try.prog w base spare held n 4 (List.take (Try.prog.cellsOf 4) (List.drop 5 [c0, c1, c2, c3, c4, c5, c6, c7])) = some y5 := hf 5 _ rfl
    rw [show Try.prog.cellsOf 4 = 1 from by kernel_rfl] at g5
    replace g5 : DataW.trod enc Try.prog w base spare held n 4 [c5] = some y5 := g5
    have g6 : DataW.trod enc Try.prog w base spare held n 3 (List.take (Try.prog.cellsOf 3) (List.drop 6 [c0, c1, c2, c3, c4, c5, c6, c7])) = some y6 := hf 6 _ rfl
    rw [show Try.prog.cellsOf 3 = 1 from by kernel_rfl] at g6
    replace g6 : DataW.trod enc Try.prog w base spare held n 3 [c6] = some y6 := g6
    have g7 : DataW.trod enc Try.prog w base spare held n 3 (List.take (Try.prog.cellsOf 3) (List.drop 7 [c0, c1, c2, c3, c4, c5, c6, c7])) = some y7 := hf 7 _ rfl
    rw [show Try.prog.cellsOf 3 = 1 from by kernel_rfl] at g7
    replace g7 : DataW.trod enc Try.prog w base spare held n 3 [c7] = some y7 := g7
    obtain ⟨s0, e0, -, w0⟩ := DataW.trod_string Try.underlying9 g0
    simp only [List.cons.injEq, and_true] at e0
    subst e0
    obtain ⟨s1, e1, -, w1⟩ := DataW.trod_int Try.underlying3 g1
    simp only [List.cons.injEq, and_true] at e1
    subst e1
    obtain ⟨s2, e2, -⟩ := DataW.trod_bool Try.underlying4 g2
    simp only [List.cons.injEq, and_true] at e2
    subst e2
    obtain ⟨s3, e3, -⟩ := DataW.trod_bool Try.underlying4 g3
    simp only [List.cons.injEq, and_true] at e3
    subst e3
    obtain ⟨s4, e4, -⟩ := DataW.trod_bool Try.underlying4 g4
    simp only [List.cons.injEq, and_true] at e4
    subst e4
    obtain ⟨s5, e5, -⟩ := DataW.trod_bool Try.underlying4 g5
    simp only [List.cons.injEq, and_true] at e5
    subst e5
    obtain ⟨s6, e6, -, w6⟩ := DataW.trod_int Try.underlying3 g6
    simp only [List.cons.injEq, and_true] at e6
    subst e6
    obtain ⟨s7, e7, -, w7⟩ := DataW.trod_int Try.underlying3 g7
    simp only [List.cons.injEq, and_true] at e7
    subst e7
    exact ⟨⟨s0, s1, s2, s3, s4, s5, s6, s7⟩, rfl, w0, w1, trivial, trivial, trivial, trivial, w6, w7⟩
theorem arg42 {W : World} {r : Reach} {b0 : Nat} {v : Value} {d : DataW H} {p : List MemPlace} (hv : Value.okWide Try.prog W r b0 42 v) (h : DataW.Trod enc Try.prog w base spare held 42 v d p) : ∃ s : S42, v = .agg #[.string s.f0, .int .i64 s.f1, .bool s.f2, .bool s.f3, .bool s.f4, .bool s.f5, .int .i64 s.f6, .int .i64 s.f7] ∧ Wf42 s := by
  obtain ⟨cs, rfl, _⟩ := okWide_struct Try.underlying42 hv
  obtain ⟨fuel, hf⟩ := h
  obtain ⟨s, e, hw⟩ := trod42 hf
  refine ⟨s, ?_, hw⟩
  have e2 : cs.toList = _ := e
  rw [← e2]
def Wf90 (x : S90) : Prop := (Lit.int .i64 x.f0).wf = true ∧ Wf42 x.f1
theorem cells90 : Try.prog.cellsOf 90 = 9 := by kernel_rfl
theorem trod90 (h : DataW.trod enc Try.prog w base spare held fuel 90 cs = some x) : ∃ s : S90, cs = [.int .i64 s.f0, .string s.f1.f0, .int .i64 s.f1.f1, .bool s.f1.f2, .bool s.f1.f3, .bool s.f1.f4, .bool s.f1.f5, .int .i64 s.f1.f6, .int .i64 s.f1.f7] ∧ Wf90 s := by
  obtain ⟨xs, n, _, _, hlen, hxl, hf⟩ := DataW.trod_struct Try.underlying90 h
  rw [cells90] at hlen
  match cs, hlen, xs, hxl with
  | [c0, c1, c2, c3, c4, c5, c6, c7, c8], _, [y0, y1], _ =>
    have g0 : DataW.trod enc Try.prog w base spare held n 3 (List.take (Try.prog.cellsOf 3) (List.drop 0 [c0, c1, c2, c3, c4, c5, c6, c7, c8])) = some y0 := hf 0 _ rfl
    rw [show Try.prog.cellsOf 3 = 1 from by kernel_rfl] at g0
    replace g0 : DataW.trod enc Try.prog w base spare held n 3 [c0] = some y0 := g0
    have g1 : DataW.trod enc Try.prog w base spare held n 42 (List.take (Try.prog.cellsOf 42) (List.drop 1 [c0, c1, c2, c3, c4, c5, c6, c7, c8])) = some y1 := hf 1 _ rfl
    rw [show Try.prog.cellsOf 42 = 8 from by kernel_rfl] at g1
    replace g1 : DataW.trod enc Try.prog w base spare held n 42 [c1, c2, c3, c4, c5, c6, c7, c8] = some y1 := g1
    obtain ⟨s0, e0, -, w0⟩ := DataW.trod_int Try.underlying3 g0
    simp only [List.cons.injEq, and_true] at e0
    subst e0
    obtain ⟨s1, e1, w1⟩ := trod42 g1
    simp only [List.cons.injEq, and_true] at e1
    obtain ⟨rfl, rfl, rfl, rfl, rfl, rfl, rfl, rfl⟩ := e1
    exact ⟨⟨s0, s1⟩, rfl, w0, w1⟩
theorem arg90 {W : World} {r : Reach} {b0 : Nat} {v : Value} {d : DataW H} {p : List MemPlace} (hv : Value.okWide Try.prog W r b0 90 v) (h : DataW.Trod enc Try.prog w base spare held 90 v d p) : ∃ s : S90, v = .agg #[.int .i64 s.f0, .string s.f1.f0, .int .i64 s.f1.f1, .bool s.f1.f2, .bool s.f1.f3, .bool s.f1.f4, .bool s.f1.f5, .int .i64 s.f1.f6, .int .i64 s.f1.f7] ∧ Wf90 s := by
  obtain ⟨cs, rfl, _⟩ := okWide_struct Try.underlying90 hv
  obtain ⟨fuel, hf⟩ := h
  obtain ⟨s, e, hw⟩ := trod90 hf
  refine ⟨s, ?_, hw⟩
  have e2 : cs.toList = _ := e
  rw [← e2]
theorem arg22 {W : World} {r : Reach} {b0 : Nat} {v : Value} {d : DataW H} {p : List MemPlace} (hv : Value.okWide Try.prog W r b0 22 v) (h : DataW.Trod enc Try.prog w base (fun _ => true) held 22 v d p) : ∃ (A : Option Addr) (cap : Nat) (l : List S29), v = .slice A l.length cap ∧ Kd.C k29 w A l.length l ∧ l.length ≤ cap ∧ ∀ y ∈ l, Wf29 y := by
  obtain ⟨a0, len0, cap0, rfl⟩ := okWide_slice Try.underlying22 hv
  obtain ⟨fuel, hf⟩ := h
  rcases open_slice Try.underlying22 hf with ⟨hcs, _⟩ | ⟨a, len, cap, m, n, D, Pl, hcs, _, hl, hm, hmm, _, hi⟩
  · simp [Value.cells] at hcs
    obtain ⟨rfl, rfl, rfl⟩ := hcs
    exact ⟨none, 0, [], rfl, ⟨rfl, by simp, fun h => absurd h (by simp)⟩, Nat.le_refl _, fun y hy => by cases hy⟩
  · simp [Value.cells] at hcs
    obtain ⟨rfl, rfl, rfl⟩ := hcs
    simp only [if_true] at hmm
    subst hmm
    obtain ⟨l, hll, hp⟩ := list_of (p := fun i (s : S29) => (∀ j u, ([.int .u8 s.f0, .int .i64 s.f1, .int .i64 s.f2.f0, .string s.f2.f1, .int .i64 s.f2.f2] : List Value)[j]? = some u → w.cell? (a.add (i * 5 + j)) = some u) ∧ Wf29 s) len0 (fun i him => by
      obtain ⟨cs', hc, ht⟩ := hi i (by omega)
      rw [show Try.prog.cellsOf 29 = 5 from by kernel_rfl] at hc
      obtain ⟨_, hcl, hat⟩ := World.cells?_some hc
      obtain ⟨s, rfl, hw⟩ := trod29 ht
      refine ⟨s, fun j u hj => ?_, hw⟩
      have hjn : j < 5 := by rcases Nat.lt_or_ge j 5 with h | h; exact h; rw [List.getElem?_eq_none (by simpa using h)] at hj; cases hj
      rw [← Go.Deep.add_add, hat j hjn]; exact hj)
    subst hll
    refine ⟨some a, _, l, rfl, ⟨rfl, by simp only [maxLen] at hm; omega, fun _ => ⟨a, rfl, fun j q hq => ⟨_, rfl, k29_mk w q, fun i u hu => (hp j q hq).1 i u hu⟩⟩⟩, hl, fun y hy => ?_⟩
    obtain ⟨i, hi, rfl⟩ := List.getElem_of_mem hy
    exact (hp i _ (List.getElem?_eq_getElem hi)).2
theorem arg47 {W : World} {r : Reach} {b0 : Nat} {v : Value} {d : DataW H} {p : List MemPlace} (hv : Value.okWide Try.prog W r b0 47 v) (h : DataW.Trod enc Try.prog w base (fun _ => true) held 47 v d p) : ∃ (A : Option Addr) (cap : Nat) (l : List S51), v = .slice A l.length cap ∧ Kd.C k51 w A l.length l ∧ l.length ≤ cap ∧ ∀ y ∈ l, Wf51 y := by
  obtain ⟨a0, len0, cap0, rfl⟩ := okWide_slice Try.underlying47 hv
  obtain ⟨fuel, hf⟩ := h
  rcases open_slice Try.underlying47 hf with ⟨hcs, _⟩ | ⟨a, len, cap, m, n, D, Pl, hcs, _, hl, hm, hmm, _, hi⟩
  · simp [Value.cells] at hcs
    obtain ⟨rfl, rfl, rfl⟩ := hcs
    exact ⟨none, 0, [], rfl, ⟨rfl, by simp, fun h => absurd h (by simp)⟩, Nat.le_refl _, fun y hy => by cases hy⟩
  · simp [Value.cells] at hcs
    obtain ⟨rfl, rfl, rfl⟩ := hcs
    simp only [if_true] at hmm
    subst hmm
    obtain ⟨l, hll, hp⟩ := list_of (p := fun i (s : S51) => (∀ j u, ([.int .i64 s.f0, .string s.f1, .bool s.f2] : List Value)[j]? = some u → w.cell? (a.add (i * 3 + j)) = some u) ∧ Wf51 s) len0 (fun i him => by
      obtain ⟨cs', hc, ht⟩ := hi i (by omega)
      rw [show Try.prog.cellsOf 51 = 3 from by kernel_rfl] at hc
      obtain ⟨_, hcl, hat⟩ := World.cells?_some hc
      obtain ⟨s, rfl, hw⟩ := trod51 ht
      refine ⟨s, fun j u hj => ?_, hw⟩
      have hjn : j < 3 := by rcases Nat.lt_or_ge j 3 with h | h; exact h; rw [List.getElem?_eq_none (by simpa using h)] at hj; cases hj
      rw [← Go.Deep.add_add, hat j hjn]; exact hj)
    subst hll
    refine ⟨some a, _, l, rfl, ⟨rfl, by simp only [maxLen] at hm; omega, fun _ => ⟨a, rfl, fun j q hq => ⟨_, rfl, k51_mk w q, fun i u hu => (hp j q hq).1 i u hu⟩⟩⟩, hl, fun y hy => ?_⟩
    obtain ⟨i, hi, rfl⟩ := List.getElem_of_mem hy
    exact (hp i _ (List.getElem?_eq_getElem hi)).2
theorem arg64 {W : World} {r : Reach} {b0 : Nat} {v : Value} {d : DataW H} {p : List MemPlace} (hv : Value.okWide Try.prog W r b0 64 v) (h : DataW.Trod enc Try.prog w base (fun _ => true) held 64 v d p) : ∃ (A : Option Addr) (cap : Nat) (l : List S24), v = .slice A l.length cap ∧ Kd.C k24 w A l.length l ∧ l.length ≤ cap ∧ ∀ y ∈ l, Wf24 y := by
  obtain ⟨a0, len0, cap0, rfl⟩ := okWide_slice Try.underlying64 hv
  obtain ⟨fuel, hf⟩ := h
  rcases open_slice Try.underlying64 hf with ⟨hcs, _⟩ | ⟨a, len, cap, m, n, D, Pl, hcs, _, hl, hm, hmm, _, hi⟩
  · simp [Value.cells] at hcs
    obtain ⟨rfl, rfl, rfl⟩ := hcs
    exact ⟨none, 0, [], rfl, ⟨rfl, by simp, fun h => absurd h (by simp)⟩, Nat.le_refl _, fun y hy => by cases hy⟩
  · simp [Value.cells] at hcs
    obtain ⟨rfl, rfl, rfl⟩ := hcs
    simp only [if_true] at hmm
    subst hmm
    obtain ⟨l, hll, hp⟩ := list_of (p := fun i (s : S24) => (∀ j u, ([.int .i64 s.f0, .string s.f1, .int .i64 s.f2] : List Value)[j]? = some u → w.cell? (a.add (i * 3 + j)) = some u) ∧ Wf24 s) len0 (fun i him => by
      obtain ⟨cs', hc, ht⟩ := hi i (by omega)
      rw [show Try.prog.cellsOf 24 = 3 from by kernel_rfl] at hc
      obtain ⟨_, hcl, hat⟩ := World.cells?_some hc
      obtain ⟨s, rfl, hw⟩ := trod24 ht
      refine ⟨s, fun j u hj => ?_, hw⟩
      have hjn : j < 3 := by rcases Nat.lt_or_ge j 3 with h | h; exact h; rw [List.getElem?_eq_none (by simpa using h)] at hj; cases hj
      rw [← Go.Deep.add_add, hat j hjn]; exact hj)
    subst hll
    refine ⟨some a, _, l, rfl, ⟨rfl, by simp only [maxLen] at hm; omega, fun _ => ⟨a, rfl, fun j q hq => ⟨_, rfl, k24_mk w q, fun i u hu => (hp j q hq).1 i u hu⟩⟩⟩, hl, fun y hy => ?_⟩
    obtain ⟨i, hi, rfl⟩ := List.getElem_of_mem hy
    exact (hp i _ (List.getElem?_eq_getElem hi)).2
theorem arg87 {W : World} {r : Reach} {b0 : Nat} {v : Value} {d : DataW H} {p : List MemPlace} (hv : Value.okWide Try.prog W r b0 87 v) (h : DataW.Trod enc Try.prog w base (fun _ => true) held 87 v d p) : ∃ (A : Option Addr) (cap : Nat) (l : List S90), v = .slice A l.length cap ∧ Kd.C k90 w A l.length l ∧ l.length ≤ cap ∧ ∀ y ∈ l, Wf90 y := by
  obtain ⟨a0, len0, cap0, rfl⟩ := okWide_slice Try.underlying87 hv
  obtain ⟨fuel, hf⟩ := h
  rcases open_slice Try.underlying87 hf with ⟨hcs, _⟩ | ⟨a, len, cap, m, n, D, Pl, hcs, _, hl, hm, hmm, _, hi⟩
  · simp [Value.cells] at hcs
    obtain ⟨rfl, rfl, rfl⟩ := hcs
    exact ⟨none, 0, [], rfl, ⟨rfl, by simp, fun h => absurd h (by simp)⟩, Nat.le_refl _, fun y hy => by cases hy⟩
  · simp [Value.cells] at hcs
    obtain ⟨rfl, rfl, rfl⟩ := hcs
    simp only [if_true] at hmm
    subst hmm
    obtain ⟨l, hll, hp⟩ := list_of (p := fun i (s : S90) => (∀ j u, ([.int .i64 s.f0, .string s.f1.f0, .int .i64 s.f1.f1, .bool s.f1.f2, .bool s.f1.f3, .bool s.f1.f4, .bool s.f1.f5, .int .i64 s.f1.f6, .int .i64 s.f1.f7] : List Value)[j]? = some u → w.cell? (a.add (i * 9 + j)) = some u) ∧ Wf90 s) len0 (fun i him => by
      obtain ⟨cs', hc, ht⟩ := hi i (by omega)
      rw [show Try.prog.cellsOf 90 = 9 from by kernel_rfl] at hc
      obtain ⟨_, hcl, hat⟩ := World.cells?_some hc
      obtain ⟨s, rfl, hw⟩ := trod90 ht
      refine ⟨s, fun j u hj => ?_, hw⟩
      have hjn : j < 9 := by rcases Nat.lt_or_ge j 9 with h | h; exact h; rw [List.getElem?_eq_none (by simpa using h)] at hj; cases hj
      rw [← Go.Deep.add_add, hat j hjn]; exact hj)
    subst hll
    refine ⟨some a, _, l, rfl, ⟨rfl, by simp only [maxLen] at hm; omega, fun _ => ⟨a, rfl, fun j q hq => ⟨_, rfl, k90_mk w q, fun i u hu => (hp j q hq).1 i u hu⟩⟩⟩, hl, fun y hy => ?_⟩
    obtain ⟨i, hi, rfl⟩ := List.getElem_of_mem hy
    exact (hp i _ (List.getElem?_eq_getElem hi)).2
end
end Go.Proofs.Ytfahpihbbkkngaa.P

-- from the text Pb
namespace Go.Proofs.Ytfahpihbbkkngaa.P
open Go.RowKit Go.Proofs.YtfahpihbbkkngaaW.PrintWords Go.Proofs.YtfahpihbbkkngaaW.PrintLast Go.Proofs.YtfahpihbbkkngaaW.PrintMore
set_option linter.unusedVariables false
set_option linter.unusedSimpArgs false
attribute [local go_sem high] eqA24
/-- Push, whatever there is. -/
theorem push_any (s : Nat) (L : List Fr) (F : Nat → Prop) (m : Nat) (w : World) (h : St w s L F) (hL : Flat L m) : Calls Try.prog 12 #[.pointer (some ⟨s, 0, none⟩)] w fun e w' => ∃ v L', e = .returned v ∧ Flat L' m ∧ St w' s L' (More F w.heap.size w'.heap.size) ∧ Turn F w w' := by
  by_cases hl : L.length < 60
  · exact (push_is s L F w h hl).mono fun e w' ⟨he, h1, h2⟩ => ⟨_, _, he, hL.push hl, h1, h2⟩
  · exact (push_full s L F w h (by omega)).mono fun e w' ⟨he, hb⟩ => ⟨_, L, he, hL, (h.below hb).mono (fun k hk => .inl hk), Turn.of_below hb⟩
theorem on_any (s : Nat) (u : S24) (L : List Fr) (F : Nat → Prop) (m : Nat) (w : World) (h : St w s L F) (hL : Flat L m) (hm : m ≤ 900) : Calls Try.prog 13 #[.pointer (some ⟨s, 0, none⟩), .agg #[.int .i64 u.f0, .string u.f1, .int .i64 u.f2]] w fun e w' => ∃ v L', e = .returned v ∧ Flat L' (m + 1) ∧ St w' s L' (More F w.heap.size w'.heap.size) ∧ Turn F w w' := by
  by_cases hr : rightB u.f0 u.f1 = true ∧ -2 ≤ u.f2
  · obtain ⟨L0, f, rfl⟩ : ∃ L0 f, L = L0 ++ [f] := by
      have := hL.pos
      rcases List.eq_nil_or_concat L with rfl | ⟨L0, f, rfl⟩
      · simp at this
      · exact ⟨L0, f, by simp⟩
    have hf := (hL.us f (by simp)).1
    have hlen := hL.len
    exact (on_is s u L0 f F w hr.1 hr.2 h (by omega) (by simp at hlen; omega)).mono fun e w' ⟨he, h1, h2⟩ => ⟨_, _, he, hL.on u, h1, h2⟩
  · refine (on_bad s u w ?_).mono fun e w' ⟨he, hb⟩ => ⟨_, L, he, hL.more (by omega), (h.below hb).mono (fun k hk => .inl hk), Turn.of_below hb⟩
    cases hq : rightB u.f0 u.f1 with
    | false => exact .inl rfl
    | true => exact .inr (Int.not_le.1 (fun e => hr ⟨hq, e⟩))
/-- The frame that Begin puts on top. -/
abbrev begF (c : Int) (n : ByteArray) (k : Nat) : Fr := { us := [], rc := c, rn := n, bl := (k : Int) }
/-- Frames on which Meet and Begin may be called. -/
def OkB (L : List Fr) : Prop := (∀ f ∈ L, 0 ≤ f.bl ∧ f.bl ≤ 1000) ∧ ∀ f ∈ L, f.us.length ≤ 1000
theorem Flat.okB {L : List Fr} {m : Nat} (h : Flat L m) (hm : m ≤ 1000) : OkB L := ⟨fun f hf => by rw [(h.plain f hf).1]; omega, fun f hf => Nat.le_trans (h.us f hf).1 hm⟩
theorem OkB.more {L : List Fr} (h : OkB L) (c : Int) (n : ByteArray) (k : Nat) (hk : k ≤ 1000) : OkB (L ++ [begF c n k]) := by
  refine ⟨fun f hf => ?_, fun f hf => ?_⟩
  · rcases List.mem_append.1 hf with hf | hf
    · exact h.1 f hf
    · simp only [List.mem_singleton] at hf
      subst hf
      dsimp only
      omega
  · rcases List.mem_append.1 hf with hf | hf
    · exact h.2 f hf
    · simp only [List.mem_singleton] at hf
      subst hf
      simp
theorem meet_below (c : Int) (n : ByteArray) (L : List Fr) (k : Nat) (hk : k < L.length) (hb : OkB L) :
    findL c n (L ++ [begF c n k]) (fromL c n (((L ++ [begF c n k]).length : Int) - 1) (L ++ [begF c n k]) + 1).toNat = none ∨
    ∃ j x, findL c n (L ++ [begF c n k]) (fromL c n (((L ++ [begF c n k]).length : Int) - 1) (L ++ [begF c n k]) + 1).toNat = some (j, x) ∧ j < k ∧ idxU c n ((L ++ [begF c n k]).getD j fr0).us 0 ≠ none ∧ x.f0 = c ∧ (x.f1.toList == n.toList) = true := by
  have h1 := fromL_le c n (L ++ [begF c n k]) (((L ++ [begF c n k]).length : Int) - 1) (begF c n k) (by simp) (by simp [runs])
  dsimp only at h1
  generalize fromL c n (((L ++ [begF c n k]).length : Int) - 1) (L ++ [begF c n k]) = q at *
  cases hf : findL c n (L ++ [begF c n k]) (q + 1).toNat with
  | none => exact .inl rfl
  | some r =>
    obtain ⟨j, x⟩ := r
    obtain ⟨h2, h3, h4⟩ := findL_spec _ _ _ _ _ _ hf
    have h5 := (hit_iff _ _ _).1 h4
    exact .inr ⟨j, x, rfl, by omega, h3, h5.1, by rw [h5.2]; simp⟩
set_option maxRecDepth 100000 in
set_option maxHeartbeats 8000000 in
theorem CondBelow_walk (A0 : Option Addr) (c0 : Nat) (l : List S29) (u : S24) (w : World) (hr0 : Kd.C k29 w A0 l.length l) (hc0 : l.length ≤ c0) (_ : l.length * 48 ≤ 140737488351232) (_ : ∀ y ∈ l, Wf29 y) (_ : Wf24 u) :
    Calls Try.prog 3 #[.slice A0 l.length c0, .agg #[.int .i64 u.f0, .string u.f1, .int .i64 u.f2]] w fun e w' => e = .returned (.bool true) ∧ Below w.heap.size w w' := by
  have HL := Aside0.mk hr0
  clear hr0
  have HU0 := Aside0.mk (blk_new w (.cells #[.int .i64 u.f0, .string u.f1, .int .i64 u.f2] 24 (0, 0)))
  have HB0 := Aside0.mk ((Below.refl w.heap.size w).alloc (Nat.le_refl _) (.cells #[.int .i64 u.f0, .string u.f1, .int .i64 u.f2] 24 (0, 0)))
  obtain ⟨wB, hwB⟩ : ∃ wB, w.alloc (.cells #[.int .i64 u.f0, .string u.f1, .int .i64 u.f2] 24 (0, 0)) = wB := ⟨_, rfl⟩
  have HE := Aside0.mk hwB
  rw [hwB] at HU0 HB0
  clear hwB
  have hF : ∀ k, (fun k => wB.heap.size ≤ k) k → wB.heap.size ≤ k := fun k h => h
  go_enter Try.func3, Try.ntmps3
  go_wp2_with fail
  rw [HE.out]
  refine (awake_is _).mono ?_
  rintro e w1 ⟨rfl, hb⟩
  have B1 := Aside0.mk hb
  clear hb
  by_cases hl : l.length ≤ 60
  · have hd : decide (60 < (l.length : Int)) = false := decide_eq_false (by omega)
    go_wp2_with fail
    refine (new_is _).mono ?_
    rintro e w2 ⟨s, rfl, hst, hb⟩
    have S2 := Aside0.mk (St.mono (G := fun k => wB.heap.size ≤ k) hst (fun k hk => hk.elim (fun e => e.elim) (fun e => Nat.le_trans B1.out.size e.1)))
    have B2 := Aside0.mk (B1.out.trans (hb.mono B1.out.size))
    clear hst hb hd
    go_wp2_with fail
    go_loopw [6] (fun p wr => ∃ (k : Nat) (L : List Fr), k ≤ l.length ∧ p = .int .i64 (k : Int) ∧ Aside0 (Flat L k) ∧ Aside0 (St wr s L (fun k => wB.heap.size ≤ k)) ∧ Aside0 (Below wB.heap.size wB wr)) (fun p _ => l.length - (intOf p).toNat)
    case atStart => exact ⟨0, [fr0], Nat.zero_le _, rfl, ⟨Flat.new⟩, S2, B2⟩
    case round =>
      clear S2 B2 B1
      obtain ⟨k, L, hk, rfl, HFl, S3, B3⟩ := hrel
      by_cases hlt : k < l.length
      · have hlt' : (k : Int) < (l.length : Int) := by omega
        have h0 : (0 : Int) ≤ (k : Int) := by omega
        obtain ⟨ad, rfl, x0, x1, x2, x3, x4⟩ := at_T29 HL.out (k : Int) h0 hlt'
        have HBw := Aside0.mk (HB0.out.trans (B3.out.mono HB0.out.size))
        simp only [Int.toNat_natCast] at x0 x1 x2 x3 x4
        replace x0 := pw_cell_below HBw.out x0
        replace x2 := pw_cell_below HBw.out x2
        replace x3 := pw_cell_below HBw.out x3
        replace x4 := pw_cell_below HBw.out x4
        clear x1
        generalize rd_T29 l (k : Int) = a at x0 x2 x3 x4
        obtain ⟨a0, a1, a2⟩ := a
        dsimp only at x0 x2 x3 x4
        have HP := Aside0.mk (push_any s L _ k wr S3.out HFl.out)
        have HO := Aside0.mk (on_any s a2 L _ k wr S3.out HFl.out (by omega))
        by_cases hz : Int.tmod a0 2 = 0
        · go_wp2_with fail
          refine HP.out.mono ?_
          rintro e w3 ⟨v, L', rfl, hL', hst, ht⟩
          go_wp2_with fail
          go_roundw
          case rel => exact ⟨k + 1, L', hlt, rfl, ⟨hL'.more (Nat.le_succ _)⟩, ⟨hst.mono (fun k hk => hk.elim id (fun e => Nat.le_trans B3.out.size e.1))⟩, ⟨below_of hF B3.out ht⟩⟩
          case measure => simp [intOf]; omega
        · go_wp2_with fail
          refine HO.out.mono ?_
          rintro e w3 ⟨v, L', rfl, hL', hst, ht⟩
          go_wp2_with fail
          go_roundw
          case rel => exact ⟨k + 1, L', hlt, rfl, ⟨hL'⟩, ⟨hst.mono (fun k hk => hk.elim id (fun e => Nat.le_trans B3.out.size e.1))⟩, ⟨below_of hF B3.out ht⟩⟩
          case measure => simp [intOf]; omega
      · obtain rfl : k = l.length := by omega
        have u0 := (blk_cell (blk_below HU0.out B3.out) 0).trans rfl
        have u1 := (blk_cell (blk_below HU0.out B3.out) 1).trans rfl
        have u2 := (blk_cell (blk_below HU0.out B3.out) 2).trans rfl
        have HUB := Aside0.mk (blk_below HU0.out B3.out)
        go_wp2_with fail
        by_cases hr : rightB u.f0 u.f1 = true ∧ -2 ≤ u.f2
        · obtain ⟨L0, f, rfl⟩ : ∃ L0 f, L = L0 ++ [f] := by
            have := HFl.out.pos
            rcases List.eq_nil_or_concat L with rfl | ⟨L0, f, rfl⟩
            · simp at this
            · exact ⟨L0, f, by simp⟩
          have hf := (HFl.out.us f (by simp)).1
          have hlen := HFl.out.len
          simp only [List.length_append, List.length_singleton] at hlen
          refine (on_is s u L0 f _ wr hr.1 hr.2 S3.out (by omega) (by omega)).mono ?_
          rintro e w3 ⟨rfl, hst, ht⟩
          have HMT := Aside0.mk (meet_top u L0 f l.length HFl.out hr.1)
          have HF2 := Aside0.mk (HFl.out.on u)
          have HIX := Aside0.mk (show idxU u.f0 u.f1 ((L0 ++ [{ f with us := revU u.f0 u.f1 f.us ++ [u] }]).getD L0.length fr0).us 0 ≠ none by
            have hg : (L0 ++ [{ f with us := revU u.f0 u.f1 f.us ++ [u] }]).getD L0.length fr0 = { f with us := revU u.f0 u.f1 f.us ++ [u] } := by simp [List.getD]
            rw [hg, idxU_end u.f0 u.f1 u (hit_self u) (revU u.f0 u.f1 f.us) 0 (revU_no _ _ _ (HFl.out.us f (by simp)).2)]
            simp)
          have HRB := Aside0.mk hr.1
          generalize hus : ({ f with us := revU u.f0 u.f1 f.us ++ [u] } : Fr) = f' at *
          have S4 := Aside0.mk (hst.mono (G := fun k => wB.heap.size ≤ k) (fun k hk => hk.elim id (fun e => Nat.le_trans B3.out.size e.1)))
          have B4 := Aside0.mk (below_of hF B3.out ht)
          clear hst ht u0 u1 u2 hr hus
          have HUB := Aside0.mk (blk_below HU0.out B4.out)
          have u0 := (blk_cell HUB.out 0).trans rfl
          have u1 := (blk_cell HUB.out 1).trans rfl
          have u2 := (blk_cell HUB.out 2).trans rfl
          go_wp2_with fail
          refine (meet_is s u.f0 u.f1 (L0 ++ [f']) _ w3 HRB.out S4.out (by simp; omega) (HF2.out.okB (by omega)).1 (HF2.out.okB (by omega)).2).mono ?_
          rw [HMT.out]
          rintro e w4 ⟨rfl, hb⟩
          have hb4 := (hb.alloc hb.size (.cells #[.int .i64 u.f0, .string u.f1, .int .i64 u.f2] 24 (0, 0)))
          have S5 := Aside0.mk (S4.out.below hb4)
          have B5 := Aside0.mk (B4.out.trans (hb4.mono B4.out.size))
          have HUB := Aside0.mk (blk_below HU0.out B5.out)
          have u0 := (blk_cell HUB.out 0).trans rfl
          have u1 := (blk_cell HUB.out 1).trans rfl
          have u2 := (blk_cell HUB.out 2).trans rfl
          have hw1 : wrap64 ((L0.length : Int) + 1 - 1) = (L0.length : Int) := by unfold wrap64; omega
          clear hb hb4
          go_wp2_with fail
          refine (depth_is s (L0 ++ [f']) _ _ S5.out).mono ?_
          rintro e w5 ⟨rfl, hb⟩
          have S6 := Aside0.mk (S5.out.below hb)
          have B6 := Aside0.mk (B5.out.trans (hb.mono B5.out.size))
          clear hb u0 u1 u2
          go_wp2_with fail
          go_loopw [8] (fun p wr => ∃ (L : List Fr) (k : Nat), p = .int .i64 (k : Int) ∧ k < L.length ∧ L.length ≤ 60 ∧ Aside0 (OkB L) ∧ Aside0 (idxU u.f0 u.f1 (L.getD k fr0).us 0 ≠ none) ∧ Aside0 (St wr s L (fun k => wB.heap.size ≤ k)) ∧ Aside0 (Below wB.heap.size wB wr)) (fun p _ => (intOf p).toNat)
          case atStart => exact ⟨L0 ++ [f'], L0.length, rfl, by simp, by simp; omega, ⟨HF2.out.okB (by omega)⟩, HIX, S6, B6⟩
          case round =>
            clear S6 B6 S5 B5 S4 B4 HIX HF2 HMT
            obtain ⟨L, k, rfl, hk, hl60, HOB, HIX, S7, B7⟩ := hrel
            have HD := Aside0.mk (depth_is s L _ wr S7.out)
            by_cases hlt : L.length < 60
            · have hd6 : decide ((L.length : Int) < 60) = true := decide_eq_true (by omega)
              go_wp2_with fail
              refine HD.out.mono ?_
              rintro e w6 ⟨rfl, hb⟩
              have S8 := Aside0.mk (S7.out.below hb)
              have B8 := Aside0.mk (B7.out.trans (hb.mono B7.out.size))
              have HUB := Aside0.mk (blk_below HU0.out B8.out)
              have u0 := (blk_cell HUB.out 0).trans rfl
              have u1 := (blk_cell HUB.out 1).trans rfl
              clear hb HD
              go_wp2_with fail
              have hul : (L.getD k fr0).us.length ≤ 1000 := by
                rw [List.getD_eq_getElem?_getD, List.getElem?_eq_getElem hk]
                exact HOB.out.2 _ (List.getElem_mem hk)
              refine (begin_is s u.f0 u.f1 k L _ w6 HRB.out S8.out hk hlt hul).mono ?_
              rintro e w7 ⟨_, hok⟩
              obtain ⟨rfl, hst, ht⟩ := hok HIX.out
              have S9 := Aside0.mk (hst.mono (G := fun k => wB.heap.size ≤ k) (fun k hk => hk.elim id (fun e => Nat.le_trans B8.out.size e.1)))
              have B9 := Aside0.mk (below_of hF B8.out ht)
              clear hst ht hok u0 u1 hd6
              have HUB := Aside0.mk (blk_below HU0.out B9.out)
              have u0 := (blk_cell HUB.out 0).trans rfl
              have u1 := (blk_cell HUB.out 1).trans rfl
              have hOB2 := HOB.out.more u.f0 u.f1 k (by omega)
              have HME := Aside0.mk (meet_is s u.f0 u.f1 (L ++ [begF u.f0 u.f1 k]) _ w7 HRB.out S9.out (by simp; omega) hOB2.1 hOB2.2)
              have HOB2 := Aside0.mk hOB2
              have HMB := meet_below u.f0 u.f1 L k hk HOB.out
              have hlen2 : (L ++ [begF u.f0 u.f1 k]).length = L.length + 1 := by simp
              clear hOB2
              go_wp2_with fail
              refine HME.out.mono ?_
              rcases HMB with hm | ⟨j, x, hm, hj, hi, hx0, hx1⟩
              · rw [hm]
                rintro e w8 ⟨rfl, hb⟩
                unfold meetV
                clear HME
                go_wp2_with fail
                go_ret
                have hb8 := (hb.alloc hb.size (.cells #[.int .i64 0, .string ⟨#[]⟩, .int .i64 0] 24 (0, 0)))
                exact ⟨rfl, HB0.out.trans ((B9.out.trans (hb8.mono B9.out.size)).mono HB0.out.size)⟩
              · rw [hm]
                rintro e w8 ⟨rfl, hb⟩
                unfold meetV
                have hb8 := (hb.alloc hb.size (.cells #[.int .i64 x.f0, .string x.f1, .int .i64 x.f2] 24 (0, 0)))
                have S10 := Aside0.mk (S9.out.below hb8)
                have B10 := Aside0.mk (B9.out.trans (hb8.mono B9.out.size))
                have HUB := Aside0.mk (blk_below HU0.out B10.out)
                have u0 := (blk_cell HUB.out 0).trans rfl
                have u1 := (blk_cell HUB.out 1).trans rfl
                have hjk : decide ((k : Int) ≤ (j : Int)) = false := decide_eq_false (by omega)
                have hjkn : decide (k ≤ j) = false := decide_eq_false (by omega)
                have hx2 : (x.f0 != u.f0) = false := by rw [hx0]; simp
                clear hb hb8 HME hx0
                go_wp2_with fail
                exact ⟨⟨L ++ [begF u.f0 u.f1 k], j, rfl, by omega, by omega, HOB2, ⟨hi⟩, S10, B10⟩, by simp [intOf]; omega⟩
            · have hd6 : decide ((L.length : Int) < 60) = false := decide_eq_false (by omega)
              have hd7 : decide (L.length < 60) = false := decide_eq_false (by omega)
              go_wp2_with fail
              refine HD.out.mono ?_
              rintro e w6 ⟨rfl, hb⟩
              go_wp2_with fail
              go_ret
              exact ⟨rfl, HB0.out.trans ((B7.out.trans (hb.mono B7.out.size)).mono HB0.out.size)⟩
        · refine (on_bad s u wr ?_).mono ?_
          · cases hq : rightB u.f0 u.f1 with
            | false => exact .inl rfl
            | true => exact .inr (Int.not_le.1 (fun e => hr ⟨hq, e⟩))
          · rintro e w3 ⟨rfl, hb⟩
            go_wp2_with fail
            go_ret
            exact ⟨rfl, HB0.out.trans ((B3.out.trans (hb.mono B3.out.size)).mono HB0.out.size)⟩
  · have hd : decide (60 < (l.length : Int)) = true := decide_eq_true (by omega)
    go_wp2_with fail
    go_ret
    exact ⟨rfl, HB0.out.trans (B1.out.mono HB0.out.size)⟩
end Go.Proofs.Ytfahpihbbkkngaa.P
