/- Part 2 of the proof of the law CondApplies: functions, contracts and plain laws; merged by this session's program. -/
import Derived.Test.YtfahpihbbkkngaaProg
import Derived.Below
import Derived.Deep.Draws
import Derived.Deep.AppendLies
import Derived.Maps.AppendAt
import Derived.OwnWalk
import Derived.Laws.BytesArg
import Derived.Laws.MakeOwn
import Derived.Laws.OwnMore
import Derived.Deep.OwnRows
import Derived.Tactics
import Derived.Lib.ConvBytes
import Derived.Laws.Slices
import Derived.WalkKit
import Derived.KernelRfl
import Derived.RowKit3
import Derived.Deep.LoopGhost
import Derived.Deep.QuietTactic
import Derived.BigQuiet
import Derived.WideLaws
import Derived.Deep.DeepCutAuto
import Derived.Deep.CutBlock
import Derived.Deep.RegionHeld3
import Derived.Laws.Rows
import Derived.Lib.AppendStr
import Derived.ArgAppend
import Derived.Laws.IdiomCopy
import Derived.OrdersHeld
import Derived.Laws.BitsLemmas
import Derived.RowKit
import Derived.WalkSpells
import Derived.WalkLawsBesides
import Derived.Lib.Hide
import Derived.IntWalk
import Derived.Laws.EntriesVeiled
import Derived.Deep.WholeRow
import Derived.Laws.CopyOwn
import Derived.MapKept
import Derived.Test.YtfahpihbbkkngaaMCondApplies1
-- from the text K
namespace Go.Proofs.Ytfahpihbbkkngaa.P
open Go.RowKit Go.Proofs.YtfahpihbbkkngaaW.PrintWords Go.Proofs.YtfahpihbbkkngaaW.PrintLast Go.Proofs.YtfahpihbbkkngaaW.PrintMore
theorem blk_six {w : World} {g : Nat} {t : TypeId} {a b c d e f : Value} (h : w.heap[g]? = some (.cells #[a, b, c, d, e, f] t (0, 0))) : w.cell? ⟨g, 0, none⟩ = some a ∧ w.cell? ⟨g, 1, none⟩ = some b ∧ w.cell? ⟨g, 2, none⟩ = some c ∧ w.cell? ⟨g, 3, none⟩ = some d ∧ w.cell? ⟨g, 4, none⟩ = some e ∧ w.cell? ⟨g, 5, none⟩ = some f :=
  ⟨(blk_cell h 0).trans rfl, (blk_cell h 1).trans rfl, (blk_cell h 2).trans rfl, (blk_cell h 3).trans rfl, (blk_cell h 4).trans rfl, (blk_cell h 5).trans rfl⟩
theorem blk_six_free {w : World} {g : Nat} {t : TypeId} {cs : Array Value} (h : w.heap[g]? = some (.cells cs t (0, 0))) : w.frozen? ⟨g, 0, none⟩ = false ∧ w.frozen? ⟨g, 1, none⟩ = false ∧ w.frozen? ⟨g, 2, none⟩ = false ∧ w.frozen? ⟨g, 3, none⟩ = false ∧ w.frozen? ⟨g, 4, none⟩ = false ∧ w.frozen? ⟨g, 5, none⟩ = false :=
  ⟨blk_frozen h 0, blk_frozen h 1, blk_frozen h 2, blk_frozen h 3, blk_frozen h 4, blk_frozen h 5⟩
theorem blk_quad {w : World} {g : Nat} {t : TypeId} {a b c d : Value} (h : w.heap[g]? = some (.cells #[a, b, c, d] t (0, 0))) : w.cell? ⟨g, 0, none⟩ = some a ∧ w.cell? ⟨g, 1, none⟩ = some b ∧ w.cell? ⟨g, 2, none⟩ = some c ∧ w.cell? ⟨g, 3, none⟩ = some d :=
  ⟨(blk_cell h 0).trans rfl, (blk_cell h 1).trans rfl, (blk_cell h 2).trans rfl, (blk_cell h 3).trans rfl⟩
theorem blk_quad_free {w : World} {g : Nat} {t : TypeId} {cs : Array Value} (h : w.heap[g]? = some (.cells cs t (0, 0))) : w.frozen? ⟨g, 0, none⟩ = false ∧ w.frozen? ⟨g, 1, none⟩ = false ∧ w.frozen? ⟨g, 2, none⟩ = false ∧ w.frozen? ⟨g, 3, none⟩ = false :=
  ⟨blk_frozen h 0, blk_frozen h 1, blk_frozen h 2, blk_frozen h 3⟩
/-- What stands in a world stands in what is made of it by allocations and draws. -/
class Kp (w0 : outParam World) (w : World) : Prop where
  k : ∀ {g : Nat} {o : Obj}, w0.heap[g]? = some o → w.heap[g]? = some o
instance (priority := 10) kp_refl (w : World) : Kp w w := ⟨id⟩
instance kp_drewN (w0 w : World) (n : Nat) [i : Kp w0 w] : Kp w0 (w.drewN n) := ⟨fun h => blk_drewN (i.k h) n⟩
instance kp_drew (w0 w : World) [i : Kp w0 w] : Kp w0 w.drew := ⟨fun h => blk_drew (i.k h)⟩
instance kp_alloc (w0 w : World) (o : Obj) [i : Kp w0 w] : Kp w0 (w.alloc o) := ⟨fun h => blk_alloc (i.k h) o⟩
theorem zk {w0 w : World} {g : Nat} {o : Obj} [i : Kp w0 w] (h : w0.heap[g]? = some o) : w.heap[g]? = some o := i.k h
end Go.Proofs.Ytfahpihbbkkngaa.P
namespace Go.Proofs.Ytfahpihbbkkngaa.P
open Go.RowKit Go.Proofs.YtfahpihbbkkngaaW.PrintWords Go.Proofs.YtfahpihbbkkngaaW.PrintLast Go.Proofs.YtfahpihbbkkngaaW.PrintMore
attribute [local go_sem] max2_int min2_int max_two min_two max_three min_three max_four min_four   -- for this text's walks alone
set_option linter.unusedVariables false
set_option linter.unusedSimpArgs false
def errW : Option Int → Value
  | none => .nilIface
  | some c => .iface 0 (.int .i64 c)
theorem errW_none : errW none = .nilIface := rfl
theorem errW_some (c : Int) : errW (some c) = .iface 0 (.int .i64 c) := rfl
theorem info24 : (Try.prog.info? 24).map (fun i => (i.zero, i.size, i.bytes)) = some (some (.agg #[(.int .i64 0), (.string ⟨#[]⟩), (.int .i64 0)]), 3, 32) := by kernel_rfl
theorem info51 : (Try.prog.info? 51).map (fun i => (i.zero, i.size, i.bytes)) = some (some (.agg #[(.int .i64 0), (.string ⟨#[]⟩), (.bool false)]), 3, 32) := by kernel_rfl
theorem info73 : (Try.prog.info? 73).map (fun i => (i.zero, i.size, i.bytes)) = some (some (.agg #[(.slice none 0 0), (.int .i64 0), (.string ⟨#[]⟩), (.int .i64 0)]), 4, 56) := by kernel_rfl
structure S24 where
  f0 : Int
  f1 : ByteArray
  f2 : Int
def z24 : S24 := ⟨(0 : Int), (⟨#[]⟩ : ByteArray), (0 : Int)⟩
def k24 : Kd S24 := Kd.iso (Kd.pair (Kd.int .i64) (Kd.pair Kd.string (Kd.int .i64))) (fun x : S24 => (x.f0, x.f1, x.f2))
theorem k24_mk (w : World) (x : S24)  : k24.K w x [.int .i64 x.f0, .string x.f1, .int .i64 x.f2] := ⟨[.int .i64 x.f0], [.string x.f1, .int .i64 x.f2], rfl, rfl, ⟨[.string x.f1], [.int .i64 x.f2], rfl, rfl, rfl⟩⟩
structure S69 where
  f0 : (List S24)
structure S71 where
  f0 : Int
  f1 : ByteArray
structure S73 where
  f0 : S69
  f1 : S71
  f2 : Int
structure S42 where
  f0 : ByteArray
  f1 : Int
  f2 : Bool
  f3 : Bool
  f4 : Bool
  f5 : Bool
  f6 : Int
  f7 : Int
def z42 : S42 := ⟨(⟨#[]⟩ : ByteArray), (0 : Int), false, false, false, false, (0 : Int), (0 : Int)⟩
def k42 : Kd S42 := Kd.iso (Kd.pair Kd.string (Kd.pair (Kd.int .i64) (Kd.pair Kd.bool (Kd.pair Kd.bool (Kd.pair Kd.bool (Kd.pair Kd.bool (Kd.pair (Kd.int .i64) (Kd.int .i64)))))))) (fun x : S42 => (x.f0, x.f1, x.f2, x.f3, x.f4, x.f5, x.f6, x.f7))
theorem k42_open {w : World} {x : S42} {cs : List Value} (h : k42.K w x cs) : cs = [.string x.f0, .int .i64 x.f1, .bool x.f2, .bool x.f3, .bool x.f4, .bool x.f5, .int .i64 x.f6, .int .i64 x.f7] := by
  obtain ⟨_, _, rfl, rfl, ⟨_, _, rfl, rfl, ⟨_, _, rfl, rfl, ⟨_, _, rfl, rfl, ⟨_, _, rfl, rfl, ⟨_, _, rfl, rfl, ⟨_, _, rfl, rfl, rfl⟩⟩⟩⟩⟩⟩⟩ := h
  exact rfl
theorem k42_mk (w : World) (x : S42)  : k42.K w x [.string x.f0, .int .i64 x.f1, .bool x.f2, .bool x.f3, .bool x.f4, .bool x.f5, .int .i64 x.f6, .int .i64 x.f7] := ⟨[.string x.f0], [.int .i64 x.f1, .bool x.f2, .bool x.f3, .bool x.f4, .bool x.f5, .int .i64 x.f6, .int .i64 x.f7], rfl, rfl, ⟨[.int .i64 x.f1], [.bool x.f2, .bool x.f3, .bool x.f4, .bool x.f5, .int .i64 x.f6, .int .i64 x.f7], rfl, rfl, ⟨[.bool x.f2], [.bool x.f3, .bool x.f4, .bool x.f5, .int .i64 x.f6, .int .i64 x.f7], rfl, rfl, ⟨[.bool x.f3], [.bool x.f4, .bool x.f5, .int .i64 x.f6, .int .i64 x.f7], rfl, rfl, ⟨[.bool x.f4], [.bool x.f5, .int .i64 x.f6, .int .i64 x.f7], rfl, rfl, ⟨[.bool x.f5], [.int .i64 x.f6, .int .i64 x.f7], rfl, rfl, ⟨[.int .i64 x.f6], [.int .i64 x.f7], rfl, rfl, rfl⟩⟩⟩⟩⟩⟩⟩
theorem k42_mkM (w : World) (base : Nat) (ok : Nat → Prop) (x : S42)  : k42.M w base ok x [.string x.f0, .int .i64 x.f1, .bool x.f2, .bool x.f3, .bool x.f4, .bool x.f5, .int .i64 x.f6, .int .i64 x.f7] := ⟨[.string x.f0], [.int .i64 x.f1, .bool x.f2, .bool x.f3, .bool x.f4, .bool x.f5, .int .i64 x.f6, .int .i64 x.f7], rfl, rfl, ⟨[.int .i64 x.f1], [.bool x.f2, .bool x.f3, .bool x.f4, .bool x.f5, .int .i64 x.f6, .int .i64 x.f7], rfl, rfl, ⟨[.bool x.f2], [.bool x.f3, .bool x.f4, .bool x.f5, .int .i64 x.f6, .int .i64 x.f7], rfl, rfl, ⟨[.bool x.f3], [.bool x.f4, .bool x.f5, .int .i64 x.f6, .int .i64 x.f7], rfl, rfl, ⟨[.bool x.f4], [.bool x.f5, .int .i64 x.f6, .int .i64 x.f7], rfl, rfl, ⟨[.bool x.f5], [.int .i64 x.f6, .int .i64 x.f7], rfl, rfl, ⟨[.int .i64 x.f6], [.int .i64 x.f7], rfl, rfl, rfl⟩⟩⟩⟩⟩⟩⟩
structure S90 where
  f0 : Int
  f1 : S42
def z90 : S90 := ⟨(0 : Int), z42⟩
def k90 : Kd S90 := Kd.iso (Kd.pair (Kd.int .i64) k42) (fun x : S90 => (x.f0, x.f1))
theorem k90_open {w : World} {x : S90} {cs : List Value} (h : k90.K w x cs) : cs = [.int .i64 x.f0, .string x.f1.f0, .int .i64 x.f1.f1, .bool x.f1.f2, .bool x.f1.f3, .bool x.f1.f4, .bool x.f1.f5, .int .i64 x.f1.f6, .int .i64 x.f1.f7] := by
  obtain ⟨_, _, rfl, rfl, s1⟩ := h
  obtain rfl := k42_open s1
  exact rfl
theorem k90_mk (w : World) (x : S90)  : k90.K w x [.int .i64 x.f0, .string x.f1.f0, .int .i64 x.f1.f1, .bool x.f1.f2, .bool x.f1.f3, .bool x.f1.f4, .bool x.f1.f5, .int .i64 x.f1.f6, .int .i64 x.f1.f7] := ⟨[.int .i64 x.f0], [.string x.f1.f0, .int .i64 x.f1.f1, .bool x.f1.f2, .bool x.f1.f3, .bool x.f1.f4, .bool x.f1.f5, .int .i64 x.f1.f6, .int .i64 x.f1.f7], rfl, rfl, (k42_mk w x.f1 )⟩
theorem k90_mkM (w : World) (base : Nat) (ok : Nat → Prop) (x : S90)  : k90.M w base ok x [.int .i64 x.f0, .string x.f1.f0, .int .i64 x.f1.f1, .bool x.f1.f2, .bool x.f1.f3, .bool x.f1.f4, .bool x.f1.f5, .int .i64 x.f1.f6, .int .i64 x.f1.f7] := ⟨[.int .i64 x.f0], [.string x.f1.f0, .int .i64 x.f1.f1, .bool x.f1.f2, .bool x.f1.f3, .bool x.f1.f4, .bool x.f1.f5, .int .i64 x.f1.f6, .int .i64 x.f1.f7], rfl, rfl, (k42_mkM w base ok x.f1 )⟩
def rd_T90 (xs : List S90) (i : Int) : S90 := xs.getD i.toNat z90
theorem at_T90 {w : World} {A : Option Addr} {n : Nat} {xs : List S90} (h : Kd.C k90 w A n xs) (i : Int) (h0 : 0 ≤ i) (h1 : i < n) : ∃ ad , A = some ad ∧ w.cell? (ad.add (i.toNat * 9)) = some (.int .i64 (rd_T90 xs i).f0) ∧ w.cell? ⟨(ad.add (i.toNat * 9)).block, (ad.add (i.toNat * 9)).off + 1, none⟩ = some (.string (rd_T90 xs i).f1.f0) ∧ w.cell? ⟨(ad.add (i.toNat * 9)).block, (ad.add (i.toNat * 9)).off + 2, none⟩ = some (.int .i64 (rd_T90 xs i).f1.f1) ∧ w.cell? ⟨(ad.add (i.toNat * 9)).block, (ad.add (i.toNat * 9)).off + 3, none⟩ = some (.bool (rd_T90 xs i).f1.f2) ∧ w.cell? ⟨(ad.add (i.toNat * 9)).block, (ad.add (i.toNat * 9)).off + 4, none⟩ = some (.bool (rd_T90 xs i).f1.f3) ∧ w.cell? ⟨(ad.add (i.toNat * 9)).block, (ad.add (i.toNat * 9)).off + 5, none⟩ = some (.bool (rd_T90 xs i).f1.f4) ∧ w.cell? ⟨(ad.add (i.toNat * 9)).block, (ad.add (i.toNat * 9)).off + 6, none⟩ = some (.bool (rd_T90 xs i).f1.f5) ∧ w.cell? ⟨(ad.add (i.toNat * 9)).block, (ad.add (i.toNat * 9)).off + 7, none⟩ = some (.int .i64 (rd_T90 xs i).f1.f6) ∧ w.cell? ⟨(ad.add (i.toNat * 9)).block, (ad.add (i.toNat * 9)).off + 8, none⟩ = some (.int .i64 (rd_T90 xs i).f1.f7) := by
  obtain ⟨ad, c, e, _, hK, hc0⟩ := Kd.C_get h z90 i h0 h1
  have hc : ∀ j u, c[j]? = some u → w.cell? (ad.add (i.toNat * 9 + j)) = some u := hc0
  obtain rfl := k90_open hK
  exact ⟨ad, e, hc 0 _ rfl, by rw [← add_field _ _ 1 (by omega)]; exact hc 1 _ rfl, by rw [← add_field _ _ 2 (by omega)]; exact hc 2 _ rfl, by rw [← add_field _ _ 3 (by omega)]; exact hc 3 _ rfl, by rw [← add_field _ _ 4 (by omega)]; exact hc 4 _ rfl, by rw [← add_field _ _ 5 (by omega)]; exact hc 5 _ rfl, by rw [← add_field _ _ 6 (by omega)]; exact hc 6 _ rfl, by rw [← add_field _ _ 7 (by omega)]; exact hc 7 _ rfl, by rw [← add_field _ _ 8 (by omega)]; exact hc 8 _ rfl⟩
structure S51 where
  f0 : Int
  f1 : ByteArray
  f2 : Bool
def z51 : S51 := ⟨(0 : Int), (⟨#[]⟩ : ByteArray), false⟩
def k51 : Kd S51 := Kd.iso (Kd.pair (Kd.int .i64) (Kd.pair Kd.string Kd.bool)) (fun x : S51 => (x.f0, x.f1, x.f2))
theorem k51_open {w : World} {x : S51} {cs : List Value} (h : k51.K w x cs) : cs = [.int .i64 x.f0, .string x.f1, .bool x.f2] := by
  obtain ⟨_, _, rfl, rfl, ⟨_, _, rfl, rfl, rfl⟩⟩ := h
  exact rfl
theorem k51_mk (w : World) (x : S51)  : k51.K w x [.int .i64 x.f0, .string x.f1, .bool x.f2] := ⟨[.int .i64 x.f0], [.string x.f1, .bool x.f2], rfl, rfl, ⟨[.string x.f1], [.bool x.f2], rfl, rfl, rfl⟩⟩
theorem k51_mkM (w : World) (base : Nat) (ok : Nat → Prop) (x : S51)  : k51.M w base ok x [.int .i64 x.f0, .string x.f1, .bool x.f2] := ⟨[.int .i64 x.f0], [.string x.f1, .bool x.f2], rfl, rfl, ⟨[.string x.f1], [.bool x.f2], rfl, rfl, rfl⟩⟩
def rd_T51 (xs : List S51) (i : Int) : S51 := xs.getD i.toNat z51
theorem at_T51 {w : World} {A : Option Addr} {n : Nat} {xs : List S51} (h : Kd.C k51 w A n xs) (i : Int) (h0 : 0 ≤ i) (h1 : i < n) : ∃ ad , A = some ad ∧ w.cell? (ad.add (i.toNat * 3)) = some (.int .i64 (rd_T51 xs i).f0) ∧ w.cell? ⟨(ad.add (i.toNat * 3)).block, (ad.add (i.toNat * 3)).off + 1, none⟩ = some (.string (rd_T51 xs i).f1) ∧ w.cell? ⟨(ad.add (i.toNat * 3)).block, (ad.add (i.toNat * 3)).off + 2, none⟩ = some (.bool (rd_T51 xs i).f2) := by
  obtain ⟨ad, c, e, _, hK, hc0⟩ := Kd.C_get h z51 i h0 h1
  have hc : ∀ j u, c[j]? = some u → w.cell? (ad.add (i.toNat * 3 + j)) = some u := hc0
  obtain rfl := k51_open hK
  exact ⟨ad, e, hc 0 _ rfl, by rw [← add_field _ _ 1 (by omega)]; exact hc 1 _ rfl, by rw [← add_field _ _ 2 (by omega)]; exact hc 2 _ rfl⟩
structure S94 where
  f0 : (List S24)
  f1 : Bool
  f2 : Int
  f3 : ByteArray
  f4 : Int
structure S29 where
  f0 : Int
  f1 : Int
  f2 : S24
def k29 : Kd S29 := Kd.iso (Kd.pair (Kd.int .u8) (Kd.pair (Kd.int .i64) k24)) (fun x : S29 => (x.f0, x.f1, x.f2))
theorem k29_mk (w : World) (x : S29)  : k29.K w x [.int .u8 x.f0, .int .i64 x.f1, .int .i64 x.f2.f0, .string x.f2.f1, .int .i64 x.f2.f2] := ⟨[.int .u8 x.f0], [.int .i64 x.f1, .int .i64 x.f2.f0, .string x.f2.f1, .int .i64 x.f2.f2], rfl, rfl, ⟨[.int .i64 x.f1], [.int .i64 x.f2.f0, .string x.f2.f1, .int .i64 x.f2.f2], rfl, rfl, (k24_mk w x.f2 )⟩⟩
structure S55 where
  f0 : (List S94)
structure S76 where
  f0 : (List S73)
theorem eqA71 (d : Nat) (w : World) (x0 y0 : Int) (x1 y1 : ByteArray) :
    (Op.equalIn (d + 2) 71 (.agg #[.int .i64 x0, .string x1]) (.agg #[.int .i64 y0, .string y1])).run Try.prog w = .ok (x0 == y0 && (x1.toList == y1.toList)) w := by
  refine eqA_of Try.underlying71 (by kernel_rfl) ?_
  refine eqf_cons (by rfl) (by go_simp; rfl) (by go_simp; rfl) (by go_simp) ?_
  exact eqf_last (by rfl) (by go_simp; rfl) (by go_simp; rfl) (by go_simp)
end Go.Proofs.Ytfahpihbbkkngaa.P

-- from the text Ha
namespace Go.Proofs.Ytfahpihbbkkngaa.P
open Go.RowKit Go.Proofs.YtfahpihbbkkngaaW.PrintWords Go.Proofs.YtfahpihbbkkngaaW.PrintLast Go.Proofs.YtfahpihbbkkngaaW.PrintMore
set_option linter.unusedVariables false
set_option linter.unusedSimpArgs false
/-- The table before its last assignment, and behind it. -/
def abs0 : List S42 := [⟨⟨#[]⟩, 0, false, false, false, false, 0, 0⟩,
  ⟨⟨#[67, 79, 78, 86, 69, 82, 83, 73, 79, 78]⟩, 600, true, true, false, false, 1, 2⟩,
  ⟨⟨#[70, 73, 88, 69, 68, 79, 86, 69, 82, 70, 76, 79, 87]⟩, 310, true, true, false, false, 1, 1⟩,
  ⟨⟨#[79, 86, 69, 82, 70, 76, 79, 87]⟩, 300, true, true, false, false, 1, 1⟩,
  ⟨⟨#[83, 73, 90, 69]⟩, 340, false, true, false, false, 1, 1⟩,
  ⟨⟨#[83, 84, 82, 73, 78, 71, 82, 65, 78, 71, 69]⟩, 350, false, true, false, false, 2, 1⟩,
  ⟨⟨#[83, 84, 82, 73, 78, 71, 83, 73, 90, 69]⟩, 150, false, true, false, false, 2, 1⟩,
  ⟨⟨#[83, 85, 66, 83, 67, 82, 73, 80, 84, 82, 65, 78, 71, 69]⟩, 520, false, true, false, false, 1, 3⟩,
  ⟨⟨#[85, 78, 68, 69, 82, 70, 76, 79, 87]⟩, 330, true, true, false, false, 2, 1⟩,
  ⟨⟨#[90, 69, 82, 79, 68, 73, 86, 73, 68, 69]⟩, 320, true, true, false, false, 1, 1⟩,
  ⟨⟨#[69, 78, 68, 70, 73, 76, 69]⟩, 70, true, false, true, false, 1, 1⟩,
  ⟨⟨#[69, 78, 68, 80, 65, 71, 69]⟩, 90, true, false, true, false, 2, 1⟩,
  ⟨⟨#[75, 69, 89]⟩, 50, true, false, true, false, 1, 1⟩,
  ⟨⟨#[82, 69, 67, 79, 82, 68]⟩, 20, true, false, true, false, 1, 1⟩,
  ⟨⟨#[78, 65, 77, 69]⟩, 10, true, false, true, false, 2, 1⟩,
  ⟨⟨#[85, 78, 68, 69, 70, 73, 78, 69, 68, 70, 73, 76, 69]⟩, 80, true, false, true, false, 1, 1⟩,
  ⟨⟨#[65, 82, 69, 65]⟩, 360, true, false, false, false, 1, 2⟩,
  ⟨⟨#[83, 84, 79, 82, 65, 71, 69]⟩, 450, true, false, false, false, 1, 1⟩,
  ⟨⟨#[67, 79, 78, 68, 73, 84, 73, 79, 78]⟩, 500, true, false, false, false, 2, 1⟩,
  ⟨⟨#[69, 82, 82, 79, 82]⟩, 9, true, false, false, false, 3, 4⟩,
  ⟨⟨#[70, 73, 78, 73, 83, 72]⟩, 4, true, false, false, false, 3, 4⟩]
def abs1 : List S42 := abs0.set 18 ⟨⟨#[67, 79, 78, 68, 73, 84, 73, 79, 78]⟩, 500, true, false, false, true, 2, 1⟩
def cellsA (x : S42) : List Value := [.string x.f0, .int .i64 x.f1, .bool x.f2, .bool x.f3, .bool x.f4, .bool x.f5, .int .i64 x.f6, .int .i64 x.f7]
def tab0 : Array Value := (abs0.flatMap cellsA).toArray
def tab1 : Array Value := (abs1.flatMap cellsA).toArray
section
variable {P : Program} {ops : Array Oper} {rest : List Oper} {o : Oper} {a : Act} {Q : Exit → Act → World → Prop} {W w1 : World}
theorem wl_val {v : Value} (hg : o.guard = none) (hrun : (execOp a.eval o).run P W = .ok (.value v) w1) (h : wpList P ops Q rest (a.put o.dst v) w1) : wpList P ops Q (o :: rest) a W := by
  refine wpList_plain hg fun K hK => ?_
  unfold Oper.wp
  rw [hrun]
  exact hK _ _ h
theorem wl_same {v : Value} (hg : o.guard = none) (hrun : (execOp a.eval o).run P W = .ok (.value v) W) (h : wpList P ops Q rest (a.put o.dst v) W) : wpList P ops Q (o :: rest) a W := wl_val hg hrun h
theorem wl_skip (hg : o.guard = none) (hrun : (execOp a.eval o).run P W = .ok .skip w1) (h : wpList P ops Q rest (a.put o.dst undef) w1) : wpList P ops Q (o :: rest) a W := by
  refine wpList_plain hg fun K hK => ?_
  unfold Oper.wp
  rw [hrun]
  exact hK _ _ h
theorem results_c {fn : Func} {p : Tmp} {ty : TypeId} (h : fn.results = #[.cell p ty]) (tmps : Array Value) (w : World) (g : Nat) (t : TypeId) (cs : Array Value) (fr : Nat × Nat) (d : TypeDesc)
    (hp : tmps.getD p undef = .pointer (some ⟨g, 0, none⟩)) (hg : w.heap[g]? = some (.cells cs t fr))
    (hu : P.underlying ty = some d) (hd : (match d with | .struct _ | .array _ _ => true | _ => false) = true) (hi : (P.info? ty).map (·.size) = some cs.size) :
    (results fn tmps).run P w = .ok (.agg cs) w := by
  have hp' : tmps[p]?.getD undef = .pointer (some ⟨g, 0, none⟩) := by simpa using hp
  simp [results, h, hp', asAddr, run_loadVar_row w g t ty cs fr d hg hu hd hi]
theorem ex_load {t : TypeId} {p : Operand} {g : Nat} {c : Array Value} {d : TypeDesc} {fr : Nat × Nat} {u : TypeId} (ho : o.op = .load t p) (hp : a.eval p = .pointer (some ⟨g, 0, none⟩)) (hrow : W.heap[g]? = some (.cells c u fr))
    (hu : P.underlying t = some d) (hd : (match d with | .struct _ | .array _ _ => true | _ => false) = true) (hi : (P.info? t).map (·.size) = some c.size) : (execOp a.eval o).run P W = .ok (.value (.agg c)) W := by
  have h := run_loadVar_row (P := P) W g u t c fr d hrow hu hd hi
  simp only [execOp, ho, hp, Instr.loadAt, Instr.sureAddr, Sem.run_bind, Sem.run_pure, Result.andThen, h]
theorem ex_store {t : TypeId} {p x : Operand} {g : Nat} {old c : Array Value} {u : TypeId} (ho : o.op = .store t p x) (hp : a.eval p = .pointer (some ⟨g, 0, none⟩)) (hx : a.eval x = .agg c) (hrow : W.heap[g]? = some (.cells old u (0, 0)))
    (hi : (P.info? t).map (·.size) = some c.size) (hs : old.size = c.size) (h1 : c.all (·.oneCell') = true) : (execOp a.eval o).run P W = .ok .skip (W.setRow g c) := by
  have h := run_storeVar_row (P := P) W g u t old c hrow hi hs h1
  simp only [execOp, ho, hp, hx, Instr.storeAt, Instr.sureAddr, Sem.run_bind, Sem.run_pure, Result.andThen, h]
end
set_option maxRecDepth 100000 in
set_option maxHeartbeats 4000000 in
theorem t1_is (a : ByteArray) (b : Int) (c : Bool) (d : Int) (k : Int) (w : World) : Calls Try.prog 60 #[.string a, .int .i64 b, .bool c, .int .i64 d, .int .i64 k] w fun e w' => e = .returned (.agg #[.string a, .int .i64 b, .bool c, .bool true, .bool false, .bool false, .int .i64 d, .int .i64 k]) ∧ Below w.heap.size w w' := by
  have hB := (Below.refl w.heap.size w).alloc (Nat.le_refl _) (.cells #[.string a, .int .i64 b, .bool c, .bool true, .bool false, .bool false, .int .i64 d, .int .i64 k] 42 (0, 0))
  go_enter Try.func60, Try.ntmps60
  go_wp2
  have hO := blk_new w (.cells #[.string a, .int .i64 b, .bool c, .bool true, .bool false, .bool false, .int .i64 d, .int .i64 k] 42 (0, 0))
  generalize w.alloc (.cells #[.string a, .int .i64 b, .bool c, .bool true, .bool false, .bool false, .int .i64 d, .int .i64 k] 42 (0, 0)) = W at *
  have o0 := (blk_cell hO 0).trans rfl
  have o1 := (blk_cell hO 1).trans rfl
  have o2 := (blk_cell hO 2).trans rfl
  have o3 := (blk_cell hO 3).trans rfl
  have o4 := (blk_cell hO 4).trans rfl
  have o5 := (blk_cell hO 5).trans rfl
  have o6 := (blk_cell hO 6).trans rfl
  have o7 := (blk_cell hO 7).trans rfl
  refine bodyPost_ret (v := .agg #[.string a, .int .i64 b, .bool c, .bool true, .bool false, .bool false, .int .i64 d, .int .i64 k]) (by simp [results, Try.results60, go_sem, o0, o1, o2, o3, o4, o5, o6, o7]) rfl ⟨rfl, hB⟩
set_option maxRecDepth 100000 in
set_option maxHeartbeats 4000000 in
theorem t2_is (a : ByteArray) (b : Int) (d : Int) (w : World) : Calls Try.prog 61 #[.string a, .int .i64 b, .int .i64 d] w fun e w' => e = .returned (.agg #[.string a, .int .i64 b, .bool true, .bool false, .bool true, .bool false, .int .i64 d, .int .i64 1]) ∧ Below w.heap.size w w' := by
  have hB := (Below.refl w.heap.size w).alloc (Nat.le_refl _) (.cells #[.string a, .int .i64 b, .bool true, .bool false, .bool true, .bool false, .int .i64 d, .int .i64 1] 42 (0, 0))
  go_enter Try.func61, Try.ntmps61
  go_wp2
  have hO := blk_new w (.cells #[.string a, .int .i64 b, .bool true, .bool false, .bool true, .bool false, .int .i64 d, .int .i64 1] 42 (0, 0))
  generalize w.alloc (.cells #[.string a, .int .i64 b, .bool true, .bool false, .bool true, .bool false, .int .i64 d, .int .i64 1] 42 (0, 0)) = W at *
  have o0 := (blk_cell hO 0).trans rfl
  have o1 := (blk_cell hO 1).trans rfl
  have o2 := (blk_cell hO 2).trans rfl
  have o3 := (blk_cell hO 3).trans rfl
  have o4 := (blk_cell hO 4).trans rfl
  have o5 := (blk_cell hO 5).trans rfl
  have o6 := (blk_cell hO 6).trans rfl
  have o7 := (blk_cell hO 7).trans rfl
  refine bodyPost_ret (v := .agg #[.string a, .int .i64 b, .bool true, .bool false, .bool true, .bool false, .int .i64 d, .int .i64 1]) (by simp [results, Try.results61, go_sem, o0, o1, o2, o3, o4, o5, o6, o7]) rfl ⟨rfl, hB⟩
set_option maxRecDepth 100000 in
set_option maxHeartbeats 4000000 in
theorem t3_is (a : ByteArray) (b : Int) (d : Int) (k : Int) (w : World) : Calls Try.prog 62 #[.string a, .int .i64 b, .int .i64 d, .int .i64 k] w fun e w' => e = .returned (.agg #[.string a, .int .i64 b, .bool true, .bool false, .bool false, .bool false, .int .i64 d, .int .i64 k]) ∧ Below w.heap.size w w' := by
  have hB := (Below.refl w.heap.size w).alloc (Nat.le_refl _) (.cells #[.string a, .int .i64 b, .bool true, .bool false, .bool false, .bool false, .int .i64 d, .int .i64 k] 42 (0, 0))
  go_enter Try.func62, Try.ntmps62
  go_wp2
  have hO := blk_new w (.cells #[.string a, .int .i64 b, .bool true, .bool false, .bool false, .bool false, .int .i64 d, .int .i64 k] 42 (0, 0))
  generalize w.alloc (.cells #[.string a, .int .i64 b, .bool true, .bool false, .bool false, .bool false, .int .i64 d, .int .i64 k] 42 (0, 0)) = W at *
  have o0 := (blk_cell hO 0).trans rfl
  have o1 := (blk_cell hO 1).trans rfl
  have o2 := (blk_cell hO 2).trans rfl
  have o3 := (blk_cell hO 3).trans rfl
  have o4 := (blk_cell hO 4).trans rfl
  have o5 := (blk_cell hO 5).trans rfl
  have o6 := (blk_cell hO 6).trans rfl
  have o7 := (blk_cell hO 7).trans rfl
  refine bodyPost_ret (v := .agg #[.string a, .int .i64 b, .bool true, .bool false, .bool false, .bool false, .int .i64 d, .int .i64 k]) (by simp [results, Try.results62, go_sem, o0, o1, o2, o3, o4, o5, o6, o7]) rfl ⟨rfl, hB⟩
set_option maxRecDepth 100000 in
set_option maxHeartbeats 4000000 in
theorem table_is (w : World) : Calls Try.prog 40 #[] w fun e w' => e = .returned (.agg tab1) ∧ Below w.heap.size w w' := by
  have hmf : ∀ (fn : Fn) (first cap : Array Value) (w : World), (Instr.makeFunc fn first cap).run Try.prog w = .ok (.func fn first cap) w := fun _ _ _ _ => rfl
  go_enter Try.func40, Try.ntmps40
  go_wp2_with fail
  have HZ := Aside0.mk (blk_new w (.cells Try.zeroCells83 83 (0, 0)))
  have HB := Aside0.mk ((Below.refl w.heap.size w).alloc (Nat.le_refl _) (.cells Try.zeroCells83 83 (0, 0)))
  refine (t1_is _ _ _ _ _ _).mono ?_
  rintro e w1 ⟨rfl, hb⟩
  have HZ := Aside0.mk (blk_below HZ.out hb)
  have HB := Aside0.mk (HB.out.trans (hb.mono HB.out.size))
  clear hb
  go_wp2_with fail
  refine (t1_is _ _ _ _ _ _).mono ?_
  rintro e w2 ⟨rfl, hb⟩
  have HZ := Aside0.mk (blk_below HZ.out hb)
  have HB := Aside0.mk (HB.out.trans (hb.mono HB.out.size))
  clear hb
  go_wp2_with fail
  refine (t1_is _ _ _ _ _ _).mono ?_
  rintro e w3 ⟨rfl, hb⟩
  have HZ := Aside0.mk (blk_below HZ.out hb)
  have HB := Aside0.mk (HB.out.trans (hb.mono HB.out.size))
  clear hb
  go_wp2_with fail
  refine (t1_is _ _ _ _ _ _).mono ?_
  rintro e w4 ⟨rfl, hb⟩
  have HZ := Aside0.mk (blk_below HZ.out hb)
  have HB := Aside0.mk (HB.out.trans (hb.mono HB.out.size))
  clear hb
  go_wp2_with fail
  refine (t1_is _ _ _ _ _ _).mono ?_
  rintro e w5 ⟨rfl, hb⟩
  have HZ := Aside0.mk (blk_below HZ.out hb)
  have HB := Aside0.mk (HB.out.trans (hb.mono HB.out.size))
  clear hb
  go_wp2_with fail
  refine (t1_is _ _ _ _ _ _).mono ?_
  rintro e w6 ⟨rfl, hb⟩
  have HZ := Aside0.mk (blk_below HZ.out hb)
  have HB := Aside0.mk (HB.out.trans (hb.mono HB.out.size))
  clear hb
  go_wp2_with fail
  refine (t1_is _ _ _ _ _ _).mono ?_
  rintro e w7 ⟨rfl, hb⟩
  have HZ := Aside0.mk (blk_below HZ.out hb)
  have HB := Aside0.mk (HB.out.trans (hb.mono HB.out.size))
  clear hb
  go_wp2_with fail
  refine (t1_is _ _ _ _ _ _).mono ?_
  rintro e w8 ⟨rfl, hb⟩
  have HZ := Aside0.mk (blk_below HZ.out hb)
  have HB := Aside0.mk (HB.out.trans (hb.mono HB.out.size))
  clear hb
  go_wp2_with fail
  refine (t1_is _ _ _ _ _ _).mono ?_
  rintro e w9 ⟨rfl, hb⟩
  have HZ := Aside0.mk (blk_below HZ.out hb)
  have HB := Aside0.mk (HB.out.trans (hb.mono HB.out.size))
  clear hb
  go_wp2_with fail
  refine (t2_is _ _ _ _).mono ?_
  rintro e w10 ⟨rfl, hb⟩
  have HZ := Aside0.mk (blk_below HZ.out hb)
  have HB := Aside0.mk (HB.out.trans (hb.mono HB.out.size))
  clear hb
  go_wp2_with fail
  refine (t2_is _ _ _ _).mono ?_
  rintro e w11 ⟨rfl, hb⟩
  have HZ := Aside0.mk (blk_below HZ.out hb)
  have HB := Aside0.mk (HB.out.trans (hb.mono HB.out.size))
  clear hb
  go_wp2_with fail
  refine (t2_is _ _ _ _).mono ?_
  rintro e w12 ⟨rfl, hb⟩
  have HZ := Aside0.mk (blk_below HZ.out hb)
  have HB := Aside0.mk (HB.out.trans (hb.mono HB.out.size))
  clear hb
  go_wp2_with fail
  refine (t2_is _ _ _ _).mono ?_
  rintro e w13 ⟨rfl, hb⟩
  have HZ := Aside0.mk (blk_below HZ.out hb)
  have HB := Aside0.mk (HB.out.trans (hb.mono HB.out.size))
  clear hb
  go_wp2_with fail
  refine (t2_is _ _ _ _).mono ?_
  rintro e w14 ⟨rfl, hb⟩
  have HZ := Aside0.mk (blk_below HZ.out hb)
  have HB := Aside0.mk (HB.out.trans (hb.mono HB.out.size))
  clear hb
  go_wp2_with fail
  refine (t2_is _ _ _ _).mono ?_
  rintro e w15 ⟨rfl, hb⟩
  have HZ := Aside0.mk (blk_below HZ.out hb)
  have HB := Aside0.mk (HB.out.trans (hb.mono HB.out.size))
  clear hb
  go_wp2_with fail
  refine (t3_is _ _ _ _ _).mono ?_
  rintro e w16 ⟨rfl, hb⟩
  have HZ := Aside0.mk (blk_below HZ.out hb)
  have HB := Aside0.mk (HB.out.trans (hb.mono HB.out.size))
  clear hb
  go_wp2_with fail
  refine (t3_is _ _ _ _ _).mono ?_
  rintro e w17 ⟨rfl, hb⟩
  have HZ := Aside0.mk (blk_below HZ.out hb)
  have HB := Aside0.mk (HB.out.trans (hb.mono HB.out.size))
  clear hb
  go_wp2_with fail
  refine (t3_is _ _ _ _ _).mono ?_
  rintro e w18 ⟨rfl, hb⟩
  have HZ := Aside0.mk (blk_below HZ.out hb)
  have HB := Aside0.mk (HB.out.trans (hb.mono HB.out.size))
  clear hb
  go_wp2_with fail
  refine (t3_is _ _ _ _ _).mono ?_
  rintro e w19 ⟨rfl, hb⟩
  have HZ := Aside0.mk (blk_below HZ.out hb)
  have HB := Aside0.mk (HB.out.trans (hb.mono HB.out.size))
  clear hb
  go_wp2_with fail
  refine (t3_is _ _ _ _ _).mono ?_
  rintro e w20 ⟨rfl, hb⟩
  have HZ := Aside0.mk (blk_below HZ.out hb)
  have HB := Aside0.mk (HB.out.trans (hb.mono HB.out.size))
  clear hb
  have T1 := Aside0.mk (blk_new w20 (.cells tab0 83 (0, 0)))
  have Z1 := Aside0.mk (blk_alloc HZ.out (.cells tab0 83 (0, 0)))
  have B1 := Aside0.mk (HB.out.alloc (Below.size HB.out) (.cells tab0 83 (0, 0)))
  have N1 := Aside0.mk (Nat.ne_of_lt (blk_lt HZ.out))
  have G1 := Aside0.mk (Below.size HB.out)
  clear HZ HB
  go_wp2_with (first | ((with_reducible refine gate_dst (N := 45) rfl ?_); refine wl_same rfl (v := .agg tab0) (by kernel_rfl) ?_) | ((with_reducible refine gate_store (t := 83) (p := 4) rfl ?_); refine wl_skip rfl (ex_store rfl rfl rfl (blk_new _ _) (by kernel_rfl) (by kernel_rfl) (by kernel_rfl)) ?_; rw [World.setRow_alloc_new]; generalize w20.alloc (.cells tab0 83 (0, 0)) = W1 at T1 Z1 B1 ⊢; have hc := (blk_cell T1.out 149).trans (show tab0[149]? = some (.bool false) by kernel_rfl); have hf := blk_frozen T1.out 149; have T2 := Aside0.mk (blk_put (cs := tab0) (cs' := tab1) T1.out 149 (.bool true) (by kernel_rfl)); have Z2 := Aside0.mk (blk_far Z1.out (p := ⟨w20.heap.size, 149, none⟩) N1.out (.bool true)); have B2 := Aside0.mk (B1.out.setCell (p := ⟨w20.heap.size, 149, none⟩) G1.out (.bool true))) | ((with_reducible refine gate_dst (N := 48) rfl ?_); refine wl_same rfl (v := .agg tab1) (ex_load rfl rfl T2.out Try.underlying83 rfl (by kernel_rfl)) ?_) | ((with_reducible refine gate_store (t := 83) (p := 0) rfl ?_); refine wl_skip rfl (ex_store rfl rfl rfl Z2.out (by kernel_rfl) (by kernel_rfl) (by kernel_rfl)) ?_; have Z3 := Aside0.mk (setRow_heap _ _ _ tab1 _ _ Z2.out); have B3 := Aside0.mk (below_setRow B2.out (Nat.le_refl _) tab1); clear T2 Z2 B2 hc hf))
  refine bodyPost_ret (results_c (cs := tab1) rfl _ _ _ _ _ _ rfl Z3.out Try.underlying83 rfl (by kernel_rfl)) rfl ⟨rfl, ?_⟩
  first | exact B3.out | exact Below.drew B3.out
end Go.Proofs.Ytfahpihbbkkngaa.P

-- from the text Hc
namespace Go.Proofs.Ytfahpihbbkkngaa.P
open Go.RowKit Go.Proofs.YtfahpihbbkkngaaW.PrintWords Go.Proofs.YtfahpihbbkkngaaW.PrintLast Go.Proofs.YtfahpihbbkkngaaW.PrintMore
set_option linter.unusedVariables false
set_option linter.unusedSimpArgs false
/-- Whether there is a condition of this number. -/
def isC (c : Int) : Bool := decide (1 ≤ c) && decide (c ≤ 20)
theorem isC_iff (c : Int) : isC c = true ↔ 1 ≤ c ∧ c ≤ 20 := by simp [isC]
theorem is_is (c : Int) (w : World) : Calls Try.prog 39 #[.int .i64 c] w fun e w' => e = .returned (.bool (isC c)) ∧ Below w.heap.size w w' := by
  unfold isC
  by_cases h1 : 1 ≤ c
  · have h1b : decide (1 ≤ c) = true := decide_eq_true h1
    go_enter Try.func39, Try.ntmps39
    go_wp2
    go_ret
    exact ⟨by simp [h1b], Below.refl _ _⟩
  · have h1b : decide (1 ≤ c) = false := decide_eq_false h1
    go_enter Try.func39, Try.ntmps39
    go_wp2
    go_ret
    exact ⟨by simp [h1b], Below.refl _ _⟩
/-- The row of a condition. -/
def rowC (c : Int) : S42 := abs1.getD c.toNat z42
def aggC (x : S42) : Value := .agg #[.string x.f0, .int .i64 x.f1, .bool x.f2, .bool x.f3, .bool x.f4, .bool x.f5, .int .i64 x.f6, .int .i64 x.f7]
theorem index_n : ∀ n : Nat, n ≤ 20 → ∀ w : World, (Instr.index 83 (.agg tab1) (.int .i64 (n : Int))).run Try.prog w = .ok (aggC (rowC n)) w
  | 0, _, w => by kernel_rfl
  | 1, _, w => by kernel_rfl
  | 2, _, w => by kernel_rfl
  | 3, _, w => by kernel_rfl
  | 4, _, w => by kernel_rfl
  | 5, _, w => by kernel_rfl
  | 6, _, w => by kernel_rfl
  | 7, _, w => by kernel_rfl
  | 8, _, w => by kernel_rfl
  | 9, _, w => by kernel_rfl
  | 10, _, w => by kernel_rfl
  | 11, _, w => by kernel_rfl
  | 12, _, w => by kernel_rfl
  | 13, _, w => by kernel_rfl
  | 14, _, w => by kernel_rfl
  | 15, _, w => by kernel_rfl
  | 16, _, w => by kernel_rfl
  | 17, _, w => by kernel_rfl
  | 18, _, w => by kernel_rfl
  | 19, _, w => by kernel_rfl
  | 20, _, w => by kernel_rfl
  | n + 21, h, _ => absurd h (by omega)
theorem index_is (c : Int) (h : isC c = true) (w : World) : (Instr.index 83 (.agg tab1) (.int .i64 c)).run Try.prog w = .ok (aggC (rowC c)) w := by
  obtain ⟨h0, h1⟩ := (isC_iff c).1 h
  obtain ⟨n, rfl⟩ := Int.eq_ofNat_of_zero_le (show 0 ≤ c by omega)
  exact index_n n (by omega) w
/-- Whether a name is right for a condition. -/
def rightB (c : Int) (s : ByteArray) : Bool := isC c && (if ((rowC c).f4 || (rowC c).f5) = true then decide (1 ≤ s.size) && decide (s.size ≤ 31) else s.toList.isEmpty)
theorem setRow_ne (W : World) (g : Nat) (cs : Array Value) {k : Nat} (h : k ≠ g) : (W.setRow g cs).heap[k]? = W.heap[k]? := by
  unfold World.setRow
  simp [Array.getElem?_modify, Ne.symm h]
theorem ex_index {P : Program} {o : Oper} {a : Act} {W : World} {t : TypeId} {x i : Operand} {v j r : Value} (ho : o.op = .index t x i) (hx : a.eval x = v) (hi : a.eval i = j) (h : (Instr.index t v j).run P W = .ok r W) : (execOp a.eval o).run P W = .ok (.value r) W := by
  simp only [execOp, ho, hx, hi, Sem.run_bind, Sem.run_pure, Result.andThen, h]
set_option maxRecDepth 100000 in
set_option maxHeartbeats 4000000 in
theorem right_is (c : Int) (s : ByteArray) (w : World) : Calls Try.prog 36 #[.agg #[.int .i64 c, .string s]] w fun e w' => e = .returned (.bool (rightB c s)) ∧ Below w.heap.size w w' := by
  cases hC : isC c with
  | false =>
    have hr : rightB c s = false := by unfold rightB; rw [hC]; rfl
    rw [hr]
    have HI := Aside0.mk (fun W => is_is c W)
    rw [hC] at HI
    clear hr hC
    go_enter Try.func36, Try.ntmps36
    go_wp2_with fail
    refine (HI.out _).mono ?_
    rintro e w' ⟨rfl, hb⟩
    have HB := Aside0.mk (((Below.refl w.heap.size w).alloc (Nat.le_refl _) (.cells #[.int .i64 c, .string s] 71 (0, 0))).trans (hb.mono (show w.heap.size ≤ _ by simp)))
    clear hb
    go_wp2_with fail
    go_ret
    exact ⟨rfl, HB.out⟩
  | true =>
    have HX := Aside0.mk (fun W => index_is c hC W)
    have HI := Aside0.mk (fun W => is_is c W)
    rw [hC] at HI
    generalize hr : rightB c s = r
    unfold rightB at hr
    rw [hC, Bool.true_and] at hr
    have HR := Aside0.mk hr
    clear hr hC
    unfold aggC at HX
    generalize rowC c = x at *
    go_enter Try.func36, Try.ntmps36
    go_wp2_with fail
    refine (HI.out _).mono ?_
    rintro e w' ⟨rfl, hb⟩
    have HS := Aside0.mk (blk_below (blk_new w (.cells #[.int .i64 c, .string s] 71 (0, 0))) hb)
    have HB := Aside0.mk (((Below.refl w.heap.size w).alloc (Nat.le_refl _) (.cells #[.int .i64 c, .string s] 71 (0, 0))).trans (hb.mono (show w.heap.size ≤ _ by simp)))
    clear hb
    go_wp2_with fail
    have s0 := (blk_cell HS.out 0).trans rfl
    have s1 := (blk_cell HS.out 1).trans rfl
    have hx := HX.out
    clear hx s0 s1
    refine start_ (n := 6) (S := fun W => W.heap[w.heap.size]? = some (.cells #[.int .i64 c, .string s] 71 (0, 0)) ∧ Below w.heap.size w W) (ds := [5]) #[false, false, false, false, false, false] (by kernel_rfl) rfl rfl ⟨blk_drew HS.out, Below.drew HB.out⟩ (fun hHeld => ?_)
    generalize w'.drew = w1 at hHeld ⊢
    clear HS HB
    refine pure_ (i := 1) (N := some 9) (v := ?_) (a' := ?_) #[false, true, false, false, false, false] rfl rfl (by kernel_rfl) (fun _ _ _ h => h) (Or.inl ⟨by rfl, ?_⟩) ?_ ?_
    rotate_left
    · intro w_
      go_simp
      with_reducible rfl
    rotate_left
    · simp only [Act.put, List.setIfInBounds_toArray, List.set_cons_zero, List.set_cons_succ, i64_w, i32_w]
      rfl
    refine take_ (i := 2) (N := some 10) (v := ?_) (a' := ?_) #[false, true, true, false, false, false] rfl rfl (by kernel_rfl) (fun _ _ _ h => h) (Or.inl ⟨by rfl, ?_⟩) hHeld ?_ ?_
    rotate_left
    · rintro w_ ⟨hs_, _⟩
      have s0 := (blk_cell hs_ 0).trans rfl
      go_simp
      with_reducible rfl
    rotate_left
    · simp only [Act.put, List.setIfInBounds_toArray, List.set_cons_zero, List.set_cons_succ, i64_w, i32_w]
      rfl
    refine join_ (σ := Nat) 1 #[true, true, true, true, true, false] (fun g => [(8, .agg tab1), (11, .agg #[.string x.f0, .int .i64 x.f1, .bool x.f2, .bool x.f3, .bool x.f4, .bool x.f5, .int .i64 x.f6, .int .i64 x.f7]), (3, .pointer (some ⟨g, 0, none⟩))]) (fun g W => W.heap[g]? = some (.cells #[.string (⟨#[]⟩ : ByteArray), .int .i64 0, .bool false, .bool false, .bool false, .bool false, .int .i64 0, .int .i64 0] 42 (0, 0)) ∧ W.heap[w.heap.size]? = some (.cells #[.int .i64 c, .string s] 71 (0, 0)) ∧ Below w.heap.size w W ∧ w.heap.size < g) ?_ ?_
    · rintro g W ⟨hG, hS, hB, hlt⟩
      refine norm_ (a' := ?_) ?_ ?_
      rotate_left
      · simp only [putAll, Act.put, List.setIfInBounds_toArray, List.set_cons_zero, List.set_cons_succ, i64_w, i32_w]
        rfl
      refine last_ (i := 5) (N := none) #[true, true, true, true, true, true] rfl rfl (by kernel_rfl) (by decide) (fun K' hK => ?_)
      refine skip_ (by rfl) rfl (ex_store rfl rfl rfl hG rfl rfl (by first | kernel_rfl | simp [Value.oneCell'])) ?_
      refine hK.out _ _ ?_
      clear hK K' hHeld
      have hG2 := Aside0.mk (setRow_heap _ _ _ #[.string x.f0, .int .i64 x.f1, .bool x.f2, .bool x.f3, .bool x.f4, .bool x.f5, .int .i64 x.f6, .int .i64 x.f7] _ _ hG)
      have hB2 := Aside0.mk (below_setRow hB (Nat.le_of_lt hlt) #[.string x.f0, .int .i64 x.f1, .bool x.f2, .bool x.f3, .bool x.f4, .bool x.f5, .int .i64 x.f6, .int .i64 x.f7])
      have hS2 := Aside0.mk ((show (W.setRow g #[.string x.f0, .int .i64 x.f1, .bool x.f2, .bool x.f3, .bool x.f4, .bool x.f5, .int .i64 x.f6, .int .i64 x.f7]).heap[w.heap.size]? = W.heap[w.heap.size]? from setRow_ne _ _ _ (by omega)).trans hS)
      generalize W.setRow g #[.string x.f0, .int .i64 x.f1, .bool x.f2, .bool x.f3, .bool x.f4, .bool x.f5, .int .i64 x.f6, .int .i64 x.f7] = W2 at hG2 hB2 hS2 ⊢
      clear hG hB hS HX
      refine done_ (by kernel_rfl) ?_
      have r4 := (blk_cell hG2.out 4).trans rfl
      have r5 := (blk_cell hG2.out 5).trans rfl
      have s1 := (blk_cell hS2.out 1).trans rfl
      have HR := HR.out
      obtain ⟨f0, f1, f2, f3, f4, f5, f6, f7⟩ := x
      dsimp only at r4 r5 HR
      cases f4 <;> cases f5 <;> (simp only [Bool.or_false, Bool.or_true, Bool.or_self, if_true, if_false, Bool.false_eq_true] at HR; go_wp2_with fail)
      all_goals (go_ret; refine ⟨?_, hB2.out⟩; rw [← HR]; (first | rfl | (rename_i h_; simp [show 1 ≤ s.size by omega]; omega) | (rename_i h_; simp [show ¬ 1 ≤ s.size by omega])))
    · intro hj
      refine two_ (i := 0) (j := 4) (Ni := some 8) (Nj := some 3) #[true, true, true, false, false, false] #[false, true, true, false, true, false] rfl rfl rfl rfl (by kernel_rfl) (by decide) (by decide) (fun K' hK => ?_) (fun K' hK => ?_)
      · refine goes_ Try.func40 (by kernel_rfl) rfl #[] (by rfl) rfl rfl (by simp) ?_
        refine (table_is _).mono ?_
        rintro e w2 ⟨rfl, hb⟩
        refine ⟨_, rfl, ?_⟩
        refine hK.out _ _ ⟨blk_below hHeld.1 hb, hHeld.2.trans (hb.mono hHeld.2.size)⟩ (fun hHeld => ?_)
        clear hb hK K'
        refine norm_ (a' := ?_) ?_ ?_
        rotate_left
        · show Act.put _ (some 8) _ = _
          simp only [Act.put, List.setIfInBounds_toArray, List.set_cons_zero, List.set_cons_succ, i64_w, i32_w]
          rfl
        refine pure_ (i := 3) (N := some 11) (v := (.agg #[.string x.f0, .int .i64 x.f1, .bool x.f2, .bool x.f3, .bool x.f4, .bool x.f5, .int .i64 x.f6, .int .i64 x.f7])) (a' := ?_) #[true, true, true, true, false, false] rfl rfl (by kernel_rfl) (fun _ _ _ h => h) (Or.inl ⟨by rfl, ?_⟩) ?_ ?_
        · intro w_
          exact ex_index rfl rfl rfl (HX.out w_)
        rotate_left
        · simp only [Act.put, List.setIfInBounds_toArray, List.set_cons_zero, List.set_cons_succ, i64_w, i32_w]
          rfl
        refine one_ (i := 4) (N := some 3) #[true, true, true, true, true, false] rfl rfl (by kernel_rfl) (by decide) (fun K' hK => ?_)
        refine value_ (w1 := w2.alloc (.cells #[.string (⟨#[]⟩ : ByteArray), .int .i64 0, .bool false, .bool false, .bool false, .bool false, .int .i64 0, .int .i64 0] 42 (0, 0))) (v := .pointer (some ⟨w2.heap.size, 0, none⟩)) (by rfl) rfl ?_ ?_
        · go_simp
        refine hK.out _ _ ⟨blk_alloc hHeld.1 _, hHeld.2.alloc hHeld.2.size _⟩ (fun _ => ?_)
        clear hK K'
        refine norm_ ?_ (hj _ _ ⟨blk_new _ _, blk_alloc hHeld.1 _, hHeld.2.alloc hHeld.2.size _, blk_lt hHeld.1⟩)
        simp only [putAll, Act.put, List.setIfInBounds_toArray, List.set_cons_zero, List.set_cons_succ]
      · refine value_ (w1 := w1.alloc (.cells #[.string (⟨#[]⟩ : ByteArray), .int .i64 0, .bool false, .bool false, .bool false, .bool false, .int .i64 0, .int .i64 0] 42 (0, 0))) (v := .pointer (some ⟨w1.heap.size, 0, none⟩)) (by rfl) rfl ?_ ?_
        · go_simp
        have hN := Aside0.mk (blk_new w1 (.cells #[.string (⟨#[]⟩ : ByteArray), .int .i64 0, .bool false, .bool false, .bool false, .bool false, .int .i64 0, .int .i64 0] 42 (0, 0)))
        have hlt := blk_lt hHeld.1
        refine hK.out _ _ ⟨blk_alloc hHeld.1 _, hHeld.2.alloc hHeld.2.size _⟩ (fun hHeld => ?_)
        clear hK K'
        refine norm_ (a' := ?_) ?_ ?_
        rotate_left
        · show Act.put _ (some 3) _ = _
          simp only [Act.put, List.setIfInBounds_toArray, List.set_cons_zero, List.set_cons_succ, i64_w, i32_w]
          rfl
        refine one_ (i := 0) (N := some 8) #[true, true, true, false, true, false] rfl rfl (by kernel_rfl) (by decide) (fun K' hK => ?_)
        refine goes_ Try.func40 (by kernel_rfl) rfl #[] (by rfl) rfl rfl (by simp) ?_
        refine (table_is _).mono ?_
        rintro e w2 ⟨rfl, hb⟩
        refine ⟨_, rfl, ?_⟩
        have hN := Aside0.mk (blk_below hN.out hb)
        refine hK.out _ _ ⟨blk_below hHeld.1 hb, hHeld.2.trans (hb.mono hHeld.2.size)⟩ (fun hHeld => ?_)
        clear hb hK K'
        refine norm_ (a' := ?_) ?_ ?_
        rotate_left
        · show Act.put _ (some 8) _ = _
          simp only [Act.put, List.setIfInBounds_toArray, List.set_cons_zero, List.set_cons_succ, i64_w, i32_w]
          rfl
        refine pure_ (i := 3) (N := some 11) (v := (.agg #[.string x.f0, .int .i64 x.f1, .bool x.f2, .bool x.f3, .bool x.f4, .bool x.f5, .int .i64 x.f6, .int .i64 x.f7])) (a' := ?_) #[true, true, true, true, true, false] rfl rfl (by kernel_rfl) (fun _ _ _ h => h) (Or.inl ⟨by rfl, ?_⟩) ?_ ?_
        · intro w_
          exact ex_index rfl rfl rfl (HX.out w_)
        rotate_left
        · simp only [Act.put, List.setIfInBounds_toArray, List.set_cons_zero, List.set_cons_succ, i64_w, i32_w]
          rfl
        refine norm_ ?_ (hj _ _ ⟨hN.out, hHeld.1, hHeld.2, hlt⟩)
        simp only [putAll, Act.put, List.setIfInBounds_toArray, List.set_cons_zero, List.set_cons_succ]
end Go.Proofs.Ytfahpihbbkkngaa.P

-- from the text Hd
namespace Go.Proofs.Ytfahpihbbkkngaa.P
open Go.RowKit Go.Proofs.YtfahpihbbkkngaaW.PrintWords Go.Proofs.YtfahpihbbkkngaaW.PrintLast Go.Proofs.YtfahpihbbkkngaaW.PrintMore
set_option linter.unusedVariables false
set_option linter.unusedSimpArgs false
def cond_Word.f (a0 : Int) : Option (ByteArray) := if isC a0 = true then some (rowC a0).f0 else some ⟨#[]⟩
theorem wl_same2 {P : Program} {ops : Array Oper} {rest : List Oper} {o : Oper} {a : Act} {Q : Exit → Act → World → Prop} {W : World} {v : Value} (hg : Region.wanted o (yielded ops a.tmps) = true) (hrun : (execOp a.eval o).run P W = .ok (.value v) W) (h : wpList P ops Q rest (a.put o.dst v) W) : wpList P ops Q (o :: rest) a W := by
  refine wpList_step fun K hK => ?_
  rw [if_pos hg]
  unfold Oper.wp
  rw [hrun]
  exact hK _ _ h
set_option maxRecDepth 100000 in
set_option maxHeartbeats 4000000 in
theorem cond_Word.calls (a0 : Int) (r : ByteArray) (w : World) (h : cond_Word.f a0 = some r) : Calls Try.prog 21 #[.int .i64 a0] w fun e w' => e = .returned (.string r) ∧ Below w.heap.size w w' := by
  have HI := Aside0.mk (fun W => is_is a0 W)
  unfold cond_Word.f at h
  cases hC : isC a0 with
  | false =>
    rw [hC] at HI h
    rw [if_neg (by simp)] at h
    obtain rfl := Option.some.inj h
    clear hC h
    go_enter Try.func21, Try.ntmps21
    go_wp2_with fail
    refine (HI.out _).mono ?_
    rintro e w1 ⟨rfl, hb⟩
    go_wp2_with fail
    go_ret
    exact ⟨rfl, hb⟩
  | true =>
    have HX := Aside0.mk (fun W => index_is a0 hC W)
    rw [hC] at HI h
    rw [if_pos rfl] at h
    obtain rfl := Option.some.inj h
    unfold aggC at HX
    generalize rowC a0 = x at *
    clear hC h
    go_enter Try.func21, Try.ntmps21
    go_wp2_with fail
    refine (HI.out _).mono ?_
    rintro e w1 ⟨rfl, hb⟩
    go_wp2_with fail
    refine (table_is _).mono ?_
    rintro e w2 ⟨rfl, hb2⟩
    have HB := Aside0.mk (hb.trans (hb2.mono hb.size))
    clear hb hb2
    go_wp2_with (first | ((with_reducible refine gate_dst (N := 8) rfl ?_); refine wl_same rfl (ex_index rfl rfl rfl (HX.out _)) ?_) | ((with_reducible refine gate_dst (N := 9) rfl ?_); refine wl_same rfl (v := .string x.f0) (by kernel_rfl) ?_))
    go_ret
    exact ⟨rfl, HB.out⟩
def cond_Enabled.f (a0 : Int) (a1 : Int) : Option (Bool) :=
  if isC a1 = true then (if (rowC a1).f3 = true then some (Go.bits .and .i64 (a0 / 2 ^ a1.toNat) 1 == 1) else some true) else some false
set_option maxRecDepth 100000 in
set_option maxHeartbeats 4000000 in
theorem cond_Enabled.calls (a0 : Int) (a1 : Int) (r : Bool) (w : World) (h : cond_Enabled.f a0 a1 = some r) : Calls Try.prog 23 #[.int .i64 a0, .int .i64 a1] w fun e w' => e = .returned (.bool r) ∧ Below w.heap.size w w' := by
  have HI := Aside0.mk (fun W => is_is a1 W)
  unfold cond_Enabled.f at h
  cases hC : isC a1 with
  | false =>
    rw [hC] at HI h
    rw [if_neg (by simp)] at h
    obtain rfl := Option.some.inj h
    clear hC h
    go_enter Try.func23, Try.ntmps23
    go_wp2_with fail
    refine (HI.out _).mono ?_
    rintro e w1 ⟨rfl, hb⟩
    go_wp2_with fail
    go_ret
    exact ⟨rfl, hb⟩
  | true =>
    have HX := Aside0.mk (fun W => index_is a1 hC W)
    have hn := (isC_iff a1).1 hC
    have h1 := hn.1
    have h2 := hn.2
    clear hn
    rw [hC] at HI h
    rw [if_pos rfl] at h
    unfold aggC at HX
    generalize rowC a1 = x at *
    clear hC
    obtain ⟨f0, f1, f2, f3, f4, f5, f6, f7⟩ := x
    dsimp only at h HX
    cases f3 with
    | false =>
      rw [if_neg (by simp)] at h
      obtain rfl := Option.some.inj h
      clear h
      go_enter Try.func23, Try.ntmps23
      go_wp2_with fail
      refine (HI.out _).mono ?_
      rintro e w1 ⟨rfl, hb⟩
      go_wp2_with fail
      refine (table_is _).mono ?_
      rintro e w2 ⟨rfl, hb2⟩
      have HB := Aside0.mk (hb.trans (hb2.mono hb.size))
      clear hb hb2
      go_wp2_with (first | ((with_reducible refine gate_dst (N := 10) rfl ?_); refine wl_same2 (by rfl) (ex_index rfl rfl rfl (HX.out _)) ?_) | ((with_reducible refine gate_dst (N := 11) rfl ?_); refine wl_same2 (by rfl) (v := .bool false) (by kernel_rfl) ?_))
      go_ret
      exact ⟨rfl, HB.out⟩
    | true =>
      rw [if_pos rfl] at h
      obtain rfl := Option.some.inj h
      clear h
      go_enter Try.func23, Try.ntmps23
      go_wp2_with fail
      refine (HI.out _).mono ?_
      rintro e w1 ⟨rfl, hb⟩
      go_wp2_with fail
      refine (table_is _).mono ?_
      rintro e w2 ⟨rfl, hb2⟩
      have HB := Aside0.mk (hb.trans (hb2.mono hb.size))
      clear hb hb2
      go_wp2_with (first | ((with_reducible refine gate_dst (N := 10) rfl ?_); refine wl_same2 (by rfl) (ex_index rfl rfl rfl (HX.out _)) ?_) | ((with_reducible refine gate_dst (N := 11) rfl ?_); refine wl_same2 (by rfl) (v := .bool true) (by kernel_rfl) ?_))
      go_ret
      exact ⟨rfl, HB.out⟩
end Go.Proofs.Ytfahpihbbkkngaa.P
