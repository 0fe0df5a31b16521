/- Part 2 of the proof of the law CondPlays: functions, contracts and plain laws; merged by this session's program. -/
import Derived.Test.YtfahpihbbkkngaaProg
import Derived.Below
import Derived.Deep.Draws
import Derived.Deep.AppendLies
import Derived.Maps.AppendAt
import Derived.OwnWalk
import Derived.Laws.BytesArg
import Derived.Laws.MakeOwn
import Derived.Laws.OwnMore
import Derived.Deep.OwnRows
import Derived.Tactics
import Derived.Lib.ConvBytes
import Derived.Laws.Slices
import Derived.WalkKit
import Derived.KernelRfl
import Derived.RowKit3
import Derived.Deep.LoopGhost
import Derived.Deep.QuietTactic
import Derived.BigQuiet
import Derived.WideLaws
import Derived.Deep.DeepCutAuto
import Derived.Deep.CutBlock
import Derived.Deep.RegionHeld3
import Derived.Laws.Rows
import Derived.Lib.AppendStr
import Derived.ArgAppend
import Derived.Laws.IdiomCopy
import Derived.OrdersHeld
import Derived.Laws.BitsLemmas
import Derived.RowKit
import Derived.WalkSpells
import Derived.WalkLawsBesides
import Derived.Lib.Hide
import Derived.IntWalk
import Derived.Laws.EntriesVeiled
import Derived.Deep.WholeRow
import Derived.Laws.CopyOwn
import Derived.Lib.AppendZeros
import Derived.MapKept
import Derived.Test.YtfahpihbbkkngaaMCondPlays1
-- from the text K
namespace Go.Proofs.Ytfahpihbbkkngaa.P
open Go.RowKit Go.Proofs.YtfahpihbbkkngaaW.PrintWords Go.Proofs.YtfahpihbbkkngaaW.PrintLast Go.Proofs.YtfahpihbbkkngaaW.PrintMore
theorem blk_six {w : World} {g : Nat} {t : TypeId} {a b c d e f : Value} (h : w.heap[g]? = some (.cells #[a, b, c, d, e, f] t (0, 0))) : w.cell? ⟨g, 0, none⟩ = some a ∧ w.cell? ⟨g, 1, none⟩ = some b ∧ w.cell? ⟨g, 2, none⟩ = some c ∧ w.cell? ⟨g, 3, none⟩ = some d ∧ w.cell? ⟨g, 4, none⟩ = some e ∧ w.cell? ⟨g, 5, none⟩ = some f :=
  ⟨(blk_cell h 0).trans rfl, (blk_cell h 1).trans rfl, (blk_cell h 2).trans rfl, (blk_cell h 3).trans rfl, (blk_cell h 4).trans rfl, (blk_cell h 5).trans rfl⟩
theorem blk_six_free {w : World} {g : Nat} {t : TypeId} {cs : Array Value} (h : w.heap[g]? = some (.cells cs t (0, 0))) : w.frozen? ⟨g, 0, none⟩ = false ∧ w.frozen? ⟨g, 1, none⟩ = false ∧ w.frozen? ⟨g, 2, none⟩ = false ∧ w.frozen? ⟨g, 3, none⟩ = false ∧ w.frozen? ⟨g, 4, none⟩ = false ∧ w.frozen? ⟨g, 5, none⟩ = false :=
  ⟨blk_frozen h 0, blk_frozen h 1, blk_frozen h 2, blk_frozen h 3, blk_frozen h 4, blk_frozen h 5⟩
theorem blk_quad {w : World} {g : Nat} {t : TypeId} {a b c d : Value} (h : w.heap[g]? = some (.cells #[a, b, c, d] t (0, 0))) : w.cell? ⟨g, 0, none⟩ = some a ∧ w.cell? ⟨g, 1, none⟩ = some b ∧ w.cell? ⟨g, 2, none⟩ = some c ∧ w.cell? ⟨g, 3, none⟩ = some d :=
  ⟨(blk_cell h 0).trans rfl, (blk_cell h 1).trans rfl, (blk_cell h 2).trans rfl, (blk_cell h 3).trans rfl⟩
theorem blk_quad_free {w : World} {g : Nat} {t : TypeId} {cs : Array Value} (h : w.heap[g]? = some (.cells cs t (0, 0))) : w.frozen? ⟨g, 0, none⟩ = false ∧ w.frozen? ⟨g, 1, none⟩ = false ∧ w.frozen? ⟨g, 2, none⟩ = false ∧ w.frozen? ⟨g, 3, none⟩ = false :=
  ⟨blk_frozen h 0, blk_frozen h 1, blk_frozen h 2, blk_frozen h 3⟩
/-- What stands in a world stands in what is made of it by allocations and draws. -/
class Kp (w0 : outParam World) (w : World) : Prop where
  k : ∀ {g : Nat} {o : Obj}, w0.heap[g]? = some o → w.heap[g]? = some o
instance (priority := 10) kp_refl (w : World) : Kp w w := ⟨id⟩
instance kp_drewN (w0 w : World) (n : Nat) [i : Kp w0 w] : Kp w0 (w.drewN n) := ⟨fun h => blk_drewN (i.k h) n⟩
instance kp_drew (w0 w : World) [i : Kp w0 w] : Kp w0 w.drew := ⟨fun h => blk_drew (i.k h)⟩
instance kp_alloc (w0 w : World) (o : Obj) [i : Kp w0 w] : Kp w0 (w.alloc o) := ⟨fun h => blk_alloc (i.k h) o⟩
theorem zk {w0 w : World} {g : Nat} {o : Obj} [i : Kp w0 w] (h : w0.heap[g]? = some o) : w.heap[g]? = some o := i.k h
end Go.Proofs.Ytfahpihbbkkngaa.P
namespace Go.Proofs.Ytfahpihbbkkngaa.P
open Go.RowKit Go.Proofs.YtfahpihbbkkngaaW.PrintWords Go.Proofs.YtfahpihbbkkngaaW.PrintLast Go.Proofs.YtfahpihbbkkngaaW.PrintMore
attribute [local go_sem] max2_int min2_int max_two min_two max_three min_three max_four min_four   -- for this text's walks alone
set_option linter.unusedVariables false
set_option linter.unusedSimpArgs false
def errW : Option Int → Value
  | none => .nilIface
  | some c => .iface 0 (.int .i64 c)
theorem errW_none : errW none = .nilIface := rfl
theorem errW_some (c : Int) : errW (some c) = .iface 0 (.int .i64 c) := rfl
theorem info24 : (Try.prog.info? 24).map (fun i => (i.zero, i.size, i.bytes)) = some (some (.agg #[(.int .i64 0), (.string ⟨#[]⟩), (.int .i64 0)]), 3, 32) := by kernel_rfl
theorem info73 : (Try.prog.info? 73).map (fun i => (i.zero, i.size, i.bytes)) = some (some (.agg #[(.slice none 0 0), (.int .i64 0), (.string ⟨#[]⟩), (.int .i64 0)]), 4, 56) := by kernel_rfl
theorem info94 : (Try.prog.info? 94).map (fun i => (i.zero, i.size, i.bytes)) = some (some (.agg #[(.slice none 0 0), (.bool false), (.int .i64 0), (.string ⟨#[]⟩), (.int .i64 0)]), 5, 64) := by kernel_rfl
structure S24 where
  f0 : Int
  f1 : ByteArray
  f2 : Int
def z24 : S24 := ⟨(0 : Int), (⟨#[]⟩ : ByteArray), (0 : Int)⟩
def k24 : Kd S24 := Kd.iso (Kd.pair (Kd.int .i64) (Kd.pair Kd.string (Kd.int .i64))) (fun x : S24 => (x.f0, x.f1, x.f2))
theorem k24_open {w : World} {x : S24} {cs : List Value} (h : k24.K w x cs) : cs = [.int .i64 x.f0, .string x.f1, .int .i64 x.f2] := by
  obtain ⟨_, _, rfl, rfl, ⟨_, _, rfl, rfl, rfl⟩⟩ := h
  exact rfl
theorem k24_openM {w : World} {base : Nat} {ok : Nat → Prop} {x : S24} {cs : List Value} (h : k24.M w base ok x cs) : cs = [.int .i64 x.f0, .string x.f1, .int .i64 x.f2] := by
  obtain ⟨_, _, rfl, rfl, ⟨_, _, rfl, rfl, rfl⟩⟩ := h
  exact rfl
theorem k24_mk (w : World) (x : S24)  : k24.K w x [.int .i64 x.f0, .string x.f1, .int .i64 x.f2] := ⟨[.int .i64 x.f0], [.string x.f1, .int .i64 x.f2], rfl, rfl, ⟨[.string x.f1], [.int .i64 x.f2], rfl, rfl, rfl⟩⟩
theorem k24_mkM (w : World) (base : Nat) (ok : Nat → Prop) (x : S24)  : k24.M w base ok x [.int .i64 x.f0, .string x.f1, .int .i64 x.f2] := ⟨[.int .i64 x.f0], [.string x.f1, .int .i64 x.f2], rfl, rfl, ⟨[.string x.f1], [.int .i64 x.f2], rfl, rfl, rfl⟩⟩
def rd_T24 (xs : List S24) (i : Int) : S24 := xs.getD i.toNat z24
theorem at_T24 {w : World} {A : Option Addr} {n : Nat} {xs : List S24} (h : Kd.C k24 w A n xs) (i : Int) (h0 : 0 ≤ i) (h1 : i < n) : ∃ ad , A = some ad ∧ w.cell? (ad.add (i.toNat * 3)) = some (.int .i64 (rd_T24 xs i).f0) ∧ w.cell? ⟨(ad.add (i.toNat * 3)).block, (ad.add (i.toNat * 3)).off + 1, none⟩ = some (.string (rd_T24 xs i).f1) ∧ w.cell? ⟨(ad.add (i.toNat * 3)).block, (ad.add (i.toNat * 3)).off + 2, none⟩ = some (.int .i64 (rd_T24 xs i).f2) := by
  obtain ⟨ad, c, e, _, hK, hc0⟩ := Kd.C_get h z24 i h0 h1
  have hc : ∀ j u, c[j]? = some u → w.cell? (ad.add (i.toNat * 3 + j)) = some u := hc0
  obtain rfl := k24_open hK
  exact ⟨ad, e, hc 0 _ rfl, by rw [← add_field _ _ 1 (by omega)]; exact hc 1 _ rfl, by rw [← add_field _ _ 2 (by omega)]; exact hc 2 _ rfl⟩
structure S69 where
  f0 : (List S24)
structure S71 where
  f0 : Int
  f1 : ByteArray
structure S73 where
  f0 : S69
  f1 : S71
  f2 : Int
structure S42 where
  f0 : ByteArray
  f1 : Int
  f2 : Bool
  f3 : Bool
  f4 : Bool
  f5 : Bool
  f6 : Int
  f7 : Int
def z42 : S42 := ⟨(⟨#[]⟩ : ByteArray), (0 : Int), false, false, false, false, (0 : Int), (0 : Int)⟩
def k42 : Kd S42 := Kd.iso (Kd.pair Kd.string (Kd.pair (Kd.int .i64) (Kd.pair Kd.bool (Kd.pair Kd.bool (Kd.pair Kd.bool (Kd.pair Kd.bool (Kd.pair (Kd.int .i64) (Kd.int .i64)))))))) (fun x : S42 => (x.f0, x.f1, x.f2, x.f3, x.f4, x.f5, x.f6, x.f7))
theorem k42_open {w : World} {x : S42} {cs : List Value} (h : k42.K w x cs) : cs = [.string x.f0, .int .i64 x.f1, .bool x.f2, .bool x.f3, .bool x.f4, .bool x.f5, .int .i64 x.f6, .int .i64 x.f7] := by
  obtain ⟨_, _, rfl, rfl, ⟨_, _, rfl, rfl, ⟨_, _, rfl, rfl, ⟨_, _, rfl, rfl, ⟨_, _, rfl, rfl, ⟨_, _, rfl, rfl, ⟨_, _, rfl, rfl, rfl⟩⟩⟩⟩⟩⟩⟩ := h
  exact rfl
theorem k42_mk (w : World) (x : S42)  : k42.K w x [.string x.f0, .int .i64 x.f1, .bool x.f2, .bool x.f3, .bool x.f4, .bool x.f5, .int .i64 x.f6, .int .i64 x.f7] := ⟨[.string x.f0], [.int .i64 x.f1, .bool x.f2, .bool x.f3, .bool x.f4, .bool x.f5, .int .i64 x.f6, .int .i64 x.f7], rfl, rfl, ⟨[.int .i64 x.f1], [.bool x.f2, .bool x.f3, .bool x.f4, .bool x.f5, .int .i64 x.f6, .int .i64 x.f7], rfl, rfl, ⟨[.bool x.f2], [.bool x.f3, .bool x.f4, .bool x.f5, .int .i64 x.f6, .int .i64 x.f7], rfl, rfl, ⟨[.bool x.f3], [.bool x.f4, .bool x.f5, .int .i64 x.f6, .int .i64 x.f7], rfl, rfl, ⟨[.bool x.f4], [.bool x.f5, .int .i64 x.f6, .int .i64 x.f7], rfl, rfl, ⟨[.bool x.f5], [.int .i64 x.f6, .int .i64 x.f7], rfl, rfl, ⟨[.int .i64 x.f6], [.int .i64 x.f7], rfl, rfl, rfl⟩⟩⟩⟩⟩⟩⟩
theorem k42_mkM (w : World) (base : Nat) (ok : Nat → Prop) (x : S42)  : k42.M w base ok x [.string x.f0, .int .i64 x.f1, .bool x.f2, .bool x.f3, .bool x.f4, .bool x.f5, .int .i64 x.f6, .int .i64 x.f7] := ⟨[.string x.f0], [.int .i64 x.f1, .bool x.f2, .bool x.f3, .bool x.f4, .bool x.f5, .int .i64 x.f6, .int .i64 x.f7], rfl, rfl, ⟨[.int .i64 x.f1], [.bool x.f2, .bool x.f3, .bool x.f4, .bool x.f5, .int .i64 x.f6, .int .i64 x.f7], rfl, rfl, ⟨[.bool x.f2], [.bool x.f3, .bool x.f4, .bool x.f5, .int .i64 x.f6, .int .i64 x.f7], rfl, rfl, ⟨[.bool x.f3], [.bool x.f4, .bool x.f5, .int .i64 x.f6, .int .i64 x.f7], rfl, rfl, ⟨[.bool x.f4], [.bool x.f5, .int .i64 x.f6, .int .i64 x.f7], rfl, rfl, ⟨[.bool x.f5], [.int .i64 x.f6, .int .i64 x.f7], rfl, rfl, ⟨[.int .i64 x.f6], [.int .i64 x.f7], rfl, rfl, rfl⟩⟩⟩⟩⟩⟩⟩
structure S90 where
  f0 : Int
  f1 : S42
def z90 : S90 := ⟨(0 : Int), z42⟩
def k90 : Kd S90 := Kd.iso (Kd.pair (Kd.int .i64) k42) (fun x : S90 => (x.f0, x.f1))
theorem k90_open {w : World} {x : S90} {cs : List Value} (h : k90.K w x cs) : cs = [.int .i64 x.f0, .string x.f1.f0, .int .i64 x.f1.f1, .bool x.f1.f2, .bool x.f1.f3, .bool x.f1.f4, .bool x.f1.f5, .int .i64 x.f1.f6, .int .i64 x.f1.f7] := by
  obtain ⟨_, _, rfl, rfl, s1⟩ := h
  obtain rfl := k42_open s1
  exact rfl
theorem k90_mk (w : World) (x : S90)  : k90.K w x [.int .i64 x.f0, .string x.f1.f0, .int .i64 x.f1.f1, .bool x.f1.f2, .bool x.f1.f3, .bool x.f1.f4, .bool x.f1.f5, .int .i64 x.f1.f6, .int .i64 x.f1.f7] := ⟨[.int .i64 x.f0], [.string x.f1.f0, .int .i64 x.f1.f1, .bool x.f1.f2, .bool x.f1.f3, .bool x.f1.f4, .bool x.f1.f5, .int .i64 x.f1.f6, .int .i64 x.f1.f7], rfl, rfl, (k42_mk w x.f1 )⟩
theorem k90_mkM (w : World) (base : Nat) (ok : Nat → Prop) (x : S90)  : k90.M w base ok x [.int .i64 x.f0, .string x.f1.f0, .int .i64 x.f1.f1, .bool x.f1.f2, .bool x.f1.f3, .bool x.f1.f4, .bool x.f1.f5, .int .i64 x.f1.f6, .int .i64 x.f1.f7] := ⟨[.int .i64 x.f0], [.string x.f1.f0, .int .i64 x.f1.f1, .bool x.f1.f2, .bool x.f1.f3, .bool x.f1.f4, .bool x.f1.f5, .int .i64 x.f1.f6, .int .i64 x.f1.f7], rfl, rfl, (k42_mkM w base ok x.f1 )⟩
def rd_T90 (xs : List S90) (i : Int) : S90 := xs.getD i.toNat z90
theorem at_T90 {w : World} {A : Option Addr} {n : Nat} {xs : List S90} (h : Kd.C k90 w A n xs) (i : Int) (h0 : 0 ≤ i) (h1 : i < n) : ∃ ad , A = some ad ∧ w.cell? (ad.add (i.toNat * 9)) = some (.int .i64 (rd_T90 xs i).f0) ∧ w.cell? ⟨(ad.add (i.toNat * 9)).block, (ad.add (i.toNat * 9)).off + 1, none⟩ = some (.string (rd_T90 xs i).f1.f0) ∧ w.cell? ⟨(ad.add (i.toNat * 9)).block, (ad.add (i.toNat * 9)).off + 2, none⟩ = some (.int .i64 (rd_T90 xs i).f1.f1) ∧ w.cell? ⟨(ad.add (i.toNat * 9)).block, (ad.add (i.toNat * 9)).off + 3, none⟩ = some (.bool (rd_T90 xs i).f1.f2) ∧ w.cell? ⟨(ad.add (i.toNat * 9)).block, (ad.add (i.toNat * 9)).off + 4, none⟩ = some (.bool (rd_T90 xs i).f1.f3) ∧ w.cell? ⟨(ad.add (i.toNat * 9)).block, (ad.add (i.toNat * 9)).off + 5, none⟩ = some (.bool (rd_T90 xs i).f1.f4) ∧ w.cell? ⟨(ad.add (i.toNat * 9)).block, (ad.add (i.toNat * 9)).off + 6, none⟩ = some (.bool (rd_T90 xs i).f1.f5) ∧ w.cell? ⟨(ad.add (i.toNat * 9)).block, (ad.add (i.toNat * 9)).off + 7, none⟩ = some (.int .i64 (rd_T90 xs i).f1.f6) ∧ w.cell? ⟨(ad.add (i.toNat * 9)).block, (ad.add (i.toNat * 9)).off + 8, none⟩ = some (.int .i64 (rd_T90 xs i).f1.f7) := by
  obtain ⟨ad, c, e, _, hK, hc0⟩ := Kd.C_get h z90 i h0 h1
  have hc : ∀ j u, c[j]? = some u → w.cell? (ad.add (i.toNat * 9 + j)) = some u := hc0
  obtain rfl := k90_open hK
  exact ⟨ad, e, hc 0 _ rfl, by rw [← add_field _ _ 1 (by omega)]; exact hc 1 _ rfl, by rw [← add_field _ _ 2 (by omega)]; exact hc 2 _ rfl, by rw [← add_field _ _ 3 (by omega)]; exact hc 3 _ rfl, by rw [← add_field _ _ 4 (by omega)]; exact hc 4 _ rfl, by rw [← add_field _ _ 5 (by omega)]; exact hc 5 _ rfl, by rw [← add_field _ _ 6 (by omega)]; exact hc 6 _ rfl, by rw [← add_field _ _ 7 (by omega)]; exact hc 7 _ rfl, by rw [← add_field _ _ 8 (by omega)]; exact hc 8 _ rfl⟩
structure S51 where
  f0 : Int
  f1 : ByteArray
  f2 : Bool
def k51 : Kd S51 := Kd.iso (Kd.pair (Kd.int .i64) (Kd.pair Kd.string Kd.bool)) (fun x : S51 => (x.f0, x.f1, x.f2))
theorem k51_mk (w : World) (x : S51)  : k51.K w x [.int .i64 x.f0, .string x.f1, .bool x.f2] := ⟨[.int .i64 x.f0], [.string x.f1, .bool x.f2], rfl, rfl, ⟨[.string x.f1], [.bool x.f2], rfl, rfl, rfl⟩⟩
structure S94 where
  f0 : (List S24)
  f1 : Bool
  f2 : Int
  f3 : ByteArray
  f4 : Int
def z94 : S94 := ⟨([] : List S24), false, (0 : Int), (⟨#[]⟩ : ByteArray), (0 : Int)⟩
def k94 : Kd S94 := Kd.iso (Kd.pair (Kd.slice 24 k24) (Kd.pair Kd.bool (Kd.pair (Kd.int .i64) (Kd.pair Kd.string (Kd.int .i64))))) (fun x : S94 => (x.f0, x.f1, x.f2, x.f3, x.f4))
theorem k94_open {w : World} {x : S94} {cs : List Value} (h : k94.K w x cs) : ∃ A0 c0, cs = [.slice A0 x.f0.length c0, .bool x.f1, .int .i64 x.f2, .string x.f3, .int .i64 x.f4] ∧ x.f0.length ≤ c0 ∧ k24.C w A0 x.f0.length x.f0 := by
  obtain ⟨_, _, rfl, ⟨A0, c0, rfl, l0, g0⟩, ⟨_, _, rfl, rfl, ⟨_, _, rfl, rfl, ⟨_, _, rfl, rfl, rfl⟩⟩⟩⟩ := h
  exact ⟨A0, c0, rfl, l0, g0⟩
theorem k94_mk (w : World) (x : S94) {A0 : Option Addr} {c0 : Nat} (l0 : x.f0.length ≤ c0) (g0 : k24.C w A0 x.f0.length x.f0) : k94.K w x [.slice A0 x.f0.length c0, .bool x.f1, .int .i64 x.f2, .string x.f3, .int .i64 x.f4] := ⟨[.slice A0 x.f0.length c0], [.bool x.f1, .int .i64 x.f2, .string x.f3, .int .i64 x.f4], rfl, ⟨A0, c0, rfl, l0, g0⟩, ⟨[.bool x.f1], [.int .i64 x.f2, .string x.f3, .int .i64 x.f4], rfl, rfl, ⟨[.int .i64 x.f2], [.string x.f3, .int .i64 x.f4], rfl, rfl, ⟨[.string x.f3], [.int .i64 x.f4], rfl, rfl, rfl⟩⟩⟩⟩
theorem k94_openF {W : World} {ok : Nat → Prop} {x : S94} {cs : List Value} (h : Kd.FK k94 W ok x cs) : ∃ A0 c0, cs = [.slice A0 x.f0.length c0, .bool x.f1, .int .i64 x.f2, .string x.f3, .int .i64 x.f4] ∧ x.f0.length ≤ c0 ∧ Kd.F k24 W ok A0 x.f0.length x.f0 := by
  obtain ⟨A0, c0, rfl, l0, _⟩ := k94_open (Kd.FK_now h)
  exact ⟨A0, c0, rfl, l0, (fun W' hW => by obtain ⟨A0_, c0_, he, l0_, g0_⟩ := k94_open (h W' hW); injection (Option.some.inj (show some (Value.slice A0 x.f0.length c0) = some (Value.slice A0_ x.f0.length c0_) from congrArg (fun l => l[0]?) he)) with ha_ _ _; rw [ha_]; exact g0_)⟩
theorem k94_mkF (W : World) (ok : Nat → Prop) (x : S94) {A0 : Option Addr} {c0 : Nat} (l0 : x.f0.length ≤ c0) (g0 : Kd.F k24 W ok A0 x.f0.length x.f0) : Kd.FK k94 W ok x [.slice A0 x.f0.length c0, .bool x.f1, .int .i64 x.f2, .string x.f3, .int .i64 x.f4] := fun W2 hW => k94_mk W2 x l0 (g0 W2 hW)
def rd_T94 (xs : List S94) (i : Int) : S94 := xs.getD i.toNat z94
theorem at_T94 {w : World} {A : Option Addr} {n : Nat} {xs : List S94} (h : Kd.C k94 w A n xs) (i : Int) (h0 : 0 ≤ i) (h1 : i < n) : ∃ ad A0 c0, A = some ad ∧ w.cell? (ad.add (i.toNat * 5)) = some (.slice A0 (rd_T94 xs i).f0.length c0) ∧ w.cell? ⟨(ad.add (i.toNat * 5)).block, (ad.add (i.toNat * 5)).off + 1, none⟩ = some (.bool (rd_T94 xs i).f1) ∧ w.cell? ⟨(ad.add (i.toNat * 5)).block, (ad.add (i.toNat * 5)).off + 2, none⟩ = some (.int .i64 (rd_T94 xs i).f2) ∧ w.cell? ⟨(ad.add (i.toNat * 5)).block, (ad.add (i.toNat * 5)).off + 3, none⟩ = some (.string (rd_T94 xs i).f3) ∧ w.cell? ⟨(ad.add (i.toNat * 5)).block, (ad.add (i.toNat * 5)).off + 4, none⟩ = some (.int .i64 (rd_T94 xs i).f4) ∧ (rd_T94 xs i).f0.length ≤ c0 ∧ k24.C w A0 (rd_T94 xs i).f0.length (rd_T94 xs i).f0 := by
  obtain ⟨ad, c, e, _, hK, hc0⟩ := Kd.C_get h z94 i h0 h1
  have hc : ∀ j u, c[j]? = some u → w.cell? (ad.add (i.toNat * 5 + j)) = some u := hc0
  obtain ⟨A0, c0, rfl, l0, g0⟩ := k94_open hK
  exact ⟨ad, A0, c0, e, hc 0 _ rfl, by rw [← add_field _ _ 1 (by omega)]; exact hc 1 _ rfl, by rw [← add_field _ _ 2 (by omega)]; exact hc 2 _ rfl, by rw [← add_field _ _ 3 (by omega)]; exact hc 3 _ rfl, by rw [← add_field _ _ 4 (by omega)]; exact hc 4 _ rfl, l0, g0⟩
structure S29 where
  f0 : Int
  f1 : Int
  f2 : S24
def z29 : S29 := ⟨(0 : Int), (0 : Int), z24⟩
def k29 : Kd S29 := Kd.iso (Kd.pair (Kd.int .u8) (Kd.pair (Kd.int .i64) k24)) (fun x : S29 => (x.f0, x.f1, x.f2))
theorem k29_open {w : World} {x : S29} {cs : List Value} (h : k29.K w x cs) : cs = [.int .u8 x.f0, .int .i64 x.f1, .int .i64 x.f2.f0, .string x.f2.f1, .int .i64 x.f2.f2] := by
  obtain ⟨_, _, rfl, rfl, ⟨_, _, rfl, rfl, s2⟩⟩ := h
  obtain rfl := k24_open s2
  exact rfl
theorem k29_mk (w : World) (x : S29)  : k29.K w x [.int .u8 x.f0, .int .i64 x.f1, .int .i64 x.f2.f0, .string x.f2.f1, .int .i64 x.f2.f2] := ⟨[.int .u8 x.f0], [.int .i64 x.f1, .int .i64 x.f2.f0, .string x.f2.f1, .int .i64 x.f2.f2], rfl, rfl, ⟨[.int .i64 x.f1], [.int .i64 x.f2.f0, .string x.f2.f1, .int .i64 x.f2.f2], rfl, rfl, (k24_mk w x.f2 )⟩⟩
def rd_T29 (xs : List S29) (i : Int) : S29 := xs.getD i.toNat z29
theorem at_T29 {w : World} {A : Option Addr} {n : Nat} {xs : List S29} (h : Kd.C k29 w A n xs) (i : Int) (h0 : 0 ≤ i) (h1 : i < n) : ∃ ad , A = some ad ∧ w.cell? (ad.add (i.toNat * 5)) = some (.int .u8 (rd_T29 xs i).f0) ∧ w.cell? ⟨(ad.add (i.toNat * 5)).block, (ad.add (i.toNat * 5)).off + 1, none⟩ = some (.int .i64 (rd_T29 xs i).f1) ∧ w.cell? ⟨(ad.add (i.toNat * 5)).block, (ad.add (i.toNat * 5)).off + 2, none⟩ = some (.int .i64 (rd_T29 xs i).f2.f0) ∧ w.cell? ⟨(ad.add (i.toNat * 5)).block, (ad.add (i.toNat * 5)).off + 3, none⟩ = some (.string (rd_T29 xs i).f2.f1) ∧ w.cell? ⟨(ad.add (i.toNat * 5)).block, (ad.add (i.toNat * 5)).off + 4, none⟩ = some (.int .i64 (rd_T29 xs i).f2.f2) := by
  obtain ⟨ad, c, e, _, hK, hc0⟩ := Kd.C_get h z29 i h0 h1
  have hc : ∀ j u, c[j]? = some u → w.cell? (ad.add (i.toNat * 5 + j)) = some u := hc0
  obtain rfl := k29_open hK
  exact ⟨ad, e, hc 0 _ rfl, by rw [← add_field _ _ 1 (by omega)]; exact hc 1 _ rfl, by rw [← add_field _ _ 2 (by omega)]; exact hc 2 _ rfl, by rw [← add_field _ _ 3 (by omega)]; exact hc 3 _ rfl, by rw [← add_field _ _ 4 (by omega)]; exact hc 4 _ rfl⟩
structure S55 where
  f0 : (List S94)
structure S76 where
  f0 : (List S73)
theorem eqA24 (d : Nat) (w : World) (x0 y0 : Int) (x1 y1 : ByteArray) (x2 y2 : Int) :
    (Op.equalIn (d + 2) 24 (.agg #[.int .i64 x0, .string x1, .int .i64 x2]) (.agg #[.int .i64 y0, .string y1, .int .i64 y2])).run Try.prog w = .ok (x0 == y0 && (x1.toList == y1.toList && (x2 == y2))) w := by
  refine eqA_of Try.underlying24 (by kernel_rfl) ?_
  refine eqf_cons (by rfl) (by go_simp; rfl) (by go_simp; rfl) (by go_simp) ?_
  refine eqf_cons (by rfl) (by go_simp; rfl) (by go_simp; rfl) (by go_simp) ?_
  exact eqf_last (by rfl) (by go_simp; rfl) (by go_simp; rfl) (by go_simp)
theorem eqA71 (d : Nat) (w : World) (x0 y0 : Int) (x1 y1 : ByteArray) :
    (Op.equalIn (d + 2) 71 (.agg #[.int .i64 x0, .string x1]) (.agg #[.int .i64 y0, .string y1])).run Try.prog w = .ok (x0 == y0 && (x1.toList == y1.toList)) w := by
  refine eqA_of Try.underlying71 (by kernel_rfl) ?_
  refine eqf_cons (by rfl) (by go_simp; rfl) (by go_simp; rfl) (by go_simp) ?_
  exact eqf_last (by rfl) (by go_simp; rfl) (by go_simp; rfl) (by go_simp)
end Go.Proofs.Ytfahpihbbkkngaa.P

-- from the text Ha
namespace Go.Proofs.Ytfahpihbbkkngaa.P
open Go.RowKit Go.Proofs.YtfahpihbbkkngaaW.PrintWords Go.Proofs.YtfahpihbbkkngaaW.PrintLast Go.Proofs.YtfahpihbbkkngaaW.PrintMore
set_option linter.unusedVariables false
set_option linter.unusedSimpArgs false
/-- The table before its last assignment, and behind it. -/
def abs0 : List S42 := [⟨⟨#[]⟩, 0, false, false, false, false, 0, 0⟩,
  ⟨⟨#[67, 79, 78, 86, 69, 82, 83, 73, 79, 78]⟩, 600, true, true, false, false, 1, 2⟩,
  ⟨⟨#[70, 73, 88, 69, 68, 79, 86, 69, 82, 70, 76, 79, 87]⟩, 310, true, true, false, false, 1, 1⟩,
  ⟨⟨#[79, 86, 69, 82, 70, 76, 79, 87]⟩, 300, true, true, false, false, 1, 1⟩,
  ⟨⟨#[83, 73, 90, 69]⟩, 340, false, true, false, false, 1, 1⟩,
  ⟨⟨#[83, 84, 82, 73, 78, 71, 82, 65, 78, 71, 69]⟩, 350, false, true, false, false, 2, 1⟩,
  ⟨⟨#[83, 84, 82, 73, 78, 71, 83, 73, 90, 69]⟩, 150, false, true, false, false, 2, 1⟩,
  ⟨⟨#[83, 85, 66, 83, 67, 82, 73, 80, 84, 82, 65, 78, 71, 69]⟩, 520, false, true, false, false, 1, 3⟩,
  ⟨⟨#[85, 78, 68, 69, 82, 70, 76, 79, 87]⟩, 330, true, true, false, false, 2, 1⟩,
  ⟨⟨#[90, 69, 82, 79, 68, 73, 86, 73, 68, 69]⟩, 320, true, true, false, false, 1, 1⟩,
  ⟨⟨#[69, 78, 68, 70, 73, 76, 69]⟩, 70, true, false, true, false, 1, 1⟩,
  ⟨⟨#[69, 78, 68, 80, 65, 71, 69]⟩, 90, true, false, true, false, 2, 1⟩,
  ⟨⟨#[75, 69, 89]⟩, 50, true, false, true, false, 1, 1⟩,
  ⟨⟨#[82, 69, 67, 79, 82, 68]⟩, 20, true, false, true, false, 1, 1⟩,
  ⟨⟨#[78, 65, 77, 69]⟩, 10, true, false, true, false, 2, 1⟩,
  ⟨⟨#[85, 78, 68, 69, 70, 73, 78, 69, 68, 70, 73, 76, 69]⟩, 80, true, false, true, false, 1, 1⟩,
  ⟨⟨#[65, 82, 69, 65]⟩, 360, true, false, false, false, 1, 2⟩,
  ⟨⟨#[83, 84, 79, 82, 65, 71, 69]⟩, 450, true, false, false, false, 1, 1⟩,
  ⟨⟨#[67, 79, 78, 68, 73, 84, 73, 79, 78]⟩, 500, true, false, false, false, 2, 1⟩,
  ⟨⟨#[69, 82, 82, 79, 82]⟩, 9, true, false, false, false, 3, 4⟩,
  ⟨⟨#[70, 73, 78, 73, 83, 72]⟩, 4, true, false, false, false, 3, 4⟩]
def abs1 : List S42 := abs0.set 18 ⟨⟨#[67, 79, 78, 68, 73, 84, 73, 79, 78]⟩, 500, true, false, false, true, 2, 1⟩
def cellsA (x : S42) : List Value := [.string x.f0, .int .i64 x.f1, .bool x.f2, .bool x.f3, .bool x.f4, .bool x.f5, .int .i64 x.f6, .int .i64 x.f7]
def tab0 : Array Value := (abs0.flatMap cellsA).toArray
def tab1 : Array Value := (abs1.flatMap cellsA).toArray
section
variable {P : Program} {ops : Array Oper} {rest : List Oper} {o : Oper} {a : Act} {Q : Exit → Act → World → Prop} {W w1 : World}
theorem wl_val {v : Value} (hg : o.guard = none) (hrun : (execOp a.eval o).run P W = .ok (.value v) w1) (h : wpList P ops Q rest (a.put o.dst v) w1) : wpList P ops Q (o :: rest) a W := by
  refine wpList_plain hg fun K hK => ?_
  unfold Oper.wp
  rw [hrun]
  exact hK _ _ h
theorem wl_same {v : Value} (hg : o.guard = none) (hrun : (execOp a.eval o).run P W = .ok (.value v) W) (h : wpList P ops Q rest (a.put o.dst v) W) : wpList P ops Q (o :: rest) a W := wl_val hg hrun h
theorem wl_skip (hg : o.guard = none) (hrun : (execOp a.eval o).run P W = .ok .skip w1) (h : wpList P ops Q rest (a.put o.dst undef) w1) : wpList P ops Q (o :: rest) a W := by
  refine wpList_plain hg fun K hK => ?_
  unfold Oper.wp
  rw [hrun]
  exact hK _ _ h
theorem results_c {fn : Func} {p : Tmp} {ty : TypeId} (h : fn.results = #[.cell p ty]) (tmps : Array Value) (w : World) (g : Nat) (t : TypeId) (cs : Array Value) (fr : Nat × Nat) (d : TypeDesc)
    (hp : tmps.getD p undef = .pointer (some ⟨g, 0, none⟩)) (hg : w.heap[g]? = some (.cells cs t fr))
    (hu : P.underlying ty = some d) (hd : (match d with | .struct _ | .array _ _ => true | _ => false) = true) (hi : (P.info? ty).map (·.size) = some cs.size) :
    (results fn tmps).run P w = .ok (.agg cs) w := by
  have hp' : tmps[p]?.getD undef = .pointer (some ⟨g, 0, none⟩) := by simpa using hp
  simp [results, h, hp', asAddr, run_loadVar_row w g t ty cs fr d hg hu hd hi]
theorem ex_load {t : TypeId} {p : Operand} {g : Nat} {c : Array Value} {d : TypeDesc} {fr : Nat × Nat} {u : TypeId} (ho : o.op = .load t p) (hp : a.eval p = .pointer (some ⟨g, 0, none⟩)) (hrow : W.heap[g]? = some (.cells c u fr))
    (hu : P.underlying t = some d) (hd : (match d with | .struct _ | .array _ _ => true | _ => false) = true) (hi : (P.info? t).map (·.size) = some c.size) : (execOp a.eval o).run P W = .ok (.value (.agg c)) W := by
  have h := run_loadVar_row (P := P) W g u t c fr d hrow hu hd hi
  simp only [execOp, ho, hp, Instr.loadAt, Instr.sureAddr, Sem.run_bind, Sem.run_pure, Result.andThen, h]
theorem ex_store {t : TypeId} {p x : Operand} {g : Nat} {old c : Array Value} {u : TypeId} (ho : o.op = .store t p x) (hp : a.eval p = .pointer (some ⟨g, 0, none⟩)) (hx : a.eval x = .agg c) (hrow : W.heap[g]? = some (.cells old u (0, 0)))
    (hi : (P.info? t).map (·.size) = some c.size) (hs : old.size = c.size) (h1 : c.all (·.oneCell') = true) : (execOp a.eval o).run P W = .ok .skip (W.setRow g c) := by
  have h := run_storeVar_row (P := P) W g u t old c hrow hi hs h1
  simp only [execOp, ho, hp, hx, Instr.storeAt, Instr.sureAddr, Sem.run_bind, Sem.run_pure, Result.andThen, h]
end
set_option maxRecDepth 100000 in
set_option maxHeartbeats 4000000 in
theorem t1_is (a : ByteArray) (b : Int) (c : Bool) (d : Int) (k : Int) (w : World) : Calls Try.prog 60 #[.string a, .int .i64 b, .bool c, .int .i64 d, .int .i64 k] w fun e w' => e = .returned (.agg #[.string a, .int .i64 b, .bool c, .bool true, .bool false, .bool false, .int .i64 d, .int .i64 k]) ∧ Below w.heap.size w w' := by
  have hB := (Below.refl w.heap.size w).alloc (Nat.le_refl _) (.cells #[.string a, .int .i64 b, .bool c, .bool true, .bool false, .bool false, .int .i64 d, .int .i64 k] 42 (0, 0))
  go_enter Try.func60, Try.ntmps60
  go_wp2
  have hO := blk_new w (.cells #[.string a, .int .i64 b, .bool c, .bool true, .bool false, .bool false, .int .i64 d, .int .i64 k] 42 (0, 0))
  generalize w.alloc (.cells #[.string a, .int .i64 b, .bool c, .bool true, .bool false, .bool false, .int .i64 d, .int .i64 k] 42 (0, 0)) = W at *
  have o0 := (blk_cell hO 0).trans rfl
  have o1 := (blk_cell hO 1).trans rfl
  have o2 := (blk_cell hO 2).trans rfl
  have o3 := (blk_cell hO 3).trans rfl
  have o4 := (blk_cell hO 4).trans rfl
  have o5 := (blk_cell hO 5).trans rfl
  have o6 := (blk_cell hO 6).trans rfl
  have o7 := (blk_cell hO 7).trans rfl
  refine bodyPost_ret (v := .agg #[.string a, .int .i64 b, .bool c, .bool true, .bool false, .bool false, .int .i64 d, .int .i64 k]) (by simp [results, Try.results60, go_sem, o0, o1, o2, o3, o4, o5, o6, o7]) rfl ⟨rfl, hB⟩
set_option maxRecDepth 100000 in
set_option maxHeartbeats 4000000 in
theorem t2_is (a : ByteArray) (b : Int) (d : Int) (w : World) : Calls Try.prog 61 #[.string a, .int .i64 b, .int .i64 d] w fun e w' => e = .returned (.agg #[.string a, .int .i64 b, .bool true, .bool false, .bool true, .bool false, .int .i64 d, .int .i64 1]) ∧ Below w.heap.size w w' := by
  have hB := (Below.refl w.heap.size w).alloc (Nat.le_refl _) (.cells #[.string a, .int .i64 b, .bool true, .bool false, .bool true, .bool false, .int .i64 d, .int .i64 1] 42 (0, 0))
  go_enter Try.func61, Try.ntmps61
  go_wp2
  have hO := blk_new w (.cells #[.string a, .int .i64 b, .bool true, .bool false, .bool true, .bool false, .int .i64 d, .int .i64 1] 42 (0, 0))
  generalize w.alloc (.cells #[.string a, .int .i64 b, .bool true, .bool false, .bool true, .bool false, .int .i64 d, .int .i64 1] 42 (0, 0)) = W at *
  have o0 := (blk_cell hO 0).trans rfl
  have o1 := (blk_cell hO 1).trans rfl
  have o2 := (blk_cell hO 2).trans rfl
  have o3 := (blk_cell hO 3).trans rfl
  have o4 := (blk_cell hO 4).trans rfl
  have o5 := (blk_cell hO 5).trans rfl
  have o6 := (blk_cell hO 6).trans rfl
  have o7 := (blk_cell hO 7).trans rfl
  refine bodyPost_ret (v := .agg #[.string a, .int .i64 b, .bool true, .bool false, .bool true, .bool false, .int .i64 d, .int .i64 1]) (by simp [results, Try.results61, go_sem, o0, o1, o2, o3, o4, o5, o6, o7]) rfl ⟨rfl, hB⟩
set_option maxRecDepth 100000 in
set_option maxHeartbeats 4000000 in
theorem t3_is (a : ByteArray) (b : Int) (d : Int) (k : Int) (w : World) : Calls Try.prog 62 #[.string a, .int .i64 b, .int .i64 d, .int .i64 k] w fun e w' => e = .returned (.agg #[.string a, .int .i64 b, .bool true, .bool false, .bool false, .bool false, .int .i64 d, .int .i64 k]) ∧ Below w.heap.size w w' := by
  have hB := (Below.refl w.heap.size w).alloc (Nat.le_refl _) (.cells #[.string a, .int .i64 b, .bool true, .bool false, .bool false, .bool false, .int .i64 d, .int .i64 k] 42 (0, 0))
  go_enter Try.func62, Try.ntmps62
  go_wp2
  have hO := blk_new w (.cells #[.string a, .int .i64 b, .bool true, .bool false, .bool false, .bool false, .int .i64 d, .int .i64 k] 42 (0, 0))
  generalize w.alloc (.cells #[.string a, .int .i64 b, .bool true, .bool false, .bool false, .bool false, .int .i64 d, .int .i64 k] 42 (0, 0)) = W at *
  have o0 := (blk_cell hO 0).trans rfl
  have o1 := (blk_cell hO 1).trans rfl
  have o2 := (blk_cell hO 2).trans rfl
  have o3 := (blk_cell hO 3).trans rfl
  have o4 := (blk_cell hO 4).trans rfl
  have o5 := (blk_cell hO 5).trans rfl
  have o6 := (blk_cell hO 6).trans rfl
  have o7 := (blk_cell hO 7).trans rfl
  refine bodyPost_ret (v := .agg #[.string a, .int .i64 b, .bool true, .bool false, .bool false, .bool false, .int .i64 d, .int .i64 k]) (by simp [results, Try.results62, go_sem, o0, o1, o2, o3, o4, o5, o6, o7]) rfl ⟨rfl, hB⟩
set_option maxRecDepth 100000 in
set_option maxHeartbeats 4000000 in
theorem table_is (w : World) : Calls Try.prog 40 #[] w fun e w' => e = .returned (.agg tab1) ∧ Below w.heap.size w w' := by
  have hmf : ∀ (fn : Fn) (first cap : Array Value) (w : World), (Instr.makeFunc fn first cap).run Try.prog w = .ok (.func fn first cap) w := fun _ _ _ _ => rfl
  go_enter Try.func40, Try.ntmps40
  go_wp2_with fail
  have HZ := Aside0.mk (blk_new w (.cells Try.zeroCells83 83 (0, 0)))
  have HB := Aside0.mk ((Below.refl w.heap.size w).alloc (Nat.le_refl _) (.cells Try.zeroCells83 83 (0, 0)))
  refine (t1_is _ _ _ _ _ _).mono ?_
  rintro e w1 ⟨rfl, hb⟩
  have HZ := Aside0.mk (blk_below HZ.out hb)
  have HB := Aside0.mk (HB.out.trans (hb.mono HB.out.size))
  clear hb
  go_wp2_with fail
  refine (t1_is _ _ _ _ _ _).mono ?_
  rintro e w2 ⟨rfl, hb⟩
  have HZ := Aside0.mk (blk_below HZ.out hb)
  have HB := Aside0.mk (HB.out.trans (hb.mono HB.out.size))
  clear hb
  go_wp2_with fail
  refine (t1_is _ _ _ _ _ _).mono ?_
  rintro e w3 ⟨rfl, hb⟩
  have HZ := Aside0.mk (blk_below HZ.out hb)
  have HB := Aside0.mk (HB.out.trans (hb.mono HB.out.size))
  clear hb
  go_wp2_with fail
  refine (t1_is _ _ _ _ _ _).mono ?_
  rintro e w4 ⟨rfl, hb⟩
  have HZ := Aside0.mk (blk_below HZ.out hb)
  have HB := Aside0.mk (HB.out.trans (hb.mono HB.out.size))
  clear hb
  go_wp2_with fail
  refine (t1_is _ _ _ _ _ _).mono ?_
  rintro e w5 ⟨rfl, hb⟩
  have HZ := Aside0.mk (blk_below HZ.out hb)
  have HB := Aside0.mk (HB.out.trans (hb.mono HB.out.size))
  clear hb
  go_wp2_with fail
  refine (t1_is _ _ _ _ _ _).mono ?_
  rintro e w6 ⟨rfl, hb⟩
  have HZ := Aside0.mk (blk_below HZ.out hb)
  have HB := Aside0.mk (HB.out.trans (hb.mono HB.out.size))
  clear hb
  go_wp2_with fail
  refine (t1_is _ _ _ _ _ _).mono ?_
  rintro e w7 ⟨rfl, hb⟩
  have HZ := Aside0.mk (blk_below HZ.out hb)
  have HB := Aside0.mk (HB.out.trans (hb.mono HB.out.size))
  clear hb
  go_wp2_with fail
  refine (t1_is _ _ _ _ _ _).mono ?_
  rintro e w8 ⟨rfl, hb⟩
  have HZ := Aside0.mk (blk_below HZ.out hb)
  have HB := Aside0.mk (HB.out.trans (hb.mono HB.out.size))
  clear hb
  go_wp2_with fail
  refine (t1_is _ _ _ _ _ _).mono ?_
  rintro e w9 ⟨rfl, hb⟩
  have HZ := Aside0.mk (blk_below HZ.out hb)
  have HB := Aside0.mk (HB.out.trans (hb.mono HB.out.size))
  clear hb
  go_wp2_with fail
  refine (t2_is _ _ _ _).mono ?_
  rintro e w10 ⟨rfl, hb⟩
  have HZ := Aside0.mk (blk_below HZ.out hb)
  have HB := Aside0.mk (HB.out.trans (hb.mono HB.out.size))
  clear hb
  go_wp2_with fail
  refine (t2_is _ _ _ _).mono ?_
  rintro e w11 ⟨rfl, hb⟩
  have HZ := Aside0.mk (blk_below HZ.out hb)
  have HB := Aside0.mk (HB.out.trans (hb.mono HB.out.size))
  clear hb
  go_wp2_with fail
  refine (t2_is _ _ _ _).mono ?_
  rintro e w12 ⟨rfl, hb⟩
  have HZ := Aside0.mk (blk_below HZ.out hb)
  have HB := Aside0.mk (HB.out.trans (hb.mono HB.out.size))
  clear hb
  go_wp2_with fail
  refine (t2_is _ _ _ _).mono ?_
  rintro e w13 ⟨rfl, hb⟩
  have HZ := Aside0.mk (blk_below HZ.out hb)
  have HB := Aside0.mk (HB.out.trans (hb.mono HB.out.size))
  clear hb
  go_wp2_with fail
  refine (t2_is _ _ _ _).mono ?_
  rintro e w14 ⟨rfl, hb⟩
  have HZ := Aside0.mk (blk_below HZ.out hb)
  have HB := Aside0.mk (HB.out.trans (hb.mono HB.out.size))
  clear hb
  go_wp2_with fail
  refine (t2_is _ _ _ _).mono ?_
  rintro e w15 ⟨rfl, hb⟩
  have HZ := Aside0.mk (blk_below HZ.out hb)
  have HB := Aside0.mk (HB.out.trans (hb.mono HB.out.size))
  clear hb
  go_wp2_with fail
  refine (t3_is _ _ _ _ _).mono ?_
  rintro e w16 ⟨rfl, hb⟩
  have HZ := Aside0.mk (blk_below HZ.out hb)
  have HB := Aside0.mk (HB.out.trans (hb.mono HB.out.size))
  clear hb
  go_wp2_with fail
  refine (t3_is _ _ _ _ _).mono ?_
  rintro e w17 ⟨rfl, hb⟩
  have HZ := Aside0.mk (blk_below HZ.out hb)
  have HB := Aside0.mk (HB.out.trans (hb.mono HB.out.size))
  clear hb
  go_wp2_with fail
  refine (t3_is _ _ _ _ _).mono ?_
  rintro e w18 ⟨rfl, hb⟩
  have HZ := Aside0.mk (blk_below HZ.out hb)
  have HB := Aside0.mk (HB.out.trans (hb.mono HB.out.size))
  clear hb
  go_wp2_with fail
  refine (t3_is _ _ _ _ _).mono ?_
  rintro e w19 ⟨rfl, hb⟩
  have HZ := Aside0.mk (blk_below HZ.out hb)
  have HB := Aside0.mk (HB.out.trans (hb.mono HB.out.size))
  clear hb
  go_wp2_with fail
  refine (t3_is _ _ _ _ _).mono ?_
  rintro e w20 ⟨rfl, hb⟩
  have HZ := Aside0.mk (blk_below HZ.out hb)
  have HB := Aside0.mk (HB.out.trans (hb.mono HB.out.size))
  clear hb
  have T1 := Aside0.mk (blk_new w20 (.cells tab0 83 (0, 0)))
  have Z1 := Aside0.mk (blk_alloc HZ.out (.cells tab0 83 (0, 0)))
  have B1 := Aside0.mk (HB.out.alloc (Below.size HB.out) (.cells tab0 83 (0, 0)))
  have N1 := Aside0.mk (Nat.ne_of_lt (blk_lt HZ.out))
  have G1 := Aside0.mk (Below.size HB.out)
  clear HZ HB
  go_wp2_with (first | ((with_reducible refine gate_dst (N := 45) rfl ?_); refine wl_same rfl (v := .agg tab0) (by kernel_rfl) ?_) | ((with_reducible refine gate_store (t := 83) (p := 4) rfl ?_); refine wl_skip rfl (ex_store rfl rfl rfl (blk_new _ _) (by kernel_rfl) (by kernel_rfl) (by kernel_rfl)) ?_; rw [World.setRow_alloc_new]; generalize w20.alloc (.cells tab0 83 (0, 0)) = W1 at T1 Z1 B1 ⊢; have hc := (blk_cell T1.out 149).trans (show tab0[149]? = some (.bool false) by kernel_rfl); have hf := blk_frozen T1.out 149; have T2 := Aside0.mk (blk_put (cs := tab0) (cs' := tab1) T1.out 149 (.bool true) (by kernel_rfl)); have Z2 := Aside0.mk (blk_far Z1.out (p := ⟨w20.heap.size, 149, none⟩) N1.out (.bool true)); have B2 := Aside0.mk (B1.out.setCell (p := ⟨w20.heap.size, 149, none⟩) G1.out (.bool true))) | ((with_reducible refine gate_dst (N := 48) rfl ?_); refine wl_same rfl (v := .agg tab1) (ex_load rfl rfl T2.out Try.underlying83 rfl (by kernel_rfl)) ?_) | ((with_reducible refine gate_store (t := 83) (p := 0) rfl ?_); refine wl_skip rfl (ex_store rfl rfl rfl Z2.out (by kernel_rfl) (by kernel_rfl) (by kernel_rfl)) ?_; have Z3 := Aside0.mk (setRow_heap _ _ _ tab1 _ _ Z2.out); have B3 := Aside0.mk (below_setRow B2.out (Nat.le_refl _) tab1); clear T2 Z2 B2 hc hf))
  refine bodyPost_ret (results_c (cs := tab1) rfl _ _ _ _ _ _ rfl Z3.out Try.underlying83 rfl (by kernel_rfl)) rfl ⟨rfl, ?_⟩
  first | exact B3.out | exact Below.drew B3.out
end Go.Proofs.Ytfahpihbbkkngaa.P

-- from the text Hc
namespace Go.Proofs.Ytfahpihbbkkngaa.P
open Go.RowKit Go.Proofs.YtfahpihbbkkngaaW.PrintWords Go.Proofs.YtfahpihbbkkngaaW.PrintLast Go.Proofs.YtfahpihbbkkngaaW.PrintMore
set_option linter.unusedVariables false
set_option linter.unusedSimpArgs false
/-- Whether there is a condition of this number. -/
def isC (c : Int) : Bool := decide (1 ≤ c) && decide (c ≤ 20)
theorem isC_iff (c : Int) : isC c = true ↔ 1 ≤ c ∧ c ≤ 20 := by simp [isC]
theorem is_is (c : Int) (w : World) : Calls Try.prog 39 #[.int .i64 c] w fun e w' => e = .returned (.bool (isC c)) ∧ Below w.heap.size w w' := by
  unfold isC
  by_cases h1 : 1 ≤ c
  · have h1b : decide (1 ≤ c) = true := decide_eq_true h1
    go_enter Try.func39, Try.ntmps39
    go_wp2
    go_ret
    exact ⟨by simp [h1b], Below.refl _ _⟩
  · have h1b : decide (1 ≤ c) = false := decide_eq_false h1
    go_enter Try.func39, Try.ntmps39
    go_wp2
    go_ret
    exact ⟨by simp [h1b], Below.refl _ _⟩
/-- The row of a condition. -/
def rowC (c : Int) : S42 := abs1.getD c.toNat z42
def aggC (x : S42) : Value := .agg #[.string x.f0, .int .i64 x.f1, .bool x.f2, .bool x.f3, .bool x.f4, .bool x.f5, .int .i64 x.f6, .int .i64 x.f7]
theorem index_n : ∀ n : Nat, n ≤ 20 → ∀ w : World, (Instr.index 83 (.agg tab1) (.int .i64 (n : Int))).run Try.prog w = .ok (aggC (rowC n)) w
  | 0, _, w => by kernel_rfl
  | 1, _, w => by kernel_rfl
  | 2, _, w => by kernel_rfl
  | 3, _, w => by kernel_rfl
  | 4, _, w => by kernel_rfl
  | 5, _, w => by kernel_rfl
  | 6, _, w => by kernel_rfl
  | 7, _, w => by kernel_rfl
  | 8, _, w => by kernel_rfl
  | 9, _, w => by kernel_rfl
  | 10, _, w => by kernel_rfl
  | 11, _, w => by kernel_rfl
  | 12, _, w => by kernel_rfl
  | 13, _, w => by kernel_rfl
  | 14, _, w => by kernel_rfl
  | 15, _, w => by kernel_rfl
  | 16, _, w => by kernel_rfl
  | 17, _, w => by kernel_rfl
  | 18, _, w => by kernel_rfl
  | 19, _, w => by kernel_rfl
  | 20, _, w => by kernel_rfl
  | n + 21, h, _ => absurd h (by omega)
theorem index_is (c : Int) (h : isC c = true) (w : World) : (Instr.index 83 (.agg tab1) (.int .i64 c)).run Try.prog w = .ok (aggC (rowC c)) w := by
  obtain ⟨h0, h1⟩ := (isC_iff c).1 h
  obtain ⟨n, rfl⟩ := Int.eq_ofNat_of_zero_le (show 0 ≤ c by omega)
  exact index_n n (by omega) w
/-- Whether a name is right for a condition. -/
def rightB (c : Int) (s : ByteArray) : Bool := isC c && (if ((rowC c).f4 || (rowC c).f5) = true then decide (1 ≤ s.size) && decide (s.size ≤ 31) else s.toList.isEmpty)
theorem setRow_ne (W : World) (g : Nat) (cs : Array Value) {k : Nat} (h : k ≠ g) : (W.setRow g cs).heap[k]? = W.heap[k]? := by
  unfold World.setRow
  simp [Array.getElem?_modify, Ne.symm h]
theorem ex_index {P : Program} {o : Oper} {a : Act} {W : World} {t : TypeId} {x i : Operand} {v j r : Value} (ho : o.op = .index t x i) (hx : a.eval x = v) (hi : a.eval i = j) (h : (Instr.index t v j).run P W = .ok r W) : (execOp a.eval o).run P W = .ok (.value r) W := by
  simp only [execOp, ho, hx, hi, Sem.run_bind, Sem.run_pure, Result.andThen, h]
set_option maxRecDepth 100000 in
set_option maxHeartbeats 4000000 in
theorem right_is (c : Int) (s : ByteArray) (w : World) : Calls Try.prog 36 #[.agg #[.int .i64 c, .string s]] w fun e w' => e = .returned (.bool (rightB c s)) ∧ Below w.heap.size w w' := by
  cases hC : isC c with
  | false =>
    have hr : rightB c s = false := by unfold rightB; rw [hC]; rfl
    rw [hr]
    have HI := Aside0.mk (fun W => is_is c W)
    rw [hC] at HI
    clear hr hC
    go_enter Try.func36, Try.ntmps36
    go_wp2_with fail
    refine (HI.out _).mono ?_
    rintro e w' ⟨rfl, hb⟩
    have HB := Aside0.mk (((Below.refl w.heap.size w).alloc (Nat.le_refl _) (.cells #[.int .i64 c, .string s] 71 (0, 0))).trans (hb.mono (show w.heap.size ≤ _ by simp)))
    clear hb
    go_wp2_with fail
    go_ret
    exact ⟨rfl, HB.out⟩
  | true =>
    have HX := Aside0.mk (fun W => index_is c hC W)
    have HI := Aside0.mk (fun W => is_is c W)
    rw [hC] at HI
    generalize hr : rightB c s = r
    unfold rightB at hr
    rw [hC, Bool.true_and] at hr
    have HR := Aside0.mk hr
    clear hr hC
    unfold aggC at HX
    generalize rowC c = x at *
    go_enter Try.func36, Try.ntmps36
    go_wp2_with fail
    refine (HI.out _).mono ?_
    rintro e w' ⟨rfl, hb⟩
    have HS := Aside0.mk (blk_below (blk_new w (.cells #[.int .i64 c, .string s] 71 (0, 0))) hb)
    have HB := Aside0.mk (((Below.refl w.heap.size w).alloc (Nat.le_refl _) (.cells #[.int .i64 c, .string s] 71 (0, 0))).trans (hb.mono (show w.heap.size ≤ _ by simp)))
    clear hb
    go_wp2_with fail
    have s0 := (blk_cell HS.out 0).trans rfl
    have s1 := (blk_cell HS.out 1).trans rfl
    have hx := HX.out
    clear hx s0 s1
    refine start_ (n := 6) (S := fun W => W.heap[w.heap.size]? = some (.cells #[.int .i64 c, .string s] 71 (0, 0)) ∧ Below w.heap.size w W) (ds := [5]) #[false, false, false, false, false, false] (by kernel_rfl) rfl rfl ⟨blk_drew HS.out, Below.drew HB.out⟩ (fun hHeld => ?_)
    generalize w'.drew = w1 at hHeld ⊢
    clear HS HB
    refine pure_ (i := 1) (N := some 9) (v := ?_) (a' := ?_) #[false, true, false, false, false, false] rfl rfl (by kernel_rfl) (fun _ _ _ h => h) (Or.inl ⟨by rfl, ?_⟩) ?_ ?_
    rotate_left
    · intro w_
      go_simp
      with_reducible rfl
    rotate_left
    · simp only [Act.put, List.setIfInBounds_toArray, List.set_cons_zero, List.set_cons_succ, i64_w, i32_w]
      rfl
    refine take_ (i := 2) (N := some 10) (v := ?_) (a' := ?_) #[false, true, true, false, false, false] rfl rfl (by kernel_rfl) (fun _ _ _ h => h) (Or.inl ⟨by rfl, ?_⟩) hHeld ?_ ?_
    rotate_left
    · rintro w_ ⟨hs_, _⟩
      have s0 := (blk_cell hs_ 0).trans rfl
      go_simp
      with_reducible rfl
    rotate_left
    · simp only [Act.put, List.setIfInBounds_toArray, List.set_cons_zero, List.set_cons_succ, i64_w, i32_w]
      rfl
    refine join_ (σ := Nat) 1 #[true, true, true, true, true, false] (fun g => [(8, .agg tab1), (11, .agg #[.string x.f0, .int .i64 x.f1, .bool x.f2, .bool x.f3, .bool x.f4, .bool x.f5, .int .i64 x.f6, .int .i64 x.f7]), (3, .pointer (some ⟨g, 0, none⟩))]) (fun g W => W.heap[g]? = some (.cells #[.string (⟨#[]⟩ : ByteArray), .int .i64 0, .bool false, .bool false, .bool false, .bool false, .int .i64 0, .int .i64 0] 42 (0, 0)) ∧ W.heap[w.heap.size]? = some (.cells #[.int .i64 c, .string s] 71 (0, 0)) ∧ Below w.heap.size w W ∧ w.heap.size < g) ?_ ?_
    · rintro g W ⟨hG, hS, hB, hlt⟩
      refine norm_ (a' := ?_) ?_ ?_
      rotate_left
      · simp only [putAll, Act.put, List.setIfInBounds_toArray, List.set_cons_zero, List.set_cons_succ, i64_w, i32_w]
        rfl
      refine last_ (i := 5) (N := none) #[true, true, true, true, true, true] rfl rfl (by kernel_rfl) (by decide) (fun K' hK => ?_)
      refine skip_ (by rfl) rfl (ex_store rfl rfl rfl hG rfl rfl (by first | kernel_rfl | simp [Value.oneCell'])) ?_
      refine hK.out _ _ ?_
      clear hK K' hHeld
      have hG2 := Aside0.mk (setRow_heap _ _ _ #[.string x.f0, .int .i64 x.f1, .bool x.f2, .bool x.f3, .bool x.f4, .bool x.f5, .int .i64 x.f6, .int .i64 x.f7] _ _ hG)
      have hB2 := Aside0.mk (below_setRow hB (Nat.le_of_lt hlt) #[.string x.f0, .int .i64 x.f1, .bool x.f2, .bool x.f3, .bool x.f4, .bool x.f5, .int .i64 x.f6, .int .i64 x.f7])
      have hS2 := Aside0.mk ((show (W.setRow g #[.string x.f0, .int .i64 x.f1, .bool x.f2, .bool x.f3, .bool x.f4, .bool x.f5, .int .i64 x.f6, .int .i64 x.f7]).heap[w.heap.size]? = W.heap[w.heap.size]? from setRow_ne _ _ _ (by omega)).trans hS)
      generalize W.setRow g #[.string x.f0, .int .i64 x.f1, .bool x.f2, .bool x.f3, .bool x.f4, .bool x.f5, .int .i64 x.f6, .int .i64 x.f7] = W2 at hG2 hB2 hS2 ⊢
      clear hG hB hS HX
      refine done_ (by kernel_rfl) ?_
      have r4 := (blk_cell hG2.out 4).trans rfl
      have r5 := (blk_cell hG2.out 5).trans rfl
      have s1 := (blk_cell hS2.out 1).trans rfl
      have HR := HR.out
      obtain ⟨f0, f1, f2, f3, f4, f5, f6, f7⟩ := x
      dsimp only at r4 r5 HR
      cases f4 <;> cases f5 <;> (simp only [Bool.or_false, Bool.or_true, Bool.or_self, if_true, if_false, Bool.false_eq_true] at HR; go_wp2_with fail)
      all_goals (go_ret; refine ⟨?_, hB2.out⟩; rw [← HR]; (first | rfl | (rename_i h_; simp [show 1 ≤ s.size by omega]; omega) | (rename_i h_; simp [show ¬ 1 ≤ s.size by omega])))
    · intro hj
      refine two_ (i := 0) (j := 4) (Ni := some 8) (Nj := some 3) #[true, true, true, false, false, false] #[false, true, true, false, true, false] rfl rfl rfl rfl (by kernel_rfl) (by decide) (by decide) (fun K' hK => ?_) (fun K' hK => ?_)
      · refine goes_ Try.func40 (by kernel_rfl) rfl #[] (by rfl) rfl rfl (by simp) ?_
        refine (table_is _).mono ?_
        rintro e w2 ⟨rfl, hb⟩
        refine ⟨_, rfl, ?_⟩
        refine hK.out _ _ ⟨blk_below hHeld.1 hb, hHeld.2.trans (hb.mono hHeld.2.size)⟩ (fun hHeld => ?_)
        clear hb hK K'
        refine norm_ (a' := ?_) ?_ ?_
        rotate_left
        · show Act.put _ (some 8) _ = _
          simp only [Act.put, List.setIfInBounds_toArray, List.set_cons_zero, List.set_cons_succ, i64_w, i32_w]
          rfl
        refine pure_ (i := 3) (N := some 11) (v := (.agg #[.string x.f0, .int .i64 x.f1, .bool x.f2, .bool x.f3, .bool x.f4, .bool x.f5, .int .i64 x.f6, .int .i64 x.f7])) (a' := ?_) #[true, true, true, true, false, false] rfl rfl (by kernel_rfl) (fun _ _ _ h => h) (Or.inl ⟨by rfl, ?_⟩) ?_ ?_
        · intro w_
          exact ex_index rfl rfl rfl (HX.out w_)
        rotate_left
        · simp only [Act.put, List.setIfInBounds_toArray, List.set_cons_zero, List.set_cons_succ, i64_w, i32_w]
          rfl
        refine one_ (i := 4) (N := some 3) #[true, true, true, true, true, false] rfl rfl (by kernel_rfl) (by decide) (fun K' hK => ?_)
        refine value_ (w1 := w2.alloc (.cells #[.string (⟨#[]⟩ : ByteArray), .int .i64 0, .bool false, .bool false, .bool false, .bool false, .int .i64 0, .int .i64 0] 42 (0, 0))) (v := .pointer (some ⟨w2.heap.size, 0, none⟩)) (by rfl) rfl ?_ ?_
        · go_simp
        refine hK.out _ _ ⟨blk_alloc hHeld.1 _, hHeld.2.alloc hHeld.2.size _⟩ (fun _ => ?_)
        clear hK K'
        refine norm_ ?_ (hj _ _ ⟨blk_new _ _, blk_alloc hHeld.1 _, hHeld.2.alloc hHeld.2.size _, blk_lt hHeld.1⟩)
        simp only [putAll, Act.put, List.setIfInBounds_toArray, List.set_cons_zero, List.set_cons_succ]
      · refine value_ (w1 := w1.alloc (.cells #[.string (⟨#[]⟩ : ByteArray), .int .i64 0, .bool false, .bool false, .bool false, .bool false, .int .i64 0, .int .i64 0] 42 (0, 0))) (v := .pointer (some ⟨w1.heap.size, 0, none⟩)) (by rfl) rfl ?_ ?_
        · go_simp
        have hN := Aside0.mk (blk_new w1 (.cells #[.string (⟨#[]⟩ : ByteArray), .int .i64 0, .bool false, .bool false, .bool false, .bool false, .int .i64 0, .int .i64 0] 42 (0, 0)))
        have hlt := blk_lt hHeld.1
        refine hK.out _ _ ⟨blk_alloc hHeld.1 _, hHeld.2.alloc hHeld.2.size _⟩ (fun hHeld => ?_)
        clear hK K'
        refine norm_ (a' := ?_) ?_ ?_
        rotate_left
        · show Act.put _ (some 3) _ = _
          simp only [Act.put, List.setIfInBounds_toArray, List.set_cons_zero, List.set_cons_succ, i64_w, i32_w]
          rfl
        refine one_ (i := 0) (N := some 8) #[true, true, true, false, true, false] rfl rfl (by kernel_rfl) (by decide) (fun K' hK => ?_)
        refine goes_ Try.func40 (by kernel_rfl) rfl #[] (by rfl) rfl rfl (by simp) ?_
        refine (table_is _).mono ?_
        rintro e w2 ⟨rfl, hb⟩
        refine ⟨_, rfl, ?_⟩
        have hN := Aside0.mk (blk_below hN.out hb)
        refine hK.out _ _ ⟨blk_below hHeld.1 hb, hHeld.2.trans (hb.mono hHeld.2.size)⟩ (fun hHeld => ?_)
        clear hb hK K'
        refine norm_ (a' := ?_) ?_ ?_
        rotate_left
        · show Act.put _ (some 8) _ = _
          simp only [Act.put, List.setIfInBounds_toArray, List.set_cons_zero, List.set_cons_succ, i64_w, i32_w]
          rfl
        refine pure_ (i := 3) (N := some 11) (v := (.agg #[.string x.f0, .int .i64 x.f1, .bool x.f2, .bool x.f3, .bool x.f4, .bool x.f5, .int .i64 x.f6, .int .i64 x.f7])) (a' := ?_) #[true, true, true, true, true, false] rfl rfl (by kernel_rfl) (fun _ _ _ h => h) (Or.inl ⟨by rfl, ?_⟩) ?_ ?_
        · intro w_
          exact ex_index rfl rfl rfl (HX.out w_)
        rotate_left
        · simp only [Act.put, List.setIfInBounds_toArray, List.set_cons_zero, List.set_cons_succ, i64_w, i32_w]
          rfl
        refine norm_ ?_ (hj _ _ ⟨hN.out, hHeld.1, hHeld.2, hlt⟩)
        simp only [putAll, Act.put, List.setIfInBounds_toArray, List.set_cons_zero, List.set_cons_succ]
end Go.Proofs.Ytfahpihbbkkngaa.P

-- from the text Hh
namespace Go.Proofs.Ytfahpihbbkkngaa.P
open Go.RowKit Go.Proofs.YtfahpihbbkkngaaW.PrintWords Go.Proofs.YtfahpihbbkkngaaW.PrintLast Go.Proofs.YtfahpihbbkkngaaW.PrintMore
set_option linter.unusedVariables false
set_option linter.unusedSimpArgs false
/-- A frame. -/
structure Fr where
  us : List S24
  rc : Int
  rn : ByteArray
  bl : Int
def fr0 : Fr := ⟨[], 0, ⟨#[]⟩, 0⟩
def cU (u : S24) : List Value := [.int .i64 u.f0, .string u.f1, .int .i64 u.f2]
def cF (x : Value × Fr) : List Value := [x.1, .int .i64 x.2.rc, .string x.2.rn, .int .i64 x.2.bl]
def cUs (l : List S24) : List Value := l.flatMap cU
def cFs (l : List (Value × Fr)) : List Value := l.flatMap cF
theorem len_cUs : ∀ l : List S24, (cUs l).length = l.length * 3
  | [] => rfl
  | x :: l => by
    have := len_cUs l
    simp only [cUs, List.flatMap_cons, List.length_append, List.length_cons] at this ⊢
    simp only [cU, List.length_cons, List.length_nil]
    omega
theorem len_cFs : ∀ l : List (Value × Fr), (cFs l).length = l.length * 4
  | [] => rfl
  | x :: l => by
    have := len_cFs l
    simp only [cFs, List.flatMap_cons, List.length_append, List.length_cons] at this ⊢
    simp only [cF, List.length_cons, List.length_nil]
    omega
/-- What a call may turn: blocks of F, and what is laid anew. -/
structure Turn (F : Nat → Prop) (w w' : World) : Prop where
  os : w'.os = w.os
  tape : w'.tape = w.tape
  output : w'.output = w.output
  size : w.heap.size ≤ w'.heap.size
  block : ∀ k, k < w.heap.size → ¬ F k → w'.heap[k]? = w.heap[k]?
def More (F : Nat → Prop) (n m : Nat) (k : Nat) : Prop := F k ∨ (n ≤ k ∧ k < m)
theorem Turn.refl (F : Nat → Prop) (w : World) : Turn F w w := ⟨rfl, rfl, rfl, Nat.le_refl _, fun _ _ _ => rfl⟩
theorem Turn.of_below {F : Nat → Prop} {w w' : World} (h : Below w.heap.size w w') : Turn F w w' := ⟨h.os, h.tape, h.output, h.size, fun k hk _ => h.block k hk⟩
theorem Turn.trans {F : Nat → Prop} {a b c : World} (h : Turn F a b) (k : Turn (More F a.heap.size b.heap.size) b c) : Turn F a c :=
  ⟨k.os.trans h.os, k.tape.trans h.tape, k.output.trans h.output, Nat.le_trans h.size k.size, fun i hi hn => (k.block i (Nat.lt_of_lt_of_le hi h.size) (fun e => e.elim hn (fun e => by omega))).trans (h.block i hi hn)⟩
theorem Turn.set {F : Nat → Prop} {a b : World} (h : Turn F a b) {p : Addr} (hp : F p.block) (v : Value) : Turn F a (b.setCell p v) :=
  ⟨h.os, h.tape, h.output, by rw [World.size_setCell]; exact h.size, fun k hk hn => (Below.heap_setCell b p v k (fun e => hn (e ▸ hp))).trans (h.block k hk hn)⟩
theorem Turn.below {F : Nat → Prop} {a b : World} (h : Turn F a b) {B : Nat} (hB : ∀ k, F k → B ≤ k) (hs : B ≤ a.heap.size) : Below B a b :=
  ⟨h.os, h.tape, h.output, h.size, fun k hk => h.block k (by omega) (fun e => by have := hB k e; omega)⟩
theorem Turn.step {F : Nat → Prop} {a b c : World} (h : Turn F a b) (hb : Below b.heap.size b c) : Turn F a c :=
  ⟨hb.os.trans h.os, hb.tape.trans h.tape, hb.output.trans h.output, Nat.le_trans h.size hb.size, fun k hk hn => (hb.block k (Nat.lt_of_lt_of_le hk h.size)).trans (h.block k hk hn)⟩
theorem Turn.grown {F : Nat → Prop} {a b c : World} {row : Option Nat} (h : Turn F a b) (hg : b.grownBy c row) (hr : ∀ k, row = some k → F k ∨ a.heap.size ≤ k) : Turn F a c :=
  ⟨hg.os.trans h.os, hg.tape.trans h.tape, hg.output.trans h.output, Nat.le_trans h.size hg.size, fun k hk hn => (hg.block k (Nat.lt_of_lt_of_le hk h.size) (fun e => (hr k e.symm).elim hn (fun e => by omega))).trans (h.block k hk hn)⟩
/-- A row lies as it lay where its block does. -/
theorem ownsRow_kept {w w' : World} {base : Nat} {e : TypeId} {size : Nat} {v : Value} {n : Nat} {xs : List Value} (h : w.ownsRow base e size v n xs) (hk : ∀ k, v.ownBlock = some k → w'.heap[k]? = w.heap[k]?) : w'.ownsRow base e size v n xs := by
  refine ⟨h.1, h.2.imp id ?_⟩
  rintro ⟨g, cap, cur, rfl, hb, hg, rest⟩
  exact ⟨g, cap, cur, rfl, hb, (hk g rfl).trans hg, rest⟩
theorem ownsRow_base {w : World} {base b' : Nat} {e : TypeId} {size : Nat} {v : Value} {n : Nat} {xs : List Value} (h : w.ownsRow base e size v n xs) (hb : b' ≤ base) : w.ownsRow b' e size v n xs := by
  refine ⟨h.1, h.2.imp id ?_⟩
  rintro ⟨g, cap, cur, rfl, hg, rest⟩
  exact ⟨g, cap, cur, rfl, Nat.le_trans hb hg, rest⟩
/-- A cell of an owned row. -/
theorem ownsRow_cell {w : World} {base : Nat} {e : TypeId} {size : Nat} {g : Nat} {n cap : Nat} {xs : List Value} (h : w.ownsRow base e size (.slice (some ⟨g, 0, none⟩) n cap) n xs) {j : Nat} {u : Value} (hj : xs[j]? = some u) : w.cell? ⟨g, j, none⟩ = some u := by
  rcases h.2 with ⟨h0, _⟩ | ⟨g', cap', cur, hv, _, hg, _, _, _, ht⟩
  · cases h0
  · cases hv
    have hj2 : cur[j]? = some u := by
      rw [← ht, List.getElem?_take] at hj
      split at hj
      · simpa using hj
      · cases hj
    exact (blk_cell hg j).trans hj2
/-- The stack at block s: its frames' row fv, each frame with the row of its units. -/
structure Stk (w : World) (s : Nat) (fv : Value) (D : List (Value × Fr)) : Prop where
  head : w.heap[s]? = some (.cells #[fv] 76 (0, 0))
  row : w.ownsRow 0 73 4 fv D.length (cFs D)
  units : ∀ x ∈ D, w.ownsRow 0 24 3 x.1 x.2.us.length (cUs x.2.us)
  apart : D.Pairwise (fun x y => ∀ b, x.1.ownBlock = some b → y.1.ownBlock ≠ some b)
def foot (s : Nat) (fv : Value) (D : List (Value × Fr)) (k : Nat) : Prop := k = s ∨ fv.ownBlock = some k ∨ ∃ x ∈ D, x.1.ownBlock = some k
theorem Stk.kept {w w' : World} {s : Nat} {fv : Value} {D : List (Value × Fr)} (h : Stk w s fv D) (hk : ∀ k, foot s fv D k → w'.heap[k]? = w.heap[k]?) : Stk w' s fv D :=
  ⟨(hk s (.inl rfl)).trans h.head, ownsRow_kept h.row (fun k e => hk k (.inr (.inl e))), fun x hx => ownsRow_kept (h.units x hx) (fun k e => hk k (.inr (.inr ⟨x, hx, e⟩))), h.apart⟩
theorem blk_lt' {w : World} {k : Nat} {o : Obj} (h : w.heap[k]? = some o) : k < w.heap.size := (Array.getElem?_eq_some_iff.1 h).1
theorem Stk.foot_lt {w : World} {s : Nat} {fv : Value} {D : List (Value × Fr)} (h : Stk w s fv D) {k : Nat} (hk : foot s fv D k) : k < w.heap.size := by
  rcases hk with rfl | hk | ⟨x, hx, hk⟩
  · exact blk_lt' h.head
  · exact (h.row.lt k hk).2
  · exact ((h.units x hx).lt k hk).2
/-- The three kinds of blocks differ. -/
theorem own_type {w : World} {base : Nat} {e : TypeId} {size : Nat} {v : Value} {n : Nat} {xs : List Value} (h : w.ownsRow base e size v n xs) {k : Nat} (hk : v.ownBlock = some k) : ∃ cur, w.heap[k]? = some (.cells cur e (0, 0)) := by
  rcases h.2 with ⟨rfl, _⟩ | ⟨g, cap, cur, rfl, _, hg, _⟩
  · cases hk
  · cases hk
    exact ⟨cur, hg⟩
theorem Stk.row_ne {w : World} {s : Nat} {fv : Value} {D : List (Value × Fr)} (h : Stk w s fv D) : fv.ownBlock ≠ some s := fun e => by
  obtain ⟨cur, hc⟩ := own_type h.row e
  have := h.head.symm.trans hc
  simp at this
theorem Stk.unit_ne {w : World} {s : Nat} {fv : Value} {D : List (Value × Fr)} (h : Stk w s fv D) {x : Value × Fr} (hx : x ∈ D) : x.1.ownBlock ≠ some s := fun e => by
  obtain ⟨cur, hc⟩ := own_type (h.units x hx) e
  have := h.head.symm.trans hc
  simp at this
theorem Stk.unit_row {w : World} {s : Nat} {fv : Value} {D : List (Value × Fr)} (h : Stk w s fv D) {x : Value × Fr} (hx : x ∈ D) {k : Nat} (hk : fv.ownBlock = some k) : x.1.ownBlock ≠ some k := fun e => by
  obtain ⟨cur, hc⟩ := own_type (h.units x hx) e
  obtain ⟨cur', hc'⟩ := own_type h.row hk
  have := hc'.symm.trans hc
  simp at this
/-- The stack's frames are L, its blocks are of F. -/
def St (w : World) (s : Nat) (L : List Fr) (F : Nat → Prop) : Prop := ∃ fv D, Stk w s fv D ∧ D.map Prod.snd = L ∧ ∀ k, foot s fv D k → F k
theorem St.below {w w' : World} {s : Nat} {L : List Fr} {F : Nat → Prop} (h : St w s L F) (hb : Below w.heap.size w w') : St w' s L F := by
  obtain ⟨fv, D, h1, h2, h3⟩ := h
  exact ⟨fv, D, h1.kept (fun k hk => hb.block k (h1.foot_lt hk)), h2, h3⟩
theorem St.turn {w w' : World} {s : Nat} {L : List Fr} {F G : Nat → Prop} (h : St w s L F) (ht : Turn G w w') (hd : ∀ k, F k → ¬ G k) : St w' s L F := by
  obtain ⟨fv, D, h1, h2, h3⟩ := h
  exact ⟨fv, D, h1.kept (fun k hk => ht.block k (h1.foot_lt hk) (hd k (h3 k hk))), h2, h3⟩
theorem St.mono {w : World} {s : Nat} {L : List Fr} {F G : Nat → Prop} (h : St w s L F) (hd : ∀ k, F k → G k) : St w s L G := by
  obtain ⟨fv, D, h1, h2, h3⟩ := h
  exact ⟨fv, D, h1, h2, fun k hk => hd k (h3 k hk)⟩
end Go.Proofs.Ytfahpihbbkkngaa.P

-- from the text Hi
namespace Go.Proofs.Ytfahpihbbkkngaa.P
open Go.RowKit Go.Proofs.YtfahpihbbkkngaaW.PrintWords Go.Proofs.YtfahpihbbkkngaaW.PrintLast Go.Proofs.YtfahpihbbkkngaaW.PrintMore
set_option linter.unusedVariables false
set_option linter.unusedSimpArgs false
section
variable {ops : Array Oper} {rest : List Oper} {o : Oper} {a : Act} {Q : Exit → Act → World → Prop} {W : World}
/-- One frame more. -/
theorem wl_append73 {s x : Operand} {fv : Value} {n : Nat} {xs : List Value} (g0 : Nat) (b c d : Value) (v : Value) (hgd : o.guard = none) (ho : o.op = .call { callee := .builtin .append, args := #[s, x], argTypes := #[74, 74] })
    (hs : a.eval s = fv) (hrow : W.ownsRow 0 73 4 fv n xs) (hx : a.eval x = .slice (some ⟨g0, 0, none⟩) 1 1) (hb : W.heap[g0]? = some (.cells #[v, b, c, d] 73 (0, 0)))
    (h1 : v.oneCell' = true ∧ b.oneCell' = true ∧ c.oneCell' = true ∧ d.oneCell' = true) (hn : n ≤ 1000000)
    (h : ∀ g cap w', w'.ownsRow 0 73 4 (.slice (some ⟨g, 0, none⟩) (n + 1) cap) (n + 1) (xs ++ [v, b, c, d]) → W.grownBy w' fv.ownBlock → (fv.ownBlock = some g ∨ g = W.heap.size) → g < w'.heap.size → wpList Try.prog ops Q rest (a.put o.dst (.slice (some ⟨g, 0, none⟩) (n + 1) cap)) w') : wpList Try.prog ops Q (o :: rest) a W := by
  obtain ⟨i0, hi, hz0, hz1, hz2⟩ := info_parts info73
  exact wpList_append_lies W hgd s x 74 ho 0 73 i0 _ 4 56 Try.underlying74 hi hz0 hz1 hz2 rfl (by decide) fv n xs hs hrow ⟨g0, 0, none⟩ 1 1 [v, b, c, d] hx rfl
    (fun j u hj => by rw [add_plain]; exact (blk_cell hb j).trans (by simpa using hj)) (by simp [h1]) (by decide) (by simp only [maxLen]; omega) (by omega) (Nat.zero_le _) _ rfl h
end
set_option maxRecDepth 100000 in
set_option maxHeartbeats 4000000 in
theorem new_is (w : World) : Calls Try.prog 11 #[] w fun e w' => ∃ s, e = .returned (.pointer (some ⟨s, 0, none⟩)) ∧ St w' s [fr0] (More (fun _ => False) w.heap.size w'.heap.size) ∧ Below w.heap.size w w' := by
  go_enter Try.func11, Try.ntmps11
  go_wp2_with fail
  go_ret
  have h1 := blk_new w (.cells #[.slice none 0 0, .int .i64 0, .string ⟨#[]⟩, .int .i64 0] 73 (0, 0))
  have h2 := blk_alloc h1 (.cells #[.slice (some ⟨w.heap.size, 0, none⟩) 1 1] 76 (0, 0))
  have h3 := blk_new (w.alloc (.cells #[.slice none 0 0, .int .i64 0, .string ⟨#[]⟩, .int .i64 0] 73 (0, 0))) (.cells #[.slice (some ⟨w.heap.size, 0, none⟩) 1 1] 76 (0, 0))
  rw [World.size_alloc] at h3
  refine ⟨w.heap.size + 1, rfl, ⟨.slice (some ⟨w.heap.size, 0, none⟩) 1 1, [(.slice none 0 0, fr0)], ⟨h3, ⟨rfl, .inr ⟨_, _, _, rfl, Nat.zero_le _, h2, by simp, by simp [maxLen], rfl, rfl⟩⟩, ?_, by simp⟩, rfl, ?_⟩, ?_⟩
  · intro x hx
    simp only [List.mem_singleton] at hx
    subst hx
    exact ⟨rfl, .inl ⟨rfl, rfl⟩⟩
  · intro k hk
    refine .inr ?_
    rcases hk with rfl | hk | ⟨x, hx, hk⟩
    · simp
    · cases hk
      simp only [World.size_alloc]
      omega
    · simp only [List.mem_singleton] at hx
      subst hx
      cases hk
  · exact ((Below.refl _ _).alloc (Nat.le_refl _) _).alloc (by simp) _
/-- What the stack's head tells. -/
theorem St.open_ {w : World} {s : Nat} {L : List Fr} {F : Nat → Prop} (h : St w s L F) : ∃ fv D, Stk w s fv D ∧ D.map Prod.snd = L ∧ (∀ k, foot s fv D k → F k) ∧ (∃ p c, fv = .slice p L.length c) ∧ w.cell? ⟨s, 0, none⟩ = some fv ∧ w.frozen? ⟨s, 0, none⟩ = false := by
  obtain ⟨fv, D, h1, h2, h3⟩ := h
  have hl : D.length = L.length := by rw [← h2]; simp
  refine ⟨fv, D, h1, h2, h3, ?_, (blk_cell h1.head 0).trans rfl, blk_frozen h1.head 0⟩
  rcases h1.row.2 with ⟨rfl, h0⟩ | ⟨g, cap, cur, rfl, _⟩
  · exact ⟨none, 0, by rw [← hl, h0]⟩
  · exact ⟨_, _, by rw [← hl]⟩
theorem depth_is (s : Nat) (L : List Fr) (F : Nat → Prop) (w : World) (h : St w s L F) : Calls Try.prog 15 #[.pointer (some ⟨s, 0, none⟩)] w fun e w' => e = .returned (.int .i64 (L.length : Int)) ∧ Below w.heap.size w w' := by
  obtain ⟨fv, D, h1, h2, h3, ⟨p, c, rfl⟩, hc, hf⟩ := h.open_
  clear h1 h2 h3
  go_enter Try.func15, Try.ntmps15
  go_wp2_with fail
  go_ret
  exact ⟨rfl, Below.refl _ _⟩
theorem push_full (s : Nat) (L : List Fr) (F : Nat → Prop) (w : World) (h : St w s L F) (hl : 60 ≤ L.length) : Calls Try.prog 12 #[.pointer (some ⟨s, 0, none⟩)] w fun e w' => e = .returned (.int .i64 4) ∧ Below w.heap.size w w' := by
  obtain ⟨fv, D, h1, h2, h3, ⟨p, c, rfl⟩, hc, hf⟩ := h.open_
  clear h1 h2 h3
  have hd : decide (60 ≤ (L.length : Int)) = true := decide_eq_true (by omega)
  go_enter Try.func12, Try.ntmps12
  go_wp2_with fail
  go_ret
  exact ⟨rfl, Below.refl _ _⟩
/-- A frame is put on top. -/
theorem St.pushed {w W w2 : World} {s g cap : Nat} {fv : Value} {D : List (Value × Fr)} {L : List Fr} {F : Nat → Prop} {f : Fr} (h : Stk w s fv D) (h2 : D.map Prod.snd = L) (h3 : ∀ k, foot s fv D k → F k) (hf : f.us = []) (hW : Below w.heap.size w W)
    (hown : w2.ownsRow 0 73 4 (.slice (some ⟨g, 0, none⟩) (D.length + 1) cap) (D.length + 1) (cFs D ++ cF (.slice none 0 0, f))) (hgrow : W.grownBy w2 fv.ownBlock) (hat : fv.ownBlock = some g ∨ g = W.heap.size) (hlt : g < w2.heap.size) :
    St (w2.setCell ⟨s, 0, none⟩ (.slice (some ⟨g, 0, none⟩) (D.length + 1) cap)) s (L ++ [f]) (More F w.heap.size (w2.setCell ⟨s, 0, none⟩ (.slice (some ⟨g, 0, none⟩) (D.length + 1) cap)).heap.size) ∧ Turn F w (w2.setCell ⟨s, 0, none⟩ (.slice (some ⟨g, 0, none⟩) (D.length + 1) cap)) := by
  have hs : s < w.heap.size := blk_lt' h.head
  have hk2 : ∀ k, k < w.heap.size → fv.ownBlock ≠ some k → w2.heap[k]? = w.heap[k]? := fun k hk hn => (hgrow.block k (Nat.lt_of_lt_of_le hk hW.size) (fun e => hn e.symm)).trans (hW.block k hk)
  have hh := (hk2 s hs h.row_ne).trans h.head
  have hgs : g ≠ s := by
    rintro rfl
    rcases hat with e | e
    · exact h.row_ne e
    · have := hW.size
      omega
  refine ⟨⟨.slice (some ⟨g, 0, none⟩) (D.length + 1) cap, D ++ [(.slice none 0 0, f)], ⟨blk_put hh 0 _ rfl, ?_, ?_, ?_⟩, by simp [h2], ?_⟩, ?_⟩
  · have e1 : (D ++ [((Value.slice none 0 0 : Value), f)]).length = D.length + 1 := by simp
    have e2 : cFs (D ++ [((Value.slice none 0 0 : Value), f)]) = cFs D ++ cF (.slice none 0 0, f) := by simp [cFs]
    rw [e1, e2]
    exact ownsRow_kept hown (fun k hk => by cases hk; exact Below.heap_setCell _ _ _ _ hgs)
  · intro x hx
    rcases List.mem_append.1 hx with hx | hx
    · exact ownsRow_kept (h.units x hx) (fun k hk => (Below.heap_setCell w2 _ _ _ (fun e => h.unit_ne hx (hk.trans (congrArg some e)))).trans (hk2 k ((h.units x hx).lt k hk).2 (fun e => h.unit_row hx e hk)))
    · simp only [List.mem_singleton] at hx
      subst hx
      exact ⟨by simp [hf, cUs], .inl ⟨rfl, by simp [hf]⟩⟩
  · refine List.pairwise_append.2 ⟨h.apart, by simp, fun x hx y hy b hb => ?_⟩
    simp only [List.mem_singleton] at hy
    subst hy
    simp [Value.ownBlock]
  · rw [World.size_setCell]
    rintro k (rfl | hk | ⟨x, hx, hk⟩)
    · exact .inl (h3 _ (.inl rfl))
    · cases hk
      rcases hat with e | e
      · exact .inl (h3 _ (.inr (.inl e)))
      · exact .inr ⟨e ▸ hW.size, hlt⟩
    · rcases List.mem_append.1 hx with hx | hx
      · exact .inl (h3 _ (.inr (.inr ⟨x, hx, hk⟩)))
      · simp only [List.mem_singleton] at hx
        subst hx
        cases hk
  · exact Turn.set (Turn.grown (Turn.of_below hW) hgrow (fun k hk => .inl (h3 k (.inr (.inl hk))))) (h3 s (.inl rfl)) _
set_option maxRecDepth 100000 in
set_option maxHeartbeats 4000000 in
theorem push_is (s : Nat) (L : List Fr) (F : Nat → Prop) (w : World) (h : St w s L F) (hl : L.length < 60) : Calls Try.prog 12 #[.pointer (some ⟨s, 0, none⟩)] w fun e w' => e = .returned (.int .i64 0) ∧ St w' s (L ++ [fr0]) (More F w.heap.size w'.heap.size) ∧ Turn F w w' := by
  obtain ⟨fv, D, h1, h2, h3, hv, hc, hf⟩ := h.open_
  have hd : decide (60 ≤ (L.length : Int)) = false := decide_eq_false (by omega)
  have hL : D.length = L.length := by rw [← h2]; simp
  have H1 := Aside0.mk h1
  have H2 := Aside0.mk h2
  have H3 := Aside0.mk h3
  have HR := Aside0.mk (ownsRow_kept (w' := w.alloc (.cells #[.slice none 0 0, .int .i64 0, .string ⟨#[]⟩, .int .i64 0] 73 (0, 0))) h1.row (fun k hk => Below.heap_alloc w _ k (h1.row.lt k hk).2))
  have HN := Aside0.mk (blk_new w (.cells #[.slice none 0 0, .int .i64 0, .string ⟨#[]⟩, .int .i64 0] 73 (0, 0)))
  have HH0 := Aside0.mk ((Below.heap_alloc w (.cells #[.slice none 0 0, .int .i64 0, .string ⟨#[]⟩, .int .i64 0] 73 (0, 0)) s (blk_lt' h1.head)).trans h1.head)
  have HB0 := Aside0.mk ((Below.refl w.heap.size w).alloc (Nat.le_refl _) (.cells #[.slice none 0 0, .int .i64 0, .string ⟨#[]⟩, .int .i64 0] 73 (0, 0)))
  have HS := Aside0.mk (show s < (w.alloc (.cells #[.slice none 0 0, .int .i64 0, .string ⟨#[]⟩, .int .i64 0] 73 (0, 0))).heap.size by rw [World.size_alloc]; exact Nat.lt_succ_of_lt (blk_lt' h1.head))
  obtain ⟨p, c, hv⟩ := hv
  subst hv
  clear h1 h2 h3
  go_enter Try.func12, Try.ntmps12
  go_wp2_with (((with_reducible refine gate_dst (N := 18) rfl ?_); refine wl_append73 w.heap.size _ _ _ _ rfl rfl rfl HR.out rfl HN.out ⟨rfl, rfl, rfl, rfl⟩ (by omega) ?_; intro g cap w2 hown hgrow hat hlt; have HH := Aside0.mk ((hgrow.block s HS.out (fun e => H1.out.row_ne e.symm)).trans HH0.out); have HF := Aside0.mk (St.pushed (f := fr0) H1.out H2.out H3.out rfl HB0.out hown hgrow hat hlt); clear hown hgrow hat hlt; have hc2 := (blk_cell HH.out 0).trans rfl; have hf2 := blk_frozen HH.out 0))
  go_ret
  rw [hL] at HF
  exact ⟨rfl, HF.out⟩
end Go.Proofs.Ytfahpihbbkkngaa.P

-- from the text Hj
namespace Go.Proofs.Ytfahpihbbkkngaa.P
open Go.RowKit Go.Proofs.YtfahpihbbkkngaaW.PrintWords Go.Proofs.YtfahpihbbkkngaaW.PrintLast Go.Proofs.YtfahpihbbkkngaaW.PrintMore
set_option linter.unusedVariables false
set_option linter.unusedSimpArgs false
attribute [local go_sem high] eqA71
/-- Whether a unit is for a condition and name. -/
def hit (c : Int) (s : ByteArray) (u : S24) : Bool := u.f0 == c && (u.f1.toList == s.toList)
/-- Where the first such unit stands. -/
def idxU (c : Int) (s : ByteArray) : List S24 → Nat → Option Nat
  | [], _ => none
  | u :: r, k => if hit c s u = true then some k else idxU c s r (k + 1)
theorem idxU_cons (c : Int) (s : ByteArray) (u : S24) (r : List S24) (k : Nat) : idxU c s (u :: r) k = if hit c s u = true then some k else idxU c s r (k + 1) := rfl
def idxI : Option Nat → Int
  | some k => (k : Int)
  | none => -1
theorem cUs_at (i : Nat) (hi : i < 3) : ∀ (us : List S24) (k : Nat) (u : S24), us[k]? = some u → (cUs us)[k * 3 + i]? = (cU u)[i]?
  | [], k, u, h => by simp at h
  | x :: us, 0, u, h => by
    simp at h
    subst h
    simp only [cUs, List.flatMap_cons, Nat.zero_mul, Nat.zero_add]
    rw [List.getElem?_append_left (by simpa [cU] using hi)]
  | x :: us, k + 1, u, h => by
    have := cUs_at i hi us k u (by simpa using h)
    simp only [cUs, List.flatMap_cons] at this ⊢
    rw [List.getElem?_append_right (by simp [cU]; omega)]
    have e : (k + 1) * 3 + i - (cU x).length = k * 3 + i := by simp [cU]; omega
    rw [e, this]
set_option maxRecDepth 100000 in
set_option maxHeartbeats 4000000 in
theorem place1_is (c : Int) (s : ByteArray) (x : S24) (B : Nat) (W : World) (hB : W.heap[B]? = some (.cells #[.int .i64 c, .string s] 71 (0, 0))) :
    Calls Try.prog 59 #[.agg #[.int .i64 x.f0, .string x.f1, .int .i64 x.f2], .pointer (some ⟨B, 0, none⟩)] W fun e w' => e = .returned (.bool (hit c s x)) ∧ Below W.heap.size W w' := by
  have HA := Aside0.mk (blk_alloc hB (.cells #[.int .i64 x.f0, .string x.f1, .int .i64 x.f2] 24 (0, 0)))
  have b0 := (blk_cell HA.out 0).trans rfl
  have b1 := (blk_cell HA.out 1).trans rfl
  go_enter Try.func59, Try.ntmps59
  go_wp2
  go_ret
  exact ⟨rfl, (Below.refl _ _).alloc (Nat.le_refl _) _⟩
set_option maxRecDepth 100000 in
set_option maxHeartbeats 4000000 in
theorem index_u (c : Int) (s : ByteArray) (us : List S24) (fv : Value) (B : Nat) (w : World) (hB : w.heap[B]? = some (.cells #[.int .i64 c, .string s] 71 (0, 0))) (hr : w.ownsRow 0 24 3 fv us.length (cUs us)) (hl : us.length ≤ 1000000) :
    Calls Try.prog 58 #[fv, .func (.func 59) #[] #[.pointer (some ⟨B, 0, none⟩)]] w fun e w' => e = .returned (.int .i64 (idxI (idxU c s us 0))) ∧ Below w.heap.size w w' := by
  have hv : ∃ p cap, fv = .slice p us.length cap := by
    rcases hr.2 with ⟨rfl, h0⟩ | ⟨g, cap, cur, rfl, _⟩
    · exact ⟨none, 0, by rw [h0]⟩
    · exact ⟨_, _, rfl⟩
  obtain ⟨p, cap, rfl⟩ := hv
  have HR := Aside0.mk hr
  have HB := Aside0.mk hB
  clear hr hB
  go_enter Try.func58, Try.ntmps58
  go_wp2_with fail
  go_loopw [5, 8] (fun _ v wr => ∃ k : Nat, k ≤ us.length ∧ v = .int .i64 (k : Int) ∧ Aside0 (idxU c s (us.drop k) k = idxU c s us 0) ∧ Aside0 (Below w.heap.size w wr)) (fun _ v _ => us.length - (intOf v).toNat)
  case atStart => exact ⟨0, Nat.zero_le _, rfl, ⟨rfl⟩, ⟨Below.refl _ _⟩⟩
  case round =>
    obtain ⟨k, hk, rfl, HA, HW⟩ := hrel
    by_cases hlt : k < us.length
    · have hlt' : (k : Int) < (us.length : Int) := by omega
      have h0 : (0 : Int) ≤ (k : Int) := by omega
      have hform : ∃ g, p = some ⟨g, 0, none⟩ := by
        obtain ⟨g, cap', hv, _⟩ := HR.out.form (by omega)
        cases hv
        exact ⟨g, rfl⟩
      obtain ⟨g, rfl⟩ := hform
      have hu : us[k]? = some us[k] := List.getElem?_eq_getElem hlt
      have HD := List.drop_eq_getElem_cons hlt
      generalize us[k] = u at hu HD
      have x0 := HW.out.cell (World.block_lt_of_cell? w _ (ownsRow_cell HR.out ((cUs_at 0 (by omega) us k u hu).trans rfl))) |>.trans (ownsRow_cell HR.out ((cUs_at 0 (by omega) us k u hu).trans rfl))
      have x1 := HW.out.cell (World.block_lt_of_cell? w _ (ownsRow_cell HR.out ((cUs_at 1 (by omega) us k u hu).trans rfl))) |>.trans (ownsRow_cell HR.out ((cUs_at 1 (by omega) us k u hu).trans rfl))
      have x2 := HW.out.cell (World.block_lt_of_cell? w _ (ownsRow_cell HR.out ((cUs_at 2 (by omega) us k u hu).trans rfl))) |>.trans (ownsRow_cell HR.out ((cUs_at 2 (by omega) us k u hu).trans rfl))
      rw [Nat.add_zero] at x0
      have HC := Aside0.mk (place1_is c s u B wr (blk_below HB.out HW.out))
      have HA := HA.out
      rw [HD] at HA
      rw [idxU_cons] at HA
      clear hu HD
      cases hq : hit c s u with
      | true =>
        rw [hq] at HC
        rw [if_pos hq] at HA
        replace HA := Aside0.mk HA
        clear hq
        go_wp2_with fail
        refine HC.out.mono ?_
        rintro e w' ⟨rfl, hb'⟩
        go_wp2_with fail
        go_ret
        rw [← HA.out]
        exact ⟨rfl, HW.out.trans (hb'.mono HW.out.size)⟩
      | false =>
        rw [hq] at HC
        rw [if_neg (by simp [hq])] at HA
        replace HA := Aside0.mk HA
        clear hq
        go_wp2_with fail
        refine HC.out.mono ?_
        rintro e w' ⟨rfl, hb'⟩
        go_wp2_with fail
        go_roundw
        case rel => exact ⟨k + 1, hlt, by rfl, HA, Aside0.mk (HW.out.trans (hb'.mono HW.out.size))⟩
        case measure => simp [intOf]; omega
    · obtain rfl : k = us.length := by omega
      have hn : idxU c s us 0 = none := by rw [← HA.out]; simp [idxU]
      replace hn := Aside0.mk hn
      go_wp2_with fail
      go_ret
      rw [hn.out]
      exact ⟨rfl, HW.out⟩
set_option maxRecDepth 100000 in
set_option maxHeartbeats 4000000 in
theorem place_is (c : Int) (s : ByteArray) (us : List S24) (fv : Value) (w : World) (hr : w.ownsRow 0 24 3 fv us.length (cUs us)) (hl : us.length ≤ 1000000) :
    Calls Try.prog 38 #[.agg #[fv], .agg #[.int .i64 c, .string s]] w fun e w' => e = .returned (.int .i64 (idxI (idxU c s us 0))) ∧ Below w.heap.size w w' := by
  have h1 := Aside0.mk ((Below.refl w.heap.size w).alloc (Nat.le_refl _) (.cells #[fv] 69 (0, 0)))
  have h2 := Aside0.mk (h1.out.alloc h1.out.size (.cells #[.int .i64 c, .string s] 71 (0, 0)))
  have HB := Aside0.mk (blk_new (w.alloc (.cells #[fv] 69 (0, 0))) (.cells #[.int .i64 c, .string s] 71 (0, 0)))
  rw [World.size_alloc] at HB
  have HF := Aside0.mk (blk_alloc (blk_new w (.cells #[fv] 69 (0, 0))) (.cells #[.int .i64 c, .string s] 71 (0, 0)))
  have f0 := (blk_cell HF.out 0).trans rfl
  have HC := Aside0.mk (index_u c s us fv (w.heap.size + 1) _ HB.out (ownsRow_kept hr (fun k hk => h2.out.block k (hr.lt k hk).2)) hl)
  have hmf : ∀ (fn : Fn) (first cap : Array Value) (w : World), (Instr.makeFunc fn first cap).run Try.prog w = .ok (.func fn first cap) w := fun _ _ _ _ => rfl
  clear hr
  go_enter Try.func38, Try.ntmps38
  go_wp2_with fail
  refine HC.out.mono ?_
  rintro e w' ⟨rfl, hb⟩
  go_wp2_with fail
  go_ret
  exact ⟨rfl, h2.out.trans (hb.mono h2.out.size)⟩
end Go.Proofs.Ytfahpihbbkkngaa.P

-- from the text Hk
namespace Go.Proofs.Ytfahpihbbkkngaa.P
open Go.RowKit Go.Proofs.YtfahpihbbkkngaaW.PrintWords Go.Proofs.YtfahpihbbkkngaaW.PrintLast Go.Proofs.YtfahpihbbkkngaaW.PrintMore
set_option linter.unusedVariables false
set_option linter.unusedSimpArgs false
theorem zero24 (m : Nat) : ∀ u ∈ (Builtin.zeroCells (Value.agg #[(.int .i64 0), (.string ⟨#[]⟩), (.int .i64 0)]).cells m).toList, u.oneCell' = true := by
  intro u hu
  simp only [Builtin.zeroCells, Array.mem_toList_iff, Array.mem_map] at hu
  obtain ⟨i, _, rfl⟩ := hu
  have h3 : i % (Value.agg #[(.int .i64 0), (.string ⟨#[]⟩), (.int .i64 0)]).cells.size < 3 := Nat.mod_lt _ (by decide)
  generalize i % (Value.agg #[(.int .i64 0), (.string ⟨#[]⟩), (.int .i64 0)]).cells.size = q at h3 ⊢
  match q, h3 with
  | 0, _ => rfl
  | 1, _ => rfl
  | 2, _ => rfl
set_option maxRecDepth 100000 in
set_option maxHeartbeats 4000000 in
theorem grow_is (n : Nat) (hn : n ≤ 1000000) (w : World) : Calls Try.prog 67 #[.slice none 0 0, .int .i64 (n : Int)] w fun e w' => ∃ v, e = .returned v ∧ w'.ownsRow w.heap.size 24 3 v 0 [] ∧ Below w.heap.size w w' := by
  by_cases h0 : n = 0
  · subst h0
    go_enter Try.func67, Try.ntmps67
    go_wp2_with fail
    go_ret
    exact ⟨_, rfl, World.ownsRow_nil _ _ _ _, Below.refl _ _⟩
  · have hp : (0 : Int) < (n : Int) := by omega
    have hnn : ¬ ((n : Int) < 0) := by omega
    have hw : wrap64 (n : Int) = (n : Int) := by unfold wrap64; omega
    obtain ⟨i0, hi, hz0, hz1, hz2⟩ := info_parts info24
    obtain ⟨v', w1, hr, hown, hgrow, _⟩ := run_append_zeros (P := Try.prog) w w.heap.size 64 3 64 24 i0 _ 3 32 Try.underlying64 Try.underlying3 hi hz0 hz1 hz2 rfl (by decide) (by decide) (.slice none 0 0) 0 [] (World.ownsRow_nil _ _ _ _) .i64 n (zero24 n) (by omega) (Nat.le_refl _)
    rcases hown.2 with ⟨_, hbad⟩ | ⟨g, cap, cur, rfl, hb, hg, hc1, hc2, hsz, ht⟩
    · omega
    have HG := Aside0.mk (show w1.ownsRow w.heap.size 24 3 (.slice (some ⟨g, 0, none⟩) 0 cap) 0 [] from ⟨rfl, .inr ⟨g, cap, cur, rfl, hb, hg, Nat.zero_le _, hc2, hsz, by simp⟩⟩)
    have HB := Aside0.mk ((Below.refl w.heap.size w).grown hgrow (Nat.le_refl _) (fun k hk => by cases hk))
    have HR := Aside0.mk hr
    rw [Nat.zero_add] at HR hc1
    have hcap : (0 : Int) ≤ (cap : Int) := by omega
    clear hr hown hgrow hz0 hz1 hz2 hi ht hsz hg hc2
    go_enter Try.func67, Try.ntmps67
    go_wp2_with ((with_reducible refine gate_dst (N := 22) rfl ?_); refine Lib.wpList_append_run _ rfl _ _ 64 3 rfl _ _ rfl rfl _ _ HR.out ?_)
    go_ret
    exact ⟨_, rfl, HG.out, HB.out⟩
theorem oneCell_cUs (l : List S24) : ∀ u ∈ cUs l, u.oneCell' = true := by
  intro u hu
  simp only [cUs, List.mem_flatMap] at hu
  obtain ⟨x, _, hu⟩ := hu
  simp only [cU, List.mem_cons, List.not_mem_nil, or_false] at hu
  rcases hu with rfl | rfl | rfl <;> rfl
section
variable {ops : Array Oper} {rest : List Oper} {o : Oper} {a : Act} {Q : Exit → Act → World → Prop} {W : World}
theorem wl_appendU {s x : Operand} {v : Value} {base n : Nat} {xs : List Value} (m c : Nat) (ad : Addr) (us : List S24) (hgd : o.guard = none) (ho : o.op = .call { callee := .builtin .append, args := #[s, x], argTypes := #[64, 64] })
    (hs : a.eval s = v) (hrow : W.ownsRow base 24 3 v n xs) (hx : a.eval x = .slice (some ad) m c) (hl : us.length = m) (hnews : ∀ j u, (cUs us)[j]? = some u → W.cell? (ad.add j) = some u) (hn : n + m ≤ 1000000) (hb : base ≤ W.heap.size)
    (h : ∀ v' w', w'.ownsRow base 24 3 v' (n + m) (xs ++ cUs us) → W.grownBy w' v.ownBlock → wpList Try.prog ops Q rest (a.put o.dst v') w') : wpList Try.prog ops Q (o :: rest) a W := by
  obtain ⟨i0, hi, hz0, hz1, hz2⟩ := info_parts info24
  exact wpList_append_own W hgd s x 64 ho base 24 i0 _ 3 32 Try.underlying64 hi hz0 hz1 hz2 rfl (by decide) v n xs hs hrow ad m c (cUs us) hx (by rw [len_cUs, hl]) hnews (oneCell_cUs us) (by simp only [maxLen]; omega) (by omega) hb (fun v' w' h1 h2 _ => h v' w' h1 h2)
end
set_option maxRecDepth 100000 in
set_option maxHeartbeats 4000000 in
theorem concat_is (sl : Nat) (a1 a2 : Addr) (c1 c2 : Nat) (x1 x2 : List S24) (w : World) (hsl : w.heap[sl]? = some (.cells #[.slice (some a1) x1.length c1, .slice (some a2) x2.length c2] 64 (0, 0)))
    (h1 : ∀ j u, (cUs x1)[j]? = some u → w.cell? (a1.add j) = some u) (h2 : ∀ j u, (cUs x2)[j]? = some u → w.cell? (a2.add j) = some u) (hn : x1.length + x2.length ≤ 1000000) :
    Calls Try.prog 53 #[.slice (some ⟨sl, 0, none⟩) 2 2] w fun e w' => ∃ v, e = .returned v ∧ w'.ownsRow w.heap.size 24 3 v (x1.length + x2.length) (cUs (x1 ++ x2)) ∧ Below w.heap.size w w' := by
  have HS := Aside0.mk hsl
  have H1 := Aside0.mk h1
  have H2 := Aside0.mk h2
  have HGR := Aside0.mk (grow_is (x1.length + x2.length) hn)
  clear hsl h1 h2
  go_enter Try.func53, Try.ntmps53
  go_wp2_with fail
  go_loopw [3, 11] (fun t p wr => ∃ k n : Nat, p = .int .i64 (k : Int) ∧ t = .int .i64 (n : Int) ∧ Aside0 ((k = 0 ∧ n = 0) ∨ (k = 1 ∧ n = x1.length) ∨ (k = 2 ∧ n = x1.length + x2.length)) ∧ Aside0 (Below w.heap.size w wr)) (fun _ p _ => 2 - (intOf p).toNat)
  case atStart => exact ⟨0, 0, rfl, rfl, ⟨.inl ⟨rfl, rfl⟩⟩, ⟨Below.refl _ _⟩⟩
  case round =>
    obtain ⟨k, n, rfl, rfl, HK, HB⟩ := hrel
    rcases HK.out with ⟨rfl, rfl⟩ | ⟨rfl, rfl⟩ | ⟨rfl, rfl⟩
    · have HSL := Aside0.mk (blk_below HS.out HB.out)
      have s0 := (blk_cell HSL.out 0).trans rfl
      have hnn : ¬ ((x1.length : Int) < 0) := by omega
      go_wp2_with fail
      go_roundw
      case rel => exact ⟨1, x1.length, rfl, by simp, ⟨.inr (.inl ⟨rfl, rfl⟩)⟩, HB⟩
      case measure => simp [intOf]
    · have HSL := Aside0.mk (blk_below HS.out HB.out)
      have s1 := (blk_cell HSL.out 1).trans rfl
      have hnn : ¬ ((x1.length : Int) + (x2.length : Int) < 0) := by omega
      go_wp2_with fail
      go_roundw
      case rel => exact ⟨2, x1.length + x2.length, rfl, by simp, ⟨.inr (.inr ⟨rfl, rfl⟩)⟩, HB⟩
      case measure => simp [intOf]
    · have HG := Aside0.mk (HGR.out wr)
      go_wp2_with fail
      refine HG.out.mono ?_
      rintro e w1 ⟨v, rfl, hv, hb⟩
      have HV := Aside0.mk (ownsRow_base hv HB.out.size)
      have HB1 := Aside0.mk (HB.out.trans (hb.mono HB.out.size))
      clear hv hb
      go_wp2_with fail
      clear HGR HG
      go_loopw [6, 27] (fun v p wr => ∃ (k : Nat) (n : Nat) (xs : List S24), p = .int .i64 (k : Int) ∧ Aside0 ((k = 0 ∧ n = 0 ∧ xs = []) ∨ (k = 1 ∧ n = x1.length ∧ xs = x1) ∨ (k = 2 ∧ n = x1.length + x2.length ∧ xs = x1 ++ x2)) ∧ Aside0 (wr.ownsRow w.heap.size 24 3 v n (cUs xs)) ∧ Aside0 (Below w.heap.size w wr)) (fun _ p _ => 2 - (intOf p).toNat)
      case atStart => exact ⟨0, 0, [], rfl, ⟨.inl ⟨rfl, rfl, rfl⟩⟩, HV, HB1⟩
      case round =>
        clear HV HB1 HB
        obtain ⟨k, n, xs, rfl, HK, HV, HB⟩ := hrel
        rcases HK.out with ⟨rfl, rfl, rfl⟩ | ⟨rfl, rfl, rfl⟩ | ⟨rfl, rfl, rfl⟩
        · have HSL := Aside0.mk (blk_below HS.out HB.out)
          have s0 := (blk_cell HSL.out 0).trans rfl
          have HX := Aside0.mk (fun j u (hj : (cUs x1)[j]? = some u) => pw_cell_below HB.out (H1.out j u hj))
          go_wp2_with ((with_reducible refine gate_dst (N := 33) rfl ?_); refine wl_appendU _ _ _ x1 rfl rfl rfl HV.out rfl rfl HX.out (by omega) HB.out.size ?_; intro v' w' hv' hgr; have HV' := Aside0.mk hv'; have HB' := Aside0.mk (HB.out.grown hgr HB.out.size (fun k hk => (HV.out.lt k hk).1)); clear hv' hgr)
          go_roundw
          case rel => exact ⟨1, x1.length, x1, rfl, ⟨.inr (.inl ⟨rfl, rfl, rfl⟩)⟩, ⟨by simpa [cUs] using HV'.out⟩, HB'⟩
          case measure => simp [intOf]
        · have HSL := Aside0.mk (blk_below HS.out HB.out)
          have s1 := (blk_cell HSL.out 1).trans rfl
          have HX := Aside0.mk (fun j u (hj : (cUs x2)[j]? = some u) => pw_cell_below HB.out (H2.out j u hj))
          go_wp2_with ((with_reducible refine gate_dst (N := 33) rfl ?_); refine wl_appendU _ _ _ x2 rfl rfl rfl HV.out rfl rfl HX.out (by omega) HB.out.size ?_; intro v' w' hv' hgr; have HV' := Aside0.mk hv'; have HB' := Aside0.mk (HB.out.grown hgr HB.out.size (fun k hk => (HV.out.lt k hk).1)); clear hv' hgr)
          go_roundw
          case rel => exact ⟨2, _, _, rfl, ⟨.inr (.inr ⟨rfl, rfl, rfl⟩)⟩, ⟨by simpa [cUs] using HV'.out⟩, HB'⟩
          case measure => simp [intOf]
        · go_wp2_with fail
          go_ret
          exact ⟨_, rfl, HV.out, HB.out⟩
end Go.Proofs.Ytfahpihbbkkngaa.P

-- from the text Hl
namespace Go.Proofs.Ytfahpihbbkkngaa.P
open Go.RowKit Go.Proofs.YtfahpihbbkkngaaW.PrintWords Go.Proofs.YtfahpihbbkkngaaW.PrintLast Go.Proofs.YtfahpihbbkkngaaW.PrintMore
set_option linter.unusedVariables false
set_option linter.unusedSimpArgs false
/-- The units without the first one for a condition and name. -/
def revU (c : Int) (s : ByteArray) (us : List S24) : List S24 :=
  match idxU c s us 0 with
  | some k => us.take k ++ us.drop (k + 1)
  | none => us
theorem idxU_lt (c : Int) (s : ByteArray) : ∀ (us : List S24) (i k : Nat), idxU c s us i = some k → i ≤ k ∧ k < i + us.length
  | [], i, k, h => by simp [idxU] at h
  | u :: r, i, k, h => by
    rw [idxU_cons] at h
    split at h
    · cases h
      simp
    · have := idxU_lt c s r (i + 1) k h
      simp
      omega
theorem ownsRow_frozen {w : World} {base : Nat} {e : TypeId} {size : Nat} {g : Nat} {n cap : Nat} {xs : List Value} (h : w.ownsRow base e size (.slice (some ⟨g, 0, none⟩) n cap) n xs) (j : Nat) : w.frozen? ⟨g, j, none⟩ = false := by
  rcases h.2 with ⟨h0, _⟩ | ⟨g', cap', cur, hv, _, hg, _⟩
  · cases h0
  · cases hv
    exact blk_frozen hg j
/-- The newest frame. -/
theorem St.top {w : World} {s : Nat} {L0 : List Fr} {f : Fr} {F : Nat → Prop} (h : St w s (L0 ++ [f]) F) : ∃ fv D0 v, Stk w s fv (D0 ++ [(v, f)]) ∧ D0.map Prod.snd = L0 ∧ (∀ k, foot s fv (D0 ++ [(v, f)]) k → F k) ∧
    (∃ g cap, fv = .slice (some ⟨g, 0, none⟩) (L0.length + 1) cap ∧ w.cell? ⟨g, L0.length * 4, none⟩ = some v ∧ w.frozen? ⟨g, L0.length * 4, none⟩ = false) ∧ w.cell? ⟨s, 0, none⟩ = some fv := by
  obtain ⟨fv, D, h1, h2, h3⟩ := h
  obtain ⟨D0, D1, rfl, h4, h5⟩ := List.map_eq_append_iff.1 h2
  obtain ⟨⟨v, f'⟩, D2, rfl, h6, h7⟩ := List.map_eq_cons_iff.1 h5
  obtain rfl : D2 = [] := List.map_eq_nil_iff.1 h7
  obtain rfl : f' = f := h6
  have hlen : (D0 ++ [(v, f')]).length = L0.length + 1 := by rw [← h4]; simp
  refine ⟨fv, D0, v, h1, h4, h3, ?_, (blk_cell h1.head 0).trans rfl⟩
  have hr := h1.row
  rw [hlen] at hr
  obtain ⟨g, cap, rfl, _, _⟩ := hr.form (by omega)
  refine ⟨g, cap, rfl, ownsRow_cell hr ?_, ownsRow_frozen hr _⟩
  have e : (cFs D0).length = L0.length * 4 := by rw [len_cFs, ← h4]; simp
  have e2 : cFs (D0 ++ [(v, f')]) = cFs D0 ++ cF (v, f') := by simp [cFs]
  rw [e2, List.getElem?_append_right (by omega), e, Nat.sub_self]
  rfl
theorem concat_n (sl : Nat) (a1 a2 : Addr) (n1 n2 c1 c2 : Nat) (x1 x2 us' : List S24) (w : World) (hus : x1 ++ x2 = us') (e1 : x1.length = n1) (e2 : x2.length = n2) (hsl : w.heap[sl]? = some (.cells #[.slice (some a1) n1 c1, .slice (some a2) n2 c2] 64 (0, 0)))
    (h1 : ∀ j u, (cUs x1)[j]? = some u → w.cell? (a1.add j) = some u) (h2 : ∀ j u, (cUs x2)[j]? = some u → w.cell? (a2.add j) = some u) (hn : n1 + n2 ≤ 1000000) :
    Calls Try.prog 53 #[.slice (some ⟨sl, 0, none⟩) 2 2] w fun e w' => ∃ v, e = .returned v ∧ w'.ownsRow w.heap.size 24 3 v us'.length (cUs us') ∧ Below w.heap.size w w' := by
  subst e1
  subst e2
  subst hus
  rw [List.length_append]
  exact concat_is sl a1 a2 c1 c2 x1 x2 w hsl h1 h2 hn
theorem cUs_take : ∀ (us : List S24) (k : Nat), cUs (us.take k) = (cUs us).take (k * 3)
  | [], k => by simp [cUs]
  | x :: us, 0 => by simp [cUs]
  | x :: us, k + 1 => by
    have := cUs_take us k
    have e : (k + 1) * 3 = k * 3 + 3 := by omega
    simp only [cUs, List.take_succ_cons, List.flatMap_cons] at this ⊢
    rw [this, e]
    rfl
theorem cUs_drop : ∀ (us : List S24) (k : Nat), cUs (us.drop k) = (cUs us).drop (k * 3)
  | [], k => by simp [cUs]
  | x :: us, 0 => by simp [cUs]
  | x :: us, k + 1 => by
    have := cUs_drop us k
    have e : (k + 1) * 3 = k * 3 + 3 := by omega
    simp only [cUs, List.drop_succ_cons, List.flatMap_cons] at this ⊢
    rw [this, e]
    rfl
/-- Another unit row in the newest frame. -/
theorem St.retop {w W : World} {s g cap : Nat} {D0 : List (Value × Fr)} {v v' : Value} {f : Fr} {us' : List S24} {L0 : List Fr} {F : Nat → Prop} (h : Stk w s (.slice (some ⟨g, 0, none⟩) (L0.length + 1) cap) (D0 ++ [(v, f)])) (h2 : D0.map Prod.snd = L0) (h3 : ∀ k, foot s (.slice (some ⟨g, 0, none⟩) (L0.length + 1) cap) (D0 ++ [(v, f)]) k → F k)
    (ht : Turn F w W) (hk : ∀ k, k < w.heap.size → v.ownBlock ≠ some k → W.heap[k]? = w.heap[k]?) (hv : W.ownsRow 0 24 3 v' us'.length (cUs us')) (hat : ∀ k, v'.ownBlock = some k → v.ownBlock = some k ∨ w.heap.size ≤ k) :
    St (W.setCell ⟨g, L0.length * 4, none⟩ v') s (L0 ++ [{ f with us := us' }]) (More F w.heap.size (W.setCell ⟨g, L0.length * 4, none⟩ v').heap.size) ∧ Turn F w (W.setCell ⟨g, L0.length * 4, none⟩ v') := by
  have hgF : F g := h3 g (.inr (.inl rfl))
  have hx : (v, f) ∈ D0 ++ [(v, f)] := by simp
  have hvg : v.ownBlock ≠ some g := h.unit_row hx rfl
  have hs : s < w.heap.size := blk_lt' h.head
  have hsv : v.ownBlock ≠ some s := h.unit_ne hx
  have hgs : g ≠ s := fun e => h.row_ne (congrArg some e)
  have hg : g < w.heap.size := (h.row.lt g rfl).2
  have hv'g : v'.ownBlock ≠ some g := fun e => (hat g e).elim hvg (fun e => by omega)
  have hv's : v'.ownBlock ≠ some s := fun e => (hat s e).elim hsv (fun e => by omega)
  have hlen : (D0 ++ [(v, f)]).length = L0.length + 1 := by rw [← h2]; simp
  have hD0 : D0.length = L0.length := by rw [← h2]; simp
  refine ⟨⟨.slice (some ⟨g, 0, none⟩) (L0.length + 1) cap, D0 ++ [(v', { f with us := us' })], ⟨?_, ?_, ?_, ?_⟩, by simp [h2], ?_⟩, ht.set hgF _⟩
  · rw [Below.heap_setCell _ _ _ _ (fun e => hgs e.symm), hk s hs hsv]
    exact h.head
  · have hr := h.row
    rw [hlen] at hr
    have e1 : (D0 ++ [(v', { f with us := us' })]).length = L0.length + 1 := by simp [hD0]
    rw [e1]
    rcases hr.2 with ⟨hbad, _⟩ | ⟨g', cap', cur, he, hb, hgc, hc1, hc2, hcs, hct⟩
    · cases hbad
    · cases he
      have hcur : W.heap[g]? = some (.cells cur 73 (0, 0)) := (hk g hg hvg).trans hgc
      refine ⟨by rw [len_cFs, e1], .inr ⟨g, cap, cur.setIfInBounds (L0.length * 4) v', rfl, hb, blk_put hcur _ _ rfl, hc1, hc2, by simp [hcs], ?_⟩⟩
      have e2 : cFs (D0 ++ [(v, f)]) = cFs D0 ++ (v :: [.int .i64 f.rc, .string f.rn, .int .i64 f.bl]) := by simp [cFs, cF]
      have e3 : cFs (D0 ++ [(v', { f with us := us' })]) = cFs D0 ++ (v' :: [.int .i64 f.rc, .string f.rn, .int .i64 f.bl]) := by simp [cFs, cF]
      have e4 : (cFs D0).length = L0.length * 4 := by rw [len_cFs, hD0]
      rw [Array.toList_setIfInBounds, List.take_set, hct, e2, e3, ← e4, List.set_append_right _ _ (Nat.le_refl _), Nat.sub_self, List.set_cons_zero]
  · intro x hx
    rcases List.mem_append.1 hx with hx | hx
    · have hx2 : x ∈ D0 ++ [(v, f)] := List.mem_append_left _ hx
      refine ownsRow_kept (h.units x hx2) (fun k hk' => ?_)
      have hkg : k ≠ g := fun e => h.unit_row hx2 (show (Value.slice (some ⟨g, 0, none⟩) (L0.length + 1) cap).ownBlock = some g from rfl) (hk'.trans (congrArg some e))
      rw [Below.heap_setCell _ _ _ _ hkg]
      exact hk k ((h.units x hx2).lt k hk').2 ((List.pairwise_append.1 h.apart).2.2 x hx (v, f) (by simp) k hk')
    · simp only [List.mem_singleton] at hx
      subst hx
      exact ownsRow_kept hv (fun k hk' => Below.heap_setCell _ _ _ _ (fun e => hv'g (hk'.trans (congrArg some e))))
  · obtain ⟨p1, p2, p3⟩ := List.pairwise_append.1 h.apart
    refine List.pairwise_append.2 ⟨p1, by simp, fun x hx y hy b hb hyb => ?_⟩
    simp only [List.mem_singleton] at hy
    subst hy
    rcases hat b hyb with e | e
    · exact p3 x hx (v, f) (by simp) b hb e
    · have := ((h.units x (List.mem_append_left _ hx)).lt b hb).2
      omega
  · rw [World.size_setCell]
    rintro k (rfl | hk' | ⟨x, hx, hk'⟩)
    · exact .inl (h3 _ (.inl rfl))
    · exact .inl (h3 _ (.inr (.inl hk')))
    · rcases List.mem_append.1 hx with hx | hx
      · exact .inl (h3 _ (.inr (.inr ⟨x, List.mem_append_left _ hx, hk'⟩)))
      · simp only [List.mem_singleton] at hx
        subst hx
        rcases hat k hk' with e | e
        · exact .inl (h3 _ (.inr (.inr ⟨(v, f), by simp, e⟩)))
        · exact .inr ⟨e, (hv.lt k hk').2⟩
theorem ownsRow_slice {w : World} {base : Nat} {e : TypeId} {size : Nat} {v : Value} {n : Nat} {xs : List Value} (h : w.ownsRow base e size v n xs) : ∃ p c, v = .slice p n c := by
  rcases h.2 with ⟨rfl, rfl⟩ | ⟨g, cap, cur, rfl, _⟩
  · exact ⟨none, 0, rfl⟩
  · exact ⟨_, _, rfl⟩
set_option maxRecDepth 100000 in
set_option maxHeartbeats 4000000 in
theorem revert_bad (s : Nat) (c : Int) (n : ByteArray) (w : World) (hr : rightB c n = false) : Calls Try.prog 32 #[.pointer (some ⟨s, 0, none⟩), .int .i64 c, .string n] w fun e w' => e = .returned (.int .i64 1) ∧ Below w.heap.size w w' := by
  have HR := Aside0.mk (fun W => right_is c n W)
  rw [hr] at HR
  clear hr
  have h1 := Aside0.mk ((Below.refl w.heap.size w).alloc (Nat.le_refl _) (.cells #[.int .i64 c, .string n] 71 (0, 0)))
  go_enter Try.func32, Try.ntmps32
  go_wp2_with fail
  refine (HR.out _).mono ?_
  rintro e w1 ⟨rfl, hb⟩
  go_wp2_with fail
  go_ret
  exact ⟨rfl, h1.out.trans (hb.mono h1.out.size)⟩
set_option maxRecDepth 100000 in
set_option maxHeartbeats 8000000 in
theorem revert_is (s : Nat) (c : Int) (n : ByteArray) (L0 : List Fr) (f : Fr) (F : Nat → Prop) (w : World) (hr : rightB c n = true) (h : St w s (L0 ++ [f]) F) (hl : f.us.length ≤ 1000) (hL : L0.length ≤ 1000) :
    Calls Try.prog 32 #[.pointer (some ⟨s, 0, none⟩), .int .i64 c, .string n] w fun e w' => e = .returned (.int .i64 0) ∧ St w' s (L0 ++ [{ f with us := revU c n f.us }]) (More F w.heap.size w'.heap.size) ∧ Turn F w w' := by
  have HR := Aside0.mk (fun W => right_is c n W)
  rw [hr] at HR
  clear hr
  obtain ⟨fv, D0, v, h1, h2, h3, ⟨g, cap, rfl, hcv, hfv⟩, hc0⟩ := h.top
  have HST := Aside0.mk h1
  have H2 := Aside0.mk h2
  have H3 := Aside0.mk h3
  have hU := h1.units (v, f) (by simp)
  have HU := Aside0.mk hU
  have hpos : (0 : Int) ≤ (L0.length : Int) := by omega
  have hlt : (L0.length : Int) < (L0.length : Int) + 1 := by omega
  have HW := Aside0.mk ((Below.refl w.heap.size w).alloc (Nat.le_refl _) (.cells #[.int .i64 c, .string n] 71 (0, 0)))
  have HN := Aside0.mk (blk_new w (.cells #[.int .i64 c, .string n] 71 (0, 0)))
  have hlt0 : w.heap.size < (w.alloc (.cells #[.int .i64 c, .string n] 71 (0, 0))).heap.size := by simp
  generalize hRV : revU c n f.us = us'
  have HRV := Aside0.mk hRV
  clear h1 h2 h3 hU hRV
  go_enter Try.func32, Try.ntmps32
  go_wp2_with fail
  refine (HR.out _).mono ?_
  rintro e w1 ⟨rfl, hb⟩
  have HB := Aside0.mk (HW.out.trans (hb.mono HW.out.size))
  have HN := Aside0.mk (blk_below HN.out hb)
  have HT0 := Aside0.mk hc0
  have HT1 := Aside0.mk hcv
  clear hb HW
  replace hc0 := pw_cell_below HB.out hc0
  replace hcv := pw_cell_below HB.out hcv
  go_wp2_with fail
  go_quiet (fail)
  go_wp2_with fail
  have HB := Aside0.mk (pw_below_drewN HB.out nq)
  have HN := Aside0.mk (blk_drewN HN.out nq)
  replace hcv : (w1.drewN nq).cell? ⟨g, L0.length * 4, none⟩ = some v := hcv
  clear hc0
  generalize w1.drewN nq = w2 at HB HN hcv ⊢
  refine start_ (n := 7) (S := fun W => W.cell? ⟨g, L0.length * 4, none⟩ = some v ∧ W.heap[w.heap.size]? = some (.cells #[.int .i64 c, .string n] 71 (0, 0)) ∧ Below w.heap.size w W) (ds := [6]) #[false, false, false, false, false, false, false] (by kernel_rfl) rfl rfl ⟨hcv, blk_drew HN.out, Below.drew HB.out⟩ (fun hHeld => ?_)
  generalize w2.drew = w3 at hHeld ⊢
  clear HN HB hcv
  refine pure_ (i := 0) (N := some 31) (v := ?_) (a' := ?_) #[true, false, false, false, false, false, false] rfl rfl (by kernel_rfl) (fun _ _ _ h => h) (Or.inl ⟨by rfl, ?_⟩) ?_ ?_
  rotate_left
  · intro w_
    go_simp
    with_reducible rfl
  rotate_left
  · simp only [Act.put, List.setIfInBounds_toArray, List.set_cons_zero, List.set_cons_succ, i64_w, i32_w]
    rfl
  refine pure_ (i := 1) (N := some 32) (v := ?_) (a' := ?_) #[true, true, false, false, false, false, false] rfl rfl (by kernel_rfl) (fun _ _ _ h => h) (Or.inl ⟨by rfl, ?_⟩) ?_ ?_
  rotate_left
  · intro w_
    go_simp
    with_reducible rfl
  rotate_left
  · simp only [Act.put, List.setIfInBounds_toArray, List.set_cons_zero, List.set_cons_succ, i64_w, i32_w]
    rfl
  refine pure_ (i := 2) (N := some 33) (v := ?_) (a' := ?_) #[true, true, true, false, false, false, false] rfl rfl (by kernel_rfl) (fun _ _ _ h => h) (Or.inl ⟨by rfl, ?_⟩) ?_ ?_
  rotate_left
  · intro w_
    go_simp
    with_reducible rfl
  rotate_left
  · simp only [Act.put, List.setIfInBounds_toArray, List.set_cons_zero, List.set_cons_succ, i64_w, i32_w]
    rfl
  refine take_ (i := 3) (N := some 34) (v := ?_) (a' := ?_) #[true, true, true, true, false, false, false] rfl rfl (by kernel_rfl) (fun _ _ _ h => h) (Or.inl ⟨by rfl, ?_⟩) hHeld ?_ ?_
  rotate_left
  · rintro w_ ⟨s0, _⟩
    go_simp
    with_reducible rfl
  rotate_left
  · simp only [Act.put, List.setIfInBounds_toArray, List.set_cons_zero, List.set_cons_succ, i64_w, i32_w]
    rfl
  refine take_ (i := 4) (N := some 35) (v := ?_) (a' := ?_) #[true, true, true, true, true, false, false] rfl rfl (by kernel_rfl) (fun _ _ _ h => h) (Or.inl ⟨by rfl, ?_⟩) hHeld ?_ ?_
  rotate_left
  · rintro w_ ⟨_, hs_, _⟩
    have s0 := (blk_cell hs_ 0).trans rfl
    have s1 := (blk_cell hs_ 1).trans rfl
    go_simp
    with_reducible rfl
  rotate_left
  · simp only [Act.put, List.setIfInBounds_toArray, List.set_cons_zero, List.set_cons_succ, i64_w, i32_w]
    rfl
  refine one_ (i := 5) (N := some 36) #[true, true, true, true, true, true, false] rfl rfl (by kernel_rfl) (by decide) (fun K' hK => ?_)
  refine goes_ Try.func38 (by kernel_rfl) rfl #[.agg #[v], .agg #[.int .i64 c, .string n]] (by rfl) rfl rfl (by (try simp only [List.map_toArray, List.map_cons, List.map_nil]); first | done | rfl) ?_
  refine (place_is c n f.us v w3 (ownsRow_kept HU.out (fun k hk => hHeld.2.2.block k (HU.out.lt k hk).2)) (by omega)).mono ?_
  rintro e w4 ⟨rfl, hb⟩
  refine ⟨_, rfl, ?_⟩
  refine hK.out _ _ ⟨pw_cell_below hb hHeld.1, blk_below hHeld.2.1 hb, hHeld.2.2.trans (hb.mono hHeld.2.2.size)⟩ (fun hHeld => ?_)
  clear hb hK K'
  refine norm_ (a' := ?_) ?_ ?_
  rotate_left
  · show Act.put _ (some 36) _ = _
    simp only [Act.put, List.setIfInBounds_toArray, List.set_cons_zero, List.set_cons_succ, i64_w, i32_w]
    rfl
  refine pure_ (i := 6) (N := some 9) (v := ?_) (a' := ?_) #[true, true, true, true, true, true, true] rfl rfl (by kernel_rfl) (fun _ _ _ h => h) (Or.inl ⟨by rfl, ?_⟩) ?_ ?_
  rotate_left
  · intro w_
    go_simp
    with_reducible rfl
  rotate_left
  · simp only [Act.put, List.setIfInBounds_toArray, List.set_cons_zero, List.set_cons_succ, i64_w, i32_w]
    rfl
  refine done_ (by kernel_rfl) ?_
  have HCV := Aside0.mk hHeld.1
  have HB := Aside0.mk hHeld.2.2
  clear hHeld
  generalize hq : idxU c n f.us 0 = q
  cases q with
  | none =>
    have hR : revU c n f.us = f.us := by simp [revU, hq]
    have HE := Aside0.mk (St.mono (h.below HB.out) (fun k hk => (.inl hk : More F w.heap.size w4.heap.size k)))
    have HT := Aside0.mk (Turn.of_below (F := F) HB.out)
    have HRE := Aside0.mk (hR.symm.trans HRV.out)
    clear hq hR
    unfold idxI
    go_wp2_with fail
    go_ret
    rw [← HRE.out]
    exact ⟨rfl, HE.out, HT.out⟩
  | some k =>
    have hk := idxU_lt c n f.us 0 k hq
    have hR : revU c n f.us = f.us.take k ++ f.us.drop (k + 1) := by simp [revU, hq]
    have HRE := Aside0.mk (hR.symm.trans HRV.out)
    clear hq hR
    unfold idxI
    dsimp only
    have hk0 : (0 : Int) ≤ (k : Int) := by omega
    obtain ⟨cur0, hcur0⟩ := own_type HST.out.row (show (Value.slice (some ⟨g, 0, none⟩) (L0.length + 1) cap).ownBlock = some g from rfl)
    have HG := Aside0.mk hcur0
    have HVG := HST.out.unit_row (x := (v, f)) (by simp) (show (Value.slice (some ⟨g, 0, none⟩) (L0.length + 1) cap).ownBlock = some g from rfl)
    obtain ⟨gu, cu, rfl, _, _⟩ := HU.out.form (by omega)
    have hcu : f.us.length ≤ cu := by
      rcases HU.out.2 with ⟨hbad, _⟩ | ⟨_, _, _, he, _, _, h1, _⟩
      · cases hbad
      · cases he
        exact h1
    have hk1 : (k : Int) ≤ (cu : Int) := by omega
    have hk2 : (k : Int) + 1 ≤ (f.us.length : Int) := by omega
    have hk3 : (0 : Int) ≤ (k : Int) + 1 := by omega
    have hk4 : (f.us.length : Int) ≤ (cu : Int) := by omega
    have hsum : IntKind.i64.wrap ((k : Int) + 1) = (k : Int) + 1 := by rw [IntKind.wrap_i64]; omega
    have hsum2 : wrap64 ((k : Int) + 1) = (k : Int) + 1 := by unfold wrap64; omega
    clear hcur0
    obtain ⟨ad2, had2, had⟩ : ∃ ad2 : Addr, (if cu = k + 1 then some (⟨gu, 0, none⟩ : Addr) else some (⟨gu, (k + 1) * 3, none⟩ : Addr)) = some ad2 ∧ ∀ j u, (cUs (f.us.drop (k + 1)))[j]? = some u → w.cell? (ad2.add j) = some u := by
      by_cases hce : cu = k + 1
      · refine ⟨_, if_pos hce, fun j u hj => ?_⟩
        rw [List.drop_eq_nil_of_le (by omega)] at hj
        simp [cUs] at hj
      · refine ⟨_, if_neg hce, fun j u hj => ?_⟩
        rw [cUs_drop, List.getElem?_drop] at hj
        rw [Addr.add_lit]
        exact ownsRow_cell HU.out hj
    have HAD := Aside0.mk had
    clear had
    go_wp2_with fail
    refine start_ (n := 22) (S := fun W => W.cell? ⟨g, L0.length * 4, none⟩ = some (.slice (some ⟨gu, 0, none⟩) f.us.length cu) ∧ Below w.heap.size w W) (ds := [21]) #[false, false, false, false, false, false, false, false, false, false, false, false, false, false, false, false, false, false, false, false, false, false] (by kernel_rfl) rfl rfl ⟨HCV.out, Below.drew HB.out⟩ (fun hHeld => ?_)
    generalize w4.drew = w5 at hHeld ⊢
    clear HCV HB
    have hW5 := hHeld.2
    refine pure_ (i := 0) (N := some 39) (v := ?_) (a' := ?_) #[true, false, false, false, false, false, false, false, false, false, false, false, false, false, false, false, false, false, false, false, false, false] rfl rfl (by kernel_rfl) (fun _ _ _ h => h) (Or.inl ⟨by rfl, ?_⟩) ?_ ?_
    rotate_left
    · intro w_
      go_simp
      with_reducible rfl
    rotate_left
    · simp only [Act.put, List.setIfInBounds_toArray, List.set_cons_zero, List.set_cons_succ, i64_w, i32_w]
      rfl
    refine pure_ (i := 1) (N := some 40) (v := ?_) (a' := ?_) #[true, true, false, false, false, false, false, false, false, false, false, false, false, false, false, false, false, false, false, false, false, false] rfl rfl (by kernel_rfl) (fun _ _ _ h => h) (Or.inl ⟨by rfl, ?_⟩) ?_ ?_
    rotate_left
    · intro w_
      go_simp
      with_reducible rfl
    rotate_left
    · simp only [Act.put, List.setIfInBounds_toArray, List.set_cons_zero, List.set_cons_succ, i64_w, i32_w]
      rfl
    refine pure_ (i := 2) (N := some 41) (v := ?_) (a' := ?_) #[true, true, true, false, false, false, false, false, false, false, false, false, false, false, false, false, false, false, false, false, false, false] rfl rfl (by kernel_rfl) (fun _ _ _ h => h) (Or.inl ⟨by rfl, ?_⟩) ?_ ?_
    rotate_left
    · intro w_
      go_simp
      with_reducible rfl
    rotate_left
    · simp only [Act.put, List.setIfInBounds_toArray, List.set_cons_zero, List.set_cons_succ, i64_w, i32_w]
      rfl
    refine pure_ (i := 3) (N := some 42) (v := ?_) (a' := ?_) #[true, true, true, true, false, false, false, false, false, false, false, false, false, false, false, false, false, false, false, false, false, false] rfl rfl (by kernel_rfl) (fun _ _ _ h => h) (Or.inl ⟨by rfl, ?_⟩) ?_ ?_
    rotate_left
    · intro w_
      go_simp
      with_reducible rfl
    rotate_left
    · simp only [Act.put, List.setIfInBounds_toArray, List.set_cons_zero, List.set_cons_succ, i64_w, i32_w]
      rfl
    refine pure_ (i := 4) (N := some 43) (v := ?_) (a' := ?_) #[true, true, true, true, true, false, false, false, false, false, false, false, false, false, false, false, false, false, false, false, false, false] rfl rfl (by kernel_rfl) (fun _ _ _ h => h) (Or.inl ⟨by rfl, ?_⟩) ?_ ?_
    rotate_left
    · intro w_
      go_simp
      with_reducible rfl
    rotate_left
    · simp only [Act.put, List.setIfInBounds_toArray, List.set_cons_zero, List.set_cons_succ, i64_w, i32_w]
      rfl
    refine take_ (i := 5) (N := some 44) (v := ?_) (a' := ?_) #[true, true, true, true, true, true, false, false, false, false, false, false, false, false, false, false, false, false, false, false, false, false] rfl rfl (by kernel_rfl) (fun _ _ _ h => h) (Or.inl ⟨by rfl, ?_⟩) hHeld ?_ ?_
    rotate_left
    · rintro w_ ⟨s0, _⟩
      go_simp
      with_reducible rfl
    rotate_left
    · simp only [Act.put, List.setIfInBounds_toArray, List.set_cons_zero, List.set_cons_succ, i64_w, i32_w]
      rfl
    refine pure_ (i := 6) (N := some 45) (v := ?_) (a' := ?_) #[true, true, true, true, true, true, true, false, false, false, false, false, false, false, false, false, false, false, false, false, false, false] rfl rfl (by kernel_rfl) (fun _ _ _ h => h) (Or.inl ⟨by rfl, ?_⟩) ?_ ?_
    rotate_left
    · intro w_
      go_simp
      with_reducible rfl
    rotate_left
    · simp only [Act.put, List.setIfInBounds_toArray, List.set_cons_zero, List.set_cons_succ, i64_w, i32_w]
      rfl
    refine pure_ (i := 7) (N := some 46) (v := ?_) (a' := ?_) #[true, true, true, true, true, true, true, true, false, false, false, false, false, false, false, false, false, false, false, false, false, false] rfl rfl (by kernel_rfl) (fun _ _ _ h => h) (Or.inl ⟨by rfl, ?_⟩) ?_ ?_
    rotate_left
    · intro w_
      go_simp
      with_reducible rfl
    rotate_left
    · simp only [Act.put, List.setIfInBounds_toArray, List.set_cons_zero, List.set_cons_succ, i64_w, i32_w]
      rfl
    refine pure_ (i := 8) (N := some 47) (v := ?_) (a' := ?_) #[true, true, true, true, true, true, true, true, true, false, false, false, false, false, false, false, false, false, false, false, false, false] rfl rfl (by kernel_rfl) (fun _ _ _ h => h) (Or.inl ⟨by rfl, ?_⟩) ?_ ?_
    rotate_left
    · intro w_
      go_simp
      with_reducible rfl
    rotate_left
    · simp only [Act.put, List.setIfInBounds_toArray, List.set_cons_zero, List.set_cons_succ, i64_w, i32_w]
      rfl
    refine pure_ (i := 9) (N := some 48) (v := ?_) (a' := ?_) #[true, true, true, true, true, true, true, true, true, true, false, false, false, false, false, false, false, false, false, false, false, false] rfl rfl (by kernel_rfl) (fun _ _ _ h => h) (Or.inl ⟨by rfl, ?_⟩) ?_ ?_
    rotate_left
    · intro w_
      go_simp
      with_reducible rfl
    rotate_left
    · simp only [Act.put, List.setIfInBounds_toArray, List.set_cons_zero, List.set_cons_succ, i64_w, i32_w]
      rfl
    refine pure_ (i := 10) (N := some 49) (v := ?_) (a' := ?_) #[true, true, true, true, true, true, true, true, true, true, true, false, false, false, false, false, false, false, false, false, false, false] rfl rfl (by kernel_rfl) (fun _ _ _ h => h) (Or.inl ⟨by rfl, ?_⟩) ?_ ?_
    rotate_left
    · intro w_
      go_simp
      with_reducible rfl
    rotate_left
    · simp only [Act.put, List.setIfInBounds_toArray, List.set_cons_zero, List.set_cons_succ, i64_w, i32_w]
      rfl
    refine pure_ (i := 11) (N := some 50) (v := ?_) (a' := ?_) #[true, true, true, true, true, true, true, true, true, true, true, true, false, false, false, false, false, false, false, false, false, false] rfl rfl (by kernel_rfl) (fun _ _ _ h => h) (Or.inl ⟨by rfl, ?_⟩) ?_ ?_
    rotate_left
    · intro w_
      go_simp
      with_reducible rfl
    rotate_left
    · simp only [Act.put, List.setIfInBounds_toArray, List.set_cons_zero, List.set_cons_succ, i64_w, i32_w]
      rfl
    refine take_ (i := 12) (N := some 51) (v := ?_) (a' := ?_) #[true, true, true, true, true, true, true, true, true, true, true, true, true, false, false, false, false, false, false, false, false, false] rfl rfl (by kernel_rfl) (fun _ _ _ h => h) (Or.inl ⟨by rfl, ?_⟩) hHeld ?_ ?_
    rotate_left
    · rintro w_ ⟨s0, _⟩
      go_simp
      with_reducible rfl
    rotate_left
    · simp only [Act.put, List.setIfInBounds_toArray, List.set_cons_zero, List.set_cons_succ, i64_w, i32_w]
      rfl
    refine pure_ (i := 13) (N := some 52) (v := ?_) (a' := ?_) #[true, true, true, true, true, true, true, true, true, true, true, true, true, true, false, false, false, false, false, false, false, false] rfl rfl (by kernel_rfl) (fun _ _ _ h => h) (Or.inl ⟨by rfl, ?_⟩) ?_ ?_
    rotate_left
    · intro w_
      go_simp
      with_reducible rfl
    rotate_left
    · simp only [Act.put, List.setIfInBounds_toArray, List.set_cons_zero, List.set_cons_succ, i64_w, i32_w]
      rfl
    refine pure_ (i := 14) (N := some 53) (v := ?_) (a' := ?_) #[true, true, true, true, true, true, true, true, true, true, true, true, true, true, true, false, false, false, false, false, false, false] rfl rfl (by kernel_rfl) (fun _ _ _ h => h) (Or.inl ⟨by rfl, ?_⟩) ?_ ?_
    rotate_left
    · intro w_
      go_simp
      with_reducible rfl
    rotate_left
    · simp only [Act.put, List.setIfInBounds_toArray, List.set_cons_zero, List.set_cons_succ, i64_w, i32_w]
      rfl
    refine pure_ (i := 15) (N := some 54) (v := ?_) (a' := ?_) #[true, true, true, true, true, true, true, true, true, true, true, true, true, true, true, true, false, false, false, false, false, false] rfl rfl (by kernel_rfl) (fun _ _ _ h => h) (Or.inl ⟨by rfl, ?_⟩) ?_ ?_
    rotate_left
    · intro w_
      go_simp
      with_reducible rfl
    rotate_left
    · simp only [Act.put, List.setIfInBounds_toArray, List.set_cons_zero, List.set_cons_succ, i64_w, i32_w]
      rfl
    refine one_ (i := 16) (N := some 55) #[true, true, true, true, true, true, true, true, true, true, true, true, true, true, true, true, true, false, false, false, false, false] rfl rfl (by kernel_rfl) (by decide) (fun K' hK => ?_)
    refine value_ (w1 := w5.alloc (.cells #[.slice (some ⟨gu, 0, none⟩) k cu, .slice (some ad2) (f.us.length - (k + 1)) (cu - (k + 1))] 64 (0, 0))) (v := .slice (some ⟨w5.heap.size, 0, none⟩) 2 2) (by rfl) rfl ?_ ?_
    · go_simp
    have HSL := Aside0.mk (blk_new w5 (.cells #[.slice (some ⟨gu, 0, none⟩) k cu, .slice (some ad2) (f.us.length - (k + 1)) (cu - (k + 1))] 64 (0, 0)))
    have hb5 := (Below.refl w5.heap.size w5).alloc (Nat.le_refl _) (.cells #[.slice (some ⟨gu, 0, none⟩) k cu, .slice (some ad2) (f.us.length - (k + 1)) (cu - (k + 1))] 64 (0, 0))
    refine hK.out _ _ ⟨pw_cell_below hb5 hHeld.1, hHeld.2.trans (hb5.mono hHeld.2.size)⟩ (fun hHeld => ?_)
    clear hK K'
    refine norm_ (a' := ?_) ?_ ?_
    rotate_left
    · show Act.put _ (some 55) _ = _
      simp only [Act.put, List.setIfInBounds_toArray, List.set_cons_zero, List.set_cons_succ, i64_w, i32_w]
      rfl
    refine one_ (i := 17) (N := some 56) #[true, true, true, true, true, true, true, true, true, true, true, true, true, true, true, true, true, true, false, false, false, false] rfl rfl (by kernel_rfl) (by decide) (fun K' hK => ?_)
    refine goes_ Try.func53 (by kernel_rfl) rfl #[.slice (some ⟨w5.heap.size, 0, none⟩) 2 2] (by rfl) rfl rfl (by (try simp only [List.map_toArray, List.map_cons, List.map_nil]); first | done | rfl) ?_
    refine (concat_n w5.heap.size ⟨gu, 0, none⟩ ad2 k (f.us.length - (k + 1)) cu (cu - (k + 1)) (f.us.take k) (f.us.drop (k + 1)) us' _ HRE.out (by simp; omega) (by simp) HSL.out ?_ ?_ (by omega)).mono ?_
    · intro j u hj
      rw [cUs_take, List.getElem?_take] at hj
      split at hj
      · rw [add_plain]
        exact pw_cell_below hb5 (pw_cell_below hW5 (ownsRow_cell HU.out hj))
      · cases hj
    · intro j u hj
      exact pw_cell_below hb5 (pw_cell_below hW5 (HAD.out j u hj))
    rintro e w6 ⟨v', rfl, hv', hb⟩
    obtain ⟨p', c', rfl⟩ := ownsRow_slice hv'
    refine ⟨_, rfl, ?_⟩
    refine hK.out _ _ ⟨pw_cell_below hb hHeld.1, hHeld.2.trans (hb.mono hHeld.2.size)⟩ (fun hHeld => ?_)
    clear hK K' HSL hb5
    refine norm_ (a' := ?_) ?_ ?_
    rotate_left
    · show Act.put _ (some 56) _ = _
      simp only [Act.put, List.setIfInBounds_toArray, List.set_cons_zero, List.set_cons_succ, i64_w, i32_w]
      rfl
    refine pure_ (i := 18) (N := some 57) (v := ?_) (a' := ?_) #[true, true, true, true, true, true, true, true, true, true, true, true, true, true, true, true, true, true, true, false, false, false] rfl rfl (by kernel_rfl) (fun _ _ _ h => h) (Or.inl ⟨by rfl, ?_⟩) ?_ ?_
    rotate_left
    · intro w_
      go_simp
      with_reducible rfl
    rotate_left
    · simp only [Act.put, List.setIfInBounds_toArray, List.set_cons_zero, List.set_cons_succ, i64_w, i32_w]
      rfl
    refine pure_ (i := 19) (N := some 58) (v := ?_) (a' := ?_) #[true, true, true, true, true, true, true, true, true, true, true, true, true, true, true, true, true, true, true, true, false, false] rfl rfl (by kernel_rfl) (fun _ _ _ h => h) (Or.inl ⟨by rfl, ?_⟩) ?_ ?_
    rotate_left
    · intro w_
      go_simp
      with_reducible rfl
    rotate_left
    · simp only [Act.put, List.setIfInBounds_toArray, List.set_cons_zero, List.set_cons_succ, i64_w, i32_w]
      rfl
    refine pure_ (i := 20) (N := some 59) (v := ?_) (a' := ?_) #[true, true, true, true, true, true, true, true, true, true, true, true, true, true, true, true, true, true, true, true, true, false] rfl rfl (by kernel_rfl) (fun _ _ _ h => h) (Or.inl ⟨by rfl, ?_⟩) ?_ ?_
    rotate_left
    · intro w_
      go_simp
      with_reducible rfl
    rotate_left
    · simp only [Act.put, List.setIfInBounds_toArray, List.set_cons_zero, List.set_cons_succ, i64_w, i32_w]
      rfl
    refine last_ (i := 21) (N := none) #[true, true, true, true, true, true, true, true, true, true, true, true, true, true, true, true, true, true, true, true, true, true] rfl rfl (by kernel_rfl) (by decide) (fun K' hK => ?_)
    have hc6 := hHeld.1
    have hf6 := blk_frozen ((hHeld.2.block g (blk_lt HG.out)).trans HG.out) (L0.length * 4)
    refine skip_ (w1 := ?_) (by rfl) rfl ?_ ?_
    rotate_left
    · go_simp
      rfl
    refine hK.out _ _ ?_
    clear hK K'
    refine done_ (by kernel_rfl) ?_
    have HFIN := Aside0.mk (St.retop HST.out H2.out H3.out (Turn.of_below hHeld.2) (fun k hk _ => hHeld.2.block k hk) (ownsRow_base hv' (Nat.zero_le _)) (fun k hk => .inr (Nat.le_trans (by rw [World.size_alloc]; exact Nat.le_succ_of_le hW5.size) (hv'.lt k hk).1)))
    clear hHeld hv' hb
    go_wp2_with fail
    go_ret
    exact ⟨rfl, HFIN.out⟩
end Go.Proofs.Ytfahpihbbkkngaa.P

-- from the text Hm
namespace Go.Proofs.Ytfahpihbbkkngaa.P
open Go.RowKit Go.Proofs.YtfahpihbbkkngaaW.PrintWords Go.Proofs.YtfahpihbbkkngaaW.PrintLast Go.Proofs.YtfahpihbbkkngaaW.PrintMore
set_option linter.unusedVariables false
set_option linter.unusedSimpArgs false
theorem St.cut {w : World} {s : Nat} {L : List Fr} {F : Nat → Prop} (h : St w s L F) : St w s L (fun k => F k ∧ k < w.heap.size) := by
  obtain ⟨fv, D, h1, h2, h3⟩ := h
  exact ⟨fv, D, h1, h2, fun k hk => ⟨h3 k hk, h1.foot_lt hk⟩⟩
theorem Turn.mono {F G : Nat → Prop} {a b : World} (h : Turn F a b) (hd : ∀ k, F k → G k) : Turn G a b := ⟨h.os, h.tape, h.output, h.size, fun k hk hn => h.block k hk (fun e => hn (hd k e))⟩
theorem More.mono {F G : Nat → Prop} {n m n' m' : Nat} (hd : ∀ k, F k → G k ∨ (n' ≤ k ∧ k < m')) (h1 : n' ≤ n) (h2 : m ≤ m') (k : Nat) (h : More F n m k) : More G n' m' k := h.elim (hd k) (fun e => .inr ⟨by omega, by omega⟩)
theorem step_append24 {ops : Array Oper} {o : Oper} {a : Act} {K : Act → World → Prop} {Q : Exit → Act → World → Prop} {W : World} {s x : Operand} {fv : Value} {n : Nat} {xs : List Value} {N : Tmp} (g0 : Nat) (v b c : Value) (hw : Region.wanted o (yielded ops a.tmps) = true) (hN : o.dst = some N) (ho : o.op = .call { callee := .builtin .append, args := #[s, x], argTypes := #[64, 64] })
    (hs : a.eval s = fv) (hrow : W.ownsRow 0 24 3 fv n xs) (hx : a.eval x = .slice (some ⟨g0, 0, none⟩) 1 1) (hb : W.heap[g0]? = some (.cells #[v, b, c] 24 (0, 0)))
    (h1 : v.oneCell' = true ∧ b.oneCell' = true ∧ c.oneCell' = true) (hn : n ≤ 1000000)
    (h : ∀ g cap w', w'.ownsRow 0 24 3 (.slice (some ⟨g, 0, none⟩) (n + 1) cap) (n + 1) (xs ++ [v, b, c]) → W.grownBy w' fv.ownBlock → (fv.ownBlock = some g ∨ g = W.heap.size) → g < w'.heap.size → K (a.put (some N) (.slice (some ⟨g, 0, none⟩) (n + 1) cap)) w') : if Region.wanted o (yielded ops a.tmps) = true then Oper.wp Try.prog o a W K Q else K (a.put (some N) undef) W := by
  obtain ⟨i0, hi, hz0, hz1, hz2⟩ := info_parts info24
  rw [if_pos hw]
  refine wp_append_lies W s x 64 ho 0 24 i0 _ 3 32 Try.underlying64 hi hz0 hz1 hz2 rfl (by decide) fv n xs hs hrow ⟨g0, 0, none⟩ 1 1 [v, b, c] hx rfl
    (fun j u hj => by rw [add_plain]; exact (blk_cell hb j).trans (by simpa using hj)) (by simp [h1]) (by decide) (by simp only [maxLen]; omega) (by omega) (Nat.zero_le _) _ rfl ?_
  rw [hN]
  exact h
set_option maxRecDepth 100000 in
set_option maxHeartbeats 4000000 in
theorem on_bad (s : Nat) (u : S24) (w : World) (hr : rightB u.f0 u.f1 = false ∨ u.f2 < -2) : Calls Try.prog 13 #[.pointer (some ⟨s, 0, none⟩), .agg #[.int .i64 u.f0, .string u.f1, .int .i64 u.f2]] w fun e w' => e = .returned (.int .i64 1) ∧ Below w.heap.size w w' := by
  have HR := Aside0.mk (fun W => right_is u.f0 u.f1 W)
  have h1 := Aside0.mk (((Below.refl w.heap.size w).alloc (Nat.le_refl _) (.cells #[.int .i64 u.f0, .string u.f1, .int .i64 u.f2] 24 (0, 0))).alloc (by simp) (.cells #[.int .i64 u.f0, .string u.f1] 71 (0, 0)))
  have HU := Aside0.mk (blk_alloc (blk_new w (.cells #[.int .i64 u.f0, .string u.f1, .int .i64 u.f2] 24 (0, 0))) (.cells #[.int .i64 u.f0, .string u.f1] 71 (0, 0)))
  cases hq : rightB u.f0 u.f1 with
  | false =>
    rw [hq] at HR
    clear hr hq
    go_enter Try.func13, Try.ntmps13
    go_wp2_with fail
    refine (HR.out _).mono ?_
    rintro e w1 ⟨rfl, hb⟩
    go_wp2_with fail
    go_ret
    exact ⟨rfl, h1.out.trans (hb.mono h1.out.size)⟩
  | true =>
    rw [hq] at HR hr
    have hd : decide (u.f2 < -2) = true := decide_eq_true (hr.elim (fun e => by cases e) id)
    clear hr hq
    go_enter Try.func13, Try.ntmps13
    go_wp2_with fail
    refine (HR.out _).mono ?_
    rintro e w1 ⟨rfl, hb⟩
    have u2 := (blk_cell (blk_below HU.out hb) 2).trans rfl
    go_wp2_with fail
    go_ret
    exact ⟨rfl, h1.out.trans (hb.mono h1.out.size)⟩
set_option maxRecDepth 100000 in
set_option maxHeartbeats 8000000 in
theorem on_is (s : Nat) (u : S24) (L0 : List Fr) (f : Fr) (F : Nat → Prop) (w : World) (hr : rightB u.f0 u.f1 = true) (hp : -2 ≤ u.f2) (h : St w s (L0 ++ [f]) F) (hl : f.us.length ≤ 1000) (hL : L0.length ≤ 1000) :
    Calls Try.prog 13 #[.pointer (some ⟨s, 0, none⟩), .agg #[.int .i64 u.f0, .string u.f1, .int .i64 u.f2]] w fun e w' => e = .returned (.int .i64 0) ∧ St w' s (L0 ++ [{ f with us := revU u.f0 u.f1 f.us ++ [u] }]) (More F w.heap.size w'.heap.size) ∧ Turn F w w' := by
  have HR := Aside0.mk (fun W => right_is u.f0 u.f1 W)
  rw [hr] at HR
  have HRV := Aside0.mk (fun W G (hW : St W s (L0 ++ [f]) G) => revert_is s u.f0 u.f1 L0 f G W hr hW hl hL)
  have hrl : (revU u.f0 u.f1 f.us).length ≤ 1000 := by
    unfold revU
    split
    · simp
      omega
    · exact hl
  have hd : decide (u.f2 < -2) = false := decide_eq_false (by omega)
  generalize revU u.f0 u.f1 f.us = us1 at *
  clear hr hp hl
  have hW := Aside0.mk (((Below.refl w.heap.size w).alloc (Nat.le_refl _) (.cells #[.int .i64 u.f0, .string u.f1, .int .i64 u.f2] 24 (0, 0))).alloc (by simp) (.cells #[.int .i64 u.f0, .string u.f1] 71 (0, 0)))
  have HU := Aside0.mk (blk_alloc (blk_new w (.cells #[.int .i64 u.f0, .string u.f1, .int .i64 u.f2] 24 (0, 0))) (.cells #[.int .i64 u.f0, .string u.f1] 71 (0, 0)))
  have HH := Aside0.mk h.cut
  clear h
  go_enter Try.func13, Try.ntmps13
  go_wp2_with fail
  refine (HR.out _).mono ?_
  rintro e w1 ⟨rfl, hb⟩
  have HB := Aside0.mk (hW.out.trans (hb.mono hW.out.size))
  have HU := Aside0.mk (blk_below HU.out hb)
  clear hb hW
  have u0 := (blk_cell HU.out 0).trans rfl
  have u1 := (blk_cell HU.out 1).trans rfl
  have u2 := (blk_cell HU.out 2).trans rfl
  go_wp2_with fail
  refine (HRV.out w1 _ (HH.out.below HB.out)).mono ?_
  rintro e w2 ⟨rfl, hst, ht⟩
  have HU := Aside0.mk ((ht.block _ (blk_lt HU.out) (fun e => by have := e.2; omega)).trans HU.out)
  have HT := Aside0.mk (((Turn.of_below HB.out).trans (ht.mono (fun k hk => .inl hk))).mono (fun k hk => hk.1))
  have HSz := Aside0.mk HB.out.size
  have HT2 := Aside0.mk ht.size
  have HF0 := Aside0.mk (fun k (hk : More (fun k => F k ∧ k < w.heap.size) w1.heap.size w2.heap.size k) => More.mono (G := F) (n' := w.heap.size) (m' := w2.heap.size) (fun k hk => .inl hk.1) HSz.out (Nat.le_refl _) k hk)
  obtain ⟨fv, D0, v, h1, h2, h3, ⟨g, cap, rfl, hcv, hfv⟩, hc0⟩ := hst.top
  clear ht hst u0 u1 u2 HB HRV HR
  have HST := Aside0.mk h1
  have H2 := Aside0.mk h2
  have H3 := Aside0.mk h3
  have hUr := h1.units (v, { f with us := us1 }) (by simp)
  dsimp only at hUr
  have HUR := Aside0.mk hUr
  have hpos : (0 : Int) ≤ (L0.length : Int) := by omega
  have hlt : (L0.length : Int) < (L0.length : Int) + 1 := by omega
  clear h1 h2 h3 hUr
  obtain ⟨cur0, hcur0⟩ := own_type HST.out.row (show (Value.slice (some ⟨g, 0, none⟩) (L0.length + 1) cap).ownBlock = some g from rfl)
  have HG := Aside0.mk hcur0
  have HVG := HST.out.unit_row (x := (v, { f with us := us1 })) (by simp) (show (Value.slice (some ⟨g, 0, none⟩) (L0.length + 1) cap).ownBlock = some g from rfl)
  dsimp only at HVG
  clear hcur0
  go_wp2_with fail
  go_quiet (fail)
  go_wp2_with fail
  have HB := Aside0.mk (pw_below_drewN (Below.refl w2.heap.size w2) nq)
  have HUN := Aside0.mk (blk_drewN HU.out nq)
  replace hcv : (w2.drewN nq).cell? ⟨g, L0.length * 4, none⟩ = some v := hcv
  clear hc0
  generalize w2.drewN nq = w3 at HB HUN hcv ⊢
  refine start_ (n := 13) (S := fun W => W.cell? ⟨g, L0.length * 4, none⟩ = some v ∧ W.heap[w.heap.size]? = some (.cells #[.int .i64 u.f0, .string u.f1, .int .i64 u.f2] 24 (0, 0)) ∧ Below w2.heap.size w2 W) (ds := [8, 12]) #[false, false, false, false, false, false, false, false, false, false, false, false, false] (by kernel_rfl) rfl rfl ⟨hcv, blk_drew HUN.out, Below.drew HB.out⟩ (fun hHeld => ?_)
  generalize w3.drew = w4 at hHeld ⊢
  clear HUN HB hcv
  refine pure_ (i := 0) (N := some 41) (v := ?_) (a' := ?_) #[true, false, false, false, false, false, false, false, false, false, false, false, false] rfl rfl (by kernel_rfl) (fun _ _ _ h => h) (Or.inl ⟨by rfl, ?_⟩) ?_ ?_
  rotate_left
  · intro w_
    go_simp
    with_reducible rfl
  rotate_left
  · simp only [Act.put, List.setIfInBounds_toArray, List.set_cons_zero, List.set_cons_succ, i64_w, i32_w]
    rfl
  refine pure_ (i := 1) (N := some 42) (v := ?_) (a' := ?_) #[true, true, false, false, false, false, false, false, false, false, false, false, false] rfl rfl (by kernel_rfl) (fun _ _ _ h => h) (Or.inl ⟨by rfl, ?_⟩) ?_ ?_
  rotate_left
  · intro w_
    go_simp
    with_reducible rfl
  rotate_left
  · simp only [Act.put, List.setIfInBounds_toArray, List.set_cons_zero, List.set_cons_succ, i64_w, i32_w]
    rfl
  refine pure_ (i := 2) (N := some 43) (v := ?_) (a' := ?_) #[true, true, true, false, false, false, false, false, false, false, false, false, false] rfl rfl (by kernel_rfl) (fun _ _ _ h => h) (Or.inl ⟨by rfl, ?_⟩) ?_ ?_
  rotate_left
  · intro w_
    go_simp
    with_reducible rfl
  rotate_left
  · simp only [Act.put, List.setIfInBounds_toArray, List.set_cons_zero, List.set_cons_succ, i64_w, i32_w]
    rfl
  refine pure_ (i := 3) (N := some 44) (v := ?_) (a' := ?_) #[true, true, true, true, false, false, false, false, false, false, false, false, false] rfl rfl (by kernel_rfl) (fun _ _ _ h => h) (Or.inl ⟨by rfl, ?_⟩) ?_ ?_
  rotate_left
  · intro w_
    go_simp
    with_reducible rfl
  rotate_left
  · simp only [Act.put, List.setIfInBounds_toArray, List.set_cons_zero, List.set_cons_succ, i64_w, i32_w]
    rfl
  refine pure_ (i := 4) (N := some 45) (v := ?_) (a' := ?_) #[true, true, true, true, true, false, false, false, false, false, false, false, false] rfl rfl (by kernel_rfl) (fun _ _ _ h => h) (Or.inl ⟨by rfl, ?_⟩) ?_ ?_
  rotate_left
  · intro w_
    go_simp
    with_reducible rfl
  rotate_left
  · simp only [Act.put, List.setIfInBounds_toArray, List.set_cons_zero, List.set_cons_succ, i64_w, i32_w]
    rfl
  refine take_ (i := 5) (N := some 46) (v := ?_) (a' := ?_) #[true, true, true, true, true, true, false, false, false, false, false, false, false] rfl rfl (by kernel_rfl) (fun _ _ _ h => h) (Or.inl ⟨by rfl, ?_⟩) hHeld ?_ ?_
  rotate_left
  · rintro w_ ⟨s0, _⟩
    go_simp
    with_reducible rfl
  rotate_left
  · simp only [Act.put, List.setIfInBounds_toArray, List.set_cons_zero, List.set_cons_succ, i64_w, i32_w]
    rfl
  refine take_ (i := 6) (N := some 47) (v := ?_) (a' := ?_) #[true, true, true, true, true, true, true, false, false, false, false, false, false] rfl rfl (by kernel_rfl) (fun _ _ _ h => h) (Or.inl ⟨by rfl, ?_⟩) hHeld ?_ ?_
  rotate_left
  · rintro w_ ⟨_, hs_, _⟩
    have s0 := (blk_cell hs_ 0).trans rfl
    have s1 := (blk_cell hs_ 1).trans rfl
    have s2 := (blk_cell hs_ 2).trans rfl
    go_simp
    with_reducible rfl
  rotate_left
  · simp only [Act.put, List.setIfInBounds_toArray, List.set_cons_zero, List.set_cons_succ, i64_w, i32_w]
    rfl
  refine one_ (i := 7) (N := some 48) #[true, true, true, true, true, true, true, true, false, false, false, false, false] rfl rfl (by kernel_rfl) (by decide) (fun K' hK => ?_)
  refine value_ (w1 := w4.alloc (.cells #[.int .i64 u.f0, .string u.f1, .int .i64 u.f2] 24 (0, 0))) (v := .slice (some ⟨w4.heap.size, 0, none⟩) 1 1) (by rfl) rfl ?_ ?_
  · go_simp
  have HN := Aside0.mk (blk_new w4 (.cells #[.int .i64 u.f0, .string u.f1, .int .i64 u.f2] 24 (0, 0)))
  have hb5 := (Below.refl w4.heap.size w4).alloc (Nat.le_refl _) (.cells #[.int .i64 u.f0, .string u.f1, .int .i64 u.f2] 24 (0, 0))
  refine hK.out _ _ ⟨pw_cell_below hb5 hHeld.1, blk_below hHeld.2.1 hb5, hHeld.2.2.trans (hb5.mono hHeld.2.2.size)⟩ (fun hHeld => ?_)
  clear hK K'
  refine norm_ (a' := ?_) ?_ ?_
  rotate_left
  · show Act.put _ (some 48) _ = _
    simp only [Act.put, List.setIfInBounds_toArray, List.set_cons_zero, List.set_cons_succ, i64_w, i32_w]
    rfl
  refine last_ (i := 8) (N := some 49) #[true, true, true, true, true, true, true, true, true, false, false, false, false] rfl rfl (by kernel_rfl) (by decide) (fun K' hK => ?_)
  refine step_append24 w4.heap.size _ _ _ (by rfl) rfl rfl rfl (ownsRow_kept HUR.out (fun k hk => hHeld.2.2.block k (HUR.out.lt k hk).2)) rfl HN.out ⟨rfl, rfl, rfl⟩ (by omega) ?_
  intro g2 cap2 w6 hown hgrow hat hlt2
  refine hK.out _ _ ?_
  clear hK K'
  refine norm_ (a' := ?_) ?_ ?_
  rotate_left
  · show Act.put _ (some 49) _ = _
    simp only [Act.put, List.setIfInBounds_toArray, List.set_cons_zero, List.set_cons_succ, i64_w, i32_w]
    rfl
  refine pure_ (i := 9) (N := some 50) (v := ?_) (a' := ?_) #[true, true, true, true, true, true, true, true, true, true, false, false, false] rfl rfl (by kernel_rfl) (fun _ _ _ h => h) (Or.inl ⟨by rfl, ?_⟩) ?_ ?_
  rotate_left
  · intro w_
    go_simp
    with_reducible rfl
  rotate_left
  · simp only [Act.put, List.setIfInBounds_toArray, List.set_cons_zero, List.set_cons_succ, i64_w, i32_w]
    rfl
  refine pure_ (i := 10) (N := some 51) (v := ?_) (a' := ?_) #[true, true, true, true, true, true, true, true, true, true, true, false, false] rfl rfl (by kernel_rfl) (fun _ _ _ h => h) (Or.inl ⟨by rfl, ?_⟩) ?_ ?_
  rotate_left
  · intro w_
    go_simp
    with_reducible rfl
  rotate_left
  · simp only [Act.put, List.setIfInBounds_toArray, List.set_cons_zero, List.set_cons_succ, i64_w, i32_w]
    rfl
  refine pure_ (i := 11) (N := some 52) (v := ?_) (a' := ?_) #[true, true, true, true, true, true, true, true, true, true, true, true, false] rfl rfl (by kernel_rfl) (fun _ _ _ h => h) (Or.inl ⟨by rfl, ?_⟩) ?_ ?_
  rotate_left
  · intro w_
    go_simp
    with_reducible rfl
  rotate_left
  · simp only [Act.put, List.setIfInBounds_toArray, List.set_cons_zero, List.set_cons_succ, i64_w, i32_w]
    rfl
  have hB5 := hHeld.2.2
  have hg6 := (hgrow.block g (Nat.lt_of_lt_of_le (blk_lt HG.out) hB5.size) (fun e => HVG e.symm)).trans ((hB5.block g (blk_lt HG.out)).trans HG.out)
  have hc6 := (hgrow.cell hHeld.1 (fun e => HVG e.symm))
  have hf6 := blk_frozen hg6 (L0.length * 4)
  refine last_ (i := 12) (N := none) #[true, true, true, true, true, true, true, true, true, true, true, true, true] rfl rfl (by kernel_rfl) (by decide) (fun K' hK => ?_)
  refine skip_ (w1 := ?_) (by rfl) rfl ?_ ?_
  rotate_left
  · go_simp
    rfl
  refine hK.out _ _ ?_
  clear hK K'
  refine done_ (by kernel_rfl) ?_
  have hv6 : w6.ownsRow 0 24 3 (.slice (some ⟨g2, 0, none⟩) (us1.length + 1) cap2) (us1 ++ [u]).length (cUs (us1 ++ [u])) := by
    have e1 : (us1 ++ [u]).length = us1.length + 1 := by simp
    have e2 : cUs (us1 ++ [u]) = cUs us1 ++ [.int .i64 u.f0, .string u.f1, .int .i64 u.f2] := by simp [cUs, cU]
    rw [e1, e2]
    exact hown
  have hat6 : ∀ k, (Value.slice (some ⟨g2, 0, none⟩) (us1.length + 1) cap2).ownBlock = some k → v.ownBlock = some k ∨ w2.heap.size ≤ k := by
    intro k hk
    cases hk
    rcases hat with e | e
    · exact .inl e
    · exact .inr (by rw [e]; exact hB5.size)
  have HFIN := Aside0.mk (St.retop (us' := us1 ++ [u]) HST.out H2.out H3.out (Turn.grown (Turn.of_below hB5) hgrow (fun k hk => .inl (H3.out k (.inr (.inr ⟨_, List.mem_append_right _ (List.mem_singleton.2 rfl), hk⟩))))) (fun k hk hn => (hgrow.block k (Nat.lt_of_lt_of_le hk hB5.size) (fun e => hn e.symm)).trans (hB5.block k hk)) hv6 hat6)
  clear hHeld hown hgrow hat hlt2 hB5 hg6 hc6 hf6 hv6
  go_wp2_with fail
  go_ret
  refine ⟨rfl, HFIN.out.1.mono (fun k hk => ?_), HT.out.trans (HFIN.out.2.mono HF0.out)⟩
  refine More.mono (G := F) (fun k hk => ?_) (Nat.le_trans HSz.out HT2.out) (Nat.le_refl _) k hk
  rcases HF0.out k hk with e | e
  · exact .inl e
  · exact .inr ⟨e.1, Nat.lt_of_lt_of_le e.2 (HFIN.out.2.size)⟩
end Go.Proofs.Ytfahpihbbkkngaa.P

-- from the text Hd
namespace Go.Proofs.Ytfahpihbbkkngaa.P
open Go.RowKit Go.Proofs.YtfahpihbbkkngaaW.PrintWords Go.Proofs.YtfahpihbbkkngaaW.PrintLast Go.Proofs.YtfahpihbbkkngaaW.PrintMore
set_option linter.unusedVariables false
set_option linter.unusedSimpArgs false
def cond_Word.f (a0 : Int) : Option (ByteArray) := if isC a0 = true then some (rowC a0).f0 else some ⟨#[]⟩
set_option maxRecDepth 100000 in
set_option maxHeartbeats 4000000 in
theorem cond_Word.calls (a0 : Int) (r : ByteArray) (w : World) (h : cond_Word.f a0 = some r) : Calls Try.prog 21 #[.int .i64 a0] w fun e w' => e = .returned (.string r) ∧ Below w.heap.size w w' := by
  have HI := Aside0.mk (fun W => is_is a0 W)
  unfold cond_Word.f at h
  cases hC : isC a0 with
  | false =>
    rw [hC] at HI h
    rw [if_neg (by simp)] at h
    obtain rfl := Option.some.inj h
    clear hC h
    go_enter Try.func21, Try.ntmps21
    go_wp2_with fail
    refine (HI.out _).mono ?_
    rintro e w1 ⟨rfl, hb⟩
    go_wp2_with fail
    go_ret
    exact ⟨rfl, hb⟩
  | true =>
    have HX := Aside0.mk (fun W => index_is a0 hC W)
    rw [hC] at HI h
    rw [if_pos rfl] at h
    obtain rfl := Option.some.inj h
    unfold aggC at HX
    generalize rowC a0 = x at *
    clear hC h
    go_enter Try.func21, Try.ntmps21
    go_wp2_with fail
    refine (HI.out _).mono ?_
    rintro e w1 ⟨rfl, hb⟩
    go_wp2_with fail
    refine (table_is _).mono ?_
    rintro e w2 ⟨rfl, hb2⟩
    have HB := Aside0.mk (hb.trans (hb2.mono hb.size))
    clear hb hb2
    go_wp2_with (first | ((with_reducible refine gate_dst (N := 8) rfl ?_); refine wl_same rfl (ex_index rfl rfl rfl (HX.out _)) ?_) | ((with_reducible refine gate_dst (N := 9) rfl ?_); refine wl_same rfl (v := .string x.f0) (by kernel_rfl) ?_))
    go_ret
    exact ⟨rfl, HB.out⟩
end Go.Proofs.Ytfahpihbbkkngaa.P
