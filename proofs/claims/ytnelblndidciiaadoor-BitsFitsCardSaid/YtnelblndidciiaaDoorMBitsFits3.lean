/- Part 3 of the proof of the law BitsFits: functions, contracts and plain laws; merged by this session's program. -/
import Derived.Test.YtnelblndidciiaaDoorProg
import Derived.Below
import Derived.Deep.Draws
import Derived.Deep.AppendLies
import Derived.Maps.AppendAt
import Derived.OwnWalk
import Derived.Laws.BytesArg
import Derived.Laws.MakeOwn
import Derived.Laws.OwnMore
import Derived.Deep.OwnRows
import Derived.Tactics
import Derived.Lib.ConvBytes
import Derived.Laws.Slices
import Derived.WalkKit
import Derived.KernelRfl
import Derived.RowKit3
import Derived.Deep.LoopGhost
import Derived.Deep.QuietTactic
import Derived.BigQuiet
import Derived.WideLaws
import Derived.Deep.DeepCutAuto
import Derived.Deep.CutBlock
import Derived.Deep.RegionHeld3
import Derived.Laws.Rows
import Derived.Lib.AppendStr
import Derived.ArgAppend
import Derived.Laws.IdiomCopy
import Derived.OrdersHeld
import Derived.Laws.BitsLemmas
import Derived.RowKit
import Derived.WalkSpells
import Derived.WalkLawsBesides
import Derived.Lib.Hide
import Derived.Test.YtnelblndidciiaaDoorMBitsFits2
-- from the text K
namespace Go.Proofs.YtnelblndidciiaaDoor.P
open Go.RowKit Go.Proofs.YtnelblndidciiaaDoorW.PrintWords Go.Proofs.YtnelblndidciiaaDoorW.PrintLast Go.Proofs.YtnelblndidciiaaDoorW.PrintMore
theorem blk_six {w : World} {g : Nat} {t : TypeId} {a b c d e f : Value} (h : w.heap[g]? = some (.cells #[a, b, c, d, e, f] t (0, 0))) : w.cell? ⟨g, 0, none⟩ = some a ∧ w.cell? ⟨g, 1, none⟩ = some b ∧ w.cell? ⟨g, 2, none⟩ = some c ∧ w.cell? ⟨g, 3, none⟩ = some d ∧ w.cell? ⟨g, 4, none⟩ = some e ∧ w.cell? ⟨g, 5, none⟩ = some f :=
  ⟨(blk_cell h 0).trans rfl, (blk_cell h 1).trans rfl, (blk_cell h 2).trans rfl, (blk_cell h 3).trans rfl, (blk_cell h 4).trans rfl, (blk_cell h 5).trans rfl⟩
theorem blk_six_free {w : World} {g : Nat} {t : TypeId} {cs : Array Value} (h : w.heap[g]? = some (.cells cs t (0, 0))) : w.frozen? ⟨g, 0, none⟩ = false ∧ w.frozen? ⟨g, 1, none⟩ = false ∧ w.frozen? ⟨g, 2, none⟩ = false ∧ w.frozen? ⟨g, 3, none⟩ = false ∧ w.frozen? ⟨g, 4, none⟩ = false ∧ w.frozen? ⟨g, 5, none⟩ = false :=
  ⟨blk_frozen h 0, blk_frozen h 1, blk_frozen h 2, blk_frozen h 3, blk_frozen h 4, blk_frozen h 5⟩
theorem blk_quad {w : World} {g : Nat} {t : TypeId} {a b c d : Value} (h : w.heap[g]? = some (.cells #[a, b, c, d] t (0, 0))) : w.cell? ⟨g, 0, none⟩ = some a ∧ w.cell? ⟨g, 1, none⟩ = some b ∧ w.cell? ⟨g, 2, none⟩ = some c ∧ w.cell? ⟨g, 3, none⟩ = some d :=
  ⟨(blk_cell h 0).trans rfl, (blk_cell h 1).trans rfl, (blk_cell h 2).trans rfl, (blk_cell h 3).trans rfl⟩
theorem blk_quad_free {w : World} {g : Nat} {t : TypeId} {cs : Array Value} (h : w.heap[g]? = some (.cells cs t (0, 0))) : w.frozen? ⟨g, 0, none⟩ = false ∧ w.frozen? ⟨g, 1, none⟩ = false ∧ w.frozen? ⟨g, 2, none⟩ = false ∧ w.frozen? ⟨g, 3, none⟩ = false :=
  ⟨blk_frozen h 0, blk_frozen h 1, blk_frozen h 2, blk_frozen h 3⟩
/-- What stands in a world stands in what is made of it by allocations and draws. -/
class Kp (w0 : outParam World) (w : World) : Prop where
  k : ∀ {g : Nat} {o : Obj}, w0.heap[g]? = some o → w.heap[g]? = some o
instance (priority := 10) kp_refl (w : World) : Kp w w := ⟨id⟩
instance kp_drewN (w0 w : World) (n : Nat) [i : Kp w0 w] : Kp w0 (w.drewN n) := ⟨fun h => blk_drewN (i.k h) n⟩
instance kp_drew (w0 w : World) [i : Kp w0 w] : Kp w0 w.drew := ⟨fun h => blk_drew (i.k h)⟩
instance kp_alloc (w0 w : World) (o : Obj) [i : Kp w0 w] : Kp w0 (w.alloc o) := ⟨fun h => blk_alloc (i.k h) o⟩
theorem zk {w0 w : World} {g : Nat} {o : Obj} [i : Kp w0 w] (h : w0.heap[g]? = some o) : w.heap[g]? = some o := i.k h
end Go.Proofs.YtnelblndidciiaaDoor.P
namespace Go.Proofs.YtnelblndidciiaaDoor.P
open Go.RowKit Go.Proofs.YtnelblndidciiaaDoorW.PrintWords Go.Proofs.YtnelblndidciiaaDoorW.PrintLast Go.Proofs.YtnelblndidciiaaDoorW.PrintMore
attribute [local go_sem] max2_int min2_int max_two min_two max_three min_three max_four min_four   -- for this text's walks alone
set_option linter.unusedVariables false
set_option linter.unusedSimpArgs false
def errW : Option Int → Value
  | none => .nilIface
  | some c => .iface 0 (.int .i64 c)
theorem errW_none : errW none = .nilIface := rfl
theorem errW_some (c : Int) : errW (some c) = .iface 0 (.int .i64 c) := rfl
structure S23 where
  f0 : Int
  f1 : Int
  f2 : Int
  f3 : ByteArray
def z23 : S23 := ⟨(0 : Int), (0 : Int), (0 : Int), (⟨#[]⟩ : ByteArray)⟩
def k23 : Kd S23 := Kd.iso (Kd.pair (Kd.int .i64) (Kd.pair (Kd.int .i64) (Kd.pair (Kd.int .i64) Kd.string))) (fun x : S23 => (x.f0, x.f1, x.f2, x.f3))
theorem k23_open {w : World} {x : S23} {cs : List Value} (h : k23.K w x cs) : cs = [.int .i64 x.f0, .int .i64 x.f1, .int .i64 x.f2, .string x.f3] := by
  obtain ⟨_, _, rfl, rfl, ⟨_, _, rfl, rfl, ⟨_, _, rfl, rfl, rfl⟩⟩⟩ := h
  exact rfl
theorem k23_mk (w : World) (x : S23)  : k23.K w x [.int .i64 x.f0, .int .i64 x.f1, .int .i64 x.f2, .string x.f3] := ⟨[.int .i64 x.f0], [.int .i64 x.f1, .int .i64 x.f2, .string x.f3], rfl, rfl, ⟨[.int .i64 x.f1], [.int .i64 x.f2, .string x.f3], rfl, rfl, ⟨[.int .i64 x.f2], [.string x.f3], rfl, rfl, rfl⟩⟩⟩
theorem k23_mkM (w : World) (base : Nat) (ok : Nat → Prop) (x : S23)  : k23.M w base ok x [.int .i64 x.f0, .int .i64 x.f1, .int .i64 x.f2, .string x.f3] := ⟨[.int .i64 x.f0], [.int .i64 x.f1, .int .i64 x.f2, .string x.f3], rfl, rfl, ⟨[.int .i64 x.f1], [.int .i64 x.f2, .string x.f3], rfl, rfl, ⟨[.int .i64 x.f2], [.string x.f3], rfl, rfl, rfl⟩⟩⟩
def rd_T23 (xs : List S23) (i : Int) : S23 := xs.getD i.toNat z23
theorem at_T23 {w : World} {A : Option Addr} {n : Nat} {xs : List S23} (h : Kd.C k23 w A n xs) (i : Int) (h0 : 0 ≤ i) (h1 : i < n) : ∃ ad , A = some ad ∧ w.cell? (ad.add (i.toNat * 4)) = some (.int .i64 (rd_T23 xs i).f0) ∧ w.cell? ⟨(ad.add (i.toNat * 4)).block, (ad.add (i.toNat * 4)).off + 1, none⟩ = some (.int .i64 (rd_T23 xs i).f1) ∧ w.cell? ⟨(ad.add (i.toNat * 4)).block, (ad.add (i.toNat * 4)).off + 2, none⟩ = some (.int .i64 (rd_T23 xs i).f2) ∧ w.cell? ⟨(ad.add (i.toNat * 4)).block, (ad.add (i.toNat * 4)).off + 3, none⟩ = some (.string (rd_T23 xs i).f3) := by
  obtain ⟨ad, c, e, _, hK, hc0⟩ := Kd.C_get h z23 i h0 h1
  have hc : ∀ j u, c[j]? = some u → w.cell? (ad.add (i.toNat * 4 + j)) = some u := hc0
  obtain rfl := k23_open hK
  exact ⟨ad, e, hc 0 _ rfl, by rw [← add_field _ _ 1 (by omega)]; exact hc 1 _ rfl, by rw [← add_field _ _ 2 (by omega)]; exact hc 2 _ rfl, by rw [← add_field _ _ 3 (by omega)]; exact hc 3 _ rfl⟩
structure S25 where
  f0 : Int
  f1 : Int
  f2 : Int
  f3 : Int
  f4 : Bool
  f5 : ByteArray
theorem eqA23 (d : Nat) (w : World) (x0 y0 : Int) (x1 y1 : Int) (x2 y2 : Int) (x3 y3 : ByteArray) :
    (Op.equalIn (d + 2) 23 (.agg #[.int .i64 x0, .int .i64 x1, .int .i64 x2, .string x3]) (.agg #[.int .i64 y0, .int .i64 y1, .int .i64 y2, .string y3])).run Tryd.prog w = .ok (x0 == y0 && (x1 == y1 && (x2 == y2 && (x3.toList == y3.toList)))) w := by
  refine eqA_of Tryd.underlying23 (by kernel_rfl) ?_
  refine eqf_cons (by rfl) (by go_simp; rfl) (by go_simp; rfl) (by go_simp) ?_
  refine eqf_cons (by rfl) (by go_simp; rfl) (by go_simp; rfl) (by go_simp) ?_
  refine eqf_cons (by rfl) (by go_simp; rfl) (by go_simp; rfl) (by go_simp) ?_
  exact eqf_last (by rfl) (by go_simp; rfl) (by go_simp; rfl) (by go_simp)
end Go.Proofs.YtnelblndidciiaaDoor.P

-- from the text Ha
namespace Go.Proofs.YtnelblndidciiaaDoor.P
open Go.RowKit Go.Proofs.YtnelblndidciiaaDoorW.PrintWords Go.Proofs.YtnelblndidciiaaDoorW.PrintLast Go.Proofs.YtnelblndidciiaaDoorW.PrintMore
set_option linter.unusedVariables false
set_option linter.unusedSimpArgs false
/-- A character is right for a kind. -/
def okc (n : Int) (c : Int) : Bool := if n = 4 then decide (32 ≤ c) && decide (c ≤ 126) else c == 48 || c == 49
/-- All characters are right. -/
def okS (n : Int) (s : ByteArray) : Bool := s.data.toList.all fun c => okc n (c.toNat : Int)
theorem okS_iff (n : Int) (s : ByteArray) : okS n s = true ↔ ∀ (k : Nat) (h : k < s.size), okc n ((s[k]'h).toNat : Int) = true := by
  unfold okS
  rw [List.all_eq_true]
  constructor
  · intro H k h
    exact H _ (by rw [show s[k] = s.data.toList[k]'(by simpa using h) from rfl]; exact List.getElem_mem _)
  · intro H c hc
    obtain ⟨k, h, rfl⟩ := List.getElem_of_mem hc
    exact H k (by simpa using h)
theorem okS_no (n : Int) (s : ByteArray) (k : Nat) (h : k < s.size) (hn : okc n ((s[k]'h).toNat : Int) = false) : okS n s = false := by
  cases e : okS n s with
  | false => rfl
  | true => rw [(okS_iff n s).1 e k h] at hn; cases hn
/-- bits.Valid. -/
def validB (n a b : Int) (s : ByteArray) : Bool := (n == 4 || n == 5) && (a == 0 && (b == 0 && (decide (s.size ≤ 250) && okS n s)))
def bits_Valid.f (a0_0 a0_1 a0_2 : Int) (a0_3 : ByteArray) : Option Bool := some (validB a0_0 a0_1 a0_2 a0_3)
/-- The filler of a kind. -/
def fillc (n : Int) : Int := if n = 4 then 32 else 48
/-- bits.at: none where the code would panic. -/
def bits_at.f (a0_0 a0_1 a0_2 : Int) (a0_3 : ByteArray) (a1 : Int) : Option Int :=
  if a1 < (a0_3.size : Int) then (if 0 ≤ a1 then some (bt a0_3 a1) else none) else if a0_0 = 4 ∨ a0_0 = 5 then some (fillc a0_0) else none
def ofV (n : Int) : Value := if n = 4 then .iface 72 (.agg #[]) else if n = 5 then .iface 73 (.agg #[]) else .nilIface
theorem of_any (n : Int) (w : World) : Calls Tryd.prog 20 #[.int .i64 n] w fun e w' => e = .returned (ofV n) ∧ w = w' := by
  by_cases h4 : n = 4
  · subst h4
    go_enter Tryd.func20, Tryd.ntmps20
    go_wp2
    go_ret
    exact ⟨rfl, rfl⟩
  · have hb4 : (n == 4) = false := beq_eq_false_iff_ne.2 h4
    by_cases h5 : n = 5
    · subst h5
      go_enter Tryd.func20, Tryd.ntmps20
      go_wp2
      go_ret
      exact ⟨rfl, rfl⟩
    · have hb5 : (n == 5) = false := beq_eq_false_iff_ne.2 h5
      have e : ofV n = .nilIface := by simp [ofV, h4, h5]
      rw [e]
      clear h4 h5 e
      go_enter Tryd.func20, Tryd.ntmps20
      go_wp2
      go_ret
      exact ⟨rfl, rfl⟩
theorem of_4 (w : World) : Calls Tryd.prog 20 #[.int .i64 4] w fun e w' => e = .returned (.iface 72 (.agg #[])) ∧ w = w' := of_any 4 w
theorem of_5 (w : World) : Calls Tryd.prog 20 #[.int .i64 5] w fun e w' => e = .returned (.iface 73 (.agg #[])) ∧ w = w' := of_any 5 w
theorem of_no (n : Int) (h4 : n ≠ 4) (h5 : n ≠ 5) (w : World) : Calls Tryd.prog 20 #[.int .i64 n] w fun e w' => e = .returned .nilIface ∧ w = w' := by
  have := of_any n w; simpa only [ofV, if_neg h4, if_neg h5] using this
theorem right4 (c : Int) (w : World) : Calls Tryd.prog 82 #[.agg #[], .int .u8 c] w fun e w' => e = .returned (.bool (okc 4 c)) ∧ Below w.heap.size w w' := by
  by_cases h : 32 ≤ c
  · have h1 : decide (32 ≤ c) = true := decide_eq_true h
    go_enter Tryd.func82, Tryd.ntmps82
    go_wp2
    go_ret
    exact ⟨by simp [okc, h], (Below.refl _ _).alloc (Nat.le_refl _) _⟩
  · have h1 : decide (32 ≤ c) = false := decide_eq_false h
    go_enter Tryd.func82, Tryd.ntmps82
    go_wp2
    go_ret
    exact ⟨by simp [okc, h1], (Below.refl _ _).alloc (Nat.le_refl _) _⟩
theorem right5 (c : Int) (w : World) : Calls Tryd.prog 84 #[.agg #[], .int .u8 c] w fun e w' => e = .returned (.bool (okc 5 c)) ∧ Below w.heap.size w w' := by
  by_cases h : c = 48
  · subst h
    go_enter Tryd.func84, Tryd.ntmps84
    go_wp2
    go_ret
    exact ⟨rfl, (Below.refl _ _).alloc (Nat.le_refl _) _⟩
  · have h1 : (c == 48) = false := beq_eq_false_iff_ne.2 h
    go_enter Tryd.func84, Tryd.ntmps84
    go_wp2
    go_ret
    exact ⟨by simp [okc, h1], (Below.refl _ _).alloc (Nat.le_refl _) _⟩
theorem filler4 (w : World) : Calls Tryd.prog 81 #[.agg #[]] w fun e w' => e = .returned (.int .u8 32) ∧ Below w.heap.size w w' := by
  go_enter Tryd.func81, Tryd.ntmps81
  go_wp2
  go_ret
  exact ⟨rfl, (Below.refl _ _).alloc (Nat.le_refl _) _⟩
theorem filler5 (w : World) : Calls Tryd.prog 83 #[.agg #[]] w fun e w' => e = .returned (.int .u8 48) ∧ Below w.heap.size w w' := by
  go_enter Tryd.func83, Tryd.ntmps83
  go_wp2
  go_ret
  exact ⟨rfl, (Below.refl _ _).alloc (Nat.le_refl _) _⟩
theorem ahead4 (w : World) : (nilAhead 217 72 (.agg #[]) "ironbark/bits.right").run Tryd.prog w = .ok (some false) w := by kernel_rfl
theorem method4 (w : World) : (method 217 72 (.agg #[]) "ironbark/bits.right").run Tryd.prog w = .ok (82, .agg #[]) w := by kernel_rfl
theorem ahead5 (w : World) : (nilAhead 217 73 (.agg #[]) "ironbark/bits.right").run Tryd.prog w = .ok (some false) w := by kernel_rfl
theorem method5 (w : World) : (method 217 73 (.agg #[]) "ironbark/bits.right").run Tryd.prog w = .ok (84, .agg #[]) w := by kernel_rfl
theorem fmethod4 (w : World) : (method 217 72 (.agg #[]) "ironbark/bits.filler").run Tryd.prog w = .ok (81, .agg #[]) w := by kernel_rfl
theorem fmethod5 (w : World) : (method 217 73 (.agg #[]) "ironbark/bits.filler").run Tryd.prog w = .ok (83, .agg #[]) w := by kernel_rfl
theorem valid_no (n a b : Int) (s : ByteArray) (h4 : n ≠ 4) (h5 : n ≠ 5) (w : World) :
    Calls Tryd.prog 8 #[.agg #[.int .i64 n, .int .i64 a, .int .i64 b, .string s]] w fun e w' => e = .returned (.bool false) ∧ Below w.heap.size w w' := by
  go_enter Tryd.func8, Tryd.ntmps8
  go_wp2_with (go_at_call 20; refine (of_no n h4 h5 _).mono ?_; rintro e w' ⟨rfl, rfl⟩)
  go_ret
  exact ⟨rfl, (Below.refl _ _).alloc (Nat.le_refl _) _⟩
theorem valid_4_a (a b : Int) (s : ByteArray) (h : a ≠ 0) (w : World) :
    Calls Tryd.prog 8 #[.agg #[.int .i64 4, .int .i64 a, .int .i64 b, .string s]] w fun e w' => e = .returned (.bool false) ∧ Below w.heap.size w w' := by
  have h1 : (a != 0) = true := bne_iff_ne.2 h
  go_enter Tryd.func8, Tryd.ntmps8
  go_wp2_with (go_at_call 20; refine (of_4 _).mono ?_; rintro e w' ⟨rfl, rfl⟩)
  go_ret
  exact ⟨rfl, (Below.refl _ _).alloc (Nat.le_refl _) _⟩
theorem valid_4_b (b : Int) (s : ByteArray) (h : b ≠ 0) (w : World) :
    Calls Tryd.prog 8 #[.agg #[.int .i64 4, .int .i64 0, .int .i64 b, .string s]] w fun e w' => e = .returned (.bool false) ∧ Below w.heap.size w w' := by
  have h1 : (b != 0) = true := bne_iff_ne.2 h
  go_enter Tryd.func8, Tryd.ntmps8
  go_wp2_with (go_at_call 20; refine (of_4 _).mono ?_; rintro e w' ⟨rfl, rfl⟩)
  go_ret
  exact ⟨rfl, (Below.refl _ _).alloc (Nat.le_refl _) _⟩
theorem valid_4_s (s : ByteArray) (h : 250 < s.size) (w : World) :
    Calls Tryd.prog 8 #[.agg #[.int .i64 4, .int .i64 0, .int .i64 0, .string s]] w fun e w' => e = .returned (.bool false) ∧ Below w.heap.size w w' := by
  have hd : decide (250 < (s.size : Int)) = true := decide_eq_true (by omega)
  go_enter Tryd.func8, Tryd.ntmps8
  go_wp2_with (go_at_call 20; refine (of_4 _).mono ?_; rintro e w' ⟨rfl, rfl⟩)
  go_ret
  exact ⟨rfl, (Below.refl _ _).alloc (Nat.le_refl _) _⟩
set_option maxHeartbeats 2000000 in
set_option maxRecDepth 100000 in
theorem valid_4 (s : ByteArray) (w : World) (hs : s.size ≤ 250) :
    Calls Tryd.prog 8 #[.agg #[.int .i64 4, .int .i64 0, .int .i64 0, .string s]] w fun e w' => e = .returned (.bool (okS 4 s)) ∧ Below w.heap.size w w' := by
  have hd : decide (250 < (s.size : Int)) = false := decide_eq_false (by omega)
  go_enter Tryd.func8, Tryd.ntmps8
  go_wp2_with (go_at_call 20; refine (of_4 _).mono ?_; rintro e w' ⟨rfl, rfl⟩)
  go_loopw [29] (fun v wr => ∃ k : Nat, k ≤ s.size ∧ v = .int .i64 k ∧ (∀ (j : Nat) (h : j < s.size), j < k → okc 4 ((s[j]'h).toNat : Int) = true) ∧ Below w.heap.size w wr ∧ wr.cell? ⟨w.heap.size, 3, none⟩ = some (.string s)) (fun v _ => s.size - (intOf v).toNat)
  case atStart => exact ⟨0, Nat.zero_le _, rfl, fun _ _ h => absurd h (Nat.not_lt_zero _), (Below.refl _ _).alloc (Nat.le_refl _) _, by simp [go_sem]⟩
  case round =>
    obtain ⟨k, hk, rfl, hall0, hb, hc⟩ := hrel
    have hall := Lib.hid hall0
    clear hall0
    by_cases hlt : k < s.size
    · cases hok : okc 4 ((s[k]'hlt).toNat : Int) with
      | true =>
        go_wp2
        have h1 := ahead4
        have h2 := method4
        go_region_with (go_at_call 82; refine (right4 _ _).mono ?_; rintro e w' ⟨rfl, hb1⟩)
        all_goals
          have hb2 : Below w.heap.size w w' := hb.drew.trans (hb1.mono (by have := hb.size; simpa using this))
          have hc2 : w'.cell? ⟨w.heap.size, 3, none⟩ = some (.string s) := pw_cell_below hb1 (by simpa [go_sem] using hc)
          go_wp2
          go_roundw
          case rel => exact ⟨k + 1, hlt, by go_num, fun j h hj => by rcases Nat.lt_succ_iff_lt_or_eq.1 hj with h' | rfl; exact hall.out j h h'; exact hok, hb2, hc2⟩
          case measure => simp [intOf]; omega
      | false =>
        have hno := Lib.hid (okS_no 4 s k hlt hok)
        go_wp2
        have h1 := ahead4
        have h2 := method4
        go_region_with (go_at_call 82; refine (right4 _ _).mono ?_; rintro e w' ⟨rfl, hb1⟩)
        all_goals
          have hb2 : Below w.heap.size w w' := hb.drew.trans (hb1.mono (by have := hb.size; simpa using this))
          go_wp2
          go_ret
          rw [hno.out]
          exact ⟨rfl, hb2⟩
    · have hT := Lib.hid ((okS_iff 4 s).2 fun j h => hall.out j h (by omega))
      go_wp2
      go_ret
      rw [hT.out]
      exact ⟨rfl, hb⟩
theorem valid_5_a (a b : Int) (s : ByteArray) (h : a ≠ 0) (w : World) :
    Calls Tryd.prog 8 #[.agg #[.int .i64 5, .int .i64 a, .int .i64 b, .string s]] w fun e w' => e = .returned (.bool false) ∧ Below w.heap.size w w' := by
  have h1 : (a != 0) = true := bne_iff_ne.2 h
  go_enter Tryd.func8, Tryd.ntmps8
  go_wp2_with (go_at_call 20; refine (of_5 _).mono ?_; rintro e w' ⟨rfl, rfl⟩)
  go_ret
  exact ⟨rfl, (Below.refl _ _).alloc (Nat.le_refl _) _⟩
theorem valid_5_b (b : Int) (s : ByteArray) (h : b ≠ 0) (w : World) :
    Calls Tryd.prog 8 #[.agg #[.int .i64 5, .int .i64 0, .int .i64 b, .string s]] w fun e w' => e = .returned (.bool false) ∧ Below w.heap.size w w' := by
  have h1 : (b != 0) = true := bne_iff_ne.2 h
  go_enter Tryd.func8, Tryd.ntmps8
  go_wp2_with (go_at_call 20; refine (of_5 _).mono ?_; rintro e w' ⟨rfl, rfl⟩)
  go_ret
  exact ⟨rfl, (Below.refl _ _).alloc (Nat.le_refl _) _⟩
theorem valid_5_s (s : ByteArray) (h : 250 < s.size) (w : World) :
    Calls Tryd.prog 8 #[.agg #[.int .i64 5, .int .i64 0, .int .i64 0, .string s]] w fun e w' => e = .returned (.bool false) ∧ Below w.heap.size w w' := by
  have hd : decide (250 < (s.size : Int)) = true := decide_eq_true (by omega)
  go_enter Tryd.func8, Tryd.ntmps8
  go_wp2_with (go_at_call 20; refine (of_5 _).mono ?_; rintro e w' ⟨rfl, rfl⟩)
  go_ret
  exact ⟨rfl, (Below.refl _ _).alloc (Nat.le_refl _) _⟩
set_option maxHeartbeats 2000000 in
set_option maxRecDepth 100000 in
theorem valid_5 (s : ByteArray) (w : World) (hs : s.size ≤ 250) :
    Calls Tryd.prog 8 #[.agg #[.int .i64 5, .int .i64 0, .int .i64 0, .string s]] w fun e w' => e = .returned (.bool (okS 5 s)) ∧ Below w.heap.size w w' := by
  have hd : decide (250 < (s.size : Int)) = false := decide_eq_false (by omega)
  go_enter Tryd.func8, Tryd.ntmps8
  go_wp2_with (go_at_call 20; refine (of_5 _).mono ?_; rintro e w' ⟨rfl, rfl⟩)
  go_loopw [29] (fun v wr => ∃ k : Nat, k ≤ s.size ∧ v = .int .i64 k ∧ (∀ (j : Nat) (h : j < s.size), j < k → okc 5 ((s[j]'h).toNat : Int) = true) ∧ Below w.heap.size w wr ∧ wr.cell? ⟨w.heap.size, 3, none⟩ = some (.string s)) (fun v _ => s.size - (intOf v).toNat)
  case atStart => exact ⟨0, Nat.zero_le _, rfl, fun _ _ h => absurd h (Nat.not_lt_zero _), (Below.refl _ _).alloc (Nat.le_refl _) _, by simp [go_sem]⟩
  case round =>
    obtain ⟨k, hk, rfl, hall0, hb, hc⟩ := hrel
    have hall := Lib.hid hall0
    clear hall0
    by_cases hlt : k < s.size
    · cases hok : okc 5 ((s[k]'hlt).toNat : Int) with
      | true =>
        go_wp2
        have h1 := ahead5
        have h2 := method5
        go_region_with (go_at_call 84; refine (right5 _ _).mono ?_; rintro e w' ⟨rfl, hb1⟩)
        all_goals
          have hb2 : Below w.heap.size w w' := hb.drew.trans (hb1.mono (by have := hb.size; simpa using this))
          have hc2 : w'.cell? ⟨w.heap.size, 3, none⟩ = some (.string s) := pw_cell_below hb1 (by simpa [go_sem] using hc)
          go_wp2
          go_roundw
          case rel => exact ⟨k + 1, hlt, by go_num, fun j h hj => by rcases Nat.lt_succ_iff_lt_or_eq.1 hj with h' | rfl; exact hall.out j h h'; exact hok, hb2, hc2⟩
          case measure => simp [intOf]; omega
      | false =>
        have hno := Lib.hid (okS_no 5 s k hlt hok)
        go_wp2
        have h1 := ahead5
        have h2 := method5
        go_region_with (go_at_call 84; refine (right5 _ _).mono ?_; rintro e w' ⟨rfl, hb1⟩)
        all_goals
          have hb2 : Below w.heap.size w w' := hb.drew.trans (hb1.mono (by have := hb.size; simpa using this))
          go_wp2
          go_ret
          rw [hno.out]
          exact ⟨rfl, hb2⟩
    · have hT := Lib.hid ((okS_iff 5 s).2 fun j h => hall.out j h (by omega))
      go_wp2
      go_ret
      rw [hT.out]
      exact ⟨rfl, hb⟩
theorem bits_Valid.calls (a0_0 a0_1 a0_2 : Int) (a0_3 : ByteArray) (r : Bool) (w : World) (h : bits_Valid.f a0_0 a0_1 a0_2 a0_3 = some r) :
    Calls Tryd.prog 8 #[.agg #[.int .i64 a0_0, .int .i64 a0_1, .int .i64 a0_2, .string a0_3]] w fun e w' => e = .returned (.bool r) ∧ Below w.heap.size w w' := by
  obtain rfl : validB a0_0 a0_1 a0_2 a0_3 = r := by simpa [bits_Valid.f] using h
  clear h
  by_cases h4 : a0_0 = 4
  · subst h4
    by_cases ha : a0_1 = 0
    · subst ha
      by_cases hb : a0_2 = 0
      · subst hb
        by_cases hs : a0_3.size ≤ 250
        · have e : validB 4 0 0 a0_3 = okS 4 a0_3 := by simp [validB, hs]
          rw [e]; exact valid_4 a0_3 w hs
        · have e : validB 4 0 0 a0_3 = false := by simp [validB, hs]
          rw [e]; exact valid_4_s a0_3 (by omega) w
      · have e : validB 4 0 a0_2 a0_3 = false := by simp [validB, hb]
        rw [e]; exact valid_4_b a0_2 a0_3 hb w
    · have e : validB 4 a0_1 a0_2 a0_3 = false := by simp [validB, ha]
      rw [e]; exact valid_4_a a0_1 a0_2 a0_3 ha w
  · by_cases h5 : a0_0 = 5
    · subst h5
      by_cases ha : a0_1 = 0
      · subst ha
        by_cases hb : a0_2 = 0
        · subst hb
          by_cases hs : a0_3.size ≤ 250
          · have e : validB 5 0 0 a0_3 = okS 5 a0_3 := by simp [validB, hs]
            rw [e]; exact valid_5 a0_3 w hs
          · have e : validB 5 0 0 a0_3 = false := by simp [validB, hs]
            rw [e]; exact valid_5_s a0_3 (by omega) w
        · have e : validB 5 0 a0_2 a0_3 = false := by simp [validB, hb]
          rw [e]; exact valid_5_b a0_2 a0_3 hb w
      · have e : validB 5 a0_1 a0_2 a0_3 = false := by simp [validB, ha]
        rw [e]; exact valid_5_a a0_1 a0_2 a0_3 ha w
    · have e : validB a0_0 a0_1 a0_2 a0_3 = false := by simp [validB, h4, h5]
      rw [e]; exact valid_no _ _ _ _ h4 h5 w
theorem at_in (n a b : Int) (s : ByteArray) (i : Int) (w : World) (h0 : 0 ≤ i) (h : i < (s.size : Int)) :
    Calls Tryd.prog 29 #[.agg #[.int .i64 n, .int .i64 a, .int .i64 b, .string s], .int .i64 i] w fun e w' => e = .returned (.int .u8 (bt s i)) ∧ Below w.heap.size w w' := by
  have hi : i.toNat < s.size := by omega
  have hbt := bt_at s i hi
  go_enter Tryd.func29, Tryd.ntmps29
  go_wp2
  go_ret
  exact ⟨rfl, (Below.refl _ _).alloc (Nat.le_refl _) _⟩
theorem at_4 (a b : Int) (s : ByteArray) (i : Int) (w : World) (h : ¬ i < (s.size : Int)) :
    Calls Tryd.prog 29 #[.agg #[.int .i64 4, .int .i64 a, .int .i64 b, .string s], .int .i64 i] w fun e w' => e = .returned (.int .u8 32) ∧ Below w.heap.size w w' := by
  have hm := fmethod4
  go_enter Tryd.func29, Tryd.ntmps29
  go_wp2_with (first | (go_at_call 20; refine (of_4 _).mono ?_; rintro e w' ⟨rfl, rfl⟩) | (go_at_call 81; refine (filler4 _).mono ?_; rintro e w' ⟨rfl, hb1⟩))
  go_ret
  exact ⟨rfl, ((Below.refl _ _).alloc (Nat.le_refl _) _).trans (hb1.mono (by simp))⟩
theorem at_5 (a b : Int) (s : ByteArray) (i : Int) (w : World) (h : ¬ i < (s.size : Int)) :
    Calls Tryd.prog 29 #[.agg #[.int .i64 5, .int .i64 a, .int .i64 b, .string s], .int .i64 i] w fun e w' => e = .returned (.int .u8 48) ∧ Below w.heap.size w w' := by
  have hm := fmethod5
  go_enter Tryd.func29, Tryd.ntmps29
  go_wp2_with (first | (go_at_call 20; refine (of_5 _).mono ?_; rintro e w' ⟨rfl, rfl⟩) | (go_at_call 83; refine (filler5 _).mono ?_; rintro e w' ⟨rfl, hb1⟩))
  go_ret
  exact ⟨rfl, ((Below.refl _ _).alloc (Nat.le_refl _) _).trans (hb1.mono (by simp))⟩
theorem bits_at.calls (a0_0 a0_1 a0_2 : Int) (a0_3 : ByteArray) (a1 : Int) (r : Int) (w : World) (h : bits_at.f a0_0 a0_1 a0_2 a0_3 a1 = some r) :
    Calls Tryd.prog 29 #[.agg #[.int .i64 a0_0, .int .i64 a0_1, .int .i64 a0_2, .string a0_3], .int .i64 a1] w fun e w' => e = .returned (.int .u8 r) ∧ Below w.heap.size w w' := by
  unfold bits_at.f at h
  split at h
  · rename_i h1
    split at h
    · rename_i h2
      obtain rfl : bt a0_3 a1 = r := by simpa using h
      exact at_in _ _ _ _ _ _ h2 h1
    · cases h
  · rename_i h1
    split at h
    · rename_i h2
      obtain rfl : fillc a0_0 = r := by simpa using h
      rcases h2 with rfl | rfl
      · exact at_4 _ _ _ _ _ h1
      · exact at_5 _ _ _ _ _ h1
    · cases h
end Go.Proofs.YtnelblndidciiaaDoor.P

-- from the text Hb
namespace Go.Proofs.YtnelblndidciiaaDoor.P
open Go.RowKit Go.Proofs.YtnelblndidciiaaDoorW.PrintWords Go.Proofs.YtnelblndidciiaaDoorW.PrintLast Go.Proofs.YtnelblndidciiaaDoorW.PrintMore
set_option linter.unusedVariables false
def bits_bitwise.f (a0_0 a0_1 a0_2 : Int) (a0_3 : ByteArray) : Option Bool := some (a0_0 == 5)
theorem ta5 (w : World) : (Instr.typeAssert (.iface 73 (.agg #[])) 42 73 true).run Tryd.prog w = .ok (.tuple #[.agg #[], .bool true]) w := by kernel_rfl
theorem ta4 (w : World) : (Instr.typeAssert (.iface 72 (.agg #[])) 42 73 true).run Tryd.prog w = .ok (.tuple #[.agg #[], .bool false]) w := by kernel_rfl
theorem ta0 (w : World) : (Instr.typeAssert .nilIface 42 73 true).run Tryd.prog w = .ok (.tuple #[.agg #[], .bool false]) w := by kernel_rfl
theorem bits_bitwise.calls (a0_0 a0_1 a0_2 : Int) (a0_3 : ByteArray) (r : Bool) (w : World) (h : bits_bitwise.f a0_0 a0_1 a0_2 a0_3 = some r) :
    Calls Tryd.prog 22 #[.agg #[.int .i64 a0_0, .int .i64 a0_1, .int .i64 a0_2, .string a0_3]] w fun e w' => e = .returned (.bool r) ∧ Below w.heap.size w w' := by
  obtain rfl : (a0_0 == 5) = r := by simpa [bits_bitwise.f] using h
  clear h
  have t5 := ta5
  have t4 := ta4
  have t0 := ta0
  by_cases h5 : a0_0 = 5
  · subst h5
    go_enter Tryd.func22, Tryd.ntmps22
    go_wp2_with (go_at_call 20; refine (of_5 _).mono ?_; rintro e w' ⟨rfl, rfl⟩)
    go_ret
    exact ⟨rfl, (Below.refl _ _).alloc (Nat.le_refl _) _⟩
  · by_cases h4 : a0_0 = 4
    · subst h4
      go_enter Tryd.func22, Tryd.ntmps22
      go_wp2_with (go_at_call 20; refine (of_4 _).mono ?_; rintro e w' ⟨rfl, rfl⟩)
      go_ret
      exact ⟨rfl, (Below.refl _ _).alloc (Nat.le_refl _) _⟩
    · have e5 : (a0_0 == 5) = false := beq_eq_false_iff_ne.2 h5
      rw [e5]
      go_enter Tryd.func22, Tryd.ntmps22
      go_wp2_with (go_at_call 20; refine (of_no _ h4 h5 _).mono ?_; rintro e w' ⟨rfl, rfl⟩)
      go_ret
      exact ⟨rfl, (Below.refl _ _).alloc (Nat.le_refl _) _⟩
end Go.Proofs.YtnelblndidciiaaDoor.P
