/- Part 2 of the proof of the law PageFills: functions, contracts and plain laws; merged by this session's program. -/
import Derived.Test.YtjamaccblokfkaaProg
import Derived.Below
import Derived.Deep.Draws
import Derived.Deep.AppendLies
import Derived.Maps.AppendAt
import Derived.OwnWalk
import Derived.Laws.BytesArg
import Derived.Laws.MakeOwn
import Derived.Laws.OwnMore
import Derived.Deep.OwnRows
import Derived.Tactics
import Derived.Lib.ConvBytes
import Derived.Laws.Slices
import Derived.WalkKit
import Derived.KernelRfl
import Derived.RowKit3
import Derived.Deep.LoopGhost
import Derived.Deep.QuietTactic
import Derived.BigQuiet
import Derived.WideLaws
import Derived.Deep.DeepCutAuto
import Derived.Deep.CutBlock
import Derived.Deep.RegionHeld3
import Derived.Laws.Rows
import Derived.Lib.AppendStr
import Derived.ArgAppend
import Derived.Laws.IdiomCopy
import Derived.OrdersHeld
import Derived.Laws.BitsLemmas
import Derived.RowKit
import Derived.WalkSpells
import Derived.WalkLawsBesides
import Derived.Lib.Hide
import Derived.IntWalk
import Derived.Lib.LazyBuf
import Derived.Shelf.Strings.Builder1
import Derived.Shelf.Strings.Search1
import Derived.Shelf.Small.Strs
import Derived.Lib.IndexLaws
import Derived.RangeFuncNested
import Derived.RangeFuncBound
import Derived.RangeFuncCalls
import Derived.RangeFuncLeaves
import Derived.Shelf.Abstract
import Derived.OwnWalkIn
import Derived.TacticsInMore
import Derived.LoopNIn
import Derived.LoopIn
import Derived.Laws.EntriesVeiled
import Derived.Test.YtjamaccblokfkaaMPageFills1
-- from the text K
namespace Go.Proofs.Ytjamaccblokfkaa.P
open Go.RowKit Go.Proofs.YtjamaccblokfkaaW.PrintWords Go.Proofs.YtjamaccblokfkaaW.PrintLast Go.Proofs.YtjamaccblokfkaaW.PrintMore
theorem blk_six {w : World} {g : Nat} {t : TypeId} {a b c d e f : Value} (h : w.heap[g]? = some (.cells #[a, b, c, d, e, f] t (0, 0))) : w.cell? ⟨g, 0, none⟩ = some a ∧ w.cell? ⟨g, 1, none⟩ = some b ∧ w.cell? ⟨g, 2, none⟩ = some c ∧ w.cell? ⟨g, 3, none⟩ = some d ∧ w.cell? ⟨g, 4, none⟩ = some e ∧ w.cell? ⟨g, 5, none⟩ = some f :=
  ⟨(blk_cell h 0).trans rfl, (blk_cell h 1).trans rfl, (blk_cell h 2).trans rfl, (blk_cell h 3).trans rfl, (blk_cell h 4).trans rfl, (blk_cell h 5).trans rfl⟩
theorem blk_six_free {w : World} {g : Nat} {t : TypeId} {cs : Array Value} (h : w.heap[g]? = some (.cells cs t (0, 0))) : w.frozen? ⟨g, 0, none⟩ = false ∧ w.frozen? ⟨g, 1, none⟩ = false ∧ w.frozen? ⟨g, 2, none⟩ = false ∧ w.frozen? ⟨g, 3, none⟩ = false ∧ w.frozen? ⟨g, 4, none⟩ = false ∧ w.frozen? ⟨g, 5, none⟩ = false :=
  ⟨blk_frozen h 0, blk_frozen h 1, blk_frozen h 2, blk_frozen h 3, blk_frozen h 4, blk_frozen h 5⟩
theorem blk_quad {w : World} {g : Nat} {t : TypeId} {a b c d : Value} (h : w.heap[g]? = some (.cells #[a, b, c, d] t (0, 0))) : w.cell? ⟨g, 0, none⟩ = some a ∧ w.cell? ⟨g, 1, none⟩ = some b ∧ w.cell? ⟨g, 2, none⟩ = some c ∧ w.cell? ⟨g, 3, none⟩ = some d :=
  ⟨(blk_cell h 0).trans rfl, (blk_cell h 1).trans rfl, (blk_cell h 2).trans rfl, (blk_cell h 3).trans rfl⟩
theorem blk_quad_free {w : World} {g : Nat} {t : TypeId} {cs : Array Value} (h : w.heap[g]? = some (.cells cs t (0, 0))) : w.frozen? ⟨g, 0, none⟩ = false ∧ w.frozen? ⟨g, 1, none⟩ = false ∧ w.frozen? ⟨g, 2, none⟩ = false ∧ w.frozen? ⟨g, 3, none⟩ = false :=
  ⟨blk_frozen h 0, blk_frozen h 1, blk_frozen h 2, blk_frozen h 3⟩
/-- What stands in a world stands in what is made of it by allocations and draws. -/
class Kp (w0 : outParam World) (w : World) : Prop where
  k : ∀ {g : Nat} {o : Obj}, w0.heap[g]? = some o → w.heap[g]? = some o
instance (priority := 10) kp_refl (w : World) : Kp w w := ⟨id⟩
instance kp_drewN (w0 w : World) (n : Nat) [i : Kp w0 w] : Kp w0 (w.drewN n) := ⟨fun h => blk_drewN (i.k h) n⟩
instance kp_drew (w0 w : World) [i : Kp w0 w] : Kp w0 w.drew := ⟨fun h => blk_drew (i.k h)⟩
instance kp_alloc (w0 w : World) (o : Obj) [i : Kp w0 w] : Kp w0 (w.alloc o) := ⟨fun h => blk_alloc (i.k h) o⟩
theorem zk {w0 w : World} {g : Nat} {o : Obj} [i : Kp w0 w] (h : w0.heap[g]? = some o) : w.heap[g]? = some o := i.k h
end Go.Proofs.Ytjamaccblokfkaa.P
namespace Go.Proofs.Ytjamaccblokfkaa.P
open Go.RowKit Go.Proofs.YtjamaccblokfkaaW.PrintWords Go.Proofs.YtjamaccblokfkaaW.PrintLast Go.Proofs.YtjamaccblokfkaaW.PrintMore
attribute [local go_sem] max2_int min2_int max_two min_two max_three min_three max_four min_four   -- for this text's walks alone
set_option linter.unusedVariables false
set_option linter.unusedSimpArgs false
theorem info3 : (Try.prog.info? 3).map (fun i => (i.zero, i.size, i.bytes)) = some (some (.int .i64 0), 1, 8) := by kernel_rfl
theorem info5 : (Try.prog.info? 5).map (fun i => (i.zero, i.size, i.bytes)) = some (some (.int .u8 0), 1, 1) := by kernel_rfl
theorem info9 : (Try.prog.info? 9).map (fun i => (i.zero, i.size, i.bytes)) = some (some (.string ⟨#[]⟩), 1, 16) := by kernel_rfl
theorem info34 : (Try.prog.info? 34).map (fun i => (i.zero, i.size, i.bytes)) = some (some (.slice none 0 0), 1, 24) := by kernel_rfl
structure S46 where
  f0 : Int
  f1 : Int
structure S50 where
  f0 : S46
  f1 : Int
  f2 : Int
  f3 : (List Int)
  f4 : (List (List ByteArray))
  f5 : Int
  f6 : (List Int)
  f7 : Bool
  f8 : Bool
end Go.Proofs.Ytjamaccblokfkaa.P

-- from the text Ha
namespace Go.Proofs.Ytjamaccblokfkaa.P
open Go.RowKit Go.Proofs.YtjamaccblokfkaaW.PrintWords Go.Proofs.YtjamaccblokfkaaW.PrintLast Go.Proofs.YtjamaccblokfkaaW.PrintMore
set_option linter.unusedVariables false
set_option linter.unusedSimpArgs false
/-- A print file: its place, its size, the tabs, the ended lines of its page, what was put on the line. -/
structure Pg where
  ln : Int
  col : Int
  sz : Int
  rows : Int
  tabs : List Int
  L : List ByteArray
  now : List Int
  put : Bool
  due : Bool
def strs (l : List ByteArray) : List Value := l.map Value.string
theorem strs_len (l : List ByteArray) : (strs l).length = l.length := by simp [strs]
/-- What a call may turn: blocks of F, and what is laid anew. -/
structure Turn (F : Nat → Prop) (w w' : World) : Prop where
  os : w'.os = w.os
  tape : w'.tape = w.tape
  output : w'.output = w.output
  size : w.heap.size ≤ w'.heap.size
  block : ∀ k, k < w.heap.size → ¬ F k → w'.heap[k]? = w.heap[k]?
theorem Turn.refl (F : Nat → Prop) (w : World) : Turn F w w := ⟨rfl, rfl, rfl, Nat.le_refl _, fun _ _ _ => rfl⟩
theorem Turn.set {F : Nat → Prop} {a b : World} (h : Turn F a b) {p : Addr} (hp : F p.block ∨ a.heap.size ≤ p.block) (v : Value) : Turn F a (b.setCell p v) :=
  ⟨h.os, h.tape, h.output, by rw [World.size_setCell]; exact h.size, fun k hk hn => (Below.heap_setCell b p v k (fun e => hp.elim (fun f => hn (e ▸ f)) (fun f => by omega))).trans (h.block k hk hn)⟩
theorem Turn.step {F : Nat → Prop} {a b c : World} (h : Turn F a b) (hb : Below b.heap.size b c) : Turn F a c :=
  ⟨hb.os.trans h.os, hb.tape.trans h.tape, hb.output.trans h.output, Nat.le_trans h.size hb.size, fun k hk hn => (hb.block k (Nat.lt_of_lt_of_le hk h.size)).trans (h.block k hk hn)⟩
theorem Turn.grown {F : Nat → Prop} {a b c : World} {row : Option Nat} (h : Turn F a b) (hg : b.grownBy c row) (hr : ∀ k, row = some k → F k ∨ a.heap.size ≤ k) : Turn F a c :=
  ⟨hg.os.trans h.os, hg.tape.trans h.tape, hg.output.trans h.output, Nat.le_trans h.size hg.size, fun k hk hn => (hg.block k (Nat.lt_of_lt_of_le hk h.size) (fun e => (hr k e.symm).elim hn (fun e => by omega))).trans (h.block k hk hn)⟩
theorem Turn.below {a b : World} (h : Turn (fun _ => False) a b) : Below a.heap.size a b := ⟨h.os, h.tape, h.output, h.size, fun k hk => h.block k hk id⟩
theorem Turn.of_below {F : Nat → Prop} {w w' : World} (h : Below w.heap.size w w') : Turn F w w' := ⟨h.os, h.tape, h.output, h.size, fun k hk _ => h.block k hk⟩
/-- A row lies as it lay where its block does. -/
theorem ownsRow_kept {w w' : World} {base : Nat} {e : TypeId} {size : Nat} {v : Value} {n : Nat} {xs : List Value} (h : w.ownsRow base e size v n xs) (hk : ∀ k, v.ownBlock = some k → w'.heap[k]? = w.heap[k]?) : w'.ownsRow base e size v n xs := by
  refine ⟨h.1, h.2.imp id ?_⟩
  rintro ⟨g, cap, cur, rfl, hb, hg, rest⟩
  exact ⟨g, cap, cur, rfl, hb, (hk g rfl).trans hg, rest⟩
theorem ownsRow_base {w : World} {base b' : Nat} {e : TypeId} {size : Nat} {v : Value} {n : Nat} {xs : List Value} (h : w.ownsRow base e size v n xs) (hb : b' ≤ base) : w.ownsRow b' e size v n xs := by
  refine ⟨h.1, h.2.imp id ?_⟩
  rintro ⟨g, cap, cur, rfl, hg, rest⟩
  exact ⟨g, cap, cur, rfl, Nat.le_trans hb hg, rest⟩
theorem blk_lt' {w : World} {k : Nat} {o : Obj} (h : w.heap[k]? = some o) : k < w.heap.size := (Array.getElem?_eq_some_iff.1 h).1
theorem own_type {w : World} {base : Nat} {e : TypeId} {size : Nat} {v : Value} {n : Nat} {xs : List Value} (h : w.ownsRow base e size v n xs) {k : Nat} (hk : v.ownBlock = some k) : ∃ cur, w.heap[k]? = some (.cells cur e (0, 0)) := by
  rcases h.2 with ⟨rfl, _⟩ | ⟨g, cap, cur, rfl, _, hg, _⟩
  · cases hk
  · cases hk
    exact ⟨cur, hg⟩
theorem own_ge {w : World} {base : Nat} {e : TypeId} {size : Nat} {v : Value} {n : Nat} {xs : List Value} (h : w.ownsRow base e size v n xs) {k : Nat} (hk : v.ownBlock = some k) : base ≤ k := by
  rcases h.2 with ⟨rfl, _⟩ | ⟨g, cap, cur, rfl, hb, _, _⟩
  · cases hk
  · cases hk; exact hb
theorem own_cap {w : World} {base : Nat} {e : TypeId} {size : Nat} {A : Option Addr} {m c n : Nat} {xs : List Value} (h : w.ownsRow base e size (.slice A m c) n xs) : n ≤ c := by
  rcases h.2 with ⟨e, rfl⟩ | ⟨g, cap, cur, e, _, _, hc, _⟩
  · omega
  · cases e; exact hc
theorem own_none {w : World} {base : Nat} {e : TypeId} {size : Nat} {m c n : Nat} {xs : List Value} (h : w.ownsRow base e size (.slice none m c) n xs) : n = 0 ∧ c = 0 := by
  rcases h.2 with ⟨e, rfl⟩ | ⟨g, cap, cur, e, _⟩
  · cases e; exact ⟨rfl, rfl⟩
  · cases e
theorem own_cells {w : World} {base : Nat} {e : TypeId} {size : Nat} {A : Option Addr} {m c n : Nat} {xs : List Value} (h : w.ownsRow base e size (.slice A m c) n xs) (b : Addr) (hb : A = some b) (j : Nat) (u : Value) (hj : xs[j]? = some u) : w.cell? (b.add j) = some u := by
  rcases h.2 with ⟨e, _⟩ | ⟨g', cap', cur, hv, _, hg, _, _, _, ht⟩
  · cases e; cases hb
  · cases hv
    cases hb
    have hj2 : cur[j]? = some u := by
      rw [← ht, List.getElem?_take] at hj
      split at hj
      · simpa using hj
      · cases hj
    rw [add_plain]
    exact (blk_cell hg j).trans hj2
theorem type_ne {w : World} {a b : Nat} {c c' : Array Value} {t t' : TypeId} (ha : w.heap[a]? = some (.cells c t (0, 0))) (hb : w.heap[b]? = some (.cells c' t' (0, 0))) (h : t ≠ t') : a ≠ b := by
  rintro rfl
  have := ha.symm.trans hb
  simp at this
  exact h this.2
/-- The print file at block p, its pages' row at g. -/
structure PgM (w : World) (p g : Nat) (rv tv nv : Value) (s : Pg) : Prop where
  head : w.heap[p]? = some (.cells #[.int .i64 s.ln, .int .i64 s.col, .int .i64 s.sz, .int .i64 s.rows, tv, .slice (some ⟨g, 0, none⟩) 1 1, .int .i64 (s.L.length : Int), nv, .bool s.put, .bool s.due] 50 (0, 0))
  pages : w.heap[g]? = some (.cells #[rv] 34 (0, 0))
  row : w.ownsRow 0 9 1 rv s.L.length (strs s.L)
  tabs : w.ownsRow 0 3 1 tv s.tabs.length (nums .i64 s.tabs)
  now : w.ownsRow 0 5 1 nv s.now.length (nums .u8 s.now)
def foot (p g : Nat) (rv tv nv : Value) (k : Nat) : Prop := k = p ∨ k = g ∨ rv.ownBlock = some k ∨ tv.ownBlock = some k ∨ nv.ownBlock = some k
theorem PgM.foot_lt {w : World} {p g : Nat} {rv tv nv : Value} {s : Pg} (h : PgM w p g rv tv nv s) {k : Nat} (hk : foot p g rv tv nv k) : k < w.heap.size := by
  rcases hk with rfl | rfl | e | e | e
  · exact blk_lt' h.head
  · exact blk_lt' h.pages
  · exact (h.row.lt k e).2
  · exact (h.tabs.lt k e).2
  · exact (h.now.lt k e).2
theorem PgM.kept {w w' : World} {p g : Nat} {rv tv nv : Value} {s : Pg} (h : PgM w p g rv tv nv s) (hk : ∀ k, foot p g rv tv nv k → w'.heap[k]? = w.heap[k]?) : PgM w' p g rv tv nv s :=
  ⟨(hk p (.inl rfl)).trans h.head, (hk g (.inr (.inl rfl))).trans h.pages, ownsRow_kept h.row (fun k e => hk k (.inr (.inr (.inl e)))), ownsRow_kept h.tabs (fun k e => hk k (.inr (.inr (.inr (.inl e))))), ownsRow_kept h.now (fun k e => hk k (.inr (.inr (.inr (.inr e)))))⟩
/-- Since w0, in which the blocks of F are the print file's: the print file is s; nothing else is turned. -/
def PgAt (F : Nat → Prop) (w0 w : World) (p : Nat) (s : Pg) : Prop := (∃ g rv tv nv, PgM w p g rv tv nv s ∧ ∀ k, foot p g rv tv nv k → F k ∨ w0.heap.size ≤ k) ∧ Turn F w0 w
theorem PgAt.step {F : Nat → Prop} {w0 w w' : World} {p : Nat} {s : Pg} (h : PgAt F w0 w p s) (hb : Below w.heap.size w w') : PgAt F w0 w' p s := by
  obtain ⟨⟨g, rv, tv, nv, hM, hF⟩, hT⟩ := h
  exact ⟨⟨g, rv, tv, nv, hM.kept (fun k hk => hb.block k (hM.foot_lt hk)), hF⟩, hT.step hb⟩
theorem PgAt.lt {F : Nat → Prop} {w0 w : World} {p : Nat} {s : Pg} (h : PgAt F w0 w p s) : p < w.heap.size := by
  obtain ⟨⟨g, rv, tv, nv, hM, hF⟩, hT⟩ := h
  exact blk_lt' hM.head
theorem step_append9 {ops : Array Oper} {o : Oper} {a : Act} {K : Act → World → Prop} {Q : Exit → Act → World → Prop} {W : World} {s x : Operand} {A : Option Addr} {n : Nat} {xs : List Value} {N : Tmp} (g0 : Nat) (t : ByteArray) (hw : Region.wanted o (yielded ops a.tmps) = true) (hN : o.dst = some N) (ho : o.op = .call { callee := .builtin .append, args := #[s, x], argTypes := #[34, 34] })
    (hs : a.eval s = .slice A n n) (hnone : A = none → n = 0) (hlo : xs.length = n) (hc : ∀ b, A = some b → ∀ j u, xs[j]? = some u → W.cell? (b.add j) = some u) (hx : a.eval x = .slice (some ⟨g0, 0, none⟩) 1 1) (hb : W.heap[g0]? = some (.cells #[.string t] 9 (0, 0))) (hn : n ≤ 1000000)
    (h : ∀ g2 cap w', w'.ownsRow W.heap.size 9 1 (.slice (some ⟨g2, 0, none⟩) (n + 1) cap) (n + 1) (xs ++ [.string t]) → W.grownBy w' none → K (a.put (some N) (.slice (some ⟨g2, 0, none⟩) (n + 1) cap)) w') : if Region.wanted o (yielded ops a.tmps) = true then Oper.wp Try.prog o a W K Q else K (a.put (some N) undef) W := by
  obtain ⟨i0, hi, hz0, hz1, hz2⟩ := info_parts info9
  have hnews : ∀ j u, ([Value.string t] : List Value)[j]? = some u → W.cell? ((⟨g0, 0, none⟩ : Addr).add j) = some u := fun j u hj => by rw [add_plain]; exact (blk_cell hb j).trans (by simpa using hj)
  rw [if_pos hw]
  cases A with
  | some b =>
    obtain ⟨v', w', hrun, r1, r2⟩ := run_append_arg_grows (P := Try.prog) W 34 o.type 9 i0 _ 1 16 Try.underlying34 hi hz0 hz1 hz2 rfl (by decide) b n n xs (by omega) (hc b rfl) ⟨g0, 0, none⟩ 1 1 [.string t] rfl hnews (by omega) (by simp only [maxLen]; omega) (by omega)
    unfold Oper.wp
    simp [execOp, ho, resolve, invoke, builtin, hs, hx, hrun, Result.andThen]
    obtain ⟨g2, cap, rfl, _, _⟩ := r1.form (by omega)
    show K (a.put o.dst _) w'
    rw [hN]
    exact h _ _ _ r1 r2
  | none =>
    obtain rfl := hnone rfl
    obtain rfl : xs = [] := List.eq_nil_of_length_eq_zero hlo
    obtain ⟨v', w', hrun, r1, r2, _⟩ := run_append_own (P := Try.prog) W W.heap.size 34 o.type 9 i0 _ 1 16 Try.underlying34 hi hz0 hz1 hz2 rfl (by decide) (.slice none 0 0) 0 [] (World.ownsRow_nil W _ 9 1) ⟨g0, 0, none⟩ 1 1 [.string t] rfl hnews (by simp [Value.oneCell']) (by decide) (by decide) (Nat.le_refl _)
    unfold Oper.wp
    simp [execOp, ho, resolve, invoke, builtin, hs, hx, hrun, Result.andThen]
    obtain ⟨g2, cap, rfl, _, _⟩ := r1.form (by omega)
    show K (a.put o.dst _) w'
    rw [hN]
    exact h _ _ _ r1 r2
def pEnd (s : Pg) : Pg := { s with L := s.L ++ [strOfNums s.now], now := [], put := false, ln := s.ln + 1, col := 1, due := s.due || s.ln == s.rows }
/-- Behind end: the cells of the print file, told one by one. -/
theorem PgM.ended {F : Nat → Prop} {w0 w w6 : World} {p g : Nat} {rv rv' tv nv : Value} {s : Pg} (h : PgM w p g rv tv nv s) (hF : ∀ k, foot p g rv tv nv k → F k ∨ w0.heap.size ≤ k) (hT : Turn F w0 w) (hb : Below w.heap.size w w6)
    (hrow : w6.ownsRow w.heap.size 9 1 rv' (s.L.length + 1) (strs s.L ++ [.string (strOfNums s.now)])) (d : Bool) (hd : d = (s.due || s.ln == s.rows)) (W : World)
    (hW : W.heap[p]? = some (.cells #[.int .i64 (s.ln + 1), .int .i64 1, .int .i64 s.sz, .int .i64 s.rows, tv, .slice (some ⟨g, 0, none⟩) 1 1, .int .i64 ((s.L.length + 1 : Nat) : Int), .slice none 0 0, .bool false, .bool d] 50 (0, 0)))
    (hK : ∀ k, k ≠ p → W.heap[k]? = (w6.setCell ⟨g, 0, none⟩ rv').heap[k]?) (hTW : Turn F w0 W) : PgAt F w0 W p (pEnd s) := by
  have hpg : p ≠ g := type_ne h.head h.pages (by decide)
  have hg6 : w6.heap[g]? = some (.cells #[rv] 34 (0, 0)) := (hb.block g (blk_lt' h.pages)).trans h.pages
  have hlt : ∀ k, k < w.heap.size → k ≠ g → k ≠ p → W.heap[k]? = w.heap[k]? := fun k hk h1 h2 => (hK k h2).trans ((Below.heap_setCell w6 _ _ k (fun e => h1 e)).trans (hb.block k hk))
  have tne : ∀ k, tv.ownBlock = some k → k ≠ g ∧ k ≠ p := fun k e => by
    obtain ⟨c, hc⟩ := own_type h.tabs e
    exact ⟨type_ne hc h.pages (by decide), type_ne hc h.head (by decide)⟩
  refine ⟨⟨g, rv', tv, .slice none 0 0, ⟨?_, ?_, ?_, ?_, ?_⟩, ?_⟩, hTW⟩
  · rw [hW]; unfold pEnd; simp [← hd]
  · rw [hK g (fun e => hpg e.symm)]
    exact blk_put hg6 0 rv' rfl
  · have hr : W.ownsRow w.heap.size 9 1 rv' (s.L.length + 1) (strs s.L ++ [.string (strOfNums s.now)]) := ownsRow_kept hrow (fun k e => by
      have hk := own_ge hrow e
      have h1 := blk_lt' h.head
      have h2 := blk_lt' h.pages
      exact (hK k (by omega)).trans (Below.heap_setCell w6 _ _ k (fun e => by simp only at e; omega)))
    have := ownsRow_base hr (Nat.zero_le _)
    unfold pEnd
    simpa [strs] using this
  · exact ownsRow_kept h.tabs (fun k e => hlt k (h.tabs.lt k e).2 (tne k e).1 (tne k e).2)
  · exact World.ownsRow_nil W _ 5 1
  · intro k hk
    rcases hk with rfl | rfl | e | e | e
    · exact hF _ (.inl rfl)
    · exact hF _ (.inr (.inl rfl))
    · exact .inr (Nat.le_trans hT.size (own_ge hrow e))
    · exact hF k (.inr (.inr (.inr (.inl e))))
    · cases e
set_option maxRecDepth 100000 in
set_option maxHeartbeats 4000000 in
theorem end_is (p : Nat) (s : Pg) (F : Nat → Prop) (w0 w : World) (h : PgAt F w0 w p s) (hn : s.L.length ≤ 100000) (hl : 0 ≤ s.ln ∧ s.ln ≤ 1000000) (hr : 0 ≤ s.rows ∧ s.rows ≤ 1000000) :
    Calls Try.prog 30 #[.pointer (some ⟨p, 0, none⟩)] w fun e w' => e = .returned (.tuple #[]) ∧ PgAt F w0 w' p (pEnd s) := by
  obtain ⟨⟨g, rv, tv, nv, hM, hF⟩, hT⟩ := h
  obtain ⟨A, c, rfl⟩ := own_slice hM.row
  obtain ⟨An, cn, rfl⟩ := own_slice hM.now
  have hcap := own_cap hM.row
  have HEND := Aside0.mk (fun w6 rv' => PgM.ended (w6 := w6) (rv' := rv') hM hF hT)
  have HF := Aside0.mk hF
  have HT := Aside0.mk hT
  have HM := Aside0.mk hM
  obtain ⟨ln, col, sz, rows, tabs, L, now, put, due⟩ := s
  dsimp only at HM HEND hcap hn hl hr HF
  generalize hnl : L.length = n at *
  have HL := Aside0.mk hnl
  clear hnl hM hF hT
  have hh := HM.out.head
  dsimp only at hh
  rw [HL.out] at hh
  have HH := Aside0.mk hh
  have c4 := (blk_cell hh 5).trans rfl
  have gc := (blk_cell HM.out.pages 0).trans rfl
  clear hh
  have h0n : (0 : Int) ≤ (n : Int) := by omega
  have hnc : (n : Int) ≤ (c : Int) := by omega
  go_enter Try.func30, Try.ntmps30
  go_wp2_with fail
  refine start_ (n := 20) (S := fun W => Below w.heap.size w W) (ds := [19]) #[false, false, false, false, false, false, false, false, false, false, false, false, false, false, false, false, false, false, false, false] (by kernel_rfl) rfl rfl (Below.refl _ _).drew (fun hHeld => ?_)
  generalize w.drew = w1 at hHeld ⊢
  clear c4 gc
  refine pure_ (i := 0) (N := some 17) (v := ?_) (a' := ?_) #[true, false, false, false, false, false, false, false, false, false, false, false, false, false, false, false, false, false, false, false] rfl rfl (by kernel_rfl) (fun _ _ _ h => h) (Or.inl ⟨by rfl, ?_⟩) ?_ ?_
  rotate_left
  · intro w_
    go_simp
    with_reducible rfl
  rotate_left
  · simp only [Act.put, List.setIfInBounds_toArray, List.set_cons_zero, List.set_cons_succ, i64_w, i32_w]
    rfl
  refine pure_ (i := 1) (N := some 18) (v := ?_) (a' := ?_) #[true, true, false, false, false, false, false, false, false, false, false, false, false, false, false, false, false, false, false, false] rfl rfl (by kernel_rfl) (fun _ _ _ h => h) (Or.inl ⟨by rfl, ?_⟩) ?_ ?_
  rotate_left
  · intro w_
    go_simp
    with_reducible rfl
  rotate_left
  · simp only [Act.put, List.setIfInBounds_toArray, List.set_cons_zero, List.set_cons_succ, i64_w, i32_w]
    rfl
  refine pure_ (i := 2) (N := some 19) (v := ?_) (a' := ?_) #[true, true, true, false, false, false, false, false, false, false, false, false, false, false, false, false, false, false, false, false] rfl rfl (by kernel_rfl) (fun _ _ _ h => h) (Or.inl ⟨by rfl, ?_⟩) ?_ ?_
  rotate_left
  · intro w_
    go_simp
    with_reducible rfl
  rotate_left
  · simp only [Act.put, List.setIfInBounds_toArray, List.set_cons_zero, List.set_cons_succ, i64_w, i32_w]
    rfl
  refine take_ (i := 3) (N := some 20) (v := ?_) (a' := ?_) #[true, true, true, true, false, false, false, false, false, false, false, false, false, false, false, false, false, false, false, false] rfl rfl (by kernel_rfl) (fun _ _ _ h => h) (Or.inl ⟨by rfl, ?_⟩) hHeld ?_ ?_
  rotate_left
  · rintro w_ hs_
    have s0 := (blk_cell (blk_below HH.out hs_) 5).trans rfl
    have s1 := (blk_cell (blk_below HH.out hs_) 7).trans rfl
    go_simp
    with_reducible rfl
  rotate_left
  · simp only [Act.put, List.setIfInBounds_toArray, List.set_cons_zero, List.set_cons_succ, i64_w, i32_w]
    rfl
  refine pure_ (i := 4) (N := some 21) (v := ?_) (a' := ?_) #[true, true, true, true, true, false, false, false, false, false, false, false, false, false, false, false, false, false, false, false] rfl rfl (by kernel_rfl) (fun _ _ _ h => h) (Or.inl ⟨by rfl, ?_⟩) ?_ ?_
  rotate_left
  · intro w_
    go_simp
    with_reducible rfl
  rotate_left
  · simp only [Act.put, List.setIfInBounds_toArray, List.set_cons_zero, List.set_cons_succ, i64_w, i32_w]
    rfl
  refine pure_ (i := 5) (N := some 22) (v := ?_) (a' := ?_) #[true, true, true, true, true, true, false, false, false, false, false, false, false, false, false, false, false, false, false, false] rfl rfl (by kernel_rfl) (fun _ _ _ h => h) (Or.inl ⟨by rfl, ?_⟩) ?_ ?_
  rotate_left
  · intro w_
    go_simp
    with_reducible rfl
  rotate_left
  · simp only [Act.put, List.setIfInBounds_toArray, List.set_cons_zero, List.set_cons_succ, i64_w, i32_w]
    rfl
  refine pure_ (i := 6) (N := some 23) (v := ?_) (a' := ?_) #[true, true, true, true, true, true, true, false, false, false, false, false, false, false, false, false, false, false, false, false] rfl rfl (by kernel_rfl) (fun _ _ _ h => h) (Or.inl ⟨by rfl, ?_⟩) ?_ ?_
  rotate_left
  · intro w_
    go_simp
    with_reducible rfl
  rotate_left
  · simp only [Act.put, List.setIfInBounds_toArray, List.set_cons_zero, List.set_cons_succ, i64_w, i32_w]
    rfl
  refine pure_ (i := 7) (N := some 24) (v := ?_) (a' := ?_) #[true, true, true, true, true, true, true, true, false, false, false, false, false, false, false, false, false, false, false, false] rfl rfl (by kernel_rfl) (fun _ _ _ h => h) (Or.inl ⟨by rfl, ?_⟩) ?_ ?_
  rotate_left
  · intro w_
    go_simp
    with_reducible rfl
  rotate_left
  · simp only [Act.put, List.setIfInBounds_toArray, List.set_cons_zero, List.set_cons_succ, i64_w, i32_w]
    rfl
  refine pure_ (i := 8) (N := some 25) (v := ?_) (a' := ?_) #[true, true, true, true, true, true, true, true, true, false, false, false, false, false, false, false, false, false, false, false] rfl rfl (by kernel_rfl) (fun _ _ _ h => h) (Or.inl ⟨by rfl, ?_⟩) ?_ ?_
  rotate_left
  · intro w_
    go_simp
    with_reducible rfl
  rotate_left
  · simp only [Act.put, List.setIfInBounds_toArray, List.set_cons_zero, List.set_cons_succ, i64_w, i32_w]
    rfl
  refine pure_ (i := 9) (N := some 26) (v := ?_) (a' := ?_) #[true, true, true, true, true, true, true, true, true, true, false, false, false, false, false, false, false, false, false, false] rfl rfl (by kernel_rfl) (fun _ _ _ h => h) (Or.inl ⟨by rfl, ?_⟩) ?_ ?_
  rotate_left
  · intro w_
    go_simp
    with_reducible rfl
  rotate_left
  · simp only [Act.put, List.setIfInBounds_toArray, List.set_cons_zero, List.set_cons_succ, i64_w, i32_w]
    rfl
  refine pure_ (i := 10) (N := some 27) (v := ?_) (a' := ?_) #[true, true, true, true, true, true, true, true, true, true, true, false, false, false, false, false, false, false, false, false] rfl rfl (by kernel_rfl) (fun _ _ _ h => h) (Or.inl ⟨by rfl, ?_⟩) ?_ ?_
  rotate_left
  · intro w_
    go_simp
    with_reducible rfl
  rotate_left
  · simp only [Act.put, List.setIfInBounds_toArray, List.set_cons_zero, List.set_cons_succ, i64_w, i32_w]
    rfl
  refine pure_ (i := 11) (N := some 28) (v := ?_) (a' := ?_) #[true, true, true, true, true, true, true, true, true, true, true, true, false, false, false, false, false, false, false, false] rfl rfl (by kernel_rfl) (fun _ _ _ h => h) (Or.inl ⟨by rfl, ?_⟩) ?_ ?_
  rotate_left
  · intro w_
    go_simp
    with_reducible rfl
  rotate_left
  · simp only [Act.put, List.setIfInBounds_toArray, List.set_cons_zero, List.set_cons_succ, i64_w, i32_w]
    rfl
  refine pure_ (i := 12) (N := some 29) (v := ?_) (a' := ?_) #[true, true, true, true, true, true, true, true, true, true, true, true, true, false, false, false, false, false, false, false] rfl rfl (by kernel_rfl) (fun _ _ _ h => h) (Or.inl ⟨by rfl, ?_⟩) ?_ ?_
  rotate_left
  · intro w_
    go_simp
    with_reducible rfl
  rotate_left
  · simp only [Act.put, List.setIfInBounds_toArray, List.set_cons_zero, List.set_cons_succ, i64_w, i32_w]
    rfl
  refine pure_ (i := 13) (N := some 30) (v := ?_) (a' := ?_) #[true, true, true, true, true, true, true, true, true, true, true, true, true, true, false, false, false, false, false, false] rfl rfl (by kernel_rfl) (fun _ _ _ h => h) (Or.inl ⟨by rfl, ?_⟩) ?_ ?_
  rotate_left
  · intro w_
    go_simp
    with_reducible rfl
  rotate_left
  · simp only [Act.put, List.setIfInBounds_toArray, List.set_cons_zero, List.set_cons_succ, i64_w, i32_w]
    rfl
  refine take_ (i := 14) (N := some 31) (v := ?_) (a' := ?_) #[true, true, true, true, true, true, true, true, true, true, true, true, true, true, true, false, false, false, false, false] rfl rfl (by kernel_rfl) (fun _ _ _ h => h) (Or.inl ⟨by rfl, ?_⟩) hHeld ?_ ?_
  rotate_left
  · rintro w_ hs_
    have s0 := (blk_cell (blk_below HH.out hs_) 5).trans rfl
    have s1 := (blk_cell (blk_below HH.out hs_) 7).trans rfl
    go_simp
    with_reducible rfl
  rotate_left
  · simp only [Act.put, List.setIfInBounds_toArray, List.set_cons_zero, List.set_cons_succ, i64_w, i32_w]
    rfl
  refine take_ (i := 15) (N := some 32) (v := ?_) (a' := ?_) #[true, true, true, true, true, true, true, true, true, true, true, true, true, true, true, true, false, false, false, false] rfl rfl (by kernel_rfl) (fun _ _ _ h => h) (Or.inl ⟨by rfl, ?_⟩) hHeld ?_ ?_
  rotate_left
  · rintro w_ hs_
    have hcv := own_string Try.underlying48 Try.underlying5 Try.underlying9 (ownsRow_kept HM.out.now (fun k e => hs_.block k (HM.out.now.lt k e).2))
    go_simp
    with_reducible rfl
  rotate_left
  · simp only [Act.put, List.setIfInBounds_toArray, List.set_cons_zero, List.set_cons_succ, i64_w, i32_w]
    rfl
  refine one_ (i := 16) (N := some 33) #[true, true, true, true, true, true, true, true, true, true, true, true, true, true, true, true, true, false, false, false] rfl rfl (by kernel_rfl) (by decide) (fun K' hK => ?_)
  refine value_ (w1 := w1.alloc (.cells #[.string (strOfNums now)] 9 (0, 0))) (v := .slice (some ⟨w1.heap.size, 0, none⟩) 1 1) (by rfl) rfl ?_ ?_
  · go_simp
  have HN := Aside0.mk (blk_new w1 (.cells #[.string (strOfNums now)] 9 (0, 0)))
  have hb5 := (Below.refl w1.heap.size w1).alloc (Nat.le_refl _) (.cells #[.string (strOfNums now)] 9 (0, 0))
  refine hK.out _ _ (hHeld.trans (hb5.mono hHeld.size)) (fun hHeld => ?_)
  clear hK K' hb5
  generalize w1.alloc (.cells #[.string (strOfNums now)] 9 (0, 0)) = w2 at hHeld HN ⊢
  generalize w1.heap.size = g0 at HN ⊢
  refine norm_ (a' := ?_) ?_ ?_
  rotate_left
  · show Act.put _ (some 33) _ = _
    simp only [Act.put, List.setIfInBounds_toArray, List.set_cons_zero, List.set_cons_succ, i64_w, i32_w]
    rfl
  have hs2 := hHeld.size
  refine one_ (i := 17) (N := some 34) #[true, true, true, true, true, true, true, true, true, true, true, true, true, true, true, true, true, true, false, false] rfl rfl (by kernel_rfl) (by decide) (fun K' hK => ?_)
  refine step_append9 (xs := strs L) g0 (strOfNums now) (by rfl) rfl rfl rfl (fun e => by subst e; exact (own_none HM.out.row).1.symm ▸ HL.out ▸ rfl) ((strs_len L).trans HL.out) (own_cells (ownsRow_kept HM.out.row (fun k e => hHeld.block k (HM.out.row.lt k e).2))) rfl HN.out (by omega) ?_
  intro g2 cap2 w6 hown hgrow
  have hb6 : Below w.heap.size w w6 := hHeld.grown hgrow hHeld.size (fun k h => by cases h)
  refine hK.out _ _ hb6 (fun hHeld => ?_)
  clear hK K'
  refine norm_ (a' := ?_) ?_ ?_
  rotate_left
  · show Act.put _ (some 34) _ = _
    simp only [Act.put, List.setIfInBounds_toArray, List.set_cons_zero, List.set_cons_succ, i64_w, i32_w]
    rfl
  refine pure_ (i := 18) (N := some 35) (v := ?_) (a' := ?_) #[true, true, true, true, true, true, true, true, true, true, true, true, true, true, true, true, true, true, true, false] rfl rfl (by kernel_rfl) (fun _ _ _ h => h) (Or.inl ⟨by rfl, ?_⟩) ?_ ?_
  rotate_left
  · intro w_
    go_simp
    with_reducible rfl
  rotate_left
  · simp only [Act.put, List.setIfInBounds_toArray, List.set_cons_zero, List.set_cons_succ, i64_w, i32_w]
    rfl
  have hg6 := blk_below HM.out.pages hb6
  have hcg := (blk_cell hg6 0).trans rfl
  have hfg := blk_frozen hg6 0
  refine last_ (i := 19) (N := none) #[true, true, true, true, true, true, true, true, true, true, true, true, true, true, true, true, true, true, true, true] rfl rfl (by kernel_rfl) (by decide) (fun K' hK => ?_)
  refine skip_ (w1 := ?_) (by rfl) rfl ?_ ?_
  rotate_left
  · go_simp
    rfl
  refine hK.out _ _ ?_
  clear hK K'
  refine done_ (by kernel_rfl) ?_
  have hpg : p ≠ g := type_ne HM.out.head HM.out.pages (by decide)
  have h7 : (w6.setCell ⟨g, 0, none⟩ (.slice (some ⟨g2, 0, none⟩) (n + 1) cap2)).heap[p]? = some (.cells #[.int .i64 ln, .int .i64 col, .int .i64 sz, .int .i64 rows, tv, .slice (some ⟨g, 0, none⟩) 1 1, .int .i64 (n : Int), (.slice An now.length cn), .bool put, .bool due] 50 (0, 0)) := (Below.heap_setCell w6 _ _ p hpg).trans (blk_below HH.out hb6)
  have hE := HEND.out w6 (.slice (some ⟨g2, 0, none⟩) (n + 1) cap2) hb6 (ownsRow_base hown hs2)
  have hT7 := Turn.set (HT.out.step hb6) (p := ⟨g, 0, none⟩) (HF.out g (.inr (.inl rfl))) (.slice (some ⟨g2, 0, none⟩) (n + 1) cap2)
  have hFp := HF.out p (.inl rfl)
  have HE := Aside0.mk hE
  have HT7 := Aside0.mk hT7
  have HP := Aside0.mk hFp
  clear hHeld hs2 hown hgrow hb6 hg6 hcg hfg HN hE hT7 hFp
  generalize (w6.setCell ⟨g, 0, none⟩ (.slice (some ⟨g2, 0, none⟩) (n + 1) cap2)) = w7 at HE HT7 h7 ⊢
  have H7 := Aside0.mk h7
  have c0 := (blk_cell h7 0).trans rfl
  have c1 := (blk_cell h7 1).trans rfl
  have c2 := (blk_cell h7 3).trans rfl
  have c6 := (blk_cell h7 6).trans rfl
  have c7 := (blk_cell h7 7).trans rfl
  have c8 := (blk_cell h7 8).trans rfl
  have c9 := (blk_cell h7 9).trans rfl
  have f0 := blk_frozen h7 0
  have f1 := blk_frozen h7 1
  have f6 := blk_frozen h7 6
  have f7 := blk_frozen h7 7
  have f8 := blk_frozen h7 8
  have f9 := blk_frozen h7 9
  clear h7
  have hw : wrap64 ((n : Int) + 1) = ((n + 1 : Nat) : Int) := by unfold wrap64; omega
  have hw2 : wrap64 (ln + 1) = ln + 1 := by unfold wrap64; omega
  have hw3 : wrap64 (rows + 1) = rows + 1 := by unfold wrap64; omega
  go_wp2_with fail
  have h8 := blk_put (blk_put (blk_put (blk_put (blk_put H7.out 6 (.int .i64 ((n + 1 : Nat) : Int)) rfl) 7 (.slice none 0 0) rfl) 8 (.bool false) rfl) 0 (.int .i64 (ln + 1)) rfl) 1 (.int .i64 1) rfl
  have hk8 : ∀ k, k ≠ p → (((((w7.setCell ⟨p, 6, none⟩ (.int .i64 ((n + 1 : Nat) : Int))).setCell ⟨p, 7, none⟩ (.slice none 0 0)).setCell ⟨p, 8, none⟩ (.bool false)).setCell ⟨p, 0, none⟩ (.int .i64 (ln + 1))).setCell ⟨p, 1, none⟩ (.int .i64 1)).heap[k]? = w7.heap[k]? := fun k hk => by
    rw [Below.heap_setCell _ _ _ k hk, Below.heap_setCell _ _ _ k hk, Below.heap_setCell _ _ _ k hk, Below.heap_setCell _ _ _ k hk, Below.heap_setCell _ _ _ k hk]
  have ht8 := ((((HT7.out.set (p := ⟨p, 6, none⟩) HP.out (.int .i64 ((n + 1 : Nat) : Int))).set (p := ⟨p, 7, none⟩) HP.out (.slice none 0 0)).set (p := ⟨p, 8, none⟩) HP.out (.bool false)).set (p := ⟨p, 0, none⟩) HP.out (.int .i64 (ln + 1))).set (p := ⟨p, 1, none⟩) HP.out (.int .i64 1)
  simp only [show ((n : Int) + 1) = ((n + 1 : Nat) : Int) from by omega]
  generalize ((((w7.setCell ⟨p, 6, none⟩ (.int .i64 ((n + 1 : Nat) : Int))).setCell ⟨p, 7, none⟩ (.slice none 0 0)).setCell ⟨p, 8, none⟩ (.bool false)).setCell ⟨p, 0, none⟩ (.int .i64 (ln + 1))).setCell ⟨p, 1, none⟩ (.int .i64 1) = w8 at h8 hk8 ht8 ⊢
  have H8 := Aside0.mk h8
  have K8 := Aside0.mk hk8
  have T8 := Aside0.mk ht8
  have d0 := (blk_cell h8 0).trans rfl
  have d3 := (blk_cell h8 3).trans rfl
  have d9 := (blk_cell h8 9).trans rfl
  have e9 := blk_frozen h8 9
  clear h8 hk8 ht8 c0 c1 c2 c6 c7 c8 c9 f0 f1 f6 f7 f8 f9 H7 HT7
  go_quiet (fail)
  by_cases he : ln = rows
  · have hd : decide ((ln + 1 : Int) = rows + 1) = true := decide_eq_true (by omega)
    go_wp2_with fail
    go_end0
    refine ⟨rfl, HE.out true (by rw [he]; simp) _ (blk_put (blk_drewN H8.out _) 9 (.bool true) rfl) (fun k hk => (Below.heap_setCell _ _ _ k hk).trans (K8.out k hk)) (Turn.set ((T8.out).step (pw_below_drewN (Below.refl _ _) _)) HP.out _)⟩
  · have hd : decide ((ln + 1 : Int) = rows + 1) = false := decide_eq_false (by omega)
    go_wp2_with fail
    go_end0
    refine ⟨rfl, HE.out due (by simp [he]) _ (blk_drewN H8.out _) (fun k hk => K8.out k hk) ((T8.out).step (pw_below_drewN (Below.refl _ _) _))⟩
end Go.Proofs.Ytjamaccblokfkaa.P

-- from the text Hb
namespace Go.Proofs.Ytjamaccblokfkaa.P
open Go.RowKit Go.Proofs.YtjamaccblokfkaaW.PrintWords Go.Proofs.YtjamaccblokfkaaW.PrintLast Go.Proofs.YtjamaccblokfkaaW.PrintMore
set_option linter.unusedVariables false
set_option linter.unusedSimpArgs false
/-- One of the print file's plain cells is set. -/
theorem PgAt.set {F : Nat → Prop} {w0 w : World} {p : Nat} {s s' : Pg} (h : PgAt F w0 w p s) (i : Nat) (u : Value) (hL : s'.L = s.L) (hnow : s'.now = s.now) (htab : s'.tabs = s.tabs)
    (hc : ∀ tv g nv, #[.int .i64 s.ln, .int .i64 s.col, .int .i64 s.sz, .int .i64 s.rows, tv, .slice (some ⟨g, 0, none⟩) 1 1, .int .i64 (s.L.length : Int), nv, .bool s.put, .bool s.due].setIfInBounds i u = #[.int .i64 s'.ln, .int .i64 s'.col, .int .i64 s'.sz, .int .i64 s'.rows, tv, .slice (some ⟨g, 0, none⟩) 1 1, .int .i64 (s'.L.length : Int), nv, .bool s'.put, .bool s'.due]) :
    PgAt F w0 (w.setCell ⟨p, i, none⟩ u) p s' := by
  obtain ⟨⟨g, rv, tv, nv, hM, hF⟩, hT⟩ := h
  have hk : ∀ k, k ≠ p → (w.setCell ⟨p, i, none⟩ u).heap[k]? = w.heap[k]? := fun k hk => Below.heap_setCell w _ _ k hk
  have hne : ∀ {e : TypeId} {v : Value} {n : Nat} {xs : List Value}, w.ownsRow 0 e 1 v n xs → e ≠ 50 → ∀ k, v.ownBlock = some k → k ≠ p := fun h1 h2 k e1 => by
    obtain ⟨c, hc⟩ := own_type h1 e1
    exact type_ne hc hM.head h2
  refine ⟨⟨g, rv, tv, nv, ⟨blk_put hM.head i u (hc tv g nv), (hk g (type_ne hM.pages hM.head (by decide))).trans hM.pages, ?_, ?_, ?_⟩, hF⟩, hT.set (hF p (.inl rfl)) u⟩
  · rw [hL]; exact ownsRow_kept hM.row (fun k e => hk k (hne hM.row (by decide) k e))
  · rw [htab]; exact ownsRow_kept hM.tabs (fun k e => hk k (hne hM.tabs (by decide) k e))
  · rw [hnow]; exact ownsRow_kept hM.now (fun k e => hk k (hne hM.now (by decide) k e))
theorem PgAt.setCol {F : Nat → Prop} {w0 w : World} {p : Nat} {s : Pg} (h : PgAt F w0 w p s) (c : Int) : PgAt F w0 (w.setCell ⟨p, 1, none⟩ (.int .i64 c)) p { s with col := c } := h.set 1 _ rfl rfl rfl (fun _ _ _ => rfl)
theorem PgAt.setPut {F : Nat → Prop} {w0 w : World} {p : Nat} {s : Pg} (h : PgAt F w0 w p s) (b : Bool) : PgAt F w0 (w.setCell ⟨p, 8, none⟩ (.bool b)) p { s with put := b } := h.set 8 _ rfl rfl rfl (fun _ _ _ => rfl)
theorem PgAt.drewN {F : Nat → Prop} {w0 w : World} {p : Nat} {s : Pg} (h : PgAt F w0 w p s) (n : Nat) : PgAt F w0 (w.drewN n) p s := h.step (pw_below_drewN (Below.refl _ _) n)
/-- What a walk reads. -/
theorem PgAt.open_ {F : Nat → Prop} {w0 w : World} {p : Nat} {s : Pg} (h : PgAt F w0 w p s) : ∃ tv g A c, Aside0 (w.heap[p]? = some (.cells #[.int .i64 s.ln, .int .i64 s.col, .int .i64 s.sz, .int .i64 s.rows, tv, .slice (some ⟨g, 0, none⟩) 1 1, .int .i64 (s.L.length : Int), .slice A s.now.length c, .bool s.put, .bool s.due] 50 (0, 0))) := by
  obtain ⟨⟨g, rv, tv, nv, hM, hF⟩, hT⟩ := h
  obtain ⟨A, c, rfl⟩ := own_slice hM.now
  exact ⟨tv, g, A, c, ⟨hM.head⟩⟩
section
variable {ops : Array Oper} {rest : List Oper} {o : Oper} {a : Act} {Q : Exit → Act → World → Prop} {W : World}
/-- One byte more behind what was put on the line. -/
theorem wl_append5 {F : Nat → Prop} {w0 w : World} {p : Nat} {s : Pg} {x y : Operand} {A : Option Addr} {c0 : Nat} {g : Nat} {tv : Value} (c : Int) (h : PgAt F w0 w p s) (hgd : o.guard = none) (ho : o.op = .call { callee := .builtin .append, args := #[x, y], argTypes := #[48, 48] })
    (hh : w.heap[p]? = some (.cells #[.int .i64 s.ln, .int .i64 s.col, .int .i64 s.sz, .int .i64 s.rows, tv, .slice (some ⟨g, 0, none⟩) 1 1, .int .i64 (s.L.length : Int), .slice A s.now.length c0, .bool s.put, .bool s.due] 50 (0, 0)))
    (hs : a.eval x = .slice A s.now.length c0) (hx : a.eval y = .slice (some ⟨w.heap.size, 0, none⟩) 1 1) (hW : W = w.alloc (.cells #[.int .u8 c] 5 (0, 0))) (hn : s.now.length ≤ 1000000)
    (hK : ∀ g2 cap w2, w2.heap[p]? = w.heap[p]? → PgAt F w0 (w2.setCell ⟨p, 7, none⟩ (.slice (some ⟨g2, 0, none⟩) (s.now.length + 1) cap)) p { s with now := s.now ++ [c] } → wpList Try.prog ops Q rest (a.put o.dst (.slice (some ⟨g2, 0, none⟩) (s.now.length + 1) cap)) w2) : wpList Try.prog ops Q (o :: rest) a W := by
  subst hW
  obtain ⟨⟨g', rv, tv', nv, hM, hF⟩, hT⟩ := h
  have he := hh.symm.trans hM.head
  simp only [Option.some.injEq, Obj.cells.injEq, and_true] at he
  obtain ⟨rfl, hg, rfl⟩ : tv = tv' ∧ g = g' ∧ nv = .slice A s.now.length c0 := by
    have := congrArg Array.toList he
    simp at this
    exact ⟨this.1, this.2.1, this.2.2.symm⟩
  subst hg
  have hb := (Below.refl w.heap.size w).alloc (Nat.le_refl _) (.cells #[.int .u8 c] 5 (0, 0))
  have hrow := ownsRow_kept (w' := w.alloc (.cells #[.int .u8 c] 5 (0, 0))) hM.now (fun k e => hb.block k (hM.now.lt k e).2)
  obtain ⟨i0, hi, hz0, hz1, hz2⟩ := info_parts info5
  refine wpList_append_lies _ hgd x y 48 ho 0 5 i0 _ 1 1 Try.underlying48 hi hz0 hz1 hz2 rfl (by decide) (.slice A s.now.length c0) s.now.length (nums .u8 s.now) hs hrow ⟨w.heap.size, 0, none⟩ 1 1 [.int .u8 c] hx rfl
    (fun j u hj => by rw [add_plain]; exact (blk_cell (blk_new w _) j).trans (by simpa using hj)) (by simp [Value.oneCell']) (by decide) (by simp only [maxLen]; omega) (by omega) (Nat.zero_le _) _ rfl ?_
  intro g2 cap w2 hown hgrow hat hlt
  have pne : ∀ k, (Value.slice A s.now.length c0).ownBlock = some k → k ≠ p ∧ k ≠ g := fun k e => by
    obtain ⟨cs, hc⟩ := own_type hM.now e
    exact ⟨type_ne hc hM.head (by decide), type_ne hc hM.pages (by decide)⟩
  have hkeep : ∀ k, k < w.heap.size → (Value.slice A s.now.length c0).ownBlock ≠ some k → w2.heap[k]? = w.heap[k]? := fun k hk hn => (hgrow.block k (Nat.lt_of_lt_of_le hk hb.size) (fun e => hn e.symm)).trans (hb.block k hk)
  have hp2 : w2.heap[p]? = w.heap[p]? := hkeep p (blk_lt' hM.head) (fun e => (pne p e).1 rfl)
  have hset : ∀ k, k ≠ p → (w2.setCell ⟨p, 7, none⟩ (.slice (some ⟨g2, 0, none⟩) (s.now.length + 1) cap)).heap[k]? = w2.heap[k]? := fun k hk => Below.heap_setCell w2 _ _ k hk
  have hg2 : g2 ≠ p := by
    rcases hat with e | e
    · exact (pne g2 e).1
    · have h1 := blk_lt' hM.head
      have h2 := hb.size
      omega
  have other : ∀ {e : TypeId} {v : Value} {n : Nat} {xs : List Value}, w.ownsRow 0 e 1 v n xs → e ≠ 50 → e ≠ 5 → ∀ k, v.ownBlock = some k → (w2.setCell ⟨p, 7, none⟩ (.slice (some ⟨g2, 0, none⟩) (s.now.length + 1) cap)).heap[k]? = w.heap[k]? := fun h1 h2 h3 k e1 => by
    obtain ⟨cs, hc⟩ := own_type h1 e1
    refine (hset k (type_ne hc hM.head h2)).trans (hkeep k (blk_lt' hc) (fun e => ?_))
    obtain ⟨cs', hc'⟩ := own_type hM.now e
    exact type_ne hc hc' h3 rfl
  refine hK g2 cap w2 hp2 ⟨⟨g, rv, tv, .slice (some ⟨g2, 0, none⟩) (s.now.length + 1) cap, ⟨?_, ?_, ?_, ?_, ?_⟩, ?_⟩, ?_⟩
  · refine blk_put (hp2.trans hM.head) 7 _ ?_
    simp
  · exact (hset g (type_ne hM.pages hM.head (by decide))).trans ((hkeep g (blk_lt' hM.pages) (fun e => (pne g e).2 rfl)).trans hM.pages)
  · exact ownsRow_kept hM.row (other hM.row (by decide) (by decide))
  · exact ownsRow_kept hM.tabs (other hM.tabs (by decide) (by decide))
  · have := ownsRow_kept (w' := w2.setCell ⟨p, 7, none⟩ (.slice (some ⟨g2, 0, none⟩) (s.now.length + 1) cap)) hown (fun k e => hset k (by cases e; exact hg2))
    simpa [nums] using this
  · intro k hk
    rcases hk with rfl | rfl | e | e | e
    · exact hF _ (.inl rfl)
    · exact hF _ (.inr (.inl rfl))
    · exact hF k (.inr (.inr (.inl e)))
    · exact hF k (.inr (.inr (.inr (.inl e))))
    · cases e
      rcases hat with e | e
      · exact hF _ (.inr (.inr (.inr (.inr e))))
      · have h1 := hT.size
        have h2 := hb.size
        exact .inr (show w0.heap.size ≤ g2 by omega)
  · refine Turn.set (Turn.grown (hT.step hb) hgrow (fun k e => hF k (.inr (.inr (.inr (.inr e)))))) (hF p (.inl rfl)) _
end
def pRoom (s : Pg) : Pg := if s.sz < s.col then pEnd s else s
def pWrite (s : Pg) (c : Int) : Pg := let t := pRoom s; { t with now := t.now ++ List.replicate (t.col.toNat - 1 - t.now.length) 32 ++ [c], put := true, col := t.col + 1 }
/-- What holds between two calls: what was put ends ahead of the column; sizes. -/
structure Ok (m : Nat) (s : Pg) : Prop where
  now : (s.now.length : Int) ≤ s.col - 1
  col : 1 ≤ s.col ∧ s.col ≤ s.sz + 1
  sz : 10 ≤ s.sz ∧ s.sz ≤ 200
  rows : 1 ≤ s.rows ∧ s.rows ≤ 200
  L : s.L.length ≤ m
  ln : 1 ≤ s.ln ∧ s.ln ≤ m + 1
theorem Ok.end_ {m : Nat} {s : Pg} (h : Ok m s) : Ok (m + 1) (pEnd s) := by
  obtain ⟨h1, h2, h3, h4, h5, h6⟩ := h
  refine ⟨?_, ?_, h3, h4, ?_, ?_⟩
  · show ((0 : Nat) : Int) ≤ 1 - 1; omega
  · show (1 : Int) ≤ 1 ∧ (1 : Int) ≤ s.sz + 1; omega
  · show (s.L ++ _).length ≤ m + 1; simp; omega
  · show 1 ≤ s.ln + 1 ∧ s.ln + 1 ≤ ((m + 1 : Nat) : Int) + 1; omega
theorem Ok.mono {m m' : Nat} {s : Pg} (h : Ok m s) (hm : m ≤ m') : Ok m' s := ⟨h.now, h.col, h.sz, h.rows, Nat.le_trans h.L hm, by have := h.ln; omega⟩
theorem Ok.room {m : Nat} {s : Pg} (h : Ok m s) : Ok (m + 1) (pRoom s) ∧ (pRoom s).col ≤ (pRoom s).sz := by
  unfold pRoom
  have h2 := h.col
  have h3 := h.sz
  split
  · exact ⟨h.end_, by show (1 : Int) ≤ s.sz; omega⟩
  · exact ⟨h.mono (by omega), by omega⟩
theorem Ok.write {m : Nat} {s : Pg} (h : Ok m s) (c : Int) : Ok (m + 1) (pWrite s c) := by
  obtain ⟨⟨h1, h2, h3, h4, h5, h6⟩, h7⟩ := h.room
  refine ⟨?_, ?_, h3, h4, h5, h6⟩
  · show (((pRoom s).now ++ List.replicate ((pRoom s).col.toNat - 1 - (pRoom s).now.length) 32 ++ [c]).length : Int) ≤ (pRoom s).col + 1 - 1
    simp
    omega
  · show 1 ≤ (pRoom s).col + 1 ∧ (pRoom s).col + 1 ≤ (pRoom s).sz + 1; omega
set_option maxRecDepth 100000 in
set_option maxHeartbeats 4000000 in
theorem total_is (p : Nat) (s : Pg) (F : Nat → Prop) (w0 w : World) (h : PgAt F w0 w p s) (hn : s.L.length ≤ 100000) : Calls Try.prog 49 #[.pointer (some ⟨p, 0, none⟩)] w fun e w' => e = .returned (.int .i64 ((s.L.length : Int) + if s.put = true then 1 else 0)) ∧ Below w.heap.size w w' := by
  obtain ⟨tv, g, A, c, hh⟩ := h.open_
  have c6 := (blk_cell hh.out 6).trans rfl
  have c8 := (blk_cell hh.out 8).trans rfl
  generalize s.L.length = n at *
  have hw : wrap64 ((n : Int) + 1) = (n : Int) + 1 := by unfold wrap64; omega
  clear h hh
  cases hp : s.put with
  | true =>
    rw [hp] at c8
    go_enter Try.func49, Try.ntmps49
    go_wp2_with fail
    go_ret
    exact ⟨by simp, Below.refl _ _⟩
  | false =>
    rw [hp] at c8
    go_enter Try.func49, Try.ntmps49
    go_wp2_with fail
    go_ret
    exact ⟨by simp, Below.refl _ _⟩
set_option maxRecDepth 100000 in
set_option maxHeartbeats 4000000 in
theorem room_is (p : Nat) (s : Pg) (F : Nat → Prop) (w0 w : World) (m : Nat) (h : PgAt F w0 w p s) (ho : Ok m s) (hm : m ≤ 90000) : Calls Try.prog 45 #[.pointer (some ⟨p, 0, none⟩)] w fun e w' => e = .returned (.tuple #[]) ∧ PgAt F w0 w' p (pRoom s) := by
  obtain ⟨tv, g, A, c, hh⟩ := h.open_
  have c1 := (blk_cell hh.out 1).trans rfl
  have c2 := (blk_cell hh.out 2).trans rfl
  have hl := ho.L
  have hln := ho.ln
  have hrw := ho.rows
  have HE := Aside0.mk (fun W (hW : PgAt F w0 W p s) => end_is p s F w0 W hW (by omega) ⟨by omega, by omega⟩ ⟨by omega, by omega⟩)
  have H := Aside0.mk h
  clear h hh ho hl hln hrw
  unfold pRoom
  by_cases hc : s.sz < s.col
  · rw [if_pos hc]
    have hd : decide (s.col > s.sz) = true := decide_eq_true hc
    generalize s.col = col at *
    generalize s.sz = sz at *
    generalize pEnd s = s' at *
    go_enter Try.func45, Try.ntmps45
    go_wp2_with fail
    go_quiet (fail)
    go_wp2_with fail
    refine (HE.out _ (H.out.drewN _)).mono ?_
    rintro e w1 ⟨rfl, h1⟩
    go_wp2_with fail
    go_end0
    exact ⟨rfl, h1⟩
  · rw [if_neg hc]
    have hd : decide (s.col > s.sz) = false := decide_eq_false hc
    generalize s.col = col at *
    generalize s.sz = sz at *
    go_enter Try.func45, Try.ntmps45
    go_wp2_with fail
    go_quiet (fail)
    go_wp2_with fail
    go_end0
    exact ⟨rfl, H.out.drewN _⟩
end Go.Proofs.Ytjamaccblokfkaa.P

-- from the text Hc
namespace Go.Proofs.Ytjamaccblokfkaa.P
open Go.RowKit Go.Proofs.YtjamaccblokfkaaW.PrintWords Go.Proofs.YtjamaccblokfkaaW.PrintLast Go.Proofs.YtjamaccblokfkaaW.PrintMore
set_option linter.unusedVariables false
set_option linter.unusedSimpArgs false
/-- How much lies on the line, told by the world. -/
def nowLen (w : World) (p : Nat) : Nat := match w.cell? ⟨p, 7, none⟩ with
  | some (.slice _ n _) => n
  | _ => 0
theorem PgAt.nowLen {F : Nat → Prop} {w0 w : World} {p : Nat} {s : Pg} (h : PgAt F w0 w p s) : nowLen w p = s.now.length := by
  obtain ⟨tv, g, A, c, hh⟩ := h.open_
  unfold P.nowLen
  rw [(blk_cell hh.out 7).trans rfl]
  rfl
theorem pad_more (t : Pg) (j : Nat) : ({ ({ t with now := t.now ++ List.replicate j 32 } : Pg) with now := ({ t with now := t.now ++ List.replicate j 32 } : Pg).now ++ [32] } : Pg) = { t with now := t.now ++ List.replicate (j + 1) 32 } := by
  simp [List.replicate_succ']
set_option maxRecDepth 100000 in
set_option maxHeartbeats 8000000 in
theorem write_is (p : Nat) (s : Pg) (c : Int) (F : Nat → Prop) (w0 w : World) (m : Nat) (h : PgAt F w0 w p s) (ho : Ok m s) (hm : m ≤ 90000) : Calls Try.prog 50 #[.pointer (some ⟨p, 0, none⟩), .int .u8 c] w fun e w' => e = .returned (.tuple #[]) ∧ PgAt F w0 w' p (pWrite s c) := by
  have HR := Aside0.mk (room_is p s F w0 w m h ho hm)
  obtain ⟨hk, hcs⟩ := ho.room
  have HW := Aside0.mk (show pWrite s c = { pRoom s with now := (pRoom s).now ++ List.replicate ((pRoom s).col.toNat - 1 - (pRoom s).now.length) 32 ++ [c], put := true, col := (pRoom s).col + 1 } from rfl)
  have h1 := hk.now
  have h2 := hk.col
  have h3 := hk.sz
  clear h ho hk hm
  generalize pWrite s c = out at HW
  generalize pRoom s = t at *
  obtain ⟨K, hK⟩ : ∃ K, t.col.toNat - 1 - t.now.length = K := ⟨_, rfl⟩
  rw [hK] at HW
  have hKn : (t.now.length : Int) + K = t.col - 1 := by omega
  clear hK
  go_enter Try.func50, Try.ntmps50
  go_wp2_with fail
  refine HR.out.mono ?_
  rintro e w1 ⟨rfl, hp1⟩
  have HP1 := Aside0.mk hp1
  clear hp1 HR
  go_wp2_with fail
  go_loopw [] (fun wr => ∃ (j : Nat) (u : Pg), j ≤ K ∧ Aside0 (u = { t with now := t.now ++ List.replicate j 32 }) ∧ Aside0 (PgAt F w0 wr p u)) (fun wr => 1000 - nowLen wr p)
  case atStart => exact ⟨0, t, Nat.zero_le _, ⟨by simp⟩, HP1⟩
  case round =>
    clear HP1
    obtain ⟨j, u, hj, HU, HP⟩ := hrel
    have HU1 := Aside0.mk (show u.col = t.col by rw [HU.out])
    have HU2 := Aside0.mk (show u.now.length = t.now.length + j by rw [HU.out]; simp)
    have hnl := HP.out.nowLen
    obtain ⟨tv, g, A, c0, HH⟩ := HP.out.open_
    have HNL := Aside0.mk hnl
    clear hnl
    have hw1 : wrap64 (u.col - 1) = u.col - 1 := by have := HU1.out; unfold wrap64; omega
    have hw2 : wrap64 (u.col + 1) = u.col + 1 := by have := HU1.out; unfold wrap64; omega
    have hn6 : u.now.length ≤ 1000000 := by have := HU2.out; omega
    have k1 := (blk_cell HH.out 1).trans rfl
    have k7 := (blk_cell HH.out 7).trans rfl
    go_wp2_with fail
    go_quiet (fail)
    have HPd := Aside0.mk (HP.out.drewN nq)
    have HHd := Aside0.mk (blk_drewN HH.out nq)
    clear k1 k7
    generalize wr.drewN nq = wd at HPd HHd ⊢
    have k1 := (blk_cell HHd.out 1).trans rfl
    have k7 := (blk_cell HHd.out 7).trans rfl
    by_cases hlt : j < K
    · have q1 : (u.now.length : Int) < u.col - 1 := by have := HU1.out; have := HU2.out; omega
      have d1 : decide ((u.now.length : Int) < u.col - 1) = true := decide_eq_true q1
      go_wp2_with ((with_reducible refine gate_dst (N := 25) rfl ?_); refine wl_append5 32 HPd.out rfl rfl HHd.out rfl rfl rfl hn6 ?_; intro g2 cap w2 hp2 hpg; have HG := Aside0.mk hpg; have l7 := (blk_cell (hp2.trans HHd.out) 7).trans rfl; have m7 := blk_frozen (hp2.trans HHd.out) 7; clear hp2 hpg k1 k7)
      have hnl2 := HG.out.nowLen
      refine ⟨⟨j + 1, { u with now := u.now ++ [32] }, by omega, ⟨by rw [HU.out]; exact pad_more t j⟩, HG⟩, ?_⟩
      have := HU2.out
      rw [hnl2, HNL.out]
      simp
      omega
    · obtain rfl : j = K := by omega
      have q1 : ¬ (u.now.length : Int) < u.col - 1 := by have := HU1.out; have := HU2.out; omega
      have d1 : decide ((u.now.length : Int) < u.col - 1) = false := decide_eq_false q1
      have q3 : (u.now.length : Int) ≤ u.col - 1 := by have := HU1.out; have := HU2.out; omega
      have d2 : decide (u.col - 1 = (u.now.length : Int)) = true := decide_eq_true (by have := HU1.out; have := HU2.out; omega)
      go_wp2_with ((with_reducible refine gate_dst (N := 49) rfl ?_); refine wl_append5 c HPd.out rfl rfl HHd.out rfl rfl rfl hn6 ?_; intro g2 cap w2 hp2 hpg; have HG := Aside0.mk ((hpg.setPut true).setCol (u.col + 1)); have l1 := (blk_cell (hp2.trans HHd.out) 1).trans rfl; have l7 := (blk_cell (hp2.trans HHd.out) 7).trans rfl; have l8 := (blk_cell (hp2.trans HHd.out) 8).trans rfl; have m1 := blk_frozen (hp2.trans HHd.out) 1; have m7 := blk_frozen (hp2.trans HHd.out) 7; have m8 := blk_frozen (hp2.trans HHd.out) 8; clear hp2 hpg k1 k7)
      go_end0
      refine ⟨rfl, ?_⟩
      have e : out = { ({ ({ u with now := u.now ++ [c] } : Pg) with put := true } : Pg) with col := u.col + 1 } := by rw [HW.out, HU.out]
      rw [e]
      exact HG.out
def pStrN (s : Pg) (b : ByteArray) (k : Nat) : Pg := (List.range k).foldl (fun u (i : Nat) => pWrite u (bt b (i : Int))) s
def pStr (s : Pg) (b : ByteArray) : Pg := pStrN s b b.size
theorem pStrN_succ (s : Pg) (b : ByteArray) (k : Nat) : pStrN s b (k + 1) = pWrite (pStrN s b k) (bt b (k : Int)) := by
  unfold pStrN
  rw [List.range_succ, List.foldl_append]
  rfl
theorem Ok.strN {m : Nat} {s : Pg} (h : Ok m s) (b : ByteArray) : ∀ k, Ok (m + k) (pStrN s b k)
  | 0 => h
  | k + 1 => by rw [pStrN_succ]; exact (h.strN b k).write _
set_option maxRecDepth 100000 in
set_option maxHeartbeats 4000000 in
theorem text_any (p : Nat) (f : Nat → Pg) (b : ByteArray) (F : Nat → Prop) (w0 w : World) (h : PgAt F w0 w p (f 0)) (hb : b.size ≤ 20000)
    (hW : ∀ (k : Nat) (hk : k < b.size), ∀ W, PgAt F w0 W p (f k) → Calls Try.prog 50 #[.pointer (some ⟨p, 0, none⟩), .int .u8 ((b[k]'hk).toNat : Int)] W fun e w' => e = .returned (.tuple #[]) ∧ PgAt F w0 w' p (f (k + 1))) :
    Calls Try.prog 27 #[.pointer (some ⟨p, 0, none⟩), .string b] w fun e w' => e = .returned (.tuple #[]) ∧ PgAt F w0 w' p (f b.size) := by
  have HW := Aside0.mk hW
  have H0 := Aside0.mk h
  clear h hW
  go_enter Try.func27, Try.ntmps27
  go_wp2_with fail
  go_loopw [4, 7] (fun _ v wr => ∃ k : Nat, k ≤ b.size ∧ v = .int .i64 (k : Int) ∧ Aside0 (PgAt F w0 wr p (f k))) (fun _ v _ => b.size - (intOf v).toNat)
  case atStart => exact ⟨0, Nat.zero_le _, rfl, H0⟩
  case round =>
    clear H0
    obtain ⟨k, hk, rfl, HP⟩ := hrel
    have hwk : wrap64 ((k : Int) + 1) = ((k + 1 : Nat) : Int) := by unfold wrap64; omega
    have h0 : (0 : Int) ≤ (k : Int) := by omega
    by_cases hlt : k < b.size
    · have q1 : (k : Int) < (b.size : Int) := by omega
      have d1 : decide ((k : Int) < (b.size : Int)) = true := decide_eq_true q1
      go_wp2_with fail
      refine (HW.out k hlt wr HP.out).mono ?_
      rintro e w1 ⟨rfl, h1⟩
      have H1 := Aside0.mk h1
      clear h1
      go_wp2_with fail
      exact ⟨⟨k + 1, hlt, rfl, H1⟩, by simp [intOf]; omega⟩
    · obtain rfl : k = b.size := by omega
      have q1 : ¬ (b.size : Int) < (b.size : Int) := by omega
      go_wp2_with fail
      go_end0
      exact ⟨rfl, HP.out⟩
theorem text_is (p : Nat) (s : Pg) (b : ByteArray) (F : Nat → Prop) (w0 w : World) (m : Nat) (h : PgAt F w0 w p s) (ho : Ok m s) (hm : m ≤ 60000) (hb : b.size ≤ 20000) : Calls Try.prog 27 #[.pointer (some ⟨p, 0, none⟩), .string b] w fun e w' => e = .returned (.tuple #[]) ∧ PgAt F w0 w' p (pStr s b) :=
  text_any p (pStrN s b) b F w0 w h hb (fun k hk W hW => by rw [pStrN_succ, show ((b[k]'hk).toNat : Int) = bt b (k : Int) from bt_at b (k : Int) (by simpa using hk)]; exact write_is p (pStrN s b k) (bt b (k : Int)) F w0 W (m + k) hW (ho.strN b k) (by omega))
end Go.Proofs.Ytjamaccblokfkaa.P

-- from the text A34
namespace Go.Proofs.Ytjamaccblokfkaa.P
open Go.RowKit Go.Proofs.YtjamaccblokfkaaW.PrintWords Go.Proofs.YtjamaccblokfkaaW.PrintLast Go.Proofs.YtjamaccblokfkaaW.PrintMore
attribute [local go_sem] max2_int min2_int max_two min_two max_three min_three max_four min_four   -- for this text's walks alone
set_option linter.unusedVariables false
set_option linter.unusedSimpArgs false
def page_clean.l0 : Nat → ByteArray → Int → Int → Option (Bool)
  | 0, _, _, _ => none
  | k + 1, x0, x5, x6 => if x6 < x5 then (if 0 ≤ x6 then (if x6 < (x0.size : Int) then (if (bt x0 x6) < 32 then (some false) else (if (bt x0 x6) > 126 then (some false) else (page_clean.l0 k x0 x5 (wrap64 (x6 + 1))))) else (none)) else (none)) else (some true)
def page_clean.f (k : Nat) (a0 : ByteArray) : Option (Bool) := page_clean.l0 k a0 (a0.size : Int) 0
set_option maxHeartbeats 8000000 in
set_option maxRecDepth 100000 in
theorem page_clean.calls (k : Nat) (a0 : ByteArray) (r : Bool) (w : World) (h : page_clean.f k a0 = some r) :
    Calls Try.prog 34 #[.string a0] w fun e w' => e = .returned (.bool r) ∧ Drawn0 w w' := by
  have H : (page_clean.l0 k a0 (a0.size : Int) 0) = some r := h
  clear h
  have H' := Aside0.mk H
  clear H
  go_enter Try.func34, Try.ntmps34
  go_wp2
  go_loopg [6] k (fun kq v6 w' => ∃ (x6_1 : Int), v6 = .int .i64 x6_1 ∧ Aside0 (page_clean.l0 kq a0 (a0.size : Int) x6_1 = some r) ∧ Aside0 (kq ≤ k) ∧ Drawn0 w w')
  case atStart => exact ⟨(0), (by first | rfl | (simp; done) | (generalize ByteArray.toList _ = l_; cases l_ <;> rfl) | (simp [*]; done)), H', ⟨Nat.le_refl _⟩, by repeat (first | exact Drawn0.refl _ | apply Drawn0.step)⟩
  case round =>
    clear H'
    obtain ⟨x6_1, rfl, HA, HK1, ⟨m1, rfl⟩⟩ := hrel
    cases gk with
    | zero => exact absurd HA.out (by simp [page_clean.l0])
    | succ k1 =>
      have H := HA.out
      clear HA
      simp only [page_clean.l0] at H
      by_cases c2 : x6_1 < (a0.size : Int)
      · rw [if_pos c2] at H
        have c2b0 : decide (x6_1 < (a0.size : Int)) = true := decide_eq_true c2
        clear c2
        by_cases c3 : 0 ≤ x6_1
        · rw [if_pos c3] at H
          have c3b0 : decide (0 ≤ x6_1) = true := decide_eq_true c3
          clear c3
          by_cases c4 : x6_1 < (a0.size : Int)
          · rw [if_pos c4] at H
            have c4b0 : decide (x6_1 < (a0.size : Int)) = true := decide_eq_true c4
            clear c4
            by_cases c6 : (bt a0 x6_1) < 32
            · rw [if_pos c6] at H
              have c6b0 : decide ((bt a0 x6_1) < 32) = true := decide_eq_true c6
              clear c6
              obtain rfl := Option.some.inj H
              have p5 : 0 ≤ (x6_1 : Int) := of_decide_eq_true (by first | (with_reducible assumption) | assumption)
              have q5 : x6_1 < (a0.size : Int) := of_decide_eq_true (by first | (with_reducible assumption) | assumption)
              have hx5 := bt_at a0 x6_1
              replace p5 := eq_true p5
              replace q5 := eq_true q5
              go_wp2
              go_ret
              exact ⟨by first | rfl | (simp; done) | (simp [*]; done), by repeat (first | exact Drawn0.refl _ | apply Drawn0.step)⟩
            · rw [if_neg c6] at H
              have c6b0 : decide ((bt a0 x6_1) < 32) = false := decide_eq_false c6
              clear c6
              by_cases c8 : (bt a0 x6_1) > 126
              · rw [if_pos c8] at H
                have c8b0 : decide (126 < (bt a0 x6_1)) = true := decide_eq_true c8
                clear c8
                obtain rfl := Option.some.inj H
                have p5 : 0 ≤ (x6_1 : Int) := of_decide_eq_true (by first | (with_reducible assumption) | assumption)
                have q5 : x6_1 < (a0.size : Int) := of_decide_eq_true (by first | (with_reducible assumption) | assumption)
                have hx5 := bt_at a0 x6_1
                replace p5 := eq_true p5
                replace q5 := eq_true q5
                have p7 : 0 ≤ (x6_1 : Int) := of_decide_eq_true (by first | (with_reducible assumption) | assumption)
                have q7 : x6_1 < (a0.size : Int) := of_decide_eq_true (by first | (with_reducible assumption) | assumption)
                have hx7 := bt_at a0 x6_1
                replace p7 := eq_true p7
                replace q7 := eq_true q7
                go_wp2
                go_ret
                exact ⟨by first | rfl | (simp; done) | (simp [*]; done), by repeat (first | exact Drawn0.refl _ | apply Drawn0.step)⟩
              · rw [if_neg c8] at H
                have c8b0 : decide (126 < (bt a0 x6_1)) = false := decide_eq_false c8
                clear c8
                have H' := Aside0.mk H
                clear H
                have p5 : 0 ≤ (x6_1 : Int) := of_decide_eq_true (by first | (with_reducible assumption) | assumption)
                have q5 : x6_1 < (a0.size : Int) := of_decide_eq_true (by first | (with_reducible assumption) | assumption)
                have hx5 := bt_at a0 x6_1
                replace p5 := eq_true p5
                replace q5 := eq_true q5
                have p7 : 0 ≤ (x6_1 : Int) := of_decide_eq_true (by first | (with_reducible assumption) | assumption)
                have q7 : x6_1 < (a0.size : Int) := of_decide_eq_true (by first | (with_reducible assumption) | assumption)
                have hx7 := bt_at a0 x6_1
                replace p7 := eq_true p7
                replace q7 := eq_true q7
                go_wp2
                go_roundg k1
                case measure => have := HK1.out; omega
                case rel => exact ⟨(wrap64 (x6_1 + 1)), (by first | rfl | (simp; done) | (generalize ByteArray.toList _ = l_; cases l_ <;> rfl) | (simp [*]; done)), H', ⟨by have := HK1.out; omega⟩, by repeat (first | exact Drawn0.refl _ | apply Drawn0.step)⟩
          · rw [if_neg c4] at H
            exact absurd H (by simp)
        · rw [if_neg c3] at H
          exact absurd H (by simp)
      · rw [if_neg c2] at H
        have c2b0 : decide (x6_1 < (a0.size : Int)) = false := decide_eq_false c2
        clear c2
        obtain rfl := Option.some.inj H
        go_wp2
        go_ret
        exact ⟨by first | rfl | (simp; done) | (simp [*]; done), by repeat (first | exact Drawn0.refl _ | apply Drawn0.step)⟩
/-- THE ONE PURE STATEMENT of page_clean: yours. -/
def page_clean.Pure : Prop := ∀ (a0 : ByteArray), a0.size ≤ 140737488351232 → ∃ k, page_clean.f k a0 = some true
theorem page_clean.walk (P : page_clean.Pure) (a0 : ByteArray) (w : World) (w0 : a0.size ≤ 140737488351232) :
    Calls Try.prog 34 #[.string a0] w fun e w' => e = .returned (.bool true) ∧ Below w.heap.size w w' := by
  obtain ⟨k, h⟩ := P a0 w0
  refine (page_clean.calls k a0 true w h).mono ?_
  rintro e w' ⟨rfl, hd⟩
  exact ⟨rfl, hd.below⟩
end Go.Proofs.Ytjamaccblokfkaa.P

-- from the text A22
namespace Go.Proofs.Ytjamaccblokfkaa.P
open Go.RowKit Go.Proofs.YtjamaccblokfkaaW.PrintWords Go.Proofs.YtjamaccblokfkaaW.PrintLast Go.Proofs.YtjamaccblokfkaaW.PrintMore
attribute [local go_sem] max2_int min2_int max_two min_two max_three min_three max_four min_four   -- for this text's walks alone
set_option linter.unusedVariables false
set_option linter.unusedSimpArgs false
def page_within.f (a0 : Int) (a1 : Int) (a2 : Int) : Option (Bool) := if a0 ≥ a1 then (some (decide (a0 ≤ a2))) else (some false)
set_option maxHeartbeats 8000000 in
set_option maxRecDepth 100000 in
theorem page_within.calls (a0 : Int) (a1 : Int) (a2 : Int) (r : Bool) (w : World) (h : page_within.f a0 a1 a2 = some r) :
    Calls Try.prog 22 #[.int .i64 a0, .int .i64 a1, .int .i64 a2] w fun e w' => e = .returned (.bool r) ∧ Drawn0 w w' := by
  have H : (if a0 ≥ a1 then (some (decide (a0 ≤ a2))) else (some false)) = some r := h
  clear h
  by_cases c4 : a0 ≥ a1
  · rw [if_pos c4] at H
    have c4b0 : decide (a1 ≤ a0) = true := decide_eq_true c4
    clear c4
    obtain rfl := Option.some.inj H
    go_enter Try.func22, Try.ntmps22
    go_wp2
    go_ret
    exact ⟨by first | rfl | (simp; done) | (simp [*]; done), by repeat (first | exact Drawn0.refl _ | apply Drawn0.step)⟩
  · rw [if_neg c4] at H
    have c4b0 : decide (a1 ≤ a0) = false := decide_eq_false c4
    clear c4
    obtain rfl := Option.some.inj H
    go_enter Try.func22, Try.ntmps22
    go_wp2
    go_ret
    exact ⟨by first | rfl | (simp; done) | (simp [*]; done), by repeat (first | exact Drawn0.refl _ | apply Drawn0.step)⟩
/-- THE ONE PURE STATEMENT of page_within: yours. -/
def page_within.Pure : Prop := ∀ (a0 : Int) (a1 : Int) (a2 : Int), (Lit.int .i64 a0).wf = true → (Lit.int .i64 a1).wf = true → (Lit.int .i64 a2).wf = true → page_within.f a0 a1 a2 = some true
theorem page_within.walk (P : page_within.Pure) (a0 : Int) (a1 : Int) (a2 : Int) (w : World) (w0 : (Lit.int .i64 a0).wf = true) (w1 : (Lit.int .i64 a1).wf = true) (w2 : (Lit.int .i64 a2).wf = true) :
    Calls Try.prog 22 #[.int .i64 a0, .int .i64 a1, .int .i64 a2] w fun e w' => e = .returned (.bool true) ∧ Below w.heap.size w w' := by
  have h := P a0 a1 a2 w0 w1 w2
  refine (page_within.calls a0 a1 a2 true w h).mono ?_
  rintro e w' ⟨rfl, hd⟩
  exact ⟨rfl, hd.below⟩
end Go.Proofs.Ytjamaccblokfkaa.P

-- from the text Hd
namespace Go.Proofs.Ytjamaccblokfkaa.P
open Go.RowKit Go.Proofs.YtjamaccblokfkaaW.PrintWords Go.Proofs.YtjamaccblokfkaaW.PrintLast Go.Proofs.YtjamaccblokfkaaW.PrintMore
set_option linter.unusedVariables false
set_option linter.unusedSimpArgs false
theorem PgM.same {w : World} {p g g' : Nat} {rv rv' tv tv' nv nv' : Value} {s s' : Pg} (h : PgM w p g rv tv nv s) (h' : PgM w p g' rv' tv' nv' s') : g = g' ∧ rv = rv' ∧ tv = tv' ∧ nv = nv' := by
  have e := h.head.symm.trans h'.head
  simp only [Option.some.injEq, Obj.cells.injEq, and_true] at e
  have e2 := congrArg Array.toList e
  simp at e2
  obtain ⟨-, -, -, -, rfl, rfl, -, rfl, -⟩ := e2
  have e3 := h.pages.symm.trans h'.pages
  simp at e3
  exact ⟨rfl, e3, rfl, rfl⟩
/-- A block that is not the print file's. -/
def Free (w : World) (p b : Nat) : Prop := b < w.heap.size ∧ ∀ g rv tv nv s, PgM w p g rv tv nv s → ¬ foot p g rv tv nv b
theorem PgM.back {w w' : World} {p g g' : Nat} {rv rv' tv tv' nv nv' : Value} {s s' : Pg} (h : PgM w p g rv tv nv s) (hb : Below w.heap.size w w') (h' : PgM w' p g' rv' tv' nv' s') : g = g' ∧ rv = rv' ∧ tv = tv' ∧ nv = nv' :=
  (h.kept (fun k hk => hb.block k (h.foot_lt hk))).same h'
theorem Free.below {w w' : World} {p b : Nat} {F : Nat → Prop} {w0 : World} {s : Pg} (h : Free w p b) (hp : PgAt F w0 w p s) (hb : Below w.heap.size w w') : Free w' p b := by
  obtain ⟨⟨g, rv, tv, nv, hM, hF⟩, hT⟩ := hp
  refine ⟨Nat.lt_of_lt_of_le h.1 hb.size, fun g' rv' tv' nv' s' h' hf => ?_⟩
  obtain ⟨rfl, rfl, rfl, rfl⟩ := hM.back hb h'
  exact h.2 _ _ _ _ _ hM hf
theorem Free.new {w w' : World} {p b : Nat} {F : Nat → Prop} {w0 : World} {s : Pg} (hp : PgAt F w0 w p s) (hb : Below w.heap.size w w') (h1 : w.heap.size ≤ b) (h2 : b < w'.heap.size) : Free w' p b := by
  obtain ⟨⟨g, rv, tv, nv, hM, hF⟩, hT⟩ := hp
  refine ⟨h2, fun g' rv' tv' nv' s' h' hf => ?_⟩
  obtain ⟨rfl, rfl, rfl, rfl⟩ := hM.back hb h'
  have := hM.foot_lt hf
  omega
/-- A call sees the print file's own blocks alone. -/
theorem PgAt.enter {F : Nat → Prop} {w0 w : World} {p : Nat} {s : Pg} (h : PgAt F w0 w p s) : ∃ F1 : Nat → Prop, PgAt F1 w w p s ∧ (∀ b, Free w p b → ¬ F1 b) ∧ ∀ w' s', PgAt F1 w w' p s' → PgAt F w0 w' p s' := by
  obtain ⟨⟨g, rv, tv, nv, hM, hF⟩, hT⟩ := h
  refine ⟨foot p g rv tv nv, ⟨⟨g, rv, tv, nv, hM, fun k hk => .inl hk⟩, Turn.refl _ _⟩, fun b hb => hb.2 _ _ _ _ _ hM, ?_⟩
  rintro w' s' ⟨⟨g', rv', tv', nv', hM', hF'⟩, hT'⟩
  refine ⟨⟨g', rv', tv', nv', hM', fun k hk => ?_⟩, ⟨hT'.os.trans hT.os, hT'.tape.trans hT.tape, hT'.output.trans hT.output, Nat.le_trans hT.size hT'.size, fun k hk hn => ?_⟩⟩
  · rcases hF' k hk with h | h
    · exact hF k h
    · exact .inr (Nat.le_trans hT.size h)
  · exact (hT'.block k (Nat.lt_of_lt_of_le hk hT.size) (fun e => (hF k e).elim hn (fun e => by omega))).trans (hT.block k hk hn)
theorem PgAt.stays {F : Nat → Prop} {w0 w : World} {p b : Nat} {s : Pg} {o : Obj} (h : PgAt F w0 w p s) (hb : ¬ F b) (ho : w0.heap[b]? = some o) : w.heap[b]? = some o := (h.2.block b (blk_lt' ho) hb).trans ho
theorem own_empty (W : World) (e : TypeId) (size : Nat) : (W.alloc (.cells #[] e (0, 0))).ownsRow W.heap.size e size (.slice (some ⟨W.heap.size, 0, none⟩) 0 0) 0 [] := by
  refine ⟨by simp, .inr ⟨W.heap.size, 0, #[], rfl, Nat.le_refl _, ?_, Nat.le_refl _, by simp, by simp, by simp⟩⟩
  exact blk_new W (.cells #[] e (0, 0))
theorem nil48 (A : Option Addr) (n c : Nat) (w : World) : (binOp .eql 48 (.slice A n c) (.slice none 0 0)).run Try.prog w = .ok (.bool A.isNone) w := by exact Go.Lib.run_eql_slice_nil (h := Try.underlying48) ..
attribute [local go_sem high] nil48
theorem wl_clone5 {ops : Array Oper} {rest : List Oper} {o : Oper} {a : Act} {Q : Exit → Act → World → Prop} {W : World} {s x : Operand} {v : Value} {base : Nat} (m c : Nat) (ad : Addr) (ys : List Value) (hgd : o.guard = none) (ho : o.op = .call { callee := .builtin .append, args := #[s, x], argTypes := #[48, 48] })
    (hs : a.eval s = v) (hrow : W.ownsRow base 5 1 v 0 []) (hx : a.eval x = .slice (some ad) m c) (hl : ys.length = m) (hnews : ∀ j u, ys[j]? = some u → W.cell? (ad.add j) = some u) (h1 : ∀ x ∈ ys, x.oneCell' = true) (hn : m ≤ 1000000) (hb : base ≤ W.heap.size)
    (h : ∀ v' w', w'.ownsRow base 5 1 v' m ys → W.grownBy w' v.ownBlock → wpList Try.prog ops Q rest (a.put o.dst v') w') : wpList Try.prog ops Q (o :: rest) a W := by
  obtain ⟨i0, hi, hz0, hz1, hz2⟩ := info_parts info5
  refine wpList_append_own W hgd s x 48 ho base 5 i0 _ 1 1 Try.underlying48 hi hz0 hz1 hz2 rfl (by decide) v 0 [] hs hrow ad m c ys hx (by omega) hnews h1 (by simp only [maxLen]; omega) (by omega) hb (fun v' w' h1 h2 _ => h v' w' ?_ h2)
  rw [Nat.zero_add, List.nil_append] at h1
  exact h1
set_option maxRecDepth 100000 in
set_option maxHeartbeats 4000000 in
theorem clone5_is (v : Value) (n : Nat) (ys : List Value) (w : World) (h : w.ownsRow 0 5 1 v n ys) (h1 : ∀ x ∈ ys, x.oneCell' = true) (hl : n ≤ 1000000) :
    Calls Try.prog 47 #[v] w fun e w' => ∃ A c, e = .returned (.slice A n c) ∧ w'.ownsRow w.heap.size 5 1 (.slice A n c) n ys ∧ Below w.heap.size w w' := by
  rcases h.2 with ⟨rfl, h0⟩ | ⟨g, cap, cur, rfl, _⟩
  · subst h0
    obtain rfl : ys = [] := List.eq_nil_of_length_eq_zero (by have := h.1; simpa using this)
    clear h
    go_enter Try.func47, Try.ntmps47
    go_wp2_with fail
    go_ret
    exact ⟨none, 0, rfl, World.ownsRow_nil _ _ _ _, Below.refl _ _⟩
  · have HN := Aside0.mk (fun j u (hj : ys[j]? = some u) => own_cells h _ rfl j u hj)
    have hly : ys.length = n := by have := h.1; omega
    have HO := Aside0.mk (own_empty w 5 1)
    have H1 := Aside0.mk h1
    have HB := Aside0.mk ((Below.refl w.heap.size w).alloc (Nat.le_refl _) (.cells #[] 5 (0, 0)))
    clear h h1
    go_enter Try.func47, Try.ntmps47
    go_wp2_with ((with_reducible refine gate_dst (N := 7) rfl ?_); refine wl_clone5 n cap ⟨g, 0, none⟩ ys rfl rfl rfl HO.out rfl hly (fun j u hj => pw_cell_below HB.out (HN.out j u hj)) H1.out (by omega) (by simp) ?_; intro v' w1 hown hgrow; have HV := Aside0.mk hown; have HB1 := Aside0.mk (HB.out.grown hgrow (by simp) (fun k hk => Nat.le_of_eq (Option.some.inj (show some w.heap.size = some k from hk)))); clear hown hgrow)
    go_ret
    obtain ⟨A, c, rfl⟩ := own_slice HV.out
    exact ⟨A, c, rfl, HV.out, HB1.out⟩
theorem nil22 (A : Option Addr) (n c : Nat) (w : World) : (binOp .eql 22 (.slice A n c) (.slice none 0 0)).run Try.prog w = .ok (.bool A.isNone) w := by exact Go.Lib.run_eql_slice_nil (h := Try.underlying22) ..
attribute [local go_sem high] nil22
theorem wl_clone3 {ops : Array Oper} {rest : List Oper} {o : Oper} {a : Act} {Q : Exit → Act → World → Prop} {W : World} {s x : Operand} {v : Value} {base : Nat} (m c : Nat) (ad : Addr) (ys : List Value) (hgd : o.guard = none) (ho : o.op = .call { callee := .builtin .append, args := #[s, x], argTypes := #[22, 22] })
    (hs : a.eval s = v) (hrow : W.ownsRow base 3 1 v 0 []) (hx : a.eval x = .slice (some ad) m c) (hl : ys.length = m) (hnews : ∀ j u, ys[j]? = some u → W.cell? (ad.add j) = some u) (h1 : ∀ x ∈ ys, x.oneCell' = true) (hn : m ≤ 1000000) (hb : base ≤ W.heap.size)
    (h : ∀ v' w', w'.ownsRow base 3 1 v' m ys → W.grownBy w' v.ownBlock → wpList Try.prog ops Q rest (a.put o.dst v') w') : wpList Try.prog ops Q (o :: rest) a W := by
  obtain ⟨i0, hi, hz0, hz1, hz2⟩ := info_parts info3
  refine wpList_append_own W hgd s x 22 ho base 3 i0 _ 1 8 Try.underlying22 hi hz0 hz1 hz2 rfl (by decide) v 0 [] hs hrow ad m c ys hx (by omega) hnews h1 (by simp only [maxLen]; omega) (by omega) hb (fun v' w' h1 h2 _ => h v' w' ?_ h2)
  rw [Nat.zero_add, List.nil_append] at h1
  exact h1
set_option maxRecDepth 100000 in
set_option maxHeartbeats 4000000 in
theorem clone3_is (v : Value) (n : Nat) (ys : List Value) (w : World) (h : w.ownsRow 0 3 1 v n ys) (h1 : ∀ x ∈ ys, x.oneCell' = true) (hl : n ≤ 1000000) :
    Calls Try.prog 23 #[v] w fun e w' => ∃ A c, e = .returned (.slice A n c) ∧ w'.ownsRow w.heap.size 3 1 (.slice A n c) n ys ∧ Below w.heap.size w w' := by
  rcases h.2 with ⟨rfl, h0⟩ | ⟨g, cap, cur, rfl, _⟩
  · subst h0
    obtain rfl : ys = [] := List.eq_nil_of_length_eq_zero (by have := h.1; simpa using this)
    clear h
    go_enter Try.func23, Try.ntmps23
    go_wp2_with fail
    go_ret
    exact ⟨none, 0, rfl, World.ownsRow_nil _ _ _ _, Below.refl _ _⟩
  · have HN := Aside0.mk (fun j u (hj : ys[j]? = some u) => own_cells h _ rfl j u hj)
    have hly : ys.length = n := by have := h.1; omega
    have HO := Aside0.mk (own_empty w 3 1)
    have H1 := Aside0.mk h1
    have HB := Aside0.mk ((Below.refl w.heap.size w).alloc (Nat.le_refl _) (.cells #[] 3 (0, 0)))
    clear h h1
    go_enter Try.func23, Try.ntmps23
    go_wp2_with ((with_reducible refine gate_dst (N := 7) rfl ?_); refine wl_clone3 n cap ⟨g, 0, none⟩ ys rfl rfl rfl HO.out rfl hly (fun j u hj => pw_cell_below HB.out (HN.out j u hj)) H1.out (by omega) (by simp) ?_; intro v' w1 hown hgrow; have HV := Aside0.mk hown; have HB1 := Aside0.mk (HB.out.grown hgrow (by simp) (fun k hk => Nat.le_of_eq (Option.some.inj (show some w.heap.size = some k from hk)))); clear hown hgrow)
    go_ret
    obtain ⟨A, c, rfl⟩ := own_slice HV.out
    exact ⟨A, c, rfl, HV.out, HB1.out⟩
theorem nil34 (A : Option Addr) (n c : Nat) (w : World) : (binOp .eql 34 (.slice A n c) (.slice none 0 0)).run Try.prog w = .ok (.bool A.isNone) w := by exact Go.Lib.run_eql_slice_nil (h := Try.underlying34) ..
attribute [local go_sem high] nil34
theorem wl_clone9 {ops : Array Oper} {rest : List Oper} {o : Oper} {a : Act} {Q : Exit → Act → World → Prop} {W : World} {s x : Operand} {v : Value} {base : Nat} (m c : Nat) (ad : Addr) (ys : List Value) (hgd : o.guard = none) (ho : o.op = .call { callee := .builtin .append, args := #[s, x], argTypes := #[34, 34] })
    (hs : a.eval s = v) (hrow : W.ownsRow base 9 1 v 0 []) (hx : a.eval x = .slice (some ad) m c) (hl : ys.length = m) (hnews : ∀ j u, ys[j]? = some u → W.cell? (ad.add j) = some u) (h1 : ∀ x ∈ ys, x.oneCell' = true) (hn : m ≤ 1000000) (hb : base ≤ W.heap.size)
    (h : ∀ v' w', w'.ownsRow base 9 1 v' m ys → W.grownBy w' v.ownBlock → wpList Try.prog ops Q rest (a.put o.dst v') w') : wpList Try.prog ops Q (o :: rest) a W := by
  obtain ⟨i0, hi, hz0, hz1, hz2⟩ := info_parts info9
  refine wpList_append_own W hgd s x 34 ho base 9 i0 _ 1 16 Try.underlying34 hi hz0 hz1 hz2 rfl (by decide) v 0 [] hs hrow ad m c ys hx (by omega) hnews h1 (by simp only [maxLen]; omega) (by omega) hb (fun v' w' h1 h2 _ => h v' w' ?_ h2)
  rw [Nat.zero_add, List.nil_append] at h1
  exact h1
set_option maxRecDepth 100000 in
set_option maxHeartbeats 4000000 in
theorem clone9_is (v : Value) (n : Nat) (ys : List Value) (w : World) (h : w.ownsRow 0 9 1 v n ys) (h1 : ∀ x ∈ ys, x.oneCell' = true) (hl : n ≤ 1000000) :
    Calls Try.prog 33 #[v] w fun e w' => ∃ A c, e = .returned (.slice A n c) ∧ w'.ownsRow w.heap.size 9 1 (.slice A n c) n ys ∧ Below w.heap.size w w' := by
  rcases h.2 with ⟨rfl, h0⟩ | ⟨g, cap, cur, rfl, _⟩
  · subst h0
    obtain rfl : ys = [] := List.eq_nil_of_length_eq_zero (by have := h.1; simpa using this)
    clear h
    go_enter Try.func33, Try.ntmps33
    go_wp2_with fail
    go_ret
    exact ⟨none, 0, rfl, World.ownsRow_nil _ _ _ _, Below.refl _ _⟩
  · have HN := Aside0.mk (fun j u (hj : ys[j]? = some u) => own_cells h _ rfl j u hj)
    have hly : ys.length = n := by have := h.1; omega
    have HO := Aside0.mk (own_empty w 9 1)
    have H1 := Aside0.mk h1
    have HB := Aside0.mk ((Below.refl w.heap.size w).alloc (Nat.le_refl _) (.cells #[] 9 (0, 0)))
    clear h h1
    go_enter Try.func33, Try.ntmps33
    go_wp2_with ((with_reducible refine gate_dst (N := 7) rfl ?_); refine wl_clone9 n cap ⟨g, 0, none⟩ ys rfl rfl rfl HO.out rfl hly (fun j u hj => pw_cell_below HB.out (HN.out j u hj)) H1.out (by omega) (by simp) ?_; intro v' w1 hown hgrow; have HV := Aside0.mk hown; have HB1 := Aside0.mk (HB.out.grown hgrow (by simp) (fun k hk => Nat.le_of_eq (Option.some.inj (show some w.heap.size = some k from hk)))); clear hown hgrow)
    go_ret
    obtain ⟨A, c, rfl⟩ := own_slice HV.out
    exact ⟨A, c, rfl, HV.out, HB1.out⟩
def cleanB (b : ByteArray) : Bool := b.data.toList.all fun c => decide (32 ≤ c.toNat) && decide (c.toNat ≤ 126)
theorem clean_l0 (s : ByteArray) (hl : s.size ≤ 9223372036854775807) : ∀ d i : Nat, i + d = s.size →
    Ev (fun k => page_clean.l0 k s (s.size : Int) (i : Int)) ((s.data.toList.drop i).all fun c => decide (32 ≤ c.toNat) && decide (c.toNat ≤ 126)) := by
  intro d
  induction d with
  | zero =>
    intro i hi
    rw [List.drop_of_length_le (by rw [data_length]; omega)]
    exact Ev.step (f := fun _ => some true) (fun k => by simp only [page_clean.l0]; rw [if_neg (by omega)]) (Ev.now _)
  | succ d ih =>
    intro i hi
    have hlt : i < s.data.toList.length := by rw [data_length]; omega
    have hw : wrap64 ((i : Int) + 1) = ((i + 1 : Nat) : Int) := by unfold wrap64; omega
    have hb : bt s (i : Int) = ((s.data.toList[i]'hlt).toNat : Int) := by
      rw [← bt_at s (i : Int) (by rw [data_length] at hlt; simpa using hlt)]
      simp [ByteArray.getElem_eq_getElem_data]
    rw [List.drop_eq_getElem_cons hlt, List.all_cons]
    by_cases h1 : bt s (i : Int) < 32
    · rw [decide_eq_false (by omega)]
      exact Ev.step (f := fun _ => some false) (fun k => by simp only [page_clean.l0]; rw [if_pos (by omega), if_pos (by omega), if_pos (by omega), if_pos h1]) (Ev.now _)
    · by_cases h2 : bt s (i : Int) > 126
      · rw [decide_eq_true (by omega), decide_eq_false (by omega)]
        exact Ev.step (f := fun _ => some false) (fun k => by simp only [page_clean.l0]; rw [if_pos (by omega), if_pos (by omega), if_pos (by omega), if_neg h1, if_pos h2]) (Ev.now _)
      · rw [decide_eq_true (by omega), decide_eq_true (by omega)]
        exact Ev.step (fun k => by simp only [page_clean.l0]; rw [if_pos (by omega), if_pos (by omega), if_pos (by omega), if_neg h1, if_neg h2, hw]) (ih (i + 1) (by omega))
theorem clean_is (s : ByteArray) (w : World) (hl : s.size ≤ 9223372036854775807) : Calls Try.prog 34 #[.string s] w fun e w' => e = .returned (.bool (cleanB s)) ∧ Below w.heap.size w w' := by
  have h := clean_l0 s hl s.size 0 (by omega)
  obtain ⟨k, hk⟩ := h.rounds
  exact (page_clean.calls k s _ w hk).mono fun e w' ⟨he, hd⟩ => ⟨he, hd.below⟩
theorem within_is (n a b : Int) (w : World) : Calls Try.prog 22 #[.int .i64 n, .int .i64 a, .int .i64 b] w fun e w' => e = .returned (.bool (decide (a ≤ n) && decide (n ≤ b))) ∧ Below w.heap.size w w' := by
  refine (page_within.calls n a b _ w ?_).mono fun e w' ⟨he, hd⟩ => ⟨he, hd.below⟩
  unfold page_within.f
  by_cases h : a ≤ n
  · rw [if_pos h, decide_eq_true h]; rfl
  · rw [if_neg h, decide_eq_false h]; rfl
set_option maxRecDepth 100000 in
theorem said_is (p : Nat) (b : ByteArray) (w : World) (hl : b.size ≤ 20000) : Calls Try.prog 24 #[.pointer (some ⟨p, 0, none⟩), .string b] w fun e w' => e = .returned (.int .i64 (if cleanB b = true then 0 else 1)) ∧ Below w.heap.size w w' := by
  have HC := Aside0.mk (fun W => clean_is b W (by omega))
  have q1 : ¬ ((b.size : Int) > 20000) := by omega
  have d1 : decide ((b.size : Int) > 20000) = false := decide_eq_false q1
  cases hc : cleanB b with
  | true =>
    rw [hc] at HC
    go_enter Try.func24, Try.ntmps24
    go_wp2_with fail
    refine (HC.out _).mono ?_
    rintro e w1 ⟨rfl, hb⟩
    have HB := Aside0.mk hb
    clear hb
    go_wp2_with fail
    go_ret
    exact ⟨rfl, HB.out⟩
  | false =>
    rw [hc] at HC
    go_enter Try.func24, Try.ntmps24
    go_wp2_with fail
    refine (HC.out _).mono ?_
    rintro e w1 ⟨rfl, hb⟩
    have HB := Aside0.mk hb
    clear hb
    go_wp2_with fail
    go_ret
    exact ⟨rfl, HB.out⟩
set_option maxRecDepth 100000 in
theorem asked_is (p : Nat) (n a b : Int) (w : World) (h : a ≤ n ∧ n ≤ b) : Calls Try.prog 28 #[.pointer (some ⟨p, 0, none⟩), .int .i64 n, .int .i64 a, .int .i64 b] w fun e w' => e = .returned (.int .i64 0) ∧ Below w.heap.size w w' := by
  have HC := Aside0.mk (fun W => within_is n a b W)
  rw [decide_eq_true h.1, decide_eq_true h.2] at HC
  clear h
  go_enter Try.func28, Try.ntmps28
  go_wp2_with fail
  refine (HC.out _).mono ?_
  rintro e w1 ⟨rfl, hb⟩
  have HB := Aside0.mk hb
  clear hb
  go_wp2_with fail
  go_ret
  exact ⟨rfl, HB.out⟩
end Go.Proofs.Ytjamaccblokfkaa.P

-- from the text Shelf
namespace Go.Proofs
open Go.Shelf
def Try.lays137_ren : Go.Shelf.Ren := ⟨fun | 137 => 53 | 217 => 56 | 266 => 57 | n => n, fun | 9 => 9 | 5 => 5 | 3 => 3 | n => n, fun | n => n⟩
theorem Try.lays137 : Go.Proofs.Lays.n137 Try.prog Try.lays137_ren := {
  mixed := by kernel_rfl
  f137 := Try.func53.trans (congrArg some (by kernel_rfl))
  f217 := Try.func56.trans (congrArg some (by kernel_rfl))
  f266 := Try.func57.trans (congrArg some (by kernel_rfl))
  t3 := Try.underlying3
  a3 := Try.isAgg3
  z3 := Try.sizeOf3
  v3 := Try.zeroValue3
  t5 := Try.underlying5
  a5 := Try.isAgg5
  z5 := Try.sizeOf5
  v5 := Try.zeroValue5
  t9 := Try.underlying9
  a9 := Try.isAgg9
  z9 := Try.sizeOf9
  v9 := Try.zeroValue9 }
open Go.RowKit in
theorem Try.strings_IndexByte (s : ByteArray) (c : Int) (w : World) :
    Calls Try.prog 53 #[.string s, .int .u8 c] w fun e w' => e = .returned (.int .i64 (Lib.indexByte s.data.toList c.toNat.toUInt8)) ∧ w' = w := Any.strings_IndexByte Try.lays137 s c w
end Go.Proofs

-- from the text He
namespace Go.Proofs.Ytjamaccblokfkaa.P
open Go.RowKit Go.Proofs.YtjamaccblokfkaaW.PrintWords Go.Proofs.YtjamaccblokfkaaW.PrintLast Go.Proofs.YtjamaccblokfkaaW.PrintMore
set_option linter.unusedVariables false
set_option linter.unusedSimpArgs false
theorem own_below {w w' : World} {e : TypeId} {v : Value} {n : Nat} {xs : List Value} (h : w.ownsRow 0 e 1 v n xs) (hb : Below w.heap.size w w') : w'.ownsRow 0 e 1 v n xs := ownsRow_kept h (fun k e => hb.block k (h.lt k e).2)
theorem oneCell_nums (l : List Int) : ∀ x ∈ nums .u8 l, x.oneCell' = true := by
  intro x hx
  simp only [nums, List.mem_map] at hx
  obtain ⟨a, _, rfl⟩ := hx
  rfl
set_option maxRecDepth 100000 in
set_option maxHeartbeats 8000000 in
theorem moved_is (p : Nat) (fn : FuncId) (cap : Array Value) (s s' : Pg) (F : Nat → Prop) (w0 w : World) (h : PgAt F w0 w p s) (hent : ∀ w, (callFunc fn cap).run Try.prog w = .ok (.enter fn cap) w)
    (hclo : ∀ F' wb W, Below w.heap.size w W → PgAt F' wb W p s → Calls Try.prog fn cap W fun e W' => e = .returned (.tuple #[]) ∧ PgAt F' wb W' p s') (hL : s'.L.length ≤ 19999) (hm : s.now.length ≤ 1000000) :
    Calls Try.prog 25 #[.pointer (some ⟨p, 0, none⟩), .func (.func fn) #[] cap] w fun e w' => e = .returned (.tuple #[.int .i64 (if (s'.due && !s.due) = true then 1 else 0), .int .i64 0]) ∧ PgAt F w0 w' p s' := by
  obtain ⟨rr, hr⟩ : ∃ r : Int, (if (s'.due && !s.due) = true then 1 else 0) = r := ⟨_, rfl⟩
  rw [hr]
  have HRR := Aside0.mk hr
  clear hr
  have HCLO := Aside0.mk hclo
  have HP := Aside0.mk h
  obtain ⟨⟨g, rv, tv, nv, hM, hF⟩, hT⟩ := h
  obtain ⟨A, c, hrv⟩ := own_slice hM.row
  subst hrv
  obtain ⟨An, cn, hnv⟩ := own_slice hM.now
  subst hnv
  obtain ⟨At, ct, htv⟩ := own_slice hM.tabs
  subst htv
  have HNOW := Aside0.mk hM.now
  have HH := Aside0.mk hM.head
  have HG := Aside0.mk hM.pages
  clear hM hF hT hclo
  obtain ⟨ln, col, sz, rows, tabs, L, now, put, due⟩ := s
  dsimp only at HH HG HNOW HRR hm ⊢
  generalize hn : L.length = n at HH HG
  generalize hnow : now.length = m at HH HNOW hm
  generalize htb : tabs.length = tn at HH
  have hw0 : wrap64 0 = 0 := by simp [wrap64]
  go_enter Try.func25, Try.ntmps25
  go_wp2_with fail
  refine start_ (n := 18) (S := fun W => Below w.heap.size w W) (ds := []) #[false, false, false, false, false, false, false, false, false, false, false, false, false, false, false, false, false, false] (by kernel_rfl) rfl rfl (Below.refl _ _).drew (fun hHeld => ?_)
  generalize w.drew = w1 at hHeld ⊢
  refine pure_ (i := 0) (N := some 8) (v := ?_) (a' := ?_) #[true, false, false, false, false, false, false, false, false, false, false, false, false, false, false, false, false, false] rfl rfl (by kernel_rfl) (fun _ _ _ h => h) (Or.inl ⟨by rfl, ?_⟩) ?_ ?_
  rotate_left
  · intro w_
    go_simp
    with_reducible rfl
  rotate_left
  · simp only [Act.put, List.setIfInBounds_toArray, List.set_cons_zero, List.set_cons_succ, i64_w, i32_w]
    rfl
  refine pure_ (i := 1) (N := some 9) (v := ?_) (a' := ?_) #[true, true, false, false, false, false, false, false, false, false, false, false, false, false, false, false, false, false] rfl rfl (by kernel_rfl) (fun _ _ _ h => h) (Or.inl ⟨by rfl, ?_⟩) ?_ ?_
  rotate_left
  · intro w_
    go_simp
    with_reducible rfl
  rotate_left
  · simp only [Act.put, List.setIfInBounds_toArray, List.set_cons_zero, List.set_cons_succ, i64_w, i32_w]
    rfl
  refine take_ (i := 2) (N := some 10) (v := ?_) (a' := ?_) #[true, true, true, false, false, false, false, false, false, false, false, false, false, false, false, false, false, false] rfl rfl (by kernel_rfl) (fun _ _ _ h => h) (Or.inl ⟨by rfl, ?_⟩) hHeld ?_ ?_
  rotate_left
  · rintro w_ hs_
    have s0 := (blk_cell (blk_below HH.out hs_) 0).trans rfl
    have s1 := (blk_cell (blk_below HH.out hs_) 1).trans rfl
    have s2 := (blk_cell (blk_below HH.out hs_) 2).trans rfl
    have s3 := (blk_cell (blk_below HH.out hs_) 3).trans rfl
    have s4 := (blk_cell (blk_below HH.out hs_) 4).trans rfl
    have s5 := (blk_cell (blk_below HH.out hs_) 5).trans rfl
    have s6 := (blk_cell (blk_below HH.out hs_) 6).trans rfl
    have s7 := (blk_cell (blk_below HH.out hs_) 7).trans rfl
    have s8 := (blk_cell (blk_below HH.out hs_) 8).trans rfl
    have s9 := (blk_cell (blk_below HH.out hs_) 9).trans rfl
    go_simp
    with_reducible rfl
  rotate_left
  · simp only [Act.put, List.setIfInBounds_toArray, List.set_cons_zero, List.set_cons_succ, i64_w, i32_w]
    rfl
  refine pure_ (i := 3) (N := some 11) (v := ?_) (a' := ?_) #[true, true, true, true, false, false, false, false, false, false, false, false, false, false, false, false, false, false] rfl rfl (by kernel_rfl) (fun _ _ _ h => h) (Or.inl ⟨by rfl, ?_⟩) ?_ ?_
  rotate_left
  · intro w_
    go_simp
    with_reducible rfl
  rotate_left
  · simp only [Act.put, List.setIfInBounds_toArray, List.set_cons_zero, List.set_cons_succ, i64_w, i32_w]
    rfl
  refine pure_ (i := 4) (N := some 12) (v := ?_) (a' := ?_) #[true, true, true, true, true, false, false, false, false, false, false, false, false, false, false, false, false, false] rfl rfl (by kernel_rfl) (fun _ _ _ h => h) (Or.inl ⟨by rfl, ?_⟩) ?_ ?_
  rotate_left
  · intro w_
    go_simp
    with_reducible rfl
  rotate_left
  · simp only [Act.put, List.setIfInBounds_toArray, List.set_cons_zero, List.set_cons_succ, i64_w, i32_w]
    rfl
  refine pure_ (i := 5) (N := some 13) (v := ?_) (a' := ?_) #[true, true, true, true, true, true, false, false, false, false, false, false, false, false, false, false, false, false] rfl rfl (by kernel_rfl) (fun _ _ _ h => h) (Or.inl ⟨by rfl, ?_⟩) ?_ ?_
  rotate_left
  · intro w_
    go_simp
    with_reducible rfl
  rotate_left
  · simp only [Act.put, List.setIfInBounds_toArray, List.set_cons_zero, List.set_cons_succ, i64_w, i32_w]
    rfl
  refine take_ (i := 6) (N := some 14) (v := ?_) (a' := ?_) #[true, true, true, true, true, true, true, false, false, false, false, false, false, false, false, false, false, false] rfl rfl (by kernel_rfl) (fun _ _ _ h => h) (Or.inl ⟨by rfl, ?_⟩) hHeld ?_ ?_
  rotate_left
  · rintro w_ hs_
    have s5 := (blk_cell (blk_below HH.out hs_) 5).trans rfl
    go_simp
    with_reducible rfl
  rotate_left
  · simp only [Act.put, List.setIfInBounds_toArray, List.set_cons_zero, List.set_cons_succ, i64_w, i32_w]
    rfl
  refine pure_ (i := 7) (N := some 15) (v := ?_) (a' := ?_) #[true, true, true, true, true, true, true, true, false, false, false, false, false, false, false, false, false, false] rfl rfl (by kernel_rfl) (fun _ _ _ h => h) (Or.inl ⟨by rfl, ?_⟩) ?_ ?_
  rotate_left
  · intro w_
    go_simp
    with_reducible rfl
  rotate_left
  · simp only [Act.put, List.setIfInBounds_toArray, List.set_cons_zero, List.set_cons_succ, i64_w, i32_w]
    rfl
  refine pure_ (i := 8) (N := some 16) (v := ?_) (a' := ?_) #[true, true, true, true, true, true, true, true, true, false, false, false, false, false, false, false, false, false] rfl rfl (by kernel_rfl) (fun _ _ _ h => h) (Or.inl ⟨by rfl, ?_⟩) ?_ ?_
  rotate_left
  · intro w_
    go_simp
    with_reducible rfl
  rotate_left
  · simp only [Act.put, List.setIfInBounds_toArray, List.set_cons_zero, List.set_cons_succ, i64_w, i32_w]
    rfl
  refine pure_ (i := 9) (N := some 17) (v := ?_) (a' := ?_) #[true, true, true, true, true, true, true, true, true, true, false, false, false, false, false, false, false, false] rfl rfl (by kernel_rfl) (fun _ _ _ h => h) (Or.inl ⟨by rfl, ?_⟩) ?_ ?_
  rotate_left
  · intro w_
    go_simp
    with_reducible rfl
  rotate_left
  · simp only [Act.put, List.setIfInBounds_toArray, List.set_cons_zero, List.set_cons_succ, i64_w, i32_w]
    rfl
  refine take_ (i := 10) (N := some 18) (v := ?_) (a' := ?_) #[true, true, true, true, true, true, true, true, true, true, true, false, false, false, false, false, false, false] rfl rfl (by kernel_rfl) (fun _ _ _ h => h) (Or.inl ⟨by rfl, ?_⟩) hHeld ?_ ?_
  rotate_left
  · rintro w_ hs_
    have s5 := (blk_cell (blk_below HH.out hs_) 5).trans rfl
    go_simp
    with_reducible rfl
  rotate_left
  · simp only [Act.put, List.setIfInBounds_toArray, List.set_cons_zero, List.set_cons_succ, i64_w, i32_w]
    rfl
  refine pure_ (i := 11) (N := some 19) (v := ?_) (a' := ?_) #[true, true, true, true, true, true, true, true, true, true, true, true, false, false, false, false, false, false] rfl rfl (by kernel_rfl) (fun _ _ _ h => h) (Or.inl ⟨by rfl, ?_⟩) ?_ ?_
  rotate_left
  · intro w_
    go_simp
    with_reducible rfl
  rotate_left
  · simp only [Act.put, List.setIfInBounds_toArray, List.set_cons_zero, List.set_cons_succ, i64_w, i32_w]
    rfl
  refine pure_ (i := 12) (N := some 20) (v := ?_) (a' := ?_) #[true, true, true, true, true, true, true, true, true, true, true, true, true, false, false, false, false, false] rfl rfl (by kernel_rfl) (fun _ _ _ h => h) (Or.inl ⟨by rfl, ?_⟩) ?_ ?_
  rotate_left
  · intro w_
    go_simp
    with_reducible rfl
  rotate_left
  · simp only [Act.put, List.setIfInBounds_toArray, List.set_cons_zero, List.set_cons_succ, i64_w, i32_w]
    rfl
  refine pure_ (i := 13) (N := some 21) (v := ?_) (a' := ?_) #[true, true, true, true, true, true, true, true, true, true, true, true, true, true, false, false, false, false] rfl rfl (by kernel_rfl) (fun _ _ _ h => h) (Or.inl ⟨by rfl, ?_⟩) ?_ ?_
  rotate_left
  · intro w_
    go_simp
    with_reducible rfl
  rotate_left
  · simp only [Act.put, List.setIfInBounds_toArray, List.set_cons_zero, List.set_cons_succ, i64_w, i32_w]
    rfl
  refine take_ (i := 14) (N := some 22) (v := ?_) (a' := ?_) #[true, true, true, true, true, true, true, true, true, true, true, true, true, true, true, false, false, false] rfl rfl (by kernel_rfl) (fun _ _ _ h => h) (Or.inl ⟨by rfl, ?_⟩) hHeld ?_ ?_
  rotate_left
  · rintro w_ hs_
    have s5 := (blk_cell (blk_below HG.out hs_) 0).trans rfl
    go_simp
    with_reducible rfl
  rotate_left
  · simp only [Act.put, List.setIfInBounds_toArray, List.set_cons_zero, List.set_cons_succ, i64_w, i32_w]
    rfl
  refine one_ (i := 15) (N := some 6) #[true, true, true, true, true, true, true, true, true, true, true, true, true, true, true, true, false, false] rfl rfl (by kernel_rfl) (by decide) (fun K' hK => ?_)
  refine value_ (w1 := w1.alloc (.cells #[.int .i64 0, .int .i64 0, .int .i64 0, .int .i64 0, .slice none 0 0, .slice none 0 0, .int .i64 0, .slice none 0 0, .bool false, .bool false] 50 (0, 0))) (v := .pointer (some ⟨w1.heap.size, 0, none⟩)) (by rfl) rfl ?_ ?_
  · go_simp
  have HN := Aside0.mk (blk_new w1 (.cells #[.int .i64 0, .int .i64 0, .int .i64 0, .int .i64 0, .slice none 0 0, .slice none 0 0, .int .i64 0, .slice none 0 0, .bool false, .bool false] 50 (0, 0)))
  have hb5 := (Below.refl w1.heap.size w1).alloc (Nat.le_refl _) (.cells #[.int .i64 0, .int .i64 0, .int .i64 0, .int .i64 0, .slice none 0 0, .slice none 0 0, .int .i64 0, .slice none 0 0, .bool false, .bool false] 50 (0, 0))
  have hlt0 := hHeld.size
  refine hK.out _ _ (hHeld.trans (hb5.mono hHeld.size)) (fun hHeld => ?_)
  clear hK K' hb5
  generalize w1.alloc (.cells #[.int .i64 0, .int .i64 0, .int .i64 0, .int .i64 0, .slice none 0 0, .slice none 0 0, .int .i64 0, .slice none 0 0, .bool false, .bool false] 50 (0, 0)) = w2 at hHeld HN ⊢
  generalize w1.heap.size = b0 at HN hlt0 ⊢
  refine norm_ (a' := ?_) ?_ ?_
  rotate_left
  · show Act.put _ (some 6) _ = _
    simp only [Act.put, List.setIfInBounds_toArray, List.set_cons_zero, List.set_cons_succ, i64_w, i32_w]
    rfl
  have n0 := HN.out
  have y0 := (blk_cell n0 0).trans rfl
  have z0 := blk_frozen n0 0
  have y1 := (blk_cell n0 1).trans rfl
  have z1 := blk_frozen n0 1
  have y2 := (blk_cell n0 2).trans rfl
  have z2 := blk_frozen n0 2
  have y3 := (blk_cell n0 3).trans rfl
  have z3 := blk_frozen n0 3
  have y4 := (blk_cell n0 4).trans rfl
  have z4 := blk_frozen n0 4
  have y5 := (blk_cell n0 5).trans rfl
  have z5 := blk_frozen n0 5
  have y6 := (blk_cell n0 6).trans rfl
  have z6 := blk_frozen n0 6
  have y7 := (blk_cell n0 7).trans rfl
  have z7 := blk_frozen n0 7
  have y8 := (blk_cell n0 8).trans rfl
  have z8 := blk_frozen n0 8
  have y9 := (blk_cell n0 9).trans rfl
  have z9 := blk_frozen n0 9
  clear n0
  refine one_ (i := 16) (N := none) #[true, true, true, true, true, true, true, true, true, true, true, true, true, true, true, true, true, false] rfl rfl (by kernel_rfl) (by decide) (fun K' hK => ?_)
  refine skip_ (w1 := ?_) (by rfl) rfl ?_ ?_
  rotate_left
  · go_simp
    rfl
  have hb3 := ((((((((((hHeld.setCell (p := ⟨b0, 0, none⟩) hlt0 (.int .i64 ln)).setCell (p := ⟨b0, 1, none⟩) hlt0 (.int .i64 col)).setCell (p := ⟨b0, 2, none⟩) hlt0 (.int .i64 sz)).setCell (p := ⟨b0, 3, none⟩) hlt0 (.int .i64 rows)).setCell (p := ⟨b0, 4, none⟩) hlt0 (.slice At tn ct)).setCell (p := ⟨b0, 5, none⟩) hlt0 (.slice (some ⟨g, 0, none⟩) 1 1)).setCell (p := ⟨b0, 6, none⟩) hlt0 (.int .i64 (n : Int))).setCell (p := ⟨b0, 7, none⟩) hlt0 (.slice An m cn)).setCell (p := ⟨b0, 8, none⟩) hlt0 (.bool put)).setCell (p := ⟨b0, 9, none⟩) hlt0 (.bool due))
  have hq0 : (w2.setCell ⟨b0, 0, none⟩ (.int .i64 ln)).heap[b0]? = some (.cells #[.int .i64 ln, .int .i64 0, .int .i64 0, .int .i64 0, .slice none 0 0, .slice none 0 0, .int .i64 0, .slice none 0 0, .bool false, .bool false] 50 (0, 0)) := blk_put HN.out 0 (.int .i64 ln) rfl
  have hq1 : ((w2.setCell ⟨b0, 0, none⟩ (.int .i64 ln)).setCell ⟨b0, 1, none⟩ (.int .i64 col)).heap[b0]? = some (.cells #[.int .i64 ln, .int .i64 col, .int .i64 0, .int .i64 0, .slice none 0 0, .slice none 0 0, .int .i64 0, .slice none 0 0, .bool false, .bool false] 50 (0, 0)) := blk_put hq0 1 (.int .i64 col) rfl
  have hq2 : (((w2.setCell ⟨b0, 0, none⟩ (.int .i64 ln)).setCell ⟨b0, 1, none⟩ (.int .i64 col)).setCell ⟨b0, 2, none⟩ (.int .i64 sz)).heap[b0]? = some (.cells #[.int .i64 ln, .int .i64 col, .int .i64 sz, .int .i64 0, .slice none 0 0, .slice none 0 0, .int .i64 0, .slice none 0 0, .bool false, .bool false] 50 (0, 0)) := blk_put hq1 2 (.int .i64 sz) rfl
  have hq3 : ((((w2.setCell ⟨b0, 0, none⟩ (.int .i64 ln)).setCell ⟨b0, 1, none⟩ (.int .i64 col)).setCell ⟨b0, 2, none⟩ (.int .i64 sz)).setCell ⟨b0, 3, none⟩ (.int .i64 rows)).heap[b0]? = some (.cells #[.int .i64 ln, .int .i64 col, .int .i64 sz, .int .i64 rows, .slice none 0 0, .slice none 0 0, .int .i64 0, .slice none 0 0, .bool false, .bool false] 50 (0, 0)) := blk_put hq2 3 (.int .i64 rows) rfl
  have hq4 : (((((w2.setCell ⟨b0, 0, none⟩ (.int .i64 ln)).setCell ⟨b0, 1, none⟩ (.int .i64 col)).setCell ⟨b0, 2, none⟩ (.int .i64 sz)).setCell ⟨b0, 3, none⟩ (.int .i64 rows)).setCell ⟨b0, 4, none⟩ (.slice At tn ct)).heap[b0]? = some (.cells #[.int .i64 ln, .int .i64 col, .int .i64 sz, .int .i64 rows, .slice At tn ct, .slice none 0 0, .int .i64 0, .slice none 0 0, .bool false, .bool false] 50 (0, 0)) := blk_put hq3 4 (.slice At tn ct) rfl
  have hq5 : ((((((w2.setCell ⟨b0, 0, none⟩ (.int .i64 ln)).setCell ⟨b0, 1, none⟩ (.int .i64 col)).setCell ⟨b0, 2, none⟩ (.int .i64 sz)).setCell ⟨b0, 3, none⟩ (.int .i64 rows)).setCell ⟨b0, 4, none⟩ (.slice At tn ct)).setCell ⟨b0, 5, none⟩ (.slice (some ⟨g, 0, none⟩) 1 1)).heap[b0]? = some (.cells #[.int .i64 ln, .int .i64 col, .int .i64 sz, .int .i64 rows, .slice At tn ct, .slice (some ⟨g, 0, none⟩) 1 1, .int .i64 0, .slice none 0 0, .bool false, .bool false] 50 (0, 0)) := blk_put hq4 5 (.slice (some ⟨g, 0, none⟩) 1 1) rfl
  have hq6 : (((((((w2.setCell ⟨b0, 0, none⟩ (.int .i64 ln)).setCell ⟨b0, 1, none⟩ (.int .i64 col)).setCell ⟨b0, 2, none⟩ (.int .i64 sz)).setCell ⟨b0, 3, none⟩ (.int .i64 rows)).setCell ⟨b0, 4, none⟩ (.slice At tn ct)).setCell ⟨b0, 5, none⟩ (.slice (some ⟨g, 0, none⟩) 1 1)).setCell ⟨b0, 6, none⟩ (.int .i64 (n : Int))).heap[b0]? = some (.cells #[.int .i64 ln, .int .i64 col, .int .i64 sz, .int .i64 rows, .slice At tn ct, .slice (some ⟨g, 0, none⟩) 1 1, .int .i64 (n : Int), .slice none 0 0, .bool false, .bool false] 50 (0, 0)) := blk_put hq5 6 (.int .i64 (n : Int)) rfl
  have hq7 : ((((((((w2.setCell ⟨b0, 0, none⟩ (.int .i64 ln)).setCell ⟨b0, 1, none⟩ (.int .i64 col)).setCell ⟨b0, 2, none⟩ (.int .i64 sz)).setCell ⟨b0, 3, none⟩ (.int .i64 rows)).setCell ⟨b0, 4, none⟩ (.slice At tn ct)).setCell ⟨b0, 5, none⟩ (.slice (some ⟨g, 0, none⟩) 1 1)).setCell ⟨b0, 6, none⟩ (.int .i64 (n : Int))).setCell ⟨b0, 7, none⟩ (.slice An m cn)).heap[b0]? = some (.cells #[.int .i64 ln, .int .i64 col, .int .i64 sz, .int .i64 rows, .slice At tn ct, .slice (some ⟨g, 0, none⟩) 1 1, .int .i64 (n : Int), .slice An m cn, .bool false, .bool false] 50 (0, 0)) := blk_put hq6 7 (.slice An m cn) rfl
  have hq8 : (((((((((w2.setCell ⟨b0, 0, none⟩ (.int .i64 ln)).setCell ⟨b0, 1, none⟩ (.int .i64 col)).setCell ⟨b0, 2, none⟩ (.int .i64 sz)).setCell ⟨b0, 3, none⟩ (.int .i64 rows)).setCell ⟨b0, 4, none⟩ (.slice At tn ct)).setCell ⟨b0, 5, none⟩ (.slice (some ⟨g, 0, none⟩) 1 1)).setCell ⟨b0, 6, none⟩ (.int .i64 (n : Int))).setCell ⟨b0, 7, none⟩ (.slice An m cn)).setCell ⟨b0, 8, none⟩ (.bool put)).heap[b0]? = some (.cells #[.int .i64 ln, .int .i64 col, .int .i64 sz, .int .i64 rows, .slice At tn ct, .slice (some ⟨g, 0, none⟩) 1 1, .int .i64 (n : Int), .slice An m cn, .bool put, .bool false] 50 (0, 0)) := blk_put hq7 8 (.bool put) rfl
  have ho3 : ((((((((((w2.setCell ⟨b0, 0, none⟩ (.int .i64 ln)).setCell ⟨b0, 1, none⟩ (.int .i64 col)).setCell ⟨b0, 2, none⟩ (.int .i64 sz)).setCell ⟨b0, 3, none⟩ (.int .i64 rows)).setCell ⟨b0, 4, none⟩ (.slice At tn ct)).setCell ⟨b0, 5, none⟩ (.slice (some ⟨g, 0, none⟩) 1 1)).setCell ⟨b0, 6, none⟩ (.int .i64 (n : Int))).setCell ⟨b0, 7, none⟩ (.slice An m cn)).setCell ⟨b0, 8, none⟩ (.bool put)).setCell ⟨b0, 9, none⟩ (.bool due)).heap[b0]? = some (.cells #[.int .i64 ln, .int .i64 col, .int .i64 sz, .int .i64 rows, .slice At tn ct, .slice (some ⟨g, 0, none⟩) 1 1, .int .i64 (n : Int), .slice An m cn, .bool put, .bool due] 50 (0, 0)) := blk_put hq8 9 (.bool due) rfl
  refine hK.out _ _ hb3 (fun hHeld => ?_)
  clear hq0 hq1 hq2 hq3 hq4 hq5 hq6 hq7 hq8
  clear hK K' y0 z0 y1 z1 y2 z2 y3 z3 y4 z4 y5 z5 y6 z6 y7 z7 y8 z8 y9 z9 HN
  generalize ((((((((((w2.setCell ⟨b0, 0, none⟩ (.int .i64 ln)).setCell ⟨b0, 1, none⟩ (.int .i64 col)).setCell ⟨b0, 2, none⟩ (.int .i64 sz)).setCell ⟨b0, 3, none⟩ (.int .i64 rows)).setCell ⟨b0, 4, none⟩ (.slice At tn ct)).setCell ⟨b0, 5, none⟩ (.slice (some ⟨g, 0, none⟩) 1 1)).setCell ⟨b0, 6, none⟩ (.int .i64 (n : Int))).setCell ⟨b0, 7, none⟩ (.slice An m cn)).setCell ⟨b0, 8, none⟩ (.bool put)).setCell ⟨b0, 9, none⟩ (.bool due)) = w3 at hHeld hb3 ho3 ⊢
  refine pure_ (i := 17) (N := some 7) (v := ?_) (a' := ?_) #[true, true, true, true, true, true, true, true, true, true, true, true, true, true, true, true, true, true] rfl rfl (by kernel_rfl) (fun _ _ _ h => h) (Or.inl ⟨by rfl, ?_⟩) ?_ ?_
  rotate_left
  · intro w_
    go_simp
    with_reducible rfl
  rotate_left
  · simp only [Act.put, List.setIfInBounds_toArray, List.set_cons_zero, List.set_cons_succ, i64_w, i32_w]
    rfl
  refine done_ (by kernel_rfl) ?_
  have HB3 := Aside0.mk hb3
  have HO3 := Aside0.mk ho3
  have HLT := Aside0.mk hlt0
  clear hHeld hb3 ho3 hlt0
  have k7 := (blk_cell (blk_below HH.out HB3.out) 7).trans rfl
  go_wp2_with fail
  refine (clone5_is (.slice An m cn) m (nums .u8 now) w3 (own_below HNOW.out HB3.out) (oneCell_nums now) hm).mono ?_
  rintro e w4 ⟨A4, c4, rfl, hown, hb⟩
  clear hown k7
  have HB4 := Aside0.mk (HB3.out.trans (hb.mono HB3.out.size))
  have ho4 := blk_below HO3.out hb
  have y7 := (blk_cell ho4 7).trans rfl
  have z7 := blk_frozen ho4 7
  have HO4 := Aside0.mk ho4
  clear hb ho4 HB3 HO3
  go_wp2_with fail
  have HO5 := Aside0.mk (show (w4.setCell ⟨b0, 7, none⟩ (.slice A4 m c4)).heap[b0]? = some (.cells #[.int .i64 ln, .int .i64 col, .int .i64 sz, .int .i64 rows, (.slice At tn ct), .slice (some ⟨g, 0, none⟩) 1 1, .int .i64 (n : Int), .slice A4 m c4, .bool put, .bool due] 50 (0, 0)) from blk_put HO4.out 7 (.slice A4 m c4) rfl)
  have HB5 := Aside0.mk (HB4.out.setCell (p := ⟨b0, 7, none⟩) HLT.out (.slice A4 m c4))
  clear y7 z7 HO4 HB4
  generalize w4.setCell ⟨b0, 7, none⟩ (.slice A4 m c4) = w5 at HO5 HB5 ⊢
  obtain ⟨F1, hP1, hfree, hback⟩ := (HP.out.step HB5.out).enter
  have HFR := Aside0.mk (hfree b0 (Free.new HP.out HB5.out HLT.out (blk_lt' HO5.out)))
  have HBK := Aside0.mk hback
  clear hfree hback
  refine (HCLO.out F1 w5 w5 HB5.out hP1).mono ?_
  rintro e w6 ⟨rfl, hP6⟩
  have HP6 := Aside0.mk hP6
  have HO6 := Aside0.mk (hP6.stays HFR.out HO5.out)
  clear hP1 hP6 HO5 HB5 HCLO HFR
  go_wp2_with fail
  have htot := total_is p s' F1 w5 w6 HP6.out (by omega)
  have hx : (s'.L.length : Int) + (if s'.put = true then 1 else 0) ≤ 20000 := by split <;> omega
  generalize (s'.L.length : Int) + (if s'.put = true then 1 else 0) = x at htot hx
  refine htot.mono ?_
  rintro e w7 ⟨rfl, hb7⟩
  have HP7 := Aside0.mk (HP6.out.step hb7)
  have HO7 := Aside0.mk (blk_below HO6.out hb7)
  clear htot hb7 HP6 HO6
  obtain ⟨tv7, g7, A7, c7, HH7⟩ := HP7.out.open_
  have q1 : ¬ (x > 20000) := by omega
  have d1 : decide (x > 20000) = false := decide_eq_false q1
  have k5 := (blk_cell HH7.out 5).trans rfl
  have k9 := (blk_cell HH7.out 9).trans rfl
  have o9 := (blk_cell HO7.out 9).trans rfl
  have HFIN := Aside0.mk (HBK.out w7 s' HP7.out)
  clear HH7 HO7 HP7 HBK
  cases hd1 : s'.due <;> cases due
  all_goals (rw [hd1] at k9; go_wp2_with fail; go_ret2; exact ⟨by rw [← HRR.out, hd1]; rfl, HFIN.out⟩)
end Go.Proofs.Ytjamaccblokfkaa.P

-- from the text Hf
namespace Go.Proofs.Ytjamaccblokfkaa.P
open Go.RowKit Go.Proofs.YtjamaccblokfkaaW.PrintWords Go.Proofs.YtjamaccblokfkaaW.PrintLast Go.Proofs.YtjamaccblokfkaaW.PrintMore
set_option linter.unusedVariables false
set_option linter.unusedSimpArgs false
/-- What Item's inner closure reads. -/
theorem tabc_is (p bp : Nat) (t col : Int) (W : World) (hb : W.heap[bp]? = some (.cells #[.pointer (some ⟨p, 0, none⟩)] 24 (0, 0))) (hc : W.cell? ⟨p, 1, none⟩ = some (.int .i64 col)) :
    Calls Try.prog 41 #[.int .i64 t, .pointer (some ⟨bp, 0, none⟩)] W fun e w' => e = .returned (.bool (decide (t ≥ col))) ∧ Below W.heap.size W w' := by
  have c0 := (blk_cell hb 0).trans rfl
  clear hb
  go_enter Try.func41, Try.ntmps41
  go_wp2_with fail
  go_ret
  exact ⟨rfl, Below.refl _ _⟩
set_option maxRecDepth 100000 in
set_option maxHeartbeats 4000000 in
theorem index_is (p bp : Nat) (At : Option Addr) (ct : Nat) (tabs : List Int) (col : Int) (i : Nat) (w : World) (hi : i < tabs.length) (hlt : ∀ j, j < i → tabs.getD j 0 < col) (hge : tabs.getD i 0 ≥ col) (hn : tabs.length ≤ 1000)
    (hown : w.ownsRow 0 3 1 (.slice At tabs.length ct) tabs.length (nums .i64 tabs)) (hb : w.heap[bp]? = some (.cells #[.pointer (some ⟨p, 0, none⟩)] 24 (0, 0))) (hc : w.cell? ⟨p, 1, none⟩ = some (.int .i64 col)) :
    Calls Try.prog 40 #[.slice At tabs.length ct, .func (.func 41) #[] #[.pointer (some ⟨bp, 0, none⟩)]] w fun e w' => e = .returned (.int .i64 (i : Int)) ∧ Below w.heap.size w w' := by
  obtain ⟨ad, hat⟩ : ∃ ad, At = some ad := by
    cases At with
    | none => have := (own_none hown).1; omega
    | some ad => exact ⟨ad, rfl⟩
  subst hat
  have HC := Aside0.mk (fun (k : Nat) (hk : k < tabs.length) W (hW : Below w.heap.size w W) => pw_cell_below hW (own_cells hown ad rfl k (.int .i64 (tabs.getD k 0)) (by simp [nums, hk])))
  have HT := Aside0.mk (fun (t : Int) W (hW : Below w.heap.size w W) => tabc_is p bp t col W (blk_below hb hW) (pw_cell_below hW hc))
  have HL := Aside0.mk hlt
  have HG := Aside0.mk hge
  clear hlt hge hown hb hc
  generalize tabs.length = n at *
  go_enter Try.func40, Try.ntmps40
  go_wp2_with fail
  go_loopw [5, 8] (fun _ v wr => ∃ k : Nat, k ≤ i ∧ v = .int .i64 (k : Int) ∧ Aside0 (Below w.heap.size w wr)) (fun _ v _ => n - (intOf v).toNat)
  case atStart => exact ⟨0, Nat.zero_le _, rfl, ⟨Below.refl _ _⟩⟩
  case round =>
    obtain ⟨k, hk, rfl, HB⟩ := hrel
    have hwk : wrap64 ((k : Int) + 1) = ((k + 1 : Nat) : Int) := by unfold wrap64; omega
    have h0 : (0 : Int) ≤ (k : Int) := by omega
    have q1 : (k : Int) < (n : Int) := by omega
    have d1 : decide ((k : Int) < (n : Int)) = true := decide_eq_true q1
    have hcell := HC.out k (by omega) wr HB.out
    generalize ht : tabs.getD k 0 = t at hcell
    have HT0 := Aside0.mk ht
    clear ht
    go_wp2_with fail
    refine (HT.out t wr HB.out).mono ?_
    rintro e w1 ⟨rfl, hb1⟩
    have HB1 := Aside0.mk (HB.out.trans (hb1.mono HB.out.size))
    clear hb1 hcell
    by_cases hki : k < i
    · have d2 : decide (t ≥ col) = false := decide_eq_false (by have := HL.out k hki; have := HT0.out; omega)
      rw [d2]
      go_wp2_with fail
      exact ⟨⟨k + 1, hki, rfl, HB1⟩, by simp [intOf]; omega⟩
    · obtain rfl : k = i := by omega
      have d2 : decide (t ≥ col) = true := decide_eq_true (by have := HG.out; have := HT0.out; omega)
      rw [d2]
      go_wp2_with fail
      go_ret
      exact ⟨rfl, HB1.out⟩
def pSkip (s : Pg) : Nat → Pg
  | 0 => s
  | k + 1 => pEnd (pSkip s k)
theorem Ok.skip {m : Nat} {s : Pg} (h : Ok m s) : ∀ k, Ok (m + k) (pSkip s k)
  | 0 => h
  | k + 1 => (h.skip k).end_
set_option maxRecDepth 100000 in
set_option maxHeartbeats 4000000 in
theorem skipc_any (p bp bn : Nat) (f : Nat → Pg) (n : Nat) (F : Nat → Prop) (w0 w : World) (h : PgAt F w0 w p (f 0)) (hn : 1 ≤ n) (hm : n ≤ 1000)
    (hE : ∀ k, k < n → ∀ W, PgAt F w0 W p (f k) → Calls Try.prog 30 #[.pointer (some ⟨p, 0, none⟩)] W fun e w' => e = .returned (.tuple #[]) ∧ PgAt F w0 w' p (f (k + 1)))
    (hbp : ¬ F bp) (hbn : ¬ F bn) (hp : w0.heap[bp]? = some (.cells #[.pointer (some ⟨p, 0, none⟩)] 24 (0, 0))) (hnn : w0.heap[bn]? = some (.cells #[.int .i64 (n : Int)] 3 (0, 0))) :
    Calls Try.prog 29 #[.pointer (some ⟨bn, 0, none⟩), .pointer (some ⟨bp, 0, none⟩)] w fun e w' => e = .returned (.tuple #[]) ∧ PgAt F w0 w' p (f n) := by
  have HBP := Aside0.mk (fun W s (hW : PgAt F w0 W p s) => hW.stays hbp hp)
  have hcn := (blk_cell (h.stays hbn hnn) 0).trans rfl
  have HE := Aside0.mk hE
  have H0 := Aside0.mk h
  have q0 : ¬ ((n : Int) = 0) := by omega
  have d0 : decide ((n : Int) = 0) = false := decide_eq_false q0
  have e0 : ((n : Int) == 0) = false := by rw [beq_eq_false_iff_ne]; exact q0
  clear h hE hbp hbn hp hnn
  go_enter Try.func29, Try.ntmps29
  go_wp2_with fail
  go_loopw [9] (fun v wr => ∃ k : Nat, k ≤ n ∧ v = .int .i64 (k : Int) ∧ Aside0 (PgAt F w0 wr p (f k))) (fun v _ => n - (intOf v).toNat)
  case atStart => exact ⟨0, Nat.zero_le _, rfl, H0⟩
  case round =>
    clear H0 hcn
    obtain ⟨k, hk, rfl, HP⟩ := hrel
    have hwk : wrap64 ((k : Int) + 1) = ((k + 1 : Nat) : Int) := by unfold wrap64; omega
    have cb := (blk_cell (HBP.out wr _ HP.out) 0).trans rfl
    by_cases hlt : k < n
    · have q1 : (k : Int) < (n : Int) := by omega
      go_wp2_with fail
      refine (HE.out k hlt wr HP.out).mono ?_
      rintro e w1 ⟨rfl, h1⟩
      have H1 := Aside0.mk h1
      clear h1 cb
      go_wp2_with fail
      exact ⟨⟨k + 1, hlt, rfl, H1⟩, by simp [intOf]; omega⟩
    · obtain rfl : k = n := by omega
      have q1 : ¬ (k : Int) < (k : Int) := by omega
      go_wp2_with fail
      go_end0
      exact ⟨rfl, HP.out⟩
theorem skipc_is (p bp bn : Nat) (s : Pg) (n m : Nat) (F : Nat → Prop) (w0 w : World) (h : PgAt F w0 w p s) (ho : Ok m s) (hm : m ≤ 10000) (h1 : 1 ≤ n) (hn : n ≤ 1000) (hbp : Free w p bp) (hbn : Free w p bn)
    (hp : w.heap[bp]? = some (.cells #[.pointer (some ⟨p, 0, none⟩)] 24 (0, 0))) (hnn : w.heap[bn]? = some (.cells #[.int .i64 (n : Int)] 3 (0, 0))) :
    Calls Try.prog 29 #[.pointer (some ⟨bn, 0, none⟩), .pointer (some ⟨bp, 0, none⟩)] w fun e w' => e = .returned (.tuple #[]) ∧ PgAt F w0 w' p (pSkip s n) := by
  obtain ⟨F1, hP1, hfree, hback⟩ := h.enter
  refine (skipc_any p bp bn (pSkip s) n F1 w w hP1 h1 hn (fun k hk W hW => ?_) (hfree bp hbp) (hfree bn hbn) hp hnn).mono fun e w' ⟨he, h'⟩ => ⟨he, hback _ _ h'⟩
  have hk' := ho.skip k
  have a1 := hk'.L
  have a2 := hk'.ln
  have a3 := hk'.rows
  exact end_is p (pSkip s k) F1 w W hW (by omega) ⟨by omega, by omega⟩ ⟨by omega, by omega⟩
theorem enter29 (cap : Array Value) (h : cap.size = 2) (w : World) : (callFunc 29 cap).run Try.prog w = .ok (.enter 29 cap) w :=
  enters_ (P := Try.prog) Try.func29 (by kernel_rfl) rfl cap w
set_option maxRecDepth 100000 in
set_option maxHeartbeats 4000000 in
theorem skip_is (p : Nat) (s : Pg) (n m : Nat) (F : Nat → Prop) (w0 w : World) (h : PgAt F w0 w p s) (ho : Ok m s) (hm : m ≤ 10000) (h1 : 1 ≤ n) (hn : n ≤ 200) :
    Calls Try.prog 9 #[.pointer (some ⟨p, 0, none⟩), .int .i64 (n : Int)] w fun e w' => e = .returned (.tuple #[.int .i64 (if ((pSkip s n).due && !s.due) = true then 1 else 0), .int .i64 0]) ∧ PgAt F w0 w' p (pSkip s n) := by
  have hob := ho.skip n
  have hB := ((Below.refl w.heap.size w).alloc (Nat.le_refl _) (.cells #[.pointer (some ⟨p, 0, none⟩)] 24 (0, 0))).alloc (by simp) (.cells #[.int .i64 (n : Int)] 3 (0, 0))
  have hbp := blk_alloc (blk_new w (.cells #[.pointer (some ⟨p, 0, none⟩)] 24 (0, 0))) (.cells #[.int .i64 (n : Int)] 3 (0, 0))
  have hbn := blk_new (w.alloc (.cells #[.pointer (some ⟨p, 0, none⟩)] 24 (0, 0))) (.cells #[.int .i64 (n : Int)] 3 (0, 0))
  rw [World.size_alloc] at hbn
  have HB := Aside0.mk hB
  have HBP := Aside0.mk hbp
  have HBN := Aside0.mk hbn
  have HP := Aside0.mk h
  have HA := Aside0.mk (fun W => asked_is p (n : Int) 0 200 W ⟨by omega, by omega⟩)
  have HMV := Aside0.mk (fun W (hb : Below ((w.alloc (.cells #[.pointer (some ⟨p, 0, none⟩)] 24 (0, 0))).alloc (.cells #[.int .i64 (n : Int)] 3 (0, 0))).heap.size ((w.alloc (.cells #[.pointer (some ⟨p, 0, none⟩)] 24 (0, 0))).alloc (.cells #[.int .i64 (n : Int)] 3 (0, 0))) W) =>
    moved_is p 29 #[.pointer (some ⟨w.heap.size + 1, 0, none⟩), .pointer (some ⟨w.heap.size, 0, none⟩)] s (pSkip s n) F w0 W ((h.step hB).step hb) (fun W => enter29 _ rfl W)
      (fun F' wb W' hW' hP' => by
        have hall := (hB.trans (hb.mono hB.size)).trans (hW'.mono (Nat.le_trans hB.size hb.size))
        have hp1 := blk_below (blk_below hbp hb) hW'
        have hn1 := blk_below (blk_below hbn hb) hW'
        exact skipc_is p w.heap.size (w.heap.size + 1) s n m F' wb W' hP' ho hm h1 (by omega) (Free.new h hall (Nat.le_refl _) (blk_lt' hp1)) (Free.new h hall (by omega) (blk_lt' hn1)) hp1 hn1)
      (by have := hob.L; omega) (by have := ho.now; have := ho.col; have := ho.sz; omega))
  clear h hB hbp hbn ho hob
  generalize pSkip s n = s' at *
  generalize (if (s'.due && !s.due) = true then (1 : Int) else 0) = rr at *
  go_enter Try.func9, Try.ntmps9
  go_wp2_with fail
  refine (HA.out _).mono ?_
  rintro e w1 ⟨rfl, hb⟩
  have HMW := Aside0.mk (HMV.out w1 hb)
  have cb := (blk_cell (blk_below HBP.out hb) 0).trans rfl
  clear hb HMV HA
  go_wp2_with fail
  refine HMW.out.mono ?_
  rintro e w2 ⟨rfl, h2⟩
  have H2 := Aside0.mk h2
  clear h2 cb
  go_wp2_with fail
  go_ret2
  exact ⟨rfl, H2.out⟩
end Go.Proofs.Ytjamaccblokfkaa.P

-- from the text Hg
namespace Go.Proofs.Ytjamaccblokfkaa.P
open Go.RowKit Go.Proofs.YtjamaccblokfkaaW.PrintWords Go.Proofs.YtjamaccblokfkaaW.PrintLast Go.Proofs.YtjamaccblokfkaaW.PrintMore
set_option linter.unusedVariables false
set_option linter.unusedSimpArgs false
theorem enter39 (cap : Array Value) (h : cap.size = 2) (w : World) : (callFunc 39 cap).run Try.prog w = .ok (.enter 39 cap) w :=
  enters_ (P := Try.prog) Try.func39 (by kernel_rfl) rfl cap w
def pBump (u : Pg) : Pg := if u.col ≤ u.sz then { u with col := u.col + 1 } else u
def pItem (s : Pg) (t : Int) (b : ByteArray) : Pg := pBump (pStr { s with col := t } b)
theorem PgAt.openT {F : Nat → Prop} {w0 w : World} {p : Nat} {s : Pg} (h : PgAt F w0 w p s) : ∃ At ct g nv, Aside0 (w.heap[p]? = some (.cells #[.int .i64 s.ln, .int .i64 s.col, .int .i64 s.sz, .int .i64 s.rows, .slice At s.tabs.length ct, .slice (some ⟨g, 0, none⟩) 1 1, .int .i64 (s.L.length : Int), nv, .bool s.put, .bool s.due] 50 (0, 0))) ∧ w.ownsRow 0 3 1 (.slice At s.tabs.length ct) s.tabs.length (nums .i64 s.tabs) := by
  obtain ⟨⟨g, rv, tv, nv, hM, hF⟩, hT⟩ := h
  obtain ⟨A, c, rfl⟩ := own_slice hM.tabs
  exact ⟨A, c, g, nv, ⟨hM.head⟩, hM.tabs⟩
theorem col_ok {m : Nat} {s : Pg} (t : Int) (ho : Ok m s) (ht : s.col ≤ t) (ht2 : t ≤ s.sz) : Ok m { s with col := t } :=
  ⟨by have := ho.now; show (s.now.length : Int) ≤ t - 1; omega, by have := ho.col; show 1 ≤ t ∧ t ≤ s.sz + 1; omega, ho.sz, ho.rows, ho.L, ho.ln⟩
theorem bump_ok {m : Nat} {u : Pg} (h : Ok m u) : Ok m (pBump u) := by
  unfold pBump
  split
  · refine ⟨?_, ?_, h.sz, h.rows, h.L, h.ln⟩
    · have := h.now; show (u.now.length : Int) ≤ u.col + 1 - 1; omega
    · have := h.col; show 1 ≤ u.col + 1 ∧ u.col + 1 ≤ u.sz + 1; omega
  · exact h
theorem item_ok (s : Pg) (t : Int) (b : ByteArray) (m : Nat) (ho : Ok m s) (ht : s.col ≤ t) (ht2 : t ≤ s.sz) : Ok (m + b.size) (pItem s t b) := bump_ok ((col_ok t ho ht ht2).strN b b.size)
set_option maxRecDepth 100000 in
set_option maxHeartbeats 8000000 in
theorem itemc_is (p bp bs : Nat) (s : Pg) (b : ByteArray) (i m : Nat) (F : Nat → Prop) (w0 w : World) (h : PgAt F w0 w p s) (ho : Ok m s) (hm : m ≤ 10000) (hb : b.size ≤ 9000) (hi : i < s.tabs.length) (hlt : ∀ j, j < i → s.tabs.getD j 0 < s.col) (hge : s.tabs.getD i 0 ≥ s.col) (hn : s.tabs.length ≤ 1000)
    (hf : s.tabs.getD i 0 - 1 + b.size ≤ s.sz) (h1t : s.tabs.getD i 0 ≤ s.sz) (hbp : Free w p bp) (hbn : Free w p bs)
    (hp : w.heap[bp]? = some (.cells #[.pointer (some ⟨p, 0, none⟩)] 24 (0, 0))) (hnn : w.heap[bs]? = some (.cells #[.string b] 9 (0, 0))) :
    Calls Try.prog 39 #[.pointer (some ⟨bp, 0, none⟩), .pointer (some ⟨bs, 0, none⟩)] w fun e w' => e = .returned (.tuple #[]) ∧ PgAt F w0 w' p (pItem s (s.tabs.getD i 0) b) := by
  obtain ⟨F1, hP1, hfree, hback⟩ := h.enter
  have HBK := Aside0.mk hback
  have HST := Aside0.mk (fun W s' (hW : PgAt F1 w W p s') => And.intro (hW.stays (hfree bp hbp) hp) (hW.stays (hfree bs hbn) hnn))
  obtain ⟨At, ct, g, nv, HH, hown⟩ := hP1.openT
  have h1 := ho.col
  have h3 := ho.sz
  have HI := Aside0.mk (index_is p bp At ct s.tabs s.col i w hi hlt hge hn hown hp ((blk_cell HH.out 1).trans rfl))
  obtain ⟨ad, hat⟩ : ∃ ad, At = some ad := by
    cases At with
    | none => have := (own_none hown).1; omega
    | some ad => exact ⟨ad, rfl⟩
  subst hat
  have HC := Aside0.mk (own_cells hown ad rfl i (.int .i64 (s.tabs.getD i 0)) (by simp [nums, hi]))
  have HTX := Aside0.mk (fun W (hW : PgAt F1 w W p { s with col := s.tabs.getD i 0 }) => text_is p { s with col := s.tabs.getD i 0 } b F1 w W m hW (col_ok _ ho hge h1t) (by omega) (by omega))
  have HOK := Aside0.mk ((col_ok _ ho hge h1t).strN b b.size)
  have HP1 := Aside0.mk hP1
  have HRES := Aside0.mk (show pItem s (s.tabs.getD i 0) b = pBump (pStr { s with col := s.tabs.getD i 0 } b) from rfl)
  have cb := (blk_cell hp 0).trans rfl
  have k4 := (blk_cell HH.out 4).trans rfl
  clear h ho hbp hbn hp hnn hP1 hfree hback hlt hown
  generalize pItem s (s.tabs.getD i 0) b = out at *
  generalize ht : s.tabs.getD i 0 = t at *
  generalize hnt : s.tabs.length = nt at *
  clear ht hnt
  have q0 : ¬ ((i : Int) < 0) := by omega
  have q1 : (i : Int) < (nt : Int) := by omega
  have q2 : (0 : Int) ≤ (i : Int) := by omega
  have hw1 : wrap64 (t - 1) = t - 1 := by unfold wrap64; omega
  have hw2 : wrap64 (t - 1 + (b.size : Int)) = t - 1 + (b.size : Int) := by unfold wrap64; omega
  have d1 : decide ((b.size : Int) ≤ s.sz) = true := decide_eq_true (by omega)
  have d2 : decide (t - 1 + (b.size : Int) > s.sz) = false := decide_eq_false (by omega)
  go_enter Try.func39, Try.ntmps39
  go_wp2_with fail
  refine HI.out.mono ?_
  rintro e w1 ⟨rfl, hb1⟩
  have HP2 := Aside0.mk (HP1.out.step hb1)
  have HC2 := pw_cell_below hb1 HC.out
  have HH2 := Aside0.mk (blk_below HH.out hb1)
  have l0 := (blk_cell (HST.out w1 _ HP2.out).1 0).trans rfl
  have l1 := (blk_cell (HST.out w1 _ HP2.out).2 0).trans rfl
  have l4 := (blk_cell HH2.out 4).trans rfl
  have l2 := (blk_cell HH2.out 2).trans rfl
  clear hb1 cb k4 HP1 HC HH HI
  go_wp2_with fail
  go_quiet (fail)
  have HPd := Aside0.mk (HP2.out.drewN nq)
  have HHd := Aside0.mk (blk_drewN HH2.out nq)
  clear HP2 HH2 l0 l1 l2 l4 HC2
  generalize w1.drewN nq = wd at HPd HHd ⊢
  have l0 := (blk_cell (HST.out wd _ HPd.out).1 0).trans rfl
  have l1 := (blk_cell (HST.out wd _ HPd.out).2 0).trans rfl
  have k1 := (blk_cell HHd.out 1).trans rfl
  have m1 := blk_frozen HHd.out 1
  go_wp2_with fail
  refine (HTX.out _ (HPd.out.setCol t)).mono ?_
  rintro e w3 ⟨rfl, h3⟩
  have HP3 := Aside0.mk h3
  clear h3 l0 l1 k1 m1 HPd HHd HTX
  have HOK2 := Aside0.mk (show Ok (m + b.size) (pStr { s with col := t } b) from HOK.out)
  clear HOK
  generalize pStr { s with col := t } b = u at HP3 HRES HOK2
  have hu1 := HOK2.out.col
  have hu2 := HOK2.out.sz
  have l0 := (blk_cell (HST.out w3 _ HP3.out).1 0).trans rfl
  have l1 := (blk_cell (HST.out w3 _ HP3.out).2 0).trans rfl
  obtain ⟨tv3, g3, A3, c3, HH3⟩ := HP3.out.open_
  have k1 := (blk_cell HH3.out 1).trans rfl
  have k2 := (blk_cell HH3.out 2).trans rfl
  go_wp2_with fail
  go_quiet (fail)
  have HPd := Aside0.mk (HP3.out.drewN nq)
  have HHd := Aside0.mk (blk_drewN HH3.out nq)
  clear l0 l1 k1 k2 HH3 HP3
  generalize w3.drewN nq = wd at HPd HHd ⊢
  have l0 := (blk_cell (HST.out wd _ HPd.out).1 0).trans rfl
  have k1 := (blk_cell HHd.out 1).trans rfl
  have m1 := blk_frozen HHd.out 1
  have hw3 : wrap64 (u.col + 1) = u.col + 1 := by unfold wrap64; omega
  by_cases hc : u.col ≤ u.sz
  · have HF := Aside0.mk (HPd.out.setCol (u.col + 1))
    go_wp2_with fail
    go_end0
    refine ⟨rfl, HBK.out _ _ ?_⟩
    rw [show out = { u with col := u.col + 1 } by rw [HRES.out]; exact if_pos (by omega)]
    exact HF.out
  · go_wp2_with fail
    go_end0
    refine ⟨rfl, HBK.out _ _ ?_⟩
    rw [show out = u by rw [HRES.out]; exact if_neg (by omega)]
    exact HPd.out
set_option maxRecDepth 100000 in
set_option maxHeartbeats 4000000 in
theorem item_is (p : Nat) (s : Pg) (b : ByteArray) (m : Nat) (F : Nat → Prop) (w0 w : World) (i : Nat) (hi : i < s.tabs.length) (hlt : ∀ j, j < i → s.tabs.getD j 0 < s.col) (hge : s.tabs.getD i 0 ≥ s.col) (hn : s.tabs.length ≤ 1000) (hf : s.tabs.getD i 0 - 1 + b.size ≤ s.sz) (h1t : s.tabs.getD i 0 ≤ s.sz) (h : PgAt F w0 w p s) (ho : Ok m s) (hm : m ≤ 10000) (hb : b.size ≤ 9000) (hcl : cleanB b = true) :
    Calls Try.prog 15 #[.pointer (some ⟨p, 0, none⟩), .string b] w fun e w' => e = .returned (.tuple #[.int .i64 (if ((pItem s (s.tabs.getD i 0) b).due && !s.due) = true then 1 else 0), .int .i64 0]) ∧ PgAt F w0 w' p (pItem s (s.tabs.getD i 0) b) := by
  have hb' := hb
  have hLs : (pItem s (s.tabs.getD i 0) b).L.length ≤ 19999 := by have := (item_ok s (s.tabs.getD i 0) b m ho (by omega) h1t).L; omega
  have hB := ((Below.refl w.heap.size w).alloc (Nat.le_refl _) (.cells #[.pointer (some ⟨p, 0, none⟩)] 24 (0, 0))).alloc (by simp) (.cells #[.string b] 9 (0, 0))
  have hbp := blk_alloc (blk_new w (.cells #[.pointer (some ⟨p, 0, none⟩)] 24 (0, 0))) (.cells #[.string b] 9 (0, 0))
  have hbn := blk_new (w.alloc (.cells #[.pointer (some ⟨p, 0, none⟩)] 24 (0, 0))) (.cells #[.string b] 9 (0, 0))
  rw [World.size_alloc] at hbn
  have HBP := Aside0.mk hbp
  have HBN := Aside0.mk hbn
  have HA := Aside0.mk (fun W => said_is p b W (by omega))
  rw [hcl] at HA
  have HMV := Aside0.mk (fun W (hb : Below ((w.alloc (.cells #[.pointer (some ⟨p, 0, none⟩)] 24 (0, 0))).alloc (.cells #[.string b] 9 (0, 0))).heap.size ((w.alloc (.cells #[.pointer (some ⟨p, 0, none⟩)] 24 (0, 0))).alloc (.cells #[.string b] 9 (0, 0))) W) =>
    moved_is p 39 #[.pointer (some ⟨w.heap.size, 0, none⟩), .pointer (some ⟨w.heap.size + 1, 0, none⟩)] s (pItem s (s.tabs.getD i 0) b) F w0 W ((h.step hB).step hb) (fun W => enter39 _ rfl W)
      (fun F' wb W' hW' hP' => by
        have hall := (hB.trans (hb.mono hB.size)).trans (hW'.mono (Nat.le_trans hB.size hb.size))
        have hp1 := blk_below (blk_below hbp hb) hW'
        have hn1 := blk_below (blk_below hbn hb) hW'
        exact itemc_is p w.heap.size (w.heap.size + 1) s b i m F' wb W' hP' ho hm hb' hi hlt hge hn hf h1t (Free.new h hall (Nat.le_refl _) (blk_lt' hp1)) (Free.new h hall (by omega) (blk_lt' hn1)) hp1 hn1)
      hLs (by have := ho.now; have := ho.col; have := ho.sz; omega))
  clear h hB hbp hbn ho hLs hi hlt hge hn hf h1t
  generalize pItem s (s.tabs.getD i 0) b = s' at *
  generalize (if (s'.due && !s.due) = true then (1 : Int) else 0) = rr at *
  go_enter Try.func15, Try.ntmps15
  go_wp2_with fail
  refine (HA.out _).mono ?_
  rintro e w1 ⟨rfl, hb⟩
  have HMW := Aside0.mk (HMV.out w1 hb)
  have cb := (blk_cell (blk_below HBP.out hb) 0).trans rfl
  clear hb HMV HA
  go_wp2_with fail
  refine HMW.out.mono ?_
  rintro e w2 ⟨rfl, h2⟩
  have H2 := Aside0.mk h2
  clear h2 cb
  go_wp2_with fail
  go_ret2
  exact ⟨rfl, H2.out⟩
end Go.Proofs.Ytjamaccblokfkaa.P

-- from the text Hh
namespace Go.Proofs.Ytjamaccblokfkaa.P
open Go.RowKit Go.Proofs.YtjamaccblokfkaaW.PrintWords Go.Proofs.YtjamaccblokfkaaW.PrintLast Go.Proofs.YtjamaccblokfkaaW.PrintMore
set_option linter.unusedVariables false
set_option linter.unusedSimpArgs false
def pg0 : Pg := ⟨1, 1, 10, 2, [1, 6], [], [], false, false⟩
theorem made16 {w w3 : World} {A : Option Addr} {c : Nat} {B : Nat} (hb : Below w.heap.size w w3) (ho : w3.ownsRow B 3 1 (.slice A 2 c) 2 (nums .i64 [1, 6])) (hB : w.heap.size ≤ B) : PgAt (fun _ => False) w ((w3.alloc (.cells #[.slice none 0 0] 34 (0, 0))).alloc (.cells #[.int .i64 1, .int .i64 1, .int .i64 10, .int .i64 2, .slice A 2 c, .slice (some ⟨w3.heap.size, 0, none⟩) 1 1, .int .i64 0, .slice none 0 0, .bool false, .bool false] 50 (0, 0))) (w3.heap.size + 1) pg0 := by
  have hB3 := ((Below.refl w3.heap.size w3).alloc (Nat.le_refl _) (.cells #[.slice none 0 0] 34 (0, 0))).alloc (by simp) (.cells #[.int .i64 1, .int .i64 1, .int .i64 10, .int .i64 2, .slice A 2 c, .slice (some ⟨w3.heap.size, 0, none⟩) 1 1, .int .i64 0, .slice none 0 0, .bool false, .bool false] 50 (0, 0))
  have hp := blk_new (w3.alloc (.cells #[.slice none 0 0] 34 (0, 0))) (.cells #[.int .i64 1, .int .i64 1, .int .i64 10, .int .i64 2, .slice A 2 c, .slice (some ⟨w3.heap.size, 0, none⟩) 1 1, .int .i64 0, .slice none 0 0, .bool false, .bool false] 50 (0, 0))
  rw [World.size_alloc] at hp
  have hg := blk_alloc (blk_new w3 (.cells #[.slice none 0 0] 34 (0, 0))) (.cells #[.int .i64 1, .int .i64 1, .int .i64 10, .int .i64 2, .slice A 2 c, .slice (some ⟨w3.heap.size, 0, none⟩) 1 1, .int .i64 0, .slice none 0 0, .bool false, .bool false] 50 (0, 0))
  have hs := hb.size
  refine ⟨⟨w3.heap.size, .slice none 0 0, .slice A 2 c, .slice none 0 0, ⟨hp, hg, World.ownsRow_nil _ _ _ _, ownsRow_base (ownsRow_kept ho (fun k e => hB3.block k (ho.lt k e).2)) (Nat.zero_le _), World.ownsRow_nil _ _ _ _⟩, fun k hk => ?_⟩, Turn.of_below (hb.trans (hB3.mono hs))⟩
  rcases hk with rfl | rfl | e | e | e
  · exact .inr (by omega)
  · exact .inr hs
  · cases e
  · exact .inr (Nat.le_trans hB (own_ge ho e))
  · cases e
set_option maxRecDepth 100000 in
set_option maxHeartbeats 8000000 in
theorem new_16 (b : Nat) (w : World) (hb : w.heap[b]? = some (.cells #[.int .i64 1, .int .i64 6] 3 (0, 0))) :
    Calls Try.prog 7 #[.int .i64 10, .int .i64 2, .slice (some ⟨b, 0, none⟩) 2 2] w fun e w' => ∃ p, e = .returned (.tuple #[.pointer (some ⟨p, 0, none⟩), .int .i64 0]) ∧ PgAt (fun _ => False) w w' p pg0 := by
  have hown : w.ownsRow 0 3 1 (.slice (some ⟨b, 0, none⟩) 2 2) 2 (nums .i64 [1, 6]) := ⟨rfl, .inr ⟨b, 2, _, rfl, Nat.zero_le _, hb, Nat.le_refl _, by decide, rfl, rfl⟩⟩
  have HB := Aside0.mk hb
  have HO := Aside0.mk hown
  have HW := Aside0.mk (fun n a b W => within_is n a b W)
  clear hb hown
  go_enter Try.func7, Try.ntmps7
  go_wp2_with fail
  go_loopw [9, 10, 38] (fun _ _ v wr => ∃ k : Nat, k ≤ 2 ∧ v = .int .i64 (k : Int) ∧ Aside0 (Below w.heap.size w wr)) (fun _ _ v _ => 2 - (intOf v).toNat)
  case atStart => exact ⟨0, Nat.zero_le _, rfl, ⟨Below.refl _ _⟩⟩
  case round =>
    obtain ⟨k, hk, rfl, HBL⟩ := hrel
    have c0 := (blk_cell (blk_below HB.out HBL.out) 0).trans rfl
    have c1 := (blk_cell (blk_below HB.out HBL.out) 1).trans rfl
    obtain rfl | rfl | rfl : k = 0 ∨ k = 1 ∨ k = 2 := by omega
    · go_wp2_with fail
      refine (HW.out _ _ _ _).mono ?_
      rintro e w1 ⟨rfl, hb1⟩
      have HB1 := Aside0.mk (HBL.out.trans (hb1.mono HBL.out.size))
      clear hb1
      go_wp2_with fail
      exact ⟨⟨1, by decide, rfl, HB1⟩, by simp [intOf]⟩
    · go_wp2_with fail
      refine (HW.out _ _ _ _).mono ?_
      rintro e w1 ⟨rfl, hb1⟩
      have HB1 := Aside0.mk (HBL.out.trans (hb1.mono HBL.out.size))
      clear hb1
      go_wp2_with fail
      exact ⟨⟨2, by decide, rfl, HB1⟩, by simp [intOf]⟩
    · go_wp2_with fail
      refine (HW.out _ _ _ _).mono ?_
      rintro e w1 ⟨rfl, hb1⟩
      have HB1 := Aside0.mk (HBL.out.trans (hb1.mono HBL.out.size))
      clear hb1
      go_wp2_with fail
      refine (HW.out _ _ _ _).mono ?_
      rintro e w2 ⟨rfl, hb2⟩
      have HB2 := Aside0.mk (HB1.out.trans (hb2.mono HB1.out.size))
      clear hb2
      go_wp2_with fail
      refine (clone3_is (.slice (some ⟨b, 0, none⟩) 2 2) 2 (nums .i64 [1, 6]) w2 (ownsRow_kept HO.out (fun k e => HB2.out.block k (HO.out.lt k e).2)) (by simp [nums, Value.oneCell']) (by decide)).mono ?_
      rintro e w3 ⟨A, c, rfl, hown, hb3⟩
      have HB3 := Aside0.mk (HB2.out.trans (hb3.mono HB2.out.size))
      have HO3 := Aside0.mk hown
      clear hb3 hown
      go_wp2_with fail
      go_ret2
      refine ⟨_, rfl, made16 HB3.out HO3.out HB2.out.size⟩
end Go.Proofs.Ytjamaccblokfkaa.P

-- from the text Hi
namespace Go.Proofs.Ytjamaccblokfkaa.P
open Go.RowKit Go.Proofs.YtjamaccblokfkaaW.PrintWords Go.Proofs.YtjamaccblokfkaaW.PrintLast Go.Proofs.YtjamaccblokfkaaW.PrintMore
set_option linter.unusedVariables false
set_option linter.unusedSimpArgs false
theorem wl_one34 {ops : Array Oper} {rest : List Oper} {o : Oper} {a : Act} {Q : Exit → Act → World → Prop} {W : World} {s x : Operand} (base : Nat) (g0 : Nat) (v : Value) (hgd : o.guard = none) (ho : o.op = .call { callee := .builtin .append, args := #[s, x], argTypes := #[32, 32] })
    (hs : a.eval s = .slice none 0 0) (hx : a.eval x = .slice (some ⟨g0, 0, none⟩) 1 1) (hg : W.heap[g0]? = some (.cells #[v] 34 (0, 0))) (h1 : v.oneCell' = true) (hb : base ≤ W.heap.size)
    (h : ∀ g cap w', w'.ownsRow base 34 1 (.slice (some ⟨g, 0, none⟩) 1 cap) 1 [v] → W.grownBy w' none → wpList Try.prog ops Q rest (a.put o.dst (.slice (some ⟨g, 0, none⟩) 1 cap)) w') : wpList Try.prog ops Q (o :: rest) a W := by
  obtain ⟨i0, hi, hz0, hz1, hz2⟩ := info_parts info34
  refine wpList_append_own W hgd s x 32 ho base 34 i0 _ 1 24 Try.underlying32 hi hz0 hz1 hz2 rfl (by decide) (.slice none 0 0) 0 [] hs (World.ownsRow_nil _ _ _ _) ⟨g0, 0, none⟩ 1 1 [v] hx rfl (fun j u hj => by rw [add_plain]; exact (blk_cell hg j).trans (by simpa using hj)) (by simp [h1]) (by decide) (by decide) hb (fun v' w' h1 h2 _ => ?_)
  obtain ⟨g2, cap, rfl, _, _⟩ := h1.form (by omega)
  exact h g2 cap w' h1 h2
theorem step_own9 {ops : Array Oper} {o : Oper} {a : Act} {K : Act → World → Prop} {Q : Exit → Act → World → Prop} {W : World} {s x : Operand} {fv : Value} {n : Nat} {xs : List Value} {N : Tmp} (g0 : Nat) (t : ByteArray) (hw : Region.wanted o (yielded ops a.tmps) = true) (hN : o.dst = some N) (ho : o.op = .call { callee := .builtin .append, args := #[s, x], argTypes := #[34, 34] })
    (hs : a.eval s = fv) (hrow : W.ownsRow 0 9 1 fv n xs) (hx : a.eval x = .slice (some ⟨g0, 0, none⟩) 1 1) (hb : W.heap[g0]? = some (.cells #[.string t] 9 (0, 0))) (hn : n ≤ 1000000)
    (h : ∀ g cap w', w'.ownsRow 0 9 1 (.slice (some ⟨g, 0, none⟩) (n + 1) cap) (n + 1) (xs ++ [.string t]) → W.grownBy w' fv.ownBlock → (fv.ownBlock = some g ∨ g = W.heap.size) → g < w'.heap.size → K (a.put (some N) (.slice (some ⟨g, 0, none⟩) (n + 1) cap)) w') : if Region.wanted o (yielded ops a.tmps) = true then Oper.wp Try.prog o a W K Q else K (a.put (some N) undef) W := by
  obtain ⟨i0, hi, hz0, hz1, hz2⟩ := info_parts info9
  rw [if_pos hw]
  refine wp_append_lies W s x 34 ho 0 9 i0 _ 1 16 Try.underlying34 hi hz0 hz1 hz2 rfl (by decide) fv n xs hs hrow ⟨g0, 0, none⟩ 1 1 [.string t] hx rfl
    (fun j u hj => by rw [add_plain]; exact (blk_cell hb j).trans (by simpa using hj)) (by simp [Value.oneCell']) (by decide) (by simp only [maxLen]; omega) (by omega) (Nat.zero_le _) _ rfl ?_
  rw [hN]
  exact h
theorem cell_set {w : World} {g : Nat} {u : Value} (h : w.cell? ⟨g, 0, none⟩ = some u) (v : Value) : (w.setCell ⟨g, 0, none⟩ v).cell? ⟨g, 0, none⟩ = some v := by
  go_simp
def shown (s : Pg) : List ByteArray := if s.put = true then s.L ++ [strOfNums s.now] else s.L
theorem oneCell_strs (l : List ByteArray) : ∀ x ∈ strs l, x.oneCell' = true := by
  intro x hx
  simp only [strs, List.mem_map] at hx
  obtain ⟨a, _, rfl⟩ := hx
  rfl
/-- What Pages hands back: one page, its lines. -/
def Tells (w w' : World) (v : Value) (l : List ByteArray) : Prop := ∃ g cap A c, v = .slice (some ⟨g, 0, none⟩) 1 cap ∧ w'.cell? ⟨g, 0, none⟩ = some (.slice A l.length c) ∧ w'.ownsRow 0 9 1 (.slice A l.length c) l.length (strs l) ∧ Below w.heap.size w w' ∧ ∃ cs, w'.heap[g]? = some (Obj.cells cs 34 (0, 0))
set_option maxRecDepth 100000 in
set_option maxHeartbeats 8000000 in
theorem pages_is (p : Nat) (s : Pg) (F : Nat → Prop) (w0 w : World) (h : PgAt F w0 w p s) (hn : s.L.length ≤ 100000) :
    Calls Try.prog 11 #[.pointer (some ⟨p, 0, none⟩)] w fun e w' => ∃ v, e = .returned v ∧ Tells w w' v (shown s) := by
  obtain ⟨⟨g, rv, tv, nv, hM, hF⟩, hT⟩ := h
  obtain ⟨A, c, hrv⟩ := own_slice hM.row
  subst hrv
  obtain ⟨An, cn, hnv⟩ := own_slice hM.now
  subst hnv
  have HROW := Aside0.mk hM.row
  have HNOW := Aside0.mk hM.now
  have HH := Aside0.mk hM.head
  have HG := Aside0.mk hM.pages
  clear hM hF hT
  obtain ⟨ln, col, sz, rows, tabs, L, now, put, due⟩ := s
  have HS := Aside0.mk (show shown ⟨ln, col, sz, rows, tabs, L, now, put, due⟩ = if put = true then L ++ [strOfNums now] else L from rfl)
  dsimp only at HH HG HNOW HROW hn ⊢
  generalize shown ⟨ln, col, sz, rows, tabs, L, now, put, due⟩ = sh at *
  generalize hln : L.length = n at *
  have HLN := Aside0.mk hln
  clear hln
  generalize hnl : now.length = m at *
  clear hnl
  have c5 := (blk_cell HH.out 5).trans rfl
  go_enter Try.func11, Try.ntmps11
  go_wp2_with fail
  go_loopw [3, 5, 14] (fun q _ v wr => Aside0 (Below w.heap.size w wr) ∧ ((v = .int .i64 0 ∧ q = .slice none 0 0) ∨ (v = .int .i64 1 ∧ ∃ g2 cap A2 c2, q = .slice (some ⟨g2, 0, none⟩) 1 cap ∧ Aside0 (wr.ownsRow w.heap.size 34 1 (.slice (some ⟨g2, 0, none⟩) 1 cap) 1 [.slice A2 n c2] ∧ wr.ownsRow w.heap.size 9 1 (.slice A2 n c2) n (strs L))))) (fun _ _ v _ => 1 - (intOf v).toNat)
  case atStart => exact ⟨⟨Below.refl _ _⟩, .inl ⟨rfl, rfl⟩⟩
  case round =>
    obtain ⟨HB, ⟨rfl, rfl⟩ | ⟨rfl, g2, cap, A2, c2, rfl, HR⟩⟩ := hrel
    · have cg := (blk_cell (blk_below HG.out HB.out) 0).trans rfl
      go_wp2_with fail
      refine (clone9_is (.slice A n c) n (strs L) wr (own_below HROW.out HB.out) (oneCell_strs L) (by omega)).mono ?_
      rintro e w1 ⟨A2, c2, rfl, hown, hb1⟩
      have hal := (Below.refl w1.heap.size w1).alloc (Nat.le_refl _) (.cells #[.slice A2 n c2] 34 (0, 0))
      have hsz := HB.out.size
      have HB1 := Aside0.mk ((HB.out.trans (hb1.mono hsz)).trans (hal.mono (Nat.le_trans hsz hb1.size)))
      have HO1 := Aside0.mk (ownsRow_base (ownsRow_kept hown (fun k e => hal.block k (hown.lt k e).2)) hsz)
      have HN1 := Aside0.mk (blk_new w1 (.cells #[.slice A2 n c2] 34 (0, 0)))
      have HS1 := Aside0.mk (Nat.le_trans hsz hb1.size)
      clear hown hb1 cg hal hsz
      go_wp2_with ((with_reducible refine gate_dst (N := 22) rfl ?_); refine wl_one34 w.heap.size w1.heap.size (.slice A2 n c2) rfl rfl rfl rfl HN1.out rfl HB1.out.size ?_; intro g2 cap w2 hown2 hgrow; have HR := Aside0.mk (And.intro hown2 (ownsRow_kept HO1.out (fun k e => hgrow.block k (HO1.out.lt k e).2 (fun e => by cases e)))); have HB2 := Aside0.mk (HB1.out.grown hgrow HB1.out.size (fun k e => by cases e)); clear hown2 hgrow)
      exact ⟨⟨HB2, .inr ⟨rfl, g2, cap, A2, c2, rfl, HR⟩⟩, by simp [intOf]⟩
    · have c8 := (blk_cell (blk_below HH.out HB.out) 8).trans rfl
      cases put with
      | false =>
        go_wp2_with fail
        go_ret
        refine ⟨_, rfl, g2, cap, A2, c2, rfl, ?_⟩
        rw [HS.out]
        simp only [Bool.false_eq_true, if_false]
        rw [HLN.out]
        exact ⟨by have := own_cells HR.out.1 ⟨g2, 0, none⟩ rfl 0 _ rfl; rwa [add_plain] at this, ownsRow_base HR.out.2 (Nat.zero_le _), HB.out, own_type HR.out.1 rfl⟩
      | true =>
        go_wp2_with fail
        refine start_ (n := 15) (S := fun W => Below wr.heap.size wr W) (ds := [12, 14]) #[false, false, false, false, false, false, false, false, false, false, false, false, false, false, false] (by kernel_rfl) rfl rfl (Below.refl _ _).drew (fun hHeld => ?_)
        generalize wr.drew = w1 at hHeld ⊢
        clear c8
        refine pure_ (i := 0) (N := some 31) (v := ?_) (a' := ?_) #[true, false, false, false, false, false, false, false, false, false, false, false, false, false, false] rfl rfl (by kernel_rfl) (fun _ _ _ h => h) (Or.inl ⟨by rfl, ?_⟩) ?_ ?_
        rotate_left
        · intro w_
          go_simp
          with_reducible rfl
        rotate_left
        · simp only [Act.put, List.setIfInBounds_toArray, List.set_cons_zero, List.set_cons_succ, i64_w, i32_w]
          rfl
        refine pure_ (i := 1) (N := some 32) (v := ?_) (a' := ?_) #[true, true, false, false, false, false, false, false, false, false, false, false, false, false, false] rfl rfl (by kernel_rfl) (fun _ _ _ h => h) (Or.inl ⟨by rfl, ?_⟩) ?_ ?_
        rotate_left
        · intro w_
          go_simp
          with_reducible rfl
        rotate_left
        · simp only [Act.put, List.setIfInBounds_toArray, List.set_cons_zero, List.set_cons_succ, i64_w, i32_w]
          rfl
        refine pure_ (i := 2) (N := some 33) (v := ?_) (a' := ?_) #[true, true, true, false, false, false, false, false, false, false, false, false, false, false, false] rfl rfl (by kernel_rfl) (fun _ _ _ h => h) (Or.inl ⟨by rfl, ?_⟩) ?_ ?_
        rotate_left
        · intro w_
          go_simp
          with_reducible rfl
        rotate_left
        · simp only [Act.put, List.setIfInBounds_toArray, List.set_cons_zero, List.set_cons_succ, i64_w, i32_w]
          rfl
        refine pure_ (i := 3) (N := some 34) (v := ?_) (a' := ?_) #[true, true, true, true, false, false, false, false, false, false, false, false, false, false, false] rfl rfl (by kernel_rfl) (fun _ _ _ h => h) (Or.inl ⟨by rfl, ?_⟩) ?_ ?_
        rotate_left
        · intro w_
          go_simp
          with_reducible rfl
        rotate_left
        · simp only [Act.put, List.setIfInBounds_toArray, List.set_cons_zero, List.set_cons_succ, i64_w, i32_w]
          rfl
        refine pure_ (i := 4) (N := some 35) (v := ?_) (a' := ?_) #[true, true, true, true, true, false, false, false, false, false, false, false, false, false, false] rfl rfl (by kernel_rfl) (fun _ _ _ h => h) (Or.inl ⟨by rfl, ?_⟩) ?_ ?_
        rotate_left
        · intro w_
          go_simp
          with_reducible rfl
        rotate_left
        · simp only [Act.put, List.setIfInBounds_toArray, List.set_cons_zero, List.set_cons_succ, i64_w, i32_w]
          rfl
        refine take_ (i := 5) (N := some 36) (v := ?_) (a' := ?_) #[true, true, true, true, true, true, false, false, false, false, false, false, false, false, false] rfl rfl (by kernel_rfl) (fun _ _ _ h => h) (Or.inl ⟨by rfl, ?_⟩) hHeld ?_ ?_
        rotate_left
        · rintro w_ hs_
          have s0 := pw_cell_below hs_ (own_cells HR.out.1 ⟨g2, 0, none⟩ rfl 0 _ rfl)
          rw [add_plain] at s0
          go_simp
          with_reducible rfl
        rotate_left
        · simp only [Act.put, List.setIfInBounds_toArray, List.set_cons_zero, List.set_cons_succ, i64_w, i32_w]
          rfl
        refine pure_ (i := 6) (N := some 37) (v := ?_) (a' := ?_) #[true, true, true, true, true, true, true, false, false, false, false, false, false, false, false] rfl rfl (by kernel_rfl) (fun _ _ _ h => h) (Or.inl ⟨by rfl, ?_⟩) ?_ ?_
        rotate_left
        · intro w_
          go_simp
          with_reducible rfl
        rotate_left
        · simp only [Act.put, List.setIfInBounds_toArray, List.set_cons_zero, List.set_cons_succ, i64_w, i32_w]
          rfl
        refine pure_ (i := 7) (N := some 38) (v := ?_) (a' := ?_) #[true, true, true, true, true, true, true, true, false, false, false, false, false, false, false] rfl rfl (by kernel_rfl) (fun _ _ _ h => h) (Or.inl ⟨by rfl, ?_⟩) ?_ ?_
        rotate_left
        · intro w_
          go_simp
          with_reducible rfl
        rotate_left
        · simp only [Act.put, List.setIfInBounds_toArray, List.set_cons_zero, List.set_cons_succ, i64_w, i32_w]
          rfl
        refine pure_ (i := 8) (N := some 39) (v := ?_) (a' := ?_) #[true, true, true, true, true, true, true, true, true, false, false, false, false, false, false] rfl rfl (by kernel_rfl) (fun _ _ _ h => h) (Or.inl ⟨by rfl, ?_⟩) ?_ ?_
        rotate_left
        · intro w_
          go_simp
          with_reducible rfl
        rotate_left
        · simp only [Act.put, List.setIfInBounds_toArray, List.set_cons_zero, List.set_cons_succ, i64_w, i32_w]
          rfl
        refine take_ (i := 9) (N := some 40) (v := ?_) (a' := ?_) #[true, true, true, true, true, true, true, true, true, true, false, false, false, false, false] rfl rfl (by kernel_rfl) (fun _ _ _ h => h) (Or.inl ⟨by rfl, ?_⟩) hHeld ?_ ?_
        rotate_left
        · rintro w_ hs_
          have s0 := (blk_cell (blk_below (blk_below HH.out HB.out) hs_) 7).trans rfl
          go_simp
          with_reducible rfl
        rotate_left
        · simp only [Act.put, List.setIfInBounds_toArray, List.set_cons_zero, List.set_cons_succ, i64_w, i32_w]
          rfl
        refine take_ (i := 10) (N := some 41) (v := ?_) (a' := ?_) #[true, true, true, true, true, true, true, true, true, true, true, false, false, false, false] rfl rfl (by kernel_rfl) (fun _ _ _ h => h) (Or.inl ⟨by rfl, ?_⟩) hHeld ?_ ?_
        rotate_left
        · rintro w_ hs_
          have hcv := own_string Try.underlying48 Try.underlying5 Try.underlying9 (own_below (own_below HNOW.out HB.out) hs_)
          go_simp
          with_reducible rfl
        rotate_left
        · simp only [Act.put, List.setIfInBounds_toArray, List.set_cons_zero, List.set_cons_succ, i64_w, i32_w]
          rfl
        refine one_ (i := 11) (N := some 42) #[true, true, true, true, true, true, true, true, true, true, true, true, false, false, false] rfl rfl (by kernel_rfl) (by decide) (fun K' hK => ?_)
        refine value_ (w1 := w1.alloc (.cells #[.string (strOfNums now)] 9 (0, 0))) (v := .slice (some ⟨w1.heap.size, 0, none⟩) 1 1) (by rfl) rfl ?_ ?_
        · go_simp
        have HN := Aside0.mk (blk_new w1 (.cells #[.string (strOfNums now)] 9 (0, 0)))
        have hb5 := (Below.refl w1.heap.size w1).alloc (Nat.le_refl _) (.cells #[.string (strOfNums now)] 9 (0, 0))
        refine hK.out _ _ (hHeld.trans (hb5.mono hHeld.size)) (fun hHeld => ?_)
        clear hK K' hb5
        generalize w1.alloc (.cells #[.string (strOfNums now)] 9 (0, 0)) = w2 at hHeld HN ⊢
        generalize w1.heap.size = g0 at HN ⊢
        refine norm_ (a' := ?_) ?_ ?_
        rotate_left
        · show Act.put _ (some 42) _ = _
          simp only [Act.put, List.setIfInBounds_toArray, List.set_cons_zero, List.set_cons_succ, i64_w, i32_w]
          rfl
        refine last_ (i := 12) (N := some 43) #[true, true, true, true, true, true, true, true, true, true, true, true, true, false, false] rfl rfl (by kernel_rfl) (by decide) (fun K' hK => ?_)
        refine step_own9 g0 (strOfNums now) (by rfl) rfl rfl rfl (ownsRow_base (ownsRow_kept HR.out.2 (fun k e => hHeld.block k (HR.out.2.lt k e).2)) (Nat.zero_le _)) rfl HN.out (by omega) ?_
        intro g3 cap3 w3 hown hgrow hat hlt
        refine hK.out _ _ ?_
        clear hK K'
        refine norm_ (a' := ?_) ?_ ?_
        rotate_left
        · show Act.put _ (some 43) _ = _
          simp only [Act.put, List.setIfInBounds_toArray, List.set_cons_zero, List.set_cons_succ, i64_w, i32_w]
          rfl
        refine pure_ (i := 13) (N := some 44) (v := ?_) (a' := ?_) #[true, true, true, true, true, true, true, true, true, true, true, true, true, true, false] rfl rfl (by kernel_rfl) (fun _ _ _ h => h) (Or.inl ⟨by rfl, ?_⟩) ?_ ?_
        rotate_left
        · intro w_
          go_simp
          with_reducible rfl
        rotate_left
        · simp only [Act.put, List.setIfInBounds_toArray, List.set_cons_zero, List.set_cons_succ, i64_w, i32_w]
          rfl
        have hsz := HB.out.size
        have hB2 : Below w.heap.size w w3 := (HB.out.trans (hHeld.mono hsz)).grown hgrow (Nat.le_trans hsz hHeld.size) (fun k e => own_ge HR.out.2 e)
        obtain ⟨cur2, hc2⟩ := own_type HR.out.1 rfl
        have g23 : w3.heap[g2]? = wr.heap[g2]? := (hgrow.block g2 (Nat.lt_of_lt_of_le (blk_lt' hc2) hHeld.size) (fun e => by
          obtain ⟨c9, hc9⟩ := own_type HR.out.2 e.symm
          exact type_ne hc2 hc9 (by decide) rfl)).trans (hHeld.block g2 (blk_lt' hc2))
        have hrow3 := ownsRow_kept HR.out.1 (w' := w3) (fun k e => by cases e; exact g23)
        have hcg := own_cells hrow3 ⟨g2, 0, none⟩ rfl 0 _ rfl
        rw [add_plain] at hcg
        have hfg := blk_frozen (g23.trans hc2) 0
        refine last_ (i := 14) (N := none) #[true, true, true, true, true, true, true, true, true, true, true, true, true, true, true] rfl rfl (by kernel_rfl) (by decide) (fun K' hK => ?_)
        refine skip_ (w1 := ?_) (by rfl) rfl ?_ ?_
        rotate_left
        · go_simp
          rfl
        refine hK.out _ _ ?_
        clear hK K'
        refine done_ (by kernel_rfl) ?_
        go_wp2_with fail
        go_ret
        have hsh : sh = L ++ [strOfNums now] := HS.out.trans (if_pos trivial)
        have hl1 : (L ++ [strOfNums now]).length = n + 1 := by rw [List.length_append, HLN.out]; rfl
        refine ⟨_, rfl, g2, cap, some ⟨g3, 0, none⟩, cap3, rfl, ?_⟩
        rw [hsh, hl1]
        have g3ne : g3 ≠ g2 := by
          obtain ⟨c9, hc9⟩ := own_type hown rfl
          exact type_ne hc9 (g23.trans hc2) (by decide)
        refine ⟨cell_set hcg _, ?_, hB2.setCell (p := ⟨g2, 0, none⟩) (own_ge HR.out.1 rfl) _, _, blk_put (g23.trans hc2) 0 _ rfl⟩
        have hs9 : strs (L ++ [strOfNums now]) = strs L ++ [.string (strOfNums now)] := by simp [strs]
        rw [hs9]
        exact ownsRow_kept hown (fun k e => by cases e; exact Below.heap_setCell w3 _ _ g3 g3ne)
end Go.Proofs.Ytjamaccblokfkaa.P

-- from the text Pq
namespace Go.Proofs.Ytjamaccblokfkaa.P
open Go.RowKit Go.Proofs.YtjamaccblokfkaaW.PrintWords Go.Proofs.YtjamaccblokfkaaW.PrintLast Go.Proofs.YtjamaccblokfkaaW.PrintMore
set_option linter.unusedVariables false
set_option linter.unusedSimpArgs false
/-- A text's bytes as numbers. -/
def byt (b : ByteArray) : List Int := (List.range b.size).map fun (i : Nat) => bt b (i : Int)
theorem byt_len (b : ByteArray) : (byt b).length = b.size := by simp [byt]
theorem pStr_fold (s : Pg) (b : ByteArray) : pStr s b = (byt b).foldl pWrite s := by
  unfold pStr pStrN byt
  rw [List.foldl_map]
theorem byt_get (b : ByteArray) (i : Nat) (h : i < b.size) : (byt b)[i]? = some (bt b (i : Int)) := by simp [byt, h]
/-- What holds where all was put by Put: nothing lacks on the line; the lines are no longer than the size; what was put are bytes. -/
structure Full (s : Pg) : Prop where
  now : (s.now.length : Int) = s.col - 1
  rng : ∀ c ∈ s.now, 0 ≤ c ∧ c ≤ 255
  L : ∀ l ∈ s.L, (l.size : Int) ≤ s.sz
  col : s.col ≤ s.sz + 1
  pos : 10 ≤ s.sz
def flat (s : Pg) : List Int := (s.L.map byt).flatten ++ s.now
theorem str_size (l : List Int) : (strOfNums l).size = l.length := by simp [strOfNums, ByteArray.size]
theorem byt_str (l : List Int) (h : ∀ c ∈ l, 0 ≤ c ∧ c ≤ 255) : byt (strOfNums l) = l := by
  apply List.ext_getElem?
  intro i
  by_cases hi : i < l.length
  · rw [byt_get _ i (by rw [str_size]; exact hi), ← bt_at _ (i : Int) (by rw [Int.toNat_natCast, str_size]; exact hi), List.getElem?_eq_getElem hi]
    have := h l[i] (List.getElem_mem hi)
    simp only [strOfNums, Int.toNat_natCast]
    simp [ByteArray.getElem_eq_getElem_data]
    omega
  · rw [List.getElem?_eq_none (by rw [byt_len, str_size]; omega), List.getElem?_eq_none (by omega)]
theorem Full.end_ {s : Pg} (h : Full s) : Full (pEnd s) ∧ flat (pEnd s) = flat s := by
  refine ⟨⟨?_, (fun c hc => by cases hc), ?_, ?_, h.pos⟩, ?_⟩
  · show ((0 : Nat) : Int) = 1 - 1; rfl
  · intro l hl
    rcases List.mem_append.1 hl with hl | hl
    · exact h.L l hl
    · rw [List.mem_singleton] at hl; subst hl
      rw [str_size]
      have := h.now; have := h.col
      show ((s.now.length : Nat) : Int) ≤ s.sz
      omega
  · have := h.pos; show (1 : Int) ≤ s.sz + 1; omega
  · show ((s.L ++ [strOfNums s.now]).map byt).flatten ++ [] = (s.L.map byt).flatten ++ s.now
    rw [List.map_append, List.flatten_append, List.append_nil, List.map_singleton, List.flatten_singleton, byt_str _ h.rng]
theorem Full.write {s : Pg} (h : Full s) (c : Int) (hc : 0 ≤ c ∧ c ≤ 255) (hcol : 1 ≤ s.col) : Full (pWrite s c) ∧ flat (pWrite s c) = flat s ++ [c] ∧ 1 ≤ (pWrite s c).col := by
  have hr : Full (pRoom s) ∧ flat (pRoom s) = flat s ∧ (pRoom s).col ≤ (pRoom s).sz ∧ 1 ≤ (pRoom s).col := by
    unfold pRoom
    have := h.pos
    split
    · exact ⟨h.end_.1, h.end_.2, by show (1 : Int) ≤ s.sz; omega, by show (1 : Int) ≤ 1; omega⟩
    · exact ⟨h, rfl, by omega, hcol⟩
  obtain ⟨h1, h2, h3, h4⟩ := hr
  have hpad : (pRoom s).col.toNat - 1 - (pRoom s).now.length = 0 := by have := h1.now; omega
  have hw : pWrite s c = { pRoom s with now := (pRoom s).now ++ [c], put := true, col := (pRoom s).col + 1 } := by
    unfold pWrite
    simp only [hpad, List.replicate_zero, List.append_nil]
  rw [hw]
  refine ⟨⟨?_, ?_, h1.L, ?_, h1.pos⟩, ?_, ?_⟩
  · show (((pRoom s).now ++ [c]).length : Int) = (pRoom s).col + 1 - 1
    have := h1.now
    rw [List.length_append, List.length_singleton]
    push_cast
    omega
  · intro d hd
    rcases List.mem_append.1 hd with hd | hd
    · exact h1.rng d hd
    · rw [List.mem_singleton] at hd; subst hd; exact hc
  · show (pRoom s).col + 1 ≤ (pRoom s).sz + 1; omega
  · show ((pRoom s).L.map byt).flatten ++ ((pRoom s).now ++ [c]) = _
    rw [← h2, ← List.append_assoc]; rfl
  · show 1 ≤ (pRoom s).col + 1; omega
theorem Full.str {s : Pg} (h : Full s) (hcol : 1 ≤ s.col) (b : ByteArray) : Full (pStr s b) ∧ flat (pStr s b) = flat s ++ byt b ∧ 1 ≤ (pStr s b).col := by
  rw [pStr_fold]
  have hr : ∀ c ∈ byt b, 0 ≤ c ∧ c ≤ 255 := by
    intro c hc
    simp only [byt, List.mem_map] at hc
    obtain ⟨i, _, rfl⟩ := hc
    exact bt_range b _
  generalize byt b = l at *
  induction l generalizing s with
  | nil => exact ⟨h, by simp, hcol⟩
  | cons c l ih =>
    obtain ⟨h1, h2, h3⟩ := h.write c (hr c (List.mem_cons_self ..)) hcol
    obtain ⟨k1, k2, k3⟩ := ih h1 h3 (fun d hd => hr d (List.mem_cons_of_mem _ hd))
    exact ⟨k1, by rw [List.foldl_cons, k2, h2, List.append_assoc]; rfl, k3⟩
theorem Full.skip {s : Pg} (h : Full s) : ∀ k, Full (pSkip s k) ∧ flat (pSkip s k) = flat s
  | 0 => ⟨h, rfl⟩
  | k + 1 => by
    obtain ⟨h1, h2⟩ := h.skip k
    exact ⟨h1.end_.1, h1.end_.2.trans h2⟩
def retab (s : Pg) (l : List Int) : Pg := { s with tabs := l }
end Go.Proofs.Ytjamaccblokfkaa.P

-- from the text Fa
namespace Go.Proofs.Ytjamaccblokfkaa.P
open Go.RowKit Go.Shelf Go.Proofs.YtjamaccblokfkaaW.PrintWords Go.Proofs.YtjamaccblokfkaaW.PrintLast Go.Proofs.YtjamaccblokfkaaW.PrintMore
set_option linter.unusedVariables false
set_option linter.unusedSimpArgs false
attribute [local go_sem] Oper.semAt_some
/-- How many bytes other than blanks stand at a place. -/
def wordN (s : ByteArray) (k : Nat) : Nat := ((s.data.toList.drop k).takeWhile (fun b => b != 32)).length
theorem wordN_le (s : ByteArray) (k : Nat) : wordN s k ≤ s.size - k := by
  unfold wordN
  have h := (List.takeWhile_prefix (l := s.data.toList.drop k) (fun b => b != 32)).length_le
  rw [List.length_drop] at h
  exact h
theorem idx_word (c : UInt8) : ∀ l : List UInt8, (if Lib.indexByte l c < 0 then (l.length : Int) else Lib.indexByte l c) = ((l.takeWhile (fun b => b != c)).length : Int)
  | [] => by simp [Lib.indexByte]
  | b :: l => by
    have ih := idx_word c l
    have hge := Lib.indexByte_ge l c
    unfold Lib.indexByte
    by_cases hb : b = c
    · subst hb; simp
    · have h1 : (b == c) = false := by simp [hb]
      have h2 : (b != c) = true := by simp [hb]
      rw [List.takeWhile_cons_of_pos (p := fun b => b != c) h2]
      simp only [h1, Bool.false_eq_true, if_false, List.length_cons]
      by_cases hm : Lib.indexByte l c = -1
      · rw [hm] at ih
        simp [hm] at ih ⊢
        omega
      · have h3 : (Lib.indexByte l c == -1) = false := by simp [hm]
        simp only [h3, Bool.false_eq_true, if_false]
        rw [if_neg (by omega)] at ih
        rw [if_neg (by omega)]
        push_cast
        omega
theorem word_at (s : ByteArray) (k : Nat) (h : k ≤ s.size) : (if Lib.indexByte (s.extract k s.size).data.toList 32 < 0 then ((s.size - k : Nat) : Int) else Lib.indexByte (s.extract k s.size).data.toList 32) = (wordN s k : Int) := by
  have h0 : (s.extract k s.size).data.toList = s.data.toList.drop k := by
    rw [ByteArray.data_extract, Array.toList_extract]
    show (s.data.toList.extract k s.size) = _
    rw [List.extract_eq_take_drop]
    exact List.take_of_length_le (by rw [List.length_drop]; exact Nat.le_refl _)
  have := idx_word 32 (s.data.toList.drop k)
  rw [h0]
  have hl : (s.data.toList.drop k).length = s.size - k := by rw [List.length_drop]; rfl
  rw [hl] at this
  exact this
theorem word_end (s : ByteArray) (k : Nat) (h : s.size ≤ k) : wordN s k = 0 := by have := wordN_le s k; omega
theorem word_blank (s : ByteArray) (k : Nat) (h : k < s.size) (hb : bt s (k : Int) = 32) : wordN s k = 0 := by
  unfold wordN
  rw [List.drop_eq_getElem_cons (show k < s.data.toList.length from h), List.takeWhile_cons_of_neg, List.length_nil]
  unfold bt at hb
  rw [dif_pos (show (k : Int).toNat < s.size from h)] at hb
  have : (s.data.toList[k]'h) = 32 := UInt8.toNat_inj.1 (by have hb' : (((s[(k : Int).toNat]'h).toNat : Nat) : Int) = 32 := hb; exact_mod_cast hb')
  simp [this]
theorem word_more (s : ByteArray) (k : Nat) (h : k < s.size) (hb : bt s (k : Int) ≠ 32) : wordN s k = wordN s (k + 1) + 1 := by
  unfold wordN
  rw [List.drop_eq_getElem_cons (show k < s.data.toList.length from h), List.takeWhile_cons_of_pos, List.length_cons]
  unfold bt at hb
  rw [dif_pos (show (k : Int).toNat < s.size from h)] at hb
  have : (s.data.toList[k]'h) ≠ 32 := fun e => hb (by have e2 := congrArg UInt8.toNat e; show (((s.data.toList[k]'h).toNat : Nat) : Int) = 32; rw [e2]; rfl)
  show (s.data.toList[k]'h != 32) = true
  simp only [bne_iff_ne]; exact this
/-- What the iterator yields at a place. -/
def encB (s : ByteArray) (i : Nat) : Array Value := #[.int .u8 (bt s (i : Int)), .int .i64 (wordN s (i + 1) : Int)]
set_option maxRecDepth 100000 in
set_option maxHeartbeats 4000000 in
theorem bytes_in (n : Nat) (hn : 1 ≤ n) (l b : Nat) (s : ByteArray) (hs : s.size ≤ 20000) (J Jx : List Nat → World → Prop)
    (hY : ∀ pre x W, J pre W → pre.length < s.size → YieldAt Fence.wide (n - 1) Try.prog l (encB s x) W fun e W' =>
      (e = .returned (.bool true) ∧ J (pre ++ [x]) W' ∧ W'.heap[b]? = W.heap[b]?) ∨ (e = .returned (.bool false) ∧ Jx (pre ++ [x]) W'))
    (W : World) (hb : W.heap[b]? = some (.cells #[.string s] 9 (0, 0))) (h0 : J [] W) :
    CallsIn Fence.wide n Try.prog 52 #[.func (.yield l) #[] #[], .pointer (some ⟨b, 0, none⟩)] W fun e W' => (∃ v, e = .returned v) ∧
      ((∃ ys, ys = List.range s.size ∧ J ys W') ∨ (∃ pre, pre <+: List.range s.size ∧ Jx pre W')) := by
  refine callsIn_of_wp Try.func52 rfl trivial ?_ rfl
  simp only [Try.ntmps52, List.size_toArray, List.length_cons, List.length_nil, Nat.reduceAdd, Nat.reduceSub, Array.replicate_succ, Array.replicate_zero, List.push_toArray, List.append_toArray, List.nil_append, List.cons_append]
  have q0 := (blk_cell hb 0).trans rfl
  gi_wp2
  gi_loopw [3, 4, 7] (fun _ _ i wr => ∃ j : Nat, i = .int .i64 (j : Int) ∧ j ≤ s.size ∧ J (List.range j) wr ∧ wr.heap[b]? = W.heap[b]?)
    (fun _ _ i _ => s.size - (intOf i).toNat)
  case atStart => exact ⟨0, rfl, Nat.zero_le _, h0, rfl⟩
  case round =>
    obtain ⟨j, rfl, hj, hJs, hnx⟩ := hrel
    have r0 := (blk_cell (hnx.trans hb) 0).trans rfl
    by_cases hlt : j < s.size
    · have q1 : (j : Int) < (s.size : Int) := by omega
      have q2 : (0 : Int) ≤ (j : Int) := by omega
      have q3 : (0 : Int) ≤ (j : Int) + 1 := by omega
      have q4 : (j : Int) + 1 ≤ (s.size : Int) := by omega
      have hw1 : wrap64 ((j : Int) + 1) = (j : Int) + 1 := by unfold wrap64; omega
      obtain ⟨ix, hix⟩ : ∃ ix, Lib.indexByte (s.extract (j + 1) s.size).data.toList 32 = ix := ⟨_, rfl⟩
      have hW := word_at s (j + 1) (by omega)
      rw [hix] at hW
      have HI := Aside0.mk (fun W => show Calls Try.prog 53 #[.string (s.extract (j + 1) s.size), .int .u8 32] W fun e w' => e = .returned (.int .i64 ix) ∧ w' = W from hix ▸ Try.strings_IndexByte (s.extract (j + 1) s.size) 32 W)
      have hixl : ix ≤ 20000 := by have := wordN_le s (j + 1); split at hW <;> omega
      have hixg : -1 ≤ ix := hix ▸ Lib.indexByte_ge _ _
      have hww := wordN_le s (j + 1)
      obtain ⟨fn, tmps, assign, body, hy, hR⟩ := hY (List.range j) j wr hJs (by rw [List.length_range]; exact hlt)
      simp only [encB, show bt s (j : Int) = ((s[j]'hlt).toNat : Int) from dif_pos hlt] at hy
      have HR := Aside0.mk hR
      clear hR hix
      have he : List.range j ++ [j] = List.range (j + 1) := List.range_succ.symm
      have hp2 : List.range (j + 1) <+: List.range s.size := by
        obtain ⟨d, hd⟩ : ∃ d, s.size = j + 1 + d := ⟨s.size - (j + 1), by omega⟩
        rw [hd, List.range_add (n := j + 1)]
        exact List.prefix_append _ _
      rw [he] at HR
      by_cases hneg : ix < 0
      · rw [if_pos hneg] at hW
        rw [show (wordN s (j + 1) : Int) = (s.size : Int) - (j : Int) - 1 by omega] at hy
        clear hW hww
        gi_wp2_with (first | (refine ⟨trivial, ?_⟩; gi_at_call 53; refine (callsIn_wide.2 (HI.out _)).mono ?_; rintro e w1 ⟨rfl, rfl⟩) | (refine HR.out.mono ?_; rintro e W3 (⟨rfl, hJ3, hk3⟩ | ⟨rfl, hJx3⟩)))
        · exact ⟨⟨j + 1, by push_cast; rfl, hlt, hJ3, hk3.trans hnx⟩, by simp [intOf]; omega⟩
        · refine bodyPost_ret (results_none rfl _ _ _) rfl ?_
          exact ⟨⟨_, rfl⟩, .inr ⟨_, hp2, hJx3⟩⟩
      · rw [if_neg hneg] at hW
        subst hW
        clear hww
        gi_wp2_with (first | (refine ⟨trivial, ?_⟩; gi_at_call 53; refine (callsIn_wide.2 (HI.out _)).mono ?_; rintro e w1 ⟨rfl, rfl⟩) | (refine HR.out.mono ?_; rintro e W3 (⟨rfl, hJ3, hk3⟩ | ⟨rfl, hJx3⟩)))
        · exact ⟨⟨j + 1, by push_cast; rfl, hlt, hJ3, hk3.trans hnx⟩, by simp [intOf]; omega⟩
        · refine bodyPost_ret (results_none rfl _ _ _) rfl ?_
          exact ⟨⟨_, rfl⟩, .inr ⟨_, hp2, hJx3⟩⟩
    · obtain rfl : j = s.size := by omega
      have q1 : ¬ (s.size : Int) < (s.size : Int) := by omega
      gi_wp2
      go_end0
      exact ⟨⟨_, rfl⟩, .inl hJs⟩
/-- What the iterator tells. -/
theorem bytes_stops (n : Nat) (hn : 1 ≤ n) (b : Nat) (s : ByteArray) (hs : s.size ≤ 20000) (w : World) (hb : w.heap[b]? = some (.cells #[.string s] 9 (0, 0))) :
    SeqStopsK Fence.wide n Try.prog 52 #[.pointer (some ⟨b, 0, none⟩)] (encB s) (fun A B => B.heap[b]? = A.heap[b]?) (fun ys => ys = List.range s.size) (fun pre => pre <+: List.range s.size) s.size w := fun l J Jx W hW _ _ hY h0 =>
  bytes_in n hn l b s hs J Jx hY W (blk_below hb hW) h0
end Go.Proofs.Ytjamaccblokfkaa.P

-- from the text Fb
namespace Go.Proofs.Ytjamaccblokfkaa.P
open Go.RowKit Go.Shelf Go.Proofs.YtjamaccblokfkaaW.PrintWords Go.Proofs.YtjamaccblokfkaaW.PrintLast Go.Proofs.YtjamaccblokfkaaW.PrintMore
set_option linter.unusedVariables false
set_option linter.unusedSimpArgs false
/-- What Fill holds in memory: the line's size, the function end, the text, what was cut off (ov) and the line under way (nv). -/
structure FV (w0 : World) (b3 b6 b7 b8 b : Nat) (s : ByteArray) (line : Int) (W : World) (ov nv : Value) (out : List ByteArray) (now : List Int) : Prop where
  below : Below w0.heap.size w0 W
  line : W.heap[b3]? = some (.cells #[.int .i64 line] 3 (0, 0))
  fn : W.heap[b8]? = some (.cells #[.func (.func 35) #[] #[.pointer (some ⟨b6, 0, none⟩), .pointer (some ⟨b7, 0, none⟩)]] 1 (0, 0))
  txt : W.heap[b]? = some (.cells #[.string s] 9 (0, 0))
  m6 : W.heap[b6]? = some (.cells #[ov] 34 (0, 0))
  m7 : W.heap[b7]? = some (.cells #[nv] 48 (0, 0))
  r9 : W.ownsRow w0.heap.size 9 1 ov out.length (strs out)
  r5 : W.ownsRow w0.heap.size 5 1 nv now.length (nums .u8 now)
  ne : ov.ownBlock ≠ some b
  g6 : w0.heap.size ≤ b6
  g7 : w0.heap.size ≤ b7
def FM (w0 : World) (b3 b6 b7 b8 b : Nat) (s : ByteArray) (line : Int) (W : World) (out : List ByteArray) (now : List Int) : Prop := ∃ ov nv, FV w0 b3 b6 b7 b8 b s line W ov nv out now
section
variable {w0 W w2 : World} {b3 b6 b7 b8 b : Nat} {s : ByteArray} {line : Int} {ov nv : Value} {out : List ByteArray} {now : List Int}
theorem FV.cut (h : FV w0 b3 b6 b7 b8 b s line W ov nv out now) {g cap : Nat} {t : ByteArray} (hrow : w2.ownsRow w0.heap.size 9 1 (.slice (some ⟨g, 0, none⟩) (out.length + 1) cap) (out.length + 1) (strs out ++ [.string t]))
    (hkeep : ∀ k, k < W.heap.size → ov.ownBlock ≠ some k → w2.heap[k]? = W.heap[k]?) (hb : Below w0.heap.size W w2) (hat : ov.ownBlock = some g ∨ W.heap.size ≤ g) :
    FV w0 b3 b6 b7 b8 b s line ((w2.setCell ⟨b6, 0, none⟩ (.slice (some ⟨g, 0, none⟩) (out.length + 1) cap)).setCell ⟨b7, 0, none⟩ (.slice none 0 0)) (.slice (some ⟨g, 0, none⟩) (out.length + 1) cap) (.slice none 0 0) (out ++ [t]) [] := by
  have tn : ∀ {k : Nat} {cs : Array Value} {ty : TypeId}, W.heap[k]? = some (.cells cs ty (0, 0)) → 9 ≠ ty → ov.ownBlock ≠ some k := fun hk hne e => by
    obtain ⟨cs, hc⟩ := own_type h.r9 e
    exact type_ne hc hk hne rfl
  have k3 : w2.heap[b3]? = W.heap[b3]? := hkeep _ (blk_lt' h.line) (tn h.line (by decide))
  have k8 : w2.heap[b8]? = W.heap[b8]? := hkeep _ (blk_lt' h.fn) (tn h.fn (by decide))
  have kb : w2.heap[b]? = W.heap[b]? := hkeep _ (blk_lt' h.txt) h.ne
  have k6 := (hkeep _ (blk_lt' h.m6) (tn h.m6 (by decide))).trans h.m6
  have k7 := (hkeep _ (blk_lt' h.m7) (tn h.m7 (by decide))).trans h.m7
  have n67 : b6 ≠ b7 := type_ne h.m6 h.m7 (by decide)
  have far : ∀ k, k ≠ b6 → k ≠ b7 → ((w2.setCell ⟨b6, 0, none⟩ (.slice (some ⟨g, 0, none⟩) (out.length + 1) cap)).setCell ⟨b7, 0, none⟩ (.slice none 0 0)).heap[k]? = w2.heap[k]? := fun k h1 h2 => (Below.heap_setCell _ _ _ k h2).trans (Below.heap_setCell _ _ _ k h1)
  refine ⟨((h.below.trans hb).setCell (p := ⟨b6, 0, none⟩) h.g6 _).setCell (p := ⟨b7, 0, none⟩) h.g7 _, ?_, ?_, ?_, ?_, ?_, ?_, World.ownsRow_nil _ _ _ _, ?_, h.g6, h.g7⟩
  · exact (far _ (type_ne h.line h.m6 (by decide)) (type_ne h.line h.m7 (by decide))).trans (k3.trans h.line)
  · exact (far _ (type_ne h.fn h.m6 (by decide)) (type_ne h.fn h.m7 (by decide))).trans (k8.trans h.fn)
  · exact (far _ (type_ne h.txt h.m6 (by decide)) (type_ne h.txt h.m7 (by decide))).trans (kb.trans h.txt)
  · exact blk_far (blk_put k6 0 _ rfl) (p := ⟨b7, 0, none⟩) n67 _
  · exact blk_put (blk_far k7 (p := ⟨b6, 0, none⟩) n67.symm _) 0 _ rfl
  · have hl : (out ++ [t]).length = out.length + 1 := by rw [List.length_append]; rfl
    have hs : strs (out ++ [t]) = strs out ++ [.string t] := by simp [strs]
    rw [hl, hs]
    exact ownsRow_kept hrow (fun k e => by
      obtain ⟨cs, hc⟩ := own_type hrow e
      exact far k (type_ne hc k6 (by decide)) (type_ne hc k7 (by decide)))
  · intro e
    have e2 : g = b := by simpa [Value.ownBlock] using e
    subst e2
    rcases hat with e | e
    · exact h.ne e
    · exact Nat.lt_irrefl _ (Nat.lt_of_lt_of_le (blk_lt' h.txt) e)
theorem FV.byte (h : FV w0 b3 b6 b7 b8 b s line W ov nv out now) {nv' : Value} {c : Int} (hrow : w2.ownsRow w0.heap.size 5 1 nv' (now.length + 1) (nums .u8 now ++ [.int .u8 c]))
    (hkeep : ∀ k, k < W.heap.size → nv.ownBlock ≠ some k → w2.heap[k]? = W.heap[k]?) (hb : Below w0.heap.size W w2) :
    FV w0 b3 b6 b7 b8 b s line (w2.setCell ⟨b7, 0, none⟩ nv') ov nv' out (now ++ [c]) := by
  have tn : ∀ {k : Nat} {cs : Array Value} {ty : TypeId}, W.heap[k]? = some (.cells cs ty (0, 0)) → 5 ≠ ty → nv.ownBlock ≠ some k := fun hk hne e => by
    obtain ⟨cs, hc⟩ := own_type h.r5 e
    exact type_ne hc hk hne rfl
  have k3 : w2.heap[b3]? = W.heap[b3]? := hkeep _ (blk_lt' h.line) (tn h.line (by decide))
  have k8 : w2.heap[b8]? = W.heap[b8]? := hkeep _ (blk_lt' h.fn) (tn h.fn (by decide))
  have kb : w2.heap[b]? = W.heap[b]? := hkeep _ (blk_lt' h.txt) (tn h.txt (by decide))
  have k6 := (hkeep _ (blk_lt' h.m6) (tn h.m6 (by decide))).trans h.m6
  have k7 := (hkeep _ (blk_lt' h.m7) (tn h.m7 (by decide))).trans h.m7
  have n67 : b6 ≠ b7 := type_ne h.m6 h.m7 (by decide)
  have far : ∀ k, k ≠ b7 → (w2.setCell ⟨b7, 0, none⟩ nv').heap[k]? = w2.heap[k]? := fun k h2 => Below.heap_setCell _ _ _ k h2
  have hl : (now ++ [c]).length = now.length + 1 := by rw [List.length_append]; rfl
  have hs : nums .u8 (now ++ [c]) = nums .u8 now ++ [.int .u8 c] := by simp [nums]
  refine ⟨(h.below.trans hb).setCell (p := ⟨b7, 0, none⟩) h.g7 _, ?_, ?_, ?_, ?_, blk_put k7 0 _ rfl, ?_, ?_, h.ne, h.g6, h.g7⟩
  · exact (far _ (type_ne h.line h.m7 (by decide))).trans (k3.trans h.line)
  · exact (far _ (type_ne h.fn h.m7 (by decide))).trans (k8.trans h.fn)
  · exact (far _ (type_ne h.txt h.m7 (by decide))).trans (kb.trans h.txt)
  · exact (far _ n67).trans k6
  · refine ownsRow_kept h.r9 (fun k e => ?_)
    obtain ⟨cs, hc⟩ := own_type h.r9 e
    exact (far k (type_ne hc h.m7 (by decide))).trans (hkeep k (blk_lt' hc) (tn hc (by decide)))
  · rw [hl, hs]
    exact ownsRow_kept hrow (fun k e => by
      obtain ⟨cs, hc⟩ := own_type hrow e
      exact far k (type_ne hc k7 (by decide)))
/-- One line more behind what was cut off. -/
theorem wl_line {ops : Array Oper} {rest : List Oper} {o : Oper} {a : Act} {Q : Exit → Act → World → Prop} {V : World} {x y : Operand} (t : ByteArray) (h : FV w0 b3 b6 b7 b8 b s line W ov nv out now) (hgd : o.guard = none)
    (ho : o.op = .call { callee := .builtin .append, args := #[x, y], argTypes := #[34, 34] }) (hs : a.eval x = ov) (hx : a.eval y = .slice (some ⟨W.heap.size, 0, none⟩) 1 1) (hV : V = W.alloc (.cells #[.string t] 9 (0, 0))) (hn : out.length ≤ 1000000)
    (hK : ∀ g cap w2, w2.heap[b6]? = W.heap[b6]? → w2.heap[b7]? = W.heap[b7]? → KeepsOthers W w2 →
      FV w0 b3 b6 b7 b8 b s line ((w2.setCell ⟨b6, 0, none⟩ (.slice (some ⟨g, 0, none⟩) (out.length + 1) cap)).setCell ⟨b7, 0, none⟩ (.slice none 0 0)) (.slice (some ⟨g, 0, none⟩) (out.length + 1) cap) (.slice none 0 0) (out ++ [t]) [] →
      wpList Try.prog ops Q rest (a.put o.dst (.slice (some ⟨g, 0, none⟩) (out.length + 1) cap)) w2) : wpList Try.prog ops Q (o :: rest) a V := by
  subst hV
  have hb := (Below.refl W.heap.size W).alloc (Nat.le_refl _) (.cells #[.string t] 9 (0, 0))
  have hrow := ownsRow_kept (w' := W.alloc (.cells #[.string t] 9 (0, 0))) h.r9 (fun k e => hb.block k (h.r9.lt k e).2)
  obtain ⟨i0, hi, hz0, hz1, hz2⟩ := info_parts info9
  have hB : w0.heap.size ≤ W.heap.size := h.below.size
  refine wpList_append_lies _ hgd x y 34 ho w0.heap.size 9 i0 _ 1 16 Try.underlying34 hi hz0 hz1 hz2 rfl (by decide) ov out.length (strs out) hs hrow ⟨W.heap.size, 0, none⟩ 1 1 [.string t] hx rfl
    (fun j u hj => by rw [add_plain]; exact (blk_cell (blk_new W _) j).trans (by simpa using hj)) (by simp [Value.oneCell']) (by decide) (by simp only [maxLen]; omega) (by omega) (Nat.le_trans hB hb.size) _ rfl ?_
  intro g cap w2 hown hgrow hat hlt
  have tn : ∀ {k : Nat} {cs : Array Value} {ty : TypeId}, W.heap[k]? = some (.cells cs ty (0, 0)) → 9 ≠ ty → ov.ownBlock ≠ some k := fun hk hne e => by
    obtain ⟨cs, hc⟩ := own_type h.r9 e
    exact type_ne hc hk hne rfl
  have hkeep : ∀ k, k < W.heap.size → ov.ownBlock ≠ some k → w2.heap[k]? = W.heap[k]? := fun k hk hn => (hgrow.block k (Nat.lt_of_lt_of_le hk hb.size) (fun e => hn e.symm)).trans (hb.block k hk)
  have hbw : Below w0.heap.size W w2 := (hb.mono hB).grown hgrow (Nat.le_trans hB hb.size) (fun k e => (h.r9.lt k e).1)
  refine hK g cap w2 (hkeep _ (blk_lt' h.m6) (tn h.m6 (by decide))) (hkeep _ (blk_lt' h.m7) (tn h.m7 (by decide))) ((KeepsOthers.alloc _ _).trans (KeepsOthers.of_grownBy hgrow (fun j o e ho => ?_))) (h.cut hown hkeep hbw ?_)
  · obtain ⟨cs, hc⟩ := own_type hrow e
    rw [hc] at ho
    cases ho
    rfl
  · rcases hat with e | e
    · exact .inl e
    · right; rw [e]; exact hb.size
/-- One byte more on the line under way (inside a loop over a function). -/
theorem wl_byte {F : Fence} {n : Nat} {ops : Array Oper} {rest : List Oper} {o : Oper} {a : Act} {Q : Exit → Act → World → Prop} {V : World} {x y : Operand} (c : Int) (h : FV w0 b3 b6 b7 b8 b s line W ov nv out now) (hgd : o.guard = none)
    (ho : o.op = .call { callee := .builtin .append, args := #[x, y], argTypes := #[48, 48] }) (hs : a.eval x = nv) (hx : a.eval y = .slice (some ⟨W.heap.size, 0, none⟩) 1 1) (hV : V = W.alloc (.cells #[.int .u8 c] 5 (0, 0))) (hn : now.length ≤ 1000000)
    (hK : ∀ A2 c2 w2, w2.heap[b7]? = W.heap[b7]? → KeepsOthers W w2 → FV w0 b3 b6 b7 b8 b s line (w2.setCell ⟨b7, 0, none⟩ (.slice A2 (now.length + 1) c2)) ov (.slice A2 (now.length + 1) c2) out (now ++ [c]) → wpListIn F n Try.prog ops Q rest (a.put o.dst (.slice A2 (now.length + 1) c2)) w2) : wpListIn F n Try.prog ops Q (o :: rest) a V := by
  subst hV
  have hb := (Below.refl W.heap.size W).alloc (Nat.le_refl _) (.cells #[.int .u8 c] 5 (0, 0))
  have hrow := ownsRow_kept (w' := W.alloc (.cells #[.int .u8 c] 5 (0, 0))) h.r5 (fun k e => hb.block k (h.r5.lt k e).2)
  obtain ⟨i0, hi, hz0, hz1, hz2⟩ := info_parts info5
  have hB : w0.heap.size ≤ W.heap.size := h.below.size
  refine wpListIn_append_own _ hgd x y 48 ho w0.heap.size 5 i0 _ 1 1 Try.underlying48 hi hz0 hz1 hz2 rfl (by decide) nv now.length (nums .u8 now) hs hrow ⟨W.heap.size, 0, none⟩ 1 1 [.int .u8 c] hx rfl
    (fun j u hj => by rw [add_plain]; exact (blk_cell (blk_new W _) j).trans (by simpa using hj)) (by simp [Value.oneCell']) (by simp only [maxLen]; omega) (by omega) (Nat.le_trans hB hb.size) ?_
  intro v' w2 hown hgrow _
  have tn : ∀ {k : Nat} {cs : Array Value} {ty : TypeId}, W.heap[k]? = some (.cells cs ty (0, 0)) → 5 ≠ ty → nv.ownBlock ≠ some k := fun hk hne e => by
    obtain ⟨cs, hc⟩ := own_type h.r5 e
    exact type_ne hc hk hne rfl
  have hkeep : ∀ k, k < W.heap.size → nv.ownBlock ≠ some k → w2.heap[k]? = W.heap[k]? := fun k hk hn => (hgrow.block k (Nat.lt_of_lt_of_le hk hb.size) (fun e => hn e.symm)).trans (hb.block k hk)
  have hbw : Below w0.heap.size W w2 := (hb.mono hB).grown hgrow (Nat.le_trans hB hb.size) (fun k e => (h.r5.lt k e).1)
  obtain ⟨A2, c2, rfl⟩ := own_slice hown
  refine hK A2 c2 w2 (hkeep _ (blk_lt' h.m7) (tn h.m7 (by decide))) ((KeepsOthers.alloc _ _).trans (KeepsOthers.of_grownBy hgrow (fun j o e ho => ?_))) (h.byte hown hkeep hbw)
  obtain ⟨cs, hc⟩ := own_type hrow e
  rw [hc] at ho
  cases ho
  rfl
end
set_option maxRecDepth 100000 in
set_option maxHeartbeats 4000000 in
/-- Fill$1: a line is cut off. -/
theorem fend_is (w0 : World) (b3 b6 b7 b8 b : Nat) (s : ByteArray) (line : Int) (out : List ByteArray) (now : List Int) (W : World) (h : FM w0 b3 b6 b7 b8 b s line W out now) (hn : out.length ≤ 1000000) :
    Calls Try.prog 35 #[.pointer (some ⟨b6, 0, none⟩), .pointer (some ⟨b7, 0, none⟩)] W fun e w' => e = .returned (.tuple #[]) ∧ KeepsOthers W w' ∧ FM w0 b3 b6 b7 b8 b s line w' (out ++ [strOfNums now]) [] := by
  obtain ⟨ov, nv, hv⟩ := h
  have HV := Aside0.mk hv
  have c6 := (blk_cell hv.m6 0).trans rfl
  have c7 := (blk_cell hv.m7 0).trans rfl
  have hcv := own_string Try.underlying48 Try.underlying5 Try.underlying9 hv.r5
  have n67 : b6 ≠ b7 := type_ne hv.m6 hv.m7 (by decide)
  obtain ⟨A, c, rfl⟩ := own_slice hv.r9
  clear hv
  go_enter Try.func35, Try.ntmps35
  go_wp2_with ((with_reducible refine gate_dst (N := 6) rfl ?_); refine wl_line (strOfNums now) HV.out rfl rfl rfl rfl rfl hn ?_; intro g cap w2 e6 e7 hko hfv; have HF := Aside0.mk hfv; have HK := Aside0.mk hko; have d6 := (blk_cell (e6.trans HV.out.m6) 0).trans rfl; have f6 := blk_frozen (e6.trans HV.out.m6) 0; have d7 := (blk_cell (blk_far (e7.trans HV.out.m7) (p := ⟨b6, 0, none⟩) n67.symm (.slice (some ⟨g, 0, none⟩) (out.length + 1) cap)) 0).trans rfl; have f7 := blk_frozen (blk_far (e7.trans HV.out.m7) (p := ⟨b6, 0, none⟩) n67.symm (.slice (some ⟨g, 0, none⟩) (out.length + 1) cap)) 0; clear e6 e7 hfv hko c6 c7)
  go_end0
  exact ⟨rfl, HK.out.trans ((KeepsOthers.setCell _ _ _).trans (KeepsOthers.setCell _ _ _)), _, _, HF.out⟩
end Go.Proofs.Ytjamaccblokfkaa.P

-- from the text Fc
namespace Go.Proofs.Ytjamaccblokfkaa.P
open Go.RowKit Go.Shelf Go.Proofs.YtjamaccblokfkaaW.PrintWords Go.Proofs.YtjamaccblokfkaaW.PrintLast Go.Proofs.YtjamaccblokfkaaW.PrintMore
set_option linter.unusedVariables false
set_option linter.unusedSimpArgs false
attribute [local go_sem] Oper.semAt_some
/-- One byte of a text that is cut into lines. -/
def fillS (s : ByteArray) (line : Int) (st : List ByteArray × List Int) (x : Nat) : List ByteArray × List Int :=
  if bt s (x : Int) = 32 ∧ (st.2.length : Int) + 1 + (wordN s (x + 1) : Int) > line then (st.1 ++ [strOfNums st.2], [])
  else if (st.2.length : Int) = line then (st.1 ++ [strOfNums st.2], [bt s (x : Int)])
  else (st.1, st.2 ++ [bt s (x : Int)])
def fillF (s : ByteArray) (line : Int) (l : List Nat) : List ByteArray × List Int := l.foldl (fillS s line) ([], [])
theorem fillF_snoc (s : ByteArray) (line : Int) (l : List Nat) (x : Nat) : fillF s line (l ++ [x]) = fillS s line (fillF s line l) x := by
  unfold fillF
  rw [List.foldl_append]
  rfl
theorem fillS_bound (s : ByteArray) (line : Int) (st : List ByteArray × List Int) (x : Nat) : (fillS s line st x).1.length ≤ st.1.length + 1 ∧ (fillS s line st x).2.length ≤ st.2.length + 1 := by
  unfold fillS
  split
  · simp
  · split <;> simp
theorem fold_bound (s : ByteArray) (line : Int) : ∀ (l : List Nat) (st : List ByteArray × List Int), (l.foldl (fillS s line) st).1.length ≤ st.1.length + l.length ∧ (l.foldl (fillS s line) st).2.length ≤ st.2.length + l.length
  | [], st => ⟨Nat.le_refl _, Nat.le_refl _⟩
  | x :: l, st => by
    have h1 := fillS_bound s line st x
    have h2 := fold_bound s line l (fillS s line st x)
    simp only [List.foldl_cons, List.length_cons]
    omega
theorem fillF_bound (s : ByteArray) (line : Int) (l : List Nat) : (fillF s line l).1.length ≤ l.length ∧ (fillF s line l).2.length ≤ l.length := by
  have := fold_bound s line l ([], [])
  unfold fillF
  simpa using this
/-- The lines of a text. -/
def fillL (s : ByteArray) (line : Int) : List ByteArray :=
  let st := fillF s line (List.range s.size)
  if (st.2.length : Int) > 0 then st.1 ++ [strOfNums st.2] else st.1
theorem FV.other {w0 W W' : World} {b3 b6 b7 b8 b : Nat} {s : ByteArray} {line : Int} {ov nv : Value} {out : List ByteArray} {now : List Int} {row : Option Nat} (h : FV w0 b3 b6 b7 b8 b s line W ov nv out now) (hg : W.grownBy W' row) (hr : ∀ r, row = some r → w0.heap.size ≤ r ∧ ∃ o : Obj, W.heap[r]? = some o ∧ o.isCells = false) :
    FV w0 b3 b6 b7 b8 b s line W' ov nv out now := by
  have hk : ∀ {k : Nat} {cs : Array Value} {t : TypeId}, W.heap[k]? = some (.cells cs t (0, 0)) → W'.heap[k]? = some (.cells cs t (0, 0)) := fun h1 => (hg.block _ (blk_lt' h1) (fun e => by obtain ⟨_, o, ho, hc⟩ := hr _ e.symm; rw [h1] at ho; cases ho; cases hc)).trans h1
  have hrow : ∀ {e : TypeId} {v : Value} {n : Nat} {xs : List Value}, W.ownsRow w0.heap.size e 1 v n xs → W'.ownsRow w0.heap.size e 1 v n xs := fun h1 => ownsRow_kept h1 (fun k e => by obtain ⟨cs, hc⟩ := own_type h1 e; exact (hk hc).trans hc.symm)
  exact ⟨h.below.grown hg h.below.size (fun k e => (hr k e).1), hk h.line, hk h.fn, hk h.txt, hk h.m6, hk h.m7, hrow h.r9, hrow h.r5, h.ne, h.g6, h.g7⟩
theorem FM.other {w0 W W' : World} {b3 b6 b7 b8 b : Nat} {s : ByteArray} {line : Int} {out : List ByteArray} {now : List Int} {row : Option Nat} (h : FM w0 b3 b6 b7 b8 b s line W out now) (hg : W.grownBy W' row) (hr : ∀ r, row = some r → w0.heap.size ≤ r ∧ ∃ o : Obj, W.heap[r]? = some o ∧ o.isCells = false) :
    FM w0 b3 b6 b7 b8 b s line W' out now := by
  obtain ⟨ov, nv, hv⟩ := h
  exact ⟨ov, nv, hv.other hg hr⟩
theorem bytes_is (s : ByteArray) (w : World) : Calls Try.prog 36 #[.string s] w fun e w' => e = .returned (.func (.func 52) #[] #[.pointer (some ⟨w.heap.size, 0, none⟩)]) ∧ w'.heap[w.heap.size]? = some (.cells #[.string s] 9 (0, 0)) ∧ Below w.heap.size w w' := by
  go_enter Try.func36, Try.ntmps36
  go_wp2_with fail
  go_ret
  exact ⟨rfl, blk_new w _, (Below.refl w.heap.size w).alloc (Nat.le_refl _) _⟩
theorem FV.start {w w2 w4 : World} {s : ByteArray} {line : Int} {W3 : World} (hB : Below w.heap.size w w2) (h3 : w2.heap[w.heap.size]? = some (.cells #[.int .i64 line] 3 (0, 0)))
    (hW3 : W3 = ((w2.alloc (.cells #[.slice none 0 0] 34 (0, 0))).alloc (.cells #[.slice none 0 0] 48 (0, 0))).alloc (.cells #[.func (.func 35) #[] #[.pointer (some ⟨w2.heap.size, 0, none⟩), .pointer (some ⟨w2.heap.size + 1, 0, none⟩)]] 1 (0, 0)))
    (hb : w4.heap[W3.heap.size]? = some (.cells #[.string s] 9 (0, 0))) (h4 : Below W3.heap.size W3 w4) :
    FV w w.heap.size w2.heap.size (w2.heap.size + 1) (w2.heap.size + 1 + 1) W3.heap.size s line w4 (.slice none 0 0) (.slice none 0 0) [] [] := by
  have hle := hB.size
  have e1 : (w2.alloc (.cells #[.slice none 0 0] 34 (0, 0))).heap.size = w2.heap.size + 1 := World.size_alloc _ _
  have e2 : ((w2.alloc (.cells #[.slice none 0 0] 34 (0, 0))).alloc (.cells #[.slice none 0 0] 48 (0, 0))).heap.size = w2.heap.size + 1 + 1 := by rw [World.size_alloc, e1]
  have r6 := blk_alloc (blk_alloc (blk_new w2 (.cells #[.slice none 0 0] 34 (0, 0))) (.cells #[.slice none 0 0] 48 (0, 0))) (.cells #[.func (.func 35) #[] #[.pointer (some ⟨w2.heap.size, 0, none⟩), .pointer (some ⟨w2.heap.size + 1, 0, none⟩)]] 1 (0, 0))
  have r7 := blk_alloc (blk_new (w2.alloc (.cells #[.slice none 0 0] 34 (0, 0))) (.cells #[.slice none 0 0] 48 (0, 0))) (.cells #[.func (.func 35) #[] #[.pointer (some ⟨w2.heap.size, 0, none⟩), .pointer (some ⟨w2.heap.size + 1, 0, none⟩)]] 1 (0, 0))
  have r8 := blk_new ((w2.alloc (.cells #[.slice none 0 0] 34 (0, 0))).alloc (.cells #[.slice none 0 0] 48 (0, 0))) (.cells #[.func (.func 35) #[] #[.pointer (some ⟨w2.heap.size, 0, none⟩), .pointer (some ⟨w2.heap.size + 1, 0, none⟩)]] 1 (0, 0))
  have r3 := blk_alloc (blk_alloc (blk_alloc h3 (.cells #[.slice none 0 0] 34 (0, 0))) (.cells #[.slice none 0 0] 48 (0, 0))) (.cells #[.func (.func 35) #[] #[.pointer (some ⟨w2.heap.size, 0, none⟩), .pointer (some ⟨w2.heap.size + 1, 0, none⟩)]] 1 (0, 0))
  have hBB := ((hB.alloc hB.size (.cells #[.slice none 0 0] 34 (0, 0))).alloc (by rw [e1]; omega) (.cells #[.slice none 0 0] 48 (0, 0))).alloc (by rw [e2]; omega) (.cells #[.func (.func 35) #[] #[.pointer (some ⟨w2.heap.size, 0, none⟩), .pointer (some ⟨w2.heap.size + 1, 0, none⟩)]] 1 (0, 0))
  rw [e1] at r7
  rw [e2] at r8
  rw [← hW3] at r3 r6 r7 r8 hBB
  exact ⟨hBB.trans (h4.mono hBB.size), blk_below r3 h4, blk_below r8 h4, hb, blk_below r6 h4, blk_below r7 h4, World.ownsRow_nil _ _ _ _, World.ownsRow_nil _ _ _ _, (fun e => by cases e), by omega, by omega⟩
/-- The activation in a round. -/
def actF (s : ByteArray) (line : Int) (b b3 b6 b7 b8 x : Nat) : Act :=
  { tmps := #[.string s, .int .i64 line, undef, .pointer (some ⟨b3, 0, none⟩), .slice none 0 0, .int .i64 0, .pointer (some ⟨b6, 0, none⟩), .pointer (some ⟨b7, 0, none⟩), .pointer (some ⟨b8, 0, none⟩), .int .u8 (bt s (x : Int)), .int .i64 (wordN s (x + 1) : Int), .bool false, .string s, .bool true, .bool false, .bool (decide (20000 < (s.size : Int))), .string s, .int .i64 (s.size : Int), .bool (decide (20000 < (s.size : Int))), .bool false, .int .i64 line, .bool true, .bool false,
    .func (.func 35) #[] #[.pointer (some ⟨b6, 0, none⟩), .pointer (some ⟨b7, 0, none⟩)], .string s, .func (.func 52) #[] #[.pointer (some ⟨b, 0, none⟩)], .int .u8 (bt s (x : Int)), .int .i64 (wordN s (x + 1) : Int), undef, undef, undef, undef, undef, undef, undef, undef, undef, undef, undef, undef, undef, undef, undef, undef, undef, undef, undef, undef, undef, undef, undef, undef, undef, undef, undef, undef, undef], defers := [] }
set_option maxRecDepth 100000 in
set_option maxHeartbeats 8000000 in
/-- Fill, of a text and a size that are right. -/
theorem fill_is (s : ByteArray) (line : Int) (w : World) (hc : cleanB s = true) (hs : s.size ≤ 20000) (h1 : 10 ≤ line) (h2 : line ≤ 200) :
    Calls Try.prog 12 #[.string s, .int .i64 line] w fun e w' => ∃ v, e = .returned (.tuple #[v, .int .i64 0]) ∧ w'.ownsRow w.heap.size 9 1 v (fillL s line).length (strs (fillL s line)) ∧ Below w.heap.size w w' := by
  have HC := Aside0.mk (fun W => clean_is s W (by omega))
  rw [hc] at HC
  have HW := Aside0.mk (fun W => within_is line 10 200 W)
  rw [show (decide (10 ≤ line) && decide (line ≤ 200)) = true by simp [h1, h2]] at HW
  have HBY := Aside0.mk (fun W => bytes_is s W)
  have A1 := Aside0.mk ((Below.refl w.heap.size w).alloc (Nat.le_refl _) (.cells #[.int .i64 line] 3 (0, 0)))
  have R3 := Aside0.mk (blk_new w (.cells #[.int .i64 line] 3 (0, 0)))
  clear hc
  refine (callsIn_wide (n := 9)).1 ?_
  refine callsIn_of_wp_marks Try.func12 rfl trivial ?_ rfl
  simp only [Try.ntmps12, List.size_toArray, List.length_cons, List.length_nil, Nat.reduceAdd, Nat.reduceSub, Array.replicate_succ, Array.replicate_zero, List.push_toArray, List.append_toArray, List.nil_append, List.cons_append]
  gi_wp2_with (first | (refine ⟨trivial, ?_⟩; gi_at_call 34; refine (callsIn_wide.2 (HC.out _)).mono ?_; rintro e w1 ⟨rfl, hb1⟩; have B1 := Aside0.mk (A1.out.trans (hb1.mono A1.out.size)); have S3 := Aside0.mk (blk_below R3.out hb1); have s3 := (blk_cell S3.out 0).trans rfl; clear hb1) | (refine ⟨trivial, ?_⟩; gi_at_call 22; refine (callsIn_wide.2 (HW.out _)).mono ?_; rintro e w2 ⟨rfl, hb2⟩; have B2 := Aside0.mk (B1.out.trans (hb2.mono B1.out.size)); have T3 := Aside0.mk (blk_below S3.out hb2); clear hb2 s3) | (refine ⟨trivial, ?_⟩; gi_at_call 36; refine (callsIn_wide.2 (HBY.out _)).mono ?_; rintro e w4 ⟨rfl, hbx, hb4⟩; have HF := Aside0.mk (FV.start B2.out T3.out rfl hbx hb4); have HX := Aside0.mk hbx; clear hbx hb4))
  clear HC HW HBY A1 R3 B1 S3
  have hsz := HF.out.below.size
  simp only [World.size_alloc] at HF HX
  revert HF HX
  generalize hb6 : w2.heap.size = b6
  generalize hb7 : b6 + 1 = b7
  generalize hb8 : b7 + 1 = b8
  generalize hb9 : b8 + 1 = b
  clear hb6 hb7 hb8 hb9 T3 B2
  intro HF HX
  have hld : w.heap.size ≤ w4.heap.size := hsz
  generalize hb3 : w.heap.size = b3 at HF ⊢
  refine wpIn_rangeFunc_ownH rfl (by omega) (gf := 52) (lb := #[.pointer (some ⟨b, 0, none⟩)]) rfl trivial (enters_of Try.func52 (by kernel_rfl) rfl) (bytes_stops (9 - 1) (by omega) b s hs w4 HX.out) (fun h1 h2 => h2.trans h1)
    (fun W l o o' hl ho hc _ => ?kb) (Below.refl _ _) (fun _ => rfl)
    (fun pre W => FM w b3 b6 b7 b8 b s line W (fillF s line pre).1 (fillF s line pre).2)
    (fun _ _ _ => False)
    (fun pre A B row hs hg hr => hs.other hg (fun r e => ⟨Nat.le_trans hld (hr r e).1, (hr r e).2⟩))
    (fun _ _ _ _ _ h _ _ => h)
    ⟨_, _, HF.out⟩
    (fun x a' W => a' = actF s line b b3 b6 b7 b8 x)
    (fun x a' s A B row hs hg hr => hs)
    ?assign ?body ?done ?stop
  case kb =>
    show (W.putObj l o').heap[b]? = W.heap[b]?
    have h1 := blk_lt' HX.out
    have h2 : l < W.heap.size := by
      rcases Nat.lt_or_ge l W.heap.size with h | h
      · exact h
      · rw [Array.getElem?_eq_none h] at ho; cases ho
    exact (grownBy_putObj' W l o').block b (by omega) (by intro e; cases e; omega)
  case assign =>
    rintro l pre x W K hI hK
    unfold encB
    gi_wp2
    exact hK _ _ (KeepsFrom.refl _ _) rfl hI rfl
  case body =>
    rintro l pre x a' W hl ⟨r, hr⟩ hI rfl hlt
    unfold actF
    have hbd := fillF_bound s line pre
    have HSN := Aside0.mk (fillF_snoc s line pre x)
    generalize fillF s line pre = st at *
    obtain ⟨out, now⟩ := st
    obtain ⟨ov, nv, hv⟩ := hI
    dsimp only at hv hbd
    have hwdl : wordN s (x + 1) ≤ 20000 := by have := wordN_le s (x + 1); omega
    have HFS := Aside0.mk (show fillS s line (out, now) x = if bt s (x : Int) = 32 ∧ (now.length : Int) + 1 + (wordN s (x + 1) : Int) > line then (out ++ [strOfNums now], []) else if (now.length : Int) = line then (out ++ [strOfNums now], [bt s (x : Int)]) else (out, now ++ [bt s (x : Int)]) from rfl)
    generalize wordN s (x + 1) = wd at *
    generalize bt s (x : Int) = cc at *
    have hol : out.length ≤ 20000 := by omega
    have hnl : now.length ≤ 20000 := by omega
    have HE := Aside0.mk (fend_is w b3 b6 b7 b8 b s line out now W ⟨_, _, hv⟩ (by omega))
    obtain ⟨A, c7', rfl⟩ := own_slice hv.r5
    have c3 := (blk_cell hv.line 0).trans rfl
    have c7 := (blk_cell hv.m7 0).trans rfl
    have c8 := (blk_cell hv.fn 0).trans rfl
    have HV := Aside0.mk hv
    clear hv hr
    by_cases h32 : cc = 32
    · subst h32
      by_cases hgt : (now.length : Int) + 1 + (wd : Int) > line
      · have HA := Aside0.mk (show (32 : Int) = 32 ∧ (now.length : Int) + 1 + (wd : Int) > line from ⟨rfl, hgt⟩)
        gi_wp2_with (refine ⟨trivial, ?_⟩; gi_at_call 35; refine (CallsIn.inRound l (callsIn_wide.2 HE.out)).mono ?_; rintro e w3 ⟨rfl, hko, hfm⟩; have HK := Aside0.mk hko; have HM := Aside0.mk hfm; clear hko hfm)
        refine ⟨HK.out.from _, ?_, ?_⟩
        · obtain ⟨ov', nv', hv'⟩ := HM.out
          exact hv'.txt.trans HV.out.txt.symm
        · show FM w b3 b6 b7 b8 b s line _ (fillF s line (pre ++ [x])).1 (fillF s line (pre ++ [x])).2
          rw [HSN.out, HFS.out, if_pos HA.out]
          exact HM.out
      · have HNA := Aside0.mk (show ¬ ((32 : Int) = 32 ∧ (now.length : Int) + 1 + (wd : Int) > line) from fun h => hgt h.2)
        gi_wp2_with (gi_at_builtin; refine wl_byte 32 HV.out rfl rfl rfl rfl rfl (by omega) ?_; intro A5 c5 w5 e5 hko5 hfv5; have HK5 := Aside0.mk hko5; have HV5 := Aside0.mk hfv5; have d7 := (blk_cell (e5.trans HV.out.m7) 0).trans rfl; have f7 := blk_frozen (e5.trans HV.out.m7) 0; clear e5 hko5 hfv5)
        refine ⟨(HK5.out.trans (KeepsOthers.setCell _ _ _)).from _, HV5.out.txt.trans HV.out.txt.symm, ?_⟩
        show FM w b3 b6 b7 b8 b s line _ (fillF s line (pre ++ [x])).1 (fillF s line (pre ++ [x])).2
        rw [HSN.out, HFS.out, if_neg HNA.out, if_neg (show ¬ (now.length : Int) = line by omega)]
        exact ⟨_, _, HV5.out⟩
    · have HNA := Aside0.mk (show ¬ (cc = 32 ∧ (now.length : Int) + 1 + (wd : Int) > line) from fun h => h32 h.1)
      by_cases hB : (now.length : Int) = line
      · gi_wp2_with (first | (refine ⟨trivial, ?_⟩; gi_at_call 35; refine (CallsIn.inRound l (callsIn_wide.2 HE.out)).mono ?_; rintro e w3 ⟨rfl, hko, ov3, nv3, hv3⟩; have HK := Aside0.mk hko; obtain ⟨A3, c3', rfl⟩ := own_slice hv3.r5; have HV3 := Aside0.mk hv3; have e7 := (blk_cell hv3.m7 0).trans rfl; clear hko hv3 c3 c7 c8) | (gi_at_builtin; refine wl_byte cc HV3.out rfl rfl rfl rfl rfl (Nat.zero_le _) ?_; intro A5 c5 w5 e5 hko5 hfv5; have HK5 := Aside0.mk hko5; have HV5 := Aside0.mk hfv5; have d7 := (blk_cell (e5.trans HV3.out.m7) 0).trans rfl; have f7 := blk_frozen (e5.trans HV3.out.m7) 0; clear e5 hko5 hfv5))
        refine ⟨(HK.out.trans (HK5.out.trans (KeepsOthers.setCell _ _ _))).from _, HV5.out.txt.trans HV.out.txt.symm, ?_⟩
        show FM w b3 b6 b7 b8 b s line _ (fillF s line (pre ++ [x])).1 (fillF s line (pre ++ [x])).2
        rw [HSN.out, HFS.out, if_neg HNA.out, if_pos hB]
        exact ⟨_, _, HV5.out⟩
      · gi_wp2_with (gi_at_builtin; refine wl_byte cc HV.out rfl rfl rfl rfl rfl (by omega) ?_; intro A5 c5 w5 e5 hko5 hfv5; have HK5 := Aside0.mk hko5; have HV5 := Aside0.mk hfv5; have d7 := (blk_cell (e5.trans HV.out.m7) 0).trans rfl; have f7 := blk_frozen (e5.trans HV.out.m7) 0; clear e5 hko5 hfv5)
        refine ⟨(HK5.out.trans (KeepsOthers.setCell _ _ _)).from _, HV5.out.txt.trans HV.out.txt.symm, ?_⟩
        show FM w b3 b6 b7 b8 b s line _ (fillF s line (pre ++ [x])).1 (fillF s line (pre ++ [x])).2
        rw [HSN.out, HFS.out, if_neg HNA.out, if_neg hB]
        exact ⟨_, _, HV5.out⟩
  case done =>
    rintro Dd ys W hD rfl hI hK
    have hL : fillL s line = if ((fillF s line (List.range s.size)).2.length : Int) > 0 then (fillF s line (List.range s.size)).1 ++ [strOfNums (fillF s line (List.range s.size)).2] else (fillF s line (List.range s.size)).1 := rfl
    have hbd := fillF_bound s line (List.range s.size)
    rw [List.length_range] at hbd
    generalize fillF s line (List.range s.size) = st at *
    obtain ⟨out, now⟩ := st
    obtain ⟨ov, nv, hv⟩ := hI
    dsimp only at hv hbd hL
    have HE := Aside0.mk (fend_is w b3 b6 b7 b8 b s line out now W ⟨_, _, hv⟩ (by omega))
    obtain ⟨A, c7', rfl⟩ := own_slice hv.r5
    obtain ⟨A6, c6', rfl⟩ := own_slice hv.r9
    have c6 := (blk_cell hv.m6 0).trans rfl
    have c7 := (blk_cell hv.m7 0).trans rfl
    have c8 := (blk_cell hv.fn 0).trans rfl
    have HV := Aside0.mk hv
    have hnl : now.length ≤ 20000 := by omega
    clear hv
    by_cases hpos : (now.length : Int) > 0
    · rw [if_pos hpos] at hL
      have HL := Aside0.mk hL
      clear hL
      gi_wp2_with (refine ⟨trivial, ?_⟩; gi_at_call 35; refine (callsIn_wide.2 HE.out).mono ?_; rintro e w3 ⟨rfl, hko, ov3, nv3, hv3⟩; have hK3 := hko.same Dd _ hK rfl; obtain ⟨A3, c3', rfl⟩ := own_slice hv3.r9; have HV3 := Aside0.mk hv3; have e6 := (blk_cell hv3.m6 0).trans rfl; clear hko hv3 c6 c7 c8)
      refine ⟨by simp, .inl ⟨_, _, rfl, run_takeDeferred hK3, ?_⟩⟩
      rw [HL.out]
      have hz := HV3.out.other (grownBy_putObj' _ Dd (.deferred none)) (fun r e => by cases e; exact ⟨Nat.le_trans hld hD, _, hK3, rfl⟩)
      refine ⟨.tuple #[.slice A3 (out ++ [strOfNums now]).length c3', .int .i64 0], ?_, _, rfl, by subst hb3; exact hz.r9, by subst hb3; exact hz.below⟩
      simp [results, Try.f12, Try.results12, go_sem]
    · rw [if_neg hpos] at hL
      have HL := Aside0.mk hL
      clear hL
      gi_wp2
      refine ⟨by simp, .inl ⟨_, _, rfl, run_takeDeferred hK, ?_⟩⟩
      rw [HL.out]
      have hz := HV.out.other (grownBy_putObj' _ Dd (.deferred none)) (fun r e => by cases e; exact ⟨Nat.le_trans hld hD, _, hK, rfl⟩)
      refine ⟨.tuple #[.slice A6 out.length c6', .int .i64 0], ?_, _, rfl, by subst hb3; exact hz.r9, by subst hb3; exact hz.below⟩
      simp [results, Try.f12, Try.results12, go_sem]
  case stop =>
    rintro Dd cd pre W hD hpre hf hK
    exact hf.elim
end Go.Proofs.Ytjamaccblokfkaa.P

-- from the text A54
namespace Go.Proofs.Ytjamaccblokfkaa.P
open Go.RowKit Go.Proofs.YtjamaccblokfkaaW.PrintWords Go.Proofs.YtjamaccblokfkaaW.PrintLast Go.Proofs.YtjamaccblokfkaaW.PrintMore
attribute [local go_sem] max2_int min2_int max_two min_two max_three min_three max_four min_four   -- for this text's walks alone
set_option linter.unusedVariables false
set_option linter.unusedSimpArgs false
def ironbarkref24_Plain.l0 : Nat → ByteArray → Int → Option (Bool)
  | 0, _, _ => none
  | k + 1, x0, x3 => if x3 < (x0.size : Int) then (if 0 ≤ x3 then (if (bt x0 x3) < 32 then (some false) else (if (bt x0 x3) > 126 then (some false) else (ironbarkref24_Plain.l0 k x0 (wrap64 (x3 + 1))))) else (none)) else (some true)
def ironbarkref24_Plain.f (k : Nat) (a0 : ByteArray) : Option (Bool) := ironbarkref24_Plain.l0 k a0 0
set_option maxHeartbeats 8000000 in
set_option maxRecDepth 100000 in
theorem ironbarkref24_Plain.calls (k : Nat) (a0 : ByteArray) (r : Bool) (w : World) (h : ironbarkref24_Plain.f k a0 = some r) :
    Calls Try.prog 54 #[.string a0] w fun e w' => e = .returned (.bool r) ∧ Drawn0 w w' := by
  have H : (ironbarkref24_Plain.l0 k a0 0) = some r := h
  clear h
  have H' := Aside0.mk H
  clear H
  go_enter Try.func54, Try.ntmps54
  go_wp2
  go_loopg [3] k (fun kq v3 w' => ∃ (x3_1 : Int), v3 = .int .i64 x3_1 ∧ Aside0 (ironbarkref24_Plain.l0 kq a0 x3_1 = some r) ∧ Aside0 (kq ≤ k) ∧ Drawn0 w w')
  case atStart => exact ⟨(0), (by first | rfl | (simp; done) | (generalize ByteArray.toList _ = l_; cases l_ <;> rfl) | (simp [*]; done)), H', ⟨Nat.le_refl _⟩, by repeat (first | exact Drawn0.refl _ | apply Drawn0.step)⟩
  case round =>
    clear H'
    obtain ⟨x3_1, rfl, HA, HK1, ⟨m1, rfl⟩⟩ := hrel
    cases gk with
    | zero => exact absurd HA.out (by simp [ironbarkref24_Plain.l0])
    | succ k1 =>
      have H := HA.out
      clear HA
      simp only [ironbarkref24_Plain.l0] at H
      by_cases c2 : x3_1 < (a0.size : Int)
      · rw [if_pos c2] at H
        have c2b0 : decide (x3_1 < (a0.size : Int)) = true := decide_eq_true c2
        clear c2
        by_cases c3 : 0 ≤ x3_1
        · rw [if_pos c3] at H
          have c3b0 : decide (0 ≤ x3_1) = true := decide_eq_true c3
          clear c3
          by_cases c5 : (bt a0 x3_1) < 32
          · rw [if_pos c5] at H
            have c5b0 : decide ((bt a0 x3_1) < 32) = true := decide_eq_true c5
            clear c5
            obtain rfl := Option.some.inj H
            have p4 : 0 ≤ (x3_1 : Int) := of_decide_eq_true (by first | (with_reducible assumption) | assumption)
            have q4 : x3_1 < (a0.size : Int) := of_decide_eq_true (by first | (with_reducible assumption) | assumption)
            have hx4 := bt_at a0 x3_1
            replace p4 := eq_true p4
            replace q4 := eq_true q4
            go_wp2
            go_ret
            exact ⟨by first | rfl | (simp; done) | (simp [*]; done), by repeat (first | exact Drawn0.refl _ | apply Drawn0.step)⟩
          · rw [if_neg c5] at H
            have c5b0 : decide ((bt a0 x3_1) < 32) = false := decide_eq_false c5
            clear c5
            by_cases c7 : (bt a0 x3_1) > 126
            · rw [if_pos c7] at H
              have c7b0 : decide (126 < (bt a0 x3_1)) = true := decide_eq_true c7
              clear c7
              obtain rfl := Option.some.inj H
              have p4 : 0 ≤ (x3_1 : Int) := of_decide_eq_true (by first | (with_reducible assumption) | assumption)
              have q4 : x3_1 < (a0.size : Int) := of_decide_eq_true (by first | (with_reducible assumption) | assumption)
              have hx4 := bt_at a0 x3_1
              replace p4 := eq_true p4
              replace q4 := eq_true q4
              have p6 : 0 ≤ (x3_1 : Int) := of_decide_eq_true (by first | (with_reducible assumption) | assumption)
              have q6 : x3_1 < (a0.size : Int) := of_decide_eq_true (by first | (with_reducible assumption) | assumption)
              have hx6 := bt_at a0 x3_1
              replace p6 := eq_true p6
              replace q6 := eq_true q6
              go_wp2
              go_ret
              exact ⟨by first | rfl | (simp; done) | (simp [*]; done), by repeat (first | exact Drawn0.refl _ | apply Drawn0.step)⟩
            · rw [if_neg c7] at H
              have c7b0 : decide (126 < (bt a0 x3_1)) = false := decide_eq_false c7
              clear c7
              have H' := Aside0.mk H
              clear H
              have p4 : 0 ≤ (x3_1 : Int) := of_decide_eq_true (by first | (with_reducible assumption) | assumption)
              have q4 : x3_1 < (a0.size : Int) := of_decide_eq_true (by first | (with_reducible assumption) | assumption)
              have hx4 := bt_at a0 x3_1
              replace p4 := eq_true p4
              replace q4 := eq_true q4
              have p6 : 0 ≤ (x3_1 : Int) := of_decide_eq_true (by first | (with_reducible assumption) | assumption)
              have q6 : x3_1 < (a0.size : Int) := of_decide_eq_true (by first | (with_reducible assumption) | assumption)
              have hx6 := bt_at a0 x3_1
              replace p6 := eq_true p6
              replace q6 := eq_true q6
              go_wp2
              go_roundg k1
              case measure => have := HK1.out; omega
              case rel => exact ⟨(wrap64 (x3_1 + 1)), (by first | rfl | (simp; done) | (generalize ByteArray.toList _ = l_; cases l_ <;> rfl) | (simp [*]; done)), H', ⟨by have := HK1.out; omega⟩, by repeat (first | exact Drawn0.refl _ | apply Drawn0.step)⟩
        · rw [if_neg c3] at H
          exact absurd H (by simp)
      · rw [if_neg c2] at H
        have c2b0 : decide (x3_1 < (a0.size : Int)) = false := decide_eq_false c2
        clear c2
        obtain rfl := Option.some.inj H
        go_wp2
        go_ret
        exact ⟨by first | rfl | (simp; done) | (simp [*]; done), by repeat (first | exact Drawn0.refl _ | apply Drawn0.step)⟩
/-- THE ONE PURE STATEMENT of ironbarkref24_Plain: yours. -/
def ironbarkref24_Plain.Pure : Prop := ∀ (a0 : ByteArray), a0.size ≤ 140737488351232 → ∃ k, ironbarkref24_Plain.f k a0 = some true
theorem ironbarkref24_Plain.walk (P : ironbarkref24_Plain.Pure) (a0 : ByteArray) (w : World) (w0 : a0.size ≤ 140737488351232) :
    Calls Try.prog 54 #[.string a0] w fun e w' => e = .returned (.bool true) ∧ Below w.heap.size w w' := by
  obtain ⟨k, h⟩ := P a0 w0
  refine (ironbarkref24_Plain.calls k a0 true w h).mono ?_
  rintro e w' ⟨rfl, hd⟩
  exact ⟨rfl, hd.below⟩
end Go.Proofs.Ytjamaccblokfkaa.P

-- from the text A37
namespace Go.Proofs.Ytjamaccblokfkaa.P
open Go.RowKit Go.Proofs.YtjamaccblokfkaaW.PrintWords Go.Proofs.YtjamaccblokfkaaW.PrintLast Go.Proofs.YtjamaccblokfkaaW.PrintMore
attribute [local go_sem] max2_int min2_int max_two min_two max_three min_three max_four min_four   -- for this text's walks alone
set_option linter.unusedVariables false
set_option linter.unusedSimpArgs false
def ironbarkref24_text.f (k : Nat) (a0 : ByteArray) : Option (Int) := (ironbarkref24_Plain.f k a0).bind fun t101 => (if t101 = true then (if (a0.size : Int) > 20000 then (some 3) else (some 0)) else (some 1))
set_option maxHeartbeats 8000000 in
set_option maxRecDepth 100000 in
theorem ironbarkref24_text.calls (k : Nat) (a0 : ByteArray) (r : Int) (w : World) (h : ironbarkref24_text.f k a0 = some r) :
    Calls Try.prog 37 #[.string a0] w fun e w' => e = .returned (.int .i64 r) ∧ Drawn0 w w' := by
  have H : ((ironbarkref24_Plain.f k a0).bind fun t101 => (if t101 = true then (if (a0.size : Int) > 20000 then (some 3) else (some 0)) else (some 1))) = some r := h
  clear h
  replace H := Option.bind_eq_some_iff.mp H
  obtain ⟨t101, A20, H⟩ := H
  replace H : (if t101 = true then (if (a0.size : Int) > 20000 then (some 3) else (some 0)) else (some 1)) = some r := H
  have A2 := Aside0.mk A20
  clear A20
  by_cases c3 : t101 = true
  · subst c3
    have H1 : (if (a0.size : Int) > 20000 then (some 3) else (some 0)) = some r := by rw [if_pos rfl] at H; exact H
    clear H
    have H := H1
    clear H1
    by_cases c4 : (a0.size : Int) > 20000
    · rw [if_pos c4] at H
      have c4b0 : decide (20000 < (a0.size : Int)) = true := decide_eq_true c4
      have c4b1 : decide (20000 < a0.size) = true := decide_eq_true (by omega)
      clear c4
      obtain rfl := Option.some.inj H
      go_enter Try.func37, Try.ntmps37
      go_wp2_with (first | ((with_reducible refine gate_callee (f := 54) rfl ?_); refine goesL_ (some 4) rfl rfl Try.func54 (by kernel_rfl) rfl #[.string a0] rfl (by (try simp only [List.map_toArray, List.map_cons, List.map_nil]); first | done | rfl | (simp only [List.length_drop, List.length_take]; rfl)) ?_; (with_reducible refine (ironbarkref24_Plain.calls k a0 true _ A2.out).mono ?_); rintro e w' ⟨rfl, ⟨nd, rfl⟩⟩; refine ⟨_, rfl, ?_⟩))
      go_ret
      exact ⟨by first | rfl | (simp; done) | (simp [*]; done), by repeat (first | exact Drawn0.refl _ | apply Drawn0.step)⟩
    · rw [if_neg c4] at H
      have c4b0 : decide (20000 < (a0.size : Int)) = false := decide_eq_false c4
      have c4b1 : decide (20000 < a0.size) = false := decide_eq_false (by omega)
      clear c4
      obtain rfl := Option.some.inj H
      go_enter Try.func37, Try.ntmps37
      go_wp2_with (first | ((with_reducible refine gate_callee (f := 54) rfl ?_); refine goesL_ (some 4) rfl rfl Try.func54 (by kernel_rfl) rfl #[.string a0] rfl (by (try simp only [List.map_toArray, List.map_cons, List.map_nil]); first | done | rfl | (simp only [List.length_drop, List.length_take]; rfl)) ?_; (with_reducible refine (ironbarkref24_Plain.calls k a0 true _ A2.out).mono ?_); rintro e w' ⟨rfl, ⟨nd, rfl⟩⟩; refine ⟨_, rfl, ?_⟩))
      go_ret
      exact ⟨by first | rfl | (simp; done) | (simp [*]; done), by repeat (first | exact Drawn0.refl _ | apply Drawn0.step)⟩
  · replace c3 := Bool.eq_false_iff.mpr c3
    subst c3
    have H1 : (some 1) = some r := by rw [if_neg (show ¬ (false = true) by decide)] at H; exact H
    clear H
    have H := H1
    clear H1
    obtain rfl := Option.some.inj H
    go_enter Try.func37, Try.ntmps37
    go_wp2_with (first | ((with_reducible refine gate_callee (f := 54) rfl ?_); refine goesL_ (some 4) rfl rfl Try.func54 (by kernel_rfl) rfl #[.string a0] rfl (by (try simp only [List.map_toArray, List.map_cons, List.map_nil]); first | done | rfl | (simp only [List.length_drop, List.length_take]; rfl)) ?_; (with_reducible refine (ironbarkref24_Plain.calls k a0 false _ A2.out).mono ?_); rintro e w' ⟨rfl, ⟨nd, rfl⟩⟩; refine ⟨_, rfl, ?_⟩))
    go_ret
    exact ⟨by first | rfl | (simp; done) | (simp [*]; done), by repeat (first | exact Drawn0.refl _ | apply Drawn0.step)⟩
end Go.Proofs.Ytjamaccblokfkaa.P

-- from the text A38
namespace Go.Proofs.Ytjamaccblokfkaa.P
open Go.RowKit Go.Proofs.YtjamaccblokfkaaW.PrintWords Go.Proofs.YtjamaccblokfkaaW.PrintLast Go.Proofs.YtjamaccblokfkaaW.PrintMore
attribute [local go_sem] max2_int min2_int max_two min_two max_three min_three max_four min_four   -- for this text's walks alone
set_option linter.unusedVariables false
set_option linter.unusedSimpArgs false
def ironbarkref24_word.l0 : Nat → ByteArray → Int → Int → Option (Int)
  | 0, _, _, _ => none
  | k + 1, x0, x1, x5 => if (wrap64 (x1 + x5)) < (x0.size : Int) then (if 0 ≤ (wrap64 (x1 + x5)) then (if (bt x0 (wrap64 (x1 + x5))) = 32 then (some x5) else (ironbarkref24_word.l0 k x0 x1 (wrap64 (x5 + 1)))) else (none)) else (some x5)
def ironbarkref24_word.f (k : Nat) (a0 : ByteArray) (a1 : Int) : Option (Int) := ironbarkref24_word.l0 k a0 a1 0
set_option maxHeartbeats 8000000 in
set_option maxRecDepth 100000 in
theorem ironbarkref24_word.calls (k : Nat) (a0 : ByteArray) (a1 : Int) (r : Int) (w : World) (h : ironbarkref24_word.f k a0 a1 = some r) :
    Calls Try.prog 38 #[.string a0, .int .i64 a1] w fun e w' => e = .returned (.int .i64 r) ∧ Drawn0 w w' := by
  have H : (ironbarkref24_word.l0 k a0 a1 0) = some r := h
  clear h
  have H' := Aside0.mk H
  clear H
  go_enter Try.func38, Try.ntmps38
  go_wp2
  go_loopg [5] k (fun kq v5 w' => ∃ (x5_1 : Int), v5 = .int .i64 x5_1 ∧ Aside0 (ironbarkref24_word.l0 kq a0 a1 x5_1 = some r) ∧ Aside0 (kq ≤ k) ∧ Drawn0 w w')
  case atStart => exact ⟨(0), (by first | rfl | (simp; done) | (generalize ByteArray.toList _ = l_; cases l_ <;> rfl) | (simp [*]; done)), H', ⟨Nat.le_refl _⟩, by repeat (first | exact Drawn0.refl _ | apply Drawn0.step)⟩
  case round =>
    clear H'
    try clear p2
    obtain ⟨x5_1, rfl, HA, HK1, ⟨m1, rfl⟩⟩ := hrel
    cases gk with
    | zero => exact absurd HA.out (by simp [ironbarkref24_word.l0])
    | succ k1 =>
      have H := HA.out
      clear HA
      simp only [ironbarkref24_word.l0] at H
      by_cases c3 : (wrap64 (a1 + x5_1)) < (a0.size : Int)
      · rw [if_pos c3] at H
        have c3b0 : decide ((wrap64 (a1 + x5_1)) < (a0.size : Int)) = true := decide_eq_true c3
        clear c3
        obtain ⟨ji4, hji4⟩ : ∃ j_ : Int, (wrap64 (a1 + x5_1)) = j_ := ⟨_, rfl⟩
        replace H : (if 0 ≤ (ji4) then (if (bt a0 (ji4)) = 32 then (some x5_1) else (ironbarkref24_word.l0 k1 a0 a1 (wrap64 (x5_1 + 1)))) else (none)) = some r := by first | (rw [hji4] at H; exact H) | (simp only [hji4] at H ⊢; exact H)
        (try rw [hji4] at c3b0)
        have hji4w : (IntKind.i64.wrap (a1 + x5_1)) = ji4 := (i64_w _).trans hji4
        by_cases c5 : 0 ≤ (ji4)
        · rw [if_pos c5] at H
          have c5b0 : decide (0 ≤ (ji4)) = true := decide_eq_true c5
          clear c5
          by_cases c7 : (bt a0 (ji4)) = 32
          · rw [if_pos c7] at H
            have c7b0 : ((bt a0 (ji4)) == 32) = true := beq_iff_eq.mpr c7
            have c7b1 : ((bt a0 (ji4)) != 32) = false := bne_eq_false_iff_eq.mpr c7
            clear c7
            obtain rfl := Option.some.inj H
            have p6 : 0 ≤ ((ji4) : Int) := of_decide_eq_true (by first | (with_reducible assumption) | assumption)
            have q6 : (ji4) < (a0.size : Int) := of_decide_eq_true (by first | (with_reducible assumption) | assumption)
            have hx6 := bt_at a0 (ji4)
            replace p6 := eq_true p6
            replace q6 := eq_true q6
            go_wp2
            go_ret
            exact ⟨by first | rfl | (simp; done) | (simp only [← hji4] <;> (first | rfl | simp)) | (simp [*]; done), by repeat (first | exact Drawn0.refl _ | apply Drawn0.step)⟩
          · rw [if_neg c7] at H
            have c7b0 : ((bt a0 (ji4)) == 32) = false := beq_eq_false_iff_ne.mpr c7
            have c7b1 : ((bt a0 (ji4)) != 32) = true := bne_iff_ne.mpr c7
            have H' := Aside0.mk H
            clear H
            have p6 : 0 ≤ ((ji4) : Int) := of_decide_eq_true (by first | (with_reducible assumption) | assumption)
            have q6 : (ji4) < (a0.size : Int) := of_decide_eq_true (by first | (with_reducible assumption) | assumption)
            have hx6 := bt_at a0 (ji4)
            replace p6 := eq_true p6
            replace q6 := eq_true q6
            go_wp2
            go_roundg k1
            case measure => have := HK1.out; omega
            case rel => exact ⟨(wrap64 (x5_1 + 1)), (by first | rfl | (simp; done) | (generalize ByteArray.toList _ = l_; cases l_ <;> rfl) | (simp [*]; done)), H', ⟨by have := HK1.out; omega⟩, by repeat (first | exact Drawn0.refl _ | apply Drawn0.step)⟩
        · rw [if_neg c5] at H
          exact absurd H (by simp)
      · rw [if_neg c3] at H
        have c3b0 : decide ((wrap64 (a1 + x5_1)) < (a0.size : Int)) = false := decide_eq_false c3
        clear c3
        obtain rfl := Option.some.inj H
        go_wp2
        go_ret
        exact ⟨by first | rfl | (simp; done) | (simp [*]; done), by repeat (first | exact Drawn0.refl _ | apply Drawn0.step)⟩
end Go.Proofs.Ytjamaccblokfkaa.P

-- from the text Fd
namespace Go.Proofs.Ytjamaccblokfkaa.P
open Go.RowKit Go.Shelf Go.Proofs.YtjamaccblokfkaaW.PrintWords Go.Proofs.YtjamaccblokfkaaW.PrintLast Go.Proofs.YtjamaccblokfkaaW.PrintMore
set_option linter.unusedVariables false
set_option linter.unusedSimpArgs false
/-- What Fill tells of what is not right. -/
def fillE (s : ByteArray) (line : Int) : Int := if cleanB s = true then (if (s.size : Int) > 20000 then 3 else if 10 ≤ line ∧ line ≤ 200 then 0 else 7) else 1
set_option maxRecDepth 100000 in
set_option maxHeartbeats 8000000 in
theorem fill_bad (s : ByteArray) (line : Int) (w : World) (hs : s.size ≤ 20010) (h : fillE s line ≠ 0) :
    Calls Try.prog 12 #[.string s, .int .i64 line] w fun e w' => e = .returned (.tuple #[.slice none 0 0, .int .i64 (fillE s line)]) ∧ Below w.heap.size w w' := by
  have HC := Aside0.mk (fun W => clean_is s W (by omega))
  have HW := Aside0.mk (fun W => within_is line 10 200 W)
  have A1 := Aside0.mk ((Below.refl w.heap.size w).alloc (Nat.le_refl _) (.cells #[.int .i64 line] 3 (0, 0)))
  have R3 := Aside0.mk (blk_new w (.cells #[.int .i64 line] 3 (0, 0)))
  cases hc : cleanB s with
  | false =>
    rw [hc] at HC
    have he : fillE s line = 1 := by unfold fillE; rw [if_neg (by simp [hc])]
    rw [he]
    clear h he
    go_enter Try.func12, Try.ntmps12
    go_wp2_with fail
    refine (HC.out _).mono ?_
    rintro e w1 ⟨rfl, hb1⟩
    have B1 := Aside0.mk (A1.out.trans (hb1.mono A1.out.size))
    clear hb1
    go_wp2_with fail
    go_ret2
    exact ⟨rfl, B1.out⟩
  | true =>
    rw [hc] at HC
    by_cases h2 : (s.size : Int) > 20000
    · have he : fillE s line = 3 := by unfold fillE; rw [if_pos hc, if_pos h2]
      rw [he]
      clear h he
      go_enter Try.func12, Try.ntmps12
      go_wp2_with fail
      refine (HC.out _).mono ?_
      rintro e w1 ⟨rfl, hb1⟩
      have B1 := Aside0.mk (A1.out.trans (hb1.mono A1.out.size))
      clear hb1
      go_wp2_with fail
      go_ret2
      exact ⟨rfl, B1.out⟩
    · have h3 : ¬ (10 ≤ line ∧ line ≤ 200) := fun h3 => h (by unfold fillE; rw [if_pos hc, if_neg h2, if_pos h3])
      have he : fillE s line = 7 := by unfold fillE; rw [if_pos hc, if_neg h2, if_neg h3]
      rw [he]
      rw [show (decide (10 ≤ line) && decide (line ≤ 200)) = false by rw [← Bool.decide_and]; exact decide_eq_false h3] at HW
      clear h he
      go_enter Try.func12, Try.ntmps12
      go_wp2_with fail
      refine (HC.out _).mono ?_
      rintro e w1 ⟨rfl, hb1⟩
      have B1 := Aside0.mk (A1.out.trans (hb1.mono A1.out.size))
      have s3 := (blk_cell (blk_below R3.out hb1) 0).trans rfl
      clear hb1
      go_wp2_with fail
      refine (HW.out _).mono ?_
      rintro e w2 ⟨rfl, hb2⟩
      have B2 := Aside0.mk (B1.out.trans (hb2.mono B1.out.size))
      clear hb2 s3
      go_wp2_with fail
      go_ret2
      exact ⟨rfl, B2.out⟩
theorem plain_l0 (s : ByteArray) (hl : s.size ≤ 9223372036854775807) : ∀ d i : Nat, i + d = s.size →
    Ev (fun k => ironbarkref24_Plain.l0 k s (i : Int)) ((s.data.toList.drop i).all fun c => decide (32 ≤ c.toNat) && decide (c.toNat ≤ 126)) := by
  intro d
  induction d with
  | zero =>
    intro i hi
    rw [List.drop_of_length_le (by rw [data_length]; omega)]
    exact Ev.step (f := fun _ => some true) (fun k => by simp only [ironbarkref24_Plain.l0]; rw [if_neg (by omega)]) (Ev.now _)
  | succ d ih =>
    intro i hi
    have hlt : i < s.data.toList.length := by rw [data_length]; omega
    have hw : wrap64 ((i : Int) + 1) = ((i + 1 : Nat) : Int) := by unfold wrap64; omega
    have hb : bt s (i : Int) = ((s.data.toList[i]'hlt).toNat : Int) := by
      rw [← bt_at s (i : Int) (by rw [data_length] at hlt; simpa using hlt)]
      simp [ByteArray.getElem_eq_getElem_data]
    rw [List.drop_eq_getElem_cons hlt, List.all_cons]
    by_cases h1 : bt s (i : Int) < 32
    · rw [decide_eq_false (by omega)]
      exact Ev.step (f := fun _ => some false) (fun k => by simp only [ironbarkref24_Plain.l0]; rw [if_pos (by omega), if_pos (by omega), if_pos h1]) (Ev.now _)
    · by_cases h2 : bt s (i : Int) > 126
      · rw [decide_eq_true (by omega), decide_eq_false (by omega)]
        exact Ev.step (f := fun _ => some false) (fun k => by simp only [ironbarkref24_Plain.l0]; rw [if_pos (by omega), if_pos (by omega), if_neg h1, if_pos h2]) (Ev.now _)
      · rw [decide_eq_true (by omega), decide_eq_true (by omega)]
        exact Ev.step (fun k => by simp only [ironbarkref24_Plain.l0]; rw [if_pos (by omega), if_pos (by omega), if_neg h1, if_neg h2, hw]) (ih (i + 1) (by omega))
theorem rtext_is (s : ByteArray) (w : World) (hl : s.size ≤ 9223372036854775807) : Calls Try.prog 37 #[.string s] w fun e w' => e = .returned (.int .i64 (if cleanB s = true then (if (s.size : Int) > 20000 then 3 else 0) else 1)) ∧ Below w.heap.size w w' := by
  have h : Ev (fun k => ironbarkref24_text.f k s) (if cleanB s = true then (if (s.size : Int) > 20000 then 3 else 0) else 1) := by
    unfold ironbarkref24_text.f
    refine Ev.bind (plain_l0 s hl s.size 0 (by omega)) ?_
    rw [List.drop_zero]
    show Ev (fun _ => if cleanB s = true then _ else _) _
    by_cases h1 : cleanB s = true
    · rw [if_pos h1, if_pos h1]
      by_cases h2 : (s.size : Int) > 20000
      · rw [if_pos h2, if_pos h2]; exact Ev.now _
      · rw [if_neg h2, if_neg h2]; exact Ev.now _
    · rw [if_neg h1, if_neg h1]; exact Ev.now _
  obtain ⟨k, hk⟩ := h.rounds
  exact (ironbarkref24_text.calls k s _ w hk).mono fun e w' ⟨he, hd⟩ => ⟨he, hd.below⟩
theorem word_l0 (s : ByteArray) (k : Nat) (hk : k ≤ s.size) (hl : s.size ≤ 20010) : ∀ d j : Nat, k + j + d = s.size →
    Ev (fun r => ironbarkref24_word.l0 r s (k : Int) (j : Int)) ((j : Int) + (wordN s (k + j) : Int)) := by
  intro d
  induction d with
  | zero =>
    intro j hj
    have hw : wrap64 ((k : Int) + (j : Int)) = ((k + j : Nat) : Int) := by unfold wrap64; omega
    refine Ev.step (f := fun _ => some ((j : Int) + (wordN s (k + j) : Int))) (fun r => ?_) (Ev.now _)
    simp only [ironbarkref24_word.l0]
    rw [hw, if_neg (by omega), word_end s (k + j) (by omega)]
    simp
  | succ d ih =>
    intro j hj
    have hw : wrap64 ((k : Int) + (j : Int)) = ((k + j : Nat) : Int) := by unfold wrap64; omega
    have hw1 : wrap64 ((j : Int) + 1) = ((j + 1 : Nat) : Int) := by unfold wrap64; omega
    by_cases hb : bt s ((k + j : Nat) : Int) = 32
    · refine Ev.step (f := fun _ => some ((j : Int) + (wordN s (k + j) : Int))) (fun r => ?_) (Ev.now _)
      simp only [ironbarkref24_word.l0]
      rw [hw, if_pos (by omega), if_pos (by omega), if_pos hb, word_blank s (k + j) (by omega) hb]
      simp
    · have := ih (j + 1) (by omega)
      rw [show (((j + 1 : Nat) : Int) + (wordN s (k + (j + 1)) : Int)) = (j : Int) + (wordN s (k + j) : Int) by rw [word_more s (k + j) (by omega) hb, Nat.add_assoc]; push_cast; omega] at this
      exact Ev.step (fun r => by simp only [ironbarkref24_word.l0]; rw [hw, if_pos (by omega), if_pos (by omega), if_neg hb, hw1]) this
theorem word_is (s : ByteArray) (k : Nat) (hk : k ≤ s.size) (hl : s.size ≤ 20010) (w : World) : Calls Try.prog 38 #[.string s, .int .i64 (k : Int)] w fun e w' => e = .returned (.int .i64 (wordN s k : Int)) ∧ Below w.heap.size w w' := by
  have h := word_l0 s k hk hl (s.size - k) 0 (by omega)
  rw [Nat.add_zero, show (((0 : Nat) : Int) + (wordN s k : Int)) = (wordN s k : Int) by simp] at h
  obtain ⟨r, hr⟩ := h.rounds
  exact (ironbarkref24_word.calls r s _ _ w hr).mono fun e w' ⟨he, hd⟩ => ⟨he, hd.below⟩
/-- One line more, of the reference's. -/
theorem wl_str {ops : Array Oper} {rest : List Oper} {o : Oper} {a : Act} {Q : Exit → Act → World → Prop} {w0 W V : World} {x y : Operand} {v : Value} (out : List ByteArray) (t : ByteArray) (hB : Below w0.heap.size w0 W) (hr : W.ownsRow w0.heap.size 9 1 v out.length (strs out)) (hgd : o.guard = none)
    (ho : o.op = .call { callee := .builtin .append, args := #[x, y], argTypes := #[34, 34] }) (hs : a.eval x = v) (hx : a.eval y = .slice (some ⟨W.heap.size, 0, none⟩) 1 1) (hV : V = W.alloc (.cells #[.string t] 9 (0, 0))) (hn : out.length ≤ 1000000)
    (hK : ∀ A c w2, Below w0.heap.size w0 w2 → w2.ownsRow w0.heap.size 9 1 (.slice A (out.length + 1) c) (out ++ [t]).length (strs (out ++ [t])) → wpList Try.prog ops Q rest (a.put o.dst (.slice A (out.length + 1) c)) w2) : wpList Try.prog ops Q (o :: rest) a V := by
  subst hV
  have hb := (Below.refl W.heap.size W).alloc (Nat.le_refl _) (.cells #[.string t] 9 (0, 0))
  have hrow := ownsRow_kept (w' := W.alloc (.cells #[.string t] 9 (0, 0))) hr (fun k e => hb.block k (hr.lt k e).2)
  obtain ⟨i0, hi, hz0, hz1, hz2⟩ := info_parts info9
  have hB0 : w0.heap.size ≤ W.heap.size := hB.size
  refine wpList_append_own _ hgd x y 34 ho w0.heap.size 9 i0 _ 1 16 Try.underlying34 hi hz0 hz1 hz2 rfl (by decide) v out.length (strs out) hs hrow ⟨W.heap.size, 0, none⟩ 1 1 [.string t] hx rfl
    (fun j u hj => by rw [add_plain]; exact (blk_cell (blk_new W _) j).trans (by simpa using hj)) (by simp [Value.oneCell']) (by simp only [maxLen]; omega) (by omega) (Nat.le_trans hB0 hb.size) ?_
  intro v' w2 hown hgrow _
  obtain ⟨A, c, rfl⟩ := own_slice hown
  have hl : (out ++ [t]).length = out.length + 1 := by rw [List.length_append]; rfl
  have hs2 : strs (out ++ [t]) = strs out ++ [.string t] := by simp [strs]
  have := hK A c w2 (hB.trans ((hb.mono hB0).grown hgrow (Nat.le_trans hB0 hb.size) (fun k e => (hr.lt k e).1)))
  rw [hl, hs2] at this
  exact this hown
/-- What lies at the loop's head. -/
def RI (w0 : World) (s : ByteArray) (line : Int) (j : Nat) (W : World) (v nv : Value) : Prop :=
  Below w0.heap.size w0 W ∧ nv = .string (strOfNums (fillF s line (List.range j)).2) ∧ W.ownsRow w0.heap.size 9 1 v (fillF s line (List.range j)).1.length (strs (fillF s line (List.range j)).1)
theorem str_snoc (l : List Int) (s : ByteArray) (j : Nat) (hj : j < s.size) : strOfNums l ++ s.extract j (j + 1) = strOfNums (l ++ [bt s (j : Int)]) := by
  have h1 : (s.data.extract j (j + 1)).toList = [s.data[j]'hj] := by
    rw [Array.toList_extract, List.extract_eq_take_drop, List.drop_eq_getElem_cons (show j < s.data.toList.length from hj)]
    simp
  have h2 : bt s (j : Int) = (((s.data[j]'hj).toNat : Nat) : Int) := dif_pos hj
  apply ByteArray.ext
  rw [ByteArray.data_append, ByteArray.data_extract]
  apply Array.ext'
  rw [Array.toList_append, h1, h2]
  simp [strOfNums]
theorem RI.mk' {w0 W : World} {s : ByteArray} {line : Int} {j : Nat} {v nv : Value} {o : List ByteArray} {n : List Int} (h : fillF s line (List.range (j + 1)) = (o, n)) (hb : Below w0.heap.size w0 W) (hv : nv = .string (strOfNums n)) (hr : W.ownsRow w0.heap.size 9 1 v o.length (strs o)) : RI w0 s line (j + 1) W v nv := by
  unfold RI
  rw [h]
  exact ⟨hb, hv, hr⟩
set_option maxRecDepth 100000 in
set_option maxHeartbeats 8000000 in
theorem rfill_is (s : ByteArray) (line : Int) (w : World) (hc : cleanB s = true) (hs : s.size ≤ 20000) (h1 : 10 ≤ line) (h2 : line ≤ 200) :
    Calls Try.prog 13 #[.string s, .int .i64 line] w fun e w' => ∃ v, e = .returned (.tuple #[v, .int .i64 0]) ∧ w'.ownsRow w.heap.size 9 1 v (fillL s line).length (strs (fillL s line)) ∧ Below w.heap.size w w' := by
  have HT := Aside0.mk (fun W => rtext_is s W (by omega))
  rw [if_pos hc, if_neg (by omega)] at HT
  have HWD := Aside0.mk (fun k (hk : k ≤ s.size) W => word_is s k hk (by omega) W)
  have hL : fillL s line = if ((fillF s line (List.range s.size)).2.length : Int) > 0 then (fillF s line (List.range s.size)).1 ++ [strOfNums (fillF s line (List.range s.size)).2] else (fillF s line (List.range s.size)).1 := rfl
  have HL := Aside0.mk hL
  clear hc hL
  go_enter Try.func13, Try.ntmps13
  go_wp2_with fail
  refine (HT.out _).mono ?_
  rintro e w1 ⟨rfl, hb1⟩
  have HB1 := Aside0.mk hb1
  clear hb1
  go_wp2_with fail
  go_loopw [7, 8, 9] (fun v7 v8 v9 wr => ∃ j : Nat, j ≤ s.size ∧ v9 = .int .i64 (j : Int) ∧ Aside0 (RI w s line j wr v7 v8)) (fun _ _ v _ => s.size - (intOf v).toNat)
  case atStart => exact ⟨0, Nat.zero_le _, rfl, ⟨HB1.out, rfl, World.ownsRow_nil _ _ _ _⟩⟩
  case round =>
    obtain ⟨j, hj, rfl, ⟨hb, rfl, hr⟩⟩ := hrel
    have hbd := fillF_bound s line (List.range j)
    have HSN := Aside0.mk (fillF_snoc s line (List.range j) j)
    rw [show List.range j ++ [j] = List.range (j + 1) from List.range_succ.symm] at HSN
    rw [List.length_range] at hbd
    have hwj : wrap64 ((j : Int) + 1) = ((j + 1 : Nat) : Int) := by unfold wrap64; omega
    have hwj2 : wrap64 ((j : Int) + 1) = (j : Int) + 1 := by unfold wrap64; omega
    have h0j : (0 : Int) ≤ (j : Int) := by omega
    by_cases hlt : j < s.size
    · have q1 : (j : Int) < (s.size : Int) := by omega
      have q4 : (j : Int) + 1 ≤ (s.size : Int) := by omega
      generalize fillF s line (List.range j) = st at *
      obtain ⟨out, now⟩ := st
      dsimp only at hb hr hbd
      have hwdl : wordN s (j + 1) ≤ 20000 := by have := wordN_le s (j + 1); omega
      have HWJ := Aside0.mk (fun W => (show Calls Try.prog 38 #[.string s, .int .i64 ((j : Int) + 1)] W fun e w' => e = .returned (.int .i64 (wordN s (j + 1) : Int)) ∧ Below W.heap.size W w' from HWD.out (j + 1) hlt W))
      have HFS := Aside0.mk (show fillS s line (out, now) j = if bt s (j : Int) = 32 ∧ (now.length : Int) + 1 + (wordN s (j + 1) : Int) > line then (out ++ [strOfNums now], []) else if (now.length : Int) = line then (out ++ [strOfNums now], [bt s (j : Int)]) else (out, now ++ [bt s (j : Int)]) from rfl)
      have HCC := Aside0.mk (str_snoc now s j hlt)
      have HC0 := Aside0.mk (str_snoc [] s j hlt)
      generalize wordN s (j + 1) = wd at *
      have hbt : bt s (j : Int) = ((s[j]'hlt).toNat : Int) := dif_pos hlt
      have hnbs := str_size now
      generalize hnb : strOfNums now = nb at *
      rw [← hnbs] at HFS
      have HNB := Aside0.mk hnb
      have HNS := Aside0.mk hnbs
      clear hnb
      have hol : out.length ≤ 20000 := by omega
      have hn6 : out.length ≤ 1000000 := by omega
      have hnl : nb.size ≤ 20000 := by omega
      clear hnbs
      obtain ⟨A, c0, rfl⟩ := own_slice hr
      have HB := Aside0.mk hb
      have HR := Aside0.mk hr
      clear hb hr
      by_cases h32 : bt s (j : Int) = 32
      · rw [h32] at hbt
        have hx32 : ((s[j]'hlt).toNat : Int) = 32 := hbt.symm
        clear hbt
        by_cases hgt : (nb.size : Int) + 1 + (wd : Int) > line
        · go_wp2_with fail
          refine (HWJ.out _).mono ?_
          rintro e w3 ⟨rfl, hb3⟩
          have HB3 := Aside0.mk (HB.out.trans (hb3.mono HB.out.size))
          have HR3 := Aside0.mk (ownsRow_kept HR.out (fun k e => hb3.block k (HR.out.lt k e).2))
          clear hb3
          go_wp2_with ((with_reducible refine gate_dst (N := 46) rfl ?_); refine wl_str out nb HB3.out HR3.out rfl rfl rfl rfl rfl hn6 ?_; intro A2 c2 w2 hb2 hr2; have HB2 := Aside0.mk hb2; have HR2 := Aside0.mk hr2; clear hb2 hr2)
          have hq : fillF s line (List.range (j + 1)) = (out ++ [nb], []) := by rw [HSN.out, HFS.out, if_pos ⟨h32, hgt⟩]
          exact ⟨⟨j + 1, hlt, by push_cast; rfl, ⟨RI.mk' hq HB2.out rfl HR2.out⟩⟩, by simp [intOf]; omega⟩
        · go_wp2_with fail
          refine (HWJ.out _).mono ?_
          rintro e w3 ⟨rfl, hb3⟩
          have HB3 := Aside0.mk (HB.out.trans (hb3.mono HB.out.size))
          have HR3 := Aside0.mk (ownsRow_kept HR.out (fun k e => hb3.block k (HR.out.lt k e).2))
          clear hb3
          go_wp2_with fail
          have hq : fillF s line (List.range (j + 1)) = (out, now ++ [bt s (j : Int)]) := by rw [HSN.out, HFS.out, if_neg (fun h => absurd h.2 (by omega)), if_neg (show ¬ (nb.size : Int) = line by omega)]
          refine ⟨⟨j + 1, hlt, by push_cast; rfl, ⟨RI.mk' hq HB3.out ?_ HR3.out⟩⟩, by simp [intOf]; omega⟩
          rw [HCC.out]
      · have hx32 : ¬ ((s[j]'hlt).toNat : Int) = 32 := fun h => h32 (hbt.trans h)
        clear hbt
        by_cases hB : (nb.size : Int) = line
        · go_wp2_with ((with_reducible refine gate_dst (N := 54) rfl ?_); refine wl_str out nb HB.out HR.out rfl rfl rfl rfl rfl hn6 ?_; intro A2 c2 w2 hb2 hr2; have HB2 := Aside0.mk hb2; have HR2 := Aside0.mk hr2; clear hb2 hr2)
          have hq : fillF s line (List.range (j + 1)) = (out ++ [nb], [bt s (j : Int)]) := by rw [HSN.out, HFS.out, if_neg (fun h => h32 h.1), if_pos hB]
          refine ⟨⟨j + 1, hlt, by push_cast; rfl, ⟨RI.mk' hq HB2.out ?_ HR2.out⟩⟩, by simp [intOf]; omega⟩
          show Value.string (strOfNums [] ++ s.extract j (j + 1)) = _
          rw [HC0.out]
          rfl
        · go_wp2_with fail
          have hq : fillF s line (List.range (j + 1)) = (out, now ++ [bt s (j : Int)]) := by rw [HSN.out, HFS.out, if_neg (fun h => h32 h.1), if_neg hB]
          refine ⟨⟨j + 1, hlt, by push_cast; rfl, ⟨RI.mk' hq HB.out ?_ HR.out⟩⟩, by simp [intOf]; omega⟩
          rw [HCC.out]
    · obtain rfl : j = s.size := by omega
      have q1 : ¬ (s.size : Int) < (s.size : Int) := by omega
      generalize fillF s line (List.range s.size) = st at *
      obtain ⟨out, now⟩ := st
      dsimp only at hb hr hbd HL
      have hnbs := str_size now
      generalize strOfNums now = nb at *
      rw [← hnbs] at HL
      clear hnbs
      have hn6 : out.length ≤ 1000000 := by omega
      obtain ⟨A, c0, rfl⟩ := own_slice hr
      have HB := Aside0.mk hb
      have HR := Aside0.mk hr
      clear hb hr
      by_cases hne : nb = ⟨#[]⟩
      · subst hne
        have hl : fillL s line = out := by rw [HL.out]; exact if_neg (by simp [ByteArray.size])
        have HLL := Aside0.mk hl
        clear hl
        go_wp2_with fail
        go_ret2
        rw [HLL.out]
        exact ⟨_, rfl, HR.out, HB.out⟩
      · have hl : fillL s line = out ++ [nb] := by
          rw [HL.out]
          refine if_pos ?_
          rcases Nat.eq_zero_or_pos nb.size with h | h
          · exact absurd (ByteArray.ext (Array.eq_empty_of_size_eq_zero h)) hne
          · omega
        have HLL := Aside0.mk hl
        clear hl
        go_wp2_with ((with_reducible refine gate_dst (N := 67) rfl ?_); refine wl_str out nb HB.out HR.out rfl rfl rfl rfl rfl hn6 ?_; intro A2 c2 w2 hb2 hr2; have HB2 := Aside0.mk hb2; have HR2 := Aside0.mk hr2; clear hb2 hr2)
        · go_ret2
          rw [HLL.out]
          exact ⟨_, rfl, HR2.out, HB2.out⟩
        · rename_i hx
          have h1 : nb.toList = [] := by simpa using hx
          rw [ByteArray.toList_eq] at h1
          exact absurd (ByteArray.ext (Array.toList_eq_nil_iff.1 h1)) hne
set_option maxRecDepth 100000 in
set_option maxHeartbeats 8000000 in
theorem rfill_bad (s : ByteArray) (line : Int) (w : World) (hs : s.size ≤ 20010) (h : fillE s line ≠ 0) :
    Calls Try.prog 13 #[.string s, .int .i64 line] w fun e w' => e = .returned (.tuple #[.slice none 0 0, .int .i64 (fillE s line)]) ∧ Below w.heap.size w w' := by
  have HT := Aside0.mk (fun W => rtext_is s W (by omega))
  by_cases h0 : (if cleanB s = true then (if (s.size : Int) > 20000 then (3 : Int) else 0) else 1) = 0
  · have hc : cleanB s = true := by
      by_cases hc : cleanB s = true
      · exact hc
      · rw [if_neg hc] at h0; cases h0
    rw [if_pos hc] at h0
    have h2 : ¬ (s.size : Int) > 20000 := fun h2 => by rw [if_pos h2] at h0; cases h0
    have h3 : ¬ (10 ≤ line ∧ line ≤ 200) := fun h3 => h (by unfold fillE; rw [if_pos hc, if_neg h2, if_pos h3])
    have he : fillE s line = 7 := by unfold fillE; rw [if_pos hc, if_neg h2, if_neg h3]
    rw [he]
    rw [if_pos hc, if_neg h2] at HT
    clear h he h0 hc
    by_cases h4 : line < 10
    · go_enter Try.func13, Try.ntmps13
      go_wp2_with fail
      refine (HT.out _).mono ?_
      rintro e w1 ⟨rfl, hb1⟩
      have B1 := Aside0.mk hb1
      clear hb1
      go_wp2_with fail
      go_ret2
      exact ⟨rfl, B1.out⟩
    · have h5 : line > 200 := by omega
      go_enter Try.func13, Try.ntmps13
      go_wp2_with fail
      refine (HT.out _).mono ?_
      rintro e w1 ⟨rfl, hb1⟩
      have B1 := Aside0.mk hb1
      clear hb1
      go_wp2_with fail
      go_ret2
      exact ⟨rfl, B1.out⟩
  · have he : fillE s line = (if cleanB s = true then (if (s.size : Int) > 20000 then (3 : Int) else 0) else 1) := by
      unfold fillE
      by_cases hc : cleanB s = true
      · rw [if_pos hc, if_pos hc]
        by_cases h2 : (s.size : Int) > 20000
        · rw [if_pos h2, if_pos h2]
        · rw [if_pos hc, if_neg h2] at h0; exact absurd rfl h0
      · rw [if_neg hc, if_neg hc]
    rw [he]
    clear h he
    generalize (if cleanB s = true then (if (s.size : Int) > 20000 then (3 : Int) else 0) else 1) = ee at *
    go_enter Try.func13, Try.ntmps13
    go_wp2_with fail
    refine (HT.out _).mono ?_
    rintro e w1 ⟨rfl, hb1⟩
    have B1 := Aside0.mk hb1
    clear hb1
    go_wp2_with fail
    go_ret2
    exact ⟨rfl, B1.out⟩
end Go.Proofs.Ytjamaccblokfkaa.P

-- from the text Hl
namespace Go.Proofs.Ytjamaccblokfkaa.P
open Go.RowKit Go.Proofs.YtjamaccblokfkaaW.PrintWords Go.Proofs.YtjamaccblokfkaaW.PrintLast Go.Proofs.YtjamaccblokfkaaW.PrintMore
set_option linter.unusedVariables false
set_option linter.unusedSimpArgs false
def tabN (k : Nat) : List Int := (List.range k).map fun (i : Nat) => 1 + 24 * (i : Int)
def pgN (line page : Int) (k : Nat) : Pg := ⟨1, 1, line, page, tabN k, [], [], false, false⟩
end Go.Proofs.Ytjamaccblokfkaa.P

-- from the text Hj
namespace Go.Proofs.Ytjamaccblokfkaa.P
open Go.RowKit Go.Proofs.YtjamaccblokfkaaW.PrintWords Go.Proofs.YtjamaccblokfkaaW.PrintLast Go.Proofs.YtjamaccblokfkaaW.PrintMore
set_option linter.unusedVariables false
set_option linter.unusedSimpArgs false
def abc : ByteArray := ⟨#[97, 98, 99]⟩
def de : ByteArray := ⟨#[100, 101]⟩
def pg1 : Pg := ⟨1, 5, 10, 2, [1, 6], [], [97, 98, 99], true, false⟩
def pg2 : Pg := ⟨1, 9, 10, 2, [1, 6], [], [97, 98, 99, 32, 32, 100, 101], true, false⟩
def abcde : ByteArray := ⟨#[97, 98, 99, 32, 32, 100, 101]⟩
def pg3 : Pg := ⟨2, 1, 10, 2, [1, 6], [abcde], [], false, false⟩
def pg4 : Pg := ⟨3, 1, 10, 2, [1, 6], [abcde, ⟨#[]⟩], [], false, true⟩
theorem pg1_eq : pItem pg0 1 abc = pg1 := by kernel_rfl
theorem pg2_eq : pItem pg1 6 de = pg2 := by kernel_rfl
theorem pg3_eq : pSkip pg2 1 = pg3 := by kernel_rfl
theorem pg4_eq : pSkip pg3 1 = pg4 := by kernel_rfl
theorem ok0 : Ok 0 pg0 := ⟨by decide, by decide, by decide, by decide, by decide, by decide⟩
theorem ok1 : Ok 0 pg1 := ⟨by decide, by decide, by decide, by decide, by decide, by decide⟩
theorem ok2 : Ok 0 pg2 := ⟨by decide, by decide, by decide, by decide, by decide, by decide⟩
theorem ok3 : Ok 1 pg3 := ⟨by decide, by decide, by decide, by decide, by decide, by decide⟩
theorem item1 (p : Nat) (F : Nat → Prop) (w0 w : World) (h : PgAt F w0 w p pg0) : Calls Try.prog 15 #[.pointer (some ⟨p, 0, none⟩), .string ⟨#[97, 98, 99]⟩] w fun e w' => e = .returned (.tuple #[.int .i64 0, .int .i64 0]) ∧ PgAt F w0 w' p pg1 := by
  have := item_is p pg0 abc 0 F w0 w 0 (by decide) (fun j hj => by omega) (by decide) (by decide) (by decide) (by decide) h ok0 (by decide) (by decide) (by kernel_rfl)
  rw [show pItem pg0 (pg0.tabs.getD 0 0) abc = pg1 from pg1_eq] at this
  exact this
theorem item2 (p : Nat) (F : Nat → Prop) (w0 w : World) (h : PgAt F w0 w p pg1) : Calls Try.prog 15 #[.pointer (some ⟨p, 0, none⟩), .string ⟨#[100, 101]⟩] w fun e w' => e = .returned (.tuple #[.int .i64 0, .int .i64 0]) ∧ PgAt F w0 w' p pg2 := by
  have := item_is p pg1 de 0 F w0 w 1 (by decide) (fun j hj => by obtain rfl : j = 0 := (by omega); decide) (by decide) (by decide) (by decide) (by decide) h ok1 (by decide) (by decide) (by kernel_rfl)
  rw [show pItem pg1 (pg1.tabs.getD 1 0) de = pg2 from pg2_eq] at this
  exact this
theorem skip1 (p : Nat) (F : Nat → Prop) (w0 w : World) (h : PgAt F w0 w p pg2) : Calls Try.prog 9 #[.pointer (some ⟨p, 0, none⟩), .int .i64 1] w fun e w' => e = .returned (.tuple #[.int .i64 0, .int .i64 0]) ∧ PgAt F w0 w' p pg3 := by
  have := skip_is p pg2 1 0 F w0 w h ok2 (by decide) (by decide) (by decide)
  rw [pg3_eq] at this
  exact this
theorem skip2 (p : Nat) (F : Nat → Prop) (w0 w : World) (h : PgAt F w0 w p pg3) : Calls Try.prog 9 #[.pointer (some ⟨p, 0, none⟩), .int .i64 1] w fun e w' => e = .returned (.tuple #[.int .i64 1, .int .i64 0]) ∧ PgAt F w0 w' p pg4 := by
  have := skip_is p pg3 1 1 F w0 w h ok3 (by decide) (by decide) (by decide)
  rw [pg4_eq] at this
  exact this
theorem pages2 (p : Nat) (F : Nat → Prop) (w0 w : World) (h : PgAt F w0 w p pg2) : Calls Try.prog 11 #[.pointer (some ⟨p, 0, none⟩)] w fun e w' => ∃ g cap g9 c, e = .returned (.slice (some ⟨g, 0, none⟩) 1 cap) ∧ w'.cell? ⟨g, 0, none⟩ = some (.slice (some ⟨g9, 0, none⟩) 1 c) ∧ w'.cell? ⟨g9, 0, none⟩ = some (.string ⟨#[97, 98, 99, 32, 32, 100, 101]⟩) ∧ Below w.heap.size w w' := by
  refine (pages_is p pg2 F w0 w h (by decide)).mono ?_
  rintro e w' ⟨v, rfl, g, cap, A, c, rfl, h1, h2, h3, _⟩
  have hs : shown pg2 = [⟨#[97, 98, 99, 32, 32, 100, 101]⟩] := by kernel_rfl
  rw [hs] at h1 h2
  rcases h2.2 with ⟨_, h⟩ | ⟨g9, cap9, cur, e, _⟩
  · cases h
  · cases e
    have h9 := own_cells h2 ⟨g9, 0, none⟩ rfl 0 _ rfl
    rw [add_plain] at h9
    exact ⟨g, cap, g9, _, rfl, h1, h9, h3⟩
set_option maxRecDepth 100000 in
set_option maxHeartbeats 4000000 in
theorem awake_is (w : World) : Calls Try.prog 6 #[] w fun e w' => e = .returned (.bool true) ∧ Below w.heap.size w w' := by
  have HB := Aside0.mk ((Below.refl w.heap.size w).alloc (Nat.le_refl _) (.cells #[.int .i64 1, .int .i64 6] 3 (0, 0)))
  have HN := Aside0.mk (new_16 w.heap.size (w.alloc (.cells #[.int .i64 1, .int .i64 6] 3 (0, 0))) (blk_new w _))
  go_enter Try.func6, Try.ntmps6
  go_wp2_with fail
  generalize w.alloc (.cells #[.int .i64 1, .int .i64 6] 3 (0, 0)) = wb at *
  refine HN.out.mono ?_
  rintro e w1 ⟨p, rfl, h1⟩
  have H1 := Aside0.mk h1
  clear h1 HN
  go_wp2_with fail
  refine (item1 p _ wb w1 H1.out).mono ?_
  rintro e w2 ⟨rfl, h2⟩
  have H2 := Aside0.mk h2
  clear h2 H1
  go_wp2_with fail
  refine (item2 p _ wb w2 H2.out).mono ?_
  rintro e w3 ⟨rfl, h3⟩
  have H3 := Aside0.mk h3
  clear h3 H2
  go_wp2_with fail
  refine (pages2 p _ wb w3 H3.out).mono ?_
  rintro e w4 ⟨g, cap, g9, c, rfl, c1, c2, hb4⟩
  have H4 := Aside0.mk (H3.out.step hb4)
  clear hb4 H3
  go_wp2_with fail
  refine (skip1 p _ wb w4 H4.out).mono ?_
  rintro e w5 ⟨rfl, h5⟩
  have H5 := Aside0.mk h5
  clear h5 H4 c1 c2
  go_wp2_with fail
  refine (skip2 p _ wb w5 H5.out).mono ?_
  rintro e w6 ⟨rfl, h6⟩
  have H6 := Aside0.mk h6
  clear h6 H5
  go_wp2_with fail
  go_ret
  exact ⟨rfl, HB.out.trans (H6.out.2.below.mono HB.out.size)⟩
end Go.Proofs.Ytjamaccblokfkaa.P

-- from the text Hm
namespace Go.Proofs.Ytjamaccblokfkaa.P
open Go.RowKit Go.Proofs.YtjamaccblokfkaaW.PrintWords Go.Proofs.YtjamaccblokfkaaW.PrintLast Go.Proofs.YtjamaccblokfkaaW.PrintMore
set_option linter.unusedVariables false
set_option linter.unusedSimpArgs false
/-- Blocks of other types lie as they lay. -/
def KeepT (w w' : World) : Prop := ∀ (k : Nat) (cs : Array Value) (t : TypeId), w.heap[k]? = some (Obj.cells cs t (0, 0)) → t ≠ 57 → t ≠ 5 → w'.heap[k]? = some (Obj.cells cs t (0, 0))
theorem KeepT.trans {a b c : World} (h : KeepT a b) (k : KeepT b c) : KeepT a c := fun i cs t hc h1 h2 => k i cs t (h i cs t hc h1 h2) h1 h2
theorem KeepT.refl (a : World) : KeepT a a := fun i cs t hc _ _ => hc
theorem KeepT.set {w : World} {b i : Nat} {c : Array Value} {z : Nat × Nat} (hb : w.heap[b]? = some (.cells c 57 z)) (v : Value) : KeepT w (w.setCell ⟨b, i, none⟩ v) := fun k cs t hc h1 h2 =>
  (Below.heap_setCell w _ _ k (fun e => by subst e; have := hb.symm.trans hc; simp at this; exact h1 this.2.1.symm)).trans hc
end Go.Proofs.Ytjamaccblokfkaa.P

-- from the text Hn
namespace Go.Proofs.Ytjamaccblokfkaa.P
open Go.RowKit Go.Proofs.YtjamaccblokfkaaW.PrintWords Go.Proofs.YtjamaccblokfkaaW.PrintLast Go.Proofs.YtjamaccblokfkaaW.PrintMore
set_option linter.unusedVariables false
set_option linter.unusedSimpArgs false
def textL (l : List ByteArray) : List UInt8 := (l.map fun s => s.data.toList ++ [10]).flatten
end Go.Proofs.Ytjamaccblokfkaa.P

-- from the text Pv
namespace Go.Proofs.Ytjamaccblokfkaa.P
open Go.RowKit Go.Proofs.YtjamaccblokfkaaW.PrintWords Go.Proofs.YtjamaccblokfkaaW.PrintLast Go.Proofs.YtjamaccblokfkaaW.PrintMore
set_option linter.unusedVariables false
set_option linter.unusedSimpArgs false
/-- Since w0: the print files s at p and t at q, apart, both newer than w0. -/
def Two (w0 w : World) (p q : Nat) (s t : Pg) : Prop := ∃ g rv tv nv g' rv' tv' nv', PgM w p g rv tv nv s ∧ PgM w q g' rv' tv' nv' t ∧ (∀ k, foot p g rv tv nv k → w0.heap.size ≤ k) ∧ (∀ k, foot q g' rv' tv' nv' k → w0.heap.size ≤ k) ∧ (∀ k, foot p g rv tv nv k → ¬ foot q g' rv' tv' nv' k) ∧ Below w0.heap.size w0 w
theorem Two.below {w0 w : World} {p q : Nat} {s t : Pg} (h : Two w0 w p q s t) : Below w0.heap.size w0 w := by
  obtain ⟨_, _, _, _, _, _, _, _, _, _, _, _, _, h⟩ := h
  exact h
theorem Two.step {w0 w w' : World} {p q : Nat} {s t : Pg} (h : Two w0 w p q s t) (hb : Below w.heap.size w w') : Two w0 w' p q s t := by
  obtain ⟨g, rv, tv, nv, g', rv', tv', nv', h1, h2, h3, h4, h5, h6⟩ := h
  exact ⟨g, rv, tv, nv, g', rv', tv', nv', h1.kept (fun k hk => hb.block k (h1.foot_lt hk)), h2.kept (fun k hk => hb.block k (h2.foot_lt hk)), h3, h4, h5, h6.trans (hb.mono h6.size)⟩
theorem Two.make {w0 w1 w2 w3 : World} {p q : Nat} {s t : Pg} (hb : Below w0.heap.size w0 w1) (ha : PgAt (fun _ => False) w1 w2 p s) (hc : PgAt (fun _ => False) w2 w3 q t) : Two w0 w3 p q s t := by
  obtain ⟨⟨g, rv, tv, nv, hM, hF⟩, hT⟩ := ha
  obtain ⟨⟨g', rv', tv', nv', hM', hF'⟩, hT'⟩ := hc
  have b1 := hT.below
  have b2 := hT'.below
  refine ⟨g, rv, tv, nv, g', rv', tv', nv', hM.kept (fun k hk => b2.block k (hM.foot_lt hk)), hM', fun k hk => ?_, fun k hk => ?_, fun k hk hq => ?_, (hb.trans (b1.mono hb.size)).trans (b2.mono (Nat.le_trans hb.size b1.size))⟩
  · have := (hF k hk).resolve_left id
    have := hb.size
    omega
  · have := (hF' k hk).resolve_left id
    have := hb.size
    have := b1.size
    omega
  · have h1 := (hF' k hq).resolve_left id
    have h2 := hM.foot_lt hk
    omega
/-- The same but for the tabs. -/
def TwoX (w0 w : World) (p q : Nat) (s t : Pg) : Prop := ∃ la lb, Two w0 w p q (retab s la) (retab t lb)
theorem TwoX.below {w0 w : World} {p q : Nat} {s t : Pg} (h : TwoX w0 w p q s t) : Below w0.heap.size w0 w := by
  obtain ⟨_, _, h⟩ := h
  exact h.below
theorem TwoX.step {w0 w w' : World} {p q : Nat} {s t : Pg} (h : TwoX w0 w p q s t) (hb : Below w.heap.size w w') : TwoX w0 w' p q s t := by
  obtain ⟨la, lb, h⟩ := h
  exact ⟨la, lb, h.step hb⟩
theorem Ok.retab {m : Nat} {s : Pg} (h : Ok m s) (l : List Int) : Ok m (retab s l) := ⟨h.now, h.col, h.sz, h.rows, h.L, h.ln⟩
theorem TwoX.make {w0 w1 w2 w3 : World} {p q : Nat} {line page : Int} {k k' : Nat} (u : Pg) (hb : Below w0.heap.size w0 w1) {s t : Pg} {la lb : List Int} (hs : s = retab u la) (ht : t = retab u lb) (ha : PgAt (fun _ => False) w1 w2 p s) (hc : PgAt (fun _ => False) w2 w3 q t) : TwoX w0 w3 p q u u := by
  subst hs; subst ht
  exact ⟨la, lb, Two.make hb ha hc⟩
theorem pWrite_sz (s : Pg) (c : Int) : (pWrite s c).sz = s.sz := by
  show (pRoom s).sz = s.sz
  unfold pRoom
  split <;> rfl
theorem pStr_sz (s : Pg) (b : ByteArray) : (pStr s b).sz = s.sz := by
  rw [pStr_fold]
  generalize byt b = l
  induction l generalizing s with
  | nil => rfl
  | cons c l ih => rw [List.foldl_cons, ih, pWrite_sz]
theorem pSkip_sz (s : Pg) (k : Nat) : (pSkip s k).sz = s.sz := by
  induction k with
  | zero => rfl
  | succ k ih => exact ih
def catL (l : List ByteArray) : ByteArray := ⟨((l.map fun b => b.data.toList).flatten).toArray⟩
theorem byt_data (b : ByteArray) : byt b = b.data.toList.map fun c => (c.toNat : Int) := by
  apply List.ext_getElem?
  intro i
  by_cases hi : i < b.size
  · have hl : i < b.data.toList.length := by simpa using hi
    rw [byt_get _ _ hi, ← bt_at b (i : Int) (by rw [Int.toNat_natCast]; exact hi), List.getElem?_map, List.getElem?_eq_getElem hl]
    simp [ByteArray.getElem_eq_getElem_data]
  · rw [List.getElem?_eq_none (by rw [byt_len]; omega), List.getElem?_eq_none (by simp; exact Nat.le_of_not_lt hi)]
theorem byt_inj {a b : ByteArray} (h : byt a = byt b) : a = b := by
  rw [byt_data, byt_data] at h
  have h2 : a.data.toList = b.data.toList := by
    have := congrArg (List.map fun (i : Int) => UInt8.ofNat i.toNat) h
    simpa [List.map_map, Function.comp_def] using this
  exact ByteArray.ext (Array.toList_inj.1 h2)
theorem byt_cat (l : List ByteArray) : byt (catL l) = (l.map byt).flatten := by
  rw [byt_data]
  unfold catL
  simp only [List.map_flatten, List.map_map]
  congr 1
  apply List.map_congr_left
  intro b _
  exact (byt_data b).symm
theorem textL_bound (l : List ByteArray) (c : Nat) (h : ∀ x ∈ l, x.size ≤ c) : (textL l).length ≤ l.length * (c + 1) := by
  induction l with
  | nil => simp [textL]
  | cons x l ih =>
    have h1 := ih (fun y hy => h y (List.mem_cons_of_mem _ hy))
    have h2 := h x (List.mem_cons_self ..)
    have h3 : (textL (x :: l)).length = x.size + 1 + (textL l).length := by
      unfold textL
      rw [List.map_cons, List.flatten_cons, List.length_append, List.length_append, List.length_singleton]
      rfl
    rw [h3, List.length_cons, Nat.succ_mul]
    omega
/-- What is shown behind at least one skip. -/
theorem shown_skip (s : Pg) (n : Nat) (h : 1 ≤ n) : shown (pSkip s n) = (pSkip s n).L ∧ flat (pSkip s n) = ((pSkip s n).L.map byt).flatten := by
  obtain ⟨k, rfl⟩ : ∃ k, n = k + 1 := ⟨n - 1, by omega⟩
  refine ⟨rfl, ?_⟩
  show ((pSkip s (k + 1)).L.map byt).flatten ++ [] = _
  rw [List.append_nil]
theorem okN {line page : Int} (h : 10 ≤ line ∧ line ≤ 200 ∧ 1 ≤ page ∧ page ≤ 200) : Ok 0 (pgN line page 0) ∧ Full (pgN line page 0) := by
  refine ⟨⟨?_, ?_, ?_, ?_, ?_, ?_⟩, ⟨?_, ?_, ?_, ?_, ?_⟩⟩ <;> simp [pgN] <;> omega
/-- What the two files are at the end. -/
theorem ends {line page : Int} (h : 10 ≤ line ∧ line ≤ 200 ∧ 1 ≤ page ∧ page ≤ 200) (text : ByteArray) (n : Nat) (h1 : 1 ≤ n) (hn : n ≤ 60) (ht : text.size ≤ 3000) (Z : Pg) (hZ : Z = pSkip (pStr (pgN line page 0) text) n) :
    Z.L.length ≤ 3060 ∧ (textL (shown Z)).length ≤ 1000000 ∧ catL (shown Z) = text ∧ (∀ x ∈ shown Z, (x.size : Int) ≤ line) ∧ (shown Z).length ≤ 3060 := by
  obtain ⟨ho, hf⟩ := okN h
  obtain ⟨f1, f2, f3⟩ := hf.str (by show (1 : Int) ≤ 1; omega) text
  obtain ⟨f4, f5⟩ := f1.skip n
  have hsz : (pSkip (pStr (pgN line page 0) text) n).sz = line := by rw [pSkip_sz, pStr_sz]; rfl
  obtain ⟨g1, g2⟩ := shown_skip (pStr (pgN line page 0) text) n h1
  have hk := ((ho.strN text text.size).skip n).L
  subst hZ
  have hL : (pSkip (pStr (pgN line page 0) text) n).L.length ≤ 3060 := by unfold pStr; omega
  have hx : ∀ x ∈ shown (pSkip (pStr (pgN line page 0) text) n), (x.size : Int) ≤ line := by rw [g1]; intro x hx'; have := f4.L x hx'; omega
  refine ⟨hL, ?_, ?_, hx, by rw [g1]; exact hL⟩
  · have hb := textL_bound _ 200 (fun x hx' => by have := hx x hx'; omega)
    rw [g1] at hb ⊢
    omega
  · apply byt_inj
    rw [byt_cat, g1, ← g2, f5, f2]
    rfl
end Go.Proofs.Ytjamaccblokfkaa.P

-- from the text A14
namespace Go.Proofs.Ytjamaccblokfkaa.P
open Go.RowKit Go.Proofs.YtjamaccblokfkaaW.PrintWords Go.Proofs.YtjamaccblokfkaaW.PrintLast Go.Proofs.YtjamaccblokfkaaW.PrintMore
attribute [local go_sem] max2_int min2_int max_two min_two max_three min_three max_four min_four   -- for this text's walks alone
set_option linter.unusedVariables false
set_option linter.unusedSimpArgs false
def ironbarkref21_SameTexts.l0 : Nat → List ByteArray → List ByteArray → Int → Option (Bool)
  | 0, _, _, _ => none
  | k + 1, x0, x1, x5 => if x5 < (x0.length : Int) then (if 0 ≤ x5 then (if x5 < (x1.length : Int) then (if (rdOf ByteArray.empty x0 x5).toList = (rdOf ByteArray.empty x1 x5).toList then (ironbarkref21_SameTexts.l0 k x0 x1 (wrap64 (x5 + 1))) else (some false)) else (none)) else (none)) else (some true)
def ironbarkref21_SameTexts.f (k : Nat) (l0 : List ByteArray) (l1 : List ByteArray) : Option (Bool) := if (l0.length : Int) = (l1.length : Int) then (ironbarkref21_SameTexts.l0 k l0 l1 0) else (some false)
set_option maxHeartbeats 8000000 in
set_option maxRecDepth 100000 in
theorem ironbarkref21_SameTexts.calls (k : Nat) (A0 : Option Addr) (c0 : Nat) (l0 : List ByteArray) (A1 : Option Addr) (c1 : Nat) (l1 : List ByteArray) (r : Bool) (w : World) (hr0 : Kd.C Kd.string w A0 l0.length l0) (hc0 : l0.length ≤ c0) (hr1 : Kd.C Kd.string w A1 l1.length l1) (hc1 : l1.length ≤ c1) (h : ironbarkref21_SameTexts.f k l0 l1 = some r) :
    Calls Try.prog 14 #[.slice A0 l0.length c0, .slice A1 l1.length c1] w fun e w' => e = .returned (.bool r) ∧ Drawn0 w w' := by
  have HR0 := Aside0.mk hr0
  have HC0 := Aside0.mk hc0
  clear hr0 hc0
  have HR1 := Aside0.mk hr1
  have HC1 := Aside0.mk hc1
  clear hr1 hc1
  have H : (if (l0.length : Int) = (l1.length : Int) then (ironbarkref21_SameTexts.l0 k l0 l1 0) else (some false)) = some r := h
  clear h
  by_cases c3 : (l0.length : Int) = (l1.length : Int)
  · rw [if_pos c3] at H
    have c3b0 : ((l0.length : Int) == (l1.length : Int)) = true := beq_iff_eq.mpr c3
    have c3b1 : ((l0.length : Int) != (l1.length : Int)) = false := bne_eq_false_iff_eq.mpr c3
    have c3b2 : (l0.length == l1.length) = true := by first | simpa using c3 | (simp at c3 ⊢; omega)
    clear c3
    have H' := Aside0.mk H
    clear H
    go_enter Try.func14, Try.ntmps14
    go_wp2
    repeat (go_quiet (fail); try go_wp2)
    go_loopg [5] k (fun kq v5 w' => ∃ (x5_1 : Int), v5 = .int .i64 x5_1 ∧ Aside0 (ironbarkref21_SameTexts.l0 kq l0 l1 x5_1 = some r) ∧ Aside0 (kq ≤ k) ∧ Drawn0 w w')
    case atStart => exact ⟨(0), (by first | rfl | (simp; done) | (generalize ByteArray.toList _ = l_; cases l_ <;> rfl) | (simp [*]; done)), H', ⟨Nat.le_refl _⟩, by repeat (first | exact Drawn0.refl _ | apply Drawn0.step)⟩
    case round =>
      clear H'
      try clear c1
      try clear p2
      try clear c3
      try clear c3b0
      try clear c3b1
      try clear c3b2
      obtain ⟨x5_1, rfl, HA, HK1, ⟨m1, rfl⟩⟩ := hrel
      cases gk with
      | zero => exact absurd HA.out (by simp [ironbarkref21_SameTexts.l0])
      | succ k1 =>
        have H := HA.out
        clear HA
        simp only [ironbarkref21_SameTexts.l0] at H
        by_cases c4 : x5_1 < (l0.length : Int)
        · rw [if_pos c4] at H
          have c4b0 : decide (x5_1 < (l0.length : Int)) = true := decide_eq_true c4
          clear c4
          by_cases c5 : 0 ≤ x5_1
          · rw [if_pos c5] at H
            have c5b0 : decide (0 ≤ x5_1) = true := decide_eq_true c5
            clear c5
            by_cases c6 : x5_1 < (l1.length : Int)
            · rw [if_pos c6] at H
              have c6b0 : decide (x5_1 < (l1.length : Int)) = true := decide_eq_true c6
              clear c6
              by_cases c7 : (rdOf ByteArray.empty l0 x5_1).toList = (rdOf ByteArray.empty l1 x5_1).toList
              · rw [if_pos c7] at H
                have c7b0 : ((rdOf ByteArray.empty l0 x5_1).toList == (rdOf ByteArray.empty l1 x5_1).toList) = true := beq_iff_eq.mpr c7
                have c7b1 : ((rdOf ByteArray.empty l0 x5_1).toList != (rdOf ByteArray.empty l1 x5_1).toList) = false := bne_eq_false_iff_eq.mpr c7
                clear c7
                have H' := Aside0.mk H
                clear H
                have p101 : 0 ≤ (x5_1 : Int) := of_decide_eq_true (by first | (with_reducible assumption) | assumption)
                have q101 : x5_1 < (l0.length : Int) := of_decide_eq_true (by first | (with_reducible assumption) | assumption)
                obtain ⟨ad101, e101, hx101_0⟩ := Kd.at_string HR0.out x5_1 p101 q101
                cases e101
                replace p101 := eq_true p101
                replace q101 := eq_true q101
                have p102 : 0 ≤ (x5_1 : Int) := of_decide_eq_true (by first | (with_reducible assumption) | assumption)
                have q102 : x5_1 < (l1.length : Int) := of_decide_eq_true (by first | (with_reducible assumption) | assumption)
                obtain ⟨ad102, e102, hx102_0⟩ := Kd.at_string HR1.out x5_1 p102 q102
                cases e102
                replace p102 := eq_true p102
                replace q102 := eq_true q102
                go_wp2
                repeat (go_quiet (fail); try go_wp2)
                go_roundg k1
                case measure => have := HK1.out; omega
                case rel => exact ⟨(wrap64 (x5_1 + 1)), (by first | rfl | (simp; done) | (generalize ByteArray.toList _ = l_; cases l_ <;> rfl) | (simp [*]; done)), H', ⟨by have := HK1.out; omega⟩, by repeat (first | exact Drawn0.refl _ | apply Drawn0.step)⟩
              · rw [if_neg c7] at H
                have c7b0 : ((rdOf ByteArray.empty l0 x5_1).toList == (rdOf ByteArray.empty l1 x5_1).toList) = false := beq_eq_false_iff_ne.mpr c7
                have c7b1 : ((rdOf ByteArray.empty l0 x5_1).toList != (rdOf ByteArray.empty l1 x5_1).toList) = true := bne_iff_ne.mpr c7
                obtain rfl := Option.some.inj H
                have p101 : 0 ≤ (x5_1 : Int) := of_decide_eq_true (by first | (with_reducible assumption) | assumption)
                have q101 : x5_1 < (l0.length : Int) := of_decide_eq_true (by first | (with_reducible assumption) | assumption)
                obtain ⟨ad101, e101, hx101_0⟩ := Kd.at_string HR0.out x5_1 p101 q101
                cases e101
                replace p101 := eq_true p101
                replace q101 := eq_true q101
                have p102 : 0 ≤ (x5_1 : Int) := of_decide_eq_true (by first | (with_reducible assumption) | assumption)
                have q102 : x5_1 < (l1.length : Int) := of_decide_eq_true (by first | (with_reducible assumption) | assumption)
                obtain ⟨ad102, e102, hx102_0⟩ := Kd.at_string HR1.out x5_1 p102 q102
                cases e102
                replace p102 := eq_true p102
                replace q102 := eq_true q102
                go_wp2
                repeat (go_quiet (fail); try go_wp2)
                go_ret
                exact ⟨by first | rfl | (simp; done) | (simp [*]; done), by repeat (first | exact Drawn0.refl _ | apply Drawn0.step)⟩
            · rw [if_neg c6] at H
              exact absurd H (by simp)
          · rw [if_neg c5] at H
            exact absurd H (by simp)
        · rw [if_neg c4] at H
          have c4b0 : decide (x5_1 < (l0.length : Int)) = false := decide_eq_false c4
          clear c4
          obtain rfl := Option.some.inj H
          go_wp2
          repeat (go_quiet (fail); try go_wp2)
          go_ret
          exact ⟨by first | rfl | (simp; done) | (simp [*]; done), by repeat (first | exact Drawn0.refl _ | apply Drawn0.step)⟩
  · rw [if_neg c3] at H
    have c3b0 : ((l0.length : Int) == (l1.length : Int)) = false := beq_eq_false_iff_ne.mpr c3
    have c3b1 : ((l0.length : Int) != (l1.length : Int)) = true := bne_iff_ne.mpr c3
    have c3b2 : (l0.length == l1.length) = false := by first | simpa using c3 | (simp at c3 ⊢; omega)
    obtain rfl := Option.some.inj H
    go_enter Try.func14, Try.ntmps14
    go_wp2
    repeat (go_quiet (fail); try go_wp2)
    go_ret
    exact ⟨by first | rfl | (simp; done) | (simp [*]; done), by repeat (first | exact Drawn0.refl _ | apply Drawn0.step)⟩
end Go.Proofs.Ytjamaccblokfkaa.P

-- from the text Fe
namespace Go.Proofs.Ytjamaccblokfkaa.P
open Go.RowKit Go.Shelf Go.Proofs.YtjamaccblokfkaaW.PrintWords Go.Proofs.YtjamaccblokfkaaW.PrintLast Go.Proofs.YtjamaccblokfkaaW.PrintMore
set_option linter.unusedVariables false
set_option linter.unusedSimpArgs false
/-- A text's bytes but for the blanks. -/
def nbl (l : List Int) : List Int := l.filter (fun c => decide (c ≠ 32))
theorem nbl_app (a b : List Int) : nbl (a ++ b) = nbl a ++ nbl b := List.filter_append ..
theorem nbl_blank : nbl [32] = [] := by decide
theorem nbl_one (c : Int) (h : c ≠ 32) : nbl [c] = [c] := by simp [nbl, h]
theorem nbl_len (l : List Int) : (nbl l).length ≤ l.length := List.length_filter_le ..
theorem byt_take (s : ByteArray) (k : Nat) (h : k < s.size) : (byt s).take (k + 1) = (byt s).take k ++ [bt s (k : Int)] := by
  rw [List.take_add_one, byt_get s k h]
  rfl
theorem bt_rng (s : ByteArray) (k : Int) : 0 ≤ bt s k ∧ bt s k ≤ 255 := by
  unfold bt
  split
  · rename_i h
    have := UInt8.toNat_lt (s[k.toNat]'h)
    omega
  · omega
/-- What holds of what is cut off and of the line under way. -/
def Cut (s : ByteArray) (line : Int) (k : Nat) (st : List ByteArray × List Int) : Prop :=
  nbl ((st.1.map byt).flatten ++ st.2) = nbl ((byt s).take k) ∧ (∀ x ∈ st.1, (x.size : Int) ≤ line) ∧ (st.2.length : Int) ≤ line ∧ ∀ c ∈ st.2, 0 ≤ c ∧ c ≤ 255
theorem cut_snoc (out : List ByteArray) (now : List Int) (h : ∀ c ∈ now, 0 ≤ c ∧ c ≤ 255) : ((out ++ [strOfNums now]).map byt).flatten = (out.map byt).flatten ++ now := by
  rw [List.map_append, List.flatten_append, List.map_singleton, List.flatten_singleton, byt_str now h]
theorem Cut.step {s : ByteArray} {line : Int} {k : Nat} {st : List ByteArray × List Int} (h : Cut s line k st) (hk : k < s.size) (hl : 1 ≤ line) : Cut s line (k + 1) (fillS s line st k) := by
  obtain ⟨out, now⟩ := st
  obtain ⟨h1, h2, h3, h4⟩ := h
  dsimp only at h1 h2 h3 h4
  have hb := bt_rng s (k : Int)
  have hx : ∀ x ∈ out ++ [strOfNums now], (x.size : Int) ≤ line := fun x hx => by
    rcases List.mem_append.1 hx with hx | hx
    · exact h2 x hx
    · rw [List.mem_singleton.1 hx, str_size]; exact h3
  unfold fillS
  dsimp only
  split
  · rename_i hc
    refine ⟨?_, hx, by show ((0 : Nat) : Int) ≤ line; omega, fun c hc => by cases hc⟩
    dsimp only
    rw [cut_snoc out now h4, List.append_nil, byt_take s k hk, nbl_app ((byt s).take k), h1, hc.1, nbl_blank, List.append_nil]
  · rename_i hc
    split
    · refine ⟨?_, hx, by show ((1 : Nat) : Int) ≤ line; omega, fun c hc => by rw [List.mem_singleton.1 hc]; exact hb⟩
      dsimp only
      rw [cut_snoc out now h4, byt_take s k hk, nbl_app ((out.map byt).flatten ++ now), nbl_app ((byt s).take k), h1]
    · rename_i hn
      refine ⟨?_, h2, by show ((now ++ [_]).length : Int) ≤ line; rw [List.length_append, List.length_singleton]; omega, fun c hc => ?_⟩
      · dsimp only
        rw [byt_take s k hk, ← List.append_assoc, nbl_app ((out.map byt).flatten ++ now), nbl_app ((byt s).take k), h1]
      · rcases List.mem_append.1 hc with hc | hc
        · exact h4 c hc
        · rw [List.mem_singleton.1 hc]; exact hb
theorem cut_all (s : ByteArray) (line : Int) (hl : 1 ≤ line) : ∀ k, k ≤ s.size → Cut s line k (fillF s line (List.range k))
  | 0, _ => by
    show Cut s line 0 ([], [])
    exact ⟨rfl, (fun x h => by cases h), (by show ((0 : Nat) : Int) ≤ line; omega), (fun c h => by cases h)⟩
  | k + 1, h => by
    rw [List.range_succ, fillF_snoc]
    exact (cut_all s line hl k (by omega)).step h hl
theorem fillL_ok (s : ByteArray) (line : Int) (hl : 1 ≤ line) : nbl (((fillL s line).map byt).flatten) = nbl (byt s) ∧ (∀ x ∈ fillL s line, (x.size : Int) ≤ line) ∧ (fillL s line).length ≤ s.size + 1 := by
  have h := cut_all s line hl s.size (Nat.le_refl _)
  have hb := fillF_bound s line (List.range s.size)
  rw [List.length_range] at hb
  unfold fillL
  generalize fillF s line (List.range s.size) = st at *
  obtain ⟨out, now⟩ := st
  obtain ⟨h1, h2, h3, h4⟩ := h
  dsimp only at *
  rw [List.take_of_length_le (by rw [byt_len]; exact Nat.le_refl _)] at h1
  split
  · refine ⟨by rw [cut_snoc out now h4]; exact h1, fun x hx => ?_, by rw [List.length_append]; simp; omega⟩
    rcases List.mem_append.1 hx with hx | hx
    · exact h2 x hx
    · rw [List.mem_singleton.1 hx, str_size]; exact h3
  · have hn : now = [] := List.eq_nil_of_length_eq_zero (by omega)
    subst hn
    rw [List.append_nil] at h1
    exact ⟨h1, h2, by omega⟩
/-- The text's bytes but for blanks, as the law puts them behind one another. -/
theorem law_text (s : ByteArray) : ∃ F : Nat → ByteArray, F 0 = ⟨#[]⟩ ∧ F s.size = strOfNums (nbl (byt s)) ∧ ∀ j, j < s.size → (F j).size + 1 ≤ s.size ∧ (bt s (j : Int) = 32 → F (j + 1) = F j) ∧ (bt s (j : Int) ≠ 32 → F j ++ s.extract j (j + 1) = F (j + 1)) := by
  refine ⟨fun j => strOfNums (nbl ((byt s).take j)), rfl, ?_, fun j hj => ⟨?_, fun h => ?_, fun h => ?_⟩⟩
  · dsimp only
    rw [List.take_of_length_le (by rw [byt_len]; exact Nat.le_refl _)]
  · dsimp only
    rw [str_size]
    have := nbl_len ((byt s).take j)
    rw [List.length_take] at this
    omega
  · dsimp only
    rw [byt_take s j hj, nbl_app, h, nbl_blank, List.append_nil]
  · dsimp only
    rw [byt_take s j hj, nbl_app, nbl_one _ h, str_snoc _ s j hj]
theorem flat_len (c : Nat) : ∀ l : List ByteArray, (∀ x ∈ l, x.size ≤ c) → ((l.map byt).flatten).length ≤ l.length * c
  | [], _ => by simp
  | x :: l, h => by
    have h1 := h x (by simp)
    have h2 := flat_len c l (fun y hy => h y (by simp [hy]))
    rw [List.map_cons, List.flatten_cons, List.length_append, byt_len, List.length_cons, Nat.succ_mul]
    omega
/-- The lines' bytes but for blanks, as the law puts them behind one another. -/
theorem law_lines (l : List ByteArray) (hl : ∀ x ∈ l, x.size ≤ 200) (hn : l.length ≤ 4001) : ∃ G : Nat → Nat → ByteArray, G 0 0 = ⟨#[]⟩ ∧ G l.length 0 = strOfNums (nbl ((l.map byt).flatten)) ∧
    ∀ i (hi : i < l.length), G i (l[i].size) = G (i + 1) 0 ∧ ∀ j, j < (l[i]).size → (G i j).size + 1 ≤ 1000000 ∧ (bt l[i] (j : Int) = 32 → G i (j + 1) = G i j) ∧ (bt l[i] (j : Int) ≠ 32 → G i j ++ (l[i]).extract j (j + 1) = G i (j + 1)) := by
  refine ⟨fun i j => strOfNums (nbl (((l.take i).map byt).flatten) ++ nbl ((byt (l.getD i ⟨#[]⟩)).take j)), rfl, ?_, fun i hi => ?_⟩
  · dsimp only
    rw [List.take_length, List.take_zero]
    show strOfNums (_ ++ []) = _
    rw [List.append_nil]
  have hg : l.getD i ⟨#[]⟩ = l[i] := by rw [List.getD_eq_getElem?_getD, List.getElem?_eq_getElem hi]; rfl
  dsimp only
  rw [hg]
  refine ⟨?_, fun j hj => ⟨?_, fun h => ?_, fun h => ?_⟩⟩
  · rw [List.take_of_length_le (l := byt l[i]) (by rw [byt_len]; exact Nat.le_refl _), List.take_zero, ← List.take_append_getElem hi, List.map_append, List.flatten_append, List.map_singleton, List.flatten_singleton, nbl_app]
    show _ = strOfNums (_ ++ [])
    rw [List.append_nil]
  · rw [str_size, List.length_append]
    have h1 := nbl_len (((l.take i).map byt).flatten)
    have h2 := nbl_len ((byt l[i]).take j)
    have h3 := flat_len 200 (l.take i) (fun x hx => hl x (List.mem_of_mem_take hx))
    have h4 := hl l[i] (List.getElem_mem hi)
    rw [List.length_take] at h2 h3
    have h5 : min i l.length ≤ 4001 := by omega
    have h6 : min i l.length * 200 ≤ 4001 * 200 := Nat.mul_le_mul_right _ h5
    omega
  · rw [byt_take _ j hj, nbl_app, h, nbl_blank, List.append_nil]
  · rw [byt_take _ j hj, nbl_app, nbl_one _ h, ← List.append_assoc, str_snoc _ _ j hj]
theorem C_str {w : World} {base : Nat} {v : Value} {l : List ByteArray} (h : w.ownsRow base 9 1 v l.length (strs l)) : ∃ A c, v = .slice A l.length c ∧ l.length ≤ c ∧ Kd.C Kd.string w A l.length l := by
  rcases h.2 with ⟨rfl, h0⟩ | ⟨g, cap, cur, rfl, hb, hg, hcap, hmx, hsz, ht⟩
  · have : l = [] := List.eq_nil_of_length_eq_zero h0
    subst this
    exact ⟨none, 0, rfl, Nat.le_refl _, Kd.C_nil _ w⟩
  · refine ⟨_, cap, rfl, hcap, rfl, by have : maxLen = 9223372036854775807 := rfl; omega, fun _ => ⟨_, rfl, fun j p hj => ⟨[.string p], rfl, rfl, fun i u hu => ?_⟩⟩⟩
    have hi : i = 0 := by
      have := (List.getElem?_eq_some_iff.1 hu).1
      simp [Value.cells] at this
      omega
    subst hi
    have hu2 : u = .string p := by simpa [Value.cells] using hu.symm
    subst hu2
    rw [add_plain]
    have := own_cells h ⟨g, 0, none⟩ rfl j (.string p) (by simp [strs, hj])
    rw [add_plain] at this
    rw [show j * Kd.string.sz = j from Nat.mul_one j]
    simpa using this
theorem same_is (A1 A2 : Option Addr) (c1 c2 : Nat) (l : List ByteArray) (w : World) (hn : l.length ≤ 100000) (h1 : Kd.C Kd.string w A1 l.length l) (hc1 : l.length ≤ c1) (h2 : Kd.C Kd.string w A2 l.length l) (hc2 : l.length ≤ c2) :
    Calls Try.prog 14 #[.slice A1 l.length c1, .slice A2 l.length c2] w fun e w' => e = .returned (.bool true) ∧ Below w.heap.size w w' := by
  have h : ∀ d i : Nat, i + d = l.length → Ev (fun k => ironbarkref21_SameTexts.l0 k l l (i : Int)) true := by
    intro d
    induction d with
    | zero =>
      intro i hi
      exact Ev.step (f := fun _ => some true) (fun k => by simp only [ironbarkref21_SameTexts.l0]; rw [if_neg (by omega)]) (Ev.now _)
    | succ d ih =>
      intro i hi
      have hw : wrap64 ((i : Int) + 1) = ((i + 1 : Nat) : Int) := by unfold wrap64; omega
      exact Ev.step (fun k => by simp only [ironbarkref21_SameTexts.l0]; rw [if_pos (by omega), if_pos (by omega), if_pos (by omega), if_pos trivial, hw]) (ih (i + 1) (by omega))
  have h3 : Ev (fun k => ironbarkref21_SameTexts.f k l l) true := by
    unfold ironbarkref21_SameTexts.f
    exact Ev.congr (fun k => if_pos rfl) (h l.length 0 (by omega))
  obtain ⟨k, hk⟩ := h3.rounds
  exact (ironbarkref21_SameTexts.calls k A1 c1 l A2 c2 l true w h1 hc1 h2 hc2 hk).mono fun e w' ⟨he, hd⟩ => ⟨he, hd.below⟩
end Go.Proofs.Ytjamaccblokfkaa.P

-- from the text Pf
namespace Go.Proofs.Ytjamaccblokfkaa.P
open Go.RowKit Go.Shelf Go.Proofs.YtjamaccblokfkaaW.PrintWords Go.Proofs.YtjamaccblokfkaaW.PrintLast Go.Proofs.YtjamaccblokfkaaW.PrintMore
set_option linter.unusedVariables false
set_option linter.unusedSimpArgs false
theorem fillE_zero (s : ByteArray) (line : Int) (h : fillE s line = 0) : cleanB s = true ∧ s.size ≤ 20000 ∧ 10 ≤ line ∧ line ≤ 200 := by
  unfold fillE at h
  by_cases hc : cleanB s = true
  · rw [if_pos hc] at h
    by_cases h2 : (s.size : Int) > 20000
    · rw [if_pos h2] at h; cases h
    · rw [if_neg h2] at h
      by_cases h3 : 10 ≤ line ∧ line ≤ 200
      · exact ⟨hc, by omega, h3.1, h3.2⟩
      · rw [if_neg h3] at h; cases h
  · rw [if_neg hc] at h; cases h
theorem fill_wrap (j n : Nat) (h : j ≤ n) (hn : n ≤ 4001) : wrap64 ((j : Int) + 1) = ((j + 1 : Nat) : Int) := by unfold wrap64; omega
theorem fill_meas (n j : Nat) (h : j < n) : n - (intOf (.int .i64 ((j + 1 : Nat) : Int))).toNat < n - (intOf (.int .i64 (j : Int))).toNat := by simp [intOf]; omega
set_option maxRecDepth 100000 in
set_option maxHeartbeats 8000000 in
theorem fills_any (text : ByteArray) (line : Int) (w : World) (Post : Ending → World → Prop) (hp : ∀ w', Below w.heap.size w w' → Post (.returned (.bool true)) w') :
    Calls Try.prog 4 #[.string text, .int .i64 line] w Post := by
  have HP := Aside0.mk hp
  clear hp
  go_enter Try.func4, Try.ntmps4
  go_wp2_with fail
  refine (awake_is w).mono ?_
  rintro e w1 ⟨rfl, hb⟩
  have HB1 := Aside0.mk hb
  clear hb
  by_cases g1 : (text.size : Int) > 20010
  · go_wp2_with fail
    exact HP.out _ HB1.out
  by_cases g2 : (text.size : Int) > 4000 ∧ (text.size : Int) ≤ 20000
  · obtain ⟨g3, g4⟩ := g2
    go_wp2_with fail
    exact HP.out _ HB1.out
  have hs : text.size ≤ 20010 := by omega
  by_cases hE : fillE text line = 0
  · obtain ⟨hc, h20, hl1, hl2⟩ := fillE_zero text line hE
    have h40 : text.size ≤ 4000 := by omega
    have g5 : ¬ (text.size : Int) > 4000 := by omega
    have h41 : text.size ≤ 4001 := by omega
    have HF := Aside0.mk (fill_is text line w1 hc h20 hl1 hl2)
    have HR := Aside0.mk (fun W => rfill_is text line W hc h20 hl1 hl2)
    have HO := Aside0.mk (fillL_ok text line (by omega))
    clear hE hc g2
    go_wp2_with fail
    refine HF.out.mono ?_
    rintro e w2 ⟨v, rfl, hr2, hb2⟩
    have HB2 := Aside0.mk (HB1.out.trans (hb2.mono HB1.out.size))
    have HR2 := Aside0.mk hr2
    obtain ⟨A, c, rfl⟩ := own_slice hr2
    clear hr2 hb2 HF
    have hLn := HO.out.2.2
    have hLs := Aside0.mk HO.out.2.1
    have HZ := Aside0.mk HO.out.1
    clear HO
    generalize hL : fillL text line = L at *
    go_wp2_with fail
    refine (HR.out w2).mono ?_
    rintro e w3 ⟨v, rfl, hr3, hb3⟩
    have HB3 := Aside0.mk (HB2.out.trans (hb3.mono HB2.out.size))
    have hr2' := ownsRow_kept HR2.out (fun k e => hb3.block k (HR2.out.lt k e).2)
    obtain ⟨A', c', he, hcc, hC⟩ := C_str hr2'
    simp only [Value.slice.injEq] at he
    obtain ⟨rfl, -, rfl⟩ := he
    obtain ⟨A2, c2, rfl, hcc2, hC2⟩ := C_str hr3
    have HSM := Aside0.mk (same_is A A2 c c2 L w3 (by omega) hC hcc hC2 hcc2)
    have HR3 := Aside0.mk hr2'
    clear hr3 hb3 hr2' hC hC2 HR2 HR
    clear hL
    go_wp2_with fail
    refine HSM.out.mono ?_
    rintro e w4 ⟨rfl, hb4⟩
    have HB4 := Aside0.mk (HB3.out.trans (hb4.mono HB3.out.size))
    have HR4 := Aside0.mk (ownsRow_kept HR3.out (fun k e => hb4.block k (HR3.out.lt k e).2))
    clear hb4 HSM HR3
    obtain ⟨F, hF0, hFZ, hFS⟩ := law_text text
    obtain ⟨G, hG0, hGZ, hGS⟩ := law_lines L (fun x hx => by have := hLs.out x hx; omega) (by omega)
    rw [HZ.out] at hGZ
    generalize strOfNums (nbl (byt text)) = Z at hFZ hGZ
    have HF0 := Aside0.mk hF0
    have HFZ := Aside0.mk hFZ
    have HFS := Aside0.mk hFS
    have HG0 := Aside0.mk hG0
    have HGZ := Aside0.mk hGZ
    have HLN := Aside0.mk (fun i (hi : i < L.length) => (show ∃ ad st, A = some ad ∧ (∀ W, Below w4.heap.size w4 W → W.cell? (ad.add i) = some (.string st)) ∧ (st.size : Int) ≤ line ∧ G i st.size = G (i + 1) 0 ∧
        ∀ j, j < st.size → (G i j).size + 1 ≤ 1000000 ∧ (bt st (j : Int) = 32 → G i (j + 1) = G i j) ∧ (bt st (j : Int) ≠ 32 → G i j ++ st.extract j (j + 1) = G i (j + 1)) from by
      obtain ⟨ad, hA⟩ : ∃ ad, A = some ad := by
        cases A with
        | none => have := (own_none HR4.out).1; omega
        | some ad => exact ⟨ad, rfl⟩
      subst hA
      exact ⟨ad, L[i]'hi, rfl, fun W hW => pw_cell_below hW (own_cells HR4.out ad rfl i (.string (L[i]'hi)) (by simp [strs, hi])), hLs.out _ (List.getElem_mem hi), hGS i hi⟩))
    clear hF0 hFZ hFS hG0 hGZ hGS HZ hLs HR4
    have hn41 : L.length ≤ 4001 := by omega
    generalize L.length = n at *
    go_wp2_with fail
    go_loopw [9, 11] (fun v9 v11 wr => ∃ j : Nat, j ≤ text.size ∧ v11 = .int .i64 (j : Int) ∧ v9 = .string (F j) ∧ Aside0 (Below w4.heap.size w4 wr)) (fun _ v _ => text.size - (intOf v).toNat)
    case atStart => exact ⟨0, Nat.zero_le _, rfl, by rw [HF0.out], ⟨Below.refl _ _⟩⟩
    case round =>
      obtain ⟨j, hj, rfl, rfl, HB⟩ := hrel
      have hwj := fill_wrap j text.size hj h41
      have h0j : (0 : Int) ≤ (j : Int) := Int.natCast_nonneg j
      by_cases hlt : j < text.size
      · have q1 : (j : Int) < (text.size : Int) := Int.ofNat_lt.2 hlt
        have q4 : (j : Int) + 1 ≤ (text.size : Int) := q1
        have hwj2 : wrap64 ((j : Int) + 1) = (j : Int) + 1 := hwj
        obtain ⟨f1, f2, f3⟩ := HFS.out j hlt
        have f1' : (F j).size ≤ 4000 := Nat.le_trans (Nat.le_of_succ_le f1) h40
        have hbt : bt text (j : Int) = ((text[j]'hlt).toNat : Int) := dif_pos hlt
        by_cases h32 : bt text (j : Int) = 32
        · have f4 := Aside0.mk (f2 h32)
          have hx32 : ((text[j]'hlt).toNat : Int) = 32 := hbt.symm.trans h32
          clear f1 f2 f3 h32 hbt
          go_wp2_with fail
          exact ⟨⟨j + 1, hlt, rfl, by rw [f4.out], HB⟩, fill_meas _ _ hlt⟩
        · have f4 := Aside0.mk (f3 h32)
          have hx32 : ¬ ((text[j]'hlt).toNat : Int) = 32 := fun h => h32 (hbt.trans h)
          clear f1 f2 f3 h32 hbt
          go_wp2_with fail
          exact ⟨⟨j + 1, hlt, rfl, by rw [f4.out], HB⟩, fill_meas _ _ hlt⟩
      · obtain rfl : j = text.size := Nat.le_antisymm hj (Nat.not_lt.1 hlt)
        have q1 : ¬ (text.size : Int) < (text.size : Int) := Int.lt_irrefl _
        rw [HFZ.out]
        go_wp2_with fail
        go_loopw [10, 12, 13] (fun v10 v12 _ wx => ∃ i : Nat, i ≤ n ∧ v12 = .int .i64 (i : Int) ∧ v10 = .string (G i 0) ∧ Aside0 (Below w4.heap.size w4 wx)) (fun _ v _ _ => n - (intOf v).toNat)
        case atStart => exact ⟨0, Nat.zero_le _, rfl, by rw [HG0.out], HB⟩
        case round =>
          clear HB
          obtain ⟨i, hi, rfl, rfl, HB⟩ := hrel
          have hwi := fill_wrap i n hi hn41
          have h0i : (0 : Int) ≤ (i : Int) := Int.natCast_nonneg i
          by_cases hlti : i < n
          · have q2 : (i : Int) < (n : Int) := Int.ofNat_lt.2 hlti
            obtain ⟨ad, st, hA, hcell, hlen, hend, hst⟩ := HLN.out i hlti
            subst hA
            have ci := hcell wr HB.out
            have hlen2 : ¬ (st.size : Int) > line := Int.not_lt.2 hlen
            have hst2 : st.size ≤ 200 := Int.ofNat_le.1 (Int.le_trans hlen hl2)
            have HST := Aside0.mk hst
            have HEN := Aside0.mk hend
            have HCE := Aside0.mk hcell
            clear hst hend hcell
            go_wp2_with fail
            clear ci
            go_loopw [10, 13] (fun v10 v13 wx => ∃ j : Nat, j ≤ st.size ∧ v13 = .int .i64 (j : Int) ∧ v10 = .string (G i j) ∧ Aside0 (Below w4.heap.size w4 wx)) (fun _ v _ => st.size - (intOf v).toNat)
            case atStart => exact ⟨0, Nat.zero_le _, rfl, rfl, HB⟩
            case round =>
              clear HB
              obtain ⟨j, hj, rfl, rfl, HB⟩ := hrel
              have hwj := fill_wrap j st.size hj (Nat.le_trans hst2 (by decide))
              have h0j : (0 : Int) ≤ (j : Int) := Int.natCast_nonneg j
              have ci := HCE.out wr HB.out
              by_cases hltj : j < st.size
              · have q3 : (j : Int) < (st.size : Int) := Int.ofNat_lt.2 hltj
                have q4 : (j : Int) + 1 ≤ (st.size : Int) := q3
                have hwj2 : wrap64 ((j : Int) + 1) = (j : Int) + 1 := hwj
                obtain ⟨f1, f2, f3⟩ := HST.out j hltj
                have f1' : (G i j).size ≤ 1000000 := Nat.le_of_succ_le f1
                have hbt : bt st (j : Int) = ((st[j]'hltj).toNat : Int) := dif_pos hltj
                by_cases h32 : bt st (j : Int) = 32
                · have f4 := Aside0.mk (f2 h32)
                  have hx32 : ((st[j]'hltj).toNat : Int) = 32 := hbt.symm.trans h32
                  clear f1 f2 f3 h32 hbt hn41 hcc hcc2 hLn hwi
                  go_wp2_with fail
                  exact ⟨⟨j + 1, hltj, rfl, by rw [f4.out], HB⟩, fill_meas _ _ hltj⟩
                · have f4 := Aside0.mk (f3 h32)
                  have hx32 : ¬ ((st[j]'hltj).toNat : Int) = 32 := fun h => h32 (hbt.trans h)
                  clear f1 f2 f3 h32 hbt hn41 hcc hcc2 hLn hwi
                  go_wp2_with fail
                  exact ⟨⟨j + 1, hltj, rfl, by rw [f4.out], HB⟩, fill_meas _ _ hltj⟩
              · obtain rfl : j = st.size := Nat.le_antisymm hj (Nat.not_lt.1 hltj)
                have q3 : ¬ (st.size : Int) < (st.size : Int) := Int.lt_irrefl _
                rw [HEN.out]
                go_wp2_with fail
                exact ⟨⟨i + 1, hlti, rfl, rfl, HB⟩, fill_meas _ _ hlti⟩
          · obtain rfl : i = n := Nat.le_antisymm hi (Nat.not_lt.1 hlti)
            have q2 : ¬ (i : Int) < (i : Int) := Int.lt_irrefl _
            rw [HGZ.out]
            go_wp2_with fail
            exact HP.out _ (HB4.out.trans (HB.out.mono HB4.out.size))
  · have hE2 : ¬ fillE text line = 0 := hE
    have HF := Aside0.mk (fill_bad text line w1 hs hE)
    have HR := Aside0.mk (fun W => rfill_bad text line W hs hE)
    have HSM := Aside0.mk (fun W => same_is none none 0 0 [] W (by decide) (Kd.C_nil _ W) (Nat.le_refl _) (Kd.C_nil _ W) (Nat.le_refl _))
    clear hE
    generalize fillE text line = ee at *
    by_cases g6 : (text.size : Int) > 4000
    · have g7 : ¬ (text.size : Int) ≤ 20000 := fun h => g2 ⟨g6, h⟩
      have g8 : (0 : Int) < (text.size : Int) := by omega
      clear g2
      go_wp2_with fail
      refine HF.out.mono ?_
      rintro e w2 ⟨rfl, hb2⟩
      have HB2 := Aside0.mk (HB1.out.trans (hb2.mono HB1.out.size))
      clear hb2
      go_wp2_with fail
      refine (HR.out w2).mono ?_
      rintro e w3 ⟨rfl, hb3⟩
      have HB3 := Aside0.mk (HB2.out.trans (hb3.mono HB2.out.size))
      clear hb3
      go_wp2_with fail
      refine (HSM.out w3).mono ?_
      rintro e w4 ⟨rfl, hb4⟩
      have HB4 := Aside0.mk (HB3.out.trans (hb4.mono HB3.out.size))
      clear hb4
      go_wp2_with fail
      go_loopw [9, 11] (fun v9 v11 wr => v9 = .string ⟨#[]⟩ ∧ v11 = .int .i64 0 ∧ Aside0 (Below w4.heap.size w4 wr)) (fun _ v _ => 0)
      case atStart => exact ⟨rfl, rfl, ⟨Below.refl _ _⟩⟩
      case round =>
        obtain ⟨rfl, rfl, HB⟩ := hrel
        go_wp2_with fail
        go_loopw [10, 12, 13] (fun v10 v12 _ wx => v10 = .string ⟨#[]⟩ ∧ v12 = .int .i64 0 ∧ Aside0 (Below w4.heap.size w4 wx)) (fun _ v _ _ => 0)
        case atStart => exact ⟨rfl, rfl, HB⟩
        case round =>
          clear HB
          obtain ⟨rfl, rfl, HB⟩ := hrel
          go_wp2_with fail
          exact HP.out _ (HB4.out.trans (HB.out.mono HB4.out.size))
    · clear g2
      by_cases g8 : (0 : Int) < (text.size : Int)
      · go_wp2_with fail
        refine HF.out.mono ?_
        rintro e w2 ⟨rfl, hb2⟩
        have HB2 := Aside0.mk (HB1.out.trans (hb2.mono HB1.out.size))
        clear hb2
        go_wp2_with fail
        refine (HR.out w2).mono ?_
        rintro e w3 ⟨rfl, hb3⟩
        have HB3 := Aside0.mk (HB2.out.trans (hb3.mono HB2.out.size))
        clear hb3
        go_wp2_with fail
        refine (HSM.out w3).mono ?_
        rintro e w4 ⟨rfl, hb4⟩
        have HB4 := Aside0.mk (HB3.out.trans (hb4.mono HB3.out.size))
        clear hb4
        go_wp2_with fail
        go_loopw [9, 11] (fun v9 v11 wr => v9 = .string ⟨#[]⟩ ∧ v11 = .int .i64 0 ∧ Aside0 (Below w4.heap.size w4 wr)) (fun _ v _ => 0)
        case atStart => exact ⟨rfl, rfl, ⟨Below.refl _ _⟩⟩
        case round =>
          obtain ⟨rfl, rfl, HB⟩ := hrel
          go_wp2_with fail
          go_loopw [10, 12, 13] (fun v10 v12 _ wx => v10 = .string ⟨#[]⟩ ∧ v12 = .int .i64 0 ∧ Aside0 (Below w4.heap.size w4 wx)) (fun _ v _ _ => 0)
          case atStart => exact ⟨rfl, rfl, HB⟩
          case round =>
            clear HB
            obtain ⟨rfl, rfl, HB⟩ := hrel
            go_wp2_with fail
            exact HP.out _ (HB4.out.trans (HB.out.mono HB4.out.size))
      · go_wp2_with fail
        refine HF.out.mono ?_
        rintro e w2 ⟨rfl, hb2⟩
        have HB2 := Aside0.mk (HB1.out.trans (hb2.mono HB1.out.size))
        clear hb2
        go_wp2_with fail
        refine (HR.out w2).mono ?_
        rintro e w3 ⟨rfl, hb3⟩
        have HB3 := Aside0.mk (HB2.out.trans (hb3.mono HB2.out.size))
        clear hb3
        go_wp2_with fail
        refine (HSM.out w3).mono ?_
        rintro e w4 ⟨rfl, hb4⟩
        have HB4 := Aside0.mk (HB3.out.trans (hb4.mono HB3.out.size))
        clear hb4
        go_wp2_with fail
        go_loopw [9, 11] (fun v9 v11 wr => v9 = .string ⟨#[]⟩ ∧ v11 = .int .i64 0 ∧ Aside0 (Below w4.heap.size w4 wr)) (fun _ v _ => 0)
        case atStart => exact ⟨rfl, rfl, ⟨Below.refl _ _⟩⟩
        case round =>
          obtain ⟨rfl, rfl, HB⟩ := hrel
          go_wp2_with fail
          go_loopw [10, 12, 13] (fun v10 v12 _ wx => v10 = .string ⟨#[]⟩ ∧ v12 = .int .i64 0 ∧ Aside0 (Below w4.heap.size w4 wx)) (fun _ v _ _ => 0)
          case atStart => exact ⟨rfl, rfl, HB⟩
          case round =>
            clear HB
            obtain ⟨rfl, rfl, HB⟩ := hrel
            go_wp2_with fail
            exact HP.out _ (HB4.out.trans (HB.out.mono HB4.out.size))
theorem PageFills_walk (text : ByteArray) (line : Int) (w : World) (_ : text.size ≤ maxLen) (_ : (Lit.int .i64 line).wf = true) :
    Calls Try.prog 4 #[.string text, .int .i64 line] w fun e w' => e = .returned (.bool true) ∧ Below w.heap.size w w' :=
  fills_any text line w _ (fun w' h => ⟨rfl, h⟩)
end Go.Proofs.Ytjamaccblokfkaa.P
