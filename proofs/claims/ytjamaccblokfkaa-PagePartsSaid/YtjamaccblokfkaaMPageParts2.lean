/- Part 2 of the proof of the law PageParts: functions, contracts and plain laws; merged by this session's program. -/
import Derived.Test.YtjamaccblokfkaaProg
import Derived.Below
import Derived.Deep.Draws
import Derived.Deep.AppendLies
import Derived.Maps.AppendAt
import Derived.OwnWalk
import Derived.Laws.BytesArg
import Derived.Laws.MakeOwn
import Derived.Laws.OwnMore
import Derived.Deep.OwnRows
import Derived.Tactics
import Derived.Lib.ConvBytes
import Derived.Laws.Slices
import Derived.WalkKit
import Derived.KernelRfl
import Derived.RowKit3
import Derived.Deep.LoopGhost
import Derived.Deep.QuietTactic
import Derived.BigQuiet
import Derived.WideLaws
import Derived.Deep.DeepCutAuto
import Derived.Deep.CutBlock
import Derived.Deep.RegionHeld3
import Derived.Laws.Rows
import Derived.Lib.AppendStr
import Derived.ArgAppend
import Derived.Laws.IdiomCopy
import Derived.OrdersHeld
import Derived.Laws.BitsLemmas
import Derived.RowKit
import Derived.WalkSpells
import Derived.WalkLawsBesides
import Derived.Lib.Hide
import Derived.IntWalk
import Derived.Lib.LazyBuf
import Derived.Shelf.Strings.Builder1
import Derived.Shelf.Strings.Search1
import Derived.Shelf.Small.Strs
import Derived.Deep.Slices
import Derived.Deep.Fields
import Derived.ProofKit
import Derived.ChangeSame
import Derived.SizedLaws
import Derived.Test.YtjamaccblokfkaaMPageParts1
-- from the text K
namespace Go.Proofs.Ytjamaccblokfkaa.P
open Go.RowKit Go.Proofs.YtjamaccblokfkaaW.PrintWords Go.Proofs.YtjamaccblokfkaaW.PrintLast Go.Proofs.YtjamaccblokfkaaW.PrintMore
theorem blk_six {w : World} {g : Nat} {t : TypeId} {a b c d e f : Value} (h : w.heap[g]? = some (.cells #[a, b, c, d, e, f] t (0, 0))) : w.cell? ⟨g, 0, none⟩ = some a ∧ w.cell? ⟨g, 1, none⟩ = some b ∧ w.cell? ⟨g, 2, none⟩ = some c ∧ w.cell? ⟨g, 3, none⟩ = some d ∧ w.cell? ⟨g, 4, none⟩ = some e ∧ w.cell? ⟨g, 5, none⟩ = some f :=
  ⟨(blk_cell h 0).trans rfl, (blk_cell h 1).trans rfl, (blk_cell h 2).trans rfl, (blk_cell h 3).trans rfl, (blk_cell h 4).trans rfl, (blk_cell h 5).trans rfl⟩
theorem blk_six_free {w : World} {g : Nat} {t : TypeId} {cs : Array Value} (h : w.heap[g]? = some (.cells cs t (0, 0))) : w.frozen? ⟨g, 0, none⟩ = false ∧ w.frozen? ⟨g, 1, none⟩ = false ∧ w.frozen? ⟨g, 2, none⟩ = false ∧ w.frozen? ⟨g, 3, none⟩ = false ∧ w.frozen? ⟨g, 4, none⟩ = false ∧ w.frozen? ⟨g, 5, none⟩ = false :=
  ⟨blk_frozen h 0, blk_frozen h 1, blk_frozen h 2, blk_frozen h 3, blk_frozen h 4, blk_frozen h 5⟩
theorem blk_quad {w : World} {g : Nat} {t : TypeId} {a b c d : Value} (h : w.heap[g]? = some (.cells #[a, b, c, d] t (0, 0))) : w.cell? ⟨g, 0, none⟩ = some a ∧ w.cell? ⟨g, 1, none⟩ = some b ∧ w.cell? ⟨g, 2, none⟩ = some c ∧ w.cell? ⟨g, 3, none⟩ = some d :=
  ⟨(blk_cell h 0).trans rfl, (blk_cell h 1).trans rfl, (blk_cell h 2).trans rfl, (blk_cell h 3).trans rfl⟩
theorem blk_quad_free {w : World} {g : Nat} {t : TypeId} {cs : Array Value} (h : w.heap[g]? = some (.cells cs t (0, 0))) : w.frozen? ⟨g, 0, none⟩ = false ∧ w.frozen? ⟨g, 1, none⟩ = false ∧ w.frozen? ⟨g, 2, none⟩ = false ∧ w.frozen? ⟨g, 3, none⟩ = false :=
  ⟨blk_frozen h 0, blk_frozen h 1, blk_frozen h 2, blk_frozen h 3⟩
/-- What stands in a world stands in what is made of it by allocations and draws. -/
class Kp (w0 : outParam World) (w : World) : Prop where
  k : ∀ {g : Nat} {o : Obj}, w0.heap[g]? = some o → w.heap[g]? = some o
instance (priority := 10) kp_refl (w : World) : Kp w w := ⟨id⟩
instance kp_drewN (w0 w : World) (n : Nat) [i : Kp w0 w] : Kp w0 (w.drewN n) := ⟨fun h => blk_drewN (i.k h) n⟩
instance kp_drew (w0 w : World) [i : Kp w0 w] : Kp w0 w.drew := ⟨fun h => blk_drew (i.k h)⟩
instance kp_alloc (w0 w : World) (o : Obj) [i : Kp w0 w] : Kp w0 (w.alloc o) := ⟨fun h => blk_alloc (i.k h) o⟩
theorem zk {w0 w : World} {g : Nat} {o : Obj} [i : Kp w0 w] (h : w0.heap[g]? = some o) : w.heap[g]? = some o := i.k h
end Go.Proofs.Ytjamaccblokfkaa.P
namespace Go.Proofs.Ytjamaccblokfkaa.P
open Go.RowKit Go.Proofs.YtjamaccblokfkaaW.PrintWords Go.Proofs.YtjamaccblokfkaaW.PrintLast Go.Proofs.YtjamaccblokfkaaW.PrintMore
attribute [local go_sem] max2_int min2_int max_two min_two max_three min_three max_four min_four   -- for this text's walks alone
set_option linter.unusedVariables false
set_option linter.unusedSimpArgs false
theorem info3 : (Try.prog.info? 3).map (fun i => (i.zero, i.size, i.bytes)) = some (some (.int .i64 0), 1, 8) := by kernel_rfl
theorem info5 : (Try.prog.info? 5).map (fun i => (i.zero, i.size, i.bytes)) = some (some (.int .u8 0), 1, 1) := by kernel_rfl
theorem info9 : (Try.prog.info? 9).map (fun i => (i.zero, i.size, i.bytes)) = some (some (.string ⟨#[]⟩), 1, 16) := by kernel_rfl
theorem info34 : (Try.prog.info? 34).map (fun i => (i.zero, i.size, i.bytes)) = some (some (.slice none 0 0), 1, 24) := by kernel_rfl
structure S46 where
  f0 : Int
  f1 : Int
structure S50 where
  f0 : S46
  f1 : Int
  f2 : Int
  f3 : (List Int)
  f4 : (List (List ByteArray))
  f5 : Int
  f6 : (List Int)
  f7 : Bool
  f8 : Bool
end Go.Proofs.Ytjamaccblokfkaa.P

-- from the text Ha
namespace Go.Proofs.Ytjamaccblokfkaa.P
open Go.RowKit Go.Proofs.YtjamaccblokfkaaW.PrintWords Go.Proofs.YtjamaccblokfkaaW.PrintLast Go.Proofs.YtjamaccblokfkaaW.PrintMore
set_option linter.unusedVariables false
set_option linter.unusedSimpArgs false
/-- A print file: its place, its size, the tabs, the ended lines of its page, what was put on the line. -/
structure Pg where
  ln : Int
  col : Int
  sz : Int
  rows : Int
  tabs : List Int
  L : List ByteArray
  now : List Int
  put : Bool
  due : Bool
def strs (l : List ByteArray) : List Value := l.map Value.string
theorem strs_len (l : List ByteArray) : (strs l).length = l.length := by simp [strs]
/-- What a call may turn: blocks of F, and what is laid anew. -/
structure Turn (F : Nat → Prop) (w w' : World) : Prop where
  os : w'.os = w.os
  tape : w'.tape = w.tape
  output : w'.output = w.output
  size : w.heap.size ≤ w'.heap.size
  block : ∀ k, k < w.heap.size → ¬ F k → w'.heap[k]? = w.heap[k]?
theorem Turn.refl (F : Nat → Prop) (w : World) : Turn F w w := ⟨rfl, rfl, rfl, Nat.le_refl _, fun _ _ _ => rfl⟩
theorem Turn.set {F : Nat → Prop} {a b : World} (h : Turn F a b) {p : Addr} (hp : F p.block ∨ a.heap.size ≤ p.block) (v : Value) : Turn F a (b.setCell p v) :=
  ⟨h.os, h.tape, h.output, by rw [World.size_setCell]; exact h.size, fun k hk hn => (Below.heap_setCell b p v k (fun e => hp.elim (fun f => hn (e ▸ f)) (fun f => by omega))).trans (h.block k hk hn)⟩
theorem Turn.step {F : Nat → Prop} {a b c : World} (h : Turn F a b) (hb : Below b.heap.size b c) : Turn F a c :=
  ⟨hb.os.trans h.os, hb.tape.trans h.tape, hb.output.trans h.output, Nat.le_trans h.size hb.size, fun k hk hn => (hb.block k (Nat.lt_of_lt_of_le hk h.size)).trans (h.block k hk hn)⟩
theorem Turn.grown {F : Nat → Prop} {a b c : World} {row : Option Nat} (h : Turn F a b) (hg : b.grownBy c row) (hr : ∀ k, row = some k → F k ∨ a.heap.size ≤ k) : Turn F a c :=
  ⟨hg.os.trans h.os, hg.tape.trans h.tape, hg.output.trans h.output, Nat.le_trans h.size hg.size, fun k hk hn => (hg.block k (Nat.lt_of_lt_of_le hk h.size) (fun e => (hr k e.symm).elim hn (fun e => by omega))).trans (h.block k hk hn)⟩
theorem Turn.below {a b : World} (h : Turn (fun _ => False) a b) : Below a.heap.size a b := ⟨h.os, h.tape, h.output, h.size, fun k hk => h.block k hk id⟩
theorem Turn.of_below {F : Nat → Prop} {w w' : World} (h : Below w.heap.size w w') : Turn F w w' := ⟨h.os, h.tape, h.output, h.size, fun k hk _ => h.block k hk⟩
/-- A row lies as it lay where its block does. -/
theorem ownsRow_kept {w w' : World} {base : Nat} {e : TypeId} {size : Nat} {v : Value} {n : Nat} {xs : List Value} (h : w.ownsRow base e size v n xs) (hk : ∀ k, v.ownBlock = some k → w'.heap[k]? = w.heap[k]?) : w'.ownsRow base e size v n xs := by
  refine ⟨h.1, h.2.imp id ?_⟩
  rintro ⟨g, cap, cur, rfl, hb, hg, rest⟩
  exact ⟨g, cap, cur, rfl, hb, (hk g rfl).trans hg, rest⟩
theorem ownsRow_base {w : World} {base b' : Nat} {e : TypeId} {size : Nat} {v : Value} {n : Nat} {xs : List Value} (h : w.ownsRow base e size v n xs) (hb : b' ≤ base) : w.ownsRow b' e size v n xs := by
  refine ⟨h.1, h.2.imp id ?_⟩
  rintro ⟨g, cap, cur, rfl, hg, rest⟩
  exact ⟨g, cap, cur, rfl, Nat.le_trans hb hg, rest⟩
theorem blk_lt' {w : World} {k : Nat} {o : Obj} (h : w.heap[k]? = some o) : k < w.heap.size := (Array.getElem?_eq_some_iff.1 h).1
theorem own_type {w : World} {base : Nat} {e : TypeId} {size : Nat} {v : Value} {n : Nat} {xs : List Value} (h : w.ownsRow base e size v n xs) {k : Nat} (hk : v.ownBlock = some k) : ∃ cur, w.heap[k]? = some (.cells cur e (0, 0)) := by
  rcases h.2 with ⟨rfl, _⟩ | ⟨g, cap, cur, rfl, _, hg, _⟩
  · cases hk
  · cases hk
    exact ⟨cur, hg⟩
theorem own_ge {w : World} {base : Nat} {e : TypeId} {size : Nat} {v : Value} {n : Nat} {xs : List Value} (h : w.ownsRow base e size v n xs) {k : Nat} (hk : v.ownBlock = some k) : base ≤ k := by
  rcases h.2 with ⟨rfl, _⟩ | ⟨g, cap, cur, rfl, hb, _, _⟩
  · cases hk
  · cases hk; exact hb
theorem own_cap {w : World} {base : Nat} {e : TypeId} {size : Nat} {A : Option Addr} {m c n : Nat} {xs : List Value} (h : w.ownsRow base e size (.slice A m c) n xs) : n ≤ c := by
  rcases h.2 with ⟨e, rfl⟩ | ⟨g, cap, cur, e, _, _, hc, _⟩
  · omega
  · cases e; exact hc
theorem own_none {w : World} {base : Nat} {e : TypeId} {size : Nat} {m c n : Nat} {xs : List Value} (h : w.ownsRow base e size (.slice none m c) n xs) : n = 0 ∧ c = 0 := by
  rcases h.2 with ⟨e, rfl⟩ | ⟨g, cap, cur, e, _⟩
  · cases e; exact ⟨rfl, rfl⟩
  · cases e
theorem own_cells {w : World} {base : Nat} {e : TypeId} {size : Nat} {A : Option Addr} {m c n : Nat} {xs : List Value} (h : w.ownsRow base e size (.slice A m c) n xs) (b : Addr) (hb : A = some b) (j : Nat) (u : Value) (hj : xs[j]? = some u) : w.cell? (b.add j) = some u := by
  rcases h.2 with ⟨e, _⟩ | ⟨g', cap', cur, hv, _, hg, _, _, _, ht⟩
  · cases e; cases hb
  · cases hv
    cases hb
    have hj2 : cur[j]? = some u := by
      rw [← ht, List.getElem?_take] at hj
      split at hj
      · simpa using hj
      · cases hj
    rw [add_plain]
    exact (blk_cell hg j).trans hj2
theorem type_ne {w : World} {a b : Nat} {c c' : Array Value} {t t' : TypeId} (ha : w.heap[a]? = some (.cells c t (0, 0))) (hb : w.heap[b]? = some (.cells c' t' (0, 0))) (h : t ≠ t') : a ≠ b := by
  rintro rfl
  have := ha.symm.trans hb
  simp at this
  exact h this.2
/-- The print file at block p, its pages' row at g. -/
structure PgM (w : World) (p g : Nat) (rv tv nv : Value) (s : Pg) : Prop where
  head : w.heap[p]? = some (.cells #[.int .i64 s.ln, .int .i64 s.col, .int .i64 s.sz, .int .i64 s.rows, tv, .slice (some ⟨g, 0, none⟩) 1 1, .int .i64 (s.L.length : Int), nv, .bool s.put, .bool s.due] 50 (0, 0))
  pages : w.heap[g]? = some (.cells #[rv] 34 (0, 0))
  row : w.ownsRow 0 9 1 rv s.L.length (strs s.L)
  tabs : w.ownsRow 0 3 1 tv s.tabs.length (nums .i64 s.tabs)
  now : w.ownsRow 0 5 1 nv s.now.length (nums .u8 s.now)
def foot (p g : Nat) (rv tv nv : Value) (k : Nat) : Prop := k = p ∨ k = g ∨ rv.ownBlock = some k ∨ tv.ownBlock = some k ∨ nv.ownBlock = some k
theorem PgM.foot_lt {w : World} {p g : Nat} {rv tv nv : Value} {s : Pg} (h : PgM w p g rv tv nv s) {k : Nat} (hk : foot p g rv tv nv k) : k < w.heap.size := by
  rcases hk with rfl | rfl | e | e | e
  · exact blk_lt' h.head
  · exact blk_lt' h.pages
  · exact (h.row.lt k e).2
  · exact (h.tabs.lt k e).2
  · exact (h.now.lt k e).2
theorem PgM.kept {w w' : World} {p g : Nat} {rv tv nv : Value} {s : Pg} (h : PgM w p g rv tv nv s) (hk : ∀ k, foot p g rv tv nv k → w'.heap[k]? = w.heap[k]?) : PgM w' p g rv tv nv s :=
  ⟨(hk p (.inl rfl)).trans h.head, (hk g (.inr (.inl rfl))).trans h.pages, ownsRow_kept h.row (fun k e => hk k (.inr (.inr (.inl e)))), ownsRow_kept h.tabs (fun k e => hk k (.inr (.inr (.inr (.inl e))))), ownsRow_kept h.now (fun k e => hk k (.inr (.inr (.inr (.inr e)))))⟩
/-- Since w0, in which the blocks of F are the print file's: the print file is s; nothing else is turned. -/
def PgAt (F : Nat → Prop) (w0 w : World) (p : Nat) (s : Pg) : Prop := (∃ g rv tv nv, PgM w p g rv tv nv s ∧ ∀ k, foot p g rv tv nv k → F k ∨ w0.heap.size ≤ k) ∧ Turn F w0 w
theorem PgAt.step {F : Nat → Prop} {w0 w w' : World} {p : Nat} {s : Pg} (h : PgAt F w0 w p s) (hb : Below w.heap.size w w') : PgAt F w0 w' p s := by
  obtain ⟨⟨g, rv, tv, nv, hM, hF⟩, hT⟩ := h
  exact ⟨⟨g, rv, tv, nv, hM.kept (fun k hk => hb.block k (hM.foot_lt hk)), hF⟩, hT.step hb⟩
theorem PgAt.lt {F : Nat → Prop} {w0 w : World} {p : Nat} {s : Pg} (h : PgAt F w0 w p s) : p < w.heap.size := by
  obtain ⟨⟨g, rv, tv, nv, hM, hF⟩, hT⟩ := h
  exact blk_lt' hM.head
theorem step_append9 {ops : Array Oper} {o : Oper} {a : Act} {K : Act → World → Prop} {Q : Exit → Act → World → Prop} {W : World} {s x : Operand} {A : Option Addr} {n : Nat} {xs : List Value} {N : Tmp} (g0 : Nat) (t : ByteArray) (hw : Region.wanted o (yielded ops a.tmps) = true) (hN : o.dst = some N) (ho : o.op = .call { callee := .builtin .append, args := #[s, x], argTypes := #[34, 34] })
    (hs : a.eval s = .slice A n n) (hnone : A = none → n = 0) (hlo : xs.length = n) (hc : ∀ b, A = some b → ∀ j u, xs[j]? = some u → W.cell? (b.add j) = some u) (hx : a.eval x = .slice (some ⟨g0, 0, none⟩) 1 1) (hb : W.heap[g0]? = some (.cells #[.string t] 9 (0, 0))) (hn : n ≤ 1000000)
    (h : ∀ g2 cap w', w'.ownsRow W.heap.size 9 1 (.slice (some ⟨g2, 0, none⟩) (n + 1) cap) (n + 1) (xs ++ [.string t]) → W.grownBy w' none → K (a.put (some N) (.slice (some ⟨g2, 0, none⟩) (n + 1) cap)) w') : if Region.wanted o (yielded ops a.tmps) = true then Oper.wp Try.prog o a W K Q else K (a.put (some N) undef) W := by
  obtain ⟨i0, hi, hz0, hz1, hz2⟩ := info_parts info9
  have hnews : ∀ j u, ([Value.string t] : List Value)[j]? = some u → W.cell? ((⟨g0, 0, none⟩ : Addr).add j) = some u := fun j u hj => by rw [add_plain]; exact (blk_cell hb j).trans (by simpa using hj)
  rw [if_pos hw]
  cases A with
  | some b =>
    obtain ⟨v', w', hrun, r1, r2⟩ := run_append_arg_grows (P := Try.prog) W 34 o.type 9 i0 _ 1 16 Try.underlying34 hi hz0 hz1 hz2 rfl (by decide) b n n xs (by omega) (hc b rfl) ⟨g0, 0, none⟩ 1 1 [.string t] rfl hnews (by omega) (by simp only [maxLen]; omega) (by omega)
    unfold Oper.wp
    simp [execOp, ho, resolve, invoke, builtin, hs, hx, hrun, Result.andThen]
    obtain ⟨g2, cap, rfl, _, _⟩ := r1.form (by omega)
    show K (a.put o.dst _) w'
    rw [hN]
    exact h _ _ _ r1 r2
  | none =>
    obtain rfl := hnone rfl
    obtain rfl : xs = [] := List.eq_nil_of_length_eq_zero hlo
    obtain ⟨v', w', hrun, r1, r2, _⟩ := run_append_own (P := Try.prog) W W.heap.size 34 o.type 9 i0 _ 1 16 Try.underlying34 hi hz0 hz1 hz2 rfl (by decide) (.slice none 0 0) 0 [] (World.ownsRow_nil W _ 9 1) ⟨g0, 0, none⟩ 1 1 [.string t] rfl hnews (by simp [Value.oneCell']) (by decide) (by decide) (Nat.le_refl _)
    unfold Oper.wp
    simp [execOp, ho, resolve, invoke, builtin, hs, hx, hrun, Result.andThen]
    obtain ⟨g2, cap, rfl, _, _⟩ := r1.form (by omega)
    show K (a.put o.dst _) w'
    rw [hN]
    exact h _ _ _ r1 r2
def pEnd (s : Pg) : Pg := { s with L := s.L ++ [strOfNums s.now], now := [], put := false, ln := s.ln + 1, col := 1, due := s.due || s.ln == s.rows }
/-- Behind end: the cells of the print file, told one by one. -/
theorem PgM.ended {F : Nat → Prop} {w0 w w6 : World} {p g : Nat} {rv rv' tv nv : Value} {s : Pg} (h : PgM w p g rv tv nv s) (hF : ∀ k, foot p g rv tv nv k → F k ∨ w0.heap.size ≤ k) (hT : Turn F w0 w) (hb : Below w.heap.size w w6)
    (hrow : w6.ownsRow w.heap.size 9 1 rv' (s.L.length + 1) (strs s.L ++ [.string (strOfNums s.now)])) (d : Bool) (hd : d = (s.due || s.ln == s.rows)) (W : World)
    (hW : W.heap[p]? = some (.cells #[.int .i64 (s.ln + 1), .int .i64 1, .int .i64 s.sz, .int .i64 s.rows, tv, .slice (some ⟨g, 0, none⟩) 1 1, .int .i64 ((s.L.length + 1 : Nat) : Int), .slice none 0 0, .bool false, .bool d] 50 (0, 0)))
    (hK : ∀ k, k ≠ p → W.heap[k]? = (w6.setCell ⟨g, 0, none⟩ rv').heap[k]?) (hTW : Turn F w0 W) : PgAt F w0 W p (pEnd s) := by
  have hpg : p ≠ g := type_ne h.head h.pages (by decide)
  have hg6 : w6.heap[g]? = some (.cells #[rv] 34 (0, 0)) := (hb.block g (blk_lt' h.pages)).trans h.pages
  have hlt : ∀ k, k < w.heap.size → k ≠ g → k ≠ p → W.heap[k]? = w.heap[k]? := fun k hk h1 h2 => (hK k h2).trans ((Below.heap_setCell w6 _ _ k (fun e => h1 e)).trans (hb.block k hk))
  have tne : ∀ k, tv.ownBlock = some k → k ≠ g ∧ k ≠ p := fun k e => by
    obtain ⟨c, hc⟩ := own_type h.tabs e
    exact ⟨type_ne hc h.pages (by decide), type_ne hc h.head (by decide)⟩
  refine ⟨⟨g, rv', tv, .slice none 0 0, ⟨?_, ?_, ?_, ?_, ?_⟩, ?_⟩, hTW⟩
  · rw [hW]; unfold pEnd; simp [← hd]
  · rw [hK g (fun e => hpg e.symm)]
    exact blk_put hg6 0 rv' rfl
  · have hr : W.ownsRow w.heap.size 9 1 rv' (s.L.length + 1) (strs s.L ++ [.string (strOfNums s.now)]) := ownsRow_kept hrow (fun k e => by
      have hk := own_ge hrow e
      have h1 := blk_lt' h.head
      have h2 := blk_lt' h.pages
      exact (hK k (by omega)).trans (Below.heap_setCell w6 _ _ k (fun e => by simp only at e; omega)))
    have := ownsRow_base hr (Nat.zero_le _)
    unfold pEnd
    simpa [strs] using this
  · exact ownsRow_kept h.tabs (fun k e => hlt k (h.tabs.lt k e).2 (tne k e).1 (tne k e).2)
  · exact World.ownsRow_nil W _ 5 1
  · intro k hk
    rcases hk with rfl | rfl | e | e | e
    · exact hF _ (.inl rfl)
    · exact hF _ (.inr (.inl rfl))
    · exact .inr (Nat.le_trans hT.size (own_ge hrow e))
    · exact hF k (.inr (.inr (.inr (.inl e))))
    · cases e
set_option maxRecDepth 100000 in
set_option maxHeartbeats 4000000 in
theorem end_is (p : Nat) (s : Pg) (F : Nat → Prop) (w0 w : World) (h : PgAt F w0 w p s) (hn : s.L.length ≤ 100000) (hl : 0 ≤ s.ln ∧ s.ln ≤ 1000000) (hr : 0 ≤ s.rows ∧ s.rows ≤ 1000000) :
    Calls Try.prog 30 #[.pointer (some ⟨p, 0, none⟩)] w fun e w' => e = .returned (.tuple #[]) ∧ PgAt F w0 w' p (pEnd s) := by
  obtain ⟨⟨g, rv, tv, nv, hM, hF⟩, hT⟩ := h
  obtain ⟨A, c, rfl⟩ := own_slice hM.row
  obtain ⟨An, cn, rfl⟩ := own_slice hM.now
  have hcap := own_cap hM.row
  have HEND := Aside0.mk (fun w6 rv' => PgM.ended (w6 := w6) (rv' := rv') hM hF hT)
  have HF := Aside0.mk hF
  have HT := Aside0.mk hT
  have HM := Aside0.mk hM
  obtain ⟨ln, col, sz, rows, tabs, L, now, put, due⟩ := s
  dsimp only at HM HEND hcap hn hl hr HF
  generalize hnl : L.length = n at *
  have HL := Aside0.mk hnl
  clear hnl hM hF hT
  have hh := HM.out.head
  dsimp only at hh
  rw [HL.out] at hh
  have HH := Aside0.mk hh
  have c4 := (blk_cell hh 5).trans rfl
  have gc := (blk_cell HM.out.pages 0).trans rfl
  clear hh
  have h0n : (0 : Int) ≤ (n : Int) := by omega
  have hnc : (n : Int) ≤ (c : Int) := by omega
  go_enter Try.func30, Try.ntmps30
  go_wp2_with fail
  refine start_ (n := 20) (S := fun W => Below w.heap.size w W) (ds := [19]) #[false, false, false, false, false, false, false, false, false, false, false, false, false, false, false, false, false, false, false, false] (by kernel_rfl) rfl rfl (Below.refl _ _).drew (fun hHeld => ?_)
  generalize w.drew = w1 at hHeld ⊢
  clear c4 gc
  refine pure_ (i := 0) (N := some 17) (v := ?_) (a' := ?_) #[true, false, false, false, false, false, false, false, false, false, false, false, false, false, false, false, false, false, false, false] rfl rfl (by kernel_rfl) (fun _ _ _ h => h) (Or.inl ⟨by rfl, ?_⟩) ?_ ?_
  rotate_left
  · intro w_
    go_simp
    with_reducible rfl
  rotate_left
  · simp only [Act.put, List.setIfInBounds_toArray, List.set_cons_zero, List.set_cons_succ, i64_w, i32_w]
    rfl
  refine pure_ (i := 1) (N := some 18) (v := ?_) (a' := ?_) #[true, true, false, false, false, false, false, false, false, false, false, false, false, false, false, false, false, false, false, false] rfl rfl (by kernel_rfl) (fun _ _ _ h => h) (Or.inl ⟨by rfl, ?_⟩) ?_ ?_
  rotate_left
  · intro w_
    go_simp
    with_reducible rfl
  rotate_left
  · simp only [Act.put, List.setIfInBounds_toArray, List.set_cons_zero, List.set_cons_succ, i64_w, i32_w]
    rfl
  refine pure_ (i := 2) (N := some 19) (v := ?_) (a' := ?_) #[true, true, true, false, false, false, false, false, false, false, false, false, false, false, false, false, false, false, false, false] rfl rfl (by kernel_rfl) (fun _ _ _ h => h) (Or.inl ⟨by rfl, ?_⟩) ?_ ?_
  rotate_left
  · intro w_
    go_simp
    with_reducible rfl
  rotate_left
  · simp only [Act.put, List.setIfInBounds_toArray, List.set_cons_zero, List.set_cons_succ, i64_w, i32_w]
    rfl
  refine take_ (i := 3) (N := some 20) (v := ?_) (a' := ?_) #[true, true, true, true, false, false, false, false, false, false, false, false, false, false, false, false, false, false, false, false] rfl rfl (by kernel_rfl) (fun _ _ _ h => h) (Or.inl ⟨by rfl, ?_⟩) hHeld ?_ ?_
  rotate_left
  · rintro w_ hs_
    have s0 := (blk_cell (blk_below HH.out hs_) 5).trans rfl
    have s1 := (blk_cell (blk_below HH.out hs_) 7).trans rfl
    go_simp
    with_reducible rfl
  rotate_left
  · simp only [Act.put, List.setIfInBounds_toArray, List.set_cons_zero, List.set_cons_succ, i64_w, i32_w]
    rfl
  refine pure_ (i := 4) (N := some 21) (v := ?_) (a' := ?_) #[true, true, true, true, true, false, false, false, false, false, false, false, false, false, false, false, false, false, false, false] rfl rfl (by kernel_rfl) (fun _ _ _ h => h) (Or.inl ⟨by rfl, ?_⟩) ?_ ?_
  rotate_left
  · intro w_
    go_simp
    with_reducible rfl
  rotate_left
  · simp only [Act.put, List.setIfInBounds_toArray, List.set_cons_zero, List.set_cons_succ, i64_w, i32_w]
    rfl
  refine pure_ (i := 5) (N := some 22) (v := ?_) (a' := ?_) #[true, true, true, true, true, true, false, false, false, false, false, false, false, false, false, false, false, false, false, false] rfl rfl (by kernel_rfl) (fun _ _ _ h => h) (Or.inl ⟨by rfl, ?_⟩) ?_ ?_
  rotate_left
  · intro w_
    go_simp
    with_reducible rfl
  rotate_left
  · simp only [Act.put, List.setIfInBounds_toArray, List.set_cons_zero, List.set_cons_succ, i64_w, i32_w]
    rfl
  refine pure_ (i := 6) (N := some 23) (v := ?_) (a' := ?_) #[true, true, true, true, true, true, true, false, false, false, false, false, false, false, false, false, false, false, false, false] rfl rfl (by kernel_rfl) (fun _ _ _ h => h) (Or.inl ⟨by rfl, ?_⟩) ?_ ?_
  rotate_left
  · intro w_
    go_simp
    with_reducible rfl
  rotate_left
  · simp only [Act.put, List.setIfInBounds_toArray, List.set_cons_zero, List.set_cons_succ, i64_w, i32_w]
    rfl
  refine pure_ (i := 7) (N := some 24) (v := ?_) (a' := ?_) #[true, true, true, true, true, true, true, true, false, false, false, false, false, false, false, false, false, false, false, false] rfl rfl (by kernel_rfl) (fun _ _ _ h => h) (Or.inl ⟨by rfl, ?_⟩) ?_ ?_
  rotate_left
  · intro w_
    go_simp
    with_reducible rfl
  rotate_left
  · simp only [Act.put, List.setIfInBounds_toArray, List.set_cons_zero, List.set_cons_succ, i64_w, i32_w]
    rfl
  refine pure_ (i := 8) (N := some 25) (v := ?_) (a' := ?_) #[true, true, true, true, true, true, true, true, true, false, false, false, false, false, false, false, false, false, false, false] rfl rfl (by kernel_rfl) (fun _ _ _ h => h) (Or.inl ⟨by rfl, ?_⟩) ?_ ?_
  rotate_left
  · intro w_
    go_simp
    with_reducible rfl
  rotate_left
  · simp only [Act.put, List.setIfInBounds_toArray, List.set_cons_zero, List.set_cons_succ, i64_w, i32_w]
    rfl
  refine pure_ (i := 9) (N := some 26) (v := ?_) (a' := ?_) #[true, true, true, true, true, true, true, true, true, true, false, false, false, false, false, false, false, false, false, false] rfl rfl (by kernel_rfl) (fun _ _ _ h => h) (Or.inl ⟨by rfl, ?_⟩) ?_ ?_
  rotate_left
  · intro w_
    go_simp
    with_reducible rfl
  rotate_left
  · simp only [Act.put, List.setIfInBounds_toArray, List.set_cons_zero, List.set_cons_succ, i64_w, i32_w]
    rfl
  refine pure_ (i := 10) (N := some 27) (v := ?_) (a' := ?_) #[true, true, true, true, true, true, true, true, true, true, true, false, false, false, false, false, false, false, false, false] rfl rfl (by kernel_rfl) (fun _ _ _ h => h) (Or.inl ⟨by rfl, ?_⟩) ?_ ?_
  rotate_left
  · intro w_
    go_simp
    with_reducible rfl
  rotate_left
  · simp only [Act.put, List.setIfInBounds_toArray, List.set_cons_zero, List.set_cons_succ, i64_w, i32_w]
    rfl
  refine pure_ (i := 11) (N := some 28) (v := ?_) (a' := ?_) #[true, true, true, true, true, true, true, true, true, true, true, true, false, false, false, false, false, false, false, false] rfl rfl (by kernel_rfl) (fun _ _ _ h => h) (Or.inl ⟨by rfl, ?_⟩) ?_ ?_
  rotate_left
  · intro w_
    go_simp
    with_reducible rfl
  rotate_left
  · simp only [Act.put, List.setIfInBounds_toArray, List.set_cons_zero, List.set_cons_succ, i64_w, i32_w]
    rfl
  refine pure_ (i := 12) (N := some 29) (v := ?_) (a' := ?_) #[true, true, true, true, true, true, true, true, true, true, true, true, true, false, false, false, false, false, false, false] rfl rfl (by kernel_rfl) (fun _ _ _ h => h) (Or.inl ⟨by rfl, ?_⟩) ?_ ?_
  rotate_left
  · intro w_
    go_simp
    with_reducible rfl
  rotate_left
  · simp only [Act.put, List.setIfInBounds_toArray, List.set_cons_zero, List.set_cons_succ, i64_w, i32_w]
    rfl
  refine pure_ (i := 13) (N := some 30) (v := ?_) (a' := ?_) #[true, true, true, true, true, true, true, true, true, true, true, true, true, true, false, false, false, false, false, false] rfl rfl (by kernel_rfl) (fun _ _ _ h => h) (Or.inl ⟨by rfl, ?_⟩) ?_ ?_
  rotate_left
  · intro w_
    go_simp
    with_reducible rfl
  rotate_left
  · simp only [Act.put, List.setIfInBounds_toArray, List.set_cons_zero, List.set_cons_succ, i64_w, i32_w]
    rfl
  refine take_ (i := 14) (N := some 31) (v := ?_) (a' := ?_) #[true, true, true, true, true, true, true, true, true, true, true, true, true, true, true, false, false, false, false, false] rfl rfl (by kernel_rfl) (fun _ _ _ h => h) (Or.inl ⟨by rfl, ?_⟩) hHeld ?_ ?_
  rotate_left
  · rintro w_ hs_
    have s0 := (blk_cell (blk_below HH.out hs_) 5).trans rfl
    have s1 := (blk_cell (blk_below HH.out hs_) 7).trans rfl
    go_simp
    with_reducible rfl
  rotate_left
  · simp only [Act.put, List.setIfInBounds_toArray, List.set_cons_zero, List.set_cons_succ, i64_w, i32_w]
    rfl
  refine take_ (i := 15) (N := some 32) (v := ?_) (a' := ?_) #[true, true, true, true, true, true, true, true, true, true, true, true, true, true, true, true, false, false, false, false] rfl rfl (by kernel_rfl) (fun _ _ _ h => h) (Or.inl ⟨by rfl, ?_⟩) hHeld ?_ ?_
  rotate_left
  · rintro w_ hs_
    have hcv := own_string Try.underlying48 Try.underlying5 Try.underlying9 (ownsRow_kept HM.out.now (fun k e => hs_.block k (HM.out.now.lt k e).2))
    go_simp
    with_reducible rfl
  rotate_left
  · simp only [Act.put, List.setIfInBounds_toArray, List.set_cons_zero, List.set_cons_succ, i64_w, i32_w]
    rfl
  refine one_ (i := 16) (N := some 33) #[true, true, true, true, true, true, true, true, true, true, true, true, true, true, true, true, true, false, false, false] rfl rfl (by kernel_rfl) (by decide) (fun K' hK => ?_)
  refine value_ (w1 := w1.alloc (.cells #[.string (strOfNums now)] 9 (0, 0))) (v := .slice (some ⟨w1.heap.size, 0, none⟩) 1 1) (by rfl) rfl ?_ ?_
  · go_simp
  have HN := Aside0.mk (blk_new w1 (.cells #[.string (strOfNums now)] 9 (0, 0)))
  have hb5 := (Below.refl w1.heap.size w1).alloc (Nat.le_refl _) (.cells #[.string (strOfNums now)] 9 (0, 0))
  refine hK.out _ _ (hHeld.trans (hb5.mono hHeld.size)) (fun hHeld => ?_)
  clear hK K' hb5
  generalize w1.alloc (.cells #[.string (strOfNums now)] 9 (0, 0)) = w2 at hHeld HN ⊢
  generalize w1.heap.size = g0 at HN ⊢
  refine norm_ (a' := ?_) ?_ ?_
  rotate_left
  · show Act.put _ (some 33) _ = _
    simp only [Act.put, List.setIfInBounds_toArray, List.set_cons_zero, List.set_cons_succ, i64_w, i32_w]
    rfl
  have hs2 := hHeld.size
  refine one_ (i := 17) (N := some 34) #[true, true, true, true, true, true, true, true, true, true, true, true, true, true, true, true, true, true, false, false] rfl rfl (by kernel_rfl) (by decide) (fun K' hK => ?_)
  refine step_append9 (xs := strs L) g0 (strOfNums now) (by rfl) rfl rfl rfl (fun e => by subst e; exact (own_none HM.out.row).1.symm ▸ HL.out ▸ rfl) ((strs_len L).trans HL.out) (own_cells (ownsRow_kept HM.out.row (fun k e => hHeld.block k (HM.out.row.lt k e).2))) rfl HN.out (by omega) ?_
  intro g2 cap2 w6 hown hgrow
  have hb6 : Below w.heap.size w w6 := hHeld.grown hgrow hHeld.size (fun k h => by cases h)
  refine hK.out _ _ hb6 (fun hHeld => ?_)
  clear hK K'
  refine norm_ (a' := ?_) ?_ ?_
  rotate_left
  · show Act.put _ (some 34) _ = _
    simp only [Act.put, List.setIfInBounds_toArray, List.set_cons_zero, List.set_cons_succ, i64_w, i32_w]
    rfl
  refine pure_ (i := 18) (N := some 35) (v := ?_) (a' := ?_) #[true, true, true, true, true, true, true, true, true, true, true, true, true, true, true, true, true, true, true, false] rfl rfl (by kernel_rfl) (fun _ _ _ h => h) (Or.inl ⟨by rfl, ?_⟩) ?_ ?_
  rotate_left
  · intro w_
    go_simp
    with_reducible rfl
  rotate_left
  · simp only [Act.put, List.setIfInBounds_toArray, List.set_cons_zero, List.set_cons_succ, i64_w, i32_w]
    rfl
  have hg6 := blk_below HM.out.pages hb6
  have hcg := (blk_cell hg6 0).trans rfl
  have hfg := blk_frozen hg6 0
  refine last_ (i := 19) (N := none) #[true, true, true, true, true, true, true, true, true, true, true, true, true, true, true, true, true, true, true, true] rfl rfl (by kernel_rfl) (by decide) (fun K' hK => ?_)
  refine skip_ (w1 := ?_) (by rfl) rfl ?_ ?_
  rotate_left
  · go_simp
    rfl
  refine hK.out _ _ ?_
  clear hK K'
  refine done_ (by kernel_rfl) ?_
  have hpg : p ≠ g := type_ne HM.out.head HM.out.pages (by decide)
  have h7 : (w6.setCell ⟨g, 0, none⟩ (.slice (some ⟨g2, 0, none⟩) (n + 1) cap2)).heap[p]? = some (.cells #[.int .i64 ln, .int .i64 col, .int .i64 sz, .int .i64 rows, tv, .slice (some ⟨g, 0, none⟩) 1 1, .int .i64 (n : Int), (.slice An now.length cn), .bool put, .bool due] 50 (0, 0)) := (Below.heap_setCell w6 _ _ p hpg).trans (blk_below HH.out hb6)
  have hE := HEND.out w6 (.slice (some ⟨g2, 0, none⟩) (n + 1) cap2) hb6 (ownsRow_base hown hs2)
  have hT7 := Turn.set (HT.out.step hb6) (p := ⟨g, 0, none⟩) (HF.out g (.inr (.inl rfl))) (.slice (some ⟨g2, 0, none⟩) (n + 1) cap2)
  have hFp := HF.out p (.inl rfl)
  have HE := Aside0.mk hE
  have HT7 := Aside0.mk hT7
  have HP := Aside0.mk hFp
  clear hHeld hs2 hown hgrow hb6 hg6 hcg hfg HN hE hT7 hFp
  generalize (w6.setCell ⟨g, 0, none⟩ (.slice (some ⟨g2, 0, none⟩) (n + 1) cap2)) = w7 at HE HT7 h7 ⊢
  have H7 := Aside0.mk h7
  have c0 := (blk_cell h7 0).trans rfl
  have c1 := (blk_cell h7 1).trans rfl
  have c2 := (blk_cell h7 3).trans rfl
  have c6 := (blk_cell h7 6).trans rfl
  have c7 := (blk_cell h7 7).trans rfl
  have c8 := (blk_cell h7 8).trans rfl
  have c9 := (blk_cell h7 9).trans rfl
  have f0 := blk_frozen h7 0
  have f1 := blk_frozen h7 1
  have f6 := blk_frozen h7 6
  have f7 := blk_frozen h7 7
  have f8 := blk_frozen h7 8
  have f9 := blk_frozen h7 9
  clear h7
  have hw : wrap64 ((n : Int) + 1) = ((n + 1 : Nat) : Int) := by unfold wrap64; omega
  have hw2 : wrap64 (ln + 1) = ln + 1 := by unfold wrap64; omega
  have hw3 : wrap64 (rows + 1) = rows + 1 := by unfold wrap64; omega
  go_wp2_with fail
  have h8 := blk_put (blk_put (blk_put (blk_put (blk_put H7.out 6 (.int .i64 ((n + 1 : Nat) : Int)) rfl) 7 (.slice none 0 0) rfl) 8 (.bool false) rfl) 0 (.int .i64 (ln + 1)) rfl) 1 (.int .i64 1) rfl
  have hk8 : ∀ k, k ≠ p → (((((w7.setCell ⟨p, 6, none⟩ (.int .i64 ((n + 1 : Nat) : Int))).setCell ⟨p, 7, none⟩ (.slice none 0 0)).setCell ⟨p, 8, none⟩ (.bool false)).setCell ⟨p, 0, none⟩ (.int .i64 (ln + 1))).setCell ⟨p, 1, none⟩ (.int .i64 1)).heap[k]? = w7.heap[k]? := fun k hk => by
    rw [Below.heap_setCell _ _ _ k hk, Below.heap_setCell _ _ _ k hk, Below.heap_setCell _ _ _ k hk, Below.heap_setCell _ _ _ k hk, Below.heap_setCell _ _ _ k hk]
  have ht8 := ((((HT7.out.set (p := ⟨p, 6, none⟩) HP.out (.int .i64 ((n + 1 : Nat) : Int))).set (p := ⟨p, 7, none⟩) HP.out (.slice none 0 0)).set (p := ⟨p, 8, none⟩) HP.out (.bool false)).set (p := ⟨p, 0, none⟩) HP.out (.int .i64 (ln + 1))).set (p := ⟨p, 1, none⟩) HP.out (.int .i64 1)
  simp only [show ((n : Int) + 1) = ((n + 1 : Nat) : Int) from by omega]
  generalize ((((w7.setCell ⟨p, 6, none⟩ (.int .i64 ((n + 1 : Nat) : Int))).setCell ⟨p, 7, none⟩ (.slice none 0 0)).setCell ⟨p, 8, none⟩ (.bool false)).setCell ⟨p, 0, none⟩ (.int .i64 (ln + 1))).setCell ⟨p, 1, none⟩ (.int .i64 1) = w8 at h8 hk8 ht8 ⊢
  have H8 := Aside0.mk h8
  have K8 := Aside0.mk hk8
  have T8 := Aside0.mk ht8
  have d0 := (blk_cell h8 0).trans rfl
  have d3 := (blk_cell h8 3).trans rfl
  have d9 := (blk_cell h8 9).trans rfl
  have e9 := blk_frozen h8 9
  clear h8 hk8 ht8 c0 c1 c2 c6 c7 c8 c9 f0 f1 f6 f7 f8 f9 H7 HT7
  go_quiet (fail)
  by_cases he : ln = rows
  · have hd : decide ((ln + 1 : Int) = rows + 1) = true := decide_eq_true (by omega)
    go_wp2_with fail
    go_end0
    refine ⟨rfl, HE.out true (by rw [he]; simp) _ (blk_put (blk_drewN H8.out _) 9 (.bool true) rfl) (fun k hk => (Below.heap_setCell _ _ _ k hk).trans (K8.out k hk)) (Turn.set ((T8.out).step (pw_below_drewN (Below.refl _ _) _)) HP.out _)⟩
  · have hd : decide ((ln + 1 : Int) = rows + 1) = false := decide_eq_false (by omega)
    go_wp2_with fail
    go_end0
    refine ⟨rfl, HE.out due (by simp [he]) _ (blk_drewN H8.out _) (fun k hk => K8.out k hk) ((T8.out).step (pw_below_drewN (Below.refl _ _) _))⟩
end Go.Proofs.Ytjamaccblokfkaa.P

-- from the text Hb
namespace Go.Proofs.Ytjamaccblokfkaa.P
open Go.RowKit Go.Proofs.YtjamaccblokfkaaW.PrintWords Go.Proofs.YtjamaccblokfkaaW.PrintLast Go.Proofs.YtjamaccblokfkaaW.PrintMore
set_option linter.unusedVariables false
set_option linter.unusedSimpArgs false
/-- One of the print file's plain cells is set. -/
theorem PgAt.set {F : Nat → Prop} {w0 w : World} {p : Nat} {s s' : Pg} (h : PgAt F w0 w p s) (i : Nat) (u : Value) (hL : s'.L = s.L) (hnow : s'.now = s.now) (htab : s'.tabs = s.tabs)
    (hc : ∀ tv g nv, #[.int .i64 s.ln, .int .i64 s.col, .int .i64 s.sz, .int .i64 s.rows, tv, .slice (some ⟨g, 0, none⟩) 1 1, .int .i64 (s.L.length : Int), nv, .bool s.put, .bool s.due].setIfInBounds i u = #[.int .i64 s'.ln, .int .i64 s'.col, .int .i64 s'.sz, .int .i64 s'.rows, tv, .slice (some ⟨g, 0, none⟩) 1 1, .int .i64 (s'.L.length : Int), nv, .bool s'.put, .bool s'.due]) :
    PgAt F w0 (w.setCell ⟨p, i, none⟩ u) p s' := by
  obtain ⟨⟨g, rv, tv, nv, hM, hF⟩, hT⟩ := h
  have hk : ∀ k, k ≠ p → (w.setCell ⟨p, i, none⟩ u).heap[k]? = w.heap[k]? := fun k hk => Below.heap_setCell w _ _ k hk
  have hne : ∀ {e : TypeId} {v : Value} {n : Nat} {xs : List Value}, w.ownsRow 0 e 1 v n xs → e ≠ 50 → ∀ k, v.ownBlock = some k → k ≠ p := fun h1 h2 k e1 => by
    obtain ⟨c, hc⟩ := own_type h1 e1
    exact type_ne hc hM.head h2
  refine ⟨⟨g, rv, tv, nv, ⟨blk_put hM.head i u (hc tv g nv), (hk g (type_ne hM.pages hM.head (by decide))).trans hM.pages, ?_, ?_, ?_⟩, hF⟩, hT.set (hF p (.inl rfl)) u⟩
  · rw [hL]; exact ownsRow_kept hM.row (fun k e => hk k (hne hM.row (by decide) k e))
  · rw [htab]; exact ownsRow_kept hM.tabs (fun k e => hk k (hne hM.tabs (by decide) k e))
  · rw [hnow]; exact ownsRow_kept hM.now (fun k e => hk k (hne hM.now (by decide) k e))
theorem PgAt.setCol {F : Nat → Prop} {w0 w : World} {p : Nat} {s : Pg} (h : PgAt F w0 w p s) (c : Int) : PgAt F w0 (w.setCell ⟨p, 1, none⟩ (.int .i64 c)) p { s with col := c } := h.set 1 _ rfl rfl rfl (fun _ _ _ => rfl)
theorem PgAt.setPut {F : Nat → Prop} {w0 w : World} {p : Nat} {s : Pg} (h : PgAt F w0 w p s) (b : Bool) : PgAt F w0 (w.setCell ⟨p, 8, none⟩ (.bool b)) p { s with put := b } := h.set 8 _ rfl rfl rfl (fun _ _ _ => rfl)
theorem PgAt.drewN {F : Nat → Prop} {w0 w : World} {p : Nat} {s : Pg} (h : PgAt F w0 w p s) (n : Nat) : PgAt F w0 (w.drewN n) p s := h.step (pw_below_drewN (Below.refl _ _) n)
/-- What a walk reads. -/
theorem PgAt.open_ {F : Nat → Prop} {w0 w : World} {p : Nat} {s : Pg} (h : PgAt F w0 w p s) : ∃ tv g A c, Aside0 (w.heap[p]? = some (.cells #[.int .i64 s.ln, .int .i64 s.col, .int .i64 s.sz, .int .i64 s.rows, tv, .slice (some ⟨g, 0, none⟩) 1 1, .int .i64 (s.L.length : Int), .slice A s.now.length c, .bool s.put, .bool s.due] 50 (0, 0))) := by
  obtain ⟨⟨g, rv, tv, nv, hM, hF⟩, hT⟩ := h
  obtain ⟨A, c, rfl⟩ := own_slice hM.now
  exact ⟨tv, g, A, c, ⟨hM.head⟩⟩
section
variable {ops : Array Oper} {rest : List Oper} {o : Oper} {a : Act} {Q : Exit → Act → World → Prop} {W : World}
/-- One byte more behind what was put on the line. -/
theorem wl_append5 {F : Nat → Prop} {w0 w : World} {p : Nat} {s : Pg} {x y : Operand} {A : Option Addr} {c0 : Nat} {g : Nat} {tv : Value} (c : Int) (h : PgAt F w0 w p s) (hgd : o.guard = none) (ho : o.op = .call { callee := .builtin .append, args := #[x, y], argTypes := #[48, 48] })
    (hh : w.heap[p]? = some (.cells #[.int .i64 s.ln, .int .i64 s.col, .int .i64 s.sz, .int .i64 s.rows, tv, .slice (some ⟨g, 0, none⟩) 1 1, .int .i64 (s.L.length : Int), .slice A s.now.length c0, .bool s.put, .bool s.due] 50 (0, 0)))
    (hs : a.eval x = .slice A s.now.length c0) (hx : a.eval y = .slice (some ⟨w.heap.size, 0, none⟩) 1 1) (hW : W = w.alloc (.cells #[.int .u8 c] 5 (0, 0))) (hn : s.now.length ≤ 1000000)
    (hK : ∀ g2 cap w2, w2.heap[p]? = w.heap[p]? → PgAt F w0 (w2.setCell ⟨p, 7, none⟩ (.slice (some ⟨g2, 0, none⟩) (s.now.length + 1) cap)) p { s with now := s.now ++ [c] } → wpList Try.prog ops Q rest (a.put o.dst (.slice (some ⟨g2, 0, none⟩) (s.now.length + 1) cap)) w2) : wpList Try.prog ops Q (o :: rest) a W := by
  subst hW
  obtain ⟨⟨g', rv, tv', nv, hM, hF⟩, hT⟩ := h
  have he := hh.symm.trans hM.head
  simp only [Option.some.injEq, Obj.cells.injEq, and_true] at he
  obtain ⟨rfl, hg, rfl⟩ : tv = tv' ∧ g = g' ∧ nv = .slice A s.now.length c0 := by
    have := congrArg Array.toList he
    simp at this
    exact ⟨this.1, this.2.1, this.2.2.symm⟩
  subst hg
  have hb := (Below.refl w.heap.size w).alloc (Nat.le_refl _) (.cells #[.int .u8 c] 5 (0, 0))
  have hrow := ownsRow_kept (w' := w.alloc (.cells #[.int .u8 c] 5 (0, 0))) hM.now (fun k e => hb.block k (hM.now.lt k e).2)
  obtain ⟨i0, hi, hz0, hz1, hz2⟩ := info_parts info5
  refine wpList_append_lies _ hgd x y 48 ho 0 5 i0 _ 1 1 Try.underlying48 hi hz0 hz1 hz2 rfl (by decide) (.slice A s.now.length c0) s.now.length (nums .u8 s.now) hs hrow ⟨w.heap.size, 0, none⟩ 1 1 [.int .u8 c] hx rfl
    (fun j u hj => by rw [add_plain]; exact (blk_cell (blk_new w _) j).trans (by simpa using hj)) (by simp [Value.oneCell']) (by decide) (by simp only [maxLen]; omega) (by omega) (Nat.zero_le _) _ rfl ?_
  intro g2 cap w2 hown hgrow hat hlt
  have pne : ∀ k, (Value.slice A s.now.length c0).ownBlock = some k → k ≠ p ∧ k ≠ g := fun k e => by
    obtain ⟨cs, hc⟩ := own_type hM.now e
    exact ⟨type_ne hc hM.head (by decide), type_ne hc hM.pages (by decide)⟩
  have hkeep : ∀ k, k < w.heap.size → (Value.slice A s.now.length c0).ownBlock ≠ some k → w2.heap[k]? = w.heap[k]? := fun k hk hn => (hgrow.block k (Nat.lt_of_lt_of_le hk hb.size) (fun e => hn e.symm)).trans (hb.block k hk)
  have hp2 : w2.heap[p]? = w.heap[p]? := hkeep p (blk_lt' hM.head) (fun e => (pne p e).1 rfl)
  have hset : ∀ k, k ≠ p → (w2.setCell ⟨p, 7, none⟩ (.slice (some ⟨g2, 0, none⟩) (s.now.length + 1) cap)).heap[k]? = w2.heap[k]? := fun k hk => Below.heap_setCell w2 _ _ k hk
  have hg2 : g2 ≠ p := by
    rcases hat with e | e
    · exact (pne g2 e).1
    · have h1 := blk_lt' hM.head
      have h2 := hb.size
      omega
  have other : ∀ {e : TypeId} {v : Value} {n : Nat} {xs : List Value}, w.ownsRow 0 e 1 v n xs → e ≠ 50 → e ≠ 5 → ∀ k, v.ownBlock = some k → (w2.setCell ⟨p, 7, none⟩ (.slice (some ⟨g2, 0, none⟩) (s.now.length + 1) cap)).heap[k]? = w.heap[k]? := fun h1 h2 h3 k e1 => by
    obtain ⟨cs, hc⟩ := own_type h1 e1
    refine (hset k (type_ne hc hM.head h2)).trans (hkeep k (blk_lt' hc) (fun e => ?_))
    obtain ⟨cs', hc'⟩ := own_type hM.now e
    exact type_ne hc hc' h3 rfl
  refine hK g2 cap w2 hp2 ⟨⟨g, rv, tv, .slice (some ⟨g2, 0, none⟩) (s.now.length + 1) cap, ⟨?_, ?_, ?_, ?_, ?_⟩, ?_⟩, ?_⟩
  · refine blk_put (hp2.trans hM.head) 7 _ ?_
    simp
  · exact (hset g (type_ne hM.pages hM.head (by decide))).trans ((hkeep g (blk_lt' hM.pages) (fun e => (pne g e).2 rfl)).trans hM.pages)
  · exact ownsRow_kept hM.row (other hM.row (by decide) (by decide))
  · exact ownsRow_kept hM.tabs (other hM.tabs (by decide) (by decide))
  · have := ownsRow_kept (w' := w2.setCell ⟨p, 7, none⟩ (.slice (some ⟨g2, 0, none⟩) (s.now.length + 1) cap)) hown (fun k e => hset k (by cases e; exact hg2))
    simpa [nums] using this
  · intro k hk
    rcases hk with rfl | rfl | e | e | e
    · exact hF _ (.inl rfl)
    · exact hF _ (.inr (.inl rfl))
    · exact hF k (.inr (.inr (.inl e)))
    · exact hF k (.inr (.inr (.inr (.inl e))))
    · cases e
      rcases hat with e | e
      · exact hF _ (.inr (.inr (.inr (.inr e))))
      · have h1 := hT.size
        have h2 := hb.size
        exact .inr (show w0.heap.size ≤ g2 by omega)
  · refine Turn.set (Turn.grown (hT.step hb) hgrow (fun k e => hF k (.inr (.inr (.inr (.inr e)))))) (hF p (.inl rfl)) _
end
def pRoom (s : Pg) : Pg := if s.sz < s.col then pEnd s else s
def pWrite (s : Pg) (c : Int) : Pg := let t := pRoom s; { t with now := t.now ++ List.replicate (t.col.toNat - 1 - t.now.length) 32 ++ [c], put := true, col := t.col + 1 }
/-- What holds between two calls: what was put ends ahead of the column; sizes. -/
structure Ok (m : Nat) (s : Pg) : Prop where
  now : (s.now.length : Int) ≤ s.col - 1
  col : 1 ≤ s.col ∧ s.col ≤ s.sz + 1
  sz : 10 ≤ s.sz ∧ s.sz ≤ 200
  rows : 1 ≤ s.rows ∧ s.rows ≤ 200
  L : s.L.length ≤ m
  ln : 1 ≤ s.ln ∧ s.ln ≤ m + 1
theorem Ok.end_ {m : Nat} {s : Pg} (h : Ok m s) : Ok (m + 1) (pEnd s) := by
  obtain ⟨h1, h2, h3, h4, h5, h6⟩ := h
  refine ⟨?_, ?_, h3, h4, ?_, ?_⟩
  · show ((0 : Nat) : Int) ≤ 1 - 1; omega
  · show (1 : Int) ≤ 1 ∧ (1 : Int) ≤ s.sz + 1; omega
  · show (s.L ++ _).length ≤ m + 1; simp; omega
  · show 1 ≤ s.ln + 1 ∧ s.ln + 1 ≤ ((m + 1 : Nat) : Int) + 1; omega
theorem Ok.mono {m m' : Nat} {s : Pg} (h : Ok m s) (hm : m ≤ m') : Ok m' s := ⟨h.now, h.col, h.sz, h.rows, Nat.le_trans h.L hm, by have := h.ln; omega⟩
theorem Ok.room {m : Nat} {s : Pg} (h : Ok m s) : Ok (m + 1) (pRoom s) ∧ (pRoom s).col ≤ (pRoom s).sz := by
  unfold pRoom
  have h2 := h.col
  have h3 := h.sz
  split
  · exact ⟨h.end_, by show (1 : Int) ≤ s.sz; omega⟩
  · exact ⟨h.mono (by omega), by omega⟩
theorem Ok.write {m : Nat} {s : Pg} (h : Ok m s) (c : Int) : Ok (m + 1) (pWrite s c) := by
  obtain ⟨⟨h1, h2, h3, h4, h5, h6⟩, h7⟩ := h.room
  refine ⟨?_, ?_, h3, h4, h5, h6⟩
  · show (((pRoom s).now ++ List.replicate ((pRoom s).col.toNat - 1 - (pRoom s).now.length) 32 ++ [c]).length : Int) ≤ (pRoom s).col + 1 - 1
    simp
    omega
  · show 1 ≤ (pRoom s).col + 1 ∧ (pRoom s).col + 1 ≤ (pRoom s).sz + 1; omega
set_option maxRecDepth 100000 in
set_option maxHeartbeats 4000000 in
theorem total_is (p : Nat) (s : Pg) (F : Nat → Prop) (w0 w : World) (h : PgAt F w0 w p s) (hn : s.L.length ≤ 100000) : Calls Try.prog 49 #[.pointer (some ⟨p, 0, none⟩)] w fun e w' => e = .returned (.int .i64 ((s.L.length : Int) + if s.put = true then 1 else 0)) ∧ Below w.heap.size w w' := by
  obtain ⟨tv, g, A, c, hh⟩ := h.open_
  have c6 := (blk_cell hh.out 6).trans rfl
  have c8 := (blk_cell hh.out 8).trans rfl
  generalize s.L.length = n at *
  have hw : wrap64 ((n : Int) + 1) = (n : Int) + 1 := by unfold wrap64; omega
  clear h hh
  cases hp : s.put with
  | true =>
    rw [hp] at c8
    go_enter Try.func49, Try.ntmps49
    go_wp2_with fail
    go_ret
    exact ⟨by simp, Below.refl _ _⟩
  | false =>
    rw [hp] at c8
    go_enter Try.func49, Try.ntmps49
    go_wp2_with fail
    go_ret
    exact ⟨by simp, Below.refl _ _⟩
set_option maxRecDepth 100000 in
set_option maxHeartbeats 4000000 in
theorem room_is (p : Nat) (s : Pg) (F : Nat → Prop) (w0 w : World) (m : Nat) (h : PgAt F w0 w p s) (ho : Ok m s) (hm : m ≤ 90000) : Calls Try.prog 45 #[.pointer (some ⟨p, 0, none⟩)] w fun e w' => e = .returned (.tuple #[]) ∧ PgAt F w0 w' p (pRoom s) := by
  obtain ⟨tv, g, A, c, hh⟩ := h.open_
  have c1 := (blk_cell hh.out 1).trans rfl
  have c2 := (blk_cell hh.out 2).trans rfl
  have hl := ho.L
  have hln := ho.ln
  have hrw := ho.rows
  have HE := Aside0.mk (fun W (hW : PgAt F w0 W p s) => end_is p s F w0 W hW (by omega) ⟨by omega, by omega⟩ ⟨by omega, by omega⟩)
  have H := Aside0.mk h
  clear h hh ho hl hln hrw
  unfold pRoom
  by_cases hc : s.sz < s.col
  · rw [if_pos hc]
    have hd : decide (s.col > s.sz) = true := decide_eq_true hc
    generalize s.col = col at *
    generalize s.sz = sz at *
    generalize pEnd s = s' at *
    go_enter Try.func45, Try.ntmps45
    go_wp2_with fail
    go_quiet (fail)
    go_wp2_with fail
    refine (HE.out _ (H.out.drewN _)).mono ?_
    rintro e w1 ⟨rfl, h1⟩
    go_wp2_with fail
    go_end0
    exact ⟨rfl, h1⟩
  · rw [if_neg hc]
    have hd : decide (s.col > s.sz) = false := decide_eq_false hc
    generalize s.col = col at *
    generalize s.sz = sz at *
    go_enter Try.func45, Try.ntmps45
    go_wp2_with fail
    go_quiet (fail)
    go_wp2_with fail
    go_end0
    exact ⟨rfl, H.out.drewN _⟩
end Go.Proofs.Ytjamaccblokfkaa.P

-- from the text Hc
namespace Go.Proofs.Ytjamaccblokfkaa.P
open Go.RowKit Go.Proofs.YtjamaccblokfkaaW.PrintWords Go.Proofs.YtjamaccblokfkaaW.PrintLast Go.Proofs.YtjamaccblokfkaaW.PrintMore
set_option linter.unusedVariables false
set_option linter.unusedSimpArgs false
/-- How much lies on the line, told by the world. -/
def nowLen (w : World) (p : Nat) : Nat := match w.cell? ⟨p, 7, none⟩ with
  | some (.slice _ n _) => n
  | _ => 0
theorem PgAt.nowLen {F : Nat → Prop} {w0 w : World} {p : Nat} {s : Pg} (h : PgAt F w0 w p s) : nowLen w p = s.now.length := by
  obtain ⟨tv, g, A, c, hh⟩ := h.open_
  unfold P.nowLen
  rw [(blk_cell hh.out 7).trans rfl]
  rfl
theorem pad_more (t : Pg) (j : Nat) : ({ ({ t with now := t.now ++ List.replicate j 32 } : Pg) with now := ({ t with now := t.now ++ List.replicate j 32 } : Pg).now ++ [32] } : Pg) = { t with now := t.now ++ List.replicate (j + 1) 32 } := by
  simp [List.replicate_succ']
set_option maxRecDepth 100000 in
set_option maxHeartbeats 8000000 in
theorem write_is (p : Nat) (s : Pg) (c : Int) (F : Nat → Prop) (w0 w : World) (m : Nat) (h : PgAt F w0 w p s) (ho : Ok m s) (hm : m ≤ 90000) : Calls Try.prog 50 #[.pointer (some ⟨p, 0, none⟩), .int .u8 c] w fun e w' => e = .returned (.tuple #[]) ∧ PgAt F w0 w' p (pWrite s c) := by
  have HR := Aside0.mk (room_is p s F w0 w m h ho hm)
  obtain ⟨hk, hcs⟩ := ho.room
  have HW := Aside0.mk (show pWrite s c = { pRoom s with now := (pRoom s).now ++ List.replicate ((pRoom s).col.toNat - 1 - (pRoom s).now.length) 32 ++ [c], put := true, col := (pRoom s).col + 1 } from rfl)
  have h1 := hk.now
  have h2 := hk.col
  have h3 := hk.sz
  clear h ho hk hm
  generalize pWrite s c = out at HW
  generalize pRoom s = t at *
  obtain ⟨K, hK⟩ : ∃ K, t.col.toNat - 1 - t.now.length = K := ⟨_, rfl⟩
  rw [hK] at HW
  have hKn : (t.now.length : Int) + K = t.col - 1 := by omega
  clear hK
  go_enter Try.func50, Try.ntmps50
  go_wp2_with fail
  refine HR.out.mono ?_
  rintro e w1 ⟨rfl, hp1⟩
  have HP1 := Aside0.mk hp1
  clear hp1 HR
  go_wp2_with fail
  go_loopw [] (fun wr => ∃ (j : Nat) (u : Pg), j ≤ K ∧ Aside0 (u = { t with now := t.now ++ List.replicate j 32 }) ∧ Aside0 (PgAt F w0 wr p u)) (fun wr => 1000 - nowLen wr p)
  case atStart => exact ⟨0, t, Nat.zero_le _, ⟨by simp⟩, HP1⟩
  case round =>
    clear HP1
    obtain ⟨j, u, hj, HU, HP⟩ := hrel
    have HU1 := Aside0.mk (show u.col = t.col by rw [HU.out])
    have HU2 := Aside0.mk (show u.now.length = t.now.length + j by rw [HU.out]; simp)
    have hnl := HP.out.nowLen
    obtain ⟨tv, g, A, c0, HH⟩ := HP.out.open_
    have HNL := Aside0.mk hnl
    clear hnl
    have hw1 : wrap64 (u.col - 1) = u.col - 1 := by have := HU1.out; unfold wrap64; omega
    have hw2 : wrap64 (u.col + 1) = u.col + 1 := by have := HU1.out; unfold wrap64; omega
    have hn6 : u.now.length ≤ 1000000 := by have := HU2.out; omega
    have k1 := (blk_cell HH.out 1).trans rfl
    have k7 := (blk_cell HH.out 7).trans rfl
    go_wp2_with fail
    go_quiet (fail)
    have HPd := Aside0.mk (HP.out.drewN nq)
    have HHd := Aside0.mk (blk_drewN HH.out nq)
    clear k1 k7
    generalize wr.drewN nq = wd at HPd HHd ⊢
    have k1 := (blk_cell HHd.out 1).trans rfl
    have k7 := (blk_cell HHd.out 7).trans rfl
    by_cases hlt : j < K
    · have q1 : (u.now.length : Int) < u.col - 1 := by have := HU1.out; have := HU2.out; omega
      have d1 : decide ((u.now.length : Int) < u.col - 1) = true := decide_eq_true q1
      go_wp2_with ((with_reducible refine gate_dst (N := 25) rfl ?_); refine wl_append5 32 HPd.out rfl rfl HHd.out rfl rfl rfl hn6 ?_; intro g2 cap w2 hp2 hpg; have HG := Aside0.mk hpg; have l7 := (blk_cell (hp2.trans HHd.out) 7).trans rfl; have m7 := blk_frozen (hp2.trans HHd.out) 7; clear hp2 hpg k1 k7)
      have hnl2 := HG.out.nowLen
      refine ⟨⟨j + 1, { u with now := u.now ++ [32] }, by omega, ⟨by rw [HU.out]; exact pad_more t j⟩, HG⟩, ?_⟩
      have := HU2.out
      rw [hnl2, HNL.out]
      simp
      omega
    · obtain rfl : j = K := by omega
      have q1 : ¬ (u.now.length : Int) < u.col - 1 := by have := HU1.out; have := HU2.out; omega
      have d1 : decide ((u.now.length : Int) < u.col - 1) = false := decide_eq_false q1
      have q3 : (u.now.length : Int) ≤ u.col - 1 := by have := HU1.out; have := HU2.out; omega
      have d2 : decide (u.col - 1 = (u.now.length : Int)) = true := decide_eq_true (by have := HU1.out; have := HU2.out; omega)
      go_wp2_with ((with_reducible refine gate_dst (N := 49) rfl ?_); refine wl_append5 c HPd.out rfl rfl HHd.out rfl rfl rfl hn6 ?_; intro g2 cap w2 hp2 hpg; have HG := Aside0.mk ((hpg.setPut true).setCol (u.col + 1)); have l1 := (blk_cell (hp2.trans HHd.out) 1).trans rfl; have l7 := (blk_cell (hp2.trans HHd.out) 7).trans rfl; have l8 := (blk_cell (hp2.trans HHd.out) 8).trans rfl; have m1 := blk_frozen (hp2.trans HHd.out) 1; have m7 := blk_frozen (hp2.trans HHd.out) 7; have m8 := blk_frozen (hp2.trans HHd.out) 8; clear hp2 hpg k1 k7)
      go_end0
      refine ⟨rfl, ?_⟩
      have e : out = { ({ ({ u with now := u.now ++ [c] } : Pg) with put := true } : Pg) with col := u.col + 1 } := by rw [HW.out, HU.out]
      rw [e]
      exact HG.out
def pStrN (s : Pg) (b : ByteArray) (k : Nat) : Pg := (List.range k).foldl (fun u (i : Nat) => pWrite u (bt b (i : Int))) s
def pStr (s : Pg) (b : ByteArray) : Pg := pStrN s b b.size
theorem pStrN_succ (s : Pg) (b : ByteArray) (k : Nat) : pStrN s b (k + 1) = pWrite (pStrN s b k) (bt b (k : Int)) := by
  unfold pStrN
  rw [List.range_succ, List.foldl_append]
  rfl
theorem Ok.strN {m : Nat} {s : Pg} (h : Ok m s) (b : ByteArray) : ∀ k, Ok (m + k) (pStrN s b k)
  | 0 => h
  | k + 1 => by rw [pStrN_succ]; exact (h.strN b k).write _
set_option maxRecDepth 100000 in
set_option maxHeartbeats 4000000 in
theorem text_any (p : Nat) (f : Nat → Pg) (b : ByteArray) (F : Nat → Prop) (w0 w : World) (h : PgAt F w0 w p (f 0)) (hb : b.size ≤ 20000)
    (hW : ∀ (k : Nat) (hk : k < b.size), ∀ W, PgAt F w0 W p (f k) → Calls Try.prog 50 #[.pointer (some ⟨p, 0, none⟩), .int .u8 ((b[k]'hk).toNat : Int)] W fun e w' => e = .returned (.tuple #[]) ∧ PgAt F w0 w' p (f (k + 1))) :
    Calls Try.prog 27 #[.pointer (some ⟨p, 0, none⟩), .string b] w fun e w' => e = .returned (.tuple #[]) ∧ PgAt F w0 w' p (f b.size) := by
  have HW := Aside0.mk hW
  have H0 := Aside0.mk h
  clear h hW
  go_enter Try.func27, Try.ntmps27
  go_wp2_with fail
  go_loopw [4, 7] (fun _ v wr => ∃ k : Nat, k ≤ b.size ∧ v = .int .i64 (k : Int) ∧ Aside0 (PgAt F w0 wr p (f k))) (fun _ v _ => b.size - (intOf v).toNat)
  case atStart => exact ⟨0, Nat.zero_le _, rfl, H0⟩
  case round =>
    clear H0
    obtain ⟨k, hk, rfl, HP⟩ := hrel
    have hwk : wrap64 ((k : Int) + 1) = ((k + 1 : Nat) : Int) := by unfold wrap64; omega
    have h0 : (0 : Int) ≤ (k : Int) := by omega
    by_cases hlt : k < b.size
    · have q1 : (k : Int) < (b.size : Int) := by omega
      have d1 : decide ((k : Int) < (b.size : Int)) = true := decide_eq_true q1
      go_wp2_with fail
      refine (HW.out k hlt wr HP.out).mono ?_
      rintro e w1 ⟨rfl, h1⟩
      have H1 := Aside0.mk h1
      clear h1
      go_wp2_with fail
      exact ⟨⟨k + 1, hlt, rfl, H1⟩, by simp [intOf]; omega⟩
    · obtain rfl : k = b.size := by omega
      have q1 : ¬ (b.size : Int) < (b.size : Int) := by omega
      go_wp2_with fail
      go_end0
      exact ⟨rfl, HP.out⟩
theorem text_is (p : Nat) (s : Pg) (b : ByteArray) (F : Nat → Prop) (w0 w : World) (m : Nat) (h : PgAt F w0 w p s) (ho : Ok m s) (hm : m ≤ 60000) (hb : b.size ≤ 20000) : Calls Try.prog 27 #[.pointer (some ⟨p, 0, none⟩), .string b] w fun e w' => e = .returned (.tuple #[]) ∧ PgAt F w0 w' p (pStr s b) :=
  text_any p (pStrN s b) b F w0 w h hb (fun k hk W hW => by rw [pStrN_succ, show ((b[k]'hk).toNat : Int) = bt b (k : Int) from bt_at b (k : Int) (by simpa using hk)]; exact write_is p (pStrN s b k) (bt b (k : Int)) F w0 W (m + k) hW (ho.strN b k) (by omega))
end Go.Proofs.Ytjamaccblokfkaa.P

-- from the text A34
namespace Go.Proofs.Ytjamaccblokfkaa.P
open Go.RowKit Go.Proofs.YtjamaccblokfkaaW.PrintWords Go.Proofs.YtjamaccblokfkaaW.PrintLast Go.Proofs.YtjamaccblokfkaaW.PrintMore
attribute [local go_sem] max2_int min2_int max_two min_two max_three min_three max_four min_four   -- for this text's walks alone
set_option linter.unusedVariables false
set_option linter.unusedSimpArgs false
def page_clean.l0 : Nat → ByteArray → Int → Int → Option (Bool)
  | 0, _, _, _ => none
  | k + 1, x0, x5, x6 => if x6 < x5 then (if 0 ≤ x6 then (if x6 < (x0.size : Int) then (if (bt x0 x6) < 32 then (some false) else (if (bt x0 x6) > 126 then (some false) else (page_clean.l0 k x0 x5 (wrap64 (x6 + 1))))) else (none)) else (none)) else (some true)
def page_clean.f (k : Nat) (a0 : ByteArray) : Option (Bool) := page_clean.l0 k a0 (a0.size : Int) 0
set_option maxHeartbeats 8000000 in
set_option maxRecDepth 100000 in
theorem page_clean.calls (k : Nat) (a0 : ByteArray) (r : Bool) (w : World) (h : page_clean.f k a0 = some r) :
    Calls Try.prog 34 #[.string a0] w fun e w' => e = .returned (.bool r) ∧ Drawn0 w w' := by
  have H : (page_clean.l0 k a0 (a0.size : Int) 0) = some r := h
  clear h
  have H' := Aside0.mk H
  clear H
  go_enter Try.func34, Try.ntmps34
  go_wp2
  go_loopg [6] k (fun kq v6 w' => ∃ (x6_1 : Int), v6 = .int .i64 x6_1 ∧ Aside0 (page_clean.l0 kq a0 (a0.size : Int) x6_1 = some r) ∧ Aside0 (kq ≤ k) ∧ Drawn0 w w')
  case atStart => exact ⟨(0), (by first | rfl | (simp; done) | (generalize ByteArray.toList _ = l_; cases l_ <;> rfl) | (simp [*]; done)), H', ⟨Nat.le_refl _⟩, by repeat (first | exact Drawn0.refl _ | apply Drawn0.step)⟩
  case round =>
    clear H'
    obtain ⟨x6_1, rfl, HA, HK1, ⟨m1, rfl⟩⟩ := hrel
    cases gk with
    | zero => exact absurd HA.out (by simp [page_clean.l0])
    | succ k1 =>
      have H := HA.out
      clear HA
      simp only [page_clean.l0] at H
      by_cases c2 : x6_1 < (a0.size : Int)
      · rw [if_pos c2] at H
        have c2b0 : decide (x6_1 < (a0.size : Int)) = true := decide_eq_true c2
        clear c2
        by_cases c3 : 0 ≤ x6_1
        · rw [if_pos c3] at H
          have c3b0 : decide (0 ≤ x6_1) = true := decide_eq_true c3
          clear c3
          by_cases c4 : x6_1 < (a0.size : Int)
          · rw [if_pos c4] at H
            have c4b0 : decide (x6_1 < (a0.size : Int)) = true := decide_eq_true c4
            clear c4
            by_cases c6 : (bt a0 x6_1) < 32
            · rw [if_pos c6] at H
              have c6b0 : decide ((bt a0 x6_1) < 32) = true := decide_eq_true c6
              clear c6
              obtain rfl := Option.some.inj H
              have p5 : 0 ≤ (x6_1 : Int) := of_decide_eq_true (by first | (with_reducible assumption) | assumption)
              have q5 : x6_1 < (a0.size : Int) := of_decide_eq_true (by first | (with_reducible assumption) | assumption)
              have hx5 := bt_at a0 x6_1
              replace p5 := eq_true p5
              replace q5 := eq_true q5
              go_wp2
              go_ret
              exact ⟨by first | rfl | (simp; done) | (simp [*]; done), by repeat (first | exact Drawn0.refl _ | apply Drawn0.step)⟩
            · rw [if_neg c6] at H
              have c6b0 : decide ((bt a0 x6_1) < 32) = false := decide_eq_false c6
              clear c6
              by_cases c8 : (bt a0 x6_1) > 126
              · rw [if_pos c8] at H
                have c8b0 : decide (126 < (bt a0 x6_1)) = true := decide_eq_true c8
                clear c8
                obtain rfl := Option.some.inj H
                have p5 : 0 ≤ (x6_1 : Int) := of_decide_eq_true (by first | (with_reducible assumption) | assumption)
                have q5 : x6_1 < (a0.size : Int) := of_decide_eq_true (by first | (with_reducible assumption) | assumption)
                have hx5 := bt_at a0 x6_1
                replace p5 := eq_true p5
                replace q5 := eq_true q5
                have p7 : 0 ≤ (x6_1 : Int) := of_decide_eq_true (by first | (with_reducible assumption) | assumption)
                have q7 : x6_1 < (a0.size : Int) := of_decide_eq_true (by first | (with_reducible assumption) | assumption)
                have hx7 := bt_at a0 x6_1
                replace p7 := eq_true p7
                replace q7 := eq_true q7
                go_wp2
                go_ret
                exact ⟨by first | rfl | (simp; done) | (simp [*]; done), by repeat (first | exact Drawn0.refl _ | apply Drawn0.step)⟩
              · rw [if_neg c8] at H
                have c8b0 : decide (126 < (bt a0 x6_1)) = false := decide_eq_false c8
                clear c8
                have H' := Aside0.mk H
                clear H
                have p5 : 0 ≤ (x6_1 : Int) := of_decide_eq_true (by first | (with_reducible assumption) | assumption)
                have q5 : x6_1 < (a0.size : Int) := of_decide_eq_true (by first | (with_reducible assumption) | assumption)
                have hx5 := bt_at a0 x6_1
                replace p5 := eq_true p5
                replace q5 := eq_true q5
                have p7 : 0 ≤ (x6_1 : Int) := of_decide_eq_true (by first | (with_reducible assumption) | assumption)
                have q7 : x6_1 < (a0.size : Int) := of_decide_eq_true (by first | (with_reducible assumption) | assumption)
                have hx7 := bt_at a0 x6_1
                replace p7 := eq_true p7
                replace q7 := eq_true q7
                go_wp2
                go_roundg k1
                case measure => have := HK1.out; omega
                case rel => exact ⟨(wrap64 (x6_1 + 1)), (by first | rfl | (simp; done) | (generalize ByteArray.toList _ = l_; cases l_ <;> rfl) | (simp [*]; done)), H', ⟨by have := HK1.out; omega⟩, by repeat (first | exact Drawn0.refl _ | apply Drawn0.step)⟩
          · rw [if_neg c4] at H
            exact absurd H (by simp)
        · rw [if_neg c3] at H
          exact absurd H (by simp)
      · rw [if_neg c2] at H
        have c2b0 : decide (x6_1 < (a0.size : Int)) = false := decide_eq_false c2
        clear c2
        obtain rfl := Option.some.inj H
        go_wp2
        go_ret
        exact ⟨by first | rfl | (simp; done) | (simp [*]; done), by repeat (first | exact Drawn0.refl _ | apply Drawn0.step)⟩
/-- THE ONE PURE STATEMENT of page_clean: yours. -/
def page_clean.Pure : Prop := ∀ (a0 : ByteArray), a0.size ≤ 140737488351232 → ∃ k, page_clean.f k a0 = some true
theorem page_clean.walk (P : page_clean.Pure) (a0 : ByteArray) (w : World) (w0 : a0.size ≤ 140737488351232) :
    Calls Try.prog 34 #[.string a0] w fun e w' => e = .returned (.bool true) ∧ Below w.heap.size w w' := by
  obtain ⟨k, h⟩ := P a0 w0
  refine (page_clean.calls k a0 true w h).mono ?_
  rintro e w' ⟨rfl, hd⟩
  exact ⟨rfl, hd.below⟩
end Go.Proofs.Ytjamaccblokfkaa.P

-- from the text A22
namespace Go.Proofs.Ytjamaccblokfkaa.P
open Go.RowKit Go.Proofs.YtjamaccblokfkaaW.PrintWords Go.Proofs.YtjamaccblokfkaaW.PrintLast Go.Proofs.YtjamaccblokfkaaW.PrintMore
attribute [local go_sem] max2_int min2_int max_two min_two max_three min_three max_four min_four   -- for this text's walks alone
set_option linter.unusedVariables false
set_option linter.unusedSimpArgs false
def page_within.f (a0 : Int) (a1 : Int) (a2 : Int) : Option (Bool) := if a0 ≥ a1 then (some (decide (a0 ≤ a2))) else (some false)
set_option maxHeartbeats 8000000 in
set_option maxRecDepth 100000 in
theorem page_within.calls (a0 : Int) (a1 : Int) (a2 : Int) (r : Bool) (w : World) (h : page_within.f a0 a1 a2 = some r) :
    Calls Try.prog 22 #[.int .i64 a0, .int .i64 a1, .int .i64 a2] w fun e w' => e = .returned (.bool r) ∧ Drawn0 w w' := by
  have H : (if a0 ≥ a1 then (some (decide (a0 ≤ a2))) else (some false)) = some r := h
  clear h
  by_cases c4 : a0 ≥ a1
  · rw [if_pos c4] at H
    have c4b0 : decide (a1 ≤ a0) = true := decide_eq_true c4
    clear c4
    obtain rfl := Option.some.inj H
    go_enter Try.func22, Try.ntmps22
    go_wp2
    go_ret
    exact ⟨by first | rfl | (simp; done) | (simp [*]; done), by repeat (first | exact Drawn0.refl _ | apply Drawn0.step)⟩
  · rw [if_neg c4] at H
    have c4b0 : decide (a1 ≤ a0) = false := decide_eq_false c4
    clear c4
    obtain rfl := Option.some.inj H
    go_enter Try.func22, Try.ntmps22
    go_wp2
    go_ret
    exact ⟨by first | rfl | (simp; done) | (simp [*]; done), by repeat (first | exact Drawn0.refl _ | apply Drawn0.step)⟩
/-- THE ONE PURE STATEMENT of page_within: yours. -/
def page_within.Pure : Prop := ∀ (a0 : Int) (a1 : Int) (a2 : Int), (Lit.int .i64 a0).wf = true → (Lit.int .i64 a1).wf = true → (Lit.int .i64 a2).wf = true → page_within.f a0 a1 a2 = some true
theorem page_within.walk (P : page_within.Pure) (a0 : Int) (a1 : Int) (a2 : Int) (w : World) (w0 : (Lit.int .i64 a0).wf = true) (w1 : (Lit.int .i64 a1).wf = true) (w2 : (Lit.int .i64 a2).wf = true) :
    Calls Try.prog 22 #[.int .i64 a0, .int .i64 a1, .int .i64 a2] w fun e w' => e = .returned (.bool true) ∧ Below w.heap.size w w' := by
  have h := P a0 a1 a2 w0 w1 w2
  refine (page_within.calls a0 a1 a2 true w h).mono ?_
  rintro e w' ⟨rfl, hd⟩
  exact ⟨rfl, hd.below⟩
end Go.Proofs.Ytjamaccblokfkaa.P

-- from the text Hd
namespace Go.Proofs.Ytjamaccblokfkaa.P
open Go.RowKit Go.Proofs.YtjamaccblokfkaaW.PrintWords Go.Proofs.YtjamaccblokfkaaW.PrintLast Go.Proofs.YtjamaccblokfkaaW.PrintMore
set_option linter.unusedVariables false
set_option linter.unusedSimpArgs false
theorem PgM.same {w : World} {p g g' : Nat} {rv rv' tv tv' nv nv' : Value} {s s' : Pg} (h : PgM w p g rv tv nv s) (h' : PgM w p g' rv' tv' nv' s') : g = g' ∧ rv = rv' ∧ tv = tv' ∧ nv = nv' := by
  have e := h.head.symm.trans h'.head
  simp only [Option.some.injEq, Obj.cells.injEq, and_true] at e
  have e2 := congrArg Array.toList e
  simp at e2
  obtain ⟨-, -, -, -, rfl, rfl, -, rfl, -⟩ := e2
  have e3 := h.pages.symm.trans h'.pages
  simp at e3
  exact ⟨rfl, e3, rfl, rfl⟩
/-- A block that is not the print file's. -/
def Free (w : World) (p b : Nat) : Prop := b < w.heap.size ∧ ∀ g rv tv nv s, PgM w p g rv tv nv s → ¬ foot p g rv tv nv b
theorem PgM.back {w w' : World} {p g g' : Nat} {rv rv' tv tv' nv nv' : Value} {s s' : Pg} (h : PgM w p g rv tv nv s) (hb : Below w.heap.size w w') (h' : PgM w' p g' rv' tv' nv' s') : g = g' ∧ rv = rv' ∧ tv = tv' ∧ nv = nv' :=
  (h.kept (fun k hk => hb.block k (h.foot_lt hk))).same h'
theorem Free.below {w w' : World} {p b : Nat} {F : Nat → Prop} {w0 : World} {s : Pg} (h : Free w p b) (hp : PgAt F w0 w p s) (hb : Below w.heap.size w w') : Free w' p b := by
  obtain ⟨⟨g, rv, tv, nv, hM, hF⟩, hT⟩ := hp
  refine ⟨Nat.lt_of_lt_of_le h.1 hb.size, fun g' rv' tv' nv' s' h' hf => ?_⟩
  obtain ⟨rfl, rfl, rfl, rfl⟩ := hM.back hb h'
  exact h.2 _ _ _ _ _ hM hf
theorem Free.new {w w' : World} {p b : Nat} {F : Nat → Prop} {w0 : World} {s : Pg} (hp : PgAt F w0 w p s) (hb : Below w.heap.size w w') (h1 : w.heap.size ≤ b) (h2 : b < w'.heap.size) : Free w' p b := by
  obtain ⟨⟨g, rv, tv, nv, hM, hF⟩, hT⟩ := hp
  refine ⟨h2, fun g' rv' tv' nv' s' h' hf => ?_⟩
  obtain ⟨rfl, rfl, rfl, rfl⟩ := hM.back hb h'
  have := hM.foot_lt hf
  omega
/-- A call sees the print file's own blocks alone. -/
theorem PgAt.enter {F : Nat → Prop} {w0 w : World} {p : Nat} {s : Pg} (h : PgAt F w0 w p s) : ∃ F1 : Nat → Prop, PgAt F1 w w p s ∧ (∀ b, Free w p b → ¬ F1 b) ∧ ∀ w' s', PgAt F1 w w' p s' → PgAt F w0 w' p s' := by
  obtain ⟨⟨g, rv, tv, nv, hM, hF⟩, hT⟩ := h
  refine ⟨foot p g rv tv nv, ⟨⟨g, rv, tv, nv, hM, fun k hk => .inl hk⟩, Turn.refl _ _⟩, fun b hb => hb.2 _ _ _ _ _ hM, ?_⟩
  rintro w' s' ⟨⟨g', rv', tv', nv', hM', hF'⟩, hT'⟩
  refine ⟨⟨g', rv', tv', nv', hM', fun k hk => ?_⟩, ⟨hT'.os.trans hT.os, hT'.tape.trans hT.tape, hT'.output.trans hT.output, Nat.le_trans hT.size hT'.size, fun k hk hn => ?_⟩⟩
  · rcases hF' k hk with h | h
    · exact hF k h
    · exact .inr (Nat.le_trans hT.size h)
  · exact (hT'.block k (Nat.lt_of_lt_of_le hk hT.size) (fun e => (hF k e).elim hn (fun e => by omega))).trans (hT.block k hk hn)
theorem PgAt.stays {F : Nat → Prop} {w0 w : World} {p b : Nat} {s : Pg} {o : Obj} (h : PgAt F w0 w p s) (hb : ¬ F b) (ho : w0.heap[b]? = some o) : w.heap[b]? = some o := (h.2.block b (blk_lt' ho) hb).trans ho
theorem own_empty (W : World) (e : TypeId) (size : Nat) : (W.alloc (.cells #[] e (0, 0))).ownsRow W.heap.size e size (.slice (some ⟨W.heap.size, 0, none⟩) 0 0) 0 [] := by
  refine ⟨by simp, .inr ⟨W.heap.size, 0, #[], rfl, Nat.le_refl _, ?_, Nat.le_refl _, by simp, by simp, by simp⟩⟩
  exact blk_new W (.cells #[] e (0, 0))
theorem nil48 (A : Option Addr) (n c : Nat) (w : World) : (binOp .eql 48 (.slice A n c) (.slice none 0 0)).run Try.prog w = .ok (.bool A.isNone) w := by exact Go.Lib.run_eql_slice_nil (h := Try.underlying48) ..
attribute [local go_sem high] nil48
theorem wl_clone5 {ops : Array Oper} {rest : List Oper} {o : Oper} {a : Act} {Q : Exit → Act → World → Prop} {W : World} {s x : Operand} {v : Value} {base : Nat} (m c : Nat) (ad : Addr) (ys : List Value) (hgd : o.guard = none) (ho : o.op = .call { callee := .builtin .append, args := #[s, x], argTypes := #[48, 48] })
    (hs : a.eval s = v) (hrow : W.ownsRow base 5 1 v 0 []) (hx : a.eval x = .slice (some ad) m c) (hl : ys.length = m) (hnews : ∀ j u, ys[j]? = some u → W.cell? (ad.add j) = some u) (h1 : ∀ x ∈ ys, x.oneCell' = true) (hn : m ≤ 1000000) (hb : base ≤ W.heap.size)
    (h : ∀ v' w', w'.ownsRow base 5 1 v' m ys → W.grownBy w' v.ownBlock → wpList Try.prog ops Q rest (a.put o.dst v') w') : wpList Try.prog ops Q (o :: rest) a W := by
  obtain ⟨i0, hi, hz0, hz1, hz2⟩ := info_parts info5
  refine wpList_append_own W hgd s x 48 ho base 5 i0 _ 1 1 Try.underlying48 hi hz0 hz1 hz2 rfl (by decide) v 0 [] hs hrow ad m c ys hx (by omega) hnews h1 (by simp only [maxLen]; omega) (by omega) hb (fun v' w' h1 h2 _ => h v' w' ?_ h2)
  rw [Nat.zero_add, List.nil_append] at h1
  exact h1
set_option maxRecDepth 100000 in
set_option maxHeartbeats 4000000 in
theorem clone5_is (v : Value) (n : Nat) (ys : List Value) (w : World) (h : w.ownsRow 0 5 1 v n ys) (h1 : ∀ x ∈ ys, x.oneCell' = true) (hl : n ≤ 1000000) :
    Calls Try.prog 47 #[v] w fun e w' => ∃ A c, e = .returned (.slice A n c) ∧ w'.ownsRow w.heap.size 5 1 (.slice A n c) n ys ∧ Below w.heap.size w w' := by
  rcases h.2 with ⟨rfl, h0⟩ | ⟨g, cap, cur, rfl, _⟩
  · subst h0
    obtain rfl : ys = [] := List.eq_nil_of_length_eq_zero (by have := h.1; simpa using this)
    clear h
    go_enter Try.func47, Try.ntmps47
    go_wp2_with fail
    go_ret
    exact ⟨none, 0, rfl, World.ownsRow_nil _ _ _ _, Below.refl _ _⟩
  · have HN := Aside0.mk (fun j u (hj : ys[j]? = some u) => own_cells h _ rfl j u hj)
    have hly : ys.length = n := by have := h.1; omega
    have HO := Aside0.mk (own_empty w 5 1)
    have H1 := Aside0.mk h1
    have HB := Aside0.mk ((Below.refl w.heap.size w).alloc (Nat.le_refl _) (.cells #[] 5 (0, 0)))
    clear h h1
    go_enter Try.func47, Try.ntmps47
    go_wp2_with ((with_reducible refine gate_dst (N := 7) rfl ?_); refine wl_clone5 n cap ⟨g, 0, none⟩ ys rfl rfl rfl HO.out rfl hly (fun j u hj => pw_cell_below HB.out (HN.out j u hj)) H1.out (by omega) (by simp) ?_; intro v' w1 hown hgrow; have HV := Aside0.mk hown; have HB1 := Aside0.mk (HB.out.grown hgrow (by simp) (fun k hk => Nat.le_of_eq (Option.some.inj (show some w.heap.size = some k from hk)))); clear hown hgrow)
    go_ret
    obtain ⟨A, c, rfl⟩ := own_slice HV.out
    exact ⟨A, c, rfl, HV.out, HB1.out⟩
theorem nil22 (A : Option Addr) (n c : Nat) (w : World) : (binOp .eql 22 (.slice A n c) (.slice none 0 0)).run Try.prog w = .ok (.bool A.isNone) w := by exact Go.Lib.run_eql_slice_nil (h := Try.underlying22) ..
attribute [local go_sem high] nil22
theorem wl_clone3 {ops : Array Oper} {rest : List Oper} {o : Oper} {a : Act} {Q : Exit → Act → World → Prop} {W : World} {s x : Operand} {v : Value} {base : Nat} (m c : Nat) (ad : Addr) (ys : List Value) (hgd : o.guard = none) (ho : o.op = .call { callee := .builtin .append, args := #[s, x], argTypes := #[22, 22] })
    (hs : a.eval s = v) (hrow : W.ownsRow base 3 1 v 0 []) (hx : a.eval x = .slice (some ad) m c) (hl : ys.length = m) (hnews : ∀ j u, ys[j]? = some u → W.cell? (ad.add j) = some u) (h1 : ∀ x ∈ ys, x.oneCell' = true) (hn : m ≤ 1000000) (hb : base ≤ W.heap.size)
    (h : ∀ v' w', w'.ownsRow base 3 1 v' m ys → W.grownBy w' v.ownBlock → wpList Try.prog ops Q rest (a.put o.dst v') w') : wpList Try.prog ops Q (o :: rest) a W := by
  obtain ⟨i0, hi, hz0, hz1, hz2⟩ := info_parts info3
  refine wpList_append_own W hgd s x 22 ho base 3 i0 _ 1 8 Try.underlying22 hi hz0 hz1 hz2 rfl (by decide) v 0 [] hs hrow ad m c ys hx (by omega) hnews h1 (by simp only [maxLen]; omega) (by omega) hb (fun v' w' h1 h2 _ => h v' w' ?_ h2)
  rw [Nat.zero_add, List.nil_append] at h1
  exact h1
set_option maxRecDepth 100000 in
set_option maxHeartbeats 4000000 in
theorem clone3_is (v : Value) (n : Nat) (ys : List Value) (w : World) (h : w.ownsRow 0 3 1 v n ys) (h1 : ∀ x ∈ ys, x.oneCell' = true) (hl : n ≤ 1000000) :
    Calls Try.prog 23 #[v] w fun e w' => ∃ A c, e = .returned (.slice A n c) ∧ w'.ownsRow w.heap.size 3 1 (.slice A n c) n ys ∧ Below w.heap.size w w' := by
  rcases h.2 with ⟨rfl, h0⟩ | ⟨g, cap, cur, rfl, _⟩
  · subst h0
    obtain rfl : ys = [] := List.eq_nil_of_length_eq_zero (by have := h.1; simpa using this)
    clear h
    go_enter Try.func23, Try.ntmps23
    go_wp2_with fail
    go_ret
    exact ⟨none, 0, rfl, World.ownsRow_nil _ _ _ _, Below.refl _ _⟩
  · have HN := Aside0.mk (fun j u (hj : ys[j]? = some u) => own_cells h _ rfl j u hj)
    have hly : ys.length = n := by have := h.1; omega
    have HO := Aside0.mk (own_empty w 3 1)
    have H1 := Aside0.mk h1
    have HB := Aside0.mk ((Below.refl w.heap.size w).alloc (Nat.le_refl _) (.cells #[] 3 (0, 0)))
    clear h h1
    go_enter Try.func23, Try.ntmps23
    go_wp2_with ((with_reducible refine gate_dst (N := 7) rfl ?_); refine wl_clone3 n cap ⟨g, 0, none⟩ ys rfl rfl rfl HO.out rfl hly (fun j u hj => pw_cell_below HB.out (HN.out j u hj)) H1.out (by omega) (by simp) ?_; intro v' w1 hown hgrow; have HV := Aside0.mk hown; have HB1 := Aside0.mk (HB.out.grown hgrow (by simp) (fun k hk => Nat.le_of_eq (Option.some.inj (show some w.heap.size = some k from hk)))); clear hown hgrow)
    go_ret
    obtain ⟨A, c, rfl⟩ := own_slice HV.out
    exact ⟨A, c, rfl, HV.out, HB1.out⟩
theorem nil34 (A : Option Addr) (n c : Nat) (w : World) : (binOp .eql 34 (.slice A n c) (.slice none 0 0)).run Try.prog w = .ok (.bool A.isNone) w := by exact Go.Lib.run_eql_slice_nil (h := Try.underlying34) ..
attribute [local go_sem high] nil34
theorem wl_clone9 {ops : Array Oper} {rest : List Oper} {o : Oper} {a : Act} {Q : Exit → Act → World → Prop} {W : World} {s x : Operand} {v : Value} {base : Nat} (m c : Nat) (ad : Addr) (ys : List Value) (hgd : o.guard = none) (ho : o.op = .call { callee := .builtin .append, args := #[s, x], argTypes := #[34, 34] })
    (hs : a.eval s = v) (hrow : W.ownsRow base 9 1 v 0 []) (hx : a.eval x = .slice (some ad) m c) (hl : ys.length = m) (hnews : ∀ j u, ys[j]? = some u → W.cell? (ad.add j) = some u) (h1 : ∀ x ∈ ys, x.oneCell' = true) (hn : m ≤ 1000000) (hb : base ≤ W.heap.size)
    (h : ∀ v' w', w'.ownsRow base 9 1 v' m ys → W.grownBy w' v.ownBlock → wpList Try.prog ops Q rest (a.put o.dst v') w') : wpList Try.prog ops Q (o :: rest) a W := by
  obtain ⟨i0, hi, hz0, hz1, hz2⟩ := info_parts info9
  refine wpList_append_own W hgd s x 34 ho base 9 i0 _ 1 16 Try.underlying34 hi hz0 hz1 hz2 rfl (by decide) v 0 [] hs hrow ad m c ys hx (by omega) hnews h1 (by simp only [maxLen]; omega) (by omega) hb (fun v' w' h1 h2 _ => h v' w' ?_ h2)
  rw [Nat.zero_add, List.nil_append] at h1
  exact h1
set_option maxRecDepth 100000 in
set_option maxHeartbeats 4000000 in
theorem clone9_is (v : Value) (n : Nat) (ys : List Value) (w : World) (h : w.ownsRow 0 9 1 v n ys) (h1 : ∀ x ∈ ys, x.oneCell' = true) (hl : n ≤ 1000000) :
    Calls Try.prog 33 #[v] w fun e w' => ∃ A c, e = .returned (.slice A n c) ∧ w'.ownsRow w.heap.size 9 1 (.slice A n c) n ys ∧ Below w.heap.size w w' := by
  rcases h.2 with ⟨rfl, h0⟩ | ⟨g, cap, cur, rfl, _⟩
  · subst h0
    obtain rfl : ys = [] := List.eq_nil_of_length_eq_zero (by have := h.1; simpa using this)
    clear h
    go_enter Try.func33, Try.ntmps33
    go_wp2_with fail
    go_ret
    exact ⟨none, 0, rfl, World.ownsRow_nil _ _ _ _, Below.refl _ _⟩
  · have HN := Aside0.mk (fun j u (hj : ys[j]? = some u) => own_cells h _ rfl j u hj)
    have hly : ys.length = n := by have := h.1; omega
    have HO := Aside0.mk (own_empty w 9 1)
    have H1 := Aside0.mk h1
    have HB := Aside0.mk ((Below.refl w.heap.size w).alloc (Nat.le_refl _) (.cells #[] 9 (0, 0)))
    clear h h1
    go_enter Try.func33, Try.ntmps33
    go_wp2_with ((with_reducible refine gate_dst (N := 7) rfl ?_); refine wl_clone9 n cap ⟨g, 0, none⟩ ys rfl rfl rfl HO.out rfl hly (fun j u hj => pw_cell_below HB.out (HN.out j u hj)) H1.out (by omega) (by simp) ?_; intro v' w1 hown hgrow; have HV := Aside0.mk hown; have HB1 := Aside0.mk (HB.out.grown hgrow (by simp) (fun k hk => Nat.le_of_eq (Option.some.inj (show some w.heap.size = some k from hk)))); clear hown hgrow)
    go_ret
    obtain ⟨A, c, rfl⟩ := own_slice HV.out
    exact ⟨A, c, rfl, HV.out, HB1.out⟩
def cleanB (b : ByteArray) : Bool := b.data.toList.all fun c => decide (32 ≤ c.toNat) && decide (c.toNat ≤ 126)
theorem clean_l0 (s : ByteArray) (hl : s.size ≤ 9223372036854775807) : ∀ d i : Nat, i + d = s.size →
    Ev (fun k => page_clean.l0 k s (s.size : Int) (i : Int)) ((s.data.toList.drop i).all fun c => decide (32 ≤ c.toNat) && decide (c.toNat ≤ 126)) := by
  intro d
  induction d with
  | zero =>
    intro i hi
    rw [List.drop_of_length_le (by rw [data_length]; omega)]
    exact Ev.step (f := fun _ => some true) (fun k => by simp only [page_clean.l0]; rw [if_neg (by omega)]) (Ev.now _)
  | succ d ih =>
    intro i hi
    have hlt : i < s.data.toList.length := by rw [data_length]; omega
    have hw : wrap64 ((i : Int) + 1) = ((i + 1 : Nat) : Int) := by unfold wrap64; omega
    have hb : bt s (i : Int) = ((s.data.toList[i]'hlt).toNat : Int) := by
      rw [← bt_at s (i : Int) (by rw [data_length] at hlt; simpa using hlt)]
      simp [ByteArray.getElem_eq_getElem_data]
    rw [List.drop_eq_getElem_cons hlt, List.all_cons]
    by_cases h1 : bt s (i : Int) < 32
    · rw [decide_eq_false (by omega)]
      exact Ev.step (f := fun _ => some false) (fun k => by simp only [page_clean.l0]; rw [if_pos (by omega), if_pos (by omega), if_pos (by omega), if_pos h1]) (Ev.now _)
    · by_cases h2 : bt s (i : Int) > 126
      · rw [decide_eq_true (by omega), decide_eq_false (by omega)]
        exact Ev.step (f := fun _ => some false) (fun k => by simp only [page_clean.l0]; rw [if_pos (by omega), if_pos (by omega), if_pos (by omega), if_neg h1, if_pos h2]) (Ev.now _)
      · rw [decide_eq_true (by omega), decide_eq_true (by omega)]
        exact Ev.step (fun k => by simp only [page_clean.l0]; rw [if_pos (by omega), if_pos (by omega), if_pos (by omega), if_neg h1, if_neg h2, hw]) (ih (i + 1) (by omega))
theorem clean_is (s : ByteArray) (w : World) (hl : s.size ≤ 9223372036854775807) : Calls Try.prog 34 #[.string s] w fun e w' => e = .returned (.bool (cleanB s)) ∧ Below w.heap.size w w' := by
  have h := clean_l0 s hl s.size 0 (by omega)
  obtain ⟨k, hk⟩ := h.rounds
  exact (page_clean.calls k s _ w hk).mono fun e w' ⟨he, hd⟩ => ⟨he, hd.below⟩
theorem within_is (n a b : Int) (w : World) : Calls Try.prog 22 #[.int .i64 n, .int .i64 a, .int .i64 b] w fun e w' => e = .returned (.bool (decide (a ≤ n) && decide (n ≤ b))) ∧ Below w.heap.size w w' := by
  refine (page_within.calls n a b _ w ?_).mono fun e w' ⟨he, hd⟩ => ⟨he, hd.below⟩
  unfold page_within.f
  by_cases h : a ≤ n
  · rw [if_pos h, decide_eq_true h]; rfl
  · rw [if_neg h, decide_eq_false h]; rfl
set_option maxRecDepth 100000 in
theorem said_is (p : Nat) (b : ByteArray) (w : World) (hl : b.size ≤ 20000) : Calls Try.prog 24 #[.pointer (some ⟨p, 0, none⟩), .string b] w fun e w' => e = .returned (.int .i64 (if cleanB b = true then 0 else 1)) ∧ Below w.heap.size w w' := by
  have HC := Aside0.mk (fun W => clean_is b W (by omega))
  have q1 : ¬ ((b.size : Int) > 20000) := by omega
  have d1 : decide ((b.size : Int) > 20000) = false := decide_eq_false q1
  cases hc : cleanB b with
  | true =>
    rw [hc] at HC
    go_enter Try.func24, Try.ntmps24
    go_wp2_with fail
    refine (HC.out _).mono ?_
    rintro e w1 ⟨rfl, hb⟩
    have HB := Aside0.mk hb
    clear hb
    go_wp2_with fail
    go_ret
    exact ⟨rfl, HB.out⟩
  | false =>
    rw [hc] at HC
    go_enter Try.func24, Try.ntmps24
    go_wp2_with fail
    refine (HC.out _).mono ?_
    rintro e w1 ⟨rfl, hb⟩
    have HB := Aside0.mk hb
    clear hb
    go_wp2_with fail
    go_ret
    exact ⟨rfl, HB.out⟩
set_option maxRecDepth 100000 in
theorem asked_is (p : Nat) (n a b : Int) (w : World) (h : a ≤ n ∧ n ≤ b) : Calls Try.prog 28 #[.pointer (some ⟨p, 0, none⟩), .int .i64 n, .int .i64 a, .int .i64 b] w fun e w' => e = .returned (.int .i64 0) ∧ Below w.heap.size w w' := by
  have HC := Aside0.mk (fun W => within_is n a b W)
  rw [decide_eq_true h.1, decide_eq_true h.2] at HC
  clear h
  go_enter Try.func28, Try.ntmps28
  go_wp2_with fail
  refine (HC.out _).mono ?_
  rintro e w1 ⟨rfl, hb⟩
  have HB := Aside0.mk hb
  clear hb
  go_wp2_with fail
  go_ret
  exact ⟨rfl, HB.out⟩
end Go.Proofs.Ytjamaccblokfkaa.P

-- from the text He
namespace Go.Proofs.Ytjamaccblokfkaa.P
open Go.RowKit Go.Proofs.YtjamaccblokfkaaW.PrintWords Go.Proofs.YtjamaccblokfkaaW.PrintLast Go.Proofs.YtjamaccblokfkaaW.PrintMore
set_option linter.unusedVariables false
set_option linter.unusedSimpArgs false
theorem own_below {w w' : World} {e : TypeId} {v : Value} {n : Nat} {xs : List Value} (h : w.ownsRow 0 e 1 v n xs) (hb : Below w.heap.size w w') : w'.ownsRow 0 e 1 v n xs := ownsRow_kept h (fun k e => hb.block k (h.lt k e).2)
theorem oneCell_nums (l : List Int) : ∀ x ∈ nums .u8 l, x.oneCell' = true := by
  intro x hx
  simp only [nums, List.mem_map] at hx
  obtain ⟨a, _, rfl⟩ := hx
  rfl
set_option maxRecDepth 100000 in
set_option maxHeartbeats 8000000 in
theorem moved_is (p : Nat) (fn : FuncId) (cap : Array Value) (s s' : Pg) (F : Nat → Prop) (w0 w : World) (h : PgAt F w0 w p s) (hent : ∀ w, (callFunc fn cap).run Try.prog w = .ok (.enter fn cap) w)
    (hclo : ∀ F' wb W, Below w.heap.size w W → PgAt F' wb W p s → Calls Try.prog fn cap W fun e W' => e = .returned (.tuple #[]) ∧ PgAt F' wb W' p s') (hL : s'.L.length ≤ 19999) (hm : s.now.length ≤ 1000000) :
    Calls Try.prog 25 #[.pointer (some ⟨p, 0, none⟩), .func (.func fn) #[] cap] w fun e w' => e = .returned (.tuple #[.int .i64 (if (s'.due && !s.due) = true then 1 else 0), .int .i64 0]) ∧ PgAt F w0 w' p s' := by
  obtain ⟨rr, hr⟩ : ∃ r : Int, (if (s'.due && !s.due) = true then 1 else 0) = r := ⟨_, rfl⟩
  rw [hr]
  have HRR := Aside0.mk hr
  clear hr
  have HCLO := Aside0.mk hclo
  have HP := Aside0.mk h
  obtain ⟨⟨g, rv, tv, nv, hM, hF⟩, hT⟩ := h
  obtain ⟨A, c, hrv⟩ := own_slice hM.row
  subst hrv
  obtain ⟨An, cn, hnv⟩ := own_slice hM.now
  subst hnv
  obtain ⟨At, ct, htv⟩ := own_slice hM.tabs
  subst htv
  have HNOW := Aside0.mk hM.now
  have HH := Aside0.mk hM.head
  have HG := Aside0.mk hM.pages
  clear hM hF hT hclo
  obtain ⟨ln, col, sz, rows, tabs, L, now, put, due⟩ := s
  dsimp only at HH HG HNOW HRR hm ⊢
  generalize hn : L.length = n at HH HG
  generalize hnow : now.length = m at HH HNOW hm
  generalize htb : tabs.length = tn at HH
  have hw0 : wrap64 0 = 0 := by simp [wrap64]
  go_enter Try.func25, Try.ntmps25
  go_wp2_with fail
  refine start_ (n := 18) (S := fun W => Below w.heap.size w W) (ds := []) #[false, false, false, false, false, false, false, false, false, false, false, false, false, false, false, false, false, false] (by kernel_rfl) rfl rfl (Below.refl _ _).drew (fun hHeld => ?_)
  generalize w.drew = w1 at hHeld ⊢
  refine pure_ (i := 0) (N := some 8) (v := ?_) (a' := ?_) #[true, false, false, false, false, false, false, false, false, false, false, false, false, false, false, false, false, false] rfl rfl (by kernel_rfl) (fun _ _ _ h => h) (Or.inl ⟨by rfl, ?_⟩) ?_ ?_
  rotate_left
  · intro w_
    go_simp
    with_reducible rfl
  rotate_left
  · simp only [Act.put, List.setIfInBounds_toArray, List.set_cons_zero, List.set_cons_succ, i64_w, i32_w]
    rfl
  refine pure_ (i := 1) (N := some 9) (v := ?_) (a' := ?_) #[true, true, false, false, false, false, false, false, false, false, false, false, false, false, false, false, false, false] rfl rfl (by kernel_rfl) (fun _ _ _ h => h) (Or.inl ⟨by rfl, ?_⟩) ?_ ?_
  rotate_left
  · intro w_
    go_simp
    with_reducible rfl
  rotate_left
  · simp only [Act.put, List.setIfInBounds_toArray, List.set_cons_zero, List.set_cons_succ, i64_w, i32_w]
    rfl
  refine take_ (i := 2) (N := some 10) (v := ?_) (a' := ?_) #[true, true, true, false, false, false, false, false, false, false, false, false, false, false, false, false, false, false] rfl rfl (by kernel_rfl) (fun _ _ _ h => h) (Or.inl ⟨by rfl, ?_⟩) hHeld ?_ ?_
  rotate_left
  · rintro w_ hs_
    have s0 := (blk_cell (blk_below HH.out hs_) 0).trans rfl
    have s1 := (blk_cell (blk_below HH.out hs_) 1).trans rfl
    have s2 := (blk_cell (blk_below HH.out hs_) 2).trans rfl
    have s3 := (blk_cell (blk_below HH.out hs_) 3).trans rfl
    have s4 := (blk_cell (blk_below HH.out hs_) 4).trans rfl
    have s5 := (blk_cell (blk_below HH.out hs_) 5).trans rfl
    have s6 := (blk_cell (blk_below HH.out hs_) 6).trans rfl
    have s7 := (blk_cell (blk_below HH.out hs_) 7).trans rfl
    have s8 := (blk_cell (blk_below HH.out hs_) 8).trans rfl
    have s9 := (blk_cell (blk_below HH.out hs_) 9).trans rfl
    go_simp
    with_reducible rfl
  rotate_left
  · simp only [Act.put, List.setIfInBounds_toArray, List.set_cons_zero, List.set_cons_succ, i64_w, i32_w]
    rfl
  refine pure_ (i := 3) (N := some 11) (v := ?_) (a' := ?_) #[true, true, true, true, false, false, false, false, false, false, false, false, false, false, false, false, false, false] rfl rfl (by kernel_rfl) (fun _ _ _ h => h) (Or.inl ⟨by rfl, ?_⟩) ?_ ?_
  rotate_left
  · intro w_
    go_simp
    with_reducible rfl
  rotate_left
  · simp only [Act.put, List.setIfInBounds_toArray, List.set_cons_zero, List.set_cons_succ, i64_w, i32_w]
    rfl
  refine pure_ (i := 4) (N := some 12) (v := ?_) (a' := ?_) #[true, true, true, true, true, false, false, false, false, false, false, false, false, false, false, false, false, false] rfl rfl (by kernel_rfl) (fun _ _ _ h => h) (Or.inl ⟨by rfl, ?_⟩) ?_ ?_
  rotate_left
  · intro w_
    go_simp
    with_reducible rfl
  rotate_left
  · simp only [Act.put, List.setIfInBounds_toArray, List.set_cons_zero, List.set_cons_succ, i64_w, i32_w]
    rfl
  refine pure_ (i := 5) (N := some 13) (v := ?_) (a' := ?_) #[true, true, true, true, true, true, false, false, false, false, false, false, false, false, false, false, false, false] rfl rfl (by kernel_rfl) (fun _ _ _ h => h) (Or.inl ⟨by rfl, ?_⟩) ?_ ?_
  rotate_left
  · intro w_
    go_simp
    with_reducible rfl
  rotate_left
  · simp only [Act.put, List.setIfInBounds_toArray, List.set_cons_zero, List.set_cons_succ, i64_w, i32_w]
    rfl
  refine take_ (i := 6) (N := some 14) (v := ?_) (a' := ?_) #[true, true, true, true, true, true, true, false, false, false, false, false, false, false, false, false, false, false] rfl rfl (by kernel_rfl) (fun _ _ _ h => h) (Or.inl ⟨by rfl, ?_⟩) hHeld ?_ ?_
  rotate_left
  · rintro w_ hs_
    have s5 := (blk_cell (blk_below HH.out hs_) 5).trans rfl
    go_simp
    with_reducible rfl
  rotate_left
  · simp only [Act.put, List.setIfInBounds_toArray, List.set_cons_zero, List.set_cons_succ, i64_w, i32_w]
    rfl
  refine pure_ (i := 7) (N := some 15) (v := ?_) (a' := ?_) #[true, true, true, true, true, true, true, true, false, false, false, false, false, false, false, false, false, false] rfl rfl (by kernel_rfl) (fun _ _ _ h => h) (Or.inl ⟨by rfl, ?_⟩) ?_ ?_
  rotate_left
  · intro w_
    go_simp
    with_reducible rfl
  rotate_left
  · simp only [Act.put, List.setIfInBounds_toArray, List.set_cons_zero, List.set_cons_succ, i64_w, i32_w]
    rfl
  refine pure_ (i := 8) (N := some 16) (v := ?_) (a' := ?_) #[true, true, true, true, true, true, true, true, true, false, false, false, false, false, false, false, false, false] rfl rfl (by kernel_rfl) (fun _ _ _ h => h) (Or.inl ⟨by rfl, ?_⟩) ?_ ?_
  rotate_left
  · intro w_
    go_simp
    with_reducible rfl
  rotate_left
  · simp only [Act.put, List.setIfInBounds_toArray, List.set_cons_zero, List.set_cons_succ, i64_w, i32_w]
    rfl
  refine pure_ (i := 9) (N := some 17) (v := ?_) (a' := ?_) #[true, true, true, true, true, true, true, true, true, true, false, false, false, false, false, false, false, false] rfl rfl (by kernel_rfl) (fun _ _ _ h => h) (Or.inl ⟨by rfl, ?_⟩) ?_ ?_
  rotate_left
  · intro w_
    go_simp
    with_reducible rfl
  rotate_left
  · simp only [Act.put, List.setIfInBounds_toArray, List.set_cons_zero, List.set_cons_succ, i64_w, i32_w]
    rfl
  refine take_ (i := 10) (N := some 18) (v := ?_) (a' := ?_) #[true, true, true, true, true, true, true, true, true, true, true, false, false, false, false, false, false, false] rfl rfl (by kernel_rfl) (fun _ _ _ h => h) (Or.inl ⟨by rfl, ?_⟩) hHeld ?_ ?_
  rotate_left
  · rintro w_ hs_
    have s5 := (blk_cell (blk_below HH.out hs_) 5).trans rfl
    go_simp
    with_reducible rfl
  rotate_left
  · simp only [Act.put, List.setIfInBounds_toArray, List.set_cons_zero, List.set_cons_succ, i64_w, i32_w]
    rfl
  refine pure_ (i := 11) (N := some 19) (v := ?_) (a' := ?_) #[true, true, true, true, true, true, true, true, true, true, true, true, false, false, false, false, false, false] rfl rfl (by kernel_rfl) (fun _ _ _ h => h) (Or.inl ⟨by rfl, ?_⟩) ?_ ?_
  rotate_left
  · intro w_
    go_simp
    with_reducible rfl
  rotate_left
  · simp only [Act.put, List.setIfInBounds_toArray, List.set_cons_zero, List.set_cons_succ, i64_w, i32_w]
    rfl
  refine pure_ (i := 12) (N := some 20) (v := ?_) (a' := ?_) #[true, true, true, true, true, true, true, true, true, true, true, true, true, false, false, false, false, false] rfl rfl (by kernel_rfl) (fun _ _ _ h => h) (Or.inl ⟨by rfl, ?_⟩) ?_ ?_
  rotate_left
  · intro w_
    go_simp
    with_reducible rfl
  rotate_left
  · simp only [Act.put, List.setIfInBounds_toArray, List.set_cons_zero, List.set_cons_succ, i64_w, i32_w]
    rfl
  refine pure_ (i := 13) (N := some 21) (v := ?_) (a' := ?_) #[true, true, true, true, true, true, true, true, true, true, true, true, true, true, false, false, false, false] rfl rfl (by kernel_rfl) (fun _ _ _ h => h) (Or.inl ⟨by rfl, ?_⟩) ?_ ?_
  rotate_left
  · intro w_
    go_simp
    with_reducible rfl
  rotate_left
  · simp only [Act.put, List.setIfInBounds_toArray, List.set_cons_zero, List.set_cons_succ, i64_w, i32_w]
    rfl
  refine take_ (i := 14) (N := some 22) (v := ?_) (a' := ?_) #[true, true, true, true, true, true, true, true, true, true, true, true, true, true, true, false, false, false] rfl rfl (by kernel_rfl) (fun _ _ _ h => h) (Or.inl ⟨by rfl, ?_⟩) hHeld ?_ ?_
  rotate_left
  · rintro w_ hs_
    have s5 := (blk_cell (blk_below HG.out hs_) 0).trans rfl
    go_simp
    with_reducible rfl
  rotate_left
  · simp only [Act.put, List.setIfInBounds_toArray, List.set_cons_zero, List.set_cons_succ, i64_w, i32_w]
    rfl
  refine one_ (i := 15) (N := some 6) #[true, true, true, true, true, true, true, true, true, true, true, true, true, true, true, true, false, false] rfl rfl (by kernel_rfl) (by decide) (fun K' hK => ?_)
  refine value_ (w1 := w1.alloc (.cells #[.int .i64 0, .int .i64 0, .int .i64 0, .int .i64 0, .slice none 0 0, .slice none 0 0, .int .i64 0, .slice none 0 0, .bool false, .bool false] 50 (0, 0))) (v := .pointer (some ⟨w1.heap.size, 0, none⟩)) (by rfl) rfl ?_ ?_
  · go_simp
  have HN := Aside0.mk (blk_new w1 (.cells #[.int .i64 0, .int .i64 0, .int .i64 0, .int .i64 0, .slice none 0 0, .slice none 0 0, .int .i64 0, .slice none 0 0, .bool false, .bool false] 50 (0, 0)))
  have hb5 := (Below.refl w1.heap.size w1).alloc (Nat.le_refl _) (.cells #[.int .i64 0, .int .i64 0, .int .i64 0, .int .i64 0, .slice none 0 0, .slice none 0 0, .int .i64 0, .slice none 0 0, .bool false, .bool false] 50 (0, 0))
  have hlt0 := hHeld.size
  refine hK.out _ _ (hHeld.trans (hb5.mono hHeld.size)) (fun hHeld => ?_)
  clear hK K' hb5
  generalize w1.alloc (.cells #[.int .i64 0, .int .i64 0, .int .i64 0, .int .i64 0, .slice none 0 0, .slice none 0 0, .int .i64 0, .slice none 0 0, .bool false, .bool false] 50 (0, 0)) = w2 at hHeld HN ⊢
  generalize w1.heap.size = b0 at HN hlt0 ⊢
  refine norm_ (a' := ?_) ?_ ?_
  rotate_left
  · show Act.put _ (some 6) _ = _
    simp only [Act.put, List.setIfInBounds_toArray, List.set_cons_zero, List.set_cons_succ, i64_w, i32_w]
    rfl
  have n0 := HN.out
  have y0 := (blk_cell n0 0).trans rfl
  have z0 := blk_frozen n0 0
  have y1 := (blk_cell n0 1).trans rfl
  have z1 := blk_frozen n0 1
  have y2 := (blk_cell n0 2).trans rfl
  have z2 := blk_frozen n0 2
  have y3 := (blk_cell n0 3).trans rfl
  have z3 := blk_frozen n0 3
  have y4 := (blk_cell n0 4).trans rfl
  have z4 := blk_frozen n0 4
  have y5 := (blk_cell n0 5).trans rfl
  have z5 := blk_frozen n0 5
  have y6 := (blk_cell n0 6).trans rfl
  have z6 := blk_frozen n0 6
  have y7 := (blk_cell n0 7).trans rfl
  have z7 := blk_frozen n0 7
  have y8 := (blk_cell n0 8).trans rfl
  have z8 := blk_frozen n0 8
  have y9 := (blk_cell n0 9).trans rfl
  have z9 := blk_frozen n0 9
  clear n0
  refine one_ (i := 16) (N := none) #[true, true, true, true, true, true, true, true, true, true, true, true, true, true, true, true, true, false] rfl rfl (by kernel_rfl) (by decide) (fun K' hK => ?_)
  refine skip_ (w1 := ?_) (by rfl) rfl ?_ ?_
  rotate_left
  · go_simp
    rfl
  have hb3 := ((((((((((hHeld.setCell (p := ⟨b0, 0, none⟩) hlt0 (.int .i64 ln)).setCell (p := ⟨b0, 1, none⟩) hlt0 (.int .i64 col)).setCell (p := ⟨b0, 2, none⟩) hlt0 (.int .i64 sz)).setCell (p := ⟨b0, 3, none⟩) hlt0 (.int .i64 rows)).setCell (p := ⟨b0, 4, none⟩) hlt0 (.slice At tn ct)).setCell (p := ⟨b0, 5, none⟩) hlt0 (.slice (some ⟨g, 0, none⟩) 1 1)).setCell (p := ⟨b0, 6, none⟩) hlt0 (.int .i64 (n : Int))).setCell (p := ⟨b0, 7, none⟩) hlt0 (.slice An m cn)).setCell (p := ⟨b0, 8, none⟩) hlt0 (.bool put)).setCell (p := ⟨b0, 9, none⟩) hlt0 (.bool due))
  have hq0 : (w2.setCell ⟨b0, 0, none⟩ (.int .i64 ln)).heap[b0]? = some (.cells #[.int .i64 ln, .int .i64 0, .int .i64 0, .int .i64 0, .slice none 0 0, .slice none 0 0, .int .i64 0, .slice none 0 0, .bool false, .bool false] 50 (0, 0)) := blk_put HN.out 0 (.int .i64 ln) rfl
  have hq1 : ((w2.setCell ⟨b0, 0, none⟩ (.int .i64 ln)).setCell ⟨b0, 1, none⟩ (.int .i64 col)).heap[b0]? = some (.cells #[.int .i64 ln, .int .i64 col, .int .i64 0, .int .i64 0, .slice none 0 0, .slice none 0 0, .int .i64 0, .slice none 0 0, .bool false, .bool false] 50 (0, 0)) := blk_put hq0 1 (.int .i64 col) rfl
  have hq2 : (((w2.setCell ⟨b0, 0, none⟩ (.int .i64 ln)).setCell ⟨b0, 1, none⟩ (.int .i64 col)).setCell ⟨b0, 2, none⟩ (.int .i64 sz)).heap[b0]? = some (.cells #[.int .i64 ln, .int .i64 col, .int .i64 sz, .int .i64 0, .slice none 0 0, .slice none 0 0, .int .i64 0, .slice none 0 0, .bool false, .bool false] 50 (0, 0)) := blk_put hq1 2 (.int .i64 sz) rfl
  have hq3 : ((((w2.setCell ⟨b0, 0, none⟩ (.int .i64 ln)).setCell ⟨b0, 1, none⟩ (.int .i64 col)).setCell ⟨b0, 2, none⟩ (.int .i64 sz)).setCell ⟨b0, 3, none⟩ (.int .i64 rows)).heap[b0]? = some (.cells #[.int .i64 ln, .int .i64 col, .int .i64 sz, .int .i64 rows, .slice none 0 0, .slice none 0 0, .int .i64 0, .slice none 0 0, .bool false, .bool false] 50 (0, 0)) := blk_put hq2 3 (.int .i64 rows) rfl
  have hq4 : (((((w2.setCell ⟨b0, 0, none⟩ (.int .i64 ln)).setCell ⟨b0, 1, none⟩ (.int .i64 col)).setCell ⟨b0, 2, none⟩ (.int .i64 sz)).setCell ⟨b0, 3, none⟩ (.int .i64 rows)).setCell ⟨b0, 4, none⟩ (.slice At tn ct)).heap[b0]? = some (.cells #[.int .i64 ln, .int .i64 col, .int .i64 sz, .int .i64 rows, .slice At tn ct, .slice none 0 0, .int .i64 0, .slice none 0 0, .bool false, .bool false] 50 (0, 0)) := blk_put hq3 4 (.slice At tn ct) rfl
  have hq5 : ((((((w2.setCell ⟨b0, 0, none⟩ (.int .i64 ln)).setCell ⟨b0, 1, none⟩ (.int .i64 col)).setCell ⟨b0, 2, none⟩ (.int .i64 sz)).setCell ⟨b0, 3, none⟩ (.int .i64 rows)).setCell ⟨b0, 4, none⟩ (.slice At tn ct)).setCell ⟨b0, 5, none⟩ (.slice (some ⟨g, 0, none⟩) 1 1)).heap[b0]? = some (.cells #[.int .i64 ln, .int .i64 col, .int .i64 sz, .int .i64 rows, .slice At tn ct, .slice (some ⟨g, 0, none⟩) 1 1, .int .i64 0, .slice none 0 0, .bool false, .bool false] 50 (0, 0)) := blk_put hq4 5 (.slice (some ⟨g, 0, none⟩) 1 1) rfl
  have hq6 : (((((((w2.setCell ⟨b0, 0, none⟩ (.int .i64 ln)).setCell ⟨b0, 1, none⟩ (.int .i64 col)).setCell ⟨b0, 2, none⟩ (.int .i64 sz)).setCell ⟨b0, 3, none⟩ (.int .i64 rows)).setCell ⟨b0, 4, none⟩ (.slice At tn ct)).setCell ⟨b0, 5, none⟩ (.slice (some ⟨g, 0, none⟩) 1 1)).setCell ⟨b0, 6, none⟩ (.int .i64 (n : Int))).heap[b0]? = some (.cells #[.int .i64 ln, .int .i64 col, .int .i64 sz, .int .i64 rows, .slice At tn ct, .slice (some ⟨g, 0, none⟩) 1 1, .int .i64 (n : Int), .slice none 0 0, .bool false, .bool false] 50 (0, 0)) := blk_put hq5 6 (.int .i64 (n : Int)) rfl
  have hq7 : ((((((((w2.setCell ⟨b0, 0, none⟩ (.int .i64 ln)).setCell ⟨b0, 1, none⟩ (.int .i64 col)).setCell ⟨b0, 2, none⟩ (.int .i64 sz)).setCell ⟨b0, 3, none⟩ (.int .i64 rows)).setCell ⟨b0, 4, none⟩ (.slice At tn ct)).setCell ⟨b0, 5, none⟩ (.slice (some ⟨g, 0, none⟩) 1 1)).setCell ⟨b0, 6, none⟩ (.int .i64 (n : Int))).setCell ⟨b0, 7, none⟩ (.slice An m cn)).heap[b0]? = some (.cells #[.int .i64 ln, .int .i64 col, .int .i64 sz, .int .i64 rows, .slice At tn ct, .slice (some ⟨g, 0, none⟩) 1 1, .int .i64 (n : Int), .slice An m cn, .bool false, .bool false] 50 (0, 0)) := blk_put hq6 7 (.slice An m cn) rfl
  have hq8 : (((((((((w2.setCell ⟨b0, 0, none⟩ (.int .i64 ln)).setCell ⟨b0, 1, none⟩ (.int .i64 col)).setCell ⟨b0, 2, none⟩ (.int .i64 sz)).setCell ⟨b0, 3, none⟩ (.int .i64 rows)).setCell ⟨b0, 4, none⟩ (.slice At tn ct)).setCell ⟨b0, 5, none⟩ (.slice (some ⟨g, 0, none⟩) 1 1)).setCell ⟨b0, 6, none⟩ (.int .i64 (n : Int))).setCell ⟨b0, 7, none⟩ (.slice An m cn)).setCell ⟨b0, 8, none⟩ (.bool put)).heap[b0]? = some (.cells #[.int .i64 ln, .int .i64 col, .int .i64 sz, .int .i64 rows, .slice At tn ct, .slice (some ⟨g, 0, none⟩) 1 1, .int .i64 (n : Int), .slice An m cn, .bool put, .bool false] 50 (0, 0)) := blk_put hq7 8 (.bool put) rfl
  have ho3 : ((((((((((w2.setCell ⟨b0, 0, none⟩ (.int .i64 ln)).setCell ⟨b0, 1, none⟩ (.int .i64 col)).setCell ⟨b0, 2, none⟩ (.int .i64 sz)).setCell ⟨b0, 3, none⟩ (.int .i64 rows)).setCell ⟨b0, 4, none⟩ (.slice At tn ct)).setCell ⟨b0, 5, none⟩ (.slice (some ⟨g, 0, none⟩) 1 1)).setCell ⟨b0, 6, none⟩ (.int .i64 (n : Int))).setCell ⟨b0, 7, none⟩ (.slice An m cn)).setCell ⟨b0, 8, none⟩ (.bool put)).setCell ⟨b0, 9, none⟩ (.bool due)).heap[b0]? = some (.cells #[.int .i64 ln, .int .i64 col, .int .i64 sz, .int .i64 rows, .slice At tn ct, .slice (some ⟨g, 0, none⟩) 1 1, .int .i64 (n : Int), .slice An m cn, .bool put, .bool due] 50 (0, 0)) := blk_put hq8 9 (.bool due) rfl
  refine hK.out _ _ hb3 (fun hHeld => ?_)
  clear hq0 hq1 hq2 hq3 hq4 hq5 hq6 hq7 hq8
  clear hK K' y0 z0 y1 z1 y2 z2 y3 z3 y4 z4 y5 z5 y6 z6 y7 z7 y8 z8 y9 z9 HN
  generalize ((((((((((w2.setCell ⟨b0, 0, none⟩ (.int .i64 ln)).setCell ⟨b0, 1, none⟩ (.int .i64 col)).setCell ⟨b0, 2, none⟩ (.int .i64 sz)).setCell ⟨b0, 3, none⟩ (.int .i64 rows)).setCell ⟨b0, 4, none⟩ (.slice At tn ct)).setCell ⟨b0, 5, none⟩ (.slice (some ⟨g, 0, none⟩) 1 1)).setCell ⟨b0, 6, none⟩ (.int .i64 (n : Int))).setCell ⟨b0, 7, none⟩ (.slice An m cn)).setCell ⟨b0, 8, none⟩ (.bool put)).setCell ⟨b0, 9, none⟩ (.bool due)) = w3 at hHeld hb3 ho3 ⊢
  refine pure_ (i := 17) (N := some 7) (v := ?_) (a' := ?_) #[true, true, true, true, true, true, true, true, true, true, true, true, true, true, true, true, true, true] rfl rfl (by kernel_rfl) (fun _ _ _ h => h) (Or.inl ⟨by rfl, ?_⟩) ?_ ?_
  rotate_left
  · intro w_
    go_simp
    with_reducible rfl
  rotate_left
  · simp only [Act.put, List.setIfInBounds_toArray, List.set_cons_zero, List.set_cons_succ, i64_w, i32_w]
    rfl
  refine done_ (by kernel_rfl) ?_
  have HB3 := Aside0.mk hb3
  have HO3 := Aside0.mk ho3
  have HLT := Aside0.mk hlt0
  clear hHeld hb3 ho3 hlt0
  have k7 := (blk_cell (blk_below HH.out HB3.out) 7).trans rfl
  go_wp2_with fail
  refine (clone5_is (.slice An m cn) m (nums .u8 now) w3 (own_below HNOW.out HB3.out) (oneCell_nums now) hm).mono ?_
  rintro e w4 ⟨A4, c4, rfl, hown, hb⟩
  clear hown k7
  have HB4 := Aside0.mk (HB3.out.trans (hb.mono HB3.out.size))
  have ho4 := blk_below HO3.out hb
  have y7 := (blk_cell ho4 7).trans rfl
  have z7 := blk_frozen ho4 7
  have HO4 := Aside0.mk ho4
  clear hb ho4 HB3 HO3
  go_wp2_with fail
  have HO5 := Aside0.mk (show (w4.setCell ⟨b0, 7, none⟩ (.slice A4 m c4)).heap[b0]? = some (.cells #[.int .i64 ln, .int .i64 col, .int .i64 sz, .int .i64 rows, (.slice At tn ct), .slice (some ⟨g, 0, none⟩) 1 1, .int .i64 (n : Int), .slice A4 m c4, .bool put, .bool due] 50 (0, 0)) from blk_put HO4.out 7 (.slice A4 m c4) rfl)
  have HB5 := Aside0.mk (HB4.out.setCell (p := ⟨b0, 7, none⟩) HLT.out (.slice A4 m c4))
  clear y7 z7 HO4 HB4
  generalize w4.setCell ⟨b0, 7, none⟩ (.slice A4 m c4) = w5 at HO5 HB5 ⊢
  obtain ⟨F1, hP1, hfree, hback⟩ := (HP.out.step HB5.out).enter
  have HFR := Aside0.mk (hfree b0 (Free.new HP.out HB5.out HLT.out (blk_lt' HO5.out)))
  have HBK := Aside0.mk hback
  clear hfree hback
  refine (HCLO.out F1 w5 w5 HB5.out hP1).mono ?_
  rintro e w6 ⟨rfl, hP6⟩
  have HP6 := Aside0.mk hP6
  have HO6 := Aside0.mk (hP6.stays HFR.out HO5.out)
  clear hP1 hP6 HO5 HB5 HCLO HFR
  go_wp2_with fail
  have htot := total_is p s' F1 w5 w6 HP6.out (by omega)
  have hx : (s'.L.length : Int) + (if s'.put = true then 1 else 0) ≤ 20000 := by split <;> omega
  generalize (s'.L.length : Int) + (if s'.put = true then 1 else 0) = x at htot hx
  refine htot.mono ?_
  rintro e w7 ⟨rfl, hb7⟩
  have HP7 := Aside0.mk (HP6.out.step hb7)
  have HO7 := Aside0.mk (blk_below HO6.out hb7)
  clear htot hb7 HP6 HO6
  obtain ⟨tv7, g7, A7, c7, HH7⟩ := HP7.out.open_
  have q1 : ¬ (x > 20000) := by omega
  have d1 : decide (x > 20000) = false := decide_eq_false q1
  have k5 := (blk_cell HH7.out 5).trans rfl
  have k9 := (blk_cell HH7.out 9).trans rfl
  have o9 := (blk_cell HO7.out 9).trans rfl
  have HFIN := Aside0.mk (HBK.out w7 s' HP7.out)
  clear HH7 HO7 HP7 HBK
  cases hd1 : s'.due <;> cases due
  all_goals (rw [hd1] at k9; go_wp2_with fail; go_ret2; exact ⟨by rw [← HRR.out, hd1]; rfl, HFIN.out⟩)
end Go.Proofs.Ytjamaccblokfkaa.P

-- from the text Hf
namespace Go.Proofs.Ytjamaccblokfkaa.P
open Go.RowKit Go.Proofs.YtjamaccblokfkaaW.PrintWords Go.Proofs.YtjamaccblokfkaaW.PrintLast Go.Proofs.YtjamaccblokfkaaW.PrintMore
set_option linter.unusedVariables false
set_option linter.unusedSimpArgs false
/-- What Item's inner closure reads. -/
theorem tabc_is (p bp : Nat) (t col : Int) (W : World) (hb : W.heap[bp]? = some (.cells #[.pointer (some ⟨p, 0, none⟩)] 24 (0, 0))) (hc : W.cell? ⟨p, 1, none⟩ = some (.int .i64 col)) :
    Calls Try.prog 41 #[.int .i64 t, .pointer (some ⟨bp, 0, none⟩)] W fun e w' => e = .returned (.bool (decide (t ≥ col))) ∧ Below W.heap.size W w' := by
  have c0 := (blk_cell hb 0).trans rfl
  clear hb
  go_enter Try.func41, Try.ntmps41
  go_wp2_with fail
  go_ret
  exact ⟨rfl, Below.refl _ _⟩
set_option maxRecDepth 100000 in
set_option maxHeartbeats 4000000 in
theorem index_is (p bp : Nat) (At : Option Addr) (ct : Nat) (tabs : List Int) (col : Int) (i : Nat) (w : World) (hi : i < tabs.length) (hlt : ∀ j, j < i → tabs.getD j 0 < col) (hge : tabs.getD i 0 ≥ col) (hn : tabs.length ≤ 1000)
    (hown : w.ownsRow 0 3 1 (.slice At tabs.length ct) tabs.length (nums .i64 tabs)) (hb : w.heap[bp]? = some (.cells #[.pointer (some ⟨p, 0, none⟩)] 24 (0, 0))) (hc : w.cell? ⟨p, 1, none⟩ = some (.int .i64 col)) :
    Calls Try.prog 40 #[.slice At tabs.length ct, .func (.func 41) #[] #[.pointer (some ⟨bp, 0, none⟩)]] w fun e w' => e = .returned (.int .i64 (i : Int)) ∧ Below w.heap.size w w' := by
  obtain ⟨ad, hat⟩ : ∃ ad, At = some ad := by
    cases At with
    | none => have := (own_none hown).1; omega
    | some ad => exact ⟨ad, rfl⟩
  subst hat
  have HC := Aside0.mk (fun (k : Nat) (hk : k < tabs.length) W (hW : Below w.heap.size w W) => pw_cell_below hW (own_cells hown ad rfl k (.int .i64 (tabs.getD k 0)) (by simp [nums, hk])))
  have HT := Aside0.mk (fun (t : Int) W (hW : Below w.heap.size w W) => tabc_is p bp t col W (blk_below hb hW) (pw_cell_below hW hc))
  have HL := Aside0.mk hlt
  have HG := Aside0.mk hge
  clear hlt hge hown hb hc
  generalize tabs.length = n at *
  go_enter Try.func40, Try.ntmps40
  go_wp2_with fail
  go_loopw [5, 8] (fun _ v wr => ∃ k : Nat, k ≤ i ∧ v = .int .i64 (k : Int) ∧ Aside0 (Below w.heap.size w wr)) (fun _ v _ => n - (intOf v).toNat)
  case atStart => exact ⟨0, Nat.zero_le _, rfl, ⟨Below.refl _ _⟩⟩
  case round =>
    obtain ⟨k, hk, rfl, HB⟩ := hrel
    have hwk : wrap64 ((k : Int) + 1) = ((k + 1 : Nat) : Int) := by unfold wrap64; omega
    have h0 : (0 : Int) ≤ (k : Int) := by omega
    have q1 : (k : Int) < (n : Int) := by omega
    have d1 : decide ((k : Int) < (n : Int)) = true := decide_eq_true q1
    have hcell := HC.out k (by omega) wr HB.out
    generalize ht : tabs.getD k 0 = t at hcell
    have HT0 := Aside0.mk ht
    clear ht
    go_wp2_with fail
    refine (HT.out t wr HB.out).mono ?_
    rintro e w1 ⟨rfl, hb1⟩
    have HB1 := Aside0.mk (HB.out.trans (hb1.mono HB.out.size))
    clear hb1 hcell
    by_cases hki : k < i
    · have d2 : decide (t ≥ col) = false := decide_eq_false (by have := HL.out k hki; have := HT0.out; omega)
      rw [d2]
      go_wp2_with fail
      exact ⟨⟨k + 1, hki, rfl, HB1⟩, by simp [intOf]; omega⟩
    · obtain rfl : k = i := by omega
      have d2 : decide (t ≥ col) = true := decide_eq_true (by have := HG.out; have := HT0.out; omega)
      rw [d2]
      go_wp2_with fail
      go_ret
      exact ⟨rfl, HB1.out⟩
def pSkip (s : Pg) : Nat → Pg
  | 0 => s
  | k + 1 => pEnd (pSkip s k)
theorem Ok.skip {m : Nat} {s : Pg} (h : Ok m s) : ∀ k, Ok (m + k) (pSkip s k)
  | 0 => h
  | k + 1 => (h.skip k).end_
set_option maxRecDepth 100000 in
set_option maxHeartbeats 4000000 in
theorem skipc_any (p bp bn : Nat) (f : Nat → Pg) (n : Nat) (F : Nat → Prop) (w0 w : World) (h : PgAt F w0 w p (f 0)) (hn : 1 ≤ n) (hm : n ≤ 1000)
    (hE : ∀ k, k < n → ∀ W, PgAt F w0 W p (f k) → Calls Try.prog 30 #[.pointer (some ⟨p, 0, none⟩)] W fun e w' => e = .returned (.tuple #[]) ∧ PgAt F w0 w' p (f (k + 1)))
    (hbp : ¬ F bp) (hbn : ¬ F bn) (hp : w0.heap[bp]? = some (.cells #[.pointer (some ⟨p, 0, none⟩)] 24 (0, 0))) (hnn : w0.heap[bn]? = some (.cells #[.int .i64 (n : Int)] 3 (0, 0))) :
    Calls Try.prog 29 #[.pointer (some ⟨bn, 0, none⟩), .pointer (some ⟨bp, 0, none⟩)] w fun e w' => e = .returned (.tuple #[]) ∧ PgAt F w0 w' p (f n) := by
  have HBP := Aside0.mk (fun W s (hW : PgAt F w0 W p s) => hW.stays hbp hp)
  have hcn := (blk_cell (h.stays hbn hnn) 0).trans rfl
  have HE := Aside0.mk hE
  have H0 := Aside0.mk h
  have q0 : ¬ ((n : Int) = 0) := by omega
  have d0 : decide ((n : Int) = 0) = false := decide_eq_false q0
  have e0 : ((n : Int) == 0) = false := by rw [beq_eq_false_iff_ne]; exact q0
  clear h hE hbp hbn hp hnn
  go_enter Try.func29, Try.ntmps29
  go_wp2_with fail
  go_loopw [9] (fun v wr => ∃ k : Nat, k ≤ n ∧ v = .int .i64 (k : Int) ∧ Aside0 (PgAt F w0 wr p (f k))) (fun v _ => n - (intOf v).toNat)
  case atStart => exact ⟨0, Nat.zero_le _, rfl, H0⟩
  case round =>
    clear H0 hcn
    obtain ⟨k, hk, rfl, HP⟩ := hrel
    have hwk : wrap64 ((k : Int) + 1) = ((k + 1 : Nat) : Int) := by unfold wrap64; omega
    have cb := (blk_cell (HBP.out wr _ HP.out) 0).trans rfl
    by_cases hlt : k < n
    · have q1 : (k : Int) < (n : Int) := by omega
      go_wp2_with fail
      refine (HE.out k hlt wr HP.out).mono ?_
      rintro e w1 ⟨rfl, h1⟩
      have H1 := Aside0.mk h1
      clear h1 cb
      go_wp2_with fail
      exact ⟨⟨k + 1, hlt, rfl, H1⟩, by simp [intOf]; omega⟩
    · obtain rfl : k = n := by omega
      have q1 : ¬ (k : Int) < (k : Int) := by omega
      go_wp2_with fail
      go_end0
      exact ⟨rfl, HP.out⟩
theorem skipc_is (p bp bn : Nat) (s : Pg) (n m : Nat) (F : Nat → Prop) (w0 w : World) (h : PgAt F w0 w p s) (ho : Ok m s) (hm : m ≤ 10000) (h1 : 1 ≤ n) (hn : n ≤ 1000) (hbp : Free w p bp) (hbn : Free w p bn)
    (hp : w.heap[bp]? = some (.cells #[.pointer (some ⟨p, 0, none⟩)] 24 (0, 0))) (hnn : w.heap[bn]? = some (.cells #[.int .i64 (n : Int)] 3 (0, 0))) :
    Calls Try.prog 29 #[.pointer (some ⟨bn, 0, none⟩), .pointer (some ⟨bp, 0, none⟩)] w fun e w' => e = .returned (.tuple #[]) ∧ PgAt F w0 w' p (pSkip s n) := by
  obtain ⟨F1, hP1, hfree, hback⟩ := h.enter
  refine (skipc_any p bp bn (pSkip s) n F1 w w hP1 h1 hn (fun k hk W hW => ?_) (hfree bp hbp) (hfree bn hbn) hp hnn).mono fun e w' ⟨he, h'⟩ => ⟨he, hback _ _ h'⟩
  have hk' := ho.skip k
  have a1 := hk'.L
  have a2 := hk'.ln
  have a3 := hk'.rows
  exact end_is p (pSkip s k) F1 w W hW (by omega) ⟨by omega, by omega⟩ ⟨by omega, by omega⟩
theorem enter29 (cap : Array Value) (h : cap.size = 2) (w : World) : (callFunc 29 cap).run Try.prog w = .ok (.enter 29 cap) w :=
  enters_ (P := Try.prog) Try.func29 (by kernel_rfl) rfl cap w
set_option maxRecDepth 100000 in
set_option maxHeartbeats 4000000 in
theorem skip_is (p : Nat) (s : Pg) (n m : Nat) (F : Nat → Prop) (w0 w : World) (h : PgAt F w0 w p s) (ho : Ok m s) (hm : m ≤ 10000) (h1 : 1 ≤ n) (hn : n ≤ 200) :
    Calls Try.prog 9 #[.pointer (some ⟨p, 0, none⟩), .int .i64 (n : Int)] w fun e w' => e = .returned (.tuple #[.int .i64 (if ((pSkip s n).due && !s.due) = true then 1 else 0), .int .i64 0]) ∧ PgAt F w0 w' p (pSkip s n) := by
  have hob := ho.skip n
  have hB := ((Below.refl w.heap.size w).alloc (Nat.le_refl _) (.cells #[.pointer (some ⟨p, 0, none⟩)] 24 (0, 0))).alloc (by simp) (.cells #[.int .i64 (n : Int)] 3 (0, 0))
  have hbp := blk_alloc (blk_new w (.cells #[.pointer (some ⟨p, 0, none⟩)] 24 (0, 0))) (.cells #[.int .i64 (n : Int)] 3 (0, 0))
  have hbn := blk_new (w.alloc (.cells #[.pointer (some ⟨p, 0, none⟩)] 24 (0, 0))) (.cells #[.int .i64 (n : Int)] 3 (0, 0))
  rw [World.size_alloc] at hbn
  have HB := Aside0.mk hB
  have HBP := Aside0.mk hbp
  have HBN := Aside0.mk hbn
  have HP := Aside0.mk h
  have HA := Aside0.mk (fun W => asked_is p (n : Int) 0 200 W ⟨by omega, by omega⟩)
  have HMV := Aside0.mk (fun W (hb : Below ((w.alloc (.cells #[.pointer (some ⟨p, 0, none⟩)] 24 (0, 0))).alloc (.cells #[.int .i64 (n : Int)] 3 (0, 0))).heap.size ((w.alloc (.cells #[.pointer (some ⟨p, 0, none⟩)] 24 (0, 0))).alloc (.cells #[.int .i64 (n : Int)] 3 (0, 0))) W) =>
    moved_is p 29 #[.pointer (some ⟨w.heap.size + 1, 0, none⟩), .pointer (some ⟨w.heap.size, 0, none⟩)] s (pSkip s n) F w0 W ((h.step hB).step hb) (fun W => enter29 _ rfl W)
      (fun F' wb W' hW' hP' => by
        have hall := (hB.trans (hb.mono hB.size)).trans (hW'.mono (Nat.le_trans hB.size hb.size))
        have hp1 := blk_below (blk_below hbp hb) hW'
        have hn1 := blk_below (blk_below hbn hb) hW'
        exact skipc_is p w.heap.size (w.heap.size + 1) s n m F' wb W' hP' ho hm h1 (by omega) (Free.new h hall (Nat.le_refl _) (blk_lt' hp1)) (Free.new h hall (by omega) (blk_lt' hn1)) hp1 hn1)
      (by have := hob.L; omega) (by have := ho.now; have := ho.col; have := ho.sz; omega))
  clear h hB hbp hbn ho hob
  generalize pSkip s n = s' at *
  generalize (if (s'.due && !s.due) = true then (1 : Int) else 0) = rr at *
  go_enter Try.func9, Try.ntmps9
  go_wp2_with fail
  refine (HA.out _).mono ?_
  rintro e w1 ⟨rfl, hb⟩
  have HMW := Aside0.mk (HMV.out w1 hb)
  have cb := (blk_cell (blk_below HBP.out hb) 0).trans rfl
  clear hb HMV HA
  go_wp2_with fail
  refine HMW.out.mono ?_
  rintro e w2 ⟨rfl, h2⟩
  have H2 := Aside0.mk h2
  clear h2 cb
  go_wp2_with fail
  go_ret2
  exact ⟨rfl, H2.out⟩
end Go.Proofs.Ytjamaccblokfkaa.P

-- from the text Hg
namespace Go.Proofs.Ytjamaccblokfkaa.P
open Go.RowKit Go.Proofs.YtjamaccblokfkaaW.PrintWords Go.Proofs.YtjamaccblokfkaaW.PrintLast Go.Proofs.YtjamaccblokfkaaW.PrintMore
set_option linter.unusedVariables false
set_option linter.unusedSimpArgs false
theorem enter26 (cap : Array Value) (h : cap.size = 2) (w : World) : (callFunc 26 cap).run Try.prog w = .ok (.enter 26 cap) w :=
  enters_ (P := Try.prog) Try.func26 (by kernel_rfl) rfl cap w
theorem enter39 (cap : Array Value) (h : cap.size = 2) (w : World) : (callFunc 39 cap).run Try.prog w = .ok (.enter 39 cap) w :=
  enters_ (P := Try.prog) Try.func39 (by kernel_rfl) rfl cap w
set_option maxRecDepth 100000 in
theorem putc_is (p bp bs : Nat) (s : Pg) (b : ByteArray) (m : Nat) (F : Nat → Prop) (w0 w : World) (h : PgAt F w0 w p s) (ho : Ok m s) (hm : m ≤ 60000) (hs : b.size ≤ 20000) (hbp : Free w p bp) (hbn : Free w p bs)
    (hp : w.heap[bp]? = some (.cells #[.pointer (some ⟨p, 0, none⟩)] 24 (0, 0))) (hnn : w.heap[bs]? = some (.cells #[.string b] 9 (0, 0))) :
    Calls Try.prog 26 #[.pointer (some ⟨bp, 0, none⟩), .pointer (some ⟨bs, 0, none⟩)] w fun e w' => e = .returned (.tuple #[]) ∧ PgAt F w0 w' p (pStr s b) := by
  have HT := Aside0.mk (text_is p s b F w0 w m h ho hm hs)
  have c0 := (blk_cell hp 0).trans rfl
  have c1 := (blk_cell hnn 0).trans rfl
  clear h ho hbp hbn hp hnn
  generalize pStr s b = s' at *
  go_enter Try.func26, Try.ntmps26
  go_wp2_with fail
  refine HT.out.mono ?_
  rintro e w1 ⟨rfl, h1⟩
  have H1 := Aside0.mk h1
  clear h1 c0 c1
  go_wp2_with fail
  go_end0
  exact ⟨rfl, H1.out⟩
set_option maxRecDepth 100000 in
set_option maxHeartbeats 4000000 in
theorem put_is (p : Nat) (s : Pg) (b : ByteArray) (m : Nat) (F : Nat → Prop) (w0 w : World) (h : PgAt F w0 w p s) (ho : Ok m s) (hm : m ≤ 10000) (hb : b.size ≤ 9000) (hcl : cleanB b = true) :
    Calls Try.prog 8 #[.pointer (some ⟨p, 0, none⟩), .string b] w fun e w' => e = .returned (.tuple #[.int .i64 (if ((pStr s b).due && !s.due) = true then 1 else 0), .int .i64 0]) ∧ PgAt F w0 w' p (pStr s b) := by
  have hLs : (pStr s b).L.length ≤ 19999 := by have := (ho.strN b b.size).L; unfold pStr; omega
  have hB := ((Below.refl w.heap.size w).alloc (Nat.le_refl _) (.cells #[.pointer (some ⟨p, 0, none⟩)] 24 (0, 0))).alloc (by simp) (.cells #[.string b] 9 (0, 0))
  have hbp := blk_alloc (blk_new w (.cells #[.pointer (some ⟨p, 0, none⟩)] 24 (0, 0))) (.cells #[.string b] 9 (0, 0))
  have hbn := blk_new (w.alloc (.cells #[.pointer (some ⟨p, 0, none⟩)] 24 (0, 0))) (.cells #[.string b] 9 (0, 0))
  rw [World.size_alloc] at hbn
  have HBP := Aside0.mk hbp
  have HBN := Aside0.mk hbn
  have HA := Aside0.mk (fun W => said_is p b W (by omega))
  rw [hcl] at HA
  have HMV := Aside0.mk (fun W (hb : Below ((w.alloc (.cells #[.pointer (some ⟨p, 0, none⟩)] 24 (0, 0))).alloc (.cells #[.string b] 9 (0, 0))).heap.size ((w.alloc (.cells #[.pointer (some ⟨p, 0, none⟩)] 24 (0, 0))).alloc (.cells #[.string b] 9 (0, 0))) W) =>
    moved_is p 26 #[.pointer (some ⟨w.heap.size, 0, none⟩), .pointer (some ⟨w.heap.size + 1, 0, none⟩)] s (pStr s b) F w0 W ((h.step hB).step hb) (fun W => enter26 _ rfl W)
      (fun F' wb W' hW' hP' => by
        have hall := (hB.trans (hb.mono hB.size)).trans (hW'.mono (Nat.le_trans hB.size hb.size))
        have hp1 := blk_below (blk_below hbp hb) hW'
        have hn1 := blk_below (blk_below hbn hb) hW'
        exact putc_is p w.heap.size (w.heap.size + 1) s b m F' wb W' hP' ho (by omega) (by omega) (Free.new h hall (Nat.le_refl _) (blk_lt' hp1)) (Free.new h hall (by omega) (blk_lt' hn1)) hp1 hn1)
      hLs (by have := ho.now; have := ho.col; have := ho.sz; omega))
  clear h hB hbp hbn ho hLs 
  generalize pStr s b = s' at *
  generalize (if (s'.due && !s.due) = true then (1 : Int) else 0) = rr at *
  go_enter Try.func8, Try.ntmps8
  go_wp2_with fail
  refine (HA.out _).mono ?_
  rintro e w1 ⟨rfl, hb⟩
  have HMW := Aside0.mk (HMV.out w1 hb)
  have cb := (blk_cell (blk_below HBP.out hb) 0).trans rfl
  clear hb HMV HA
  go_wp2_with fail
  refine HMW.out.mono ?_
  rintro e w2 ⟨rfl, h2⟩
  have H2 := Aside0.mk h2
  clear h2 cb
  go_wp2_with fail
  go_ret2
  exact ⟨rfl, H2.out⟩
def pBump (u : Pg) : Pg := if u.col ≤ u.sz then { u with col := u.col + 1 } else u
def pItem (s : Pg) (t : Int) (b : ByteArray) : Pg := pBump (pStr { s with col := t } b)
theorem PgAt.openT {F : Nat → Prop} {w0 w : World} {p : Nat} {s : Pg} (h : PgAt F w0 w p s) : ∃ At ct g nv, Aside0 (w.heap[p]? = some (.cells #[.int .i64 s.ln, .int .i64 s.col, .int .i64 s.sz, .int .i64 s.rows, .slice At s.tabs.length ct, .slice (some ⟨g, 0, none⟩) 1 1, .int .i64 (s.L.length : Int), nv, .bool s.put, .bool s.due] 50 (0, 0))) ∧ w.ownsRow 0 3 1 (.slice At s.tabs.length ct) s.tabs.length (nums .i64 s.tabs) := by
  obtain ⟨⟨g, rv, tv, nv, hM, hF⟩, hT⟩ := h
  obtain ⟨A, c, rfl⟩ := own_slice hM.tabs
  exact ⟨A, c, g, nv, ⟨hM.head⟩, hM.tabs⟩
theorem col_ok {m : Nat} {s : Pg} (t : Int) (ho : Ok m s) (ht : s.col ≤ t) (ht2 : t ≤ s.sz) : Ok m { s with col := t } :=
  ⟨by have := ho.now; show (s.now.length : Int) ≤ t - 1; omega, by have := ho.col; show 1 ≤ t ∧ t ≤ s.sz + 1; omega, ho.sz, ho.rows, ho.L, ho.ln⟩
theorem bump_ok {m : Nat} {u : Pg} (h : Ok m u) : Ok m (pBump u) := by
  unfold pBump
  split
  · refine ⟨?_, ?_, h.sz, h.rows, h.L, h.ln⟩
    · have := h.now; show (u.now.length : Int) ≤ u.col + 1 - 1; omega
    · have := h.col; show 1 ≤ u.col + 1 ∧ u.col + 1 ≤ u.sz + 1; omega
  · exact h
theorem item_ok (s : Pg) (t : Int) (b : ByteArray) (m : Nat) (ho : Ok m s) (ht : s.col ≤ t) (ht2 : t ≤ s.sz) : Ok (m + b.size) (pItem s t b) := bump_ok ((col_ok t ho ht ht2).strN b b.size)
set_option maxRecDepth 100000 in
set_option maxHeartbeats 8000000 in
theorem itemc_is (p bp bs : Nat) (s : Pg) (b : ByteArray) (i m : Nat) (F : Nat → Prop) (w0 w : World) (h : PgAt F w0 w p s) (ho : Ok m s) (hm : m ≤ 10000) (hb : b.size ≤ 9000) (hi : i < s.tabs.length) (hlt : ∀ j, j < i → s.tabs.getD j 0 < s.col) (hge : s.tabs.getD i 0 ≥ s.col) (hn : s.tabs.length ≤ 1000)
    (hf : s.tabs.getD i 0 - 1 + b.size ≤ s.sz) (h1t : s.tabs.getD i 0 ≤ s.sz) (hbp : Free w p bp) (hbn : Free w p bs)
    (hp : w.heap[bp]? = some (.cells #[.pointer (some ⟨p, 0, none⟩)] 24 (0, 0))) (hnn : w.heap[bs]? = some (.cells #[.string b] 9 (0, 0))) :
    Calls Try.prog 39 #[.pointer (some ⟨bp, 0, none⟩), .pointer (some ⟨bs, 0, none⟩)] w fun e w' => e = .returned (.tuple #[]) ∧ PgAt F w0 w' p (pItem s (s.tabs.getD i 0) b) := by
  obtain ⟨F1, hP1, hfree, hback⟩ := h.enter
  have HBK := Aside0.mk hback
  have HST := Aside0.mk (fun W s' (hW : PgAt F1 w W p s') => And.intro (hW.stays (hfree bp hbp) hp) (hW.stays (hfree bs hbn) hnn))
  obtain ⟨At, ct, g, nv, HH, hown⟩ := hP1.openT
  have h1 := ho.col
  have h3 := ho.sz
  have HI := Aside0.mk (index_is p bp At ct s.tabs s.col i w hi hlt hge hn hown hp ((blk_cell HH.out 1).trans rfl))
  obtain ⟨ad, hat⟩ : ∃ ad, At = some ad := by
    cases At with
    | none => have := (own_none hown).1; omega
    | some ad => exact ⟨ad, rfl⟩
  subst hat
  have HC := Aside0.mk (own_cells hown ad rfl i (.int .i64 (s.tabs.getD i 0)) (by simp [nums, hi]))
  have HTX := Aside0.mk (fun W (hW : PgAt F1 w W p { s with col := s.tabs.getD i 0 }) => text_is p { s with col := s.tabs.getD i 0 } b F1 w W m hW (col_ok _ ho hge h1t) (by omega) (by omega))
  have HOK := Aside0.mk ((col_ok _ ho hge h1t).strN b b.size)
  have HP1 := Aside0.mk hP1
  have HRES := Aside0.mk (show pItem s (s.tabs.getD i 0) b = pBump (pStr { s with col := s.tabs.getD i 0 } b) from rfl)
  have cb := (blk_cell hp 0).trans rfl
  have k4 := (blk_cell HH.out 4).trans rfl
  clear h ho hbp hbn hp hnn hP1 hfree hback hlt hown
  generalize pItem s (s.tabs.getD i 0) b = out at *
  generalize ht : s.tabs.getD i 0 = t at *
  generalize hnt : s.tabs.length = nt at *
  clear ht hnt
  have q0 : ¬ ((i : Int) < 0) := by omega
  have q1 : (i : Int) < (nt : Int) := by omega
  have q2 : (0 : Int) ≤ (i : Int) := by omega
  have hw1 : wrap64 (t - 1) = t - 1 := by unfold wrap64; omega
  have hw2 : wrap64 (t - 1 + (b.size : Int)) = t - 1 + (b.size : Int) := by unfold wrap64; omega
  have d1 : decide ((b.size : Int) ≤ s.sz) = true := decide_eq_true (by omega)
  have d2 : decide (t - 1 + (b.size : Int) > s.sz) = false := decide_eq_false (by omega)
  go_enter Try.func39, Try.ntmps39
  go_wp2_with fail
  refine HI.out.mono ?_
  rintro e w1 ⟨rfl, hb1⟩
  have HP2 := Aside0.mk (HP1.out.step hb1)
  have HC2 := pw_cell_below hb1 HC.out
  have HH2 := Aside0.mk (blk_below HH.out hb1)
  have l0 := (blk_cell (HST.out w1 _ HP2.out).1 0).trans rfl
  have l1 := (blk_cell (HST.out w1 _ HP2.out).2 0).trans rfl
  have l4 := (blk_cell HH2.out 4).trans rfl
  have l2 := (blk_cell HH2.out 2).trans rfl
  clear hb1 cb k4 HP1 HC HH HI
  go_wp2_with fail
  go_quiet (fail)
  have HPd := Aside0.mk (HP2.out.drewN nq)
  have HHd := Aside0.mk (blk_drewN HH2.out nq)
  clear HP2 HH2 l0 l1 l2 l4 HC2
  generalize w1.drewN nq = wd at HPd HHd ⊢
  have l0 := (blk_cell (HST.out wd _ HPd.out).1 0).trans rfl
  have l1 := (blk_cell (HST.out wd _ HPd.out).2 0).trans rfl
  have k1 := (blk_cell HHd.out 1).trans rfl
  have m1 := blk_frozen HHd.out 1
  go_wp2_with fail
  refine (HTX.out _ (HPd.out.setCol t)).mono ?_
  rintro e w3 ⟨rfl, h3⟩
  have HP3 := Aside0.mk h3
  clear h3 l0 l1 k1 m1 HPd HHd HTX
  have HOK2 := Aside0.mk (show Ok (m + b.size) (pStr { s with col := t } b) from HOK.out)
  clear HOK
  generalize pStr { s with col := t } b = u at HP3 HRES HOK2
  have hu1 := HOK2.out.col
  have hu2 := HOK2.out.sz
  have l0 := (blk_cell (HST.out w3 _ HP3.out).1 0).trans rfl
  have l1 := (blk_cell (HST.out w3 _ HP3.out).2 0).trans rfl
  obtain ⟨tv3, g3, A3, c3, HH3⟩ := HP3.out.open_
  have k1 := (blk_cell HH3.out 1).trans rfl
  have k2 := (blk_cell HH3.out 2).trans rfl
  go_wp2_with fail
  go_quiet (fail)
  have HPd := Aside0.mk (HP3.out.drewN nq)
  have HHd := Aside0.mk (blk_drewN HH3.out nq)
  clear l0 l1 k1 k2 HH3 HP3
  generalize w3.drewN nq = wd at HPd HHd ⊢
  have l0 := (blk_cell (HST.out wd _ HPd.out).1 0).trans rfl
  have k1 := (blk_cell HHd.out 1).trans rfl
  have m1 := blk_frozen HHd.out 1
  have hw3 : wrap64 (u.col + 1) = u.col + 1 := by unfold wrap64; omega
  by_cases hc : u.col ≤ u.sz
  · have HF := Aside0.mk (HPd.out.setCol (u.col + 1))
    go_wp2_with fail
    go_end0
    refine ⟨rfl, HBK.out _ _ ?_⟩
    rw [show out = { u with col := u.col + 1 } by rw [HRES.out]; exact if_pos (by omega)]
    exact HF.out
  · go_wp2_with fail
    go_end0
    refine ⟨rfl, HBK.out _ _ ?_⟩
    rw [show out = u by rw [HRES.out]; exact if_neg (by omega)]
    exact HPd.out
set_option maxRecDepth 100000 in
set_option maxHeartbeats 4000000 in
theorem item_is (p : Nat) (s : Pg) (b : ByteArray) (m : Nat) (F : Nat → Prop) (w0 w : World) (i : Nat) (hi : i < s.tabs.length) (hlt : ∀ j, j < i → s.tabs.getD j 0 < s.col) (hge : s.tabs.getD i 0 ≥ s.col) (hn : s.tabs.length ≤ 1000) (hf : s.tabs.getD i 0 - 1 + b.size ≤ s.sz) (h1t : s.tabs.getD i 0 ≤ s.sz) (h : PgAt F w0 w p s) (ho : Ok m s) (hm : m ≤ 10000) (hb : b.size ≤ 9000) (hcl : cleanB b = true) :
    Calls Try.prog 15 #[.pointer (some ⟨p, 0, none⟩), .string b] w fun e w' => e = .returned (.tuple #[.int .i64 (if ((pItem s (s.tabs.getD i 0) b).due && !s.due) = true then 1 else 0), .int .i64 0]) ∧ PgAt F w0 w' p (pItem s (s.tabs.getD i 0) b) := by
  have hb' := hb
  have hLs : (pItem s (s.tabs.getD i 0) b).L.length ≤ 19999 := by have := (item_ok s (s.tabs.getD i 0) b m ho (by omega) h1t).L; omega
  have hB := ((Below.refl w.heap.size w).alloc (Nat.le_refl _) (.cells #[.pointer (some ⟨p, 0, none⟩)] 24 (0, 0))).alloc (by simp) (.cells #[.string b] 9 (0, 0))
  have hbp := blk_alloc (blk_new w (.cells #[.pointer (some ⟨p, 0, none⟩)] 24 (0, 0))) (.cells #[.string b] 9 (0, 0))
  have hbn := blk_new (w.alloc (.cells #[.pointer (some ⟨p, 0, none⟩)] 24 (0, 0))) (.cells #[.string b] 9 (0, 0))
  rw [World.size_alloc] at hbn
  have HBP := Aside0.mk hbp
  have HBN := Aside0.mk hbn
  have HA := Aside0.mk (fun W => said_is p b W (by omega))
  rw [hcl] at HA
  have HMV := Aside0.mk (fun W (hb : Below ((w.alloc (.cells #[.pointer (some ⟨p, 0, none⟩)] 24 (0, 0))).alloc (.cells #[.string b] 9 (0, 0))).heap.size ((w.alloc (.cells #[.pointer (some ⟨p, 0, none⟩)] 24 (0, 0))).alloc (.cells #[.string b] 9 (0, 0))) W) =>
    moved_is p 39 #[.pointer (some ⟨w.heap.size, 0, none⟩), .pointer (some ⟨w.heap.size + 1, 0, none⟩)] s (pItem s (s.tabs.getD i 0) b) F w0 W ((h.step hB).step hb) (fun W => enter39 _ rfl W)
      (fun F' wb W' hW' hP' => by
        have hall := (hB.trans (hb.mono hB.size)).trans (hW'.mono (Nat.le_trans hB.size hb.size))
        have hp1 := blk_below (blk_below hbp hb) hW'
        have hn1 := blk_below (blk_below hbn hb) hW'
        exact itemc_is p w.heap.size (w.heap.size + 1) s b i m F' wb W' hP' ho hm hb' hi hlt hge hn hf h1t (Free.new h hall (Nat.le_refl _) (blk_lt' hp1)) (Free.new h hall (by omega) (blk_lt' hn1)) hp1 hn1)
      hLs (by have := ho.now; have := ho.col; have := ho.sz; omega))
  clear h hB hbp hbn ho hLs hi hlt hge hn hf h1t
  generalize pItem s (s.tabs.getD i 0) b = s' at *
  generalize (if (s'.due && !s.due) = true then (1 : Int) else 0) = rr at *
  go_enter Try.func15, Try.ntmps15
  go_wp2_with fail
  refine (HA.out _).mono ?_
  rintro e w1 ⟨rfl, hb⟩
  have HMW := Aside0.mk (HMV.out w1 hb)
  have cb := (blk_cell (blk_below HBP.out hb) 0).trans rfl
  clear hb HMV HA
  go_wp2_with fail
  refine HMW.out.mono ?_
  rintro e w2 ⟨rfl, h2⟩
  have H2 := Aside0.mk h2
  clear h2 cb
  go_wp2_with fail
  go_ret2
  exact ⟨rfl, H2.out⟩
end Go.Proofs.Ytjamaccblokfkaa.P

-- from the text Hh
namespace Go.Proofs.Ytjamaccblokfkaa.P
open Go.RowKit Go.Proofs.YtjamaccblokfkaaW.PrintWords Go.Proofs.YtjamaccblokfkaaW.PrintLast Go.Proofs.YtjamaccblokfkaaW.PrintMore
set_option linter.unusedVariables false
set_option linter.unusedSimpArgs false
def pg0 : Pg := ⟨1, 1, 10, 2, [1, 6], [], [], false, false⟩
theorem made16 {w w3 : World} {A : Option Addr} {c : Nat} {B : Nat} (hb : Below w.heap.size w w3) (ho : w3.ownsRow B 3 1 (.slice A 2 c) 2 (nums .i64 [1, 6])) (hB : w.heap.size ≤ B) : PgAt (fun _ => False) w ((w3.alloc (.cells #[.slice none 0 0] 34 (0, 0))).alloc (.cells #[.int .i64 1, .int .i64 1, .int .i64 10, .int .i64 2, .slice A 2 c, .slice (some ⟨w3.heap.size, 0, none⟩) 1 1, .int .i64 0, .slice none 0 0, .bool false, .bool false] 50 (0, 0))) (w3.heap.size + 1) pg0 := by
  have hB3 := ((Below.refl w3.heap.size w3).alloc (Nat.le_refl _) (.cells #[.slice none 0 0] 34 (0, 0))).alloc (by simp) (.cells #[.int .i64 1, .int .i64 1, .int .i64 10, .int .i64 2, .slice A 2 c, .slice (some ⟨w3.heap.size, 0, none⟩) 1 1, .int .i64 0, .slice none 0 0, .bool false, .bool false] 50 (0, 0))
  have hp := blk_new (w3.alloc (.cells #[.slice none 0 0] 34 (0, 0))) (.cells #[.int .i64 1, .int .i64 1, .int .i64 10, .int .i64 2, .slice A 2 c, .slice (some ⟨w3.heap.size, 0, none⟩) 1 1, .int .i64 0, .slice none 0 0, .bool false, .bool false] 50 (0, 0))
  rw [World.size_alloc] at hp
  have hg := blk_alloc (blk_new w3 (.cells #[.slice none 0 0] 34 (0, 0))) (.cells #[.int .i64 1, .int .i64 1, .int .i64 10, .int .i64 2, .slice A 2 c, .slice (some ⟨w3.heap.size, 0, none⟩) 1 1, .int .i64 0, .slice none 0 0, .bool false, .bool false] 50 (0, 0))
  have hs := hb.size
  refine ⟨⟨w3.heap.size, .slice none 0 0, .slice A 2 c, .slice none 0 0, ⟨hp, hg, World.ownsRow_nil _ _ _ _, ownsRow_base (ownsRow_kept ho (fun k e => hB3.block k (ho.lt k e).2)) (Nat.zero_le _), World.ownsRow_nil _ _ _ _⟩, fun k hk => ?_⟩, Turn.of_below (hb.trans (hB3.mono hs))⟩
  rcases hk with rfl | rfl | e | e | e
  · exact .inr (by omega)
  · exact .inr hs
  · cases e
  · exact .inr (Nat.le_trans hB (own_ge ho e))
  · cases e
set_option maxRecDepth 100000 in
set_option maxHeartbeats 8000000 in
theorem new_16 (b : Nat) (w : World) (hb : w.heap[b]? = some (.cells #[.int .i64 1, .int .i64 6] 3 (0, 0))) :
    Calls Try.prog 7 #[.int .i64 10, .int .i64 2, .slice (some ⟨b, 0, none⟩) 2 2] w fun e w' => ∃ p, e = .returned (.tuple #[.pointer (some ⟨p, 0, none⟩), .int .i64 0]) ∧ PgAt (fun _ => False) w w' p pg0 := by
  have hown : w.ownsRow 0 3 1 (.slice (some ⟨b, 0, none⟩) 2 2) 2 (nums .i64 [1, 6]) := ⟨rfl, .inr ⟨b, 2, _, rfl, Nat.zero_le _, hb, Nat.le_refl _, by decide, rfl, rfl⟩⟩
  have HB := Aside0.mk hb
  have HO := Aside0.mk hown
  have HW := Aside0.mk (fun n a b W => within_is n a b W)
  clear hb hown
  go_enter Try.func7, Try.ntmps7
  go_wp2_with fail
  go_loopw [9, 10, 38] (fun _ _ v wr => ∃ k : Nat, k ≤ 2 ∧ v = .int .i64 (k : Int) ∧ Aside0 (Below w.heap.size w wr)) (fun _ _ v _ => 2 - (intOf v).toNat)
  case atStart => exact ⟨0, Nat.zero_le _, rfl, ⟨Below.refl _ _⟩⟩
  case round =>
    obtain ⟨k, hk, rfl, HBL⟩ := hrel
    have c0 := (blk_cell (blk_below HB.out HBL.out) 0).trans rfl
    have c1 := (blk_cell (blk_below HB.out HBL.out) 1).trans rfl
    obtain rfl | rfl | rfl : k = 0 ∨ k = 1 ∨ k = 2 := by omega
    · go_wp2_with fail
      refine (HW.out _ _ _ _).mono ?_
      rintro e w1 ⟨rfl, hb1⟩
      have HB1 := Aside0.mk (HBL.out.trans (hb1.mono HBL.out.size))
      clear hb1
      go_wp2_with fail
      exact ⟨⟨1, by decide, rfl, HB1⟩, by simp [intOf]⟩
    · go_wp2_with fail
      refine (HW.out _ _ _ _).mono ?_
      rintro e w1 ⟨rfl, hb1⟩
      have HB1 := Aside0.mk (HBL.out.trans (hb1.mono HBL.out.size))
      clear hb1
      go_wp2_with fail
      exact ⟨⟨2, by decide, rfl, HB1⟩, by simp [intOf]⟩
    · go_wp2_with fail
      refine (HW.out _ _ _ _).mono ?_
      rintro e w1 ⟨rfl, hb1⟩
      have HB1 := Aside0.mk (HBL.out.trans (hb1.mono HBL.out.size))
      clear hb1
      go_wp2_with fail
      refine (HW.out _ _ _ _).mono ?_
      rintro e w2 ⟨rfl, hb2⟩
      have HB2 := Aside0.mk (HB1.out.trans (hb2.mono HB1.out.size))
      clear hb2
      go_wp2_with fail
      refine (clone3_is (.slice (some ⟨b, 0, none⟩) 2 2) 2 (nums .i64 [1, 6]) w2 (ownsRow_kept HO.out (fun k e => HB2.out.block k (HO.out.lt k e).2)) (by simp [nums, Value.oneCell']) (by decide)).mono ?_
      rintro e w3 ⟨A, c, rfl, hown, hb3⟩
      have HB3 := Aside0.mk (HB2.out.trans (hb3.mono HB2.out.size))
      have HO3 := Aside0.mk hown
      clear hb3 hown
      go_wp2_with fail
      go_ret2
      refine ⟨_, rfl, made16 HB3.out HO3.out HB2.out.size⟩
end Go.Proofs.Ytjamaccblokfkaa.P

-- from the text Hl
namespace Go.Proofs.Ytjamaccblokfkaa.P
open Go.RowKit Go.Proofs.YtjamaccblokfkaaW.PrintWords Go.Proofs.YtjamaccblokfkaaW.PrintLast Go.Proofs.YtjamaccblokfkaaW.PrintMore
set_option linter.unusedVariables false
set_option linter.unusedSimpArgs false
def tabN (k : Nat) : List Int := (List.range k).map fun (i : Nat) => 1 + 24 * (i : Int)
theorem tabN_len (k : Nat) : (tabN k).length = k := by simp [tabN]
theorem tabN_succ (k : Nat) : tabN (k + 1) = tabN k ++ [1 + 24 * (k : Int)] := by simp [tabN, List.range_succ]
theorem add_zero_ (ad : Addr) : ad.add 0 = ad := by cases ad; rfl
theorem tab_get (n i : Nat) (h : i < n) : (nums .i64 (tabN n))[i]? = some (.int .i64 (1 + 24 * (i : Int))) := by simp [nums, tabN, h]
theorem wl_tab {ops : Array Oper} {rest : List Oper} {o : Oper} {a : Act} {Q : Exit → Act → World → Prop} {W : World} {s x : Operand} {A : Option Addr} {n : Nat} {xs : List Value} (g0 : Nat) (v : Value) (hgd : o.guard = none) (ho : o.op = .call { callee := .builtin .append, args := #[s, x], argTypes := #[22, 22] })
    (hs : a.eval s = .slice A n n) (hnone : A = none → n = 0) (hlo : xs.length = n) (hc : ∀ b, A = some b → ∀ j u, xs[j]? = some u → W.cell? (b.add j) = some u) (hx : a.eval x = .slice (some ⟨g0, 0, none⟩) 1 1) (hb : W.heap[g0]? = some (.cells #[v] 3 (0, 0))) (h1 : v.oneCell' = true) (hn : n ≤ 1000000)
    (h : ∀ g2 cap w', w'.ownsRow W.heap.size 3 1 (.slice (some ⟨g2, 0, none⟩) (n + 1) cap) (n + 1) (xs ++ [v]) → W.grownBy w' none → wpList Try.prog ops Q rest (a.put o.dst (.slice (some ⟨g2, 0, none⟩) (n + 1) cap)) w') : wpList Try.prog ops Q (o :: rest) a W := by
  obtain ⟨i0, hi, hz0, hz1, hz2⟩ := info_parts info3
  refine wpList_append_grows W hgd s x 22 ho 3 i0 _ 1 8 Try.underlying22 hi hz0 hz1 hz2 rfl (by decide) A n n xs hs (fun e => ⟨hnone e, hnone e⟩) (by omega) hc ⟨g0, 0, none⟩ 1 1 [v] hx rfl (fun j u hj => by rw [add_plain]; exact (blk_cell hb j).trans (by simpa using hj)) (by simp [h1]) (by omega) (by simp only [maxLen]; omega) (by omega) (fun v' w' r1 r2 => ?_)
  obtain ⟨g2, cap, rfl, _, _⟩ := r1.form (by omega)
  exact h g2 cap w' r1 r2
theorem within_t (n a b : Int) (w : World) (h : a ≤ n ∧ n ≤ b) : Calls Try.prog 22 #[.int .i64 n, .int .i64 a, .int .i64 b] w fun e w' => e = .returned (.bool true) ∧ Below w.heap.size w w' := by
  have := within_is n a b w
  rwa [decide_eq_true h.1, decide_eq_true h.2] at this
theorem within_f (n a b : Int) (w : World) (h : ¬ (a ≤ n ∧ n ≤ b)) : Calls Try.prog 22 #[.int .i64 n, .int .i64 a, .int .i64 b] w fun e w' => e = .returned (.bool false) ∧ Below w.heap.size w w' := by
  have := within_is n a b w
  rwa [show (decide (a ≤ n) && decide (n ≤ b)) = false by by_cases h1 : a ≤ n <;> by_cases h2 : n ≤ b <;> simp [h1, h2] at h ⊢] at this
def pgN (line page : Int) (k : Nat) : Pg := ⟨1, 1, line, page, tabN k, [], [], false, false⟩
theorem madeN {w w3 : World} {A : Option Addr} {c : Nat} {B k : Nat} {line page : Int} (hb : Below w.heap.size w w3) (ho : w3.ownsRow B 3 1 (.slice A k c) k (nums .i64 (tabN k))) (hB : w.heap.size ≤ B) : PgAt (fun _ => False) w ((w3.alloc (.cells #[.slice none 0 0] 34 (0, 0))).alloc (.cells #[.int .i64 1, .int .i64 1, .int .i64 line, .int .i64 page, .slice A k c, .slice (some ⟨w3.heap.size, 0, none⟩) 1 1, .int .i64 0, .slice none 0 0, .bool false, .bool false] 50 (0, 0))) (w3.heap.size + 1) (pgN line page k) := by
  have hB3 := ((Below.refl w3.heap.size w3).alloc (Nat.le_refl _) (.cells #[.slice none 0 0] 34 (0, 0))).alloc (by simp) (.cells #[.int .i64 1, .int .i64 1, .int .i64 line, .int .i64 page, .slice A k c, .slice (some ⟨w3.heap.size, 0, none⟩) 1 1, .int .i64 0, .slice none 0 0, .bool false, .bool false] 50 (0, 0))
  have hp := blk_new (w3.alloc (.cells #[.slice none 0 0] 34 (0, 0))) (.cells #[.int .i64 1, .int .i64 1, .int .i64 line, .int .i64 page, .slice A k c, .slice (some ⟨w3.heap.size, 0, none⟩) 1 1, .int .i64 0, .slice none 0 0, .bool false, .bool false] 50 (0, 0))
  rw [World.size_alloc] at hp
  have hg := blk_alloc (blk_new w3 (.cells #[.slice none 0 0] 34 (0, 0))) (.cells #[.int .i64 1, .int .i64 1, .int .i64 line, .int .i64 page, .slice A k c, .slice (some ⟨w3.heap.size, 0, none⟩) 1 1, .int .i64 0, .slice none 0 0, .bool false, .bool false] 50 (0, 0))
  have hs := hb.size
  refine ⟨⟨w3.heap.size, .slice none 0 0, .slice A k c, .slice none 0 0, ⟨hp, hg, World.ownsRow_nil _ _ _ _, ?_, World.ownsRow_nil _ _ _ _⟩, fun k hk => ?_⟩, Turn.of_below (hb.trans (hB3.mono hs))⟩
  · have := ownsRow_base (ownsRow_kept ho (fun k e => hB3.block k (ho.lt k e).2)) (Nat.zero_le _)
    show World.ownsRow _ 0 3 1 _ (tabN k).length (nums .i64 (tabN k))
    rw [tabN_len]; exact this
  rcases hk with rfl | rfl | e | e | e
  · exact .inr (by omega)
  · exact .inr hs
  · cases e
  · exact .inr (Nat.le_trans hB (own_ge ho e))
  · cases e
def lineOk (line page : Int) : Bool := decide (10 ≤ line) && decide (line ≤ 200) && (decide (1 ≤ page) && decide (page ≤ 200))
set_option maxRecDepth 100000 in
set_option maxHeartbeats 16000000 in
theorem new_any (line page : Int) (w : World) (Post : Ending → World → Prop) (hp1 : lineOk line page = true → ∀ p k w', PgAt (fun _ => False) w w' p (pgN line page k) → Post (.returned (.tuple #[.pointer (some ⟨p, 0, none⟩), .int .i64 0])) w')
    (hp2 : lineOk line page = false → ∀ w', Below w.heap.size w w' → Post (.returned (.tuple #[.pointer none, .int .i64 7])) w') : Calls Try.prog 7 #[.int .i64 line, .int .i64 page, .slice none 0 0] w Post := by
  have H1 := Aside0.mk hp1
  have H2 := Aside0.mk hp2
  clear hp1 hp2
  have HW := Aside0.mk (fun n a b W => within_is n a b W)
  have HF1 := Aside0.mk (fun (h : ¬ (10 ≤ line ∧ line ≤ 200)) => (show lineOk line page = false by by_cases h1 : (10 : Int) ≤ line <;> by_cases h2 : line ≤ 200 <;> simp [lineOk, h1, h2] at h ⊢))
  have HF2 := Aside0.mk (fun (h : ¬ (1 ≤ page ∧ page ≤ 200)) => (show lineOk line page = false by by_cases h1 : (1 : Int) ≤ page <;> by_cases h2 : page ≤ 200 <;> simp [lineOk, h1, h2] at h ⊢))
  have HT1 := Aside0.mk (fun (h : 10 ≤ line ∧ line ≤ 200) (h' : 1 ≤ page ∧ page ≤ 200) => (show lineOk line page = true by simp [lineOk, h.1, h.2, h'.1, h'.2]))
  generalize lineOk line page = lo at *
  go_enter Try.func7, Try.ntmps7
  go_wp2_with fail
  go_loopw [2, 8] (fun q v wr => ∃ (k n : Nat) (A : Option Addr) (c : Nat), k ≤ 9 ∧ n = k ∧ v = .int .i64 (1 + 24 * (k : Int)) ∧ q = .slice A n c ∧ (∀ i : Nat, i < k → i = 0 ∨ 1 + 24 * (i : Int) ≤ line) ∧ Aside0 (wr.ownsRow w.heap.size 3 1 (.slice A n c) k (nums .i64 (tabN k))) ∧ Aside0 (Below w.heap.size w wr)) (fun _ v _ => 300 - (intOf v).toNat)
  case atStart => exact ⟨0, 0, none, 0, by omega, rfl, rfl, rfl, fun i hi => by omega, ⟨World.ownsRow_nil _ _ _ _⟩, ⟨Below.refl _ _⟩⟩
  case round =>
    obtain ⟨k, n, A, c, hk, hnk, rfl, rfl, hle, HO, HB⟩ := hrel
    have hcap := own_cap HO.out
    obtain rfl := hnk
    have h0n : (0 : Int) ≤ (n : Int) := by omega
    have hnc : (n : Int) ≤ (c : Int) := by omega
    have HLE := Aside0.mk hle
    generalize htk : 1 + 24 * (n : Int) = t
    have HT := Aside0.mk htk
    have hw24 : wrap64 (t + 24) = t + 24 := by unfold wrap64; omega
    have hw1 : wrap64 1 = 1 := by simp [wrap64]
    clear hle htk hcap
    by_cases h1 : t = 1
    · subst h1
      have h25 : wrap64 25 = 25 := by simp [wrap64]
      have HK := Aside0.mk (show n + 1 ≤ 9 by have := HT.out; omega)
      have HGO := Aside0.mk (show n = 0 ∨ (1 : Int) ≤ line from .inl (by have := HT.out; omega))
      as_aux_lemma =>
        have HOa := Aside0.mk (ownsRow_kept (w' := wr.alloc (.cells #[.int .i64 1] 3 (0, 0))) HO.out (fun k e => ((Below.refl wr.heap.size wr).alloc (Nat.le_refl _) (.cells #[.int .i64 1] 3 (0, 0))).block k (HO.out.lt k e).2))
        have HNa := Aside0.mk (blk_new wr (.cells #[.int .i64 1] 3 (0, 0)))
        have HBa := Aside0.mk (HB.out.trans (((Below.refl wr.heap.size wr).alloc (Nat.le_refl _) (.cells #[.int .i64 1] 3 (0, 0))).mono HB.out.size))
        go_wp2_with ((with_reducible refine gate_dst (N := 35) rfl ?_); refine wl_tab (xs := nums .i64 (tabN n)) wr.heap.size (.int .i64 1) rfl rfl rfl (fun e => by subst e; exact (own_none HO.out).1) (by simp [nums, tabN_len]) (own_cells HOa.out) rfl HNa.out rfl (by omega) ?_; intro g2 cap w2 hown hgrow; have HO2 := Aside0.mk (ownsRow_base hown HBa.out.size); have HB2 := Aside0.mk (HBa.out.grown hgrow HBa.out.size (fun k e => by cases e)); clear hown hgrow)
        refine ⟨⟨n + 1, n + 1, some ⟨g2, 0, none⟩, cap, HK.out, rfl, by have := HT.out; congr 1; push_cast; omega, rfl, fun i hi => ?_, ⟨?_⟩, HB2⟩, ?_⟩
        · rcases Nat.lt_succ_iff_lt_or_eq.1 hi with h | rfl
          · exact HLE.out i h
          · have := HT.out; have := HGO.out; omega
        · rw [tabN_succ, HT.out]
          simpa [nums] using HO2.out
        · have := HT.out; first | (simp [intOf]; done) | (simp [intOf]; omega)
    · have e1 : (t == 1) = false := by rw [beq_eq_false_iff_ne]; exact h1
      by_cases h2 : t ≤ line
      · by_cases h3 : t ≤ 200
        · have HK := Aside0.mk (show n + 1 ≤ 9 by have := HT.out; omega)
          have HGO := Aside0.mk (show n = 0 ∨ t ≤ line from .inr h2)
          as_aux_lemma =>
            have HOa := Aside0.mk (ownsRow_kept (w' := wr.alloc (.cells #[.int .i64 t] 3 (0, 0))) HO.out (fun k e => ((Below.refl wr.heap.size wr).alloc (Nat.le_refl _) (.cells #[.int .i64 t] 3 (0, 0))).block k (HO.out.lt k e).2))
            have HNa := Aside0.mk (blk_new wr (.cells #[.int .i64 t] 3 (0, 0)))
            have HBa := Aside0.mk (HB.out.trans (((Below.refl wr.heap.size wr).alloc (Nat.le_refl _) (.cells #[.int .i64 t] 3 (0, 0))).mono HB.out.size))
            go_wp2_with ((with_reducible refine gate_dst (N := 35) rfl ?_); refine wl_tab (xs := nums .i64 (tabN n)) wr.heap.size (.int .i64 t) rfl rfl rfl (fun e => by subst e; exact (own_none HO.out).1) (by simp [nums, tabN_len]) (own_cells HOa.out) rfl HNa.out rfl (by omega) ?_; intro g2 cap w2 hown hgrow; have HO2 := Aside0.mk (ownsRow_base hown HBa.out.size); have HB2 := Aside0.mk (HBa.out.grown hgrow HBa.out.size (fun k e => by cases e)); clear hown hgrow)
            refine ⟨⟨n + 1, n + 1, some ⟨g2, 0, none⟩, cap, HK.out, rfl, by have := HT.out; congr 1; push_cast; omega, rfl, fun i hi => ?_, ⟨?_⟩, HB2⟩, ?_⟩
            · rcases Nat.lt_succ_iff_lt_or_eq.1 hi with h | rfl
              · exact HLE.out i h
              · have := HT.out; have := HGO.out; omega
            · rw [tabN_succ, HT.out]
              simpa [nums] using HO2.out
            · have := HT.out; first | (simp [intOf]; done) | (simp [intOf]; omega)
        · have HX := Aside0.mk (show 1 ≤ n by have := HT.out; omega)
          as_aux_lemma =>
            go_wp2_with fail
            go_loopw [9, 10, 38] (fun _ _ v wx => ∃ i : Nat, i ≤ n ∧ v = .int .i64 (i : Int) ∧ Aside0 (Below w.heap.size w wx) ∧ Aside0 (wx.ownsRow w.heap.size 3 1 (.slice A n c) n (nums .i64 (tabN n)))) (fun _ _ v _ => n - (intOf v).toNat)
            case atStart => exact ⟨0, Nat.zero_le _, rfl, HB, HO⟩
            case round =>
              obtain ⟨i, hi, rfl, HBx, HOx⟩ := hrel
              obtain ⟨ad, hA⟩ : ∃ ad, A = some ad := by
                cases A with
                | none => have := (own_none HOx.out).1; have := HX.out; omega
                | some ad => exact ⟨ad, rfl⟩
              subst hA
              have hwi : wrap64 ((i : Int) + 1) = ((i + 1 : Nat) : Int) := by unfold wrap64; omega
              have hwm : wrap64 ((i : Int) - 1) = (i : Int) - 1 := by unfold wrap64; omega
              have h0i : (0 : Int) ≤ (i : Int) := by omega
              by_cases hlt : i < n
              · have hq : (i : Int) < (n : Int) := by omega
                have hcell := own_cells HOx.out ad rfl i (.int .i64 (1 + 24 * (i : Int))) (tab_get n i hlt)
                have hli := HLE.out i hlt
                by_cases hi0 : i = 0
                · subst hi0
                  simp only [Int.natCast_zero, Int.mul_zero, Int.add_zero, add_zero_] at hcell
                  by_cases P1 : 10 ≤ line ∧ line ≤ 200
                  · exfalso; omega
                  · clear hli
                    go_wp2_with fail
                    refine (within_f _ _ _ _ P1).mono ?_
                    rintro e w1 ⟨rfl, hb1⟩
                    have HB1 := Aside0.mk (HBx.out.trans (hb1.mono HBx.out.size))
                    have HO1 := Aside0.mk (ownsRow_kept (w' := w1) HOx.out (fun k e => hb1.block k (HOx.out.lt k e).2))
                    clear hb1 hcell
                    go_wp2_with fail
                    exact ⟨⟨_, hlt, rfl, HB1, HO1⟩, by first | (simp [intOf]; done) | (simp [intOf]; omega)⟩
                · have hti : 1 + 24 * (i : Int) ≤ line := by rcases hli with h | h; exact absurd h hi0; exact h
                  have hprev := own_cells HOx.out ad rfl (i - 1) (.int .i64 (1 + 24 * ((i - 1 : Nat) : Int))) (tab_get n (i - 1) (by omega))
                  have him : ((i : Int) - 1).toNat = i - 1 := by omega
                  have h0m : (0 : Int) ≤ (i : Int) - 1 := by omega
                  have hqm : (i : Int) - 1 < (n : Int) := by omega
                  have q0 : ¬ ((i : Int) = 0) := by omega
                  have e0 : ((i : Int) == 0) = false := by rw [beq_eq_false_iff_ne]; exact q0
                  have d0 : decide ((i : Int) > 0) = true := decide_eq_true (by omega)
                  generalize htv : 1 + 24 * (i : Int) = ti at hcell hti
                  generalize htp : 1 + 24 * ((i - 1 : Nat) : Int) = tp at hprev
                  have hdl : decide (ti ≤ tp) = false := decide_eq_false (by omega)
                  clear hli htv htp
                  by_cases P1 : 10 ≤ line ∧ line ≤ 200
                  · exfalso; omega
                  · skip
                    go_wp2_with fail
                    refine (within_f _ _ _ _ P1).mono ?_
                    rintro e w1 ⟨rfl, hb1⟩
                    have HB1 := Aside0.mk (HBx.out.trans (hb1.mono HBx.out.size))
                    have HO1 := Aside0.mk (ownsRow_kept (w' := w1) HOx.out (fun k e => hb1.block k (HOx.out.lt k e).2))
                    clear hb1 hcell
                    go_wp2_with fail
                    exact ⟨⟨_, hlt, rfl, HB1, HO1⟩, by first | (simp [intOf]; done) | (simp [intOf]; omega)⟩
              · obtain rfl : i = n := by omega
                have hq : ¬ (i : Int) < (i : Int) := by omega
                have P1 : ¬ (10 ≤ line ∧ line ≤ 200) := by omega
                go_wp2_with fail
                refine (within_f _ _ _ _ P1).mono ?_
                rintro e w1 ⟨rfl, hb1⟩
                have HB1 := Aside0.mk (HBx.out.trans (hb1.mono HBx.out.size))
                clear hb1
                go_wp2_with fail
                exact H2.out (HF1.out P1) _ HB1.out
      · have HX := Aside0.mk (show 1 ≤ n by have := HT.out; omega)
        as_aux_lemma =>
          go_wp2_with fail
          go_loopw [9, 10, 38] (fun _ _ v wx => ∃ i : Nat, i ≤ n ∧ v = .int .i64 (i : Int) ∧ Aside0 (Below w.heap.size w wx) ∧ Aside0 (wx.ownsRow w.heap.size 3 1 (.slice A n c) n (nums .i64 (tabN n)))) (fun _ _ v _ => n - (intOf v).toNat)
          case atStart => exact ⟨0, Nat.zero_le _, rfl, HB, HO⟩
          case round =>
            obtain ⟨i, hi, rfl, HBx, HOx⟩ := hrel
            obtain ⟨ad, hA⟩ : ∃ ad, A = some ad := by
              cases A with
              | none => have := (own_none HOx.out).1; have := HX.out; omega
              | some ad => exact ⟨ad, rfl⟩
            subst hA
            have hwi : wrap64 ((i : Int) + 1) = ((i + 1 : Nat) : Int) := by unfold wrap64; omega
            have hwm : wrap64 ((i : Int) - 1) = (i : Int) - 1 := by unfold wrap64; omega
            have h0i : (0 : Int) ≤ (i : Int) := by omega
            by_cases hlt : i < n
            · have hq : (i : Int) < (n : Int) := by omega
              have hcell := own_cells HOx.out ad rfl i (.int .i64 (1 + 24 * (i : Int))) (tab_get n i hlt)
              have hli := HLE.out i hlt
              by_cases hi0 : i = 0
              · subst hi0
                simp only [Int.natCast_zero, Int.mul_zero, Int.add_zero, add_zero_] at hcell
                by_cases P1 : 10 ≤ line ∧ line ≤ 200
                · have q : ¬ ((1 : Int) > line) := by omega
                  go_wp2_with fail
                  refine (within_t _ _ _ _ P1).mono ?_
                  rintro e w1 ⟨rfl, hb1⟩
                  have HB1 := Aside0.mk (HBx.out.trans (hb1.mono HBx.out.size))
                  have HO1 := Aside0.mk (ownsRow_kept (w' := w1) HOx.out (fun k e => hb1.block k (HOx.out.lt k e).2))
                  clear hb1 hcell
                  go_wp2_with fail
                  exact ⟨⟨_, hlt, rfl, HB1, HO1⟩, by first | (simp [intOf]; done) | (simp [intOf]; omega)⟩
                · clear hli
                  go_wp2_with fail
                  refine (within_f _ _ _ _ P1).mono ?_
                  rintro e w1 ⟨rfl, hb1⟩
                  have HB1 := Aside0.mk (HBx.out.trans (hb1.mono HBx.out.size))
                  have HO1 := Aside0.mk (ownsRow_kept (w' := w1) HOx.out (fun k e => hb1.block k (HOx.out.lt k e).2))
                  clear hb1 hcell
                  go_wp2_with fail
                  exact ⟨⟨_, hlt, rfl, HB1, HO1⟩, by first | (simp [intOf]; done) | (simp [intOf]; omega)⟩
              · have hti : 1 + 24 * (i : Int) ≤ line := by rcases hli with h | h; exact absurd h hi0; exact h
                have hprev := own_cells HOx.out ad rfl (i - 1) (.int .i64 (1 + 24 * ((i - 1 : Nat) : Int))) (tab_get n (i - 1) (by omega))
                have him : ((i : Int) - 1).toNat = i - 1 := by omega
                have h0m : (0 : Int) ≤ (i : Int) - 1 := by omega
                have hqm : (i : Int) - 1 < (n : Int) := by omega
                have q0 : ¬ ((i : Int) = 0) := by omega
                have e0 : ((i : Int) == 0) = false := by rw [beq_eq_false_iff_ne]; exact q0
                have d0 : decide ((i : Int) > 0) = true := decide_eq_true (by omega)
                generalize htv : 1 + 24 * (i : Int) = ti at hcell hti
                generalize htp : 1 + 24 * ((i - 1 : Nat) : Int) = tp at hprev
                have hdl : decide (ti ≤ tp) = false := decide_eq_false (by omega)
                clear hli htv htp
                by_cases P1 : 10 ≤ line ∧ line ≤ 200
                · have q : ¬ (ti > line) := by omega
                  have dq : decide (ti > line) = false := decide_eq_false q
                  go_wp2_with fail
                  refine (within_t _ _ _ _ P1).mono ?_
                  rintro e w1 ⟨rfl, hb1⟩
                  have HB1 := Aside0.mk (HBx.out.trans (hb1.mono HBx.out.size))
                  have HO1 := Aside0.mk (ownsRow_kept (w' := w1) HOx.out (fun k e => hb1.block k (HOx.out.lt k e).2))
                  clear hb1 hcell
                  go_wp2_with fail
                  exact ⟨⟨_, hlt, rfl, HB1, HO1⟩, by first | (simp [intOf]; done) | (simp [intOf]; omega)⟩
                · skip
                  go_wp2_with fail
                  refine (within_f _ _ _ _ P1).mono ?_
                  rintro e w1 ⟨rfl, hb1⟩
                  have HB1 := Aside0.mk (HBx.out.trans (hb1.mono HBx.out.size))
                  have HO1 := Aside0.mk (ownsRow_kept (w' := w1) HOx.out (fun k e => hb1.block k (HOx.out.lt k e).2))
                  clear hb1 hcell
                  go_wp2_with fail
                  exact ⟨⟨_, hlt, rfl, HB1, HO1⟩, by first | (simp [intOf]; done) | (simp [intOf]; omega)⟩
            · obtain rfl : i = n := by omega
              have hq : ¬ (i : Int) < (i : Int) := by omega
              by_cases P1 : 10 ≤ line ∧ line ≤ 200
              · go_wp2_with fail
                refine (within_t _ _ _ _ P1).mono ?_
                rintro e w1 ⟨rfl, hb1⟩
                have HB1 := Aside0.mk (HBx.out.trans (hb1.mono HBx.out.size))
                have HO1 := Aside0.mk (ownsRow_kept (w' := w1) HOx.out (fun k e => hb1.block k (HOx.out.lt k e).2))
                clear hb1
                by_cases P2 : 1 ≤ page ∧ page ≤ 200
                · go_wp2_with fail
                  refine (within_t _ _ _ _ P2).mono ?_
                  rintro e w2 ⟨rfl, hb2⟩
                  have HB2 := Aside0.mk (HB1.out.trans (hb2.mono HB1.out.size))
                  have HO2 := Aside0.mk (ownsRow_base (ownsRow_kept (w' := w2) HO1.out (fun k e => hb2.block k (HO1.out.lt k e).2)) (Nat.zero_le _))
                  clear hb2
                  go_wp2_with fail
                  refine (clone3_is (.slice (some ad) i c) i (nums .i64 (tabN i)) w2 HO2.out (by simp [nums, Value.oneCell']) (by omega)).mono ?_
                  rintro e w3 ⟨A3, c3, rfl, hown, hb3⟩
                  have HB3 := Aside0.mk (HB2.out.trans (hb3.mono HB2.out.size))
                  have HO3 := Aside0.mk hown
                  clear hb3 hown
                  go_wp2_with fail
                  exact H1.out (HT1.out P1 P2) _ i _ (madeN HB3.out HO3.out HB2.out.size)
                · go_wp2_with fail
                  refine (within_f _ _ _ _ P2).mono ?_
                  rintro e w2 ⟨rfl, hb2⟩
                  have HB2 := Aside0.mk (HB1.out.trans (hb2.mono HB1.out.size))
                  clear hb2
                  go_wp2_with fail
                  exact H2.out (HF2.out P2) _ HB2.out
              · go_wp2_with fail
                refine (within_f _ _ _ _ P1).mono ?_
                rintro e w1 ⟨rfl, hb1⟩
                have HB1 := Aside0.mk (HBx.out.trans (hb1.mono HBx.out.size))
                clear hb1
                go_wp2_with fail
                exact H2.out (HF1.out P1) _ HB1.out
theorem new_nil (line page : Int) (w : World) : Calls Try.prog 7 #[.int .i64 line, .int .i64 page, .slice none 0 0] w fun e w' =>
    (lineOk line page = true ∧ ∃ p k, e = .returned (.tuple #[.pointer (some ⟨p, 0, none⟩), .int .i64 0]) ∧ PgAt (fun _ => False) w w' p (pgN line page k)) ∨ (lineOk line page = false ∧ e = .returned (.tuple #[.pointer none, .int .i64 7]) ∧ Below w.heap.size w w') :=
  new_any line page w _ (fun h p k w' hp => .inl ⟨h, p, k, rfl, hp⟩) (fun h w' hb => .inr ⟨h, rfl, hb⟩)
end Go.Proofs.Ytjamaccblokfkaa.P

-- from the text Hi
namespace Go.Proofs.Ytjamaccblokfkaa.P
open Go.RowKit Go.Proofs.YtjamaccblokfkaaW.PrintWords Go.Proofs.YtjamaccblokfkaaW.PrintLast Go.Proofs.YtjamaccblokfkaaW.PrintMore
set_option linter.unusedVariables false
set_option linter.unusedSimpArgs false
theorem wl_one34 {ops : Array Oper} {rest : List Oper} {o : Oper} {a : Act} {Q : Exit → Act → World → Prop} {W : World} {s x : Operand} (base : Nat) (g0 : Nat) (v : Value) (hgd : o.guard = none) (ho : o.op = .call { callee := .builtin .append, args := #[s, x], argTypes := #[32, 32] })
    (hs : a.eval s = .slice none 0 0) (hx : a.eval x = .slice (some ⟨g0, 0, none⟩) 1 1) (hg : W.heap[g0]? = some (.cells #[v] 34 (0, 0))) (h1 : v.oneCell' = true) (hb : base ≤ W.heap.size)
    (h : ∀ g cap w', w'.ownsRow base 34 1 (.slice (some ⟨g, 0, none⟩) 1 cap) 1 [v] → W.grownBy w' none → wpList Try.prog ops Q rest (a.put o.dst (.slice (some ⟨g, 0, none⟩) 1 cap)) w') : wpList Try.prog ops Q (o :: rest) a W := by
  obtain ⟨i0, hi, hz0, hz1, hz2⟩ := info_parts info34
  refine wpList_append_own W hgd s x 32 ho base 34 i0 _ 1 24 Try.underlying32 hi hz0 hz1 hz2 rfl (by decide) (.slice none 0 0) 0 [] hs (World.ownsRow_nil _ _ _ _) ⟨g0, 0, none⟩ 1 1 [v] hx rfl (fun j u hj => by rw [add_plain]; exact (blk_cell hg j).trans (by simpa using hj)) (by simp [h1]) (by decide) (by decide) hb (fun v' w' h1 h2 _ => ?_)
  obtain ⟨g2, cap, rfl, _, _⟩ := h1.form (by omega)
  exact h g2 cap w' h1 h2
theorem step_own9 {ops : Array Oper} {o : Oper} {a : Act} {K : Act → World → Prop} {Q : Exit → Act → World → Prop} {W : World} {s x : Operand} {fv : Value} {n : Nat} {xs : List Value} {N : Tmp} (g0 : Nat) (t : ByteArray) (hw : Region.wanted o (yielded ops a.tmps) = true) (hN : o.dst = some N) (ho : o.op = .call { callee := .builtin .append, args := #[s, x], argTypes := #[34, 34] })
    (hs : a.eval s = fv) (hrow : W.ownsRow 0 9 1 fv n xs) (hx : a.eval x = .slice (some ⟨g0, 0, none⟩) 1 1) (hb : W.heap[g0]? = some (.cells #[.string t] 9 (0, 0))) (hn : n ≤ 1000000)
    (h : ∀ g cap w', w'.ownsRow 0 9 1 (.slice (some ⟨g, 0, none⟩) (n + 1) cap) (n + 1) (xs ++ [.string t]) → W.grownBy w' fv.ownBlock → (fv.ownBlock = some g ∨ g = W.heap.size) → g < w'.heap.size → K (a.put (some N) (.slice (some ⟨g, 0, none⟩) (n + 1) cap)) w') : if Region.wanted o (yielded ops a.tmps) = true then Oper.wp Try.prog o a W K Q else K (a.put (some N) undef) W := by
  obtain ⟨i0, hi, hz0, hz1, hz2⟩ := info_parts info9
  rw [if_pos hw]
  refine wp_append_lies W s x 34 ho 0 9 i0 _ 1 16 Try.underlying34 hi hz0 hz1 hz2 rfl (by decide) fv n xs hs hrow ⟨g0, 0, none⟩ 1 1 [.string t] hx rfl
    (fun j u hj => by rw [add_plain]; exact (blk_cell hb j).trans (by simpa using hj)) (by simp [Value.oneCell']) (by decide) (by simp only [maxLen]; omega) (by omega) (Nat.zero_le _) _ rfl ?_
  rw [hN]
  exact h
theorem cell_set {w : World} {g : Nat} {u : Value} (h : w.cell? ⟨g, 0, none⟩ = some u) (v : Value) : (w.setCell ⟨g, 0, none⟩ v).cell? ⟨g, 0, none⟩ = some v := by
  go_simp
def shown (s : Pg) : List ByteArray := if s.put = true then s.L ++ [strOfNums s.now] else s.L
theorem oneCell_strs (l : List ByteArray) : ∀ x ∈ strs l, x.oneCell' = true := by
  intro x hx
  simp only [strs, List.mem_map] at hx
  obtain ⟨a, _, rfl⟩ := hx
  rfl
/-- What Pages hands back: one page, its lines. -/
def Tells (w w' : World) (v : Value) (l : List ByteArray) : Prop := ∃ g cap A c, v = .slice (some ⟨g, 0, none⟩) 1 cap ∧ w'.cell? ⟨g, 0, none⟩ = some (.slice A l.length c) ∧ w'.ownsRow 0 9 1 (.slice A l.length c) l.length (strs l) ∧ Below w.heap.size w w' ∧ ∃ cs, w'.heap[g]? = some (Obj.cells cs 34 (0, 0))
set_option maxRecDepth 100000 in
set_option maxHeartbeats 8000000 in
theorem pages_is (p : Nat) (s : Pg) (F : Nat → Prop) (w0 w : World) (h : PgAt F w0 w p s) (hn : s.L.length ≤ 100000) :
    Calls Try.prog 11 #[.pointer (some ⟨p, 0, none⟩)] w fun e w' => ∃ v, e = .returned v ∧ Tells w w' v (shown s) := by
  obtain ⟨⟨g, rv, tv, nv, hM, hF⟩, hT⟩ := h
  obtain ⟨A, c, hrv⟩ := own_slice hM.row
  subst hrv
  obtain ⟨An, cn, hnv⟩ := own_slice hM.now
  subst hnv
  have HROW := Aside0.mk hM.row
  have HNOW := Aside0.mk hM.now
  have HH := Aside0.mk hM.head
  have HG := Aside0.mk hM.pages
  clear hM hF hT
  obtain ⟨ln, col, sz, rows, tabs, L, now, put, due⟩ := s
  have HS := Aside0.mk (show shown ⟨ln, col, sz, rows, tabs, L, now, put, due⟩ = if put = true then L ++ [strOfNums now] else L from rfl)
  dsimp only at HH HG HNOW HROW hn ⊢
  generalize shown ⟨ln, col, sz, rows, tabs, L, now, put, due⟩ = sh at *
  generalize hln : L.length = n at *
  have HLN := Aside0.mk hln
  clear hln
  generalize hnl : now.length = m at *
  clear hnl
  have c5 := (blk_cell HH.out 5).trans rfl
  go_enter Try.func11, Try.ntmps11
  go_wp2_with fail
  go_loopw [3, 5, 14] (fun q _ v wr => Aside0 (Below w.heap.size w wr) ∧ ((v = .int .i64 0 ∧ q = .slice none 0 0) ∨ (v = .int .i64 1 ∧ ∃ g2 cap A2 c2, q = .slice (some ⟨g2, 0, none⟩) 1 cap ∧ Aside0 (wr.ownsRow w.heap.size 34 1 (.slice (some ⟨g2, 0, none⟩) 1 cap) 1 [.slice A2 n c2] ∧ wr.ownsRow w.heap.size 9 1 (.slice A2 n c2) n (strs L))))) (fun _ _ v _ => 1 - (intOf v).toNat)
  case atStart => exact ⟨⟨Below.refl _ _⟩, .inl ⟨rfl, rfl⟩⟩
  case round =>
    obtain ⟨HB, ⟨rfl, rfl⟩ | ⟨rfl, g2, cap, A2, c2, rfl, HR⟩⟩ := hrel
    · have cg := (blk_cell (blk_below HG.out HB.out) 0).trans rfl
      go_wp2_with fail
      refine (clone9_is (.slice A n c) n (strs L) wr (own_below HROW.out HB.out) (oneCell_strs L) (by omega)).mono ?_
      rintro e w1 ⟨A2, c2, rfl, hown, hb1⟩
      have hal := (Below.refl w1.heap.size w1).alloc (Nat.le_refl _) (.cells #[.slice A2 n c2] 34 (0, 0))
      have hsz := HB.out.size
      have HB1 := Aside0.mk ((HB.out.trans (hb1.mono hsz)).trans (hal.mono (Nat.le_trans hsz hb1.size)))
      have HO1 := Aside0.mk (ownsRow_base (ownsRow_kept hown (fun k e => hal.block k (hown.lt k e).2)) hsz)
      have HN1 := Aside0.mk (blk_new w1 (.cells #[.slice A2 n c2] 34 (0, 0)))
      have HS1 := Aside0.mk (Nat.le_trans hsz hb1.size)
      clear hown hb1 cg hal hsz
      go_wp2_with ((with_reducible refine gate_dst (N := 22) rfl ?_); refine wl_one34 w.heap.size w1.heap.size (.slice A2 n c2) rfl rfl rfl rfl HN1.out rfl HB1.out.size ?_; intro g2 cap w2 hown2 hgrow; have HR := Aside0.mk (And.intro hown2 (ownsRow_kept HO1.out (fun k e => hgrow.block k (HO1.out.lt k e).2 (fun e => by cases e)))); have HB2 := Aside0.mk (HB1.out.grown hgrow HB1.out.size (fun k e => by cases e)); clear hown2 hgrow)
      exact ⟨⟨HB2, .inr ⟨rfl, g2, cap, A2, c2, rfl, HR⟩⟩, by simp [intOf]⟩
    · have c8 := (blk_cell (blk_below HH.out HB.out) 8).trans rfl
      cases put with
      | false =>
        go_wp2_with fail
        go_ret
        refine ⟨_, rfl, g2, cap, A2, c2, rfl, ?_⟩
        rw [HS.out]
        simp only [Bool.false_eq_true, if_false]
        rw [HLN.out]
        exact ⟨by have := own_cells HR.out.1 ⟨g2, 0, none⟩ rfl 0 _ rfl; rwa [add_plain] at this, ownsRow_base HR.out.2 (Nat.zero_le _), HB.out, own_type HR.out.1 rfl⟩
      | true =>
        go_wp2_with fail
        refine start_ (n := 15) (S := fun W => Below wr.heap.size wr W) (ds := [12, 14]) #[false, false, false, false, false, false, false, false, false, false, false, false, false, false, false] (by kernel_rfl) rfl rfl (Below.refl _ _).drew (fun hHeld => ?_)
        generalize wr.drew = w1 at hHeld ⊢
        clear c8
        refine pure_ (i := 0) (N := some 31) (v := ?_) (a' := ?_) #[true, false, false, false, false, false, false, false, false, false, false, false, false, false, false] rfl rfl (by kernel_rfl) (fun _ _ _ h => h) (Or.inl ⟨by rfl, ?_⟩) ?_ ?_
        rotate_left
        · intro w_
          go_simp
          with_reducible rfl
        rotate_left
        · simp only [Act.put, List.setIfInBounds_toArray, List.set_cons_zero, List.set_cons_succ, i64_w, i32_w]
          rfl
        refine pure_ (i := 1) (N := some 32) (v := ?_) (a' := ?_) #[true, true, false, false, false, false, false, false, false, false, false, false, false, false, false] rfl rfl (by kernel_rfl) (fun _ _ _ h => h) (Or.inl ⟨by rfl, ?_⟩) ?_ ?_
        rotate_left
        · intro w_
          go_simp
          with_reducible rfl
        rotate_left
        · simp only [Act.put, List.setIfInBounds_toArray, List.set_cons_zero, List.set_cons_succ, i64_w, i32_w]
          rfl
        refine pure_ (i := 2) (N := some 33) (v := ?_) (a' := ?_) #[true, true, true, false, false, false, false, false, false, false, false, false, false, false, false] rfl rfl (by kernel_rfl) (fun _ _ _ h => h) (Or.inl ⟨by rfl, ?_⟩) ?_ ?_
        rotate_left
        · intro w_
          go_simp
          with_reducible rfl
        rotate_left
        · simp only [Act.put, List.setIfInBounds_toArray, List.set_cons_zero, List.set_cons_succ, i64_w, i32_w]
          rfl
        refine pure_ (i := 3) (N := some 34) (v := ?_) (a' := ?_) #[true, true, true, true, false, false, false, false, false, false, false, false, false, false, false] rfl rfl (by kernel_rfl) (fun _ _ _ h => h) (Or.inl ⟨by rfl, ?_⟩) ?_ ?_
        rotate_left
        · intro w_
          go_simp
          with_reducible rfl
        rotate_left
        · simp only [Act.put, List.setIfInBounds_toArray, List.set_cons_zero, List.set_cons_succ, i64_w, i32_w]
          rfl
        refine pure_ (i := 4) (N := some 35) (v := ?_) (a' := ?_) #[true, true, true, true, true, false, false, false, false, false, false, false, false, false, false] rfl rfl (by kernel_rfl) (fun _ _ _ h => h) (Or.inl ⟨by rfl, ?_⟩) ?_ ?_
        rotate_left
        · intro w_
          go_simp
          with_reducible rfl
        rotate_left
        · simp only [Act.put, List.setIfInBounds_toArray, List.set_cons_zero, List.set_cons_succ, i64_w, i32_w]
          rfl
        refine take_ (i := 5) (N := some 36) (v := ?_) (a' := ?_) #[true, true, true, true, true, true, false, false, false, false, false, false, false, false, false] rfl rfl (by kernel_rfl) (fun _ _ _ h => h) (Or.inl ⟨by rfl, ?_⟩) hHeld ?_ ?_
        rotate_left
        · rintro w_ hs_
          have s0 := pw_cell_below hs_ (own_cells HR.out.1 ⟨g2, 0, none⟩ rfl 0 _ rfl)
          rw [add_plain] at s0
          go_simp
          with_reducible rfl
        rotate_left
        · simp only [Act.put, List.setIfInBounds_toArray, List.set_cons_zero, List.set_cons_succ, i64_w, i32_w]
          rfl
        refine pure_ (i := 6) (N := some 37) (v := ?_) (a' := ?_) #[true, true, true, true, true, true, true, false, false, false, false, false, false, false, false] rfl rfl (by kernel_rfl) (fun _ _ _ h => h) (Or.inl ⟨by rfl, ?_⟩) ?_ ?_
        rotate_left
        · intro w_
          go_simp
          with_reducible rfl
        rotate_left
        · simp only [Act.put, List.setIfInBounds_toArray, List.set_cons_zero, List.set_cons_succ, i64_w, i32_w]
          rfl
        refine pure_ (i := 7) (N := some 38) (v := ?_) (a' := ?_) #[true, true, true, true, true, true, true, true, false, false, false, false, false, false, false] rfl rfl (by kernel_rfl) (fun _ _ _ h => h) (Or.inl ⟨by rfl, ?_⟩) ?_ ?_
        rotate_left
        · intro w_
          go_simp
          with_reducible rfl
        rotate_left
        · simp only [Act.put, List.setIfInBounds_toArray, List.set_cons_zero, List.set_cons_succ, i64_w, i32_w]
          rfl
        refine pure_ (i := 8) (N := some 39) (v := ?_) (a' := ?_) #[true, true, true, true, true, true, true, true, true, false, false, false, false, false, false] rfl rfl (by kernel_rfl) (fun _ _ _ h => h) (Or.inl ⟨by rfl, ?_⟩) ?_ ?_
        rotate_left
        · intro w_
          go_simp
          with_reducible rfl
        rotate_left
        · simp only [Act.put, List.setIfInBounds_toArray, List.set_cons_zero, List.set_cons_succ, i64_w, i32_w]
          rfl
        refine take_ (i := 9) (N := some 40) (v := ?_) (a' := ?_) #[true, true, true, true, true, true, true, true, true, true, false, false, false, false, false] rfl rfl (by kernel_rfl) (fun _ _ _ h => h) (Or.inl ⟨by rfl, ?_⟩) hHeld ?_ ?_
        rotate_left
        · rintro w_ hs_
          have s0 := (blk_cell (blk_below (blk_below HH.out HB.out) hs_) 7).trans rfl
          go_simp
          with_reducible rfl
        rotate_left
        · simp only [Act.put, List.setIfInBounds_toArray, List.set_cons_zero, List.set_cons_succ, i64_w, i32_w]
          rfl
        refine take_ (i := 10) (N := some 41) (v := ?_) (a' := ?_) #[true, true, true, true, true, true, true, true, true, true, true, false, false, false, false] rfl rfl (by kernel_rfl) (fun _ _ _ h => h) (Or.inl ⟨by rfl, ?_⟩) hHeld ?_ ?_
        rotate_left
        · rintro w_ hs_
          have hcv := own_string Try.underlying48 Try.underlying5 Try.underlying9 (own_below (own_below HNOW.out HB.out) hs_)
          go_simp
          with_reducible rfl
        rotate_left
        · simp only [Act.put, List.setIfInBounds_toArray, List.set_cons_zero, List.set_cons_succ, i64_w, i32_w]
          rfl
        refine one_ (i := 11) (N := some 42) #[true, true, true, true, true, true, true, true, true, true, true, true, false, false, false] rfl rfl (by kernel_rfl) (by decide) (fun K' hK => ?_)
        refine value_ (w1 := w1.alloc (.cells #[.string (strOfNums now)] 9 (0, 0))) (v := .slice (some ⟨w1.heap.size, 0, none⟩) 1 1) (by rfl) rfl ?_ ?_
        · go_simp
        have HN := Aside0.mk (blk_new w1 (.cells #[.string (strOfNums now)] 9 (0, 0)))
        have hb5 := (Below.refl w1.heap.size w1).alloc (Nat.le_refl _) (.cells #[.string (strOfNums now)] 9 (0, 0))
        refine hK.out _ _ (hHeld.trans (hb5.mono hHeld.size)) (fun hHeld => ?_)
        clear hK K' hb5
        generalize w1.alloc (.cells #[.string (strOfNums now)] 9 (0, 0)) = w2 at hHeld HN ⊢
        generalize w1.heap.size = g0 at HN ⊢
        refine norm_ (a' := ?_) ?_ ?_
        rotate_left
        · show Act.put _ (some 42) _ = _
          simp only [Act.put, List.setIfInBounds_toArray, List.set_cons_zero, List.set_cons_succ, i64_w, i32_w]
          rfl
        refine last_ (i := 12) (N := some 43) #[true, true, true, true, true, true, true, true, true, true, true, true, true, false, false] rfl rfl (by kernel_rfl) (by decide) (fun K' hK => ?_)
        refine step_own9 g0 (strOfNums now) (by rfl) rfl rfl rfl (ownsRow_base (ownsRow_kept HR.out.2 (fun k e => hHeld.block k (HR.out.2.lt k e).2)) (Nat.zero_le _)) rfl HN.out (by omega) ?_
        intro g3 cap3 w3 hown hgrow hat hlt
        refine hK.out _ _ ?_
        clear hK K'
        refine norm_ (a' := ?_) ?_ ?_
        rotate_left
        · show Act.put _ (some 43) _ = _
          simp only [Act.put, List.setIfInBounds_toArray, List.set_cons_zero, List.set_cons_succ, i64_w, i32_w]
          rfl
        refine pure_ (i := 13) (N := some 44) (v := ?_) (a' := ?_) #[true, true, true, true, true, true, true, true, true, true, true, true, true, true, false] rfl rfl (by kernel_rfl) (fun _ _ _ h => h) (Or.inl ⟨by rfl, ?_⟩) ?_ ?_
        rotate_left
        · intro w_
          go_simp
          with_reducible rfl
        rotate_left
        · simp only [Act.put, List.setIfInBounds_toArray, List.set_cons_zero, List.set_cons_succ, i64_w, i32_w]
          rfl
        have hsz := HB.out.size
        have hB2 : Below w.heap.size w w3 := (HB.out.trans (hHeld.mono hsz)).grown hgrow (Nat.le_trans hsz hHeld.size) (fun k e => own_ge HR.out.2 e)
        obtain ⟨cur2, hc2⟩ := own_type HR.out.1 rfl
        have g23 : w3.heap[g2]? = wr.heap[g2]? := (hgrow.block g2 (Nat.lt_of_lt_of_le (blk_lt' hc2) hHeld.size) (fun e => by
          obtain ⟨c9, hc9⟩ := own_type HR.out.2 e.symm
          exact type_ne hc2 hc9 (by decide) rfl)).trans (hHeld.block g2 (blk_lt' hc2))
        have hrow3 := ownsRow_kept HR.out.1 (w' := w3) (fun k e => by cases e; exact g23)
        have hcg := own_cells hrow3 ⟨g2, 0, none⟩ rfl 0 _ rfl
        rw [add_plain] at hcg
        have hfg := blk_frozen (g23.trans hc2) 0
        refine last_ (i := 14) (N := none) #[true, true, true, true, true, true, true, true, true, true, true, true, true, true, true] rfl rfl (by kernel_rfl) (by decide) (fun K' hK => ?_)
        refine skip_ (w1 := ?_) (by rfl) rfl ?_ ?_
        rotate_left
        · go_simp
          rfl
        refine hK.out _ _ ?_
        clear hK K'
        refine done_ (by kernel_rfl) ?_
        go_wp2_with fail
        go_ret
        have hsh : sh = L ++ [strOfNums now] := HS.out.trans (if_pos trivial)
        have hl1 : (L ++ [strOfNums now]).length = n + 1 := by rw [List.length_append, HLN.out]; rfl
        refine ⟨_, rfl, g2, cap, some ⟨g3, 0, none⟩, cap3, rfl, ?_⟩
        rw [hsh, hl1]
        have g3ne : g3 ≠ g2 := by
          obtain ⟨c9, hc9⟩ := own_type hown rfl
          exact type_ne hc9 (g23.trans hc2) (by decide)
        refine ⟨cell_set hcg _, ?_, hB2.setCell (p := ⟨g2, 0, none⟩) (own_ge HR.out.1 rfl) _, _, blk_put (g23.trans hc2) 0 _ rfl⟩
        have hs9 : strs (L ++ [strOfNums now]) = strs L ++ [.string (strOfNums now)] := by simp [strs]
        rw [hs9]
        exact ownsRow_kept hown (fun k e => by cases e; exact Below.heap_setCell w3 _ _ g3 g3ne)
end Go.Proofs.Ytjamaccblokfkaa.P

-- from the text Hj
namespace Go.Proofs.Ytjamaccblokfkaa.P
open Go.RowKit Go.Proofs.YtjamaccblokfkaaW.PrintWords Go.Proofs.YtjamaccblokfkaaW.PrintLast Go.Proofs.YtjamaccblokfkaaW.PrintMore
set_option linter.unusedVariables false
set_option linter.unusedSimpArgs false
def abc : ByteArray := ⟨#[97, 98, 99]⟩
def de : ByteArray := ⟨#[100, 101]⟩
def pg1 : Pg := ⟨1, 5, 10, 2, [1, 6], [], [97, 98, 99], true, false⟩
def pg2 : Pg := ⟨1, 9, 10, 2, [1, 6], [], [97, 98, 99, 32, 32, 100, 101], true, false⟩
def abcde : ByteArray := ⟨#[97, 98, 99, 32, 32, 100, 101]⟩
def pg3 : Pg := ⟨2, 1, 10, 2, [1, 6], [abcde], [], false, false⟩
def pg4 : Pg := ⟨3, 1, 10, 2, [1, 6], [abcde, ⟨#[]⟩], [], false, true⟩
theorem pg1_eq : pItem pg0 1 abc = pg1 := by kernel_rfl
theorem pg2_eq : pItem pg1 6 de = pg2 := by kernel_rfl
theorem pg3_eq : pSkip pg2 1 = pg3 := by kernel_rfl
theorem pg4_eq : pSkip pg3 1 = pg4 := by kernel_rfl
theorem ok0 : Ok 0 pg0 := ⟨by decide, by decide, by decide, by decide, by decide, by decide⟩
theorem ok1 : Ok 0 pg1 := ⟨by decide, by decide, by decide, by decide, by decide, by decide⟩
theorem ok2 : Ok 0 pg2 := ⟨by decide, by decide, by decide, by decide, by decide, by decide⟩
theorem ok3 : Ok 1 pg3 := ⟨by decide, by decide, by decide, by decide, by decide, by decide⟩
theorem item1 (p : Nat) (F : Nat → Prop) (w0 w : World) (h : PgAt F w0 w p pg0) : Calls Try.prog 15 #[.pointer (some ⟨p, 0, none⟩), .string ⟨#[97, 98, 99]⟩] w fun e w' => e = .returned (.tuple #[.int .i64 0, .int .i64 0]) ∧ PgAt F w0 w' p pg1 := by
  have := item_is p pg0 abc 0 F w0 w 0 (by decide) (fun j hj => by omega) (by decide) (by decide) (by decide) (by decide) h ok0 (by decide) (by decide) (by kernel_rfl)
  rw [show pItem pg0 (pg0.tabs.getD 0 0) abc = pg1 from pg1_eq] at this
  exact this
theorem item2 (p : Nat) (F : Nat → Prop) (w0 w : World) (h : PgAt F w0 w p pg1) : Calls Try.prog 15 #[.pointer (some ⟨p, 0, none⟩), .string ⟨#[100, 101]⟩] w fun e w' => e = .returned (.tuple #[.int .i64 0, .int .i64 0]) ∧ PgAt F w0 w' p pg2 := by
  have := item_is p pg1 de 0 F w0 w 1 (by decide) (fun j hj => by obtain rfl : j = 0 := (by omega); decide) (by decide) (by decide) (by decide) (by decide) h ok1 (by decide) (by decide) (by kernel_rfl)
  rw [show pItem pg1 (pg1.tabs.getD 1 0) de = pg2 from pg2_eq] at this
  exact this
theorem skip1 (p : Nat) (F : Nat → Prop) (w0 w : World) (h : PgAt F w0 w p pg2) : Calls Try.prog 9 #[.pointer (some ⟨p, 0, none⟩), .int .i64 1] w fun e w' => e = .returned (.tuple #[.int .i64 0, .int .i64 0]) ∧ PgAt F w0 w' p pg3 := by
  have := skip_is p pg2 1 0 F w0 w h ok2 (by decide) (by decide) (by decide)
  rw [pg3_eq] at this
  exact this
theorem skip2 (p : Nat) (F : Nat → Prop) (w0 w : World) (h : PgAt F w0 w p pg3) : Calls Try.prog 9 #[.pointer (some ⟨p, 0, none⟩), .int .i64 1] w fun e w' => e = .returned (.tuple #[.int .i64 1, .int .i64 0]) ∧ PgAt F w0 w' p pg4 := by
  have := skip_is p pg3 1 1 F w0 w h ok3 (by decide) (by decide) (by decide)
  rw [pg4_eq] at this
  exact this
theorem pages2 (p : Nat) (F : Nat → Prop) (w0 w : World) (h : PgAt F w0 w p pg2) : Calls Try.prog 11 #[.pointer (some ⟨p, 0, none⟩)] w fun e w' => ∃ g cap g9 c, e = .returned (.slice (some ⟨g, 0, none⟩) 1 cap) ∧ w'.cell? ⟨g, 0, none⟩ = some (.slice (some ⟨g9, 0, none⟩) 1 c) ∧ w'.cell? ⟨g9, 0, none⟩ = some (.string ⟨#[97, 98, 99, 32, 32, 100, 101]⟩) ∧ Below w.heap.size w w' := by
  refine (pages_is p pg2 F w0 w h (by decide)).mono ?_
  rintro e w' ⟨v, rfl, g, cap, A, c, rfl, h1, h2, h3, _⟩
  have hs : shown pg2 = [⟨#[97, 98, 99, 32, 32, 100, 101]⟩] := by kernel_rfl
  rw [hs] at h1 h2
  rcases h2.2 with ⟨_, h⟩ | ⟨g9, cap9, cur, e, _⟩
  · cases h
  · cases e
    have h9 := own_cells h2 ⟨g9, 0, none⟩ rfl 0 _ rfl
    rw [add_plain] at h9
    exact ⟨g, cap, g9, _, rfl, h1, h9, h3⟩
set_option maxRecDepth 100000 in
set_option maxHeartbeats 4000000 in
theorem awake_is (w : World) : Calls Try.prog 6 #[] w fun e w' => e = .returned (.bool true) ∧ Below w.heap.size w w' := by
  have HB := Aside0.mk ((Below.refl w.heap.size w).alloc (Nat.le_refl _) (.cells #[.int .i64 1, .int .i64 6] 3 (0, 0)))
  have HN := Aside0.mk (new_16 w.heap.size (w.alloc (.cells #[.int .i64 1, .int .i64 6] 3 (0, 0))) (blk_new w _))
  go_enter Try.func6, Try.ntmps6
  go_wp2_with fail
  generalize w.alloc (.cells #[.int .i64 1, .int .i64 6] 3 (0, 0)) = wb at *
  refine HN.out.mono ?_
  rintro e w1 ⟨p, rfl, h1⟩
  have H1 := Aside0.mk h1
  clear h1 HN
  go_wp2_with fail
  refine (item1 p _ wb w1 H1.out).mono ?_
  rintro e w2 ⟨rfl, h2⟩
  have H2 := Aside0.mk h2
  clear h2 H1
  go_wp2_with fail
  refine (item2 p _ wb w2 H2.out).mono ?_
  rintro e w3 ⟨rfl, h3⟩
  have H3 := Aside0.mk h3
  clear h3 H2
  go_wp2_with fail
  refine (pages2 p _ wb w3 H3.out).mono ?_
  rintro e w4 ⟨g, cap, g9, c, rfl, c1, c2, hb4⟩
  have H4 := Aside0.mk (H3.out.step hb4)
  clear hb4 H3
  go_wp2_with fail
  refine (skip1 p _ wb w4 H4.out).mono ?_
  rintro e w5 ⟨rfl, h5⟩
  have H5 := Aside0.mk h5
  clear h5 H4 c1 c2
  go_wp2_with fail
  refine (skip2 p _ wb w5 H5.out).mono ?_
  rintro e w6 ⟨rfl, h6⟩
  have H6 := Aside0.mk h6
  clear h6 H5
  go_wp2_with fail
  go_ret
  exact ⟨rfl, HB.out.trans (H6.out.2.below.mono HB.out.size)⟩
end Go.Proofs.Ytjamaccblokfkaa.P

-- from the text Shelf
namespace Go.Proofs
open Go.Shelf
def Try.lays169_ren : Go.Shelf.Ren := ⟨fun | 169 => 32 | n => n, fun | 70 => 55 | 9 => 9 | 0 => 0 | 72 => 57 | 37 => 48 | 127 => 74 | 3 => 3 | 5 => 5 | n => n, fun | n => n⟩
theorem Try.lays169 : Go.Proofs.Lays.n169 Try.prog Try.lays169_ren := {
  mixed := by kernel_rfl
  f169 := Try.func32.trans (congrArg some (by kernel_rfl))
  t0 := Try.underlying0
  a0 := Try.isAgg0
  z0 := Try.sizeOf0
  v0 := Try.zeroValue0
  t3 := Try.underlying3
  a3 := Try.isAgg3
  z3 := Try.sizeOf3
  v3 := Try.zeroValue3
  t9 := Try.underlying9
  a9 := Try.isAgg9
  z9 := Try.sizeOf9
  v9 := Try.zeroValue9
  t37 := Try.underlying48
  a37 := Try.isAgg48
  z37 := Try.sizeOf48
  v37 := Try.zeroValue48
  t70 := Try.underlying55
  a70 := Try.isAgg55
  z70 := Try.sizeOf55
  v70 := Try.zeroValue55
  t72 := Try.underlying57
  a72 := Try.isAgg57
  z72 := Try.sizeOf57
  v72 := Try.zeroValue57
  t127 := Try.underlying74
  a127 := Try.isAgg74
  z127 := Try.sizeOf74
  v127 := Try.zeroValue74 }
theorem Try.Builder_Extra_169 : Builder.Extra Try.prog Try.lays169_ren := {
  sizeBuilder := by kernel_rfl
  liesBuilder := by kernel_rfl
  t5 := Try.underlying5
  a5 := Try.isAgg5
  z5 := Try.sizeOf5
  v5 := Try.zeroValue5
  infoByte := by kernel_rfl
  cellsByte := by kernel_rfl
  sizeByte := by kernel_rfl
  neB5 := by decide }
open Go.RowKit in
theorem Try.Builder_String_any (B b : Nat) (l : List UInt8) (w : World) (h : Lib.IsBuilder 57 5 B b (Lib.byteCells l) w) (hBw : B ≤ w.heap.size) :
    Calls Try.prog 32 #[.pointer (some ⟨b, 0, none⟩)] w fun e w' => e = .returned (.string ⟨l.toArray⟩) ∧ Below B w w' := Any.Builder_String_any Try.lays169 Try.Builder_Extra_169 B b l w h hBw
end Go.Proofs

-- from the text Hm
namespace Go.Proofs.Ytjamaccblokfkaa.P
open Go.RowKit Go.Proofs.YtjamaccblokfkaaW.PrintWords Go.Proofs.YtjamaccblokfkaaW.PrintLast Go.Proofs.YtjamaccblokfkaaW.PrintMore
set_option linter.unusedVariables false
set_option linter.unusedSimpArgs false
theorem put_bad (p : Nat) (b : ByteArray) (w : World) (hb : b.size ≤ 20000) (hcl : cleanB b = false) :
    Calls Try.prog 8 #[.pointer (some ⟨p, 0, none⟩), .string b] w fun e w' => e = .returned (.tuple #[.int .i64 0, .int .i64 1]) ∧ Below w.heap.size w w' := by
  have HB := Aside0.mk (((Below.refl w.heap.size w).alloc (Nat.le_refl _) (.cells #[.pointer (some ⟨p, 0, none⟩)] 24 (0, 0))).alloc (by simp) (.cells #[.string b] 9 (0, 0)))
  have HA := Aside0.mk (fun W => said_is p b W hb)
  rw [hcl] at HA
  clear hcl
  go_enter Try.func8, Try.ntmps8
  go_wp2_with fail
  refine (HA.out _).mono ?_
  rintro e w1 ⟨rfl, hb1⟩
  have HB1 := Aside0.mk (HB.out.trans (hb1.mono HB.out.size))
  clear hb1
  go_wp2_with fail
  go_ret2
  exact ⟨rfl, HB1.out⟩
/-- Blocks of other types lie as they lay. -/
def KeepT (w w' : World) : Prop := ∀ (k : Nat) (cs : Array Value) (t : TypeId), w.heap[k]? = some (Obj.cells cs t (0, 0)) → t ≠ 57 → t ≠ 5 → w'.heap[k]? = some (Obj.cells cs t (0, 0))
theorem KeepT.trans {a b c : World} (h : KeepT a b) (k : KeepT b c) : KeepT a c := fun i cs t hc h1 h2 => k i cs t (h i cs t hc h1 h2) h1 h2
theorem KeepT.refl (a : World) : KeepT a a := fun i cs t hc _ _ => hc
theorem KeepT.set {w : World} {b i : Nat} {c : Array Value} {z : Nat × Nat} (hb : w.heap[b]? = some (.cells c 57 z)) (v : Value) : KeepT w (w.setCell ⟨b, i, none⟩ v) := fun k cs t hc h1 h2 =>
  (Below.heap_setCell w _ _ k (fun e => by subst e; have := hb.symm.trans hc; simp at this; exact h1 this.2.1.symm)).trans hc
theorem bsize : (Try.prog.info? 57).map (·.size) = some 2 := by kernel_rfl
theorem blies : liesAt Try.prog Try.prog.depth 57 (2 / Try.prog.cellsOf 57) 0 57 1 = true := by kernel_rfl
set_option maxHeartbeats 1000000 in
set_option maxRecDepth 100000 in
theorem copyCheck_used (b : Nat) (w : World) (h0 : w.cell? ⟨b, 0, none⟩ = some (.pointer (some ⟨b, 0, none⟩))) : Calls Try.prog 51 #[.pointer (some ⟨b, 0, none⟩)] w fun e w' => e = .returned (.tuple #[]) ∧ w' = w := by
  obtain ⟨j, hj, _⟩ := Option.map_eq_some_iff.1 bsize
  go_enter Try.func51, Try.ntmps51
  go_wp2
  rw [Lib.run_neq_ptr_same w _ Try.underlying55 hj]
  go_wp2
  go_end0
  exact ⟨rfl, rfl⟩
set_option maxHeartbeats 1000000 in
set_option maxRecDepth 100000 in
theorem copyCheck_fresh (b : Nat) (w : World) (h0 : w.cell? ⟨b, 0, none⟩ = some (.pointer none)) (hsh : w.shape? b = some (57, 2)) (hfz : w.frozen? ⟨b, 0, none⟩ = false) : Calls Try.prog 51 #[.pointer (some ⟨b, 0, none⟩)] w fun e w' => e = .returned (.tuple #[]) ∧ w' = w.setCell ⟨b, 0, none⟩ (.pointer (some ⟨b, 0, none⟩)) := by
  obtain ⟨j, hj, hjs⟩ := Option.map_eq_some_iff.1 bsize
  go_enter Try.func51, Try.ntmps51
  go_wp2
  rw [Lib.run_to_unsafe w ⟨b, 0, none⟩ Try.underlying55 Try.underlying77 hj (by rw [hjs]; decide) hsh (Nat.zero_lt_succ 1)]
  simp only [Result.andThen]
  rw [Oper.upon_value]
  go_wp2
  rw [run_callFunc_extern Try.func55 (by kernel_rfl) (by kernel_rfl) (by kernel_rfl) (e := Extern.AbiNoEscape.same) (by kernel_rfl)]
  rw [Lib.run_noEscape]
  simp only [Result.andThen]
  rw [Oper.upon_value]
  go_wp2
  rw [Lib.run_from_unsafe w ⟨b, 0, none⟩ Try.underlying77 Try.underlying55 hj hsh blies]
  simp only [Result.andThen]
  rw [Oper.upon_value]
  go_wp2
  go_end0
  exact ⟨rfl, rfl⟩
theorem copyCheck_is (B b : Nat) (bs : List Value) (w : World) (h : Lib.IsBuilder 57 5 B b bs w) : Calls Try.prog 51 #[.pointer (some ⟨b, 0, none⟩)] w fun e w' => e = .returned (.tuple #[]) ∧ (Lib.BuilderAt 57 5 B b (.pointer (some ⟨b, 0, none⟩)) bs w' ∧ Below B w w' ∧ KeepT w w') := by
  rcases h with h | h
  · refine (copyCheck_fresh b w h.cell0 h.shape h.frozen0).mono ?_
    rintro e w' ⟨rfl, rfl⟩
    exact ⟨rfl, h.used _, (Below.refl B w).setCell (p := ⟨b, 0, none⟩) h.1 _, by obtain ⟨_, v, hbk, _⟩ := h; exact KeepT.set hbk _⟩
  · refine (copyCheck_used b w h.cell0).mono ?_
    rintro e w' ⟨rfl, rfl⟩
    exact ⟨rfl, h, Below.refl B _, KeepT.refl _⟩
set_option maxHeartbeats 1000000 in
set_option maxRecDepth 100000 in
theorem writeString_is (B b : Nat) (bs : List Value) (s : ByteArray) (w : World) (h : Lib.IsBuilder 57 5 B b bs w) (hlen : bs.length + s.size ≤ 140737488355328) (hBw : B ≤ w.heap.size) :
    Calls Try.prog 31 #[.pointer (some ⟨b, 0, none⟩), .string s] w fun e w' => e = .returned (.tuple #[.int .i64 s.size, .nilIface]) ∧ (Lib.BuilderAt 57 5 B b (.pointer (some ⟨b, 0, none⟩)) (bs ++ Lib.strCells s) w' ∧ Below B w w' ∧ KeepT w w') := by
  obtain ⟨i0, hi, hz0, hz1, hz2⟩ := info_parts info5
  go_enter Try.func31, Try.ntmps31
  go_wp2_with (go_at_call 51; refine (copyCheck_is B b bs _ h).mono ?_)
  rintro e w1 ⟨rfl, h1, hb1, hk1⟩
  obtain ⟨hB, v, hbk, hown, hne⟩ := h1
  have c0 : w1.cell? ⟨b, 0, none⟩ = some (.pointer (some ⟨b, 0, none⟩)) := by rw [Lib.cell_of_heap hbk]; rfl
  have c1 : w1.cell? ⟨b, 1, none⟩ = some v := by rw [Lib.cell_of_heap hbk]; rfl
  go_wp2_with (at_builtin; refine Lib.wpList_append_own_string _ rfl _ _ 48 9 rfl B 5 i0 Try.underlying48 Try.underlying9 hi hz0 hz1 hz2 _ _ _ rfl hown s rfl ?c3 ?c4 ?c5 ?_)
  case c3 => unfold maxLen; omega
  case c4 => omega
  case c5 => have := hb1.size; omega
  intro v' w2 hown' hgrow _
  have hlt : b < w1.heap.size := blk_lt' hbk
  have hb2 : w2.heap[b]? = some (.cells #[.pointer (some ⟨b, 0, none⟩), v] 57 (0, 0)) := by
    rw [hgrow.block b hlt (fun e => hne e.symm)]
    exact hbk
  have d0 : w2.cell? ⟨b, 0, none⟩ = some (.pointer (some ⟨b, 0, none⟩)) := by rw [Lib.cell_of_heap hb2]; rfl
  have d1 : w2.cell? ⟨b, 1, none⟩ = some v := by rw [Lib.cell_of_heap hb2]; rfl
  have f1 : w2.frozen? ⟨b, 1, none⟩ = false := Lib.frozen_of_heap hb2 1
  obtain ⟨ao, n', cap, rfl⟩ : ∃ ao n' cap, v' = .slice ao n' cap := by
    rcases hown'.2 with ⟨hv, _⟩ | ⟨g, cap, cur, hv, _⟩
    · exact ⟨_, _, _, hv⟩
    · exact ⟨_, _, _, hv⟩
  go_wp2
  go_ret2
  refine ⟨rfl, ?_, ?_, hk1.trans (KeepT.trans (b := w2) (fun k cs t hc h1 h2 => (hgrow.block k (blk_lt' hc) (fun e => ?_)).trans hc) (KeepT.set hb2 _))⟩
  · exact Lib.BuilderAt.put (T := 57) (e := 5) hB hb2 (bs' := bs ++ Lib.strCells s) (by simpa [Lib.strCells_length] using hown') (by decide)
  · exact (hb1.grown hgrow (by have := hb1.size; omega) (fun k hk => (hown.lt k hk).1)).setCell (p := ⟨b, 1, none⟩) hB _
  · obtain ⟨cur, hcur⟩ := own_type hown e.symm
    have := hcur.symm.trans hc
    simp at this
    exact h2 this.2.symm
end Go.Proofs.Ytjamaccblokfkaa.P

-- from the text Hn
namespace Go.Proofs.Ytjamaccblokfkaa.P
open Go.RowKit Go.Proofs.YtjamaccblokfkaaW.PrintWords Go.Proofs.YtjamaccblokfkaaW.PrintLast Go.Proofs.YtjamaccblokfkaaW.PrintMore
set_option linter.unusedVariables false
set_option linter.unusedSimpArgs false
def textL (l : List ByteArray) : List UInt8 := (l.map fun s => s.data.toList ++ [10]).flatten
theorem textL_take (l : List ByteArray) (j : Nat) (h : j < l.length) : textL (l.take (j + 1)) = textL (l.take j) ++ (l[j].data.toList ++ [10]) := by
  unfold textL
  rw [List.take_add_one, List.map_append, List.flatten_append, List.getElem?_eq_getElem h]
  simp
theorem textL_le (l : List ByteArray) (j : Nat) : (textL (l.take j)).length ≤ (textL l).length := by
  have h : textL l = textL (l.take j) ++ textL (l.drop j) := by
    unfold textL
    rw [← List.flatten_append, ← List.map_append, List.take_append_drop]
  rw [h, List.length_append]; omega
set_option maxRecDepth 100000 in
set_option maxHeartbeats 8000000 in
theorem pageText_is (p : Nat) (s : Pg) (F : Nat → Prop) (w0 w : World) (h : PgAt F w0 w p s) (hn : s.L.length ≤ 100000) (hz : (textL (shown s)).length ≤ 1000000) :
    Calls Try.prog 10 #[.pointer (some ⟨p, 0, none⟩)] w fun e w' => e = .returned (.string ⟨(textL (shown s)).toArray⟩) ∧ Below w.heap.size w w' := by
  have HB := Aside0.mk ((Below.refl w.heap.size w).alloc (Nat.le_refl _) (.cells #[.pointer none, .slice none 0 0] 57 (0, 0)))
  have HP := Aside0.mk (blk_new w (.cells #[.pointer none, .slice none 0 0] 57 (0, 0)))
  have HPG := Aside0.mk (pages_is p s F w0 _ (h.step HB.out) hn)
  have hnl : (shown s).length ≤ 100001 := by
    unfold shown
    split
    · rw [List.length_append, List.length_singleton]; omega
    · omega
  clear h
  generalize shown s = sh at *
  have HZ := Aside0.mk hz
  obtain ⟨res, hres⟩ : ∃ r, (⟨(textL sh).toArray⟩ : ByteArray) = r := ⟨_, rfl⟩
  rw [hres]
  have HRES := Aside0.mk hres
  clear hz hres
  go_enter Try.func10, Try.ntmps10
  go_wp2_with fail
  refine HPG.out.mono ?_
  rintro e w1 ⟨v, rfl, g, cap, A, c, rfl, hc1, hrow, hb, cs, hg⟩
  have HB1 := Aside0.mk (HB.out.trans (hb.mono HB.out.size))
  have HBU := Aside0.mk (show Lib.IsBuilder 57 5 w.heap.size w.heap.size (Lib.byteCells (textL (sh.take 0))) w1 from .inl ⟨Nat.le_refl _, .slice none 0 0, blk_below HP.out hb, World.ownsRow_nil _ _ _ _, by simp [Value.ownBlock]⟩)
  have HC := Aside0.mk (fun W (hk : KeepT w1 W) => (show W.cell? ⟨g, 0, none⟩ = some (.slice A sh.length c) from by
    have h1 := hk g cs 34 hg (by decide) (by decide)
    exact (blk_cell h1 0).trans ((blk_cell hg 0).symm.trans hc1)))
  have HR := Aside0.mk (fun W (hk : KeepT w1 W) => (show W.ownsRow 0 9 1 (.slice A sh.length c) sh.length (strs sh) from ownsRow_kept hrow (fun k e => by
    obtain ⟨cs', hc'⟩ := own_type hrow e
    exact (hk k cs' 9 hc' (by decide) (by decide)).trans hc'.symm)))
  clear hb hc1 hrow hg HP HB HPG
  generalize hsl : sh.length = n at *
  have HSL := Aside0.mk hsl
  clear hsl
  go_wp2_with fail
  go_loopw [4, 5, 7, 11] (fun _ _ _ v wr => Aside0 (Below w.heap.size w wr ∧ KeepT w1 wr) ∧ ((v = .int .i64 0 ∧ Aside0 (Lib.IsBuilder 57 5 w.heap.size w.heap.size (Lib.byteCells (textL (sh.take 0))) wr)) ∨ (v = .int .i64 1 ∧ Aside0 (Lib.IsBuilder 57 5 w.heap.size w.heap.size (Lib.byteCells (textL sh)) wr)))) (fun _ _ _ v _ => 1 - (intOf v).toNat)
  case atStart => exact ⟨⟨HB1.out, KeepT.refl _⟩, .inl ⟨rfl, HBU⟩⟩
  case round =>
    obtain ⟨HK, ⟨rfl, HI⟩ | ⟨rfl, HI⟩⟩ := hrel
    · have cg := HC.out wr HK.out.2
      go_wp2_with fail
      clear cg HBU
      go_loopw [7, 21] (fun _ v wx => ∃ j : Nat, j ≤ n ∧ v = .int .i64 (j : Int) ∧ Aside0 (Below w.heap.size w wx ∧ KeepT w1 wx) ∧ Aside0 (Lib.IsBuilder 57 5 w.heap.size w.heap.size (Lib.byteCells (textL (sh.take j))) wx)) (fun _ v _ => n - (intOf v).toNat)
      case atStart => exact ⟨0, Nat.zero_le _, rfl, HK, HI⟩
      case round =>
        clear HK HI
        obtain ⟨j, hj, rfl, HK, HI⟩ := hrel
        have hwj : wrap64 ((j : Int) + 1) = ((j + 1 : Nat) : Int) := by unfold wrap64; omega
        have h0 : (0 : Int) ≤ (j : Int) := by omega
        by_cases hlt : j < n
        · have q1 : (j : Int) < (n : Int) := by omega
          obtain ⟨ad, hA⟩ : ∃ ad, A = some ad := by
            cases A with
            | none => have := (own_none (HR.out wr HK.out.2)).1; omega
            | some ad => exact ⟨ad, rfl⟩
          subst hA
          have hjl : j < sh.length := by rw [HSL.out]; exact hlt
          obtain ⟨st, hst⟩ : ∃ st, sh[j] = st := ⟨_, rfl⟩
          have HT := Aside0.mk (show textL (sh.take (j + 1)) = textL (sh.take j) ++ (st.data.toList ++ [10]) by rw [textL_take sh j hjl, hst])
          have hcell := own_cells (HR.out wr HK.out.2) ad rfl j (.string st) (by simp [strs, hjl, hst])
          have hlen : (textL (sh.take j)).length + (st.size + 1) ≤ 1000000 := by
            have h1 := textL_le sh (j + 1)
            have h2 := HZ.out
            rw [HT.out] at h1
            simp [data_length] at h1
            omega
          have hss : st.size + 1 ≤ 9223372036854775807 := by omega
          have HW := Aside0.mk (writeString_is w.heap.size w.heap.size _ (st ++ ⟨#[10]⟩) wr HI.out (by rw [Lib.byteCells_length, ByteArray.size_append]; show _ + (st.size + 1) ≤ _; omega) HK.out.1.size)
          have HE := Aside0.mk (show Lib.byteCells (textL (sh.take j)) ++ Lib.strCells (st ++ ⟨#[10]⟩) = Lib.byteCells (textL (sh.take (j + 1))) by
            rw [HT.out, Lib.byteCells_append, Lib.strCells_eq]
            rw [ByteArray.data_append, Array.toList_append])
          clear hst
          go_wp2_with fail
          refine HW.out.mono ?_
          rintro e w2 ⟨rfl, hbu, hb, hk⟩
          have HI2 := Aside0.mk (show Lib.IsBuilder 57 5 w.heap.size w.heap.size (Lib.byteCells (textL (sh.take (j + 1)))) w2 from .inr (by rw [← HE.out]; exact hbu))
          have HK2 := Aside0.mk (And.intro (HK.out.1.trans hb) (HK.out.2.trans hk))
          clear hbu hb hk hcell
          go_wp2_with fail
          exact ⟨⟨j + 1, hlt, rfl, HK2, HI2⟩, by simp [intOf]; omega⟩
        · obtain rfl : j = n := by omega
          have q1 : ¬ (j : Int) < (j : Int) := by omega
          have HI2 := Aside0.mk (show Lib.IsBuilder 57 5 w.heap.size w.heap.size (Lib.byteCells (textL sh)) wr by have := HI.out; rwa [List.take_of_length_le (by rw [HSL.out]; exact Nat.le_refl _)] at this)
          go_wp2_with fail
          exact ⟨⟨HK, .inr ⟨rfl, HI2⟩⟩, by simp [intOf]⟩
    · go_wp2_with fail
      refine (Try.Builder_String_any w.heap.size w.heap.size (textL sh) wr HI.out HK.out.1.size).mono ?_
      rintro e w2 ⟨rfl, hb⟩
      have HB2 := Aside0.mk (HK.out.1.trans hb)
      clear hb
      go_wp2_with fail
      go_ret
      exact ⟨by rw [HRES.out]; rfl, HB2.out⟩
end Go.Proofs.Ytjamaccblokfkaa.P

-- from the text Pq
namespace Go.Proofs.Ytjamaccblokfkaa.P
open Go.RowKit Go.Proofs.YtjamaccblokfkaaW.PrintWords Go.Proofs.YtjamaccblokfkaaW.PrintLast Go.Proofs.YtjamaccblokfkaaW.PrintMore
set_option linter.unusedVariables false
set_option linter.unusedSimpArgs false
/-- A text's bytes as numbers. -/
def byt (b : ByteArray) : List Int := (List.range b.size).map fun (i : Nat) => bt b (i : Int)
theorem byt_len (b : ByteArray) : (byt b).length = b.size := by simp [byt]
theorem pStr_fold (s : Pg) (b : ByteArray) : pStr s b = (byt b).foldl pWrite s := by
  unfold pStr pStrN byt
  rw [List.foldl_map]
theorem byt_get (b : ByteArray) (i : Nat) (h : i < b.size) : (byt b)[i]? = some (bt b (i : Int)) := by simp [byt, h]
theorem bt_ext (s : ByteArray) (a b i : Nat) (h : a + i < b) (h2 : a + i < s.size) : bt (s.extract a b) (i : Int) = bt s ((a + i : Nat) : Int) := by
  rw [← bt_at (s.extract a b) (i : Int) (by simp only [ByteArray.size_extract, Int.toNat_natCast]; omega), ← bt_at s ((a + i : Nat) : Int) (by simp only [Int.toNat_natCast]; exact h2)]
  simp only [Int.toNat_natCast, ByteArray.getElem_extract]
theorem byt_ext (s : ByteArray) (a b c : Nat) (h1 : a ≤ b) (h2 : b ≤ c) (h3 : c ≤ s.size) : byt (s.extract a b) ++ byt (s.extract b c) = byt (s.extract a c) := by
  apply List.ext_getElem?
  intro i
  have l1 : (s.extract a b).size = b - a := by rw [ByteArray.size_extract]; omega
  have l2 : (s.extract b c).size = c - b := by rw [ByteArray.size_extract]; omega
  have l3 : (s.extract a c).size = c - a := by rw [ByteArray.size_extract]; omega
  by_cases hi : i < c - a
  · rw [byt_get _ i (by omega), bt_ext _ _ _ _ (by omega) (by omega)]
    by_cases hb : i < b - a
    · rw [List.getElem?_append_left (by rw [byt_len]; omega), byt_get _ i (by omega), bt_ext _ _ _ _ (by omega) (by omega)]
    · rw [List.getElem?_append_right (by rw [byt_len]; omega), byt_len, byt_get _ _ (by omega), bt_ext _ _ _ _ (by omega) (by omega)]
      congr 3; omega
  · rw [List.getElem?_eq_none (by rw [List.length_append, byt_len, byt_len]; omega), List.getElem?_eq_none (by rw [byt_len]; omega)]
/-- A text that is put in parts is put as at once. -/
theorem pStr_parts (s : Pg) (x : ByteArray) (a b : Nat) (h : a ≤ b) (hb : b ≤ x.size) : pStr (pStr s (x.extract 0 a)) (x.extract a b) = pStr s (x.extract 0 b) := by
  rw [pStr_fold, pStr_fold, pStr_fold, ← List.foldl_append, byt_ext x 0 a b (Nat.zero_le _) h hb]
theorem pSkip_one (s : Pg) (k : Nat) : pSkip (pSkip s k) 1 = pSkip s (k + 1) := rfl
theorem pEnd_due (s : Pg) (h : s.due = true) : (pEnd s).due = true := by simp [pEnd, h]
theorem pWrite_due (s : Pg) (c : Int) (h : s.due = true) : (pWrite s c).due = true := by
  show (pRoom s).due = true
  unfold pRoom
  split
  · exact pEnd_due s h
  · exact h
theorem pStr_due (s : Pg) (b : ByteArray) (h : s.due = true) : (pStr s b).due = true := by
  rw [pStr_fold]
  generalize byt b = l
  induction l generalizing s with
  | nil => exact h
  | cons c l ih => exact ih _ (pWrite_due s c h)
theorem pSkip_due (s : Pg) (k : Nat) (h : s.due = true) : (pSkip s k).due = true := by
  induction k with
  | zero => exact h
  | succ k ih => exact pEnd_due _ ih
def dueI (s : Pg) : Int := if s.due = true then 1 else 0
theorem due_step (s s' : Pg) (h : s.due = true → s'.due = true) : (if (s'.due && !s.due) = true then (1 : Int) else 0) = dueI s' - dueI s := by
  unfold dueI
  cases h1 : s.due with
  | true => rw [h h1]; rfl
  | false => cases h2 : s'.due <;> rfl
theorem dueI_le (s : Pg) : 0 ≤ dueI s ∧ dueI s ≤ 1 := by unfold dueI; split <;> omega
/-- What holds where all was put by Put: nothing lacks on the line; the lines are no longer than the size; what was put are bytes. -/
structure Full (s : Pg) : Prop where
  now : (s.now.length : Int) = s.col - 1
  rng : ∀ c ∈ s.now, 0 ≤ c ∧ c ≤ 255
  L : ∀ l ∈ s.L, (l.size : Int) ≤ s.sz
  col : s.col ≤ s.sz + 1
  pos : 10 ≤ s.sz
def flat (s : Pg) : List Int := (s.L.map byt).flatten ++ s.now
theorem str_size (l : List Int) : (strOfNums l).size = l.length := by simp [strOfNums, ByteArray.size]
theorem byt_str (l : List Int) (h : ∀ c ∈ l, 0 ≤ c ∧ c ≤ 255) : byt (strOfNums l) = l := by
  apply List.ext_getElem?
  intro i
  by_cases hi : i < l.length
  · rw [byt_get _ i (by rw [str_size]; exact hi), ← bt_at _ (i : Int) (by rw [Int.toNat_natCast, str_size]; exact hi), List.getElem?_eq_getElem hi]
    have := h l[i] (List.getElem_mem hi)
    simp only [strOfNums, Int.toNat_natCast]
    simp [ByteArray.getElem_eq_getElem_data]
    omega
  · rw [List.getElem?_eq_none (by rw [byt_len, str_size]; omega), List.getElem?_eq_none (by omega)]
theorem Full.end_ {s : Pg} (h : Full s) : Full (pEnd s) ∧ flat (pEnd s) = flat s := by
  refine ⟨⟨?_, (fun c hc => by cases hc), ?_, ?_, h.pos⟩, ?_⟩
  · show ((0 : Nat) : Int) = 1 - 1; rfl
  · intro l hl
    rcases List.mem_append.1 hl with hl | hl
    · exact h.L l hl
    · rw [List.mem_singleton] at hl; subst hl
      rw [str_size]
      have := h.now; have := h.col
      show ((s.now.length : Nat) : Int) ≤ s.sz
      omega
  · have := h.pos; show (1 : Int) ≤ s.sz + 1; omega
  · show ((s.L ++ [strOfNums s.now]).map byt).flatten ++ [] = (s.L.map byt).flatten ++ s.now
    rw [List.map_append, List.flatten_append, List.append_nil, List.map_singleton, List.flatten_singleton, byt_str _ h.rng]
theorem Full.write {s : Pg} (h : Full s) (c : Int) (hc : 0 ≤ c ∧ c ≤ 255) (hcol : 1 ≤ s.col) : Full (pWrite s c) ∧ flat (pWrite s c) = flat s ++ [c] ∧ 1 ≤ (pWrite s c).col := by
  have hr : Full (pRoom s) ∧ flat (pRoom s) = flat s ∧ (pRoom s).col ≤ (pRoom s).sz ∧ 1 ≤ (pRoom s).col := by
    unfold pRoom
    have := h.pos
    split
    · exact ⟨h.end_.1, h.end_.2, by show (1 : Int) ≤ s.sz; omega, by show (1 : Int) ≤ 1; omega⟩
    · exact ⟨h, rfl, by omega, hcol⟩
  obtain ⟨h1, h2, h3, h4⟩ := hr
  have hpad : (pRoom s).col.toNat - 1 - (pRoom s).now.length = 0 := by have := h1.now; omega
  have hw : pWrite s c = { pRoom s with now := (pRoom s).now ++ [c], put := true, col := (pRoom s).col + 1 } := by
    unfold pWrite
    simp only [hpad, List.replicate_zero, List.append_nil]
  rw [hw]
  refine ⟨⟨?_, ?_, h1.L, ?_, h1.pos⟩, ?_, ?_⟩
  · show (((pRoom s).now ++ [c]).length : Int) = (pRoom s).col + 1 - 1
    have := h1.now
    rw [List.length_append, List.length_singleton]
    push_cast
    omega
  · intro d hd
    rcases List.mem_append.1 hd with hd | hd
    · exact h1.rng d hd
    · rw [List.mem_singleton] at hd; subst hd; exact hc
  · show (pRoom s).col + 1 ≤ (pRoom s).sz + 1; omega
  · show ((pRoom s).L.map byt).flatten ++ ((pRoom s).now ++ [c]) = _
    rw [← h2, ← List.append_assoc]; rfl
  · show 1 ≤ (pRoom s).col + 1; omega
theorem Full.str {s : Pg} (h : Full s) (hcol : 1 ≤ s.col) (b : ByteArray) : Full (pStr s b) ∧ flat (pStr s b) = flat s ++ byt b ∧ 1 ≤ (pStr s b).col := by
  rw [pStr_fold]
  have hr : ∀ c ∈ byt b, 0 ≤ c ∧ c ≤ 255 := by
    intro c hc
    simp only [byt, List.mem_map] at hc
    obtain ⟨i, _, rfl⟩ := hc
    exact bt_range b _
  generalize byt b = l at *
  induction l generalizing s with
  | nil => exact ⟨h, by simp, hcol⟩
  | cons c l ih =>
    obtain ⟨h1, h2, h3⟩ := h.write c (hr c (List.mem_cons_self ..)) hcol
    obtain ⟨k1, k2, k3⟩ := ih h1 h3 (fun d hd => hr d (List.mem_cons_of_mem _ hd))
    exact ⟨k1, by rw [List.foldl_cons, k2, h2, List.append_assoc]; rfl, k3⟩
theorem Full.skip {s : Pg} (h : Full s) : ∀ k, Full (pSkip s k) ∧ flat (pSkip s k) = flat s
  | 0 => ⟨h, rfl⟩
  | k + 1 => by
    obtain ⟨h1, h2⟩ := h.skip k
    exact ⟨h1.end_.1, h1.end_.2.trans h2⟩
def retab (s : Pg) (l : List Int) : Pg := { s with tabs := l }
theorem retab_room (s : Pg) (l : List Int) : pRoom (retab s l) = retab (pRoom s) l := by
  unfold pRoom
  show (if s.sz < s.col then pEnd (retab s l) else retab s l) = retab (if s.sz < s.col then pEnd s else s) l
  split <;> rfl
theorem retab_write (s : Pg) (c : Int) (l : List Int) : pWrite (retab s l) c = retab (pWrite s c) l := by
  unfold pWrite
  simp only [retab_room]
  rfl
theorem retab_str (s : Pg) (b : ByteArray) (l : List Int) : pStr (retab s l) b = retab (pStr s b) l := by
  rw [pStr_fold, pStr_fold]
  generalize byt b = bs
  induction bs generalizing s with
  | nil => rfl
  | cons c bs ih => rw [List.foldl_cons, List.foldl_cons, retab_write, ih]
theorem retab_skip (s : Pg) (k : Nat) (l : List Int) : pSkip (retab s l) k = retab (pSkip s k) l := by
  induction k with
  | zero => rfl
  | succ k ih => show pEnd (pSkip (retab s l) k) = _; rw [ih]; rfl
theorem retab_due (s : Pg) (l : List Int) : (retab s l).due = s.due := rfl
/-- A part of a text that may be put may be put. -/
theorem clean_ext (s : ByteArray) (a b : Nat) (h : cleanB s = true) : cleanB (s.extract a b) = true := by
  unfold cleanB at h ⊢
  rw [List.all_eq_true] at h ⊢
  intro c hc
  refine h c ?_
  rw [ByteArray.data_extract, Array.toList_extract] at hc
  exact List.mem_of_mem_drop (List.mem_of_mem_take hc)
end Go.Proofs.Ytjamaccblokfkaa.P

-- from the text Pv
namespace Go.Proofs.Ytjamaccblokfkaa.P
open Go.RowKit Go.Proofs.YtjamaccblokfkaaW.PrintWords Go.Proofs.YtjamaccblokfkaaW.PrintLast Go.Proofs.YtjamaccblokfkaaW.PrintMore
set_option linter.unusedVariables false
set_option linter.unusedSimpArgs false
/-- Since w0: the print files s at p and t at q, apart, both newer than w0. -/
def Two (w0 w : World) (p q : Nat) (s t : Pg) : Prop := ∃ g rv tv nv g' rv' tv' nv', PgM w p g rv tv nv s ∧ PgM w q g' rv' tv' nv' t ∧ (∀ k, foot p g rv tv nv k → w0.heap.size ≤ k) ∧ (∀ k, foot q g' rv' tv' nv' k → w0.heap.size ≤ k) ∧ (∀ k, foot p g rv tv nv k → ¬ foot q g' rv' tv' nv' k) ∧ Below w0.heap.size w0 w
theorem Two.below {w0 w : World} {p q : Nat} {s t : Pg} (h : Two w0 w p q s t) : Below w0.heap.size w0 w := by
  obtain ⟨_, _, _, _, _, _, _, _, _, _, _, _, _, h⟩ := h
  exact h
theorem Two.swap {w0 w : World} {p q : Nat} {s t : Pg} (h : Two w0 w p q s t) : Two w0 w q p t s := by
  obtain ⟨g, rv, tv, nv, g', rv', tv', nv', h1, h2, h3, h4, h5, h6⟩ := h
  exact ⟨g', rv', tv', nv', g, rv, tv, nv, h2, h1, h4, h3, fun k a b => h5 k b a, h6⟩
theorem Two.step {w0 w w' : World} {p q : Nat} {s t : Pg} (h : Two w0 w p q s t) (hb : Below w.heap.size w w') : Two w0 w' p q s t := by
  obtain ⟨g, rv, tv, nv, g', rv', tv', nv', h1, h2, h3, h4, h5, h6⟩ := h
  exact ⟨g, rv, tv, nv, g', rv', tv', nv', h1.kept (fun k hk => hb.block k (h1.foot_lt hk)), h2.kept (fun k hk => hb.block k (h2.foot_lt hk)), h3, h4, h5, h6.trans (hb.mono h6.size)⟩
theorem Two.left {w0 w : World} {p q : Nat} {s t : Pg} (h : Two w0 w p q s t) : ∃ F, PgAt F w w p s ∧ ∀ w' s', PgAt F w w' p s' → Two w0 w' p q s' t := by
  obtain ⟨g, rv, tv, nv, g', rv', tv', nv', h1, h2, h3, h4, h5, h6⟩ := h
  refine ⟨foot p g rv tv nv, ⟨⟨g, rv, tv, nv, h1, fun k hk => .inl hk⟩, Turn.refl _ _⟩, ?_⟩
  rintro w' s' ⟨⟨g2, rv2, tv2, nv2, hM, hF⟩, hT⟩
  refine ⟨g2, rv2, tv2, nv2, g', rv', tv', nv', hM, h2.kept (fun k hk => hT.block k (h2.foot_lt hk) (fun hp => h5 k hp hk)), fun k hk => ?_, h4, fun k hk hq => ?_, ⟨hT.os.trans h6.os, hT.tape.trans h6.tape, hT.output.trans h6.output, Nat.le_trans h6.size hT.size, fun k hk => ?_⟩⟩
  · rcases hF k hk with h | h
    · exact h3 k h
    · exact Nat.le_trans h6.size h
  · rcases hF k hk with h | h
    · exact h5 k h hq
    · have := h2.foot_lt hq
      omega
  · exact (hT.block k (Nat.lt_of_lt_of_le hk h6.size) (fun hp => by have := h3 k hp; omega)).trans (h6.block k hk)
theorem Two.make {w0 w1 w2 w3 : World} {p q : Nat} {s t : Pg} (hb : Below w0.heap.size w0 w1) (ha : PgAt (fun _ => False) w1 w2 p s) (hc : PgAt (fun _ => False) w2 w3 q t) : Two w0 w3 p q s t := by
  obtain ⟨⟨g, rv, tv, nv, hM, hF⟩, hT⟩ := ha
  obtain ⟨⟨g', rv', tv', nv', hM', hF'⟩, hT'⟩ := hc
  have b1 := hT.below
  have b2 := hT'.below
  refine ⟨g, rv, tv, nv, g', rv', tv', nv', hM.kept (fun k hk => b2.block k (hM.foot_lt hk)), hM', fun k hk => ?_, fun k hk => ?_, fun k hk hq => ?_, (hb.trans (b1.mono hb.size)).trans (b2.mono (Nat.le_trans hb.size b1.size))⟩
  · have := (hF k hk).resolve_left id
    have := hb.size
    omega
  · have := (hF' k hk).resolve_left id
    have := hb.size
    have := b1.size
    omega
  · have h1 := (hF' k hq).resolve_left id
    have h2 := hM.foot_lt hk
    omega
/-- The same but for the tabs. -/
def TwoX (w0 w : World) (p q : Nat) (s t : Pg) : Prop := ∃ la lb, Two w0 w p q (retab s la) (retab t lb)
theorem TwoX.below {w0 w : World} {p q : Nat} {s t : Pg} (h : TwoX w0 w p q s t) : Below w0.heap.size w0 w := by
  obtain ⟨_, _, h⟩ := h
  exact h.below
theorem TwoX.swap {w0 w : World} {p q : Nat} {s t : Pg} (h : TwoX w0 w p q s t) : TwoX w0 w q p t s := by
  obtain ⟨la, lb, h⟩ := h
  exact ⟨lb, la, h.swap⟩
theorem TwoX.step {w0 w w' : World} {p q : Nat} {s t : Pg} (h : TwoX w0 w p q s t) (hb : Below w.heap.size w w') : TwoX w0 w' p q s t := by
  obtain ⟨la, lb, h⟩ := h
  exact ⟨la, lb, h.step hb⟩
theorem Ok.retab {m : Nat} {s : Pg} (h : Ok m s) (l : List Int) : Ok m (retab s l) := ⟨h.now, h.col, h.sz, h.rows, h.L, h.ln⟩
theorem put_left {w0 w : World} {p q m : Nat} {s t : Pg} (h : TwoX w0 w p q s t) (b : ByteArray) (ho : Ok m s) (hm : m ≤ 10000) (hb : b.size ≤ 9000) (hcl : cleanB b = true) :
    Calls Try.prog 8 #[.pointer (some ⟨p, 0, none⟩), .string b] w fun e w' => e = .returned (.tuple #[.int .i64 (dueI (pStr s b) - dueI s), .int .i64 0]) ∧ TwoX w0 w' p q (pStr s b) t := by
  obtain ⟨la, lb, h⟩ := h
  obtain ⟨F, hF, hback⟩ := h.left
  refine (put_is p (retab s la) b m F w w hF (ho.retab la) hm hb hcl).mono ?_
  rintro e w' ⟨he, h'⟩
  rw [retab_str] at he h'
  rw [retab_due, retab_due, due_step _ _ (pStr_due s b)] at he
  exact ⟨he, la, lb, hback _ _ h'⟩
theorem put_right {w0 w : World} {p q m : Nat} {s t : Pg} (h : TwoX w0 w p q s t) (b : ByteArray) (ho : Ok m t) (hm : m ≤ 10000) (hb : b.size ≤ 9000) (hcl : cleanB b = true) :
    Calls Try.prog 8 #[.pointer (some ⟨q, 0, none⟩), .string b] w fun e w' => e = .returned (.tuple #[.int .i64 (dueI (pStr t b) - dueI t), .int .i64 0]) ∧ TwoX w0 w' p q s (pStr t b) :=
  (put_left h.swap b ho hm hb hcl).mono fun e w' ⟨he, h'⟩ => ⟨he, h'.swap⟩
theorem skip_left {w0 w : World} {p q m : Nat} {s t : Pg} (h : TwoX w0 w p q s t) (n : Nat) (ho : Ok m s) (hm : m ≤ 10000) (h1 : 1 ≤ n) (hn : n ≤ 200) :
    Calls Try.prog 9 #[.pointer (some ⟨p, 0, none⟩), .int .i64 (n : Int)] w fun e w' => e = .returned (.tuple #[.int .i64 (dueI (pSkip s n) - dueI s), .int .i64 0]) ∧ TwoX w0 w' p q (pSkip s n) t := by
  obtain ⟨la, lb, h⟩ := h
  obtain ⟨F, hF, hback⟩ := h.left
  refine (skip_is p (retab s la) n m F w w hF (ho.retab la) hm h1 hn).mono ?_
  rintro e w' ⟨he, h'⟩
  rw [retab_skip] at he h'
  rw [retab_due, retab_due, due_step _ _ (pSkip_due s n)] at he
  exact ⟨he, la, lb, hback _ _ h'⟩
theorem skip_right1 {w0 w : World} {p q m : Nat} {s t : Pg} (h : TwoX w0 w p q s t) (ho : Ok m t) (hm : m ≤ 10000) :
    Calls Try.prog 9 #[.pointer (some ⟨q, 0, none⟩), .int .i64 1] w fun e w' => e = .returned (.tuple #[.int .i64 (dueI (pSkip t 1) - dueI t), .int .i64 0]) ∧ TwoX w0 w' p q s (pSkip t 1) :=
  (skip_left h.swap 1 ho hm (by omega) (by omega)).mono fun e w' ⟨he, h'⟩ => ⟨he, h'.swap⟩
theorem text_left {w0 w : World} {p q : Nat} {s t : Pg} (h : TwoX w0 w p q s t) (hn : s.L.length ≤ 100000) (hz : (textL (shown s)).length ≤ 1000000) :
    Calls Try.prog 10 #[.pointer (some ⟨p, 0, none⟩)] w fun e w' => e = .returned (.string ⟨(textL (shown s)).toArray⟩) ∧ TwoX w0 w' p q s t := by
  have h0 := h
  obtain ⟨la, lb, h⟩ := h
  obtain ⟨F, hF, hback⟩ := h.left
  exact (pageText_is p (retab s la) F w w hF hn hz).mono fun e w' ⟨he, h'⟩ => ⟨he, h0.step h'⟩
theorem text_right {w0 w : World} {p q : Nat} {s t : Pg} (h : TwoX w0 w p q s t) (hn : t.L.length ≤ 100000) (hz : (textL (shown t)).length ≤ 1000000) :
    Calls Try.prog 10 #[.pointer (some ⟨q, 0, none⟩)] w fun e w' => e = .returned (.string ⟨(textL (shown t)).toArray⟩) ∧ TwoX w0 w' p q s t :=
  (text_left h.swap hn hz).mono fun e w' ⟨he, h'⟩ => ⟨he, h'.swap⟩
theorem pages_left {w0 w : World} {p q : Nat} {s t : Pg} (h : TwoX w0 w p q s t) (hn : s.L.length ≤ 100000) :
    Calls Try.prog 11 #[.pointer (some ⟨p, 0, none⟩)] w fun e w' => ∃ v, e = .returned v ∧ Tells w w' v (shown s) ∧ Below w0.heap.size w0 w' := by
  have h0 := h
  obtain ⟨la, lb, h⟩ := h
  obtain ⟨F, hF, hback⟩ := h.left
  refine (pages_is p (retab s la) F w w hF hn).mono ?_
  rintro e w' ⟨v, he, h'⟩
  have hb : Below w.heap.size w w' := by obtain ⟨_, _, _, _, _, _, _, hb, _⟩ := h'; exact hb
  exact ⟨v, he, h', h0.below.trans (hb.mono h0.below.size)⟩
theorem TwoX.make {w0 w1 w2 w3 : World} {p q : Nat} {line page : Int} {k k' : Nat} (u : Pg) (hb : Below w0.heap.size w0 w1) {s t : Pg} {la lb : List Int} (hs : s = retab u la) (ht : t = retab u lb) (ha : PgAt (fun _ => False) w1 w2 p s) (hc : PgAt (fun _ => False) w2 w3 q t) : TwoX w0 w3 p q u u := by
  subst hs; subst ht
  exact ⟨la, lb, Two.make hb ha hc⟩
theorem pWrite_sz (s : Pg) (c : Int) : (pWrite s c).sz = s.sz := by
  show (pRoom s).sz = s.sz
  unfold pRoom
  split <;> rfl
theorem pStr_sz (s : Pg) (b : ByteArray) : (pStr s b).sz = s.sz := by
  rw [pStr_fold]
  generalize byt b = l
  induction l generalizing s with
  | nil => rfl
  | cons c l ih => rw [List.foldl_cons, ih, pWrite_sz]
theorem pSkip_sz (s : Pg) (k : Nat) : (pSkip s k).sz = s.sz := by
  induction k with
  | zero => rfl
  | succ k ih => exact ih
def catL (l : List ByteArray) : ByteArray := ⟨((l.map fun b => b.data.toList).flatten).toArray⟩
theorem catL_take (l : List ByteArray) (j : Nat) (h : j < l.length) : catL (l.take j) ++ l[j] = catL (l.take (j + 1)) := by
  apply ByteArray.ext
  rw [ByteArray.data_append]
  unfold catL
  rw [← List.take_append_getElem h, List.map_append, List.flatten_append, List.map_singleton, List.flatten_singleton]
  simp
theorem byt_data (b : ByteArray) : byt b = b.data.toList.map fun c => (c.toNat : Int) := by
  apply List.ext_getElem?
  intro i
  by_cases hi : i < b.size
  · have hl : i < b.data.toList.length := by simpa using hi
    rw [byt_get _ _ hi, ← bt_at b (i : Int) (by rw [Int.toNat_natCast]; exact hi), List.getElem?_map, List.getElem?_eq_getElem hl]
    simp [ByteArray.getElem_eq_getElem_data]
  · rw [List.getElem?_eq_none (by rw [byt_len]; omega), List.getElem?_eq_none (by simp; exact Nat.le_of_not_lt hi)]
theorem byt_inj {a b : ByteArray} (h : byt a = byt b) : a = b := by
  rw [byt_data, byt_data] at h
  have h2 : a.data.toList = b.data.toList := by
    have := congrArg (List.map fun (i : Int) => UInt8.ofNat i.toNat) h
    simpa [List.map_map, Function.comp_def] using this
  exact ByteArray.ext (Array.toList_inj.1 h2)
theorem byt_cat (l : List ByteArray) : byt (catL l) = (l.map byt).flatten := by
  rw [byt_data]
  unfold catL
  simp only [List.map_flatten, List.map_map]
  congr 1
  apply List.map_congr_left
  intro b _
  exact (byt_data b).symm
theorem textL_bound (l : List ByteArray) (c : Nat) (h : ∀ x ∈ l, x.size ≤ c) : (textL l).length ≤ l.length * (c + 1) := by
  induction l with
  | nil => simp [textL]
  | cons x l ih =>
    have h1 := ih (fun y hy => h y (List.mem_cons_of_mem _ hy))
    have h2 := h x (List.mem_cons_self ..)
    have h3 : (textL (x :: l)).length = x.size + 1 + (textL l).length := by
      unfold textL
      rw [List.map_cons, List.flatten_cons, List.length_append, List.length_append, List.length_singleton]
      rfl
    rw [h3, List.length_cons, Nat.succ_mul]
    omega
/-- What is shown behind at least one skip. -/
theorem shown_skip (s : Pg) (n : Nat) (h : 1 ≤ n) : shown (pSkip s n) = (pSkip s n).L ∧ flat (pSkip s n) = ((pSkip s n).L.map byt).flatten := by
  obtain ⟨k, rfl⟩ : ∃ k, n = k + 1 := ⟨n - 1, by omega⟩
  refine ⟨rfl, ?_⟩
  show ((pSkip s (k + 1)).L.map byt).flatten ++ [] = _
  rw [List.append_nil]
theorem lineOk_iff {line page : Int} (h : lineOk line page = true) : 10 ≤ line ∧ line ≤ 200 ∧ 1 ≤ page ∧ page ≤ 200 := by
  simp only [lineOk, Bool.and_eq_true, decide_eq_true_eq] at h
  omega
theorem okN {line page : Int} (h : 10 ≤ line ∧ line ≤ 200 ∧ 1 ≤ page ∧ page ≤ 200) : Ok 0 (pgN line page 0) ∧ Full (pgN line page 0) := by
  refine ⟨⟨?_, ?_, ?_, ?_, ?_, ?_⟩, ⟨?_, ?_, ?_, ?_, ?_⟩⟩ <;> simp [pgN] <;> omega
/-- What the two files are at the end. -/
theorem ends {line page : Int} (h : 10 ≤ line ∧ line ≤ 200 ∧ 1 ≤ page ∧ page ≤ 200) (text : ByteArray) (n : Nat) (h1 : 1 ≤ n) (hn : n ≤ 60) (ht : text.size ≤ 3000) (Z : Pg) (hZ : Z = pSkip (pStr (pgN line page 0) text) n) :
    Z.L.length ≤ 3060 ∧ (textL (shown Z)).length ≤ 1000000 ∧ catL (shown Z) = text ∧ (∀ x ∈ shown Z, (x.size : Int) ≤ line) ∧ (shown Z).length ≤ 3060 := by
  obtain ⟨ho, hf⟩ := okN h
  obtain ⟨f1, f2, f3⟩ := hf.str (by show (1 : Int) ≤ 1; omega) text
  obtain ⟨f4, f5⟩ := f1.skip n
  have hsz : (pSkip (pStr (pgN line page 0) text) n).sz = line := by rw [pSkip_sz, pStr_sz]; rfl
  obtain ⟨g1, g2⟩ := shown_skip (pStr (pgN line page 0) text) n h1
  have hk := ((ho.strN text text.size).skip n).L
  subst hZ
  have hL : (pSkip (pStr (pgN line page 0) text) n).L.length ≤ 3060 := by unfold pStr; omega
  have hx : ∀ x ∈ shown (pSkip (pStr (pgN line page 0) text) n), (x.size : Int) ≤ line := by rw [g1]; intro x hx'; have := f4.L x hx'; omega
  refine ⟨hL, ?_, ?_, hx, by rw [g1]; exact hL⟩
  · have hb := textL_bound _ 200 (fun x hx' => by have := hx x hx'; omega)
    rw [g1] at hb ⊢
    omega
  · apply byt_inj
    rw [byt_cat, g1, ← g2, f5, f2]
    rfl
theorem cut_cell {w : World} {A : Option Addr} {l : List Int} (h : Kd.C (Kd.int .i64) w A l.length l) (i : Nat) (hi : i < l.length) : ∃ a, A = some a ∧ ∀ j, j < l.length → w.cell? (a.add j) = some (.int .i64 (l.getD j 0)) := by
  obtain ⟨_, _, h3⟩ := h
  obtain ⟨a, ha, hr⟩ := h3 (by omega)
  refine ⟨a, ha, fun j hj => ?_⟩
  obtain ⟨cs, hc1, hc2, hc3⟩ := hr j (l.getD j 0) (by simp [hj])
  subst hc2
  have h := hc3 0 _ rfl
  rw [show j * (Kd.int .i64).sz = j from Nat.mul_one j] at h
  exact h
end Go.Proofs.Ytjamaccblokfkaa.P

-- from the text Q
namespace Go.Proofs.Ytjamaccblokfkaa.P
open Go.RowKit Go.ChangeShapes Go.WideShapes Go.ChangeAt Go.Deep Go.Proofs.YtjamaccblokfkaaW.PrintWords Go.Proofs.YtjamaccblokfkaaW.PrintLast Go.Proofs.YtjamaccblokfkaaW.PrintMore
set_option linter.unusedVariables false
set_option linter.unusedSimpArgs false
set_option maxRecDepth 100000
theorem list_of {α : Type} {p : Nat → α → Prop} : ∀ n : Nat, (∀ i, i < n → ∃ x, p i x) → ∃ l : List α, l.length = n ∧ ∀ i x, l[i]? = some x → p i x
  | 0, _ => ⟨[], rfl, fun i x h => by simp at h⟩
  | n + 1, h => by
    obtain ⟨l, hl, hp⟩ := list_of n (fun i hi => h i (by omega))
    obtain ⟨x, hx⟩ := h n (by omega)
    refine ⟨l ++ [x], by simp [hl], fun i y hy => ?_⟩
    rcases Nat.lt_trichotomy i n with h1 | h1 | h1
    · exact hp i y (by rw [List.getElem?_append_left (by omega)] at hy; exact hy)
    · subst h1; rw [List.getElem?_append_right (by omega), hl] at hy; simp at hy; subst hy; exact hx
    · rw [List.getElem?_eq_none (by simp; omega)] at hy; cases hy
section
variable {H : Type} {enc : TypeId × Value → H} {w : World} {base : Nat} {spare : Nat → Bool} {held : Bool} {fuel : Nat} {cs : List Value} {x : DataW H × List MemPlace}
theorem sized_any {P : Program} {t e : TypeId} {a : Option Addr} {len cap : Nat} {d : DataW H} {ps : List MemPlace} {ts : List TypeId} {ds : List (DataW H)} {j : Nat} (hsz : (DataW.weightsEach P ts ds).all (· ≤ reachBytes) = true) (ht : ts[j]? = some t) (hd : ds[j]? = some d) (hu : P.underlying t = some (.slice e)) {B : Nat} (hB : P.bytesOf e = B) (h : DataW.Trod enc P w base spare held t (.slice a len cap) d ps) : len * B ≤ 140737488351232 := by
  obtain ⟨fuel, hf⟩ := h
  rcases open_slice hu hf with ⟨hcs, _⟩ | ⟨a', len', cap', m, n, D, Pl, hcs, _, hl, _, _, hx, _⟩
  · simp [Value.cells] at hcs
    obtain ⟨rfl, rfl, rfl⟩ := hcs
    simp
  · simp [Value.cells] at hcs
    obtain ⟨rfl, rfl, rfl⟩ := hcs
    obtain ⟨hx, _⟩ := Prod.mk.inj hx
    subst hx
    have z := sized_slice hsz ht hd hu
    rw [hB, List.length_map, List.length_range] at z
    exact Nat.le_trans (Nat.mul_le_mul_right _ (Nat.le_add_right _ _)) z
def Wf46 (x : S46) : Prop := (Lit.int .i64 x.f0).wf = true ∧ (Lit.int .i64 x.f1).wf = true
theorem cells46 : Try.prog.cellsOf 46 = 2 := by kernel_rfl
theorem trod46 (h : DataW.trod enc Try.prog w base spare held fuel 46 cs = some x) : ∃ s : S46, cs = [.int .i64 s.f0, .int .i64 s.f1] ∧ Wf46 s := by
  obtain ⟨xs, n, _, _, hlen, hxl, hf⟩ := DataW.trod_struct Try.underlying46 h
  rw [cells46] at hlen
  match cs, hlen, xs, hxl with
  | [c0, c1], _, [y0, y1], _ =>
    have g0 : DataW.trod enc Try.prog w base spare held n 3 (List.take (Try.prog.cellsOf 3) (List.drop 0 [c0, c1])) = some y0 := hf 0 _ rfl
    rw [show Try.prog.cellsOf 3 = 1 from by kernel_rfl] at g0
    replace g0 : DataW.trod enc Try.prog w base spare held n 3 [c0] = some y0 := g0
    have g1 : DataW.trod enc Try.prog w base spare held n 3 (List.take (Try.prog.cellsOf 3) (List.drop 1 [c0, c1])) = some y1 := hf 1 _ rfl
    rw [show Try.prog.cellsOf 3 = 1 from by kernel_rfl] at g1
    replace g1 : DataW.trod enc Try.prog w base spare held n 3 [c1] = some y1 := g1
    obtain ⟨s0, e0, -, w0⟩ := DataW.trod_int Try.underlying3 g0
    simp only [List.cons.injEq, and_true] at e0
    subst e0
    obtain ⟨s1, e1, -, w1⟩ := DataW.trod_int Try.underlying3 g1
    simp only [List.cons.injEq, and_true] at e1
    subst e1
    exact ⟨⟨s0, s1⟩, rfl, w0, w1⟩
theorem arg46 {W : World} {r : Reach} {b0 : Nat} {v : Value} {d : DataW H} {p : List MemPlace} (hv : Value.okWide Try.prog W r b0 46 v) (h : DataW.Trod enc Try.prog w base spare held 46 v d p) : ∃ s : S46, v = .agg #[.int .i64 s.f0, .int .i64 s.f1] ∧ Wf46 s := by
  obtain ⟨cs, rfl, _⟩ := okWide_struct Try.underlying46 hv
  obtain ⟨fuel, hf⟩ := h
  obtain ⟨s, e, hw⟩ := trod46 hf
  refine ⟨s, ?_, hw⟩
  have e2 : cs.toList = _ := e
  rw [← e2]
theorem arg22 {W : World} {r : Reach} {b0 : Nat} {v : Value} {d : DataW H} {p : List MemPlace} (hv : Value.okWide Try.prog W r b0 22 v) (h : DataW.Trod enc Try.prog w base (fun _ => true) held 22 v d p) : ∃ (A : Option Addr) (cap : Nat) (l : List Int), v = .slice A l.length cap ∧ Kd.C (Kd.int .i64) w A l.length l ∧ l.length ≤ cap ∧ ∀ y ∈ l, (Lit.int .i64 y).wf = true := by
  obtain ⟨a0, len0, cap0, rfl⟩ := okWide_slice Try.underlying22 hv
  obtain ⟨fuel, hf⟩ := h
  rcases open_slice Try.underlying22 hf with ⟨hcs, _⟩ | ⟨a, len, cap, m, n, D, Pl, hcs, _, hl, hm, hmm, _, hi⟩
  · simp [Value.cells] at hcs
    obtain ⟨rfl, rfl, rfl⟩ := hcs
    exact ⟨none, 0, [], rfl, ⟨rfl, by simp, fun h => absurd h (by simp)⟩, Nat.le_refl _, fun y hy => by cases hy⟩
  · simp [Value.cells] at hcs
    obtain ⟨rfl, rfl, rfl⟩ := hcs
    simp only [if_true] at hmm
    subst hmm
    obtain ⟨l, hll, hp⟩ := list_of (p := fun i (s : Int) => (∀ j u, ([.int .i64 s] : List Value)[j]? = some u → w.cell? (a.add (i * 1 + j)) = some u) ∧ (Lit.int .i64 s).wf = true) len0 (fun i him => by
      obtain ⟨cs', hc, ht⟩ := hi i (by omega)
      rw [show Try.prog.cellsOf 3 = 1 from by kernel_rfl] at hc
      obtain ⟨_, hcl, hat⟩ := World.cells?_some hc
      obtain ⟨s, rfl, -, hw⟩ := DataW.trod_int Try.underlying3 ht
      refine ⟨s, fun j u hj => ?_, hw⟩
      have hjn : j < 1 := by rcases Nat.lt_or_ge j 1 with h | h; exact h; rw [List.getElem?_eq_none (by simpa using h)] at hj; cases hj
      rw [← Go.Deep.add_add, hat j hjn]; exact hj)
    subst hll
    refine ⟨some a, _, l, rfl, ⟨rfl, by simp only [maxLen] at hm; omega, fun _ => ⟨a, rfl, fun j q hq => ⟨_, rfl, rfl, fun i u hu => (hp j q hq).1 i u hu⟩⟩⟩, hl, fun y hy => ?_⟩
    obtain ⟨i, hi, rfl⟩ := List.getElem_of_mem hy
    exact (hp i _ (List.getElem?_eq_getElem hi)).2
theorem arg34 {W : World} {r : Reach} {b0 : Nat} {v : Value} {d : DataW H} {p : List MemPlace} (hv : Value.okWide Try.prog W r b0 34 v) (h : DataW.Trod enc Try.prog w base (fun _ => true) held 34 v d p) : ∃ (A : Option Addr) (cap : Nat) (l : List ByteArray), v = .slice A l.length cap ∧ Kd.C Kd.string w A l.length l ∧ l.length ≤ cap ∧ ∀ y ∈ l, y.size ≤ maxLen := by
  obtain ⟨a0, len0, cap0, rfl⟩ := okWide_slice Try.underlying34 hv
  obtain ⟨fuel, hf⟩ := h
  rcases open_slice Try.underlying34 hf with ⟨hcs, _⟩ | ⟨a, len, cap, m, n, D, Pl, hcs, _, hl, hm, hmm, _, hi⟩
  · simp [Value.cells] at hcs
    obtain ⟨rfl, rfl, rfl⟩ := hcs
    exact ⟨none, 0, [], rfl, ⟨rfl, by simp, fun h => absurd h (by simp)⟩, Nat.le_refl _, fun y hy => by cases hy⟩
  · simp [Value.cells] at hcs
    obtain ⟨rfl, rfl, rfl⟩ := hcs
    simp only [if_true] at hmm
    subst hmm
    obtain ⟨l, hll, hp⟩ := list_of (p := fun i (s : ByteArray) => (∀ j u, ([.string s] : List Value)[j]? = some u → w.cell? (a.add (i * 1 + j)) = some u) ∧ s.size ≤ maxLen) len0 (fun i him => by
      obtain ⟨cs', hc, ht⟩ := hi i (by omega)
      rw [show Try.prog.cellsOf 9 = 1 from by kernel_rfl] at hc
      obtain ⟨_, hcl, hat⟩ := World.cells?_some hc
      obtain ⟨s, rfl, -, hw⟩ := DataW.trod_string Try.underlying9 ht
      refine ⟨s, fun j u hj => ?_, hw⟩
      have hjn : j < 1 := by rcases Nat.lt_or_ge j 1 with h | h; exact h; rw [List.getElem?_eq_none (by simpa using h)] at hj; cases hj
      rw [← Go.Deep.add_add, hat j hjn]; exact hj)
    subst hll
    refine ⟨some a, _, l, rfl, ⟨rfl, by simp only [maxLen] at hm; omega, fun _ => ⟨a, rfl, fun j q hq => ⟨_, rfl, rfl, fun i u hu => (hp j q hq).1 i u hu⟩⟩⟩, hl, fun y hy => ?_⟩
    obtain ⟨i, hi, rfl⟩ := List.getElem_of_mem hy
    exact (hp i _ (List.getElem?_eq_getElem hi)).2
theorem arg48 {W : World} {r : Reach} {b0 : Nat} {v : Value} {d : DataW H} {p : List MemPlace} (hv : Value.okWide Try.prog W r b0 48 v) (h : DataW.Trod enc Try.prog w base (fun _ => true) held 48 v d p) : ∃ (A : Option Addr) (cap : Nat) (l : List Int), v = .slice A l.length cap ∧ Kd.C (Kd.int .u8) w A l.length l ∧ l.length ≤ cap ∧ ∀ y ∈ l, (Lit.int .u8 y).wf = true := by
  obtain ⟨a0, len0, cap0, rfl⟩ := okWide_slice Try.underlying48 hv
  obtain ⟨fuel, hf⟩ := h
  rcases open_slice Try.underlying48 hf with ⟨hcs, _⟩ | ⟨a, len, cap, m, n, D, Pl, hcs, _, hl, hm, hmm, _, hi⟩
  · simp [Value.cells] at hcs
    obtain ⟨rfl, rfl, rfl⟩ := hcs
    exact ⟨none, 0, [], rfl, ⟨rfl, by simp, fun h => absurd h (by simp)⟩, Nat.le_refl _, fun y hy => by cases hy⟩
  · simp [Value.cells] at hcs
    obtain ⟨rfl, rfl, rfl⟩ := hcs
    simp only [if_true] at hmm
    subst hmm
    obtain ⟨l, hll, hp⟩ := list_of (p := fun i (s : Int) => (∀ j u, ([.int .u8 s] : List Value)[j]? = some u → w.cell? (a.add (i * 1 + j)) = some u) ∧ (Lit.int .u8 s).wf = true) len0 (fun i him => by
      obtain ⟨cs', hc, ht⟩ := hi i (by omega)
      rw [show Try.prog.cellsOf 5 = 1 from by kernel_rfl] at hc
      obtain ⟨_, hcl, hat⟩ := World.cells?_some hc
      obtain ⟨s, rfl, -, hw⟩ := DataW.trod_int Try.underlying5 ht
      refine ⟨s, fun j u hj => ?_, hw⟩
      have hjn : j < 1 := by rcases Nat.lt_or_ge j 1 with h | h; exact h; rw [List.getElem?_eq_none (by simpa using h)] at hj; cases hj
      rw [← Go.Deep.add_add, hat j hjn]; exact hj)
    subst hll
    refine ⟨some a, _, l, rfl, ⟨rfl, by simp only [maxLen] at hm; omega, fun _ => ⟨a, rfl, fun j q hq => ⟨_, rfl, rfl, fun i u hu => (hp j q hq).1 i u hu⟩⟩⟩, hl, fun y hy => ?_⟩
    obtain ⟨i, hi, rfl⟩ := List.getElem_of_mem hy
    exact (hp i _ (List.getElem?_eq_getElem hi)).2
end
end Go.Proofs.Ytjamaccblokfkaa.P

-- from the text Pw
namespace Go.Proofs.Ytjamaccblokfkaa.P
open Go.RowKit Go.Proofs.YtjamaccblokfkaaW.PrintWords Go.Proofs.YtjamaccblokfkaaW.PrintLast Go.Proofs.YtjamaccblokfkaaW.PrintMore
set_option linter.unusedVariables false
set_option linter.unusedSimpArgs false
theorem wrap_nat (j n : Nat) (h : j ≤ n) (hn : n ≤ 3060) : wrap64 ((j : Int) + 1) = ((j + 1 : Nat) : Int) := by unfold wrap64; omega
theorem meas_nat (nl j : Nat) (h : j < nl) : nl - (intOf (.int .i64 ((j + 1 : Nat) : Int))).toNat < nl - (intOf (.int .i64 (j : Int))).toNat := by simp [intOf]; omega
theorem meas_one : 1 - (intOf (.int .i64 1)).toNat < 1 - (intOf (.int .i64 0)).toNat := by decide
theorem catL_size (l : List ByteArray) (j : Nat) (h : j < l.length) : (catL (l.take j)).size + l[j].size ≤ (catL l).size := by
  have h1 : l = l.take (j + 1) ++ l.drop (j + 1) := (List.take_append_drop _ _).symm
  have h2 : catL l = catL (l.take (j + 1)) ++ catL (l.drop (j + 1)) := by
    apply ByteArray.ext
    rw [ByteArray.data_append]
    unfold catL
    conv => lhs; rw [h1]
    rw [List.map_append, List.flatten_append]
    simp
  rw [h2, ByteArray.size_append, ← catL_take l j h, ByteArray.size_append]
  omega
theorem pStr_zero (s : Pg) (b : ByteArray) : pStr s (b.extract 0 0) = s := by
  rw [pStr_fold, show byt (b.extract 0 0) = [] from List.eq_nil_of_length_eq_zero (by rw [byt_len, ByteArray.size_extract]; omega)]
  rfl
theorem pStr_whole (s : Pg) (b : ByteArray) : pStr s (b.extract 0 b.size) = pStr s b := by
  rw [ByteArray.extract_zero_size]
theorem part_step {w wr : World} {p q : Nat} {X : Pg} {text : ByteArray} {o c : Nat} {su : Int} (h : TwoX w wr p q (pStr X text) (pStr X (text.extract 0 o))) (ho : Ok 0 X) (h1 : o ≤ c) (h2 : c ≤ text.size) (hsz : text.size ≤ 3000) (hcl : cleanB text = true) (hs : dueI (pStr X (text.extract 0 o)) = su) :
    Calls Try.prog 8 #[.pointer (some ⟨q, 0, none⟩), .string (text.extract o c)] wr fun e w' => ∃ d su2, e = .returned (.tuple #[.int .i64 d, .int .i64 0]) ∧ wrap64 (su + d) = su2 ∧ Aside0 (TwoX w w' p q (pStr X text) (pStr X (text.extract 0 c))) ∧ Aside0 (dueI (pStr X (text.extract 0 c)) = su2) := by
  have l1 : (text.extract 0 o).size = o := by rw [ByteArray.size_extract]; omega
  have l2 : (text.extract o c).size = c - o := by rw [ByteArray.size_extract]; omega
  have hk : Ok o (pStr X (text.extract 0 o)) := by
    have := ho.strN (text.extract 0 o) (text.extract 0 o).size
    rw [l1, Nat.zero_add] at this
    show Ok o (pStrN X (text.extract 0 o) (text.extract 0 o).size)
    rw [l1]
    exact this
  refine (put_right h (text.extract o c) hk (by omega) (by omega) (clean_ext _ _ _ hcl)).mono ?_
  rintro e w' ⟨he, h'⟩
  rw [pStr_parts _ _ _ _ h1 h2] at he h'
  refine ⟨_, _, he, ?_, ⟨h'⟩, ⟨rfl⟩⟩
  have a1 := dueI_le (pStr X (text.extract 0 c))
  subst hs
  unfold wrap64
  omega
theorem skip_step {w wr : World} {p q n i m : Nat} {Y : Pg} {su : Int} (h : TwoX w wr p q (pSkip Y n) (pSkip Y i)) (ho : Ok m Y) (hm : m + i ≤ 10000) (hs : dueI (pSkip Y i) = su) :
    Calls Try.prog 9 #[.pointer (some ⟨q, 0, none⟩), .int .i64 1] wr fun e w' => ∃ d su2, e = .returned (.tuple #[.int .i64 d, .int .i64 0]) ∧ wrap64 (su + d) = su2 ∧ Aside0 (TwoX w w' p q (pSkip Y n) (pSkip Y (i + 1))) ∧ Aside0 (dueI (pSkip Y (i + 1)) = su2) := by
  refine (skip_right1 h (ho.skip i) hm).mono ?_
  rintro e w' ⟨he, h'⟩
  rw [pSkip_one] at he h'
  refine ⟨_, _, he, ?_, ⟨h'⟩, ⟨rfl⟩⟩
  have a1 := dueI_le (pSkip Y (i + 1))
  subst hs
  unfold wrap64
  omega
set_option maxRecDepth 100000 in
set_option maxHeartbeats 16000000 in
theorem parts_any (line page : Int) (text : ByteArray) (A : Option Addr) (cc nc : Nat) (getc : Nat → Int) (skips : Int) (w : World) (hr : ∀ i, i < nc → ∃ a, A = some a ∧ ∀ j, j < nc → w.cell? (a.add j) = some (.int .i64 (getc j))) (hc : nc ≤ cc) (Post : Ending → World → Prop) (hp : ∀ w', Below w.heap.size w w' → Post (.returned (.bool true)) w') :
    Calls Try.prog 3 #[.int .i64 line, .int .i64 page, .string text, .slice A nc cc, .int .i64 skips] w Post := by
  have HP := Aside0.mk hp
  have HR := Aside0.mk hr
  clear hp hr
  go_enter Try.func3, Try.ntmps3
  go_wp2_with fail
  refine (awake_is w).mono ?_
  rintro e w1 ⟨rfl, hb⟩
  have HB1 := Aside0.mk hb
  clear hb
  by_cases g1 : (text.size : Int) > 3000
  · have e1 : decide ((text.size : Int) > 3000) = true := decide_eq_true g1
    go_wp2_with fail
    exact HP.out _ HB1.out
  by_cases g2 : (nc : Int) > 60
  · have e2 : decide ((nc : Int) > 60) = true := decide_eq_true g2
    go_wp2_with fail
    exact HP.out _ HB1.out
  by_cases g3 : skips < 1
  · have e3 : decide (skips < 1) = true := decide_eq_true g3
    go_wp2_with fail
    exact HP.out _ HB1.out
  by_cases g4 : skips > 60
  · have e4 : decide (skips > 60) = true := decide_eq_true g4
    go_wp2_with fail
    exact HP.out _ HB1.out
  go_wp2_with fail
  refine (new_nil line page w1).mono ?_
  rintro e w2 (⟨hl, p, k, rfl, hp⟩ | ⟨hl, rfl, hb⟩)
  · have HA2 := Aside0.mk hp
    have HL := Aside0.mk hl
    clear hp hl
    go_wp2_with fail
    refine (new_nil line page w2).mono ?_
    rintro e w3 (⟨hl', q, k', rfl, hp⟩ | ⟨hl', rfl, hb⟩)
    · have HLI := Aside0.mk (lineOk_iff hl')
      have HT3 := Aside0.mk (TwoX.make (line := line) (page := page) (k := 0) (k' := 0) (pgN line page 0) HB1.out (la := tabN k) (lb := tabN k') rfl rfl HA2.out hp)
      clear hp HA2 HL hl'
      cases hcl : cleanB text with
      | false =>
        go_wp2_with fail
        refine (put_bad p text w3 (by omega) hcl).mono ?_
        rintro e w4 ⟨rfl, hb⟩
        have HB4 := Aside0.mk (HT3.out.below.trans (hb.mono HT3.out.below.size))
        clear hb hcl
        go_wp2_with fail
        exact HP.out _ HB4.out
      | true =>
        have HCL := Aside0.mk hcl
        clear hcl
        have HO := Aside0.mk (okN HLI.out).1
        obtain ⟨X, hX⟩ : ∃ X, pgN line page 0 = X := ⟨_, rfl⟩
        have hd0 : dueI X = 0 := by rw [← hX]; rfl
        obtain ⟨n, hn⟩ : ∃ n : Nat, skips = (n : Int) := ⟨skips.toNat, by omega⟩
        subst hn
        have HE := Aside0.mk (fun Z (hZ : Z = pSkip (pStr X text) n) => ends HLI.out text n (by omega) (by omega) (by omega) Z (by rw [hX]; exact hZ))
        rw [hX] at HT3 HO
        have HX := Aside0.mk hd0
        clear hX hd0
        have hsz : text.size ≤ 3000 := by omega
        go_wp2_with fail
        refine (put_left HT3.out text HO.out (by omega) (by omega) HCL.out).mono ?_
        rintro e w4 ⟨rfl, hT⟩
        have HT4 := Aside0.mk hT
        clear hT HT3 HB1
        rw [HX.out, Int.sub_zero]
        obtain ⟨dy, hdy⟩ : ∃ d, dueI (pStr X text) = d := ⟨_, rfl⟩
        rw [hdy]
        have HDY := Aside0.mk hdy
        clear hdy
        go_wp2_with fail
        go_loopw [16, 17, 18, 19, 20, 21] (fun v16 v17 v18 _ _ _ wr => ∃ (o i : Nat) (su : Int), o ≤ text.size ∧ i ≤ nc + 1 ∧ (i = nc + 1 → o = text.size) ∧ v16 = .int .i64 (o : Int) ∧ v17 = .int .i64 su ∧ v18 = .int .i64 (i : Int) ∧ Aside0 (TwoX w wr p q (pStr X text) (pStr X (text.extract 0 o))) ∧ Aside0 (dueI (pStr X (text.extract 0 o)) = su)) (fun _ _ v _ _ _ _ => nc + 1 - (intOf v).toNat)
        case atStart => exact ⟨0, 0, 0, Nat.zero_le _, Nat.zero_le _, (fun h => by omega), rfl, rfl, rfl, ⟨by rw [pStr_zero]; exact HT4.out⟩, ⟨by rw [pStr_zero]; exact HX.out⟩⟩
        case round =>
          clear HT4
          obtain ⟨o, i, su, ho, hi, hend, rfl, rfl, rfl, HT, HS⟩ := hrel
          have hwi : wrap64 ((i : Int) + 1) = ((i + 1 : Nat) : Int) := by unfold wrap64; omega
          have h0 : (0 : Int) ≤ (i : Int) := by omega
          by_cases hle : i ≤ nc
          · have q1 : (i : Int) ≤ (nc : Int) := by omega
            have d1 : decide ((i : Int) ≤ (nc : Int)) = true := decide_eq_true q1
            by_cases hlt : i < nc
            · have q2 : (i : Int) < (nc : Int) := by omega
              have d2 : decide ((i : Int) < (nc : Int)) = true := decide_eq_true q2
              obtain ⟨ad, hA, hcell⟩ := HR.out i hlt
              subst hA
              have cc0 := pw_cell_below HT.out.below (hcell i hlt)
              clear hcell
              obtain ⟨ci, hci⟩ : ∃ c, getc i = c := ⟨_, rfl⟩
              rw [hci] at cc0
              clear hci
              by_cases hlo : ci < (o : Int)
              · have d3 : decide (ci < (o : Int)) = true := decide_eq_true hlo
                go_wp2_with fail
                exact ⟨⟨o, i + 1, su, ho, by omega, (fun h => by omega), rfl, rfl, rfl, HT, HS⟩, by simp [intOf]; omega⟩
              · by_cases hhi : ci > (text.size : Int)
                · have d3 : decide (ci < (o : Int)) = false := decide_eq_false hlo
                  have d4 : decide (ci > (text.size : Int)) = true := decide_eq_true hhi
                  go_wp2_with fail
                  exact ⟨⟨o, i + 1, su, ho, by omega, (fun h => by omega), rfl, rfl, rfl, HT, HS⟩, by simp [intOf]; omega⟩
                · have d3 : decide (ci < (o : Int)) = false := decide_eq_false hlo
                  have d4 : decide (ci > (text.size : Int)) = false := decide_eq_false hhi
                  obtain ⟨c, hc'⟩ : ∃ c : Nat, ci = (c : Int) := ⟨ci.toNat, by omega⟩
                  subst hc'
                  go_wp2_with fail
                  refine (part_step HT.out (c := c) HO.out (by omega) (by omega) hsz HCL.out HS.out).mono ?_
                  rintro e w5 ⟨dd, su2, rfl, hsu, HT5, HS5⟩
                  clear HT HS cc0
                  go_wp2_with fail
                  exact ⟨⟨c, i + 1, su2, (by omega), by omega, (fun h => by omega), rfl, by rw [hsu], rfl, HT5, HS5⟩, by simp [intOf] <;> omega⟩
            · obtain rfl : i = nc := by omega
              have q2 : ¬ (i : Int) < (i : Int) := by omega
              go_wp2_with fail
              refine (part_step HT.out (c := text.size) HO.out (by omega) (by omega) hsz HCL.out HS.out).mono ?_
              rintro e w5 ⟨dd, su2, rfl, hsu, HT5, HS5⟩
              clear HT HS 
              go_wp2_with fail
              exact ⟨⟨text.size, i + 1, su2, (by omega), by omega, (fun h => rfl), rfl, by rw [hsu], rfl, HT5, HS5⟩, by simp [intOf] <;> omega⟩
          · obtain rfl : i = nc + 1 := by omega
            obtain rfl : o = text.size := hend rfl
            have q1 : ¬ ((nc + 1 : Nat) : Int) ≤ (nc : Int) := by omega
            rw [pStr_whole] at HT HS
            obtain ⟨Y, hY⟩ : ∃ Y, pStr X text = Y := ⟨_, rfl⟩
            have HOY := Aside0.mk (HO.out.strN text text.size)
            rw [Nat.zero_add, show pStrN X text text.size = Y from hY] at HOY
            replace HE := Aside0.mk (fun Z (hZ : Z = pSkip Y n) => HE.out Z (by rw [hY]; exact hZ))
            rw [hY] at HT HS HDY
            clear hY HO HX
            go_wp2_with fail
            refine (skip_left HT.out n HOY.out (by omega) (by omega) (by omega)).mono ?_
            rintro e w6 ⟨rfl, hT⟩
            have HT6 := Aside0.mk (show TwoX w w6 p q (pSkip Y n) (pSkip Y 0) from hT)
            have HS6 := Aside0.mk (show dueI (pSkip Y 0) = su from HS.out)
            obtain ⟨dx, hdx⟩ : ∃ d, dueI (pSkip Y n) - dueI Y = d := ⟨_, rfl⟩
            rw [hdx]
            have HDX := Aside0.mk hdx
            clear hT HT HS hdx
            go_wp2_with fail
            go_loopw [17, 23, 24, 25] (fun v17 v23 _ _ wr => ∃ (i : Nat) (su : Int), i ≤ n ∧ v17 = .int .i64 su ∧ v23 = .int .i64 (i : Int) ∧ Aside0 (TwoX w wr p q (pSkip Y n) (pSkip Y i)) ∧ Aside0 (dueI (pSkip Y i) = su)) (fun _ v _ _ _ => n - (intOf v).toNat)
            case atStart => exact ⟨0, su, Nat.zero_le _, rfl, rfl, HT6, HS6⟩
            case round =>
              clear HT6 HS6
              obtain ⟨i, su, hi, rfl, rfl, HT, HS⟩ := hrel
              have hwi : wrap64 ((i : Int) + 1) = ((i + 1 : Nat) : Int) := by unfold wrap64; omega
              have h0 : (0 : Int) ≤ (i : Int) := by omega
              by_cases hlt : i < n
              · have q1 : (i : Int) < (n : Int) := by omega
                go_wp2_with fail
                refine (skip_step HT.out HOY.out (by omega) HS.out).mono ?_
                rintro e w7 ⟨dd, su2, rfl, hsu, HT7, HS7⟩
                clear HT HS
                go_wp2_with fail
                exact ⟨⟨i + 1, su2, hlt, by rw [hsu], rfl, HT7, HS7⟩, by simp [intOf] <;> omega⟩
              · obtain rfl : i = n := by omega
                have q1 : ¬ (i : Int) < (i : Int) := by omega
                obtain ⟨Z, hZ⟩ : ∃ Z, pSkip Y i = Z := ⟨_, rfl⟩
                obtain ⟨zl, zt, zc, zx, zn⟩ := HE.out Z hZ.symm
                have HZC := Aside0.mk zc
                have HZX := Aside0.mk zx
                have hfin : dy + dx = su := by have := HDY.out; have := HDX.out; have := HS.out; omega
                have hwf : wrap64 (dy + dx) = su := by have := dueI_le (pSkip Y i); have := HS.out; unfold wrap64; omega
                clear hfin
                have hsu1 : su ≤ 1 := by have := dueI_le (pSkip Y i); have := HS.out; omega
                rw [hZ] at HT
                clear hZ HE HDY HDX HS HOY zc zx
                obtain ⟨st, hst⟩ : ∃ st : ByteArray, (⟨(textL (shown Z)).toArray⟩ : ByteArray) = st := ⟨_, rfl⟩
                have htl := (text_left HT.out (by omega) zt)
                have htr := fun W (hW : TwoX w W p q Z Z) => (text_right hW (by omega) zt)
                rw [hst] at htl
                have HTR := Aside0.mk (fun W (hW : TwoX w W p q Z Z) => by have := htr W hW; rw [hst] at this; exact this)
                clear htr hst zt
                have HZL := Aside0.mk (show Z.L.length ≤ 100000 by omega)
                clear zl
                go_wp2_with fail
                refine htl.mono ?_
                rintro e w7 ⟨rfl, hT7⟩
                have HT7 := Aside0.mk hT7
                clear hT7 htl HT
                go_wp2_with fail
                refine (HTR.out w7 HT7.out).mono ?_
                rintro e w8 ⟨rfl, hT8⟩
                have HT8 := Aside0.mk hT8
                clear hT8 HT7 HTR
                go_wp2_with fail
                refine (pages_left HT8.out HZL.out).mono ?_
                rintro e w9 ⟨v, rfl, ⟨g, cap, A9, c9, rfl, hc1, hrow, hb, cs, hg⟩, hbw⟩
                have HB9 := Aside0.mk hbw
                have HC9 := Aside0.mk (fun W (hW : Below w9.heap.size w9 W) => pw_cell_below hW hc1)
                have HR9 := Aside0.mk (fun j (hj : j < (shown Z).length) => (show ∃ a st, A9 = some a ∧ (∀ W, Below w9.heap.size w9 W → W.cell? (a.add j) = some (.string st)) ∧ (st.size : Int) ≤ line ∧ catL ((shown Z).take j) ++ st = catL ((shown Z).take (j + 1)) ∧ (catL ((shown Z).take j)).size + st.size ≤ 3000 from by
                  obtain ⟨ad, hA⟩ : ∃ ad, A9 = some ad := by
                    cases A9 with
                    | none => have := (own_none hrow).1; omega
                    | some ad => exact ⟨ad, rfl⟩
                  subst hA
                  exact ⟨ad, (shown Z)[j]'hj, rfl, fun W hW => pw_cell_below hW (own_cells hrow ad rfl j (.string ((shown Z)[j]'hj)) (by simp [strs, hj])), HZX.out _ (List.getElem_mem hj), catL_take _ j hj, Nat.le_trans (catL_size _ j hj) (HZC.out ▸ hsz)⟩))
                have HZD := Aside0.mk (show catL ((shown Z).take (shown Z).length) = text by rw [List.take_length]; exact HZC.out)
                have HZ0 := Aside0.mk (show catL ((shown Z).take 0) = ByteArray.empty from rfl)
                obtain ⟨cat, hcat⟩ : ∃ cat : Nat → ByteArray, (fun j => catL ((shown Z).take j)) = cat := ⟨_, rfl⟩
                replace HR9 := Aside0.mk (fun j (hj : j < (shown Z).length) => (show ∃ a st, A9 = some a ∧ (∀ W, Below w9.heap.size w9 W → W.cell? (a.add j) = some (.string st)) ∧ (st.size : Int) ≤ line ∧ cat j ++ st = cat (j + 1) ∧ (cat j).size + st.size ≤ 3000 from by subst hcat; exact HR9.out j hj))
                replace HZD := Aside0.mk (show cat (shown Z).length = text by subst hcat; exact HZD.out)
                replace HZ0 := Aside0.mk (show cat 0 = ByteArray.empty by subst hcat; exact HZ0.out)
                clear hcat HZX HZC
                clear hbw hc1 hrow hb hg HT8 HZL
                generalize (shown Z).length = nl at *
                go_wp2_with fail
                go_loopw [27, 28, 29] (fun v27 v28 _ wr => Aside0 (Below w9.heap.size w9 wr) ∧ ((v27 = .string ByteArray.empty ∧ v28 = .int .i64 0) ∨ (v27 = .string text ∧ v28 = .int .i64 1))) (fun _ v _ _ => 1 - (intOf v).toNat)
                case atStart => exact ⟨⟨Below.refl _ _⟩, .inl ⟨rfl, rfl⟩⟩
                case round =>
                  obtain ⟨HB, ⟨rfl, rfl⟩ | ⟨rfl, rfl⟩⟩ := hrel
                  · have cg := HC9.out wr HB.out
                    go_wp2_with fail
                    clear cg
                    go_loopw [27, 29] (fun v27 v29 wx => ∃ j : Nat, j ≤ nl ∧ v27 = .string (cat j) ∧ v29 = .int .i64 (j : Int) ∧ Aside0 (Below w9.heap.size w9 wx)) (fun _ v _ => nl - (intOf v).toNat)
                    case atStart => exact ⟨0, Nat.zero_le _, by rw [HZ0.out], rfl, HB⟩
                    case round =>
                      clear HB
                      obtain ⟨j, hj, rfl, rfl, HB⟩ := hrel
                      have hwj := wrap_nat j nl hj zn
                      have h0j : (0 : Int) ≤ (j : Int) := Int.natCast_nonneg j
                      have cg := HC9.out wr HB.out
                      by_cases hltj : j < nl
                      · have q1j : (j : Int) < (nl : Int) := Int.ofNat_lt.2 hltj
                        obtain ⟨ad, st, hA, hcell, hlen, hcc, hcs⟩ := HR9.out j hltj
                        subst hA
                        have cj := hcell wr HB.out
                        have hlen2 : ¬ (st.size : Int) > line := Int.not_lt.2 hlen
                        have HCC := Aside0.mk hcc
                        clear hcell hcc
                        go_wp2_with fail
                        rw [hwj]
                        exact ⟨⟨j + 1, hltj, by rw [← HCC.out], rfl, HB⟩, meas_nat nl j hltj⟩
                      · obtain rfl : j = nl := Nat.le_antisymm hj (Nat.not_lt.1 hltj)
                        have q1j : ¬ (j : Int) < (j : Int) := Int.lt_irrefl _
                        go_wp2_with fail
                        exact ⟨⟨HB, .inr ⟨by rw [HZD.out], rfl⟩⟩, meas_one⟩
                  · go_wp2_with fail
                    exact HP.out _ (HB9.out.trans (HB.out.mono HB9.out.size))
    · have := HL.out; rw [hl'] at this; cases this
  · have HB2 := Aside0.mk (HB1.out.trans (hb.mono HB1.out.size))
    clear hb
    go_wp2_with fail
    refine (new_nil line page w2).mono ?_
    rintro e w3 (⟨hl', p, k, rfl, hp⟩ | ⟨hl', rfl, hb⟩)
    · rw [hl] at hl'; cases hl'
    · have HB3 := Aside0.mk (HB2.out.trans (hb.mono HB2.out.size))
      clear hb
      go_wp2_with fail
      exact HP.out _ HB3.out
theorem PageParts_walk (line long2 : Int) (text : ByteArray) (A : Option Addr) (cap : Nat) (cuts : List Int) (skips : Int) (w : World) (_ : (Lit.int .i64 line).wf = true) (_ : (Lit.int .i64 long2).wf = true) (_ : text.size ≤ maxLen)
    (hcu : Kd.C (Kd.int .i64) w A cuts.length cuts) (hca : cuts.length ≤ cap) (_ : cuts.length * 8 ≤ 140737488351232) (_ : ∀ y ∈ cuts, (Lit.int .i64 y).wf = true) (_ : (Lit.int .i64 skips).wf = true) :
    Calls Try.prog 3 #[.int .i64 line, .int .i64 long2, .string text, .slice A cuts.length cap, .int .i64 skips] w fun e w' => e = .returned (.bool true) ∧ Below w.heap.size w w' :=
  parts_any line long2 text A cap cuts.length (fun j => cuts.getD j 0) skips w (fun i hi => cut_cell hcu i hi) hca _ (fun w' h => ⟨rfl, h⟩)
end Go.Proofs.Ytjamaccblokfkaa.P
