/- Part 7 of the proof of the law BitsMakes: functions, contracts and plain laws; merged by this session's program. -/
import Derived.Shelf.Strings.Search1
import Derived.Shelf.Strings.Repeat
import Derived.Shelf.Small.Strs
import Derived.Shelf.Strings.Prefix
import Derived.Shelf.Strings.Builder1
import Derived.Shelf.Strings.Builder2
import Derived.Shelf.Strings.Builder2Cap
import Derived.Shelf.Bits.Mul64
import Derived.Test.YtnelblndidciiaaProg
import Derived.IntWalk
import Derived.Deep.Slices
import Derived.Deep.Fields
import Derived.ProofKit
import Derived.ChangeSame
import Derived.SizedLaws
import Derived.Laws.EntriesVeiled
import Derived.Test.YtnelblndidciiaaMBitsMakes1
import Derived.Test.YtnelblndidciiaaMBitsMakes2
import Derived.Test.YtnelblndidciiaaMBitsMakes3
import Derived.Test.YtnelblndidciiaaMBitsMakes4
import Derived.Test.YtnelblndidciiaaMBitsMakes5
import Derived.Test.YtnelblndidciiaaMBitsMakes6
-- from the text A80
namespace Go.Proofs.Ytnelblndidciiaa.P
open Go.RowKit Go.Proofs.YtnelblndidciiaaW.PrintWords Go.Proofs.YtnelblndidciiaaW.PrintLast Go.Proofs.YtnelblndidciiaaW.PrintMore
attribute [local go_sem] max2_int min2_int max_two min_two max_three min_three max_four min_four   -- for this text's walks alone
set_option linter.unusedVariables false
set_option linter.unusedSimpArgs false
def ironbarkref05_plain.l0 : Nat → List Int → Int → Option (Bool)
  | 0, _, _ => none
  | k + 1, x0, x3 => if x3 < (x0.length : Int) then (if 0 ≤ x3 then (if (rd x0 x3) < (-1000000000) then (some false) else (if (rd x0 x3) > 1000000000 then (some false) else (ironbarkref05_plain.l0 k x0 (wrap64 (x3 + 1))))) else (none)) else (some true)
def ironbarkref05_plain.f (k : Nat) (l0 : List Int) : Option (Bool) := ironbarkref05_plain.l0 k l0 0
set_option maxHeartbeats 8000000 in
set_option maxRecDepth 100000 in
theorem ironbarkref05_plain.calls (k : Nat) (A0 : Option Addr) (c0 : Nat) (l0 : List Int) (r : Bool) (w : World) (hr0 : Kd.C (Kd.int .i64) w A0 l0.length l0) (hc0 : l0.length ≤ c0) (h : ironbarkref05_plain.f k l0 = some r) :
    Calls Try.prog 80 #[.slice A0 l0.length c0] w fun e w' => e = .returned (.bool r) ∧ Drawn0 w w' := by
  have HR0 := Aside0.mk hr0
  have HC0 := Aside0.mk hc0
  clear hr0 hc0
  have H : (ironbarkref05_plain.l0 k l0 0) = some r := h
  clear h
  have H' := Aside0.mk H
  clear H
  go_enter Try.func80, Try.ntmps80
  go_wp2
  go_loopg [3] k (fun kq v3 w' => ∃ (x3_1 : Int), v3 = .int .i64 x3_1 ∧ Aside0 (ironbarkref05_plain.l0 kq l0 x3_1 = some r) ∧ Aside0 (kq ≤ k) ∧ Drawn0 w w')
  case atStart => exact ⟨(0), (by first | rfl | (simp; done) | (generalize ByteArray.toList _ = l_; cases l_ <;> rfl) | (simp [*]; done)), H', ⟨Nat.le_refl _⟩, by repeat (first | exact Drawn0.refl _ | apply Drawn0.step)⟩
  case round =>
    clear H'
    obtain ⟨x3_1, rfl, HA, HK1, ⟨m1, rfl⟩⟩ := hrel
    cases gk with
    | zero => exact absurd HA.out (by simp [ironbarkref05_plain.l0])
    | succ k1 =>
      have H := HA.out
      clear HA
      simp only [ironbarkref05_plain.l0] at H
      by_cases c2 : x3_1 < (l0.length : Int)
      · rw [if_pos c2] at H
        have c2b0 : decide (x3_1 < (l0.length : Int)) = true := decide_eq_true c2
        clear c2
        by_cases c3 : 0 ≤ x3_1
        · rw [if_pos c3] at H
          have c3b0 : decide (0 ≤ x3_1) = true := decide_eq_true c3
          clear c3
          by_cases c4 : (rd l0 x3_1) < (-1000000000)
          · rw [if_pos c4] at H
            have c4b0 : decide ((rd l0 x3_1) < (-1000000000)) = true := decide_eq_true c4
            clear c4
            obtain rfl := Option.some.inj H
            have p101 : 0 ≤ (x3_1 : Int) := of_decide_eq_true (by first | (with_reducible assumption) | assumption)
            have q101 : x3_1 < (l0.length : Int) := of_decide_eq_true (by first | (with_reducible assumption) | assumption)
            obtain ⟨ad101, e101, hx101_0⟩ := Kd.at_int HR0.out x3_1 p101 q101
            cases e101
            replace p101 := eq_true p101
            replace q101 := eq_true q101
            go_wp2
            go_ret
            exact ⟨by first | rfl | (simp; done) | (simp [*]; done), by repeat (first | exact Drawn0.refl _ | apply Drawn0.step)⟩
          · rw [if_neg c4] at H
            have c4b0 : decide ((rd l0 x3_1) < (-1000000000)) = false := decide_eq_false c4
            clear c4
            by_cases c5 : (rd l0 x3_1) > 1000000000
            · rw [if_pos c5] at H
              have c5b0 : decide (1000000000 < (rd l0 x3_1)) = true := decide_eq_true c5
              clear c5
              obtain rfl := Option.some.inj H
              have p101 : 0 ≤ (x3_1 : Int) := of_decide_eq_true (by first | (with_reducible assumption) | assumption)
              have q101 : x3_1 < (l0.length : Int) := of_decide_eq_true (by first | (with_reducible assumption) | assumption)
              obtain ⟨ad101, e101, hx101_0⟩ := Kd.at_int HR0.out x3_1 p101 q101
              cases e101
              replace p101 := eq_true p101
              replace q101 := eq_true q101
              have p102 : 0 ≤ (x3_1 : Int) := of_decide_eq_true (by first | (with_reducible assumption) | assumption)
              have q102 : x3_1 < (l0.length : Int) := of_decide_eq_true (by first | (with_reducible assumption) | assumption)
              obtain ⟨ad102, e102, hx102_0⟩ := Kd.at_int HR0.out x3_1 p102 q102
              obtain rfl : ad101 = ad102 := (by injection e102)
              replace p102 := eq_true p102
              replace q102 := eq_true q102
              go_wp2
              go_ret
              exact ⟨by first | rfl | (simp; done) | (simp [*]; done), by repeat (first | exact Drawn0.refl _ | apply Drawn0.step)⟩
            · rw [if_neg c5] at H
              have c5b0 : decide (1000000000 < (rd l0 x3_1)) = false := decide_eq_false c5
              clear c5
              have H' := Aside0.mk H
              clear H
              have p101 : 0 ≤ (x3_1 : Int) := of_decide_eq_true (by first | (with_reducible assumption) | assumption)
              have q101 : x3_1 < (l0.length : Int) := of_decide_eq_true (by first | (with_reducible assumption) | assumption)
              obtain ⟨ad101, e101, hx101_0⟩ := Kd.at_int HR0.out x3_1 p101 q101
              cases e101
              replace p101 := eq_true p101
              replace q101 := eq_true q101
              have p102 : 0 ≤ (x3_1 : Int) := of_decide_eq_true (by first | (with_reducible assumption) | assumption)
              have q102 : x3_1 < (l0.length : Int) := of_decide_eq_true (by first | (with_reducible assumption) | assumption)
              obtain ⟨ad102, e102, hx102_0⟩ := Kd.at_int HR0.out x3_1 p102 q102
              obtain rfl : ad101 = ad102 := (by injection e102)
              replace p102 := eq_true p102
              replace q102 := eq_true q102
              go_wp2
              go_roundg k1
              case measure => have := HK1.out; omega
              case rel => exact ⟨(wrap64 (x3_1 + 1)), (by first | rfl | (simp; done) | (generalize ByteArray.toList _ = l_; cases l_ <;> rfl) | (simp [*]; done)), H', ⟨by have := HK1.out; omega⟩, by repeat (first | exact Drawn0.refl _ | apply Drawn0.step)⟩
        · rw [if_neg c3] at H
          exact absurd H (by simp)
      · rw [if_neg c2] at H
        have c2b0 : decide (x3_1 < (l0.length : Int)) = false := decide_eq_false c2
        clear c2
        obtain rfl := Option.some.inj H
        go_wp2
        go_ret
        exact ⟨by first | rfl | (simp; done) | (simp [*]; done), by repeat (first | exact Drawn0.refl _ | apply Drawn0.step)⟩
/-- THE ONE PURE STATEMENT of ironbarkref05_plain: yours. -/
def ironbarkref05_plain.Pure : Prop := ∀ (l0 : List Int), l0.length ≤ maxLen → l0.length * 8 ≤ 140737488351232 → (∀ x ∈ l0, (Lit.int .i64 x).wf = true) → ∃ k, ironbarkref05_plain.f k l0 = some true
theorem ironbarkref05_plain.walk (P : ironbarkref05_plain.Pure) (a0 : Option Addr) (len0 cap0 : Nat) (z0 : List Int) (w : World) (w0 : (a0 = none ∧ len0 = 0 ∧ cap0 = 0 ∧ z0 = []) ∨ ∃ x, a0 = some x ∧ len0 ≤ cap0 ∧ cap0 ≤ maxLen ∧ z0.length = cap0 ∧ (∀ i, i < z0.length → w.cell? (x.add i) = some (.int .i64 (z0.getD i 0))) ∧ ∀ n ∈ z0, (Lit.int .i64 n).wf = true) (y0 : len0 * 8 ≤ 140737488351232) :
    Calls Try.prog 80 #[.slice a0 len0 cap0] w fun e w' => e = .returned (.bool true) ∧ Below w.heap.size w w' := by
  obtain ⟨l0, rfl, hr0, hm0, hw0, hc0⟩ := ReadsInt.ofRowC w0
  obtain ⟨k, h⟩ := P l0 hm0 y0 hw0
  refine (ironbarkref05_plain.calls k _ _ l0 true w (Kd.C_of_reads (d := (0 : Int)) (h1 := fun _ => rfl) hr0) hc0 h).mono ?_
  rintro e w' ⟨rfl, hd⟩
  exact ⟨rfl, hd.below⟩
end Go.Proofs.Ytnelblndidciiaa.P

-- from the text Hcp
namespace Go.Proofs.Ytnelblndidciiaa.P
open Go.RowKit Go.Proofs.YtnelblndidciiaaW.PrintWords Go.Proofs.YtnelblndidciiaaW.PrintLast Go.Proofs.YtnelblndidciiaaW.PrintMore
set_option linter.unusedVariables false
set_option linter.unusedSimpArgs false
theorem plain_l0 (l : List Int) (hl : l.length ≤ 9223372036854775807) : ∀ d i : Nat, i + d = l.length →
    Ev (fun k => ironbarkref05_plain.l0 k l (i : Int)) (!(l.drop i).any farI) := by
  intro d
  induction d with
  | zero =>
    intro i h
    rw [List.drop_of_length_le (by omega), List.any_nil]
    exact Ev.step (f := fun _ => some true) (fun k => by simp only [ironbarkref05_plain.l0]; rw [if_neg (by omega)]) (Ev.now _)
  | succ d ih =>
    intro i h
    have hi : i < l.length := by omega
    have e : ∀ k, ironbarkref05_plain.l0 (k + 1) l (i : Int) = if farI (l.getD i 0) = true then some false else ironbarkref05_plain.l0 k l ((i + 1 : Nat) : Int) := fun k => by
      simp only [ironbarkref05_plain.l0]
      rw [if_pos (by omega), if_pos (by omega), rdI, wrapN hi hl]
      by_cases h1 : l.getD i 0 > 1000000000
      · rw [if_neg (by omega), if_pos h1, if_pos (by simp only [farI, decide_eq_true h1, Bool.true_or])]
      · by_cases h2 : l.getD i 0 < -1000000000
        · rw [if_pos h2, if_pos (by simp only [farI, decide_eq_true h2, Bool.or_true])]
        · rw [if_neg h2, if_neg h1, if_neg (by simp only [farI, decide_eq_false h1, decide_eq_false h2]; decide)]
    rw [drop_getD 0 hi, List.any_cons]
    cases hc : farI (l.getD i 0) with
    | true =>
      rw [Bool.true_or]
      exact Ev.step (f := fun _ => some false) (fun k => by rw [e, if_pos hc]) (Ev.now _)
    | false =>
      rw [Bool.false_or]
      exact Ev.step (fun k => by rw [e, if_neg (by rw [hc]; decide)]) (ih (i + 1) (by omega))
def ironbarkref05_plainT.f (l0 : List Int) : Option Bool := some (!l0.any farI)
theorem ironbarkref05_plainT.calls (A0 : Option Addr) (c0 : Nat) (l0 : List Int) (r : Bool) (w : World) (hr0 : Kd.C (Kd.int .i64) w A0 l0.length l0) (hc0 : l0.length ≤ c0) (h : ironbarkref05_plainT.f l0 = some r) :
    Calls Try.prog 80 #[.slice A0 l0.length c0] w fun e w' => e = .returned (.bool r) ∧ Drawn0 w w' := by
  obtain rfl : (!l0.any farI) = r := by simpa [ironbarkref05_plainT.f] using h
  obtain ⟨k, hk⟩ := (plain_l0 l0 hr0.2.1 l0.length 0 (by omega)).rounds
  exact ironbarkref05_plain.calls k A0 c0 l0 _ w hr0 hc0 hk
end Go.Proofs.Ytnelblndidciiaa.P

-- from the text D36
namespace Go.Proofs.Ytnelblndidciiaa.P
open Go.RowKit Go.Proofs.YtnelblndidciiaaW.PrintWords Go.Proofs.YtnelblndidciiaaW.PrintLast Go.Proofs.YtnelblndidciiaaW.PrintMore
attribute [local go_sem] max2_int min2_int max_two min_two max_three min_three max_four min_four   -- for this text's walks alone
set_option linter.unusedVariables false
set_option linter.unusedSimpArgs false
def bits_Rest.f (a0_0 : Int) (a0_1 : Int) (a0_2 : Int) (a0_3 : ByteArray) (a1 : Int) : Option (Int × Int × Int × ByteArray × Int × Int) := (bits_Valid.f a0_0 a0_1 a0_2 a0_3).bind fun t103 => (if t103 = true then ((bits_farT.f (([a1] : List Int))).bind fun t107 => (if t107 = true then (some (0, 0, 0, (⟨#[]⟩ : ByteArray), 0, 7)) else ((bits_part.f (a0_3.size : Int) a1 (wrap64 ((wrap64 ((a0_3.size : Int) - a1)) + 1))).bind fun bt108 => (if 0 ≤ bt108.1 then (if bt108.1 ≤ bt108.2.1 then (if bt108.2.1 ≤ (a0_3.size : Int) then ((bits_with.f a0_0 a0_1 a0_2 a0_3 (a0_3.extract (bt108.1 : Int).toNat (bt108.2.1 : Int).toNat)).bind fun bt111 => ((bits_cond.f bt108.2.2).bind fun t115 => (some (bt111.1, bt111.2.1, bt111.2.2.1, bt111.2.2.2, t115, 0)))) else (none)) else (none)) else (none))))) else (some (0, 0, 0, (⟨#[]⟩ : ByteArray), 0, 1)))
def bits_Rest.T6 : Bool × List (List Nat × List Nat) := (true, [([], []), ([], []), ([1], [1]), ([], []), ([], []), ([2, 3, 4], [2, 3, 4]), ([0, 5], [0, 5]), ([], []), ([7, 6], [7]), ([6, 8, 0, 1, 2, 3, 4, 5, 6], [6]), ([8, 9, 0, 1, 2, 3, 4, 5, 6, 7, 8, 9], [8]), ([10, 0, 1, 2, 3, 4, 5, 6, 7, 8, 9, 10], [])])
def bits_Rest.B6 : List Nat := [0, 0, 2, 0, 0, 30, 63, 0, 255, 511, 1023, 2047]
theorem bits_Rest.tab6 : rtab .any (opsOf Try.f36 6) = bits_Rest.T6 := by kernel_rfl
theorem bits_Rest.bits6 : waitsOk bits_Rest.T6.2 bits_Rest.B6 = true := by kernel_rfl
set_option maxHeartbeats 8000000 in
set_option maxRecDepth 100000 in
theorem bits_Rest.calls (a0_0 : Int) (a0_1 : Int) (a0_2 : Int) (a0_3 : ByteArray) (a1 : Int) (r1 : Int) (r2 : Int) (r3 : Int) (r4 : ByteArray) (r5 : Int) (r6 : Int) (w : World) (h : bits_Rest.f a0_0 a0_1 a0_2 a0_3 a1 = some (r1, r2, r3, r4, r5, r6)) :
    Calls Try.prog 36 #[.agg #[.int .i64 a0_0, .int .i64 a0_1, .int .i64 a0_2, .string a0_3], .int .i64 a1] w fun e w' => e = .returned (.tuple #[.agg #[.int .i64 r1, .int .i64 r2, .int .i64 r3, .string r4], .int .i64 r5, .int .i64 r6]) ∧ Below w.heap.size w w' := by
  have hu23 := Try.underlying23
  have HB := Aside0.mk (Below.refl w.heap.size w)
  have H : ((bits_Valid.f a0_0 a0_1 a0_2 a0_3).bind fun t103 => (if t103 = true then ((bits_farT.f (([a1] : List Int))).bind fun t107 => (if t107 = true then (some (0, 0, 0, (⟨#[]⟩ : ByteArray), 0, 7)) else ((bits_part.f (a0_3.size : Int) a1 (wrap64 ((wrap64 ((a0_3.size : Int) - a1)) + 1))).bind fun bt108 => (if 0 ≤ bt108.1 then (if bt108.1 ≤ bt108.2.1 then (if bt108.2.1 ≤ (a0_3.size : Int) then ((bits_with.f a0_0 a0_1 a0_2 a0_3 (a0_3.extract (bt108.1 : Int).toNat (bt108.2.1 : Int).toNat)).bind fun bt111 => ((bits_cond.f bt108.2.2).bind fun t115 => (some (bt111.1, bt111.2.1, bt111.2.2.1, bt111.2.2.2, t115, 0)))) else (none)) else (none)) else (none))))) else (some (0, 0, 0, (⟨#[]⟩ : ByteArray), 0, 1)))) = some (r1, r2, r3, r4, r5, r6) := h
  clear h
  replace H := Option.bind_eq_some_iff.mp H
  obtain ⟨t103, A30, H⟩ := H
  replace H : (if t103 = true then ((bits_farT.f (([a1] : List Int))).bind fun t107 => (if t107 = true then (some (0, 0, 0, (⟨#[]⟩ : ByteArray), 0, 7)) else ((bits_part.f (a0_3.size : Int) a1 (wrap64 ((wrap64 ((a0_3.size : Int) - a1)) + 1))).bind fun bt108 => (if 0 ≤ bt108.1 then (if bt108.1 ≤ bt108.2.1 then (if bt108.2.1 ≤ (a0_3.size : Int) then ((bits_with.f a0_0 a0_1 a0_2 a0_3 (a0_3.extract (bt108.1 : Int).toNat (bt108.2.1 : Int).toNat)).bind fun bt111 => ((bits_cond.f bt108.2.2).bind fun t115 => (some (bt111.1, bt111.2.1, bt111.2.2.1, bt111.2.2.2, t115, 0)))) else (none)) else (none)) else (none))))) else (some (0, 0, 0, (⟨#[]⟩ : ByteArray), 0, 1))) = some (r1, r2, r3, r4, r5, r6) := H
  have A3 := Aside0.mk A30
  clear A30
  by_cases c4 : t103 = true
  · subst c4
    have H1 : ((bits_farT.f (([a1] : List Int))).bind fun t107 => (if t107 = true then (some (0, 0, 0, (⟨#[]⟩ : ByteArray), 0, 7)) else ((bits_part.f (a0_3.size : Int) a1 (wrap64 ((wrap64 ((a0_3.size : Int) - a1)) + 1))).bind fun bt108 => (if 0 ≤ bt108.1 then (if bt108.1 ≤ bt108.2.1 then (if bt108.2.1 ≤ (a0_3.size : Int) then ((bits_with.f a0_0 a0_1 a0_2 a0_3 (a0_3.extract (bt108.1 : Int).toNat (bt108.2.1 : Int).toNat)).bind fun bt111 => ((bits_cond.f bt108.2.2).bind fun t115 => (some (bt111.1, bt111.2.1, bt111.2.2.1, bt111.2.2.2, t115, 0)))) else (none)) else (none)) else (none))))) = some (r1, r2, r3, r4, r5, r6) := by rw [if_pos rfl] at H; exact H
    clear H
    have H := H1
    clear H1
    obtain ⟨y104, hy104⟩ : ∃ y_ : List Int, y_ = (([a1] : List Int)) := ⟨_, rfl⟩
    replace H : ((bits_farT.f y104).bind fun t107 => (if t107 = true then (some (0, 0, 0, (⟨#[]⟩ : ByteArray), 0, 7)) else ((bits_part.f (a0_3.size : Int) a1 (wrap64 ((wrap64 ((a0_3.size : Int) - a1)) + 1))).bind fun bt108 => (if 0 ≤ bt108.1 then (if bt108.1 ≤ bt108.2.1 then (if bt108.2.1 ≤ (a0_3.size : Int) then ((bits_with.f a0_0 a0_1 a0_2 a0_3 (a0_3.extract (bt108.1 : Int).toNat (bt108.2.1 : Int).toNat)).bind fun bt111 => ((bits_cond.f bt108.2.2).bind fun t115 => (some (bt111.1, bt111.2.1, bt111.2.2.1, bt111.2.2.2, t115, 0)))) else (none)) else (none)) else (none))))) = some (r1, r2, r3, r4, r5, r6) := by first | (rw [hy104]; with_reducible exact H) | (have H2_ := (Option.bind_some _ _).symm.trans H; rw [hy104]; with_reducible exact H2_) | (have H2_ := (Option.bind_some _ _).symm.trans H; with_reducible exact H2_) | with_reducible exact H | (rw [hy104]; exact H) | exact H
    have Ny104 := Aside0.mk hy104
    clear hy104
    replace H := Option.bind_eq_some_iff.mp H
    obtain ⟨t107, A50, H⟩ := H
    replace H : (if t107 = true then (some (0, 0, 0, (⟨#[]⟩ : ByteArray), 0, 7)) else ((bits_part.f (a0_3.size : Int) a1 (wrap64 ((wrap64 ((a0_3.size : Int) - a1)) + 1))).bind fun bt108 => (if 0 ≤ bt108.1 then (if bt108.1 ≤ bt108.2.1 then (if bt108.2.1 ≤ (a0_3.size : Int) then ((bits_with.f a0_0 a0_1 a0_2 a0_3 (a0_3.extract (bt108.1 : Int).toNat (bt108.2.1 : Int).toNat)).bind fun bt111 => ((bits_cond.f bt108.2.2).bind fun t115 => (some (bt111.1, bt111.2.1, bt111.2.2.1, bt111.2.2.2, t115, 0)))) else (none)) else (none)) else (none)))) = some (r1, r2, r3, r4, r5, r6) := H
    have A5 := Aside0.mk A50
    clear A50
    by_cases c6 : t107 = true
    · subst c6
      have H1 : (some (0, 0, 0, (⟨#[]⟩ : ByteArray), 0, 7)) = some (r1, r2, r3, r4, r5, r6) := by rw [if_pos rfl] at H; exact H
      clear H
      have H := H1
      clear H1
      simp only [Option.some.injEq, Prod.mk.injEq] at H
      obtain ⟨rfl, rfl, rfl, rfl, rfl, rfl⟩ := H
      go_enter Try.func36, Try.ntmps36
      go_wp2_with (first | ((with_reducible refine gate_dst (N := 2) rfl ?_); refine box_event ?hg (N := 2) ?hd (cs := #[.int .i64 a0_0, .int .i64 a0_1, .int .i64 a0_2, .string a0_3]) (t := 23) ?hr ?_; (case hd => rfl); (case hg => rfl); (case hr => first | (go_simp; done) | (go_simp; rfl)); intro gb101 hg w7 hbox hb; have n0_ := Aside0.mk (below_step (by repeat (first | (with_reducible first | exact HB.out | apply below_alloc | apply pw_below_drewN | apply below_drew1) | exact HB.out)) hb); have n1_ := Aside0.mk (hbox); have n2_ := Aside0.mk ((by rw [hg]; exact (below_size (by repeat (first | (with_reducible first | exact HB.out | apply below_alloc | apply pw_below_drewN | apply below_drew1) | exact HB.out))) : w.heap.size ≤ gb101)); have n3_ := n2_; clear HB; have HB := n0_; have BK101 := n1_; have GW101 := n2_; have GE101 := n3_; clear n0_ n1_ n2_ n3_; clear hb hbox hg) | ((with_reducible refine gate_dst (N := 4) rfl ?_); refine box_event ?hg (N := 4) ?hd (cs := #[.int .i64 0, .int .i64 0, .int .i64 0, .string (⟨#[]⟩ : ByteArray)]) (t := 23) ?hr ?_; (case hd => rfl); (case hg => rfl); (case hr => first | (go_simp; done) | (go_simp; rfl)); intro gb102 hg w8 hbox hb; have n0_ := Aside0.mk (blk_below (zk BK101.out) hb); have n1_ := Aside0.mk (below_step (by repeat (first | (with_reducible first | exact HB.out | apply below_alloc | apply pw_below_drewN | apply below_drew1 | refine below_set ?_ GE101.out) | exact HB.out)) hb); have n2_ := Aside0.mk (hbox); have n3_ := Aside0.mk ((by rw [hg]; exact (below_size (by repeat (first | (with_reducible first | exact HB.out | apply below_alloc | apply pw_below_drewN | apply below_drew1 | refine below_set ?_ GE101.out) | exact HB.out))) : w.heap.size ≤ gb102)); have n4_ := n3_; have n5_ := Aside0.mk ((by rw [hg]; exact Nat.ne_of_lt (blk_lt (zk BK101.out)) : gb101 ≠ gb102)); have n6_ := Aside0.mk ((by rw [hg]; exact Nat.ne_of_gt (blk_lt (zk BK101.out)) : gb102 ≠ gb101)); clear BK101; clear HB; have BK101 := n0_; have HB := n1_; have BK102 := n2_; have GW102 := n3_; have GE102 := n4_; have NB101_102 := n5_; have NB102_101 := n6_; clear n0_ n1_ n2_ n3_ n4_ n5_ n6_; clear hb hbox hg; have hnb9 := NB101_102.out; have hnc9 := NB102_101.out; obtain ⟨hcz10_0, hcz10_1, hcz10_2, hcz10_3⟩ := blk_quad BK101.out; obtain ⟨hfz10_0, hfz10_1, hfz10_2, hfz10_3⟩ := blk_quad_free BK101.out) | ((with_reducible refine gate_callee (f := 62) rfl ?_); refine goesL_ (some 12) rfl rfl Try.func62 (by kernel_rfl) rfl #[.agg #[.int .i64 a0_0, .int .i64 a0_1, .int .i64 a0_2, .string a0_3]] rfl (by (try simp only [List.map_toArray, List.map_cons, List.map_nil]); first | done | rfl | (simp only [List.length_drop, List.length_take]; rfl)) ?_; (with_reducible refine (bits_Valid.calls a0_0 a0_1 a0_2 a0_3 true _ A3.out).mono ?_); rintro e w11 ⟨rfl, hb⟩; refine ⟨_, rfl, ?_⟩; have n0_ := Aside0.mk (blk_below (zk BK101.out) hb); have n1_ := Aside0.mk (blk_below (zk BK102.out) hb); have n2_ := Aside0.mk (below_step (by repeat (first | (with_reducible first | exact HB.out | apply below_alloc | apply pw_below_drewN | apply below_drew1 | refine below_set ?_ GE101.out | refine below_set ?_ GE102.out) | exact HB.out)) hb); clear BK101; clear BK102; clear HB; have BK101 := n0_; have BK102 := n1_; have HB := n2_; clear n0_ n1_ n2_; (try clear hb); (try clear hb2); (try clear hk); (try clear hi)) | ((with_reducible refine gate_dst (N := 17) rfl ?_); refine Kd.R_lit (Kd.int .i64) _ 3 ?hg (N := 17) ?hd (xs := ([a1] : List Int)) (inner := [.int .i64 a1]) (ok := fun _ => True) (okp := fun _ => True) ?hr ?hp (fun _ hk => hk) trivial (Below.refl _ _) (Nat.le_refl _) (by simp) ?_; (case hd => rfl); (case hg => rfl); (case hr => first | (go_simp; done) | (go_simp; rfl)); (case hp => exact (Reps.one (show Kd.M (Kd.int .i64) _ _ _ a1 [.int .i64 a1] from rfl) (Reps.none _ _))); intro v105 w12 ho13 hb hg_ hnew_; clear hg_ hnew_; (first | rw [← Ny104.out] at ho13 | (simp only [Int.reduceToNat] at ho13; rw [← Ny104.out] at ho13)); have n0_ := Aside0.mk (Kd.R_lower ho13 (below_size (by repeat (first | (with_reducible first | exact HB.out | apply below_alloc | apply pw_below_drewN | apply below_drew1 | refine below_set ?_ GE101.out | refine below_set ?_ GE102.out) | exact HB.out)))); have n1_ := Aside0.mk (blk_below (zk BK101.out) hb); have n2_ := Aside0.mk (blk_below (zk BK102.out) hb); have n3_ := Aside0.mk (below_step (by repeat (first | (with_reducible first | exact HB.out | apply below_alloc | apply pw_below_drewN | apply below_drew1 | refine below_set ?_ GE101.out | refine below_set ?_ GE102.out) | exact HB.out)) hb); clear BK101; clear BK102; clear HB; have HO106 := n0_; have BK101 := n1_; have BK102 := n2_; have HB := n3_; clear n0_ n1_ n2_ n3_; clear hb ho13; obtain ⟨Ao14, co14, eo14⟩ := Kd.R_slice HO106.out; subst eo14) | ((with_reducible refine gate_callee (f := 63) rfl ?_); refine goesL_ (some 18) rfl rfl Try.func63 (by kernel_rfl) rfl #[.slice Ao14 y104.length co14] rfl (by (try simp only [List.map_toArray, List.map_cons, List.map_nil]); first | done | rfl | (simp only [List.length_drop, List.length_take]; rfl)) ?_; (with_reducible refine (bits_farT.calls _ _ y104 true _ ?side1 ?side2 A5.out).mono ?_); (case side1 => repeat (first | exact (Kd.R_reads' HO106.out).2.2 | (with_reducible refine Kd.C_alloc ?_ _) | (with_reducible refine Kd.C_drewN ?_ _) | (with_reducible refine Kd.C_drew ?_))); (case side2 => exact (Kd.R_reads' HO106.out).2.1); rintro e w' ⟨rfl, ⟨nd, rfl⟩⟩; refine ⟨_, rfl, ?_⟩; (try (rw [drewN_self w12]; generalize hq_ : World.drewN w12 _ = w12; have n0_ : Aside0 (Kd.R (Kd.int .i64) 3 w12 w.heap.size (fun _ => True) (.slice Ao14 y104.length co14) y104) := ⟨by rw [← hq_]; exact (by (with_reducible repeat (first | apply Kd.R_alloc | apply Kd.R_drewN | apply Kd.R_drew)); exact HO106.out)⟩; have n1_ : Aside0 (w12.heap[gb101]? = some (.cells #[.int .i64 a0_0, .int .i64 a0_1, .int .i64 a0_2, .string a0_3] 23 (0, 0))) := ⟨by rw [← hq_]; exact (zk BK101.out)⟩; have n2_ : Aside0 (w12.heap[gb102]? = some (.cells #[.int .i64 0, .int .i64 0, .int .i64 0, .string (⟨#[]⟩ : ByteArray)] 23 (0, 0))) := ⟨by rw [← hq_]; exact (zk BK102.out)⟩; have n3_ : Aside0 (Below w.heap.size w w12) := ⟨by rw [← hq_]; exact (by repeat (first | (with_reducible first | exact HB.out | apply below_alloc | apply pw_below_drewN | apply below_drew1 | refine below_set ?_ GE101.out | refine below_set ?_ GE102.out) | exact HB.out))⟩; clear HO106 BK101 BK102 HB hq_; have HO106 := n0_; have BK101 := n1_; have BK102 := n2_; have HB := n3_; clear n0_ n1_ n2_ n3_)); obtain ⟨hcz15_0, hcz15_1, hcz15_2, hcz15_3⟩ := blk_quad BK102.out; obtain ⟨hfz15_0, hfz15_1, hfz15_2, hfz15_3⟩ := blk_quad_free BK102.out))
      refine bodyPost_ret (results_ctt rfl _ _ gb102 23 #[.int .i64 0, .int .i64 0, .int .i64 0, .string (⟨#[]⟩ : ByteArray)] (0, 0) _ rfl (by refine zk ?_; refine blk_put (cs := #[.int .i64 0, .int .i64 0, .int .i64 0, .string (⟨#[]⟩ : ByteArray)]) ?_ 3 _ rfl; refine zk ?_; refine blk_put (cs := #[.int .i64 0, .int .i64 0, .int .i64 0, .string (⟨#[]⟩ : ByteArray)]) ?_ 2 _ rfl; refine zk ?_; refine blk_put (cs := #[.int .i64 0, .int .i64 0, .int .i64 0, .string (⟨#[]⟩ : ByteArray)]) ?_ 1 _ rfl; refine zk ?_; refine blk_put (cs := #[.int .i64 0, .int .i64 0, .int .i64 0, .string (⟨#[]⟩ : ByteArray)]) ?_ 0 _ rfl; refine zk ?_; exact BK102.out) Try.underlying23 rfl (by kernel_rfl)) rfl ?_
      exact ⟨by first | rfl | (simp [errW_none, errW_some] <;> rfl) | (simp [*, errW_none, errW_some] <;> rfl), by repeat (first | (with_reducible first | exact HB.out | apply below_alloc | apply pw_below_drewN | apply below_drew1 | refine below_set ?_ GE101.out | refine below_set ?_ GE102.out) | exact HB.out)⟩
    · replace c6 := Bool.eq_false_iff.mpr c6
      subst c6
      have H1 : ((bits_part.f (a0_3.size : Int) a1 (wrap64 ((wrap64 ((a0_3.size : Int) - a1)) + 1))).bind fun bt108 => (if 0 ≤ bt108.1 then (if bt108.1 ≤ bt108.2.1 then (if bt108.2.1 ≤ (a0_3.size : Int) then ((bits_with.f a0_0 a0_1 a0_2 a0_3 (a0_3.extract (bt108.1 : Int).toNat (bt108.2.1 : Int).toNat)).bind fun bt111 => ((bits_cond.f bt108.2.2).bind fun t115 => (some (bt111.1, bt111.2.1, bt111.2.2.1, bt111.2.2.2, t115, 0)))) else (none)) else (none)) else (none))) = some (r1, r2, r3, r4, r5, r6) := by rw [if_neg (show ¬ (false = true) by decide)] at H; exact H
      clear H
      have H := H1
      clear H1
      replace H := Option.bind_eq_some_iff.mp H
      obtain ⟨⟨t108, t109, t110⟩, A160, H⟩ := H
      replace H : (if 0 ≤ t108 then (if t108 ≤ t109 then (if t109 ≤ (a0_3.size : Int) then ((bits_with.f a0_0 a0_1 a0_2 a0_3 (a0_3.extract (t108 : Int).toNat (t109 : Int).toNat)).bind fun bt111 => ((bits_cond.f t110).bind fun t115 => (some (bt111.1, bt111.2.1, bt111.2.2.1, bt111.2.2.2, t115, 0)))) else (none)) else (none)) else (none)) = some (r1, r2, r3, r4, r5, r6) := H
      have A16 := Aside0.mk A160
      clear A160
      by_cases c17 : 0 ≤ t108
      · rw [if_pos c17] at H
        have c17b0 := eq_true c17
        have c17b1 : decide (0 ≤ t108) = true := decide_eq_true c17
        clear c17
        by_cases c18 : t108 ≤ t109
        · rw [if_pos c18] at H
          have c18b0 := eq_true c18
          have c18b1 : decide (t108 ≤ t109) = true := decide_eq_true c18
          clear c18
          by_cases c19 : t109 ≤ (a0_3.size : Int)
          · rw [if_pos c19] at H
            have c19b0 := eq_true c19
            have c19b1 : decide (t109 ≤ (a0_3.size : Int)) = true := decide_eq_true c19
            clear c19
            replace H := Option.bind_eq_some_iff.mp H
            obtain ⟨⟨t111, t112, t113, t114⟩, A200, H⟩ := H
            replace H : ((bits_cond.f t110).bind fun t115 => (some (t111, t112, t113, t114, t115, 0))) = some (r1, r2, r3, r4, r5, r6) := H
            have A20 := Aside0.mk A200
            clear A200
            replace H := Option.bind_eq_some_iff.mp H
            obtain ⟨t115, A210, H⟩ := H
            replace H : (some (t111, t112, t113, t114, t115, 0)) = some (r1, r2, r3, r4, r5, r6) := H
            have A21 := Aside0.mk A210
            clear A210
            simp only [Option.some.injEq, Prod.mk.injEq] at H
            obtain ⟨rfl, rfl, rfl, rfl, rfl, rfl⟩ := H
            go_enter Try.func36, Try.ntmps36
            try go_wp2_with (first | ((with_reducible refine gate_dst (N := 2) rfl ?_); refine box_event ?hg (N := 2) ?hd (cs := #[.int .i64 a0_0, .int .i64 a0_1, .int .i64 a0_2, .string a0_3]) (t := 23) ?hr ?_; (case hd => rfl); (case hg => rfl); (case hr => first | (go_simp; done) | (go_simp; rfl)); intro gb101 hg w22 hbox hb; have n0_ := Aside0.mk (below_step (by repeat (first | (with_reducible first | exact HB.out | apply below_alloc | apply pw_below_drewN | apply below_drew1) | exact HB.out)) hb); have n1_ := Aside0.mk (hbox); have n2_ := Aside0.mk ((by rw [hg]; exact (below_size (by repeat (first | (with_reducible first | exact HB.out | apply below_alloc | apply pw_below_drewN | apply below_drew1) | exact HB.out))) : w.heap.size ≤ gb101)); have n3_ := n2_; clear HB; have HB := n0_; have BK101 := n1_; have GW101 := n2_; have GE101 := n3_; clear n0_ n1_ n2_ n3_; clear hb hbox hg) | ((with_reducible refine gate_dst (N := 4) rfl ?_); refine box_event ?hg (N := 4) ?hd (cs := #[.int .i64 0, .int .i64 0, .int .i64 0, .string (⟨#[]⟩ : ByteArray)]) (t := 23) ?hr ?_; (case hd => rfl); (case hg => rfl); (case hr => first | (go_simp; done) | (go_simp; rfl)); intro gb102 hg w23 hbox hb; have n0_ := Aside0.mk (blk_below (zk BK101.out) hb); have n1_ := Aside0.mk (below_step (by repeat (first | (with_reducible first | exact HB.out | apply below_alloc | apply pw_below_drewN | apply below_drew1 | refine below_set ?_ GE101.out) | exact HB.out)) hb); have n2_ := Aside0.mk (hbox); have n3_ := Aside0.mk ((by rw [hg]; exact (below_size (by repeat (first | (with_reducible first | exact HB.out | apply below_alloc | apply pw_below_drewN | apply below_drew1 | refine below_set ?_ GE101.out) | exact HB.out))) : w.heap.size ≤ gb102)); have n4_ := n3_; have n5_ := Aside0.mk ((by rw [hg]; exact Nat.ne_of_lt (blk_lt (zk BK101.out)) : gb101 ≠ gb102)); have n6_ := Aside0.mk ((by rw [hg]; exact Nat.ne_of_gt (blk_lt (zk BK101.out)) : gb102 ≠ gb101)); clear BK101; clear HB; have BK101 := n0_; have HB := n1_; have BK102 := n2_; have GW102 := n3_; have GE102 := n4_; have NB101_102 := n5_; have NB102_101 := n6_; clear n0_ n1_ n2_ n3_ n4_ n5_ n6_; clear hb hbox hg; have hnb24 := NB101_102.out; have hnc24 := NB102_101.out; obtain ⟨hcz25_0, hcz25_1, hcz25_2, hcz25_3⟩ := blk_quad BK101.out; obtain ⟨hfz25_0, hfz25_1, hfz25_2, hfz25_3⟩ := blk_quad_free BK101.out) | ((with_reducible refine gate_callee (f := 62) rfl ?_); refine goesL_ (some 12) rfl rfl Try.func62 (by kernel_rfl) rfl #[.agg #[.int .i64 a0_0, .int .i64 a0_1, .int .i64 a0_2, .string a0_3]] rfl (by (try simp only [List.map_toArray, List.map_cons, List.map_nil]); first | done | rfl | (simp only [List.length_drop, List.length_take]; rfl)) ?_; (with_reducible refine (bits_Valid.calls a0_0 a0_1 a0_2 a0_3 true _ A3.out).mono ?_); rintro e w26 ⟨rfl, hb⟩; refine ⟨_, rfl, ?_⟩; have n0_ := Aside0.mk (blk_below (zk BK101.out) hb); have n1_ := Aside0.mk (blk_below (zk BK102.out) hb); have n2_ := Aside0.mk (below_step (by repeat (first | (with_reducible first | exact HB.out | apply below_alloc | apply pw_below_drewN | apply below_drew1 | refine below_set ?_ GE101.out | refine below_set ?_ GE102.out) | exact HB.out)) hb); clear BK101; clear BK102; clear HB; have BK101 := n0_; have BK102 := n1_; have HB := n2_; clear n0_ n1_ n2_; (try clear hb); (try clear hb2); (try clear hk); (try clear hi)) | ((with_reducible refine gate_dst (N := 17) rfl ?_); refine Kd.R_lit (Kd.int .i64) _ 3 ?hg (N := 17) ?hd (xs := ([a1] : List Int)) (inner := [.int .i64 a1]) (ok := fun _ => True) (okp := fun _ => True) ?hr ?hp (fun _ hk => hk) trivial (Below.refl _ _) (Nat.le_refl _) (by simp) ?_; (case hd => rfl); (case hg => rfl); (case hr => first | (go_simp; done) | (go_simp; rfl)); (case hp => exact (Reps.one (show Kd.M (Kd.int .i64) _ _ _ a1 [.int .i64 a1] from rfl) (Reps.none _ _))); intro v105 w27 ho28 hb hg_ hnew_; clear hg_ hnew_; (first | rw [← Ny104.out] at ho28 | (simp only [Int.reduceToNat] at ho28; rw [← Ny104.out] at ho28)); have n0_ := Aside0.mk (Kd.R_lower ho28 (below_size (by repeat (first | (with_reducible first | exact HB.out | apply below_alloc | apply pw_below_drewN | apply below_drew1 | refine below_set ?_ GE101.out | refine below_set ?_ GE102.out) | exact HB.out)))); have n1_ := Aside0.mk (blk_below (zk BK101.out) hb); have n2_ := Aside0.mk (blk_below (zk BK102.out) hb); have n3_ := Aside0.mk (below_step (by repeat (first | (with_reducible first | exact HB.out | apply below_alloc | apply pw_below_drewN | apply below_drew1 | refine below_set ?_ GE101.out | refine below_set ?_ GE102.out) | exact HB.out)) hb); clear BK101; clear BK102; clear HB; have HO106 := n0_; have BK101 := n1_; have BK102 := n2_; have HB := n3_; clear n0_ n1_ n2_ n3_; clear hb ho28; obtain ⟨Ao29, co29, eo29⟩ := Kd.R_slice HO106.out; subst eo29) | ((with_reducible refine gate_callee (f := 63) rfl ?_); refine goesL_ (some 18) rfl rfl Try.func63 (by kernel_rfl) rfl #[.slice Ao29 y104.length co29] rfl (by (try simp only [List.map_toArray, List.map_cons, List.map_nil]); first | done | rfl | (simp only [List.length_drop, List.length_take]; rfl)) ?_; (with_reducible refine (bits_farT.calls _ _ y104 false _ ?side1 ?side2 A5.out).mono ?_); (case side1 => repeat (first | exact (Kd.R_reads' HO106.out).2.2 | (with_reducible refine Kd.C_alloc ?_ _) | (with_reducible refine Kd.C_drewN ?_ _) | (with_reducible refine Kd.C_drew ?_))); (case side2 => exact (Kd.R_reads' HO106.out).2.1); rintro e w' ⟨rfl, ⟨nd, rfl⟩⟩; refine ⟨_, rfl, ?_⟩; (try (rw [drewN_self w27]; generalize hq_ : World.drewN w27 _ = w27; have n0_ : Aside0 (Kd.R (Kd.int .i64) 3 w27 w.heap.size (fun _ => True) (.slice Ao29 y104.length co29) y104) := ⟨by rw [← hq_]; exact (by (with_reducible repeat (first | apply Kd.R_alloc | apply Kd.R_drewN | apply Kd.R_drew)); exact HO106.out)⟩; have n1_ : Aside0 (w27.heap[gb101]? = some (.cells #[.int .i64 a0_0, .int .i64 a0_1, .int .i64 a0_2, .string a0_3] 23 (0, 0))) := ⟨by rw [← hq_]; exact (zk BK101.out)⟩; have n2_ : Aside0 (w27.heap[gb102]? = some (.cells #[.int .i64 0, .int .i64 0, .int .i64 0, .string (⟨#[]⟩ : ByteArray)] 23 (0, 0))) := ⟨by rw [← hq_]; exact (zk BK102.out)⟩; have n3_ : Aside0 (Below w.heap.size w w27) := ⟨by rw [← hq_]; exact (by repeat (first | (with_reducible first | exact HB.out | apply below_alloc | apply pw_below_drewN | apply below_drew1 | refine below_set ?_ GE101.out | refine below_set ?_ GE102.out) | exact HB.out))⟩; clear HO106 BK101 BK102 HB hq_; have HO106 := n0_; have BK101 := n1_; have BK102 := n2_; have HB := n3_; clear n0_ n1_ n2_ n3_)); obtain ⟨hcz30_0, hcz30_1, hcz30_2, hcz30_3⟩ := blk_quad BK101.out; obtain ⟨hfz30_0, hfz30_1, hfz30_2, hfz30_3⟩ := blk_quad_free BK101.out) | ((with_reducible refine gate_callee (f := 64) rfl ?_); refine goesL_ (some 31) rfl rfl Try.func64 (by kernel_rfl) rfl #[.int .i64 (a0_3.size : Int), .int .i64 a1, .int .i64 (wrap64 ((wrap64 ((a0_3.size : Int) - a1)) + 1))] rfl (by (try simp only [List.map_toArray, List.map_cons, List.map_nil]); first | done | rfl | (simp only [List.length_drop, List.length_take]; rfl)) ?_; (with_reducible refine (bits_part.calls (a0_3.size : Int) a1 (wrap64 ((wrap64 ((a0_3.size : Int) - a1)) + 1)) t108 t109 t110 _ A16.out).mono ?_); rintro e w31 ⟨rfl, hb⟩; refine ⟨_, rfl, ?_⟩; have n0_ := Aside0.mk (Kd.R_below (by (with_reducible repeat (first | apply Kd.R_alloc | apply Kd.R_drewN | apply Kd.R_drew)); exact HO106.out) hb); have n1_ := Aside0.mk (blk_below (zk BK101.out) hb); have n2_ := Aside0.mk (blk_below (zk BK102.out) hb); have n3_ := Aside0.mk (below_step (by repeat (first | (with_reducible first | exact HB.out | apply below_alloc | apply pw_below_drewN | apply below_drew1 | refine below_set ?_ GE101.out | refine below_set ?_ GE102.out) | exact HB.out)) hb); clear HO106; clear BK101; clear BK102; clear HB; have HO106 := n0_; have BK101 := n1_; have BK102 := n2_; have HB := n3_; clear n0_ n1_ n2_ n3_; (try clear hb); (try clear hb2); (try clear hk); (try clear hi)))
            have n0_ := Aside0.mk (Kd.R_drew HO106.out)
            have n1_ := Aside0.mk (blk_drew BK101.out)
            have n2_ := Aside0.mk (blk_drew BK102.out)
            have n3_ := Aside0.mk (below_drew1 HB.out)
            clear HO106
            clear BK101
            clear BK102
            clear HB
            have HO106 := n0_
            have BK101 := n1_
            have BK102 := n2_
            have HB := n3_
            clear n0_ n1_ n2_ n3_
            refine start_ (n := 12) (S := fun w' => w'.cell? ⟨gb101, 0, none⟩ = some (.int .i64 a0_0) ∧ w'.cell? ⟨gb101, 1, none⟩ = some (.int .i64 a0_1) ∧ w'.cell? ⟨gb101, 2, none⟩ = some (.int .i64 a0_2) ∧ w'.cell? ⟨gb101, 3, none⟩ = some (.string a0_3)) (ds := []) #[false, false, false, false, false, false, false, false, false, false, false, false] (by kernel_rfl) rfl rfl ⟨(blk_cell BK101.out 0).trans rfl, (blk_cell BK101.out 1).trans rfl, (blk_cell BK101.out 2).trans rfl, (blk_cell BK101.out 3).trans rfl⟩ (fun hHeld => ?_); refine with_tabW bits_Rest.tab6 bits_Rest.bits6 (fun HT_ HW_ => ?_)
            generalize w31.drew = w32 at HO106 BK101 BK102 HB hHeld ⊢
            refine pure_ (i := 1) (N := some 36) (v := ?_) (a' := ?_) #[false, true, false, false, false, false, false, false, false, false, false, false] rfl rfl (any_of HT_.out (by kernel_rfl)) (fun _ _ _ h => h) (Or.inl ⟨by rfl, ?_⟩) ?_ ?_
            rotate_left
            · intro w'
              go_simp
              with_reducible rfl
            rotate_left
            · simp only [Act.put, List.setIfInBounds_toArray, List.set_cons_zero, List.set_cons_succ, i64_w, i32_w]
              rfl
            refine pure_ (i := 3) (N := some 38) (v := ?_) (a' := ?_) #[false, true, false, true, false, false, false, false, false, false, false, false] rfl rfl (any_of HT_.out (by kernel_rfl)) (fun _ _ _ h => h) (Or.inl ⟨by rfl, ?_⟩) ?_ ?_
            rotate_left
            · intro w'
              go_simp
              with_reducible rfl
            rotate_left
            · simp only [Act.put, List.setIfInBounds_toArray, List.set_cons_zero, List.set_cons_succ, i64_w, i32_w]
              rfl
            refine pure_ (i := 4) (N := some 39) (v := ?_) (a' := ?_) #[false, true, false, true, true, false, false, false, false, false, false, false] rfl rfl (any_of HT_.out (by kernel_rfl)) (fun _ _ _ h => h) (Or.inl ⟨by rfl, ?_⟩) ?_ ?_
            rotate_left
            · intro w'
              go_simp
              with_reducible rfl
            rotate_left
            · simp only [Act.put, List.setIfInBounds_toArray, List.set_cons_zero, List.set_cons_succ, i64_w, i32_w]
              rfl
            refine pure_ (i := 7) (N := some 42) (v := ?_) (a' := ?_) #[false, true, false, true, true, false, false, true, false, false, false, false] rfl rfl (any_of HT_.out (by kernel_rfl)) (fun _ _ _ h => h) (Or.inl ⟨by rfl, ?_⟩) ?_ ?_
            rotate_left
            · intro w'
              go_simp
              with_reducible rfl
            rotate_left
            · simp only [Act.put, List.setIfInBounds_toArray, List.set_cons_zero, List.set_cons_succ, i64_w, i32_w]
              rfl
            refine take_ (i := 0) (N := some 35) (v := ?_) (a' := ?_) #[true, true, false, true, true, false, false, true, false, false, false, false] rfl rfl (take_ofW HT_.out HW_.out (by kernel_rfl)) (fun _ _ _ h => h) (Or.inl ⟨by rfl, ?_⟩) hHeld ?_ ?_
            rotate_left
            · rintro w' ⟨s0, s1, s2, s3⟩
              go_simp
              with_reducible rfl
            rotate_left
            · simp only [Act.put, List.setIfInBounds_toArray, List.set_cons_zero, List.set_cons_succ, i64_w, i32_w]
              rfl
            refine take_ (i := 2) (N := some 37) (v := ?_) (a' := ?_) #[true, true, true, true, true, false, false, true, false, false, false, false] rfl rfl (take_ofW HT_.out HW_.out (by kernel_rfl)) (fun _ _ _ h => h) (Or.inl ⟨by rfl, ?_⟩) hHeld ?_ ?_
            rotate_left
            · rintro w' ⟨s0, s1, s2, s3⟩
              go_simp
              with_reducible rfl
            rotate_left
            · simp only [Act.put, List.setIfInBounds_toArray, List.set_cons_zero, List.set_cons_succ, i64_w, i32_w]
              rfl
            refine pure_ (i := 5) (N := some 40) (v := ?_) (a' := ?_) #[true, true, true, true, true, true, false, true, false, false, false, false] rfl rfl (any_of HT_.out (by kernel_rfl)) (fun _ _ _ h => h) (Or.inl ⟨by rfl, ?_⟩) ?_ ?_
            rotate_left
            · intro w'
              go_simp
              with_reducible rfl
            rotate_left
            · simp only [Act.put, List.setIfInBounds_toArray, List.set_cons_zero, List.set_cons_succ, i64_w, i32_w]
              rfl
            refine one_ (i := 6) (N := some 41) #[true, true, true, true, true, true, true, true, false, false, false, false] rfl rfl (one_of HT_.out (by kernel_rfl)) (by decide) (fun K hK => ?_)
            refine goes_ Try.func65 (by kernel_rfl) rfl #[.agg #[.int .i64 a0_0, .int .i64 a0_1, .int .i64 a0_2, .string a0_3], .string (a0_3.extract (t108 : Int).toNat (t109 : Int).toNat)] (by rfl) rfl rfl (by (try simp only [List.map_toArray, List.map_cons, List.map_nil]); first | done | rfl | (simp only [List.length_drop, List.length_take]; rfl)) ?_
            with_reducible refine (bits_with.calls a0_0 a0_1 a0_2 a0_3 (a0_3.extract (t108 : Int).toNat (t109 : Int).toNat) t111 t112 t113 t114 _ A20.out).mono ?_
            rintro e w33 ⟨rfl, hb⟩
            refine ⟨_, rfl, ?_⟩
            have n0_ := Aside0.mk (Kd.R_below (by (with_reducible repeat (first | apply Kd.R_alloc | apply Kd.R_drewN | apply Kd.R_drew)); exact HO106.out) hb)
            have n1_ := Aside0.mk (blk_below (zk BK101.out) hb)
            have n2_ := Aside0.mk (blk_below (zk BK102.out) hb)
            have n3_ := Aside0.mk (below_step (by repeat (first | (with_reducible first | exact HB.out | apply below_alloc | apply pw_below_drewN | apply below_drew1 | refine below_set ?_ GE101.out | refine below_set ?_ GE102.out) | exact HB.out)) hb)
            clear HO106
            clear BK101
            clear BK102
            clear HB
            have HO106 := n0_
            have BK101 := n1_
            have BK102 := n2_
            have HB := n3_
            clear n0_ n1_ n2_ n3_
            (try clear hb)
            (try clear hb2)
            (try clear hk)
            (try clear hi)
            refine hK.out _ _ ⟨(blk_cell BK101.out 0).trans rfl, (blk_cell BK101.out 1).trans rfl, (blk_cell BK101.out 2).trans rfl, (blk_cell BK101.out 3).trans rfl⟩ (fun hHeld => ?_)
            clear hK K
            refine norm_ (a' := ?_) ?_ ?_
            rotate_left
            · show Act.put _ (some 41) _ = _
              simp only [Act.put, List.setIfInBounds_toArray, List.set_cons_zero, List.set_cons_succ, i64_w, i32_w]
              rfl
            refine one_ (i := 8) (N := some 43) #[true, true, true, true, true, true, true, true, true, false, false, false] rfl rfl (one_of HT_.out (by kernel_rfl)) (by decide) (fun K hK => ?_)
            refine goes_ Try.func66 (by kernel_rfl) rfl #[.bool t110] (by rfl) rfl rfl (by (try simp only [List.map_toArray, List.map_cons, List.map_nil]); first | done | rfl | (simp only [List.length_drop, List.length_take]; rfl)) ?_
            with_reducible refine (bits_cond.calls t110 t115 _ A21.out).mono ?_
            rintro e w' ⟨rfl, ⟨nd, rfl⟩⟩
            refine ⟨_, rfl, ?_⟩
            refine hK.out _ _ ⟨(blk_cell BK101.out 0).trans rfl, (blk_cell BK101.out 1).trans rfl, (blk_cell BK101.out 2).trans rfl, (blk_cell BK101.out 3).trans rfl⟩ (fun hHeld => ?_)
            clear hK K
            refine norm_ (a' := ?_) ?_ ?_
            rotate_left
            · show Act.put _ (some 43) _ = _
              simp only [Act.put, List.setIfInBounds_toArray, List.set_cons_zero, List.set_cons_succ, i64_w, i32_w]
              rfl
            refine one_ (i := 9) (N := none) #[true, true, true, true, true, true, true, true, true, true, false, false] rfl rfl (one_of HT_.out (by kernel_rfl)) (by decide) (fun K hK => ?_)
            have hs34 : w33.cell? ⟨gb102, 0, none⟩ = some (.int .i64 0) := (blk_cell BK102.out 0).trans rfl
            have hfs34 := blk_frozen BK102.out 0
            have hns34_0 := NB101_102.out
            have hms34_0 := NB102_101.out
            have hs35 : w33.cell? ⟨gb102, 1, none⟩ = some (.int .i64 0) := (blk_cell BK102.out 1).trans rfl
            have hfs35 := blk_frozen BK102.out 1
            have hns35_0 := NB101_102.out
            have hms35_0 := NB102_101.out
            have hs36 : w33.cell? ⟨gb102, 2, none⟩ = some (.int .i64 0) := (blk_cell BK102.out 2).trans rfl
            have hfs36 := blk_frozen BK102.out 2
            have hns36_0 := NB101_102.out
            have hms36_0 := NB102_101.out
            have hs37 : w33.cell? ⟨gb102, 3, none⟩ = some (.string (⟨#[]⟩ : ByteArray)) := (blk_cell BK102.out 3).trans rfl
            have hfs37 := blk_frozen BK102.out 3
            have hns37_0 := NB101_102.out
            have hms37_0 := NB102_101.out
            refine skip_ (w1 := ?_) (by rfl) rfl ?_ ?_
            rotate_left
            · go_simp
              rfl
            refine hK.out _ _ ⟨((cell_far (p := ⟨gb102, _, none⟩) NB101_102.out _).trans (((cell_far (p := ⟨gb102, _, none⟩) NB101_102.out _).trans (((cell_far (p := ⟨gb102, _, none⟩) NB101_102.out _).trans (((cell_far (p := ⟨gb102, _, none⟩) NB101_102.out _).trans (hHeld.1)))))))), ((cell_far (p := ⟨gb102, _, none⟩) NB101_102.out _).trans (((cell_far (p := ⟨gb102, _, none⟩) NB101_102.out _).trans (((cell_far (p := ⟨gb102, _, none⟩) NB101_102.out _).trans (((cell_far (p := ⟨gb102, _, none⟩) NB101_102.out _).trans (hHeld.2.1)))))))), ((cell_far (p := ⟨gb102, _, none⟩) NB101_102.out _).trans (((cell_far (p := ⟨gb102, _, none⟩) NB101_102.out _).trans (((cell_far (p := ⟨gb102, _, none⟩) NB101_102.out _).trans (((cell_far (p := ⟨gb102, _, none⟩) NB101_102.out _).trans (hHeld.2.2.1)))))))), ((cell_far (p := ⟨gb102, _, none⟩) NB101_102.out _).trans (((cell_far (p := ⟨gb102, _, none⟩) NB101_102.out _).trans (((cell_far (p := ⟨gb102, _, none⟩) NB101_102.out _).trans (((cell_far (p := ⟨gb102, _, none⟩) NB101_102.out _).trans (hHeld.2.2.2))))))))⟩ (fun hHeld => ?_)
            clear hK K
            refine pure_ (i := 10) (N := some 5) (v := ?_) (a' := ?_) #[true, true, true, true, true, true, true, true, true, true, true, false] rfl rfl (any_of HT_.out (by kernel_rfl)) (fun _ _ _ h => h) (Or.inl ⟨by rfl, ?_⟩) ?_ ?_
            rotate_left
            · intro w'
              go_simp
              with_reducible rfl
            rotate_left
            · simp only [Act.put, List.setIfInBounds_toArray, List.set_cons_zero, List.set_cons_succ, i64_w, i32_w]
              rfl
            refine pure_ (i := 11) (N := some 6) (v := ?_) (a' := ?_) #[true, true, true, true, true, true, true, true, true, true, true, true] rfl rfl (any_of HT_.out (by kernel_rfl)) (fun _ _ _ h => h) (Or.inl ⟨by rfl, ?_⟩) ?_ ?_
            rotate_left
            · intro w'
              go_simp
              with_reducible rfl
            rotate_left
            · simp only [Act.put, List.setIfInBounds_toArray, List.set_cons_zero, List.set_cons_succ, i64_w, i32_w]
              rfl
            refine done_ (done_of HT_.out (by kernel_rfl)) ?_
            try go_wp2
            refine bodyPost_ret (results_ctt rfl _ _ gb102 23 #[.int .i64 t111, .int .i64 t112, .int .i64 t113, .string t114] (0, 0) _ rfl (by refine zk ?_; refine blk_put (cs := #[.int .i64 t111, .int .i64 t112, .int .i64 t113, .string (⟨#[]⟩ : ByteArray)]) ?_ 3 _ rfl; refine zk ?_; refine blk_put (cs := #[.int .i64 t111, .int .i64 t112, .int .i64 0, .string (⟨#[]⟩ : ByteArray)]) ?_ 2 _ rfl; refine zk ?_; refine blk_put (cs := #[.int .i64 t111, .int .i64 0, .int .i64 0, .string (⟨#[]⟩ : ByteArray)]) ?_ 1 _ rfl; refine zk ?_; refine blk_put (cs := #[.int .i64 0, .int .i64 0, .int .i64 0, .string (⟨#[]⟩ : ByteArray)]) ?_ 0 _ rfl; refine zk ?_; exact BK102.out) Try.underlying23 rfl (by kernel_rfl)) rfl ?_
            exact ⟨by first | rfl | (simp [errW_none, errW_some] <;> rfl) | (simp [*, errW_none, errW_some] <;> rfl), by repeat (first | (with_reducible first | exact HB.out | apply below_alloc | apply pw_below_drewN | apply below_drew1 | refine below_set ?_ GE101.out | refine below_set ?_ GE102.out) | exact HB.out)⟩
          · rw [if_neg c19] at H
            exact absurd H (by simp)
        · rw [if_neg c18] at H
          exact absurd H (by simp)
      · rw [if_neg c17] at H
        exact absurd H (by simp)
  · replace c4 := Bool.eq_false_iff.mpr c4
    subst c4
    have H1 : (some (0, 0, 0, (⟨#[]⟩ : ByteArray), 0, 1)) = some (r1, r2, r3, r4, r5, r6) := by rw [if_neg (show ¬ (false = true) by decide)] at H; exact H
    clear H
    have H := H1
    clear H1
    simp only [Option.some.injEq, Prod.mk.injEq] at H
    obtain ⟨rfl, rfl, rfl, rfl, rfl, rfl⟩ := H
    go_enter Try.func36, Try.ntmps36
    go_wp2_with (first | ((with_reducible refine gate_dst (N := 2) rfl ?_); refine box_event ?hg (N := 2) ?hd (cs := #[.int .i64 a0_0, .int .i64 a0_1, .int .i64 a0_2, .string a0_3]) (t := 23) ?hr ?_; (case hd => rfl); (case hg => rfl); (case hr => first | (go_simp; done) | (go_simp; rfl)); intro gb101 hg w38 hbox hb; have n0_ := Aside0.mk (below_step (by repeat (first | (with_reducible first | exact HB.out | apply below_alloc | apply pw_below_drewN | apply below_drew1) | exact HB.out)) hb); have n1_ := Aside0.mk (hbox); have n2_ := Aside0.mk ((by rw [hg]; exact (below_size (by repeat (first | (with_reducible first | exact HB.out | apply below_alloc | apply pw_below_drewN | apply below_drew1) | exact HB.out))) : w.heap.size ≤ gb101)); have n3_ := n2_; clear HB; have HB := n0_; have BK101 := n1_; have GW101 := n2_; have GE101 := n3_; clear n0_ n1_ n2_ n3_; clear hb hbox hg) | ((with_reducible refine gate_dst (N := 4) rfl ?_); refine box_event ?hg (N := 4) ?hd (cs := #[.int .i64 0, .int .i64 0, .int .i64 0, .string (⟨#[]⟩ : ByteArray)]) (t := 23) ?hr ?_; (case hd => rfl); (case hg => rfl); (case hr => first | (go_simp; done) | (go_simp; rfl)); intro gb102 hg w39 hbox hb; have n0_ := Aside0.mk (blk_below (zk BK101.out) hb); have n1_ := Aside0.mk (below_step (by repeat (first | (with_reducible first | exact HB.out | apply below_alloc | apply pw_below_drewN | apply below_drew1 | refine below_set ?_ GE101.out) | exact HB.out)) hb); have n2_ := Aside0.mk (hbox); have n3_ := Aside0.mk ((by rw [hg]; exact (below_size (by repeat (first | (with_reducible first | exact HB.out | apply below_alloc | apply pw_below_drewN | apply below_drew1 | refine below_set ?_ GE101.out) | exact HB.out))) : w.heap.size ≤ gb102)); have n4_ := n3_; have n5_ := Aside0.mk ((by rw [hg]; exact Nat.ne_of_lt (blk_lt (zk BK101.out)) : gb101 ≠ gb102)); have n6_ := Aside0.mk ((by rw [hg]; exact Nat.ne_of_gt (blk_lt (zk BK101.out)) : gb102 ≠ gb101)); clear BK101; clear HB; have BK101 := n0_; have HB := n1_; have BK102 := n2_; have GW102 := n3_; have GE102 := n4_; have NB101_102 := n5_; have NB102_101 := n6_; clear n0_ n1_ n2_ n3_ n4_ n5_ n6_; clear hb hbox hg; have hnb40 := NB101_102.out; have hnc40 := NB102_101.out; obtain ⟨hcz41_0, hcz41_1, hcz41_2, hcz41_3⟩ := blk_quad BK101.out; obtain ⟨hfz41_0, hfz41_1, hfz41_2, hfz41_3⟩ := blk_quad_free BK101.out) | ((with_reducible refine gate_callee (f := 62) rfl ?_); refine goesL_ (some 12) rfl rfl Try.func62 (by kernel_rfl) rfl #[.agg #[.int .i64 a0_0, .int .i64 a0_1, .int .i64 a0_2, .string a0_3]] rfl (by (try simp only [List.map_toArray, List.map_cons, List.map_nil]); first | done | rfl | (simp only [List.length_drop, List.length_take]; rfl)) ?_; (with_reducible refine (bits_Valid.calls a0_0 a0_1 a0_2 a0_3 false _ A3.out).mono ?_); rintro e w42 ⟨rfl, hb⟩; refine ⟨_, rfl, ?_⟩; have n0_ := Aside0.mk (blk_below (zk BK101.out) hb); have n1_ := Aside0.mk (blk_below (zk BK102.out) hb); have n2_ := Aside0.mk (below_step (by repeat (first | (with_reducible first | exact HB.out | apply below_alloc | apply pw_below_drewN | apply below_drew1 | refine below_set ?_ GE101.out | refine below_set ?_ GE102.out) | exact HB.out)) hb); clear BK101; clear BK102; clear HB; have BK101 := n0_; have BK102 := n1_; have HB := n2_; clear n0_ n1_ n2_; (try clear hb); (try clear hb2); (try clear hk); (try clear hi); obtain ⟨hcz43_0, hcz43_1, hcz43_2, hcz43_3⟩ := blk_quad BK102.out; obtain ⟨hfz43_0, hfz43_1, hfz43_2, hfz43_3⟩ := blk_quad_free BK102.out))
    refine bodyPost_ret (results_ctt rfl _ _ gb102 23 #[.int .i64 0, .int .i64 0, .int .i64 0, .string (⟨#[]⟩ : ByteArray)] (0, 0) _ rfl (by refine zk ?_; refine blk_put (cs := #[.int .i64 0, .int .i64 0, .int .i64 0, .string (⟨#[]⟩ : ByteArray)]) ?_ 3 _ rfl; refine zk ?_; refine blk_put (cs := #[.int .i64 0, .int .i64 0, .int .i64 0, .string (⟨#[]⟩ : ByteArray)]) ?_ 2 _ rfl; refine zk ?_; refine blk_put (cs := #[.int .i64 0, .int .i64 0, .int .i64 0, .string (⟨#[]⟩ : ByteArray)]) ?_ 1 _ rfl; refine zk ?_; refine blk_put (cs := #[.int .i64 0, .int .i64 0, .int .i64 0, .string (⟨#[]⟩ : ByteArray)]) ?_ 0 _ rfl; refine zk ?_; exact BK102.out) Try.underlying23 rfl (by kernel_rfl)) rfl ?_
    exact ⟨by first | rfl | (simp [errW_none, errW_some] <;> rfl) | (simp [*, errW_none, errW_some] <;> rfl), by repeat (first | (with_reducible first | exact HB.out | apply below_alloc | apply pw_below_drewN | apply below_drew1 | refine below_set ?_ GE101.out | refine below_set ?_ GE102.out) | exact HB.out)⟩
end Go.Proofs.Ytnelblndidciiaa.P

-- from the text A81
namespace Go.Proofs.Ytnelblndidciiaa.P
open Go.RowKit Go.Proofs.YtnelblndidciiaaW.PrintWords Go.Proofs.YtnelblndidciiaaW.PrintLast Go.Proofs.YtnelblndidciiaaW.PrintMore
attribute [local go_sem] max2_int min2_int max_two min_two max_three min_three max_four min_four   -- for this text's walks alone
set_option linter.unusedVariables false
set_option linter.unusedSimpArgs false
def ironbarkref05_Filler.f (a0 : Int) : Option (ByteArray) := if a0 = 5 then (some (⟨#[48]⟩ : ByteArray)) else (some (⟨#[32]⟩ : ByteArray))
set_option maxHeartbeats 8000000 in
set_option maxRecDepth 100000 in
theorem ironbarkref05_Filler.calls (a0 : Int) (r : ByteArray) (w : World) (h : ironbarkref05_Filler.f a0 = some r) :
    Calls Try.prog 81 #[.int .i64 a0] w fun e w' => e = .returned (.string r) ∧ Drawn0 w w' := by
  have H : (if a0 = 5 then (some (⟨#[48]⟩ : ByteArray)) else (some (⟨#[32]⟩ : ByteArray))) = some r := h
  clear h
  by_cases c2 : a0 = 5
  · rw [if_pos c2] at H
    have c2b0 : (a0 == 5) = true := beq_iff_eq.mpr c2
    have c2b1 : (a0 != 5) = false := bne_eq_false_iff_eq.mpr c2
    clear c2
    obtain rfl := Option.some.inj H
    go_enter Try.func81, Try.ntmps81
    go_wp2
    go_ret
    exact ⟨by first | rfl | (simp; done) | (simp [*]; done), by repeat (first | exact Drawn0.refl _ | apply Drawn0.step)⟩
  · rw [if_neg c2] at H
    have c2b0 : (a0 == 5) = false := beq_eq_false_iff_ne.mpr c2
    have c2b1 : (a0 != 5) = true := bne_iff_ne.mpr c2
    obtain rfl := Option.some.inj H
    go_enter Try.func81, Try.ntmps81
    go_wp2
    go_ret
    exact ⟨by first | rfl | (simp; done) | (simp [*]; done), by repeat (first | exact Drawn0.refl _ | apply Drawn0.step)⟩
end Go.Proofs.Ytnelblndidciiaa.P

-- from the text Shelf
namespace Go.Proofs
open Go.Shelf
def Try.lays137_ren : Go.Shelf.Ren := ⟨fun | 137 => 86 | 217 => 99 | 266 => 107 | n => n, fun | 9 => 9 | 5 => 5 | 3 => 3 | n => n, fun | n => n⟩
theorem Try.lays137 : Go.Proofs.Lays.n137 Try.prog Try.lays137_ren := {
  mixed := by kernel_rfl
  f137 := Try.func86.trans (congrArg some (by kernel_rfl))
  f217 := Try.func99.trans (congrArg some (by kernel_rfl))
  f266 := Try.func107.trans (congrArg some (by kernel_rfl))
  t3 := Try.underlying3
  a3 := Try.isAgg3
  z3 := Try.sizeOf3
  v3 := Try.zeroValue3
  t5 := Try.underlying5
  a5 := Try.isAgg5
  z5 := Try.sizeOf5
  v5 := Try.zeroValue5
  t9 := Try.underlying9
  a9 := Try.isAgg9
  z9 := Try.sizeOf9
  v9 := Try.zeroValue9 }
open Go.RowKit in
/-- strings.IndexByte: "IndexByte returns the index of the first instance of c in s, or -1 if c is not present in s.": IT RETURNS 'Lib.indexByte s c'; the world is as it was. (LAID: no walk: one application.) -/
theorem Try.strings_IndexByte (s : ByteArray) (c : Int) (w : World) :
    Calls Try.prog 86 #[.string s, .int .u8 c] w fun e w' => e = .returned (.int .i64 (Lib.indexByte s.data.toList c.toNat.toUInt8)) ∧ w' = w := Any.strings_IndexByte Try.lays137 s c w
def Try.lays105_ren : Go.Shelf.Ren := ⟨fun | 105 => 83 | 212 => 93 | 99 => 94 | 165 => 95 | 166 => 96 | 170 => 97 | 169 => 98 | 263 => 102 | 264 => 103 | 206 => 104 | 240 => 105 | 241 => 106 | 276 => 108 | 277 => 109 | n => n, fun | 9 => 9 | 3 => 3 | 4 => 4 | 20 => 20 | 0 => 0 | 46 => 92 | 109 => 93 | 5 => 5 | 72 => 98 | 76 => 102 | 51 => 108 | 146 => 109 | 53 => 111 | 148 => 112 | 70 => 96 | 37 => 77 | 75 => 101 | 127 => 114 | 164 => 115 | 80 => 105 | n => n, fun | n => n⟩
theorem Try.lays105 : Go.Proofs.Lays.n105 Try.prog Try.lays105_ren := {
  mixed := by kernel_rfl
  f99 := Try.func94.trans (congrArg some (by kernel_rfl))
  f105 := Try.func83.trans (congrArg some (by kernel_rfl))
  f165 := Try.func95.trans (congrArg some (by kernel_rfl))
  f166 := Try.func96.trans (congrArg some (by kernel_rfl))
  f169 := Try.func98.trans (congrArg some (by kernel_rfl))
  f170 := Try.func97.trans (congrArg some (by kernel_rfl))
  f206 := Try.func104.trans (congrArg some (by kernel_rfl))
  f212 := Try.func93.trans (congrArg some (by kernel_rfl))
  f240 := Try.func105.trans (congrArg some (by kernel_rfl))
  f241 := Try.func106.trans (congrArg some (by kernel_rfl))
  f263 := Try.func102.trans (congrArg some (by kernel_rfl))
  f264 := Try.func103.trans (congrArg some (by kernel_rfl))
  f276 := Try.func108.trans (congrArg some (by kernel_rfl))
  f277 := Try.func109.trans (congrArg some (by kernel_rfl))
  t0 := Try.underlying0
  a0 := Try.isAgg0
  z0 := Try.sizeOf0
  v0 := Try.zeroValue0
  t3 := Try.underlying3
  a3 := Try.isAgg3
  z3 := Try.sizeOf3
  v3 := Try.zeroValue3
  t4 := Try.underlying4
  a4 := Try.isAgg4
  z4 := Try.sizeOf4
  v4 := Try.zeroValue4
  t5 := Try.underlying5
  a5 := Try.isAgg5
  z5 := Try.sizeOf5
  v5 := Try.zeroValue5
  t9 := Try.underlying9
  a9 := Try.isAgg9
  z9 := Try.sizeOf9
  v9 := Try.zeroValue9
  t20 := Try.underlying20
  a20 := Try.isAgg20
  z20 := Try.sizeOf20
  v20 := Try.zeroValue20
  t37 := Try.underlying77
  a37 := Try.isAgg77
  z37 := Try.sizeOf77
  v37 := Try.zeroValue77
  t46 := Try.underlying92
  a46 := Try.isAgg92
  z46 := Try.sizeOf92
  v46 := Try.zeroValue92
  t51 := Try.underlying108
  a51 := Try.isAgg108
  z51 := Try.sizeOf108
  v51 := Try.zeroValue108
  t53 := Try.underlying111
  a53 := Try.isAgg111
  z53 := Try.sizeOf111
  v53 := Try.zeroValue111
  t70 := Try.underlying96
  a70 := Try.isAgg96
  z70 := Try.sizeOf96
  v70 := Try.zeroValue96
  t72 := Try.underlying98
  a72 := Try.isAgg98
  z72 := Try.sizeOf98
  v72 := Try.zeroValue98
  t75 := Try.underlying101
  a75 := Try.isAgg101
  z75 := Try.sizeOf101
  v75 := Try.zeroValue101
  t76 := Try.underlying102
  a76 := Try.isAgg102
  z76 := Try.sizeOf102
  v76 := Try.zeroValue102
  t109 := Try.underlying93
  a109 := Try.isAgg93
  z109 := Try.sizeOf93
  v109 := Try.zeroValue93
  t127 := Try.underlying114
  a127 := Try.isAgg114
  z127 := Try.sizeOf114
  v127 := Try.zeroValue114
  t146 := Try.underlying109
  a146 := Try.isAgg109
  z146 := Try.sizeOf109
  v146 := Try.zeroValue109
  t148 := Try.underlying112
  a148 := Try.isAgg112
  z148 := Try.sizeOf112
  v148 := Try.zeroValue112
  t164 := Try.underlying115
  a164 := Try.isAgg115
  z164 := Try.sizeOf115
  v164 := Try.zeroValue115 }
theorem Try.Builder_Extra_105 : Builder.Extra Try.prog Try.lays105_ren := {
  sizeBuilder := by kernel_rfl
  liesBuilder := by kernel_rfl
  t5 := Try.underlying5
  a5 := Try.isAgg5
  z5 := Try.sizeOf5
  v5 := Try.zeroValue5
  infoByte := by kernel_rfl
  cellsByte := by kernel_rfl
  sizeByte := by kernel_rfl
  neB5 := by decide }
open Go.RowKit Go.Lib in
/-- **strings.Repeat: count ≥ 0, the result within one allocation: count copies of s.** (LAID: no walk: one application.) -/
theorem Try.strings_Repeat (s : ByteArray) (c : Nat) (w : World) (hc : c ≤ 9223372036854775807) (hlen : s.size * c ≤ 140737488355328) :
    Calls Try.prog 83 #[.string s, .int .i64 c] w fun e w' => e = .returned (.string ⟨(Lib.repeatL s.data.toList c).toArray⟩) ∧ Below w.heap.size w w' := Any.strings_Repeat Try.lays105 Try.Builder_Extra_105 s c w hc hlen
end Go.Proofs

-- from the text Hf
namespace Go.Proofs.Ytnelblndidciiaa.P
open Go.RowKit Go.Proofs.YtnelblndidciiaaW.PrintWords Go.Proofs.YtnelblndidciiaaW.PrintLast Go.Proofs.YtnelblndidciiaaW.PrintMore
set_option linter.unusedVariables false
set_option linter.unusedSimpArgs false
def strings_Repeat.f (a0 : ByteArray) (a1 : Int) : Option ByteArray := if 0 ≤ a1 ∧ a1 ≤ 9223372036854775807 ∧ a0.size * a1.toNat ≤ 140737488355328 then some ⟨(Lib.repeatL a0.data.toList a1.toNat).toArray⟩ else none
theorem strings_Repeat.calls (a0 : ByteArray) (a1 : Int) (r : ByteArray) (w : World) (h : strings_Repeat.f a0 a1 = some r) :
    Calls Try.prog 83 #[.string a0, .int .i64 a1] w fun e w' => e = .returned (.string r) ∧ Below w.heap.size w w' := by
  unfold strings_Repeat.f at h
  split at h
  · rename_i hc
    obtain rfl : (⟨(Lib.repeatL a0.data.toList a1.toNat).toArray⟩ : ByteArray) = r := by simpa using h
    obtain ⟨c, rfl⟩ := Int.eq_ofNat_of_zero_le hc.1
    exact Go.Proofs.Try.strings_Repeat a0 c w (by omega) (by simpa using hc.2.2)
  · cases h
theorem toList_nil (p : ByteArray) (h : p.size = 0) : p.toList = [] := by
  rw [ByteArray.toList_eq]; exact List.eq_nil_of_length_eq_zero (by simpa using h)
theorem toList_ne (p : ByteArray) (h : 0 < p.size) : ¬ p.toList = [] := by
  rw [ByteArray.toList_eq]; intro e
  have : p.size = 0 := by rw [← data_length, e]; rfl
  omega
end Go.Proofs.Ytnelblndidciiaa.P

-- from the text A69
namespace Go.Proofs.Ytnelblndidciiaa.P
open Go.RowKit Go.Proofs.YtnelblndidciiaaW.PrintWords Go.Proofs.YtnelblndidciiaaW.PrintLast Go.Proofs.YtnelblndidciiaaW.PrintMore
attribute [local go_sem] max2_int min2_int max_two min_two max_three min_three max_four min_four   -- for this text's walks alone
set_option linter.unusedVariables false
set_option linter.unusedSimpArgs false
def ironbarkref05_in.l0 : Nat → ByteArray → Int → Int → Option (Int)
  | 0, _, _, _ => none
  | k + 1, x0, x1, x5 => if x5 < (x0.size : Int) then (if 0 ≤ x5 then (if (bt x0 x5) = x1 then (some (wrap64 (x5 + 1))) else (ironbarkref05_in.l0 k x0 x1 (wrap64 (x5 + 1)))) else (none)) else (some 0)
def ironbarkref05_in.f (k : Nat) (a0 : ByteArray) (a1 : Int) : Option (Int) := ironbarkref05_in.l0 k a0 a1 0
set_option maxHeartbeats 8000000 in
set_option maxRecDepth 100000 in
theorem ironbarkref05_in.calls (k : Nat) (a0 : ByteArray) (a1 : Int) (r : Int) (w : World) (h : ironbarkref05_in.f k a0 a1 = some r) :
    Calls Try.prog 69 #[.string a0, .int .u8 a1] w fun e w' => e = .returned (.int .i64 r) ∧ Drawn0 w w' := by
  have H : (ironbarkref05_in.l0 k a0 a1 0) = some r := h
  clear h
  have H' := Aside0.mk H
  clear H
  go_enter Try.func69, Try.ntmps69
  go_wp2
  go_loopg [5] k (fun kq v5 w' => ∃ (x5_1 : Int), v5 = .int .i64 x5_1 ∧ Aside0 (ironbarkref05_in.l0 kq a0 a1 x5_1 = some r) ∧ Aside0 (kq ≤ k) ∧ Drawn0 w w')
  case atStart => exact ⟨(0), (by first | rfl | (simp; done) | (generalize ByteArray.toList _ = l_; cases l_ <;> rfl) | (simp [*]; done)), H', ⟨Nat.le_refl _⟩, by repeat (first | exact Drawn0.refl _ | apply Drawn0.step)⟩
  case round =>
    clear H'
    try clear p2
    obtain ⟨x5_1, rfl, HA, HK1, ⟨m1, rfl⟩⟩ := hrel
    cases gk with
    | zero => exact absurd HA.out (by simp [ironbarkref05_in.l0])
    | succ k1 =>
      have H := HA.out
      clear HA
      simp only [ironbarkref05_in.l0] at H
      by_cases c3 : x5_1 < (a0.size : Int)
      · rw [if_pos c3] at H
        have c3b0 : decide (x5_1 < (a0.size : Int)) = true := decide_eq_true c3
        clear c3
        by_cases c4 : 0 ≤ x5_1
        · rw [if_pos c4] at H
          have c4b0 : decide (0 ≤ x5_1) = true := decide_eq_true c4
          clear c4
          by_cases c6 : (bt a0 x5_1) = a1
          · rw [if_pos c6] at H
            have c6b0 : ((bt a0 x5_1) == a1) = true := beq_iff_eq.mpr c6
            have c6b1 : ((bt a0 x5_1) != a1) = false := bne_eq_false_iff_eq.mpr c6
            clear c6
            obtain rfl := Option.some.inj H
            have p5 : 0 ≤ (x5_1 : Int) := of_decide_eq_true (by first | (with_reducible assumption) | assumption)
            have q5 : x5_1 < (a0.size : Int) := of_decide_eq_true (by first | (with_reducible assumption) | assumption)
            have hx5 := bt_at a0 x5_1
            replace p5 := eq_true p5
            replace q5 := eq_true q5
            go_wp2
            go_ret
            exact ⟨by first | rfl | (simp; done) | (simp [*]; done), by repeat (first | exact Drawn0.refl _ | apply Drawn0.step)⟩
          · rw [if_neg c6] at H
            have c6b0 : ((bt a0 x5_1) == a1) = false := beq_eq_false_iff_ne.mpr c6
            have c6b1 : ((bt a0 x5_1) != a1) = true := bne_iff_ne.mpr c6
            have H' := Aside0.mk H
            clear H
            have p5 : 0 ≤ (x5_1 : Int) := of_decide_eq_true (by first | (with_reducible assumption) | assumption)
            have q5 : x5_1 < (a0.size : Int) := of_decide_eq_true (by first | (with_reducible assumption) | assumption)
            have hx5 := bt_at a0 x5_1
            replace p5 := eq_true p5
            replace q5 := eq_true q5
            go_wp2
            go_roundg k1
            case measure => have := HK1.out; omega
            case rel => exact ⟨(wrap64 (x5_1 + 1)), (by first | rfl | (simp; done) | (generalize ByteArray.toList _ = l_; cases l_ <;> rfl) | (simp [*]; done)), H', ⟨by have := HK1.out; omega⟩, by repeat (first | exact Drawn0.refl _ | apply Drawn0.step)⟩
        · rw [if_neg c4] at H
          exact absurd H (by simp)
      · rw [if_neg c3] at H
        have c3b0 : decide (x5_1 < (a0.size : Int)) = false := decide_eq_false c3
        clear c3
        obtain rfl := Option.some.inj H
        go_wp2
        go_ret
        exact ⟨by first | rfl | (simp; done) | (simp [*]; done), by repeat (first | exact Drawn0.refl _ | apply Drawn0.step)⟩
end Go.Proofs.Ytnelblndidciiaa.P

-- from the text Hd
namespace Go.Proofs.Ytnelblndidciiaa.P
open Go.RowKit Go.Proofs.YtnelblndidciiaaW.PrintWords Go.Proofs.YtnelblndidciiaaW.PrintLast Go.Proofs.YtnelblndidciiaaW.PrintMore
set_option linter.unusedVariables false
set_option linter.unusedSimpArgs false
theorem bytes_ext {a b : ByteArray} (h : a.size = b.size) (h2 : ∀ i : Nat, i < a.size → bt a (i : Int) = bt b (i : Int)) : a = b := by
  obtain ⟨⟨la⟩⟩ := a
  obtain ⟨⟨lb⟩⟩ := b
  have hs : la.length = lb.length := h
  have : la = lb := by
    apply List.ext_getElem hs
    intro i h1 h3
    have := h2 i h1
    rw [btN ⟨⟨la⟩⟩ i (show i < ByteArray.size ⟨⟨la⟩⟩ from h1), btN ⟨⟨lb⟩⟩ i (show i < ByteArray.size ⟨⟨lb⟩⟩ from h3)] at this
    exact UInt8.toNat.inj (by exact_mod_cast this)
  rw [this]
theorem bt_append (a b : ByteArray) (i : Nat) : bt (a ++ b) (i : Int) = if i < a.size then bt a (i : Int) else bt b ((i - a.size : Nat) : Int) := by
  by_cases h : i < (a ++ b).size
  · rw [btN _ i h]
    rw [ByteArray.size_append] at h
    by_cases h1 : i < a.size
    · rw [if_pos h1, btN _ i h1, ByteArray.getElem_append_left h1]
    · rw [if_neg h1, btN _ (i - a.size) (by omega), ByteArray.getElem_append_right (by omega)]
  · have h' := h
    rw [ByteArray.size_append] at h
    rw [if_neg (by omega)]
    unfold bt
    rw [dif_neg (by simpa using h'), dif_neg (by simp; omega)]
theorem size_extract0 (a : ByteArray) (m : Nat) : (a.extract 0 m).size = min m a.size := by simp [ByteArray.size_extract]
theorem bt_extract0 (a : ByteArray) (m i : Nat) (h : i < m) (h2 : i < a.size) : bt (a.extract 0 m) (i : Int) = bt a (i : Int) := by
  rw [btN _ i (by rw [size_extract0]; omega), btN _ i h2, ByteArray.getElem_extract]
  simp
def addI (x : Int) (i : Nat) : Int := if x = 0 then 0 else x + i
/-- The place of a number in a list, from 1 on; 0 if it is not there. -/
def inL (c : Int) : List UInt8 → Int
  | [] => 0
  | b :: l => if (b.toNat : Int) = c then 1 else addI (inL c l) 1
theorem inL_range (c : Int) : ∀ l : List UInt8, 0 ≤ inL c l ∧ inL c l ≤ l.length
  | [] => by simp [inL]
  | b :: l => by
    have := inL_range c l
    simp only [inL, List.length_cons, addI]
    split
    · omega
    · split <;> omega
theorem in_l0 (s : ByteArray) (c : Int) (hl : s.size ≤ 9223372036854775807) : ∀ d i : Nat, i + d = s.size →
    Ev (fun k => ironbarkref05_in.l0 k s c (i : Int)) (addI (inL c (s.data.toList.drop i)) i) := by
  intro d
  induction d with
  | zero =>
    intro i h
    rw [List.drop_of_length_le (by show s.size ≤ i; omega)]
    exact Ev.step (f := fun _ => some 0) (fun k => by simp only [ironbarkref05_in.l0]; rw [if_neg (by omega)]) (Ev.now _)
  | succ d ih =>
    intro i h
    have hi : i < s.size := by omega
    have e : ∀ k, ironbarkref05_in.l0 (k + 1) s c (i : Int) = if bt s (i : Int) = c then some ((i + 1 : Nat) : Int) else ironbarkref05_in.l0 k s c ((i + 1 : Nat) : Int) := fun k => by
      simp only [ironbarkref05_in.l0]
      rw [if_pos (by omega), if_pos (by omega), wrapN hi hl]
    have hd : inL c (s.data.toList.drop i) = if bt s (i : Int) = c then 1 else addI (inL c (s.data.toList.drop (i + 1))) 1 := by
      rw [List.drop_eq_getElem_cons (show i < s.data.toList.length by simpa using hi), btN s i hi]; rfl
    rw [hd]
    by_cases hc : bt s (i : Int) = c
    · rw [if_pos hc]
      refine Ev.step (f := fun _ => some (addI 1 i)) (fun k => by rw [e, if_pos hc]; congr 1; simp only [addI, if_neg (show ¬ (1 : Int) = 0 by decide)]; omega) (Ev.now _)
    · rw [if_neg hc]
      refine Ev.step (fun k => by rw [e, if_neg hc]) ?_
      have := ih (i + 1) (by omega)
      have hr := inL_range c (s.data.toList.drop (i + 1))
      generalize inL c (s.data.toList.drop (i + 1)) = x at this hr ⊢
      have e2 : addI (addI x 1) i = addI x (i + 1) := by
        unfold addI; by_cases h0 : x = 0
        · simp [h0]
        · simp only [if_neg h0]; rw [if_neg (by omega)]; omega
      rw [e2]
      exact this
def inI (s : ByteArray) (c : Int) : Int := inL c s.data.toList
def ironbarkref05_inT.f (a0 : ByteArray) (a1 : Int) : Option Int := if a0.size ≤ 9223372036854775807 then some (inI a0 a1) else none
theorem ironbarkref05_inT.calls (a0 : ByteArray) (a1 : Int) (r : Int) (w : World) (h : ironbarkref05_inT.f a0 a1 = some r) :
    Calls Try.prog 69 #[.string a0, .int .u8 a1] w fun e w' => e = .returned (.int .i64 r) ∧ Drawn0 w w' := by
  unfold ironbarkref05_inT.f at h
  split at h
  · rename_i hn
    obtain rfl : inI a0 a1 = r := by simpa using h
    have hev := in_l0 a0 a1 hn a0.size 0 (by omega)
    have hr := inL_range a1 a0.data.toList
    rw [List.drop_zero] at hev
    have e : addI (inL a1 a0.data.toList) 0 = inI a0 a1 := by
      unfold inI addI; split <;> omega
    rw [e] at hev
    obtain ⟨k, hk⟩ := hev.rounds
    exact ironbarkref05_in.calls k a0 a1 _ w hk
  · cases h
end Go.Proofs.Ytnelblndidciiaa.P

-- from the text Q
namespace Go.Proofs.Ytnelblndidciiaa.P
open Go.RowKit Go.ChangeShapes Go.WideShapes Go.ChangeAt Go.Deep Go.Proofs.YtnelblndidciiaaW.PrintWords Go.Proofs.YtnelblndidciiaaW.PrintLast Go.Proofs.YtnelblndidciiaaW.PrintMore
set_option linter.unusedVariables false
set_option linter.unusedSimpArgs false
set_option maxRecDepth 100000
theorem list_of {α : Type} {p : Nat → α → Prop} : ∀ n : Nat, (∀ i, i < n → ∃ x, p i x) → ∃ l : List α, l.length = n ∧ ∀ i x, l[i]? = some x → p i x
  | 0, _ => ⟨[], rfl, fun i x h => by simp at h⟩
  | n + 1, h => by
    obtain ⟨l, hl, hp⟩ := list_of n (fun i hi => h i (by omega))
    obtain ⟨x, hx⟩ := h n (by omega)
    refine ⟨l ++ [x], by simp [hl], fun i y hy => ?_⟩
    rcases Nat.lt_trichotomy i n with h1 | h1 | h1
    · exact hp i y (by rw [List.getElem?_append_left (by omega)] at hy; exact hy)
    · subst h1; rw [List.getElem?_append_right (by omega), hl] at hy; simp at hy; subst hy; exact hx
    · rw [List.getElem?_eq_none (by simp; omega)] at hy; cases hy
section
variable {H : Type} {enc : TypeId × Value → H} {w : World} {base : Nat} {spare : Nat → Bool} {held : Bool} {fuel : Nat} {cs : List Value} {x : DataW H × List MemPlace}
theorem sized_any {P : Program} {t e : TypeId} {a : Option Addr} {len cap : Nat} {d : DataW H} {ps : List MemPlace} {ts : List TypeId} {ds : List (DataW H)} {j : Nat} (hsz : (DataW.weightsEach P ts ds).all (· ≤ reachBytes) = true) (ht : ts[j]? = some t) (hd : ds[j]? = some d) (hu : P.underlying t = some (.slice e)) {B : Nat} (hB : P.bytesOf e = B) (h : DataW.Trod enc P w base spare held t (.slice a len cap) d ps) : len * B ≤ 140737488351232 := by
  obtain ⟨fuel, hf⟩ := h
  rcases open_slice hu hf with ⟨hcs, _⟩ | ⟨a', len', cap', m, n, D, Pl, hcs, _, hl, _, _, hx, _⟩
  · simp [Value.cells] at hcs
    obtain ⟨rfl, rfl, rfl⟩ := hcs
    simp
  · simp [Value.cells] at hcs
    obtain ⟨rfl, rfl, rfl⟩ := hcs
    obtain ⟨hx, _⟩ := Prod.mk.inj hx
    subst hx
    have z := sized_slice hsz ht hd hu
    rw [hB, List.length_map, List.length_range] at z
    exact Nat.le_trans (Nat.mul_le_mul_right _ (Nat.le_add_right _ _)) z
def Wf23 (x : S23) : Prop := (Lit.int .i64 x.f0).wf = true ∧ (Lit.int .i64 x.f1).wf = true ∧ (Lit.int .i64 x.f2).wf = true ∧ x.f3.size ≤ maxLen
theorem cells23 : Try.prog.cellsOf 23 = 4 := by kernel_rfl
theorem trod23 (h : DataW.trod enc Try.prog w base spare held fuel 23 cs = some x) : ∃ s : S23, cs = [.int .i64 s.f0, .int .i64 s.f1, .int .i64 s.f2, .string s.f3] ∧ Wf23 s := by
  obtain ⟨xs, n, _, _, hlen, hxl, hf⟩ := DataW.trod_struct Try.underlying23 h
  rw [cells23] at hlen
  match cs, hlen, xs, hxl with
  | [c0, c1, c2, c3], _, [y0, y1, y2, y3], _ =>
    have g0 : DataW.trod enc Try.prog w base spare held n 3 (List.take (Try.prog.cellsOf 3) (List.drop 0 [c0, c1, c2, c3])) = some y0 := hf 0 _ rfl
    rw [show Try.prog.cellsOf 3 = 1 from by kernel_rfl] at g0
    replace g0 : DataW.trod enc Try.prog w base spare held n 3 [c0] = some y0 := g0
    have g1 : DataW.trod enc Try.prog w base spare held n 3 (List.take (Try.prog.cellsOf 3) (List.drop 1 [c0, c1, c2, c3])) = some y1 := hf 1 _ rfl
    rw [show Try.prog.cellsOf 3 = 1 from by kernel_rfl] at g1
    replace g1 : DataW.trod enc Try.prog w base spare held n 3 [c1] = some y1 := g1
    have g2 : DataW.trod enc Try.prog w base spare held n 3 (List.take (Try.prog.cellsOf 3) (List.drop 2 [c0, c1, c2, c3])) = some y2 := hf 2 _ rfl
    rw [show Try.prog.cellsOf 3 = 1 from by kernel_rfl] at g2
    replace g2 : DataW.trod enc Try.prog w base spare held n 3 [c2] = some y2 := g2
    have g3 : DataW.trod enc Try.prog w base spare held n 9 (List.take (Try.prog.cellsOf 9) (List.drop 3 [c0, c1, c2, c3])) = some y3 := hf 3 _ rfl
    rw [show Try.prog.cellsOf 9 = 1 from by kernel_rfl] at g3
    replace g3 : DataW.trod enc Try.prog w base spare held n 9 [c3] = some y3 := g3
    obtain ⟨s0, e0, -, w0⟩ := DataW.trod_int Try.underlying3 g0
    simp only [List.cons.injEq, and_true] at e0
    subst e0
    obtain ⟨s1, e1, -, w1⟩ := DataW.trod_int Try.underlying3 g1
    simp only [List.cons.injEq, and_true] at e1
    subst e1
    obtain ⟨s2, e2, -, w2⟩ := DataW.trod_int Try.underlying3 g2
    simp only [List.cons.injEq, and_true] at e2
    subst e2
    obtain ⟨s3, e3, -, w3⟩ := DataW.trod_string Try.underlying9 g3
    simp only [List.cons.injEq, and_true] at e3
    subst e3
    exact ⟨⟨s0, s1, s2, s3⟩, rfl, w0, w1, w2, w3⟩
theorem arg23 {W : World} {r : Reach} {b0 : Nat} {v : Value} {d : DataW H} {p : List MemPlace} (hv : Value.okWide Try.prog W r b0 23 v) (h : DataW.Trod enc Try.prog w base spare held 23 v d p) : ∃ s : S23, v = .agg #[.int .i64 s.f0, .int .i64 s.f1, .int .i64 s.f2, .string s.f3] ∧ Wf23 s := by
  obtain ⟨cs, rfl, _⟩ := okWide_struct Try.underlying23 hv
  obtain ⟨fuel, hf⟩ := h
  obtain ⟨s, e, hw⟩ := trod23 hf
  refine ⟨s, ?_, hw⟩
  have e2 : cs.toList = _ := e
  rw [← e2]
def Wf44 (x : S44) : Prop := (Lit.int .i64 x.f0).wf = true ∧ (Lit.int .i64 x.f1).wf = true ∧ (Lit.int .i64 x.f2).wf = true ∧ (Lit.int .i64 x.f3).wf = true ∧ True ∧ x.f5.size ≤ maxLen
theorem cells44 : Try.prog.cellsOf 44 = 6 := by kernel_rfl
theorem trod44 (h : DataW.trod enc Try.prog w base spare held fuel 44 cs = some x) : ∃ s : S44, cs = [.int .i64 s.f0, .int .i64 s.f1, .int .i64 s.f2, .int .i64 s.f3, .bool s.f4, .string s.f5] ∧ Wf44 s := by
  obtain ⟨xs, n, _, _, hlen, hxl, hf⟩ := DataW.trod_struct Try.underlying44 h
  rw [cells44] at hlen
  match cs, hlen, xs, hxl with
  | [c0, c1, c2, c3, c4, c5], _, [y0, y1, y2, y3, y4, y5], _ =>
    have g0 : DataW.trod enc Try.prog w base spare held n 3 (List.take (Try.prog.cellsOf 3) (List.drop 0 [c0, c1, c2, c3, c4, c5])) = some y0 := hf 0 _ rfl
    rw [show Try.prog.cellsOf 3 = 1 from by kernel_rfl] at g0
    replace g0 : DataW.trod enc Try.prog w base spare held n 3 [c0] = some y0 := g0
    have g1 : DataW.trod enc Try.prog w base spare held n 3 (List.take (Try.prog.cellsOf 3) (List.drop 1 [c0, c1, c2, c3, c4, c5])) = some y1 := hf 1 _ rfl
    rw [show Try.prog.cellsOf 3 = 1 from by kernel_rfl] at g1
    replace g1 : DataW.trod enc Try.prog w base spare held n 3 [c1] = some y1 := g1
    have g2 : DataW.trod enc Try.prog w base spare held n 3 (List.take (Try.prog.cellsOf 3) (List.drop 2 [c0, c1, c2, c3, c4, c5])) = some y2 := hf 2 _ rfl
    rw [show Try.prog.cellsOf 3 = 1 from by kernel_rfl] at g2
    replace g2 : DataW.trod enc Try.prog w base spare held n 3 [c2] = some y2 := g2
    have g3 : DataW.trod enc Try.prog w base spare held n 3 (List.take (Try.prog.cellsOf 3) (List.drop 3 [c0, c1, c2, c3, c4, c5])) = some y3 := hf 3 _ rfl
    rw [show Try.prog.cellsOf 3 = 1 from by kernel_rfl] at g3
    replace g3 : DataW.trod enc Try.prog w base spare held n 3 [c3] = some y3 := g3
    have g4 : DataW.trod enc Try.prog w base spare held n 4 (List.take (Try.prog.cellsOf 4) (List.drop 4 [c0, c1, c2, c3, c4, c5])) = some y4 := hf 4 _ rfl
    rw [show Try.prog.cellsOf 4 = 1 from by kernel_rfl] at g4
    replace g4 : DataW.trod enc Try.prog w base spare held n 4 [c4] = some y4 := g4
    have g5 : DataW.trod enc Try.prog w base spare held n 9 (List.take (Try.prog.cellsOf 9) (List.drop 5 [c0, c1, c2, c3, c4, c5])) = some y5 := hf 5 _ rfl
    rw [show Try.prog.cellsOf 9 = 1 from by kernel_rfl] at g5
    replace g5 : DataW.trod enc Try.prog w base spare held n 9 [c5] = some y5 := g5
    obtain ⟨s0, e0, -, w0⟩ := DataW.trod_int Try.underlying3 g0
    simp only [List.cons.injEq, and_true] at e0
    subst e0
    obtain ⟨s1, e1, -, w1⟩ := DataW.trod_int Try.underlying3 g1
    simp only [List.cons.injEq, and_true] at e1
    subst e1
    obtain ⟨s2, e2, -, w2⟩ := DataW.trod_int Try.underlying3 g2
    simp only [List.cons.injEq, and_true] at e2
    subst e2
    obtain ⟨s3, e3, -, w3⟩ := DataW.trod_int Try.underlying3 g3
    simp only [List.cons.injEq, and_true] at e3
    subst e3
    obtain ⟨s4, e4, -⟩ := DataW.trod_bool Try.underlying4 g4
    simp only [List.cons.injEq, and_true] at e4
    subst e4
    obtain ⟨s5, e5, -, w5⟩ := DataW.trod_string Try.underlying9 g5
    simp only [List.cons.injEq, and_true] at e5
    subst e5
    exact ⟨⟨s0, s1, s2, s3, s4, s5⟩, rfl, w0, w1, w2, w3, trivial, w5⟩
theorem arg44 {W : World} {r : Reach} {b0 : Nat} {v : Value} {d : DataW H} {p : List MemPlace} (hv : Value.okWide Try.prog W r b0 44 v) (h : DataW.Trod enc Try.prog w base spare held 44 v d p) : ∃ s : S44, v = .agg #[.int .i64 s.f0, .int .i64 s.f1, .int .i64 s.f2, .int .i64 s.f3, .bool s.f4, .string s.f5] ∧ Wf44 s := by
  obtain ⟨cs, rfl, _⟩ := okWide_struct Try.underlying44 hv
  obtain ⟨fuel, hf⟩ := h
  obtain ⟨s, e, hw⟩ := trod44 hf
  refine ⟨s, ?_, hw⟩
  have e2 : cs.toList = _ := e
  rw [← e2]
theorem arg50 {W : World} {r : Reach} {b0 : Nat} {v : Value} {d : DataW H} {p : List MemPlace} (hv : Value.okWide Try.prog W r b0 50 v) (h : DataW.Trod enc Try.prog w base (fun _ => true) held 50 v d p) : ∃ (A : Option Addr) (cap : Nat) (l : List S23), v = .slice A l.length cap ∧ Kd.C k23 w A l.length l ∧ l.length ≤ cap ∧ ∀ y ∈ l, Wf23 y := by
  obtain ⟨a0, len0, cap0, rfl⟩ := okWide_slice Try.underlying50 hv
  obtain ⟨fuel, hf⟩ := h
  rcases open_slice Try.underlying50 hf with ⟨hcs, _⟩ | ⟨a, len, cap, m, n, D, Pl, hcs, _, hl, hm, hmm, _, hi⟩
  · simp [Value.cells] at hcs
    obtain ⟨rfl, rfl, rfl⟩ := hcs
    exact ⟨none, 0, [], rfl, ⟨rfl, by simp, fun h => absurd h (by simp)⟩, Nat.le_refl _, fun y hy => by cases hy⟩
  · simp [Value.cells] at hcs
    obtain ⟨rfl, rfl, rfl⟩ := hcs
    simp only [if_true] at hmm
    subst hmm
    obtain ⟨l, hll, hp⟩ := list_of (p := fun i (s : S23) => (∀ j u, ([.int .i64 s.f0, .int .i64 s.f1, .int .i64 s.f2, .string s.f3] : List Value)[j]? = some u → w.cell? (a.add (i * 4 + j)) = some u) ∧ Wf23 s) len0 (fun i him => by
      obtain ⟨cs', hc, ht⟩ := hi i (by omega)
      rw [show Try.prog.cellsOf 23 = 4 from by kernel_rfl] at hc
      obtain ⟨_, hcl, hat⟩ := World.cells?_some hc
      obtain ⟨s, rfl, hw⟩ := trod23 ht
      refine ⟨s, fun j u hj => ?_, hw⟩
      have hjn : j < 4 := by rcases Nat.lt_or_ge j 4 with h | h; exact h; rw [List.getElem?_eq_none (by simpa using h)] at hj; cases hj
      rw [← Go.Deep.add_add, hat j hjn]; exact hj)
    subst hll
    refine ⟨some a, _, l, rfl, ⟨rfl, by simp only [maxLen] at hm; omega, fun _ => ⟨a, rfl, fun j q hq => ⟨_, rfl, k23_mk w q, fun i u hu => (hp j q hq).1 i u hu⟩⟩⟩, hl, fun y hy => ?_⟩
    obtain ⟨i, hi, rfl⟩ := List.getElem_of_mem hy
    exact (hp i _ (List.getElem?_eq_getElem hi)).2
theorem arg77 {W : World} {r : Reach} {b0 : Nat} {v : Value} {d : DataW H} {p : List MemPlace} (hv : Value.okWide Try.prog W r b0 77 v) (h : DataW.Trod enc Try.prog w base (fun _ => true) held 77 v d p) : ∃ (A : Option Addr) (cap : Nat) (l : List Int), v = .slice A l.length cap ∧ Kd.C (Kd.int .u8) w A l.length l ∧ l.length ≤ cap ∧ ∀ y ∈ l, (Lit.int .u8 y).wf = true := by
  obtain ⟨a0, len0, cap0, rfl⟩ := okWide_slice Try.underlying77 hv
  obtain ⟨fuel, hf⟩ := h
  rcases open_slice Try.underlying77 hf with ⟨hcs, _⟩ | ⟨a, len, cap, m, n, D, Pl, hcs, _, hl, hm, hmm, _, hi⟩
  · simp [Value.cells] at hcs
    obtain ⟨rfl, rfl, rfl⟩ := hcs
    exact ⟨none, 0, [], rfl, ⟨rfl, by simp, fun h => absurd h (by simp)⟩, Nat.le_refl _, fun y hy => by cases hy⟩
  · simp [Value.cells] at hcs
    obtain ⟨rfl, rfl, rfl⟩ := hcs
    simp only [if_true] at hmm
    subst hmm
    obtain ⟨l, hll, hp⟩ := list_of (p := fun i (s : Int) => (∀ j u, ([.int .u8 s] : List Value)[j]? = some u → w.cell? (a.add (i * 1 + j)) = some u) ∧ (Lit.int .u8 s).wf = true) len0 (fun i him => by
      obtain ⟨cs', hc, ht⟩ := hi i (by omega)
      rw [show Try.prog.cellsOf 5 = 1 from by kernel_rfl] at hc
      obtain ⟨_, hcl, hat⟩ := World.cells?_some hc
      obtain ⟨s, rfl, -, hw⟩ := DataW.trod_int Try.underlying5 ht
      refine ⟨s, fun j u hj => ?_, hw⟩
      have hjn : j < 1 := by rcases Nat.lt_or_ge j 1 with h | h; exact h; rw [List.getElem?_eq_none (by simpa using h)] at hj; cases hj
      rw [← Go.Deep.add_add, hat j hjn]; exact hj)
    subst hll
    refine ⟨some a, _, l, rfl, ⟨rfl, by simp only [maxLen] at hm; omega, fun _ => ⟨a, rfl, fun j q hq => ⟨_, rfl, rfl, fun i u hu => (hp j q hq).1 i u hu⟩⟩⟩, hl, fun y hy => ?_⟩
    obtain ⟨i, hi, rfl⟩ := List.getElem_of_mem hy
    exact (hp i _ (List.getElem?_eq_getElem hi)).2
theorem arg86 {W : World} {r : Reach} {b0 : Nat} {v : Value} {d : DataW H} {p : List MemPlace} (hv : Value.okWide Try.prog W r b0 86 v) (h : DataW.Trod enc Try.prog w base (fun _ => true) held 86 v d p) : ∃ (A : Option Addr) (cap : Nat) (l : List Int), v = .slice A l.length cap ∧ Kd.C (Kd.int .i64) w A l.length l ∧ l.length ≤ cap ∧ ∀ y ∈ l, (Lit.int .i64 y).wf = true := by
  obtain ⟨a0, len0, cap0, rfl⟩ := okWide_slice Try.underlying86 hv
  obtain ⟨fuel, hf⟩ := h
  rcases open_slice Try.underlying86 hf with ⟨hcs, _⟩ | ⟨a, len, cap, m, n, D, Pl, hcs, _, hl, hm, hmm, _, hi⟩
  · simp [Value.cells] at hcs
    obtain ⟨rfl, rfl, rfl⟩ := hcs
    exact ⟨none, 0, [], rfl, ⟨rfl, by simp, fun h => absurd h (by simp)⟩, Nat.le_refl _, fun y hy => by cases hy⟩
  · simp [Value.cells] at hcs
    obtain ⟨rfl, rfl, rfl⟩ := hcs
    simp only [if_true] at hmm
    subst hmm
    obtain ⟨l, hll, hp⟩ := list_of (p := fun i (s : Int) => (∀ j u, ([.int .i64 s] : List Value)[j]? = some u → w.cell? (a.add (i * 1 + j)) = some u) ∧ (Lit.int .i64 s).wf = true) len0 (fun i him => by
      obtain ⟨cs', hc, ht⟩ := hi i (by omega)
      rw [show Try.prog.cellsOf 3 = 1 from by kernel_rfl] at hc
      obtain ⟨_, hcl, hat⟩ := World.cells?_some hc
      obtain ⟨s, rfl, -, hw⟩ := DataW.trod_int Try.underlying3 ht
      refine ⟨s, fun j u hj => ?_, hw⟩
      have hjn : j < 1 := by rcases Nat.lt_or_ge j 1 with h | h; exact h; rw [List.getElem?_eq_none (by simpa using h)] at hj; cases hj
      rw [← Go.Deep.add_add, hat j hjn]; exact hj)
    subst hll
    refine ⟨some a, _, l, rfl, ⟨rfl, by simp only [maxLen] at hm; omega, fun _ => ⟨a, rfl, fun j q hq => ⟨_, rfl, rfl, fun i u hu => (hp j q hq).1 i u hu⟩⟩⟩, hl, fun y hy => ?_⟩
    obtain ⟨i, hi, rfl⟩ := List.getElem_of_mem hy
    exact (hp i _ (List.getElem?_eq_getElem hi)).2
end
end Go.Proofs.Ytnelblndidciiaa.P

-- from the text Pp
namespace Go.Proofs.Ytnelblndidciiaa.P
open Go.RowKit Go.Proofs.YtnelblndidciiaaW.PrintWords Go.Proofs.YtnelblndidciiaaW.PrintLast Go.Proofs.YtnelblndidciiaaW.PrintMore
set_option linter.unusedVariables false
set_option linter.unusedSimpArgs false
def partF (L : Nat) (i : Int) : Nat := (mn (mx i 1 - 1) (L : Int)).toNat
def partT (L : Nat) (i n : Int) : Nat := (mx (mn (i + n - 1) L) (mn (mx i 1 - 1) L)).toNat
def partR (L : Nat) (i n : Int) : Bool := decide (1 ≤ i) && (decide (0 ≤ n) && decide (i + n - 1 ≤ L))
def cnd (r : Bool) : Int := if r = true then 0 else 5
theorem cond_is (r : Bool) : bits_cond.f r = some (cnd r) := by cases r <;> rfl
theorem far_no (n : Int) (h : farI n = false) : -1000000000 ≤ n ∧ n ≤ 1000000000 := by simp [farI] at h; omega
theorem part_is (L : Nat) (i n : Int) (hL : L ≤ 250) (hi : farI i = false) (h1 : -2000000000 ≤ n) (h2 : n ≤ 2000000000) : bits_part.f (L : Int) i n = some ((partF L i : Int), (partT L i n : Int), partR L i n) := by
  have hi := far_no i hi
  unfold bits_part.f
  have e1 : wrap64 ((mx i 1) - 1) = mx i 1 - 1 := by unfold wrap64 mx; split <;> omega
  have e2 : wrap64 (wrap64 (i + n) - 1) = i + n - 1 := by unfold wrap64; omega
  rw [e1, e2]
  have e3 : mn (mx i 1 - 1) (L : Int) = (partF L i : Int) := by unfold partF mn mx; repeat' split <;> omega
  have e4 : mx (mn (i + n - 1) L) (partF L i : Int) = (partT L i n : Int) := by unfold partT partF mn mx; repeat' split <;> omega
  rw [e3, e4]
  unfold partR
  by_cases h3 : 1 ≤ i
  · rw [if_pos h3, decide_eq_true h3]
    by_cases h4 : 0 ≤ n
    · rw [if_pos h4, decide_eq_true h4]; rfl
    · rw [if_neg h4, decide_eq_false h4]; rfl
  · rw [if_neg h3, decide_eq_false h3]; rfl
theorem part_ord (L : Nat) (i n : Int) : partF L i ≤ partT L i n ∧ partT L i n ≤ L := by
  unfold partF partT mn mx
  constructor <;> repeat' split
  all_goals omega
theorem partF_in (L : Nat) (i : Int) (h : 1 ≤ i) (h2 : i ≤ (L : Int) + 1) : partF L i = (i - 1).toNat := by
  unfold partF mn mx; repeat' split
  all_goals omega
theorem ext_empty (s : ByteArray) (a b : Nat) (h : b ≤ a) : s.extract a b = ⟨#[]⟩ := by
  apply bytes_ext
  · simp only [ByteArray.size_extract]; show _ = 0; omega
  · intro i hi; simp only [ByteArray.size_extract] at hi; omega
theorem bt_extract (s : ByteArray) (a b i : Nat) (h : a + i < b) (h2 : a + i < s.size) : bt (s.extract a b) (i : Int) = bt s ((a + i : Nat) : Int) := by
  rw [btN _ i (by simp only [ByteArray.size_extract]; omega), btN _ (a + i) h2, ByteArray.getElem_extract]
theorem ext_snoc (s : ByteArray) (a b : Nat) (x : ByteArray) (h : a ≤ b) (hb : b < s.size) (hx : x.size = 1) (he : bt x 0 = bt s (b : Int)) : s.extract a b ++ x = s.extract a (b + 1) := by
  apply bytes_ext
  · simp only [ByteArray.size_append, ByteArray.size_extract, hx]; omega
  · intro i hi
    simp only [ByteArray.size_append, ByteArray.size_extract, hx] at hi
    rw [bt_append, bt_extract s a (b + 1) i (by omega) (by omega)]
    simp only [ByteArray.size_extract]
    by_cases h1 : i < min b s.size - a
    · rw [if_pos h1, bt_extract s a b i (by omega) (by omega)]
    · have : i = b - a := by omega
      rw [if_neg h1, show i - (min b s.size - a) = 0 by omega, show a + i = b by omega]
      exact he
theorem one_byte (s : ByteArray) (j : Nat) (h : j < s.size) : (s.extract j (j + 1)).size = 1 ∧ bt (s.extract j (j + 1)) 0 = bt s (j : Int) := by
  refine ⟨by simp only [ByteArray.size_extract]; omega, ?_⟩
  have := bt_extract s j (j + 1) 0 (by omega) (by omega)
  simpa using this
theorem ext_all (s : ByteArray) (n : Nat) (h : s.size ≤ n) : s.extract 0 n = s := by
  apply bytes_ext
  · simp only [ByteArray.size_extract]; omega
  · intro i hi
    simp only [ByteArray.size_extract] at hi
    rw [bt_extract0 _ _ _ (by omega) (by omega)]
abbrev R6 := Int × Int × Int × ByteArray × Int × Int
def subR (s : S23) (i n : Int) : R6 :=
  if okV s = true then (if (farI i || farI n) = true then (0, 0, 0, ⟨#[]⟩, 0, 7) else (s.f0, 0, 0, s.f3.extract (partF s.f3.size i) (partT s.f3.size i n), cnd (partR s.f3.size i n), 0)) else (0, 0, 0, ⟨#[]⟩, 0, 1)
theorem sub_is (s : S23) (i n : Int) : bits_Sub.f s.f0 s.f1 s.f2 s.f3 i n = some (subR s i n) := by
  unfold bits_Sub.f subR
  have hv : bits_Valid.f s.f0 s.f1 s.f2 s.f3 = some (okV s) := rfl
  rw [hv, Option.bind_some]
  by_cases h : okV s = true
  · rw [if_pos h, if_pos h]
    simp only [bits_farT.f, Option.bind_some, List.any_cons, List.any_nil, Bool.or_false]
    by_cases hf : (farI i || farI n) = true
    · rw [if_pos hf, if_pos hf]
    · rw [if_neg hf, if_neg hf]
      have hf' : farI i = false ∧ farI n = false := by simpa using hf
      have hn := far_no n hf'.2
      have ho := part_ord s.f3.size i n
      rw [part_is s.f3.size i n (okV_parts h).2.2.2.1 hf'.1 (by omega) (by omega), Option.bind_some]
      simp only
      rw [if_pos (by omega), if_pos (by omega), if_pos (by omega), cond_is]
      simp only [bits_with.f, Option.bind_some, Int.toNat_natCast]
  · rw [if_neg h, if_neg h]
def restR (s : S23) (i : Int) : R6 :=
  if okV s = true then (if farI i = true then (0, 0, 0, ⟨#[]⟩, 0, 7) else (s.f0, 0, 0, s.f3.extract (partF s.f3.size i) s.f3.size, cnd (decide (1 ≤ i) && decide (i ≤ (s.f3.size : Int) + 1)), 0)) else (0, 0, 0, ⟨#[]⟩, 0, 1)
theorem rest_is (s : S23) (i : Int) : bits_Rest.f s.f0 s.f1 s.f2 s.f3 i = some (restR s i) := by
  unfold bits_Rest.f restR
  have hv : bits_Valid.f s.f0 s.f1 s.f2 s.f3 = some (okV s) := rfl
  rw [hv, Option.bind_some]
  by_cases h : okV s = true
  · have hs := (okV_parts h).2.2.2.1
    rw [if_pos h, if_pos h]
    simp only [bits_farT.f, Option.bind_some, List.any_cons, List.any_nil, Bool.or_false]
    by_cases hf : farI i = true
    · rw [if_pos hf, if_pos hf]
    · rw [if_neg hf, if_neg hf]
      have hf' : farI i = false := by simpa using hf
      have hi := far_no i hf'
      have ew : wrap64 (wrap64 ((s.f3.size : Int) - i) + 1) = (s.f3.size : Int) - i + 1 := by unfold wrap64; omega
      have ho := part_ord s.f3.size i ((s.f3.size : Int) - i + 1)
      have hT : partT s.f3.size i ((s.f3.size : Int) - i + 1) = s.f3.size := by
        unfold partT mn mx; repeat' split
        all_goals omega
      have hR : partR s.f3.size i ((s.f3.size : Int) - i + 1) = (decide (1 ≤ i) && decide (i ≤ (s.f3.size : Int) + 1)) := by
        unfold partR
        congr 1
        by_cases h2 : i ≤ (s.f3.size : Int) + 1
        · rw [decide_eq_true h2, decide_eq_true (show 0 ≤ (s.f3.size : Int) - i + 1 by omega), decide_eq_true (by omega)]; rfl
        · rw [decide_eq_false h2, decide_eq_false (show ¬ 0 ≤ (s.f3.size : Int) - i + 1 by omega)]; rfl
      rw [ew, part_is s.f3.size i _ hs hf' (by omega) (by omega), Option.bind_some]
      simp only
      rw [if_pos (by omega), if_pos (by omega), if_pos (by omega), cond_is, hT, hR]
      simp only [bits_with.f, Option.bind_some, Int.toNat_natCast]
  · rw [if_neg h, if_neg h]
theorem str_size (l : List Int) : (strOfNums l).size = l.length := by simp [strOfNums, ByteArray.size]
theorem str_bt (l : List Int) (j : Nat) (h : j < l.length) (h0 : 0 ≤ l.getD j 0) (h1 : l.getD j 0 ≤ 255) : bt (strOfNums l) (j : Int) = l.getD j 0 := by
  rw [btN _ j (by rw [str_size]; exact h)]
  have e : (strOfNums l)[j]'(by rw [str_size]; exact h) = UInt8.ofNat (l.getD j 0).toNat := by
    simp [strOfNums, ByteArray.getElem_eq_getElem_data, List.getD, h]
  rw [e]
  simp only [UInt8.toNat_ofNat']
  omega
theorem fillc_range (n : Int) : 0 ≤ fillc n ∧ fillc n ≤ 255 := by unfold fillc; split <;> omega
theorem w_t (j : Nat) : ((j : Int) + 1).toNat = j + 1 := by omega
theorem acc_size (B : ByteArray) (j : Nat) (h : j ≤ B.size) : (B.extract 0 j).size = j := by simp only [ByteArray.size_extract]; omega
theorem okc_bt (s : ByteArray) (n x : Int) (h : okS n s = true) (h0 : 0 ≤ x) (h1 : x < s.size) : okc n (bt s x) = true := by
  obtain ⟨m, rfl⟩ := Int.eq_ofNat_of_zero_le h0
  rw [btN s m (by omega)]
  exact (okS_iff n s).1 h m (by omega)
theorem part_right (L F N : Nat) (h : F + N ≤ L) : partF L ((F : Int) + 1) = F ∧ partT L ((F : Int) + 1) (N : Int) = F + N := by
  unfold partF partT mn mx
  constructor <;> repeat' split
  all_goals omega
section
variable (s v : S23) (F N : Nat) (hFN : F + N ≤ s.f3.size)
include hFN
end
end Go.Proofs.Ytnelblndidciiaa.P

-- from the text Hj
namespace Go.Proofs.Ytnelblndidciiaa.P
open Go.RowKit Go.Proofs.YtnelblndidciiaaW.PrintWords Go.Proofs.YtnelblndidciiaaW.PrintLast Go.Proofs.YtnelblndidciiaaW.PrintMore
set_option linter.unusedVariables false
set_option linter.unusedSimpArgs false
/-- The bytes, the first m of them made others. -/
def eachL (g : Int → Int) (s : ByteArray) (m : Nat) : List Int := (List.range m).foldl (fun l j => l.set j (g (bt s (j : Int)))) (bytesOf s)
theorem eachL_succ (g : Int → Int) (s : ByteArray) (m : Nat) : eachL g s (m + 1) = (eachL g s m).set m (g (bt s (m : Int))) := by
  unfold eachL; rw [List.range_succ, List.foldl_append]; rfl
theorem eachL_len (g : Int → Int) (s : ByteArray) (m : Nat) : (eachL g s m).length = s.size := by
  induction m with
  | zero => exact bytesOf_len s
  | succ m ih => rw [eachL_succ, List.length_set]; exact ih
theorem bytesOf_get (s : ByteArray) (j : Nat) (hj : j < s.size) : (bytesOf s).getD j 0 = bt s (j : Int) := by
  rw [btN s j hj]
  have hj' : j < s.data.toList.length := hj
  simp [bytesOf, List.getD_eq_getElem?_getD, List.getElem?_map, List.getElem?_eq_getElem hj', ByteArray.getElem_eq_getElem_data]
theorem eachL_get (g : Int → Int) (s : ByteArray) (m : Nat) (h : m ≤ s.size) (j : Nat) (hj : j < s.size) : (eachL g s m).getD j 0 = if j < m then g (bt s (j : Int)) else bt s (j : Int) := by
  induction m with
  | zero => rw [if_neg (by omega)]; exact bytesOf_get s j hj
  | succ m ih =>
    have ih := ih (by omega)
    rw [eachL_succ]
    by_cases e : j = m
    · subst e
      rw [List.getD_eq_getElem?_getD, List.getElem?_set_self (by rw [eachL_len]; exact hj), if_pos (by omega)]; rfl
    · rw [List.getD_eq_getElem?_getD, List.getElem?_set_ne (by omega), ← List.getD_eq_getElem?_getD, ih]
      by_cases h1 : j < m
      · rw [if_pos h1, if_pos (by omega)]
      · rw [if_neg h1, if_neg (by omega)]
/-- The string made. -/
def eachB (g : Int → Int) (s : ByteArray) : ByteArray := strOfNums (eachL g s s.size)
set_option maxRecDepth 100000 in
set_option maxHeartbeats 4000000 in
theorem each_is (s : S23) (hs : s.f3.size ≤ 250) (fn : FuncId) (cap : Array Value) (g : Int → Int) (w : World)
    (hent : ∀ (c : Int) w, (callFunc fn (#[.int .u8 c] ++ cap)).run Try.prog w = .ok (.enter fn (#[.int .u8 c] ++ cap)) w)
    (hF : ∀ (j : Nat) (w' : World), j < s.f3.size → Below w.heap.size w w' → Calls Try.prog fn (#[.int .u8 (bt s.f3 (j : Int))] ++ cap) w' fun r w'' => r = .returned (.int .u8 (g (bt s.f3 (j : Int)))) ∧ Below w'.heap.size w' w'') :
    Calls Try.prog 76 #[.agg #[.int .i64 s.f0, .int .i64 s.f1, .int .i64 s.f2, .string s.f3], .func (.func fn) #[] cap] w fun e w' =>
      e = .returned (.agg #[.int .i64 s.f0, .int .i64 0, .int .i64 0, .string (eachB g s.f3)]) ∧ Below w.heap.size w w' := by
  have HF := Aside0.mk hF
  clear hF
  have hconv := fun (W : World) => Lib.run_convert_string_bytes (P := Try.prog) W 9 77 5 s.f3 Try.underlying9 Try.underlying77 Try.underlying5
  go_enter Try.func76, Try.ntmps76
  go_wp2_with fail
  have hbW := ((Below.refl w.heap.size w).alloc (Nat.le_refl _) (.cells #[.int .i64 s.f0, .int .i64 s.f1, .int .i64 s.f2, .string s.f3] 23 (0, 0))).alloc (show w.heap.size ≤ _ by simp) (.cells #[.int .i64 0, .int .i64 0, .int .i64 0, .string (⟨#[]⟩ : ByteArray)] 23 (0, 0))
  have hS := Aside0.mk (blk_alloc (blk_new w (.cells #[.int .i64 s.f0, .int .i64 s.f1, .int .i64 s.f2, .string s.f3] 23 (0, 0))) (.cells #[.int .i64 0, .int .i64 0, .int .i64 0, .string (⟨#[]⟩ : ByteArray)] 23 (0, 0)))
  have hZ := Aside0.mk (blk_new (w.alloc (.cells #[.int .i64 s.f0, .int .i64 s.f1, .int .i64 s.f2, .string s.f3] 23 (0, 0))) (.cells #[.int .i64 0, .int .i64 0, .int .i64 0, .string (⟨#[]⟩ : ByteArray)] 23 (0, 0)))
  rw [show (w.alloc (.cells #[.int .i64 s.f0, .int .i64 s.f1, .int .i64 s.f2, .string s.f3] 23 (0, 0))).heap.size = w.heap.size + 1 by simp] at hZ
  have hw2 : ((w.alloc (.cells #[.int .i64 s.f0, .int .i64 s.f1, .int .i64 s.f2, .string s.f3] 23 (0, 0))).alloc (.cells #[.int .i64 0, .int .i64 0, .int .i64 0, .string (⟨#[]⟩ : ByteArray)] 23 (0, 0))).heap.size = w.heap.size + 1 + 1 := by simp
  generalize ((w.alloc (.cells #[.int .i64 s.f0, .int .i64 s.f1, .int .i64 s.f2, .string s.f3] 23 (0, 0))).alloc (.cells #[.int .i64 0, .int .i64 0, .int .i64 0, .string (⟨#[]⟩ : ByteArray)] 23 (0, 0))) = W0 at *
  rw [← hw2]
  have HW2 := Aside0.mk hw2
  have HBW := Aside0.mk hbW
  clear hw2 hbW
  go_loopw [12] (fun p wr => ∃ m : Nat, m ≤ s.f3.size ∧ p = .int .i64 (m : Int) ∧ Aside0 (Below w.heap.size w wr) ∧ Aside0 (wr.heap[w.heap.size]? = some (.cells #[.int .i64 s.f0, .int .i64 s.f1, .int .i64 s.f2, .string s.f3] 23 (0, 0))) ∧ Aside0 (wr.heap[w.heap.size + 1]? = some (.cells #[.int .i64 0, .int .i64 0, .int .i64 0, .string (⟨#[]⟩ : ByteArray)] 23 (0, 0))) ∧ BRow wr W0.heap.size 5 (eachL g s.f3 m)) (fun p _ => ((s.f3.size : Int) - intOf p).toNat)
  case atStart =>
    exact ⟨0, Nat.zero_le _, rfl, ⟨below_bytes 5 _ HBW.out⟩, ⟨blk_below hS.out (below_bytes_self _ _ _)⟩, ⟨blk_below hZ.out (below_bytes_self _ _ _)⟩, BRow.make _ _ _⟩
  case round =>
    obtain ⟨m, hm, rfl, HB, KS, KZ, HR⟩ := hrel
    by_cases hlt : m < s.f3.size
    · have hx : (eachL g s.f3 m).getD m 0 = bt s.f3 (m : Int) := by rw [eachL_get g s.f3 m hm m hlt, if_neg (Nat.lt_irrefl m)]
      have hcell := HR.cell (j := m) (by rw [eachL_len]; exact hlt)
      rw [hx] at hcell
      have hbd : 0 ≤ (m : Int) ∧ (m : Int) < (s.f3.size : Int) := ⟨by omega, by omega⟩
      have HX := Aside0.mk hx
      clear hx
      go_wp2_with fail
      refine (HF.out m wr hlt HB.out).mono ?_
      rintro e w4 ⟨rfl, hb6⟩
      have HR4 := HR.below hb6
      have hidx : m < (eachL g s.f3 m).length := by rw [eachL_len]; exact hlt
      have hcell := HR4.cell hidx
      rw [HX.out] at hcell
      have hfree := HR4.free hidx
      have hbw := Aside0.mk (HB.out.trans (hb6.mono HB.out.size))
      have KS := Aside0.mk (blk_below KS.out hb6)
      have KZ := Aside0.mk (blk_below KZ.out hb6)
      clear HR hidx hb6
      go_wp2_with fail
      have hg1 : w.heap.size ≠ W0.heap.size := by have := HW2.out; omega
      have hg2 : w.heap.size + 1 ≠ W0.heap.size := by have := HW2.out; omega
      have hset := HR4.set m (g (bt s.f3 (m : Int)))
      rw [← eachL_succ] at hset
      go_roundw
      case rel =>
        exact ⟨m + 1, by omega, by congr 1, ⟨hbw.out.setCell (by have := HW2.out; show _ ≤ W0.heap.size; omega) _⟩, ⟨blk_far KS.out hg1 _⟩, ⟨blk_far KZ.out hg2 _⟩, hset⟩
      case measure => simp [intOf]; omega
    · obtain rfl : m = s.f3.size := by omega
      have s0 : wr.cell? ⟨w.heap.size, 0, none⟩ = some (.int .i64 s.f0) := (blk_cell KS.out 0).trans rfl
      have s1 : wr.cell? ⟨w.heap.size, 1, none⟩ = some (.int .i64 s.f1) := (blk_cell KS.out 1).trans rfl
      have s2 : wr.cell? ⟨w.heap.size, 2, none⟩ = some (.int .i64 s.f2) := (blk_cell KS.out 2).trans rfl
      have s3 : wr.cell? ⟨w.heap.size, 3, none⟩ = some (.string s.f3) := (blk_cell KS.out 3).trans rfl
      have hcv : ∀ c : Nat, (convert 77 9 (.slice (some ⟨W0.heap.size, 0, none⟩) s.f3.size c)).run Try.prog wr = .ok (.string (eachB g s.f3)) wr := fun c => by
        have := HR.string (P := Try.prog) (src := 77) (dst := 9) (c := c) (by rw [eachL_len]; omega) Try.underlying77 Try.underlying5 Try.underlying9
        rw [eachL_len] at this; exact this
      clear HR
      go_wp2_with (go_at_call 65; refine (bits_with.calls _ _ _ _ _ _ _ _ _ _ (bits_with.is _ _ _ _ _)).mono ?_)
      rintro e w4 ⟨rfl, hb6⟩
      have KZ := blk_below KZ.out hb6
      have hb7 := Aside0.mk (HB.out.trans (hb6.mono HB.out.size))
      clear s0 s1 s2 s3 hb6 hcv
      have c0 := blk_cell KZ 0
      have c1 := blk_cell KZ 1
      have c2 := blk_cell KZ 2
      have c3 := blk_cell KZ 3
      have f0 := blk_frozen KZ 0
      have f1 := blk_frozen KZ 1
      have f2 := blk_frozen KZ 2
      have f3 := blk_frozen KZ 3
      clear KZ
      go_wp2_with fail
      refine bodyPost_ret (v := .agg #[.int .i64 s.f0, .int .i64 0, .int .i64 0, .string (eachB g s.f3)]) (by simp [results, Try.results76, go_sem, c0, c1, c2, c3]) rfl ⟨rfl, ?_⟩
      repeat (first | exact hb7.out | refine Below.setCell ?_ (by simp) _)
end Go.Proofs.Ytnelblndidciiaa.P

-- from the text D72
namespace Go.Proofs.Ytnelblndidciiaa.P
open Go.RowKit Go.Proofs.YtnelblndidciiaaW.PrintWords Go.Proofs.YtnelblndidciiaaW.PrintLast Go.Proofs.YtnelblndidciiaaW.PrintMore
attribute [local go_sem] max2_int min2_int max_two min_two max_three min_three max_four min_four   -- for this text's walks alone
set_option linter.unusedVariables false
set_option linter.unusedSimpArgs false
def bits_combine.B5 : List Nat := [0, 0, 0, 0, 0, 24, 56, 120, 0, 0, 824, 2040, 4088, 8188, 16383, 32767]
end Go.Proofs.Ytnelblndidciiaa.P

-- from the text Hk
namespace Go.Proofs.Ytnelblndidciiaa.P
open Go.RowKit Go.Proofs.YtnelblndidciiaaW.PrintWords Go.Proofs.YtnelblndidciiaaW.PrintLast Go.Proofs.YtnelblndidciiaaW.PrintMore
set_option linter.unusedVariables false
set_option linter.unusedSimpArgs false
def t0 : ByteArray := ⟨#[48, 48, 48, 49]⟩
end Go.Proofs.Ytnelblndidciiaa.P

-- from the text Hn
namespace Go.Proofs.Ytnelblndidciiaa.P
open Go.RowKit Go.Proofs.YtnelblndidciiaaW.PrintWords Go.Proofs.YtnelblndidciiaaW.PrintLast Go.Proofs.YtnelblndidciiaaW.PrintMore
set_option linter.unusedVariables false
set_option linter.unusedSimpArgs false
theorem kd_three {W : World} {B : Nat} {x y z : S23} (h : W.heap[B]? = some (.cells #[.int .i64 x.f0, .int .i64 x.f1, .int .i64 x.f2, .string x.f3, .int .i64 y.f0, .int .i64 y.f1, .int .i64 y.f2, .string y.f3, .int .i64 z.f0, .int .i64 z.f1, .int .i64 z.f2, .string z.f3] 23 (0, 0))) : Kd.C k23 W (some ⟨B, 0, none⟩) 3 [x, y, z] := by
  refine ⟨rfl, by decide, fun _ => ⟨_, rfl, fun j p hj => ?_⟩⟩
  match j, hj with
  | 0, hj =>
    obtain rfl : x = p := by simpa using hj
    refine ⟨_, rfl, k23_mk W x, fun i u hu => ?_⟩
    rw [add_plain]
    match i, hu with
    | 0, hu | 1, hu | 2, hu | 3, hu => simp [World.cell?, h, k23, Kd.iso, Kd.pair, Kd.int, Kd.string, Kd.scalar] at hu ⊢; exact hu
    | n + 4, hu => simp at hu
  | 1, hj =>
    obtain rfl : y = p := by simpa using hj
    refine ⟨_, rfl, k23_mk W y, fun i u hu => ?_⟩
    rw [add_plain]
    match i, hu with
    | 0, hu | 1, hu | 2, hu | 3, hu => simp [World.cell?, h, k23, Kd.iso, Kd.pair, Kd.int, Kd.string, Kd.scalar] at hu ⊢; exact hu
    | n + 4, hu => simp at hu
  | 2, hj =>
    obtain rfl : z = p := by simpa using hj
    refine ⟨_, rfl, k23_mk W z, fun i u hu => ?_⟩
    rw [add_plain]
    match i, hu with
    | 0, hu | 1, hu | 2, hu | 3, hu => simp [World.cell?, h, k23, Kd.iso, Kd.pair, Kd.int, Kd.string, Kd.scalar] at hu ⊢; exact hu
    | n + 4, hu => simp at hu
  | j + 3, hj => simp at hj
theorem asked_three (x y z : S23) (B : Nat) (w : World) (h : w.heap[B]? = some (.cells #[.int .i64 x.f0, .int .i64 x.f1, .int .i64 x.f2, .string x.f3, .int .i64 y.f0, .int .i64 y.f1, .int .i64 y.f2, .string y.f3, .int .i64 z.f0, .int .i64 z.f1, .int .i64 z.f2, .string z.f3] 23 (0, 0))) :
    Calls Try.prog 55 #[.slice (some ⟨B, 0, none⟩) 3 3] w fun e w' => e = .returned (.int .i64 (askedI [x, y, z])) ∧ Below w.heap.size w w' :=
  bits_askedT.calls _ 3 [x, y, z] _ w (kd_three h) (Nat.le_refl _) rfl
theorem askedI_three {x y z : S23} (h : askedI [x, y, z] = 0) : okV x = true ∧ okV y = true ∧ okV z = true ∧ x.f0 = y.f0 ∧ x.f0 = z.f0 := by
  simp [askedI] at h
  split at h
  · rename_i h1
    split at h
    · rename_i h2; exact ⟨h1.1, h1.2.1, h1.2.2, h2.1.symm, h2.2.symm⟩
    · cases h
  · cases h
/-- What a character becomes. -/
def trG (p q : S23) (c : Int) : Int :=
  if 0 ≤ Lib.indexByte q.f3.data.toList c.toNat.toUInt8 then (if Lib.indexByte q.f3.data.toList c.toNat.toUInt8 < (p.f3.size : Int) then bt p.f3 (Lib.indexByte q.f3.data.toList c.toNat.toUInt8) else fillc p.f0) else c
set_option maxRecDepth 100000 in
set_option maxHeartbeats 4000000 in
theorem tr1_r (c : Int) (p q : S23) (r : Int) (gt gf : Nat) (w : World) (ht : w.heap[gt]? = some (.cells #[.int .i64 p.f0, .int .i64 p.f1, .int .i64 p.f2, .string p.f3] 23 (0, 0))) (hf : w.heap[gf]? = some (.cells #[.int .i64 q.f0, .int .i64 q.f1, .int .i64 q.f2, .string q.f3] 23 (0, 0)))
    (hr : (0 ≤ Lib.indexByte q.f3.data.toList c.toNat.toUInt8 ∧ bits_at.f p.f0 p.f1 p.f2 p.f3 (Lib.indexByte q.f3.data.toList c.toNat.toUInt8) = some r) ∨ (¬ 0 ≤ Lib.indexByte q.f3.data.toList c.toNat.toUInt8 ∧ r = c)) :
    Calls Try.prog 85 #[.int .u8 c, .pointer (some ⟨gf, 0, none⟩), .pointer (some ⟨gt, 0, none⟩)] w fun e w' => e = .returned (.int .u8 r) ∧ Below w.heap.size w w' := by
  have HT := Aside0.mk ht
  have s3 : w.cell? ⟨gf, 3, none⟩ = some (.string q.f3) := (blk_cell hf 3).trans rfl
  clear ht hf
  have HI := Go.Proofs.Try.strings_IndexByte q.f3 c w
  generalize Lib.indexByte q.f3.data.toList c.toNat.toUInt8 = i at *
  have HR := Aside0.mk hr
  have HI := Aside0.mk HI
  clear hr
  go_enter Try.func85, Try.ntmps85
  go_wp2_with fail
  refine (HI.out).mono ?_
  rintro e w1 ⟨rfl, rfl⟩
  clear s3
  rcases HR.out with ⟨h0, h1⟩ | ⟨h0, h1⟩
  · have hd : decide (i ≥ 0) = true := decide_eq_true h0
    have H1 := Aside0.mk h1
    clear h1
    have s0 := (blk_cell HT.out 0).trans rfl
    have s1 := (blk_cell HT.out 1).trans rfl
    have s2 := (blk_cell HT.out 2).trans rfl
    have s3 := (blk_cell HT.out 3).trans rfl
    go_wp2_with (go_at_call 56; refine (bits_at.calls _ _ _ _ _ _ _ H1.out).mono ?_)
    rintro e w2 ⟨rfl, hb2⟩
    go_wp2_with fail
    go_ret
    exact ⟨rfl, hb2⟩
  · have hd : decide (i ≥ 0) = false := decide_eq_false (by omega)
    subst h1
    go_wp2_with fail
    go_ret
    exact ⟨rfl, Below.refl _ _⟩
theorem tr1_is (c : Int) (p q : S23) (hk : p.f0 = 4 ∨ p.f0 = 5) (gt gf : Nat) (w : World) (ht : w.heap[gt]? = some (.cells #[.int .i64 p.f0, .int .i64 p.f1, .int .i64 p.f2, .string p.f3] 23 (0, 0))) (hf : w.heap[gf]? = some (.cells #[.int .i64 q.f0, .int .i64 q.f1, .int .i64 q.f2, .string q.f3] 23 (0, 0))) :
    Calls Try.prog 85 #[.int .u8 c, .pointer (some ⟨gf, 0, none⟩), .pointer (some ⟨gt, 0, none⟩)] w fun e w' => e = .returned (.int .u8 (trG p q c)) ∧ Below w.heap.size w w' := by
  refine tr1_r c p q _ gt gf w ht hf ?_
  unfold trG bits_at.f
  by_cases h0 : 0 ≤ Lib.indexByte q.f3.data.toList c.toNat.toUInt8
  · refine .inl ⟨h0, ?_⟩
    rw [if_pos h0]
    by_cases h1 : Lib.indexByte q.f3.data.toList c.toNat.toUInt8 < (p.f3.size : Int)
    · rw [if_pos h1, if_pos h1, if_pos h0]
    · rw [if_neg h1, if_neg h1, if_pos hk, if_pos h0]
  · exact .inr ⟨h0, by rw [if_neg h0]⟩
set_option maxRecDepth 100000 in
set_option maxHeartbeats 4000000 in
theorem tr_bad (s p q : S23) (w : World) (h : askedI [s, p, q] ≠ 0) :
    Calls Try.prog 41 #[.agg #[.int .i64 s.f0, .int .i64 s.f1, .int .i64 s.f2, .string s.f3], .agg #[.int .i64 p.f0, .int .i64 p.f1, .int .i64 p.f2, .string p.f3], .agg #[.int .i64 q.f0, .int .i64 q.f1, .int .i64 q.f2, .string q.f3]] w fun e w' => e = .returned (.tuple #[.agg #[.int .i64 0, .int .i64 0, .int .i64 0, .string (⟨#[]⟩ : ByteArray)], .int .i64 (askedI [s, p, q])]) ∧ Below w.heap.size w w' := by
  have h1 : (askedI [s, p, q] != 0) = true := bne_iff_ne.2 h
  clear h
  go_enter Try.func41, Try.ntmps41
  go_wp2_with fail
  refine (asked_three s p q _ _ (blk_at_n (by simp))).mono ?_
  rintro e w' ⟨rfl, hb1⟩
  have hbW := ((((((Below.refl w.heap.size w).alloc (Nat.le_refl _) (.cells #[.int .i64 s.f0, .int .i64 s.f1, .int .i64 s.f2, .string s.f3] 23 (0, 0))).alloc (show w.heap.size ≤ _ by simp) (.cells #[.int .i64 p.f0, .int .i64 p.f1, .int .i64 p.f2, .string p.f3] 23 (0, 0))).alloc (show w.heap.size ≤ _ by simp; omega) (.cells #[.int .i64 q.f0, .int .i64 q.f1, .int .i64 q.f2, .string q.f3] 23 (0, 0))).alloc (show w.heap.size ≤ _ by simp; omega) (.cells #[.int .i64 0, .int .i64 0, .int .i64 0, .string (⟨#[]⟩ : ByteArray)] 23 (0, 0))).alloc (show w.heap.size ≤ _ by simp; omega) (.cells #[.int .i64 s.f0, .int .i64 s.f1, .int .i64 s.f2, .string s.f3, .int .i64 p.f0, .int .i64 p.f1, .int .i64 p.f2, .string p.f3, .int .i64 q.f0, .int .i64 q.f1, .int .i64 q.f2, .string q.f3] 23 (0, 0)))
  have HB := Aside0.mk (hbW.trans (hb1.mono hbW.size))
  have HS := Aside0.mk (blk_below (blk_alloc (blk_alloc (blk_alloc (blk_alloc (blk_new w (.cells #[.int .i64 s.f0, .int .i64 s.f1, .int .i64 s.f2, .string s.f3] 23 (0, 0))) (.cells #[.int .i64 p.f0, .int .i64 p.f1, .int .i64 p.f2, .string p.f3] 23 (0, 0))) (.cells #[.int .i64 q.f0, .int .i64 q.f1, .int .i64 q.f2, .string q.f3] 23 (0, 0))) (.cells #[.int .i64 0, .int .i64 0, .int .i64 0, .string (⟨#[]⟩ : ByteArray)] 23 (0, 0))) (.cells #[.int .i64 s.f0, .int .i64 s.f1, .int .i64 s.f2, .string s.f3, .int .i64 p.f0, .int .i64 p.f1, .int .i64 p.f2, .string p.f3, .int .i64 q.f0, .int .i64 q.f1, .int .i64 q.f2, .string q.f3] 23 (0, 0))) hb1)
  have HT := Aside0.mk (blk_below (blk_alloc (blk_alloc (blk_alloc (blk_at_n (W := (w.alloc (.cells #[.int .i64 s.f0, .int .i64 s.f1, .int .i64 s.f2, .string s.f3] 23 (0, 0)))) (o := (.cells #[.int .i64 p.f0, .int .i64 p.f1, .int .i64 p.f2, .string p.f3] 23 (0, 0))) (n := w.heap.size + 1) (by simp)) (.cells #[.int .i64 q.f0, .int .i64 q.f1, .int .i64 q.f2, .string q.f3] 23 (0, 0))) (.cells #[.int .i64 0, .int .i64 0, .int .i64 0, .string (⟨#[]⟩ : ByteArray)] 23 (0, 0))) (.cells #[.int .i64 s.f0, .int .i64 s.f1, .int .i64 s.f2, .string s.f3, .int .i64 p.f0, .int .i64 p.f1, .int .i64 p.f2, .string p.f3, .int .i64 q.f0, .int .i64 q.f1, .int .i64 q.f2, .string q.f3] 23 (0, 0))) hb1)
  have HF := Aside0.mk (blk_below (blk_alloc (blk_alloc (blk_at_n (W := ((w.alloc (.cells #[.int .i64 s.f0, .int .i64 s.f1, .int .i64 s.f2, .string s.f3] 23 (0, 0))).alloc (.cells #[.int .i64 p.f0, .int .i64 p.f1, .int .i64 p.f2, .string p.f3] 23 (0, 0)))) (o := (.cells #[.int .i64 q.f0, .int .i64 q.f1, .int .i64 q.f2, .string q.f3] 23 (0, 0))) (n := w.heap.size + 1 + 1) (by simp)) (.cells #[.int .i64 0, .int .i64 0, .int .i64 0, .string (⟨#[]⟩ : ByteArray)] 23 (0, 0))) (.cells #[.int .i64 s.f0, .int .i64 s.f1, .int .i64 s.f2, .string s.f3, .int .i64 p.f0, .int .i64 p.f1, .int .i64 p.f2, .string p.f3, .int .i64 q.f0, .int .i64 q.f1, .int .i64 q.f2, .string q.f3] 23 (0, 0))) hb1)
  have HZ := Aside0.mk (blk_below (blk_alloc (blk_at_n (W := (((w.alloc (.cells #[.int .i64 s.f0, .int .i64 s.f1, .int .i64 s.f2, .string s.f3] 23 (0, 0))).alloc (.cells #[.int .i64 p.f0, .int .i64 p.f1, .int .i64 p.f2, .string p.f3] 23 (0, 0))).alloc (.cells #[.int .i64 q.f0, .int .i64 q.f1, .int .i64 q.f2, .string q.f3] 23 (0, 0)))) (o := (.cells #[.int .i64 0, .int .i64 0, .int .i64 0, .string (⟨#[]⟩ : ByteArray)] 23 (0, 0))) (n := w.heap.size + 1 + 1 + 1) (by simp)) (.cells #[.int .i64 s.f0, .int .i64 s.f1, .int .i64 s.f2, .string s.f3, .int .i64 p.f0, .int .i64 p.f1, .int .i64 p.f2, .string p.f3, .int .i64 q.f0, .int .i64 q.f1, .int .i64 q.f2, .string q.f3] 23 (0, 0))) hb1)
  clear hb1 hbW
  have c0 := (blk_cell HZ.out 0).trans rfl
  have c1 := (blk_cell HZ.out 1).trans rfl
  have c2 := (blk_cell HZ.out 2).trans rfl
  have c3 := (blk_cell HZ.out 3).trans rfl
  have f0 := blk_frozen HZ.out 0
  have f1 := blk_frozen HZ.out 1
  have f2 := blk_frozen HZ.out 2
  have f3 := blk_frozen HZ.out 3
  go_wp2_with fail
  have hO := (blk_put (cs := #[.int .i64 0, .int .i64 0, .int .i64 0, .string (⟨#[]⟩ : ByteArray)]) (blk_put (cs := #[.int .i64 0, .int .i64 0, .int .i64 0, .string (⟨#[]⟩ : ByteArray)]) (blk_put (cs := #[.int .i64 0, .int .i64 0, .int .i64 0, .string (⟨#[]⟩ : ByteArray)]) (blk_put (cs := #[.int .i64 0, .int .i64 0, .int .i64 0, .string (⟨#[]⟩ : ByteArray)]) HZ.out 0 (.int .i64 0) rfl) 1 (.int .i64 0) rfl) 2 (.int .i64 0) rfl) 3 (.string (⟨#[]⟩ : ByteArray)) rfl)
  have hB := (Below.setCell (Below.setCell (Below.setCell (Below.setCell HB.out (p := ⟨w.heap.size + 1 + 1 + 1, 0, none⟩) (by first | (simp; done) | (simp; omega)) (.int .i64 0)) (p := ⟨w.heap.size + 1 + 1 + 1, 1, none⟩) (by first | (simp; done) | (simp; omega)) (.int .i64 0)) (p := ⟨w.heap.size + 1 + 1 + 1, 2, none⟩) (by first | (simp; done) | (simp; omega)) (.int .i64 0)) (p := ⟨w.heap.size + 1 + 1 + 1, 3, none⟩) (by first | (simp; done) | (simp; omega)) (.string (⟨#[]⟩ : ByteArray)))
  clear c0 f0 c1 f1 c2 f2 c3 f3
  generalize ((((w'.setCell ⟨w.heap.size + 1 + 1 + 1, 0, none⟩ (.int .i64 0)).setCell ⟨w.heap.size + 1 + 1 + 1, 1, none⟩ (.int .i64 0)).setCell ⟨w.heap.size + 1 + 1 + 1, 2, none⟩ (.int .i64 0)).setCell ⟨w.heap.size + 1 + 1 + 1, 3, none⟩ (.string (⟨#[]⟩ : ByteArray))) = W at *
  have o0 := (blk_cell hO 0).trans rfl
  have o1 := (blk_cell hO 1).trans rfl
  have o2 := (blk_cell hO 2).trans rfl
  have o3 := (blk_cell hO 3).trans rfl
  refine bodyPost_ret (v := .tuple #[.agg #[.int .i64 0, .int .i64 0, .int .i64 0, .string (⟨#[]⟩ : ByteArray)], .int .i64 (askedI [s, p, q])]) (by simp [results, Try.results41, go_sem, o0, o1, o2, o3]) rfl ⟨rfl, ?_⟩
  first | exact hB | exact Below.drew hB
set_option maxRecDepth 100000 in
set_option maxHeartbeats 4000000 in
theorem tr_does (s p q : S23) (w : World) (h : askedI [s, p, q] = 0) :
    Calls Try.prog 41 #[.agg #[.int .i64 s.f0, .int .i64 s.f1, .int .i64 s.f2, .string s.f3], .agg #[.int .i64 p.f0, .int .i64 p.f1, .int .i64 p.f2, .string p.f3], .agg #[.int .i64 q.f0, .int .i64 q.f1, .int .i64 q.f2, .string q.f3]] w fun e w' => e = .returned (.tuple #[.agg #[.int .i64 s.f0, .int .i64 0, .int .i64 0, .string (eachB (trG p q) s.f3)], .int .i64 0]) ∧ Below w.heap.size w w' := by
  obtain ⟨k1, k2, -, -, -⟩ := askedI_three h
  have hs := (okV_parts k1).2.2.2.1
  have hk := (okV_parts k2).1
  have HE := Aside0.mk (fun (w' : World) (gt gf : Nat) (ht : w'.heap[gt]? = some (.cells #[.int .i64 p.f0, .int .i64 p.f1, .int .i64 p.f2, .string p.f3] 23 (0, 0))) (hf : w'.heap[gf]? = some (.cells #[.int .i64 q.f0, .int .i64 q.f1, .int .i64 q.f2, .string q.f3] 23 (0, 0))) =>
    each_is s hs 85 #[.pointer (some ⟨gf, 0, none⟩), .pointer (some ⟨gt, 0, none⟩)] (trG p q) w' (fun c w => by kernel_rfl) (fun j w'' hj hb =>
      tr1_is (bt s.f3 (j : Int)) p q hk gt gf w'' (blk_below ht hb) (blk_below hf hb)))
  have H0 := Aside0.mk h
  have hmf : ∀ (fn : Fn) (first cap : Array Value) (w : World), (Instr.makeFunc fn first cap).run Try.prog w = .ok (.func fn first cap) w := fun _ _ _ _ => rfl
  clear h k1 k2 hs hk
  go_enter Try.func41, Try.ntmps41
  go_wp2_with fail
  refine (asked_three s p q _ _ (blk_at_n (by simp))).mono ?_
  rintro e w' ⟨rfl, hb1⟩
  have hbW := ((((((Below.refl w.heap.size w).alloc (Nat.le_refl _) (.cells #[.int .i64 s.f0, .int .i64 s.f1, .int .i64 s.f2, .string s.f3] 23 (0, 0))).alloc (show w.heap.size ≤ _ by simp) (.cells #[.int .i64 p.f0, .int .i64 p.f1, .int .i64 p.f2, .string p.f3] 23 (0, 0))).alloc (show w.heap.size ≤ _ by simp; omega) (.cells #[.int .i64 q.f0, .int .i64 q.f1, .int .i64 q.f2, .string q.f3] 23 (0, 0))).alloc (show w.heap.size ≤ _ by simp; omega) (.cells #[.int .i64 0, .int .i64 0, .int .i64 0, .string (⟨#[]⟩ : ByteArray)] 23 (0, 0))).alloc (show w.heap.size ≤ _ by simp; omega) (.cells #[.int .i64 s.f0, .int .i64 s.f1, .int .i64 s.f2, .string s.f3, .int .i64 p.f0, .int .i64 p.f1, .int .i64 p.f2, .string p.f3, .int .i64 q.f0, .int .i64 q.f1, .int .i64 q.f2, .string q.f3] 23 (0, 0)))
  have HB := Aside0.mk (hbW.trans (hb1.mono hbW.size))
  have HS := Aside0.mk (blk_below (blk_alloc (blk_alloc (blk_alloc (blk_alloc (blk_new w (.cells #[.int .i64 s.f0, .int .i64 s.f1, .int .i64 s.f2, .string s.f3] 23 (0, 0))) (.cells #[.int .i64 p.f0, .int .i64 p.f1, .int .i64 p.f2, .string p.f3] 23 (0, 0))) (.cells #[.int .i64 q.f0, .int .i64 q.f1, .int .i64 q.f2, .string q.f3] 23 (0, 0))) (.cells #[.int .i64 0, .int .i64 0, .int .i64 0, .string (⟨#[]⟩ : ByteArray)] 23 (0, 0))) (.cells #[.int .i64 s.f0, .int .i64 s.f1, .int .i64 s.f2, .string s.f3, .int .i64 p.f0, .int .i64 p.f1, .int .i64 p.f2, .string p.f3, .int .i64 q.f0, .int .i64 q.f1, .int .i64 q.f2, .string q.f3] 23 (0, 0))) hb1)
  have HT := Aside0.mk (blk_below (blk_alloc (blk_alloc (blk_alloc (blk_at_n (W := (w.alloc (.cells #[.int .i64 s.f0, .int .i64 s.f1, .int .i64 s.f2, .string s.f3] 23 (0, 0)))) (o := (.cells #[.int .i64 p.f0, .int .i64 p.f1, .int .i64 p.f2, .string p.f3] 23 (0, 0))) (n := w.heap.size + 1) (by simp)) (.cells #[.int .i64 q.f0, .int .i64 q.f1, .int .i64 q.f2, .string q.f3] 23 (0, 0))) (.cells #[.int .i64 0, .int .i64 0, .int .i64 0, .string (⟨#[]⟩ : ByteArray)] 23 (0, 0))) (.cells #[.int .i64 s.f0, .int .i64 s.f1, .int .i64 s.f2, .string s.f3, .int .i64 p.f0, .int .i64 p.f1, .int .i64 p.f2, .string p.f3, .int .i64 q.f0, .int .i64 q.f1, .int .i64 q.f2, .string q.f3] 23 (0, 0))) hb1)
  have HF := Aside0.mk (blk_below (blk_alloc (blk_alloc (blk_at_n (W := ((w.alloc (.cells #[.int .i64 s.f0, .int .i64 s.f1, .int .i64 s.f2, .string s.f3] 23 (0, 0))).alloc (.cells #[.int .i64 p.f0, .int .i64 p.f1, .int .i64 p.f2, .string p.f3] 23 (0, 0)))) (o := (.cells #[.int .i64 q.f0, .int .i64 q.f1, .int .i64 q.f2, .string q.f3] 23 (0, 0))) (n := w.heap.size + 1 + 1) (by simp)) (.cells #[.int .i64 0, .int .i64 0, .int .i64 0, .string (⟨#[]⟩ : ByteArray)] 23 (0, 0))) (.cells #[.int .i64 s.f0, .int .i64 s.f1, .int .i64 s.f2, .string s.f3, .int .i64 p.f0, .int .i64 p.f1, .int .i64 p.f2, .string p.f3, .int .i64 q.f0, .int .i64 q.f1, .int .i64 q.f2, .string q.f3] 23 (0, 0))) hb1)
  have HZ := Aside0.mk (blk_below (blk_alloc (blk_at_n (W := (((w.alloc (.cells #[.int .i64 s.f0, .int .i64 s.f1, .int .i64 s.f2, .string s.f3] 23 (0, 0))).alloc (.cells #[.int .i64 p.f0, .int .i64 p.f1, .int .i64 p.f2, .string p.f3] 23 (0, 0))).alloc (.cells #[.int .i64 q.f0, .int .i64 q.f1, .int .i64 q.f2, .string q.f3] 23 (0, 0)))) (o := (.cells #[.int .i64 0, .int .i64 0, .int .i64 0, .string (⟨#[]⟩ : ByteArray)] 23 (0, 0))) (n := w.heap.size + 1 + 1 + 1) (by simp)) (.cells #[.int .i64 s.f0, .int .i64 s.f1, .int .i64 s.f2, .string s.f3, .int .i64 p.f0, .int .i64 p.f1, .int .i64 p.f2, .string p.f3, .int .i64 q.f0, .int .i64 q.f1, .int .i64 q.f2, .string q.f3] 23 (0, 0))) hb1)
  clear hb1 hbW
  rw [H0.out]
  have s0 := (blk_cell HS.out 0).trans rfl
  have s1 := (blk_cell HS.out 1).trans rfl
  have s2 := (blk_cell HS.out 2).trans rfl
  have s3 := (blk_cell HS.out 3).trans rfl
  go_wp2_with fail
  refine (HE.out w' (w.heap.size + 1) (w.heap.size + 1 + 1) HT.out HF.out).mono ?_
  rintro e w2 ⟨rfl, hb2⟩
  have HZ := Aside0.mk (blk_below HZ.out hb2)
  have HB := Aside0.mk (HB.out.trans (hb2.mono HB.out.size))
  clear hb2 s0 s1 s2 s3
  have c0 := (blk_cell HZ.out 0).trans rfl
  have c1 := (blk_cell HZ.out 1).trans rfl
  have c2 := (blk_cell HZ.out 2).trans rfl
  have c3 := (blk_cell HZ.out 3).trans rfl
  have f0 := blk_frozen HZ.out 0
  have f1 := blk_frozen HZ.out 1
  have f2 := blk_frozen HZ.out 2
  have f3 := blk_frozen HZ.out 3
  go_wp2_with fail
  have hO := (blk_put (cs := #[.int .i64 s.f0, .int .i64 0, .int .i64 0, .string (⟨#[]⟩ : ByteArray)]) (blk_put (cs := #[.int .i64 s.f0, .int .i64 0, .int .i64 0, .string (⟨#[]⟩ : ByteArray)]) (blk_put (cs := #[.int .i64 s.f0, .int .i64 0, .int .i64 0, .string (⟨#[]⟩ : ByteArray)]) (blk_put (cs := #[.int .i64 0, .int .i64 0, .int .i64 0, .string (⟨#[]⟩ : ByteArray)]) HZ.out 0 (.int .i64 s.f0) rfl) 1 (.int .i64 0) rfl) 2 (.int .i64 0) rfl) 3 (.string (eachB (trG p q) s.f3)) rfl)
  have hB := (Below.setCell (Below.setCell (Below.setCell (Below.setCell HB.out (p := ⟨w.heap.size + 1 + 1 + 1, 0, none⟩) (by first | (simp; done) | (simp; omega)) (.int .i64 s.f0)) (p := ⟨w.heap.size + 1 + 1 + 1, 1, none⟩) (by first | (simp; done) | (simp; omega)) (.int .i64 0)) (p := ⟨w.heap.size + 1 + 1 + 1, 2, none⟩) (by first | (simp; done) | (simp; omega)) (.int .i64 0)) (p := ⟨w.heap.size + 1 + 1 + 1, 3, none⟩) (by first | (simp; done) | (simp; omega)) (.string (eachB (trG p q) s.f3)))
  clear c0 f0 c1 f1 c2 f2 c3 f3
  generalize ((((w2.setCell ⟨w.heap.size + 1 + 1 + 1, 0, none⟩ (.int .i64 s.f0)).setCell ⟨w.heap.size + 1 + 1 + 1, 1, none⟩ (.int .i64 0)).setCell ⟨w.heap.size + 1 + 1 + 1, 2, none⟩ (.int .i64 0)).setCell ⟨w.heap.size + 1 + 1 + 1, 3, none⟩ (.string (eachB (trG p q) s.f3))) = W at *
  have o0 := (blk_cell hO 0).trans rfl
  have o1 := (blk_cell hO 1).trans rfl
  have o2 := (blk_cell hO 2).trans rfl
  have o3 := (blk_cell hO 3).trans rfl
  refine bodyPost_ret (v := .tuple #[.agg #[.int .i64 s.f0, .int .i64 0, .int .i64 0, .string (eachB (trG p q) s.f3)], .int .i64 0]) (by simp [results, Try.results41, go_sem, o0, o1, o2, o3]) rfl ⟨rfl, ?_⟩
  first | exact hB | exact Below.drew hB
def bits_Translate.f (a0_0 a0_1 a0_2 : Int) (a0_3 : ByteArray) (a1_0 a1_1 a1_2 : Int) (a1_3 : ByteArray) (a2_0 a2_1 a2_2 : Int) (a2_3 : ByteArray) : Option (Int × Int × Int × ByteArray × Int) :=
  if askedI [⟨a0_0, a0_1, a0_2, a0_3⟩, ⟨a1_0, a1_1, a1_2, a1_3⟩, ⟨a2_0, a2_1, a2_2, a2_3⟩] = 0 then some (a0_0, 0, 0, eachB (trG ⟨a1_0, a1_1, a1_2, a1_3⟩ ⟨a2_0, a2_1, a2_2, a2_3⟩) a0_3, 0)
  else some (0, 0, 0, ⟨#[]⟩, askedI [⟨a0_0, a0_1, a0_2, a0_3⟩, ⟨a1_0, a1_1, a1_2, a1_3⟩, ⟨a2_0, a2_1, a2_2, a2_3⟩])
theorem bits_Translate.calls (a0_0 a0_1 a0_2 : Int) (a0_3 : ByteArray) (a1_0 a1_1 a1_2 : Int) (a1_3 : ByteArray) (a2_0 a2_1 a2_2 : Int) (a2_3 : ByteArray) (r1 r2 r3 : Int) (r4 : ByteArray) (r5 : Int) (w : World) (h : bits_Translate.f a0_0 a0_1 a0_2 a0_3 a1_0 a1_1 a1_2 a1_3 a2_0 a2_1 a2_2 a2_3 = some (r1, r2, r3, r4, r5)) :
    Calls Try.prog 41 #[.agg #[.int .i64 a0_0, .int .i64 a0_1, .int .i64 a0_2, .string a0_3], .agg #[.int .i64 a1_0, .int .i64 a1_1, .int .i64 a1_2, .string a1_3], .agg #[.int .i64 a2_0, .int .i64 a2_1, .int .i64 a2_2, .string a2_3]] w fun e w' => e = .returned (.tuple #[.agg #[.int .i64 r1, .int .i64 r2, .int .i64 r3, .string r4], .int .i64 r5]) ∧ Below w.heap.size w w' := by
  unfold bits_Translate.f at h
  by_cases hl : askedI [⟨a0_0, a0_1, a0_2, a0_3⟩, ⟨a1_0, a1_1, a1_2, a1_3⟩, ⟨a2_0, a2_1, a2_2, a2_3⟩] = 0
  · rw [if_pos hl] at h
    simp only [Option.some.injEq, Prod.mk.injEq] at h
    obtain ⟨rfl, rfl, rfl, rfl, rfl⟩ := h
    exact tr_does ⟨a0_0, a0_1, a0_2, a0_3⟩ ⟨a1_0, a1_1, a1_2, a1_3⟩ ⟨a2_0, a2_1, a2_2, a2_3⟩ w hl
  · rw [if_neg hl] at h
    simp only [Option.some.injEq, Prod.mk.injEq] at h
    obtain ⟨rfl, rfl, rfl, rfl, rfl⟩ := h
    exact tr_bad ⟨a0_0, a0_1, a0_2, a0_3⟩ ⟨a1_0, a1_1, a1_2, a1_3⟩ ⟨a2_0, a2_1, a2_2, a2_3⟩ w hl
/-- The bytes, the first m of them those from the end on. -/
def revL (s : ByteArray) (m : Nat) : List Int := (List.range m).foldl (fun l j => l.set j (bt s ((s.size - 1 - j : Nat) : Int))) (bytesOf s)
theorem revL_succ (s : ByteArray) (m : Nat) : revL s (m + 1) = (revL s m).set m (bt s ((s.size - 1 - m : Nat) : Int)) := by
  unfold revL; rw [List.range_succ, List.foldl_append]; rfl
theorem revL_len (s : ByteArray) (m : Nat) : (revL s m).length = s.size := by
  induction m with
  | zero => exact bytesOf_len s
  | succ m ih => rw [revL_succ, List.length_set]; exact ih
theorem revL_get (s : ByteArray) (m : Nat) (h : m ≤ s.size) (j : Nat) (hj : j < m) : (revL s m).getD j 0 = bt s ((s.size - 1 - j : Nat) : Int) := by
  induction m with
  | zero => omega
  | succ m ih =>
    rw [revL_succ]
    by_cases e : j = m
    · subst e
      rw [List.getD_eq_getElem?_getD, List.getElem?_set_self (by rw [revL_len]; omega)]; rfl
    · rw [List.getD_eq_getElem?_getD, List.getElem?_set_ne (by omega), ← List.getD_eq_getElem?_getD, ih (by omega) (by omega)]
def revB (s : ByteArray) : ByteArray := strOfNums (revL s s.size)
set_option maxRecDepth 100000 in
set_option maxHeartbeats 4000000 in
theorem rev_bad (s : S23) (w : World) (h : okV s = false) :
    Calls Try.prog 53 #[.agg #[.int .i64 s.f0, .int .i64 s.f1, .int .i64 s.f2, .string s.f3]] w fun e w' => e = .returned (.tuple #[.agg #[.int .i64 0, .int .i64 0, .int .i64 0, .string (⟨#[]⟩ : ByteArray)], .int .i64 1]) ∧ Below w.heap.size w w' := by
  have HV := Aside0.mk (fun W => bits_Valid.calls s.f0 s.f1 s.f2 s.f3 (okV s) W rfl)
  rw [h] at HV
  clear h
  go_enter Try.func53, Try.ntmps53
  go_wp2_with fail
  refine (HV.out _).mono ?_
  rintro e w' ⟨rfl, hb1⟩
  have hbW := ((Below.refl w.heap.size w).alloc (Nat.le_refl _) (.cells #[.int .i64 s.f0, .int .i64 s.f1, .int .i64 s.f2, .string s.f3] 23 (0, 0))).alloc (show w.heap.size ≤ _ by simp) (.cells #[.int .i64 0, .int .i64 0, .int .i64 0, .string (⟨#[]⟩ : ByteArray)] 23 (0, 0))
  have HB := Aside0.mk (hbW.trans (hb1.mono hbW.size))
  have HZ := Aside0.mk (blk_below (blk_at_n (W := w.alloc (.cells #[.int .i64 s.f0, .int .i64 s.f1, .int .i64 s.f2, .string s.f3] 23 (0, 0))) (o := (.cells #[.int .i64 0, .int .i64 0, .int .i64 0, .string (⟨#[]⟩ : ByteArray)] 23 (0, 0))) (n := w.heap.size + 1) (by simp)) hb1)
  clear hb1 hbW
  have c0 := (blk_cell HZ.out 0).trans rfl
  have c1 := (blk_cell HZ.out 1).trans rfl
  have c2 := (blk_cell HZ.out 2).trans rfl
  have c3 := (blk_cell HZ.out 3).trans rfl
  have f0 := blk_frozen HZ.out 0
  have f1 := blk_frozen HZ.out 1
  have f2 := blk_frozen HZ.out 2
  have f3 := blk_frozen HZ.out 3
  go_wp2_with fail
  have hO := (blk_put (cs := #[.int .i64 0, .int .i64 0, .int .i64 0, .string (⟨#[]⟩ : ByteArray)]) (blk_put (cs := #[.int .i64 0, .int .i64 0, .int .i64 0, .string (⟨#[]⟩ : ByteArray)]) (blk_put (cs := #[.int .i64 0, .int .i64 0, .int .i64 0, .string (⟨#[]⟩ : ByteArray)]) (blk_put (cs := #[.int .i64 0, .int .i64 0, .int .i64 0, .string (⟨#[]⟩ : ByteArray)]) HZ.out 0 (.int .i64 0) rfl) 1 (.int .i64 0) rfl) 2 (.int .i64 0) rfl) 3 (.string (⟨#[]⟩ : ByteArray)) rfl)
  have hB := (Below.setCell (Below.setCell (Below.setCell (Below.setCell HB.out (p := ⟨w.heap.size + 1, 0, none⟩) (by first | (simp; done) | (simp; omega)) (.int .i64 0)) (p := ⟨w.heap.size + 1, 1, none⟩) (by first | (simp; done) | (simp; omega)) (.int .i64 0)) (p := ⟨w.heap.size + 1, 2, none⟩) (by first | (simp; done) | (simp; omega)) (.int .i64 0)) (p := ⟨w.heap.size + 1, 3, none⟩) (by first | (simp; done) | (simp; omega)) (.string (⟨#[]⟩ : ByteArray)))
  clear c0 f0 c1 f1 c2 f2 c3 f3
  generalize ((((w'.setCell ⟨w.heap.size + 1, 0, none⟩ (.int .i64 0)).setCell ⟨w.heap.size + 1, 1, none⟩ (.int .i64 0)).setCell ⟨w.heap.size + 1, 2, none⟩ (.int .i64 0)).setCell ⟨w.heap.size + 1, 3, none⟩ (.string (⟨#[]⟩ : ByteArray))) = W at *
  have o0 := (blk_cell hO 0).trans rfl
  have o1 := (blk_cell hO 1).trans rfl
  have o2 := (blk_cell hO 2).trans rfl
  have o3 := (blk_cell hO 3).trans rfl
  refine bodyPost_ret (v := .tuple #[.agg #[.int .i64 0, .int .i64 0, .int .i64 0, .string (⟨#[]⟩ : ByteArray)], .int .i64 1]) (by simp [results, Try.results53, go_sem, o0, o1, o2, o3]) rfl ⟨rfl, ?_⟩
  first | exact hB | exact Below.drew hB
set_option maxRecDepth 100000 in
set_option maxHeartbeats 4000000 in
theorem rev_does (s : S23) (w : World) (h : okV s = true) :
    Calls Try.prog 53 #[.agg #[.int .i64 s.f0, .int .i64 s.f1, .int .i64 s.f2, .string s.f3]] w fun e w' => e = .returned (.tuple #[.agg #[.int .i64 s.f0, .int .i64 0, .int .i64 0, .string (revB s.f3)], .int .i64 0]) ∧ Below w.heap.size w w' := by
  have hs := (okV_parts h).2.2.2.1
  have HV := Aside0.mk (fun W => bits_Valid.calls s.f0 s.f1 s.f2 s.f3 (okV s) W rfl)
  rw [h] at HV
  clear h
  have hconv := fun (W : World) => Lib.run_convert_string_bytes (P := Try.prog) W 9 77 5 s.f3 Try.underlying9 Try.underlying77 Try.underlying5
  go_enter Try.func53, Try.ntmps53
  go_wp2_with fail
  refine (HV.out _).mono ?_
  rintro e W0 ⟨rfl, hb1⟩
  have hbW := ((Below.refl w.heap.size w).alloc (Nat.le_refl _) (.cells #[.int .i64 s.f0, .int .i64 s.f1, .int .i64 s.f2, .string s.f3] 23 (0, 0))).alloc (show w.heap.size ≤ _ by simp) (.cells #[.int .i64 0, .int .i64 0, .int .i64 0, .string (⟨#[]⟩ : ByteArray)] 23 (0, 0))
  have HBW := Aside0.mk (hbW.trans (hb1.mono hbW.size))
  have hS := Aside0.mk (blk_below (blk_alloc (blk_new w (.cells #[.int .i64 s.f0, .int .i64 s.f1, .int .i64 s.f2, .string s.f3] 23 (0, 0))) (.cells #[.int .i64 0, .int .i64 0, .int .i64 0, .string (⟨#[]⟩ : ByteArray)] 23 (0, 0))) hb1)
  have hZ := Aside0.mk (blk_below (blk_at_n (W := w.alloc (.cells #[.int .i64 s.f0, .int .i64 s.f1, .int .i64 s.f2, .string s.f3] 23 (0, 0))) (o := (.cells #[.int .i64 0, .int .i64 0, .int .i64 0, .string (⟨#[]⟩ : ByteArray)] 23 (0, 0))) (n := w.heap.size + 1) (by simp)) hb1)
  have HW2 : Aside0 (w.heap.size + 1 < W0.heap.size) := ⟨by have := hb1.size; simp at this; omega⟩
  clear hb1 hbW
  have s0 := (blk_cell hS.out 0).trans rfl
  have s1 := (blk_cell hS.out 1).trans rfl
  have s2 := (blk_cell hS.out 2).trans rfl
  have s3 := (blk_cell hS.out 3).trans rfl
  go_wp2_with fail
  clear s0 s1 s2 s3
  go_loopw [15] (fun p wr => ∃ m : Nat, m ≤ s.f3.size ∧ p = .int .i64 (m : Int) ∧ Aside0 (Below w.heap.size w wr) ∧ Aside0 (wr.heap[w.heap.size]? = some (.cells #[.int .i64 s.f0, .int .i64 s.f1, .int .i64 s.f2, .string s.f3] 23 (0, 0))) ∧ Aside0 (wr.heap[w.heap.size + 1]? = some (.cells #[.int .i64 0, .int .i64 0, .int .i64 0, .string (⟨#[]⟩ : ByteArray)] 23 (0, 0))) ∧ BRow wr W0.heap.size 5 (revL s.f3 m)) (fun p _ => ((s.f3.size : Int) - intOf p).toNat)
  case atStart =>
    exact ⟨0, Nat.zero_le _, rfl, ⟨below_bytes 5 _ HBW.out⟩, ⟨blk_below hS.out (below_bytes_self _ _ _)⟩, ⟨blk_below hZ.out (below_bytes_self _ _ _)⟩, BRow.make _ _ _⟩
  case round =>
    obtain ⟨m, hm, rfl, HB, KS, KZ, HR⟩ := hrel
    by_cases hlt : m < s.f3.size
    · have hcell := HR.cell (j := m) (by rw [revL_len]; exact hlt)
      have hbd : 0 ≤ (m : Int) ∧ (m : Int) < (s.f3.size : Int) := ⟨by omega, by omega⟩
      have hw1 : wrap64 ((s.f3.size : Int) - 1) = (s.f3.size : Int) - 1 := by unfold wrap64; omega
      have hw2 : wrap64 ((s.f3.size : Int) - 1 - (m : Int)) = ((s.f3.size - 1 - m : Nat) : Int) := by unfold wrap64; omega
      have s3 : wr.cell? ⟨w.heap.size, 3, none⟩ = some (.string s.f3) := (blk_cell KS.out 3).trans rfl
      have hfree := HR.free (j := m) (by rw [revL_len]; exact hlt)
      have hg1 : w.heap.size ≠ W0.heap.size := by have := HW2.out; omega
      have hg2 : w.heap.size + 1 ≠ W0.heap.size := by have := HW2.out; omega
      have hlt2 : s.f3.size - 1 - m < s.f3.size := by omega
      have hset := HR.set m (bt s.f3 ((s.f3.size - 1 - m : Nat) : Int))
      rw [← revL_succ, btN s.f3 _ hlt2] at hset
      have Hset := Aside0.mk hset
      clear hset
      go_wp2_with fail
      go_roundw
      case rel =>
        exact ⟨m + 1, by omega, by congr 1, ⟨HB.out.setCell (by have := HW2.out; show _ ≤ W0.heap.size; omega) _⟩, ⟨blk_far KS.out hg1 _⟩, ⟨blk_far KZ.out hg2 _⟩, Hset.out⟩
      case measure => simp [intOf]; omega
    · obtain rfl : m = s.f3.size := by omega
      have s0 := (blk_cell KS.out 0).trans rfl
      have s1 := (blk_cell KS.out 1).trans rfl
      have s2 := (blk_cell KS.out 2).trans rfl
      have s3 := (blk_cell KS.out 3).trans rfl
      have hcv : ∀ c : Nat, (convert 77 9 (.slice (some ⟨W0.heap.size, 0, none⟩) s.f3.size c)).run Try.prog wr = .ok (.string (revB s.f3)) wr := fun c => by
        have := HR.string (P := Try.prog) (src := 77) (dst := 9) (c := c) (by rw [revL_len]; omega) Try.underlying77 Try.underlying5 Try.underlying9
        rw [revL_len] at this; exact this
      clear HR
      go_wp2_with (go_at_call 65; refine (bits_with.calls _ _ _ _ _ _ _ _ _ _ (bits_with.is _ _ _ _ _)).mono ?_)
      rintro e w2 ⟨rfl, hb6⟩
      have HZ := Aside0.mk (blk_below KZ.out hb6)
      have HB := Aside0.mk (HB.out.trans (hb6.mono HB.out.size))
      clear s0 s1 s2 s3 hb6 hcv
      have c0 := (blk_cell HZ.out 0).trans rfl
      have c1 := (blk_cell HZ.out 1).trans rfl
      have c2 := (blk_cell HZ.out 2).trans rfl
      have c3 := (blk_cell HZ.out 3).trans rfl
      have f0 := blk_frozen HZ.out 0
      have f1 := blk_frozen HZ.out 1
      have f2 := blk_frozen HZ.out 2
      have f3 := blk_frozen HZ.out 3
      go_wp2_with fail
      have hO := (blk_put (cs := #[.int .i64 s.f0, .int .i64 0, .int .i64 0, .string (⟨#[]⟩ : ByteArray)]) (blk_put (cs := #[.int .i64 s.f0, .int .i64 0, .int .i64 0, .string (⟨#[]⟩ : ByteArray)]) (blk_put (cs := #[.int .i64 s.f0, .int .i64 0, .int .i64 0, .string (⟨#[]⟩ : ByteArray)]) (blk_put (cs := #[.int .i64 0, .int .i64 0, .int .i64 0, .string (⟨#[]⟩ : ByteArray)]) HZ.out 0 (.int .i64 s.f0) rfl) 1 (.int .i64 0) rfl) 2 (.int .i64 0) rfl) 3 (.string (revB s.f3)) rfl)
      have hB := (Below.setCell (Below.setCell (Below.setCell (Below.setCell HB.out (p := ⟨w.heap.size + 1, 0, none⟩) (by first | (simp; done) | (simp; omega)) (.int .i64 s.f0)) (p := ⟨w.heap.size + 1, 1, none⟩) (by first | (simp; done) | (simp; omega)) (.int .i64 0)) (p := ⟨w.heap.size + 1, 2, none⟩) (by first | (simp; done) | (simp; omega)) (.int .i64 0)) (p := ⟨w.heap.size + 1, 3, none⟩) (by first | (simp; done) | (simp; omega)) (.string (revB s.f3)))
      clear c0 f0 c1 f1 c2 f2 c3 f3
      generalize ((((w2.setCell ⟨w.heap.size + 1, 0, none⟩ (.int .i64 s.f0)).setCell ⟨w.heap.size + 1, 1, none⟩ (.int .i64 0)).setCell ⟨w.heap.size + 1, 2, none⟩ (.int .i64 0)).setCell ⟨w.heap.size + 1, 3, none⟩ (.string (revB s.f3))) = W at *
      have o0 := (blk_cell hO 0).trans rfl
      have o1 := (blk_cell hO 1).trans rfl
      have o2 := (blk_cell hO 2).trans rfl
      have o3 := (blk_cell hO 3).trans rfl
      refine bodyPost_ret (v := .tuple #[.agg #[.int .i64 s.f0, .int .i64 0, .int .i64 0, .string (revB s.f3)], .int .i64 0]) (by simp [results, Try.results53, go_sem, o0, o1, o2, o3]) rfl ⟨rfl, ?_⟩
      first | exact hB | exact Below.drew hB
def bits_Reverse.f (a0_0 a0_1 a0_2 : Int) (a0_3 : ByteArray) : Option (Int × Int × Int × ByteArray × Int) :=
  if okV ⟨a0_0, a0_1, a0_2, a0_3⟩ = true then some (a0_0, 0, 0, revB a0_3, 0) else some (0, 0, 0, ⟨#[]⟩, 1)
theorem bits_Reverse.calls (a0_0 a0_1 a0_2 : Int) (a0_3 : ByteArray) (r1 r2 r3 : Int) (r4 : ByteArray) (r5 : Int) (w : World) (h : bits_Reverse.f a0_0 a0_1 a0_2 a0_3 = some (r1, r2, r3, r4, r5)) :
    Calls Try.prog 53 #[.agg #[.int .i64 a0_0, .int .i64 a0_1, .int .i64 a0_2, .string a0_3]] w fun e w' => e = .returned (.tuple #[.agg #[.int .i64 r1, .int .i64 r2, .int .i64 r3, .string r4], .int .i64 r5]) ∧ Below w.heap.size w w' := by
  unfold bits_Reverse.f at h
  by_cases hl : okV ⟨a0_0, a0_1, a0_2, a0_3⟩ = true
  · rw [if_pos hl] at h
    simp only [Option.some.injEq, Prod.mk.injEq] at h
    obtain ⟨rfl, rfl, rfl, rfl, rfl⟩ := h
    exact rev_does ⟨a0_0, a0_1, a0_2, a0_3⟩ w hl
  · rw [if_neg hl] at h
    simp only [Option.some.injEq, Prod.mk.injEq] at h
    obtain ⟨rfl, rfl, rfl, rfl, rfl⟩ := h
    exact rev_bad ⟨a0_0, a0_1, a0_2, a0_3⟩ w (by simpa using hl)
end Go.Proofs.Ytnelblndidciiaa.P

-- from the text D42
namespace Go.Proofs.Ytnelblndidciiaa.P
open Go.RowKit Go.Proofs.YtnelblndidciiaaW.PrintWords Go.Proofs.YtnelblndidciiaaW.PrintLast Go.Proofs.YtnelblndidciiaaW.PrintMore
attribute [local go_sem] max2_int min2_int max_two min_two max_three min_three max_four min_four   -- for this text's walks alone
set_option linter.unusedVariables false
set_option linter.unusedSimpArgs false
def ironbarkref05_Translate.l0 : Nat → ByteArray → Int → Int → Int → Int → ByteArray → Int → Int → Int → ByteArray → Int → Int → Int → ByteArray → Option (Int × Int × Int × ByteArray × Int)
  | 0, _, _, _, _, _, _, _, _, _, _, _, _, _, _ => none
  | k + 1, x9, x10, x102000, x102001, x102002, x102003, x103000, x103001, x103002, x103003, x104000, x104001, x104002, x104003 => if x10 < (x102003.size : Int) then (if 0 ≤ x10 then (if x10 ≤ (wrap64 (x10 + 1)) then (if (wrap64 (x10 + 1)) ≤ (x102003.size : Int) then ((ironbarkref05_inT.f x104003 (bt x102003 x10)).bind fun t113 => (if t113 > 0 then ((ironbarkref05_Filler.f x102000).bind fun t114 => (if t113 ≤ (x103003.size : Int) then (if 0 ≤ (wrap64 (t113 - 1)) then (if (wrap64 (t113 - 1)) ≤ t113 then (if x9.size + (x103003.extract ((wrap64 (t113 - 1)) : Int).toNat (t113 : Int).toNat).size ≤ 9223372036854775807 then (ironbarkref05_Translate.l0 k (x9 ++ (x103003.extract ((wrap64 (t113 - 1)) : Int).toNat (t113 : Int).toNat)) (wrap64 (x10 + 1)) x102000 x102001 x102002 x102003 x103000 x103001 x103002 x103003 x104000 x104001 x104002 x104003) else (none)) else (none)) else (none)) else (if x9.size + t114.size ≤ 9223372036854775807 then (ironbarkref05_Translate.l0 k (x9 ++ t114) (wrap64 (x10 + 1)) x102000 x102001 x102002 x102003 x103000 x103001 x103002 x103003 x104000 x104001 x104002 x104003) else (none)))) else (if x9.size + (x102003.extract (x10 : Int).toNat ((wrap64 (x10 + 1)) : Int).toNat).size ≤ 9223372036854775807 then (ironbarkref05_Translate.l0 k (x9 ++ (x102003.extract (x10 : Int).toNat ((wrap64 (x10 + 1)) : Int).toNat)) (wrap64 (x10 + 1)) x102000 x102001 x102002 x102003 x103000 x103001 x103002 x103003 x104000 x104001 x104002 x104003) else (none)))) else (none)) else (none)) else (none)) else ((ironbarkref05_made.f x102000 x9).bind fun bt109 => (some (bt109.1, bt109.2.1, bt109.2.2.1, bt109.2.2.2, 0)))
def ironbarkref05_Translate.f (k : Nat) (a0_0 : Int) (a0_1 : Int) (a0_2 : Int) (a0_3 : ByteArray) (a1_0 : Int) (a1_1 : Int) (a1_2 : Int) (a1_3 : ByteArray) (a2_0 : Int) (a2_1 : Int) (a2_2 : Int) (a2_3 : ByteArray) : Option (Int × Int × Int × ByteArray × Int) := (ironbarkref05_stringsT.f (([(⟨a0_0, a0_1, a0_2, a0_3⟩ : S23), (⟨a1_0, a1_1, a1_2, a1_3⟩ : S23), (⟨a2_0, a2_1, a2_2, a2_3⟩ : S23)] : List (S23))) 0).bind fun t108 => (if t108 = 0 then (ironbarkref05_Translate.l0 k (⟨#[]⟩ : ByteArray) 0 a0_0 a0_1 a0_2 a0_3 a1_0 a1_1 a1_2 a1_3 a2_0 a2_1 a2_2 a2_3) else (some (0, 0, 0, (⟨#[]⟩ : ByteArray), t108)))
set_option maxHeartbeats 8000000 in
set_option maxRecDepth 100000 in
theorem ironbarkref05_Translate.calls (k : Nat) (a0_0 : Int) (a0_1 : Int) (a0_2 : Int) (a0_3 : ByteArray) (a1_0 : Int) (a1_1 : Int) (a1_2 : Int) (a1_3 : ByteArray) (a2_0 : Int) (a2_1 : Int) (a2_2 : Int) (a2_3 : ByteArray) (r1 : Int) (r2 : Int) (r3 : Int) (r4 : ByteArray) (r5 : Int) (w : World) (h : ironbarkref05_Translate.f k a0_0 a0_1 a0_2 a0_3 a1_0 a1_1 a1_2 a1_3 a2_0 a2_1 a2_2 a2_3 = some (r1, r2, r3, r4, r5)) :
    Calls Try.prog 42 #[.agg #[.int .i64 a0_0, .int .i64 a0_1, .int .i64 a0_2, .string a0_3], .agg #[.int .i64 a1_0, .int .i64 a1_1, .int .i64 a1_2, .string a1_3], .agg #[.int .i64 a2_0, .int .i64 a2_1, .int .i64 a2_2, .string a2_3]] w fun e w' => e = .returned (.tuple #[.agg #[.int .i64 r1, .int .i64 r2, .int .i64 r3, .string r4], .int .i64 r5]) ∧ Below w.heap.size w w' := by
  have hu23 := Try.underlying23
  have HB := Aside0.mk (Below.refl w.heap.size w)
  have H : ((ironbarkref05_stringsT.f (([(⟨a0_0, a0_1, a0_2, a0_3⟩ : S23), (⟨a1_0, a1_1, a1_2, a1_3⟩ : S23), (⟨a2_0, a2_1, a2_2, a2_3⟩ : S23)] : List (S23))) 0).bind fun t108 => (if t108 = 0 then (ironbarkref05_Translate.l0 k (⟨#[]⟩ : ByteArray) 0 a0_0 a0_1 a0_2 a0_3 a1_0 a1_1 a1_2 a1_3 a2_0 a2_1 a2_2 a2_3) else (some (0, 0, 0, (⟨#[]⟩ : ByteArray), t108)))) = some (r1, r2, r3, r4, r5) := h
  clear h
  obtain ⟨y105, hy105⟩ : ∃ y_ : List (S23), y_ = (([(⟨a0_0, a0_1, a0_2, a0_3⟩ : S23), (⟨a1_0, a1_1, a1_2, a1_3⟩ : S23), (⟨a2_0, a2_1, a2_2, a2_3⟩ : S23)] : List (S23))) := ⟨_, rfl⟩
  replace H : ((ironbarkref05_stringsT.f y105 0).bind fun t108 => (if t108 = 0 then (ironbarkref05_Translate.l0 k (⟨#[]⟩ : ByteArray) 0 a0_0 a0_1 a0_2 a0_3 a1_0 a1_1 a1_2 a1_3 a2_0 a2_1 a2_2 a2_3) else (some (0, 0, 0, (⟨#[]⟩ : ByteArray), t108)))) = some (r1, r2, r3, r4, r5) := by first | (rw [hy105]; with_reducible exact H) | (have H2_ := (Option.bind_some _ _).symm.trans H; rw [hy105]; with_reducible exact H2_) | (have H2_ := (Option.bind_some _ _).symm.trans H; with_reducible exact H2_) | with_reducible exact H | (rw [hy105]; exact H) | exact H
  have Ny105 := Aside0.mk hy105
  clear hy105
  replace H := Option.bind_eq_some_iff.mp H
  obtain ⟨t108, A40, H⟩ := H
  replace H : (if t108 = 0 then (ironbarkref05_Translate.l0 k (⟨#[]⟩ : ByteArray) 0 a0_0 a0_1 a0_2 a0_3 a1_0 a1_1 a1_2 a1_3 a2_0 a2_1 a2_2 a2_3) else (some (0, 0, 0, (⟨#[]⟩ : ByteArray), t108))) = some (r1, r2, r3, r4, r5) := H
  have A4 := Aside0.mk A40
  clear A40
  by_cases c5 : t108 = 0
  · rw [if_pos c5] at H
    have c5b0 : (t108 == 0) = true := beq_iff_eq.mpr c5
    have c5b1 : (t108 != 0) = false := bne_eq_false_iff_eq.mpr c5
    clear c5
    have H' := Aside0.mk H
    clear H
    go_enter Try.func42, Try.ntmps42
    go_wp2_with (first | ((with_reducible refine gate_dst (N := 3) rfl ?_); refine box_event ?hg (N := 3) ?hd (cs := #[.int .i64 a0_0, .int .i64 a0_1, .int .i64 a0_2, .string a0_3]) (t := 23) ?hr ?_; (case hd => rfl); (case hg => rfl); (case hr => first | (go_simp; done) | (go_simp; rfl)); intro gb101 hg w6 hbox hb; have n0_ := Aside0.mk (below_step (by repeat (first | (with_reducible first | exact HB.out | apply below_alloc | apply pw_below_drewN | apply below_drew1) | exact HB.out)) hb); have n1_ := Aside0.mk (hbox); have n2_ := Aside0.mk ((by rw [hg]; exact (below_size (by repeat (first | (with_reducible first | exact HB.out | apply below_alloc | apply pw_below_drewN | apply below_drew1) | exact HB.out))) : w.heap.size ≤ gb101)); have n3_ := n2_; clear HB; have HB := n0_; have BK101 := n1_; have GW101 := n2_; have GE101 := n3_; clear n0_ n1_ n2_ n3_; clear hb hbox hg) | ((with_reducible refine gate_dst (N := 4) rfl ?_); refine box_event ?hg (N := 4) ?hd (cs := #[.int .i64 a1_0, .int .i64 a1_1, .int .i64 a1_2, .string a1_3]) (t := 23) ?hr ?_; (case hd => rfl); (case hg => rfl); (case hr => first | (go_simp; done) | (go_simp; rfl)); intro gb102 hg w7 hbox hb; have n0_ := Aside0.mk (blk_below (zk BK101.out) hb); have n1_ := Aside0.mk (below_step (by repeat (first | (with_reducible first | exact HB.out | apply below_alloc | apply pw_below_drewN | apply below_drew1 | refine below_set ?_ GE101.out) | exact HB.out)) hb); have n2_ := Aside0.mk (hbox); have n3_ := Aside0.mk ((by rw [hg]; exact (below_size (by repeat (first | (with_reducible first | exact HB.out | apply below_alloc | apply pw_below_drewN | apply below_drew1 | refine below_set ?_ GE101.out) | exact HB.out))) : w.heap.size ≤ gb102)); have n4_ := n3_; have n5_ := Aside0.mk ((by rw [hg]; exact Nat.ne_of_lt (blk_lt (zk BK101.out)) : gb101 ≠ gb102)); have n6_ := Aside0.mk ((by rw [hg]; exact Nat.ne_of_gt (blk_lt (zk BK101.out)) : gb102 ≠ gb101)); clear BK101; clear HB; have BK101 := n0_; have HB := n1_; have BK102 := n2_; have GW102 := n3_; have GE102 := n4_; have NB101_102 := n5_; have NB102_101 := n6_; clear n0_ n1_ n2_ n3_ n4_ n5_ n6_; clear hb hbox hg) | ((with_reducible refine gate_dst (N := 5) rfl ?_); refine box_event ?hg (N := 5) ?hd (cs := #[.int .i64 a2_0, .int .i64 a2_1, .int .i64 a2_2, .string a2_3]) (t := 23) ?hr ?_; (case hd => rfl); (case hg => rfl); (case hr => first | (go_simp; done) | (go_simp; rfl)); intro gb103 hg w8 hbox hb; have n0_ := Aside0.mk (blk_below (zk BK101.out) hb); have n1_ := Aside0.mk (blk_below (zk BK102.out) hb); have n2_ := Aside0.mk (below_step (by repeat (first | (with_reducible first | exact HB.out | apply below_alloc | apply pw_below_drewN | apply below_drew1 | refine below_set ?_ GE101.out | refine below_set ?_ GE102.out) | exact HB.out)) hb); have n3_ := Aside0.mk (hbox); have n4_ := Aside0.mk ((by rw [hg]; exact (below_size (by repeat (first | (with_reducible first | exact HB.out | apply below_alloc | apply pw_below_drewN | apply below_drew1 | refine below_set ?_ GE101.out | refine below_set ?_ GE102.out) | exact HB.out))) : w.heap.size ≤ gb103)); have n5_ := n4_; have n6_ := Aside0.mk ((by rw [hg]; exact Nat.ne_of_lt (blk_lt (zk BK101.out)) : gb101 ≠ gb103)); have n7_ := Aside0.mk ((by rw [hg]; exact Nat.ne_of_gt (blk_lt (zk BK101.out)) : gb103 ≠ gb101)); have n8_ := Aside0.mk ((by rw [hg]; exact Nat.ne_of_lt (blk_lt (zk BK102.out)) : gb102 ≠ gb103)); have n9_ := Aside0.mk ((by rw [hg]; exact Nat.ne_of_gt (blk_lt (zk BK102.out)) : gb103 ≠ gb102)); clear BK101; clear BK102; clear HB; have BK101 := n0_; have BK102 := n1_; have HB := n2_; have BK103 := n3_; have GW103 := n4_; have GE103 := n5_; have NB101_103 := n6_; have NB103_101 := n7_; have NB102_103 := n8_; have NB103_102 := n9_; clear n0_ n1_ n2_ n3_ n4_ n5_ n6_ n7_ n8_ n9_; clear hb hbox hg) | ((with_reducible refine gate_dst (N := 6) rfl ?_); refine box_event ?hg (N := 6) ?hd (cs := #[.int .i64 0, .int .i64 0, .int .i64 0, .string (⟨#[]⟩ : ByteArray)]) (t := 23) ?hr ?_; (case hd => rfl); (case hg => rfl); (case hr => first | (go_simp; done) | (go_simp; rfl)); intro gb104 hg w9 hbox hb; have n0_ := Aside0.mk (blk_below (zk BK101.out) hb); have n1_ := Aside0.mk (blk_below (zk BK102.out) hb); have n2_ := Aside0.mk (blk_below (zk BK103.out) hb); have n3_ := Aside0.mk (below_step (by repeat (first | (with_reducible first | exact HB.out | apply below_alloc | apply pw_below_drewN | apply below_drew1 | refine below_set ?_ GE101.out | refine below_set ?_ GE102.out | refine below_set ?_ GE103.out) | exact HB.out)) hb); have n4_ := Aside0.mk (hbox); have n5_ := Aside0.mk ((by rw [hg]; exact (below_size (by repeat (first | (with_reducible first | exact HB.out | apply below_alloc | apply pw_below_drewN | apply below_drew1 | refine below_set ?_ GE101.out | refine below_set ?_ GE102.out | refine below_set ?_ GE103.out) | exact HB.out))) : w.heap.size ≤ gb104)); have n6_ := n5_; have n7_ := Aside0.mk ((by rw [hg]; exact Nat.ne_of_lt (blk_lt (zk BK101.out)) : gb101 ≠ gb104)); have n8_ := Aside0.mk ((by rw [hg]; exact Nat.ne_of_gt (blk_lt (zk BK101.out)) : gb104 ≠ gb101)); have n9_ := Aside0.mk ((by rw [hg]; exact Nat.ne_of_lt (blk_lt (zk BK102.out)) : gb102 ≠ gb104)); have n10_ := Aside0.mk ((by rw [hg]; exact Nat.ne_of_gt (blk_lt (zk BK102.out)) : gb104 ≠ gb102)); have n11_ := Aside0.mk ((by rw [hg]; exact Nat.ne_of_lt (blk_lt (zk BK103.out)) : gb103 ≠ gb104)); have n12_ := Aside0.mk ((by rw [hg]; exact Nat.ne_of_gt (blk_lt (zk BK103.out)) : gb104 ≠ gb103)); clear BK101; clear BK102; clear BK103; clear HB; have BK101 := n0_; have BK102 := n1_; have BK103 := n2_; have HB := n3_; have BK104 := n4_; have GW104 := n5_; have GE104 := n6_; have NB101_104 := n7_; have NB104_101 := n8_; have NB102_104 := n9_; have NB104_102 := n10_; have NB103_104 := n11_; have NB104_103 := n12_; clear n0_ n1_ n2_ n3_ n4_ n5_ n6_ n7_ n8_ n9_ n10_ n11_ n12_; clear hb hbox hg; have hnb10 := NB101_102.out; have hnc10 := NB102_101.out; have hnb11 := NB101_103.out; have hnc11 := NB103_101.out; have hnb12 := NB101_104.out; have hnc12 := NB104_101.out; obtain ⟨hcz13_0, hcz13_1, hcz13_2, hcz13_3⟩ := blk_quad BK101.out; obtain ⟨hfz13_0, hfz13_1, hfz13_2, hfz13_3⟩ := blk_quad_free BK101.out; have hnb14 := NB102_103.out; have hnc14 := NB103_102.out; have hnb15 := NB102_104.out; have hnc15 := NB104_102.out; obtain ⟨hcz16_0, hcz16_1, hcz16_2, hcz16_3⟩ := blk_quad BK102.out; obtain ⟨hfz16_0, hfz16_1, hfz16_2, hfz16_3⟩ := blk_quad_free BK102.out; have hnb17 := NB103_104.out; have hnc17 := NB104_103.out; obtain ⟨hcz18_0, hcz18_1, hcz18_2, hcz18_3⟩ := blk_quad BK103.out; obtain ⟨hfz18_0, hfz18_1, hfz18_2, hfz18_3⟩ := blk_quad_free BK103.out) | ((with_reducible refine gate_dst (N := 16) rfl ?_); refine Kd.R_lit k23 _ 23 ?hg (N := 16) ?hd (xs := ([(⟨a0_0, a0_1, a0_2, a0_3⟩ : S23), (⟨a1_0, a1_1, a1_2, a1_3⟩ : S23), (⟨a2_0, a2_1, a2_2, a2_3⟩ : S23)] : List (S23))) (inner := [.int .i64 a0_0, .int .i64 a0_1, .int .i64 a0_2, .string a0_3, .int .i64 a1_0, .int .i64 a1_1, .int .i64 a1_2, .string a1_3, .int .i64 a2_0, .int .i64 a2_1, .int .i64 a2_2, .string a2_3]) (ok := fun _ => True) (okp := fun _ => True) ?hr ?hp (fun _ hk => hk) trivial (Below.refl _ _) (Nat.le_refl _) (by simp) ?_; (case hd => rfl); (case hg => rfl); (case hr => first | (go_simp; done) | (go_simp; rfl)); (case hp => exact (Reps.c4 (show Kd.M k23 _ _ _ (⟨a0_0, a0_1, a0_2, a0_3⟩ : S23) [.int .i64 a0_0, .int .i64 a0_1, .int .i64 a0_2, .string a0_3] from (k23_mkM _ _ _ (⟨a0_0, a0_1, a0_2, a0_3⟩ : S23) )) (Reps.c4 (show Kd.M k23 _ _ _ (⟨a1_0, a1_1, a1_2, a1_3⟩ : S23) [.int .i64 a1_0, .int .i64 a1_1, .int .i64 a1_2, .string a1_3] from (k23_mkM _ _ _ (⟨a1_0, a1_1, a1_2, a1_3⟩ : S23) )) (Reps.c4 (show Kd.M k23 _ _ _ (⟨a2_0, a2_1, a2_2, a2_3⟩ : S23) [.int .i64 a2_0, .int .i64 a2_1, .int .i64 a2_2, .string a2_3] from (k23_mkM _ _ _ (⟨a2_0, a2_1, a2_2, a2_3⟩ : S23) )) (Reps.none _ _))))); intro v106 w19 ho20 hb hg_ hnew_; clear hg_ hnew_; (first | rw [← Ny105.out] at ho20 | (simp only [Int.reduceToNat] at ho20; rw [← Ny105.out] at ho20)); have n0_ := Aside0.mk (Kd.R_lower (Kd.R_newB (Kd.R_newB (Kd.R_newB (Kd.R_newB ho20 (g := gb101) (o := .cells #[.int .i64 a0_0, .int .i64 a0_1, .int .i64 a0_2, .string a0_3] 23 (0, 0)) (zk BK101.out)) (g := gb102) (o := .cells #[.int .i64 a1_0, .int .i64 a1_1, .int .i64 a1_2, .string a1_3] 23 (0, 0)) (zk BK102.out)) (g := gb103) (o := .cells #[.int .i64 a2_0, .int .i64 a2_1, .int .i64 a2_2, .string a2_3] 23 (0, 0)) (zk BK103.out)) (g := gb104) (o := .cells #[.int .i64 0, .int .i64 0, .int .i64 0, .string (⟨#[]⟩ : ByteArray)] 23 (0, 0)) (zk BK104.out)) (below_size (by repeat (first | (with_reducible first | exact HB.out | apply below_alloc | apply pw_below_drewN | apply below_drew1 | refine below_set ?_ GE101.out | refine below_set ?_ GE102.out | refine below_set ?_ GE103.out | refine below_set ?_ GE104.out) | exact HB.out)))); have n1_ := Aside0.mk (blk_below (zk BK101.out) hb); have n2_ := Aside0.mk (blk_below (zk BK102.out) hb); have n3_ := Aside0.mk (blk_below (zk BK103.out) hb); have n4_ := Aside0.mk (blk_below (zk BK104.out) hb); have n5_ := Aside0.mk (below_step (by repeat (first | (with_reducible first | exact HB.out | apply below_alloc | apply pw_below_drewN | apply below_drew1 | refine below_set ?_ GE101.out | refine below_set ?_ GE102.out | refine below_set ?_ GE103.out | refine below_set ?_ GE104.out) | exact HB.out)) hb); clear BK101; clear BK102; clear BK103; clear BK104; clear HB; have HO107 := n0_; have BK101 := n1_; have BK102 := n2_; have BK103 := n3_; have BK104 := n4_; have HB := n5_; clear n0_ n1_ n2_ n3_ n4_ n5_; clear hb ho20; obtain ⟨Ao21, co21, eo21⟩ := Kd.R_slice HO107.out; subst eo21) | (go_at_call 57; (with_reducible refine (ironbarkref05_stringsT.calls _ _ y105 0 t108 _ ?side1 ?side2 A4.out).mono ?_); (case side1 => repeat (first | exact (Kd.R_reads' HO107.out).2.2 | (with_reducible refine Kd.C_alloc ?_ _) | (with_reducible refine Kd.C_drewN ?_ _) | (with_reducible refine Kd.C_drew ?_))); (case side2 => exact (Kd.R_reads' HO107.out).2.1); rintro e w22 ⟨rfl, hb⟩; have n0_ := Aside0.mk (Kd.R_below (by (with_reducible repeat (first | apply Kd.R_alloc | apply Kd.R_drewN | apply Kd.R_drew)); exact HO107.out) hb); have n1_ := Aside0.mk (blk_below (zk BK101.out) hb); have n2_ := Aside0.mk (blk_below (zk BK102.out) hb); have n3_ := Aside0.mk (blk_below (zk BK103.out) hb); have n4_ := Aside0.mk (blk_below (zk BK104.out) hb); have n5_ := Aside0.mk (below_step (by repeat (first | (with_reducible first | exact HB.out | apply below_alloc | apply pw_below_drewN | apply below_drew1 | refine below_set ?_ GE101.out | refine below_set ?_ GE102.out | refine below_set ?_ GE103.out | refine below_set ?_ GE104.out) | exact HB.out)) hb); clear HO107; clear BK101; clear BK102; clear BK103; clear BK104; clear HB; have HO107 := n0_; have BK101 := n1_; have BK102 := n2_; have BK103 := n3_; have BK104 := n4_; have HB := n5_; clear n0_ n1_ n2_ n3_ n4_ n5_; (try clear hb); (try clear hb2); (try clear hk); (try clear hi)))
    repeat (go_quiet (first | ((with_reducible refine gate_dst (N := 3) rfl ?_); refine box_event ?hg (N := 3) ?hd (cs := #[.int .i64 a0_0, .int .i64 a0_1, .int .i64 a0_2, .string a0_3]) (t := 23) ?hr ?_; (case hd => rfl); (case hg => rfl); (case hr => first | (go_simp; done) | (go_simp; rfl)); intro gb101 hg w6 hbox hb; have n0_ := Aside0.mk (below_step (by repeat (first | (with_reducible first | exact HB.out | apply below_alloc | apply pw_below_drewN | apply below_drew1) | exact HB.out)) hb); have n1_ := Aside0.mk (hbox); have n2_ := Aside0.mk ((by rw [hg]; exact (below_size (by repeat (first | (with_reducible first | exact HB.out | apply below_alloc | apply pw_below_drewN | apply below_drew1) | exact HB.out))) : w.heap.size ≤ gb101)); have n3_ := n2_; clear HB; have HB := n0_; have BK101 := n1_; have GW101 := n2_; have GE101 := n3_; clear n0_ n1_ n2_ n3_; clear hb hbox hg) | ((with_reducible refine gate_dst (N := 4) rfl ?_); refine box_event ?hg (N := 4) ?hd (cs := #[.int .i64 a1_0, .int .i64 a1_1, .int .i64 a1_2, .string a1_3]) (t := 23) ?hr ?_; (case hd => rfl); (case hg => rfl); (case hr => first | (go_simp; done) | (go_simp; rfl)); intro gb102 hg w7 hbox hb; have n0_ := Aside0.mk (blk_below (zk BK101.out) hb); have n1_ := Aside0.mk (below_step (by repeat (first | (with_reducible first | exact HB.out | apply below_alloc | apply pw_below_drewN | apply below_drew1 | refine below_set ?_ GE101.out) | exact HB.out)) hb); have n2_ := Aside0.mk (hbox); have n3_ := Aside0.mk ((by rw [hg]; exact (below_size (by repeat (first | (with_reducible first | exact HB.out | apply below_alloc | apply pw_below_drewN | apply below_drew1 | refine below_set ?_ GE101.out) | exact HB.out))) : w.heap.size ≤ gb102)); have n4_ := n3_; have n5_ := Aside0.mk ((by rw [hg]; exact Nat.ne_of_lt (blk_lt (zk BK101.out)) : gb101 ≠ gb102)); have n6_ := Aside0.mk ((by rw [hg]; exact Nat.ne_of_gt (blk_lt (zk BK101.out)) : gb102 ≠ gb101)); clear BK101; clear HB; have BK101 := n0_; have HB := n1_; have BK102 := n2_; have GW102 := n3_; have GE102 := n4_; have NB101_102 := n5_; have NB102_101 := n6_; clear n0_ n1_ n2_ n3_ n4_ n5_ n6_; clear hb hbox hg) | ((with_reducible refine gate_dst (N := 5) rfl ?_); refine box_event ?hg (N := 5) ?hd (cs := #[.int .i64 a2_0, .int .i64 a2_1, .int .i64 a2_2, .string a2_3]) (t := 23) ?hr ?_; (case hd => rfl); (case hg => rfl); (case hr => first | (go_simp; done) | (go_simp; rfl)); intro gb103 hg w8 hbox hb; have n0_ := Aside0.mk (blk_below (zk BK101.out) hb); have n1_ := Aside0.mk (blk_below (zk BK102.out) hb); have n2_ := Aside0.mk (below_step (by repeat (first | (with_reducible first | exact HB.out | apply below_alloc | apply pw_below_drewN | apply below_drew1 | refine below_set ?_ GE101.out | refine below_set ?_ GE102.out) | exact HB.out)) hb); have n3_ := Aside0.mk (hbox); have n4_ := Aside0.mk ((by rw [hg]; exact (below_size (by repeat (first | (with_reducible first | exact HB.out | apply below_alloc | apply pw_below_drewN | apply below_drew1 | refine below_set ?_ GE101.out | refine below_set ?_ GE102.out) | exact HB.out))) : w.heap.size ≤ gb103)); have n5_ := n4_; have n6_ := Aside0.mk ((by rw [hg]; exact Nat.ne_of_lt (blk_lt (zk BK101.out)) : gb101 ≠ gb103)); have n7_ := Aside0.mk ((by rw [hg]; exact Nat.ne_of_gt (blk_lt (zk BK101.out)) : gb103 ≠ gb101)); have n8_ := Aside0.mk ((by rw [hg]; exact Nat.ne_of_lt (blk_lt (zk BK102.out)) : gb102 ≠ gb103)); have n9_ := Aside0.mk ((by rw [hg]; exact Nat.ne_of_gt (blk_lt (zk BK102.out)) : gb103 ≠ gb102)); clear BK101; clear BK102; clear HB; have BK101 := n0_; have BK102 := n1_; have HB := n2_; have BK103 := n3_; have GW103 := n4_; have GE103 := n5_; have NB101_103 := n6_; have NB103_101 := n7_; have NB102_103 := n8_; have NB103_102 := n9_; clear n0_ n1_ n2_ n3_ n4_ n5_ n6_ n7_ n8_ n9_; clear hb hbox hg) | ((with_reducible refine gate_dst (N := 6) rfl ?_); refine box_event ?hg (N := 6) ?hd (cs := #[.int .i64 0, .int .i64 0, .int .i64 0, .string (⟨#[]⟩ : ByteArray)]) (t := 23) ?hr ?_; (case hd => rfl); (case hg => rfl); (case hr => first | (go_simp; done) | (go_simp; rfl)); intro gb104 hg w9 hbox hb; have n0_ := Aside0.mk (blk_below (zk BK101.out) hb); have n1_ := Aside0.mk (blk_below (zk BK102.out) hb); have n2_ := Aside0.mk (blk_below (zk BK103.out) hb); have n3_ := Aside0.mk (below_step (by repeat (first | (with_reducible first | exact HB.out | apply below_alloc | apply pw_below_drewN | apply below_drew1 | refine below_set ?_ GE101.out | refine below_set ?_ GE102.out | refine below_set ?_ GE103.out) | exact HB.out)) hb); have n4_ := Aside0.mk (hbox); have n5_ := Aside0.mk ((by rw [hg]; exact (below_size (by repeat (first | (with_reducible first | exact HB.out | apply below_alloc | apply pw_below_drewN | apply below_drew1 | refine below_set ?_ GE101.out | refine below_set ?_ GE102.out | refine below_set ?_ GE103.out) | exact HB.out))) : w.heap.size ≤ gb104)); have n6_ := n5_; have n7_ := Aside0.mk ((by rw [hg]; exact Nat.ne_of_lt (blk_lt (zk BK101.out)) : gb101 ≠ gb104)); have n8_ := Aside0.mk ((by rw [hg]; exact Nat.ne_of_gt (blk_lt (zk BK101.out)) : gb104 ≠ gb101)); have n9_ := Aside0.mk ((by rw [hg]; exact Nat.ne_of_lt (blk_lt (zk BK102.out)) : gb102 ≠ gb104)); have n10_ := Aside0.mk ((by rw [hg]; exact Nat.ne_of_gt (blk_lt (zk BK102.out)) : gb104 ≠ gb102)); have n11_ := Aside0.mk ((by rw [hg]; exact Nat.ne_of_lt (blk_lt (zk BK103.out)) : gb103 ≠ gb104)); have n12_ := Aside0.mk ((by rw [hg]; exact Nat.ne_of_gt (blk_lt (zk BK103.out)) : gb104 ≠ gb103)); clear BK101; clear BK102; clear BK103; clear HB; have BK101 := n0_; have BK102 := n1_; have BK103 := n2_; have HB := n3_; have BK104 := n4_; have GW104 := n5_; have GE104 := n6_; have NB101_104 := n7_; have NB104_101 := n8_; have NB102_104 := n9_; have NB104_102 := n10_; have NB103_104 := n11_; have NB104_103 := n12_; clear n0_ n1_ n2_ n3_ n4_ n5_ n6_ n7_ n8_ n9_ n10_ n11_ n12_; clear hb hbox hg; have hnb10 := NB101_102.out; have hnc10 := NB102_101.out; have hnb11 := NB101_103.out; have hnc11 := NB103_101.out; have hnb12 := NB101_104.out; have hnc12 := NB104_101.out; obtain ⟨hcz13_0, hcz13_1, hcz13_2, hcz13_3⟩ := blk_quad BK101.out; obtain ⟨hfz13_0, hfz13_1, hfz13_2, hfz13_3⟩ := blk_quad_free BK101.out; have hnb14 := NB102_103.out; have hnc14 := NB103_102.out; have hnb15 := NB102_104.out; have hnc15 := NB104_102.out; obtain ⟨hcz16_0, hcz16_1, hcz16_2, hcz16_3⟩ := blk_quad BK102.out; obtain ⟨hfz16_0, hfz16_1, hfz16_2, hfz16_3⟩ := blk_quad_free BK102.out; have hnb17 := NB103_104.out; have hnc17 := NB104_103.out; obtain ⟨hcz18_0, hcz18_1, hcz18_2, hcz18_3⟩ := blk_quad BK103.out; obtain ⟨hfz18_0, hfz18_1, hfz18_2, hfz18_3⟩ := blk_quad_free BK103.out) | ((with_reducible refine gate_dst (N := 16) rfl ?_); refine Kd.R_lit k23 _ 23 ?hg (N := 16) ?hd (xs := ([(⟨a0_0, a0_1, a0_2, a0_3⟩ : S23), (⟨a1_0, a1_1, a1_2, a1_3⟩ : S23), (⟨a2_0, a2_1, a2_2, a2_3⟩ : S23)] : List (S23))) (inner := [.int .i64 a0_0, .int .i64 a0_1, .int .i64 a0_2, .string a0_3, .int .i64 a1_0, .int .i64 a1_1, .int .i64 a1_2, .string a1_3, .int .i64 a2_0, .int .i64 a2_1, .int .i64 a2_2, .string a2_3]) (ok := fun _ => True) (okp := fun _ => True) ?hr ?hp (fun _ hk => hk) trivial (Below.refl _ _) (Nat.le_refl _) (by simp) ?_; (case hd => rfl); (case hg => rfl); (case hr => first | (go_simp; done) | (go_simp; rfl)); (case hp => exact (Reps.c4 (show Kd.M k23 _ _ _ (⟨a0_0, a0_1, a0_2, a0_3⟩ : S23) [.int .i64 a0_0, .int .i64 a0_1, .int .i64 a0_2, .string a0_3] from (k23_mkM _ _ _ (⟨a0_0, a0_1, a0_2, a0_3⟩ : S23) )) (Reps.c4 (show Kd.M k23 _ _ _ (⟨a1_0, a1_1, a1_2, a1_3⟩ : S23) [.int .i64 a1_0, .int .i64 a1_1, .int .i64 a1_2, .string a1_3] from (k23_mkM _ _ _ (⟨a1_0, a1_1, a1_2, a1_3⟩ : S23) )) (Reps.c4 (show Kd.M k23 _ _ _ (⟨a2_0, a2_1, a2_2, a2_3⟩ : S23) [.int .i64 a2_0, .int .i64 a2_1, .int .i64 a2_2, .string a2_3] from (k23_mkM _ _ _ (⟨a2_0, a2_1, a2_2, a2_3⟩ : S23) )) (Reps.none _ _))))); intro v106 w19 ho20 hb hg_ hnew_; clear hg_ hnew_; (first | rw [← Ny105.out] at ho20 | (simp only [Int.reduceToNat] at ho20; rw [← Ny105.out] at ho20)); have n0_ := Aside0.mk (Kd.R_lower (Kd.R_newB (Kd.R_newB (Kd.R_newB (Kd.R_newB ho20 (g := gb101) (o := .cells #[.int .i64 a0_0, .int .i64 a0_1, .int .i64 a0_2, .string a0_3] 23 (0, 0)) (zk BK101.out)) (g := gb102) (o := .cells #[.int .i64 a1_0, .int .i64 a1_1, .int .i64 a1_2, .string a1_3] 23 (0, 0)) (zk BK102.out)) (g := gb103) (o := .cells #[.int .i64 a2_0, .int .i64 a2_1, .int .i64 a2_2, .string a2_3] 23 (0, 0)) (zk BK103.out)) (g := gb104) (o := .cells #[.int .i64 0, .int .i64 0, .int .i64 0, .string (⟨#[]⟩ : ByteArray)] 23 (0, 0)) (zk BK104.out)) (below_size (by repeat (first | (with_reducible first | exact HB.out | apply below_alloc | apply pw_below_drewN | apply below_drew1 | refine below_set ?_ GE101.out | refine below_set ?_ GE102.out | refine below_set ?_ GE103.out | refine below_set ?_ GE104.out) | exact HB.out)))); have n1_ := Aside0.mk (blk_below (zk BK101.out) hb); have n2_ := Aside0.mk (blk_below (zk BK102.out) hb); have n3_ := Aside0.mk (blk_below (zk BK103.out) hb); have n4_ := Aside0.mk (blk_below (zk BK104.out) hb); have n5_ := Aside0.mk (below_step (by repeat (first | (with_reducible first | exact HB.out | apply below_alloc | apply pw_below_drewN | apply below_drew1 | refine below_set ?_ GE101.out | refine below_set ?_ GE102.out | refine below_set ?_ GE103.out | refine below_set ?_ GE104.out) | exact HB.out)) hb); clear BK101; clear BK102; clear BK103; clear BK104; clear HB; have HO107 := n0_; have BK101 := n1_; have BK102 := n2_; have BK103 := n3_; have BK104 := n4_; have HB := n5_; clear n0_ n1_ n2_ n3_ n4_ n5_; clear hb ho20; obtain ⟨Ao21, co21, eo21⟩ := Kd.R_slice HO107.out; subst eo21) | (go_at_call 57; (with_reducible refine (ironbarkref05_stringsT.calls _ _ y105 0 t108 _ ?side1 ?side2 A4.out).mono ?_); (case side1 => repeat (first | exact (Kd.R_reads' HO107.out).2.2 | (with_reducible refine Kd.C_alloc ?_ _) | (with_reducible refine Kd.C_drewN ?_ _) | (with_reducible refine Kd.C_drew ?_))); (case side2 => exact (Kd.R_reads' HO107.out).2.1); rintro e w22 ⟨rfl, hb⟩; have n0_ := Aside0.mk (Kd.R_below (by (with_reducible repeat (first | apply Kd.R_alloc | apply Kd.R_drewN | apply Kd.R_drew)); exact HO107.out) hb); have n1_ := Aside0.mk (blk_below (zk BK101.out) hb); have n2_ := Aside0.mk (blk_below (zk BK102.out) hb); have n3_ := Aside0.mk (blk_below (zk BK103.out) hb); have n4_ := Aside0.mk (blk_below (zk BK104.out) hb); have n5_ := Aside0.mk (below_step (by repeat (first | (with_reducible first | exact HB.out | apply below_alloc | apply pw_below_drewN | apply below_drew1 | refine below_set ?_ GE101.out | refine below_set ?_ GE102.out | refine below_set ?_ GE103.out | refine below_set ?_ GE104.out) | exact HB.out)) hb); clear HO107; clear BK101; clear BK102; clear BK103; clear BK104; clear HB; have HO107 := n0_; have BK101 := n1_; have BK102 := n2_; have BK103 := n3_; have BK104 := n4_; have HB := n5_; clear n0_ n1_ n2_ n3_ n4_ n5_; (try clear hb); (try clear hb2); (try clear hk); (try clear hi))); try go_wp2_with (first | ((with_reducible refine gate_dst (N := 3) rfl ?_); refine box_event ?hg (N := 3) ?hd (cs := #[.int .i64 a0_0, .int .i64 a0_1, .int .i64 a0_2, .string a0_3]) (t := 23) ?hr ?_; (case hd => rfl); (case hg => rfl); (case hr => first | (go_simp; done) | (go_simp; rfl)); intro gb101 hg w6 hbox hb; have n0_ := Aside0.mk (below_step (by repeat (first | (with_reducible first | exact HB.out | apply below_alloc | apply pw_below_drewN | apply below_drew1) | exact HB.out)) hb); have n1_ := Aside0.mk (hbox); have n2_ := Aside0.mk ((by rw [hg]; exact (below_size (by repeat (first | (with_reducible first | exact HB.out | apply below_alloc | apply pw_below_drewN | apply below_drew1) | exact HB.out))) : w.heap.size ≤ gb101)); have n3_ := n2_; clear HB; have HB := n0_; have BK101 := n1_; have GW101 := n2_; have GE101 := n3_; clear n0_ n1_ n2_ n3_; clear hb hbox hg) | ((with_reducible refine gate_dst (N := 4) rfl ?_); refine box_event ?hg (N := 4) ?hd (cs := #[.int .i64 a1_0, .int .i64 a1_1, .int .i64 a1_2, .string a1_3]) (t := 23) ?hr ?_; (case hd => rfl); (case hg => rfl); (case hr => first | (go_simp; done) | (go_simp; rfl)); intro gb102 hg w7 hbox hb; have n0_ := Aside0.mk (blk_below (zk BK101.out) hb); have n1_ := Aside0.mk (below_step (by repeat (first | (with_reducible first | exact HB.out | apply below_alloc | apply pw_below_drewN | apply below_drew1 | refine below_set ?_ GE101.out) | exact HB.out)) hb); have n2_ := Aside0.mk (hbox); have n3_ := Aside0.mk ((by rw [hg]; exact (below_size (by repeat (first | (with_reducible first | exact HB.out | apply below_alloc | apply pw_below_drewN | apply below_drew1 | refine below_set ?_ GE101.out) | exact HB.out))) : w.heap.size ≤ gb102)); have n4_ := n3_; have n5_ := Aside0.mk ((by rw [hg]; exact Nat.ne_of_lt (blk_lt (zk BK101.out)) : gb101 ≠ gb102)); have n6_ := Aside0.mk ((by rw [hg]; exact Nat.ne_of_gt (blk_lt (zk BK101.out)) : gb102 ≠ gb101)); clear BK101; clear HB; have BK101 := n0_; have HB := n1_; have BK102 := n2_; have GW102 := n3_; have GE102 := n4_; have NB101_102 := n5_; have NB102_101 := n6_; clear n0_ n1_ n2_ n3_ n4_ n5_ n6_; clear hb hbox hg) | ((with_reducible refine gate_dst (N := 5) rfl ?_); refine box_event ?hg (N := 5) ?hd (cs := #[.int .i64 a2_0, .int .i64 a2_1, .int .i64 a2_2, .string a2_3]) (t := 23) ?hr ?_; (case hd => rfl); (case hg => rfl); (case hr => first | (go_simp; done) | (go_simp; rfl)); intro gb103 hg w8 hbox hb; have n0_ := Aside0.mk (blk_below (zk BK101.out) hb); have n1_ := Aside0.mk (blk_below (zk BK102.out) hb); have n2_ := Aside0.mk (below_step (by repeat (first | (with_reducible first | exact HB.out | apply below_alloc | apply pw_below_drewN | apply below_drew1 | refine below_set ?_ GE101.out | refine below_set ?_ GE102.out) | exact HB.out)) hb); have n3_ := Aside0.mk (hbox); have n4_ := Aside0.mk ((by rw [hg]; exact (below_size (by repeat (first | (with_reducible first | exact HB.out | apply below_alloc | apply pw_below_drewN | apply below_drew1 | refine below_set ?_ GE101.out | refine below_set ?_ GE102.out) | exact HB.out))) : w.heap.size ≤ gb103)); have n5_ := n4_; have n6_ := Aside0.mk ((by rw [hg]; exact Nat.ne_of_lt (blk_lt (zk BK101.out)) : gb101 ≠ gb103)); have n7_ := Aside0.mk ((by rw [hg]; exact Nat.ne_of_gt (blk_lt (zk BK101.out)) : gb103 ≠ gb101)); have n8_ := Aside0.mk ((by rw [hg]; exact Nat.ne_of_lt (blk_lt (zk BK102.out)) : gb102 ≠ gb103)); have n9_ := Aside0.mk ((by rw [hg]; exact Nat.ne_of_gt (blk_lt (zk BK102.out)) : gb103 ≠ gb102)); clear BK101; clear BK102; clear HB; have BK101 := n0_; have BK102 := n1_; have HB := n2_; have BK103 := n3_; have GW103 := n4_; have GE103 := n5_; have NB101_103 := n6_; have NB103_101 := n7_; have NB102_103 := n8_; have NB103_102 := n9_; clear n0_ n1_ n2_ n3_ n4_ n5_ n6_ n7_ n8_ n9_; clear hb hbox hg) | ((with_reducible refine gate_dst (N := 6) rfl ?_); refine box_event ?hg (N := 6) ?hd (cs := #[.int .i64 0, .int .i64 0, .int .i64 0, .string (⟨#[]⟩ : ByteArray)]) (t := 23) ?hr ?_; (case hd => rfl); (case hg => rfl); (case hr => first | (go_simp; done) | (go_simp; rfl)); intro gb104 hg w9 hbox hb; have n0_ := Aside0.mk (blk_below (zk BK101.out) hb); have n1_ := Aside0.mk (blk_below (zk BK102.out) hb); have n2_ := Aside0.mk (blk_below (zk BK103.out) hb); have n3_ := Aside0.mk (below_step (by repeat (first | (with_reducible first | exact HB.out | apply below_alloc | apply pw_below_drewN | apply below_drew1 | refine below_set ?_ GE101.out | refine below_set ?_ GE102.out | refine below_set ?_ GE103.out) | exact HB.out)) hb); have n4_ := Aside0.mk (hbox); have n5_ := Aside0.mk ((by rw [hg]; exact (below_size (by repeat (first | (with_reducible first | exact HB.out | apply below_alloc | apply pw_below_drewN | apply below_drew1 | refine below_set ?_ GE101.out | refine below_set ?_ GE102.out | refine below_set ?_ GE103.out) | exact HB.out))) : w.heap.size ≤ gb104)); have n6_ := n5_; have n7_ := Aside0.mk ((by rw [hg]; exact Nat.ne_of_lt (blk_lt (zk BK101.out)) : gb101 ≠ gb104)); have n8_ := Aside0.mk ((by rw [hg]; exact Nat.ne_of_gt (blk_lt (zk BK101.out)) : gb104 ≠ gb101)); have n9_ := Aside0.mk ((by rw [hg]; exact Nat.ne_of_lt (blk_lt (zk BK102.out)) : gb102 ≠ gb104)); have n10_ := Aside0.mk ((by rw [hg]; exact Nat.ne_of_gt (blk_lt (zk BK102.out)) : gb104 ≠ gb102)); have n11_ := Aside0.mk ((by rw [hg]; exact Nat.ne_of_lt (blk_lt (zk BK103.out)) : gb103 ≠ gb104)); have n12_ := Aside0.mk ((by rw [hg]; exact Nat.ne_of_gt (blk_lt (zk BK103.out)) : gb104 ≠ gb103)); clear BK101; clear BK102; clear BK103; clear HB; have BK101 := n0_; have BK102 := n1_; have BK103 := n2_; have HB := n3_; have BK104 := n4_; have GW104 := n5_; have GE104 := n6_; have NB101_104 := n7_; have NB104_101 := n8_; have NB102_104 := n9_; have NB104_102 := n10_; have NB103_104 := n11_; have NB104_103 := n12_; clear n0_ n1_ n2_ n3_ n4_ n5_ n6_ n7_ n8_ n9_ n10_ n11_ n12_; clear hb hbox hg; have hnb10 := NB101_102.out; have hnc10 := NB102_101.out; have hnb11 := NB101_103.out; have hnc11 := NB103_101.out; have hnb12 := NB101_104.out; have hnc12 := NB104_101.out; obtain ⟨hcz13_0, hcz13_1, hcz13_2, hcz13_3⟩ := blk_quad BK101.out; obtain ⟨hfz13_0, hfz13_1, hfz13_2, hfz13_3⟩ := blk_quad_free BK101.out; have hnb14 := NB102_103.out; have hnc14 := NB103_102.out; have hnb15 := NB102_104.out; have hnc15 := NB104_102.out; obtain ⟨hcz16_0, hcz16_1, hcz16_2, hcz16_3⟩ := blk_quad BK102.out; obtain ⟨hfz16_0, hfz16_1, hfz16_2, hfz16_3⟩ := blk_quad_free BK102.out; have hnb17 := NB103_104.out; have hnc17 := NB104_103.out; obtain ⟨hcz18_0, hcz18_1, hcz18_2, hcz18_3⟩ := blk_quad BK103.out; obtain ⟨hfz18_0, hfz18_1, hfz18_2, hfz18_3⟩ := blk_quad_free BK103.out) | ((with_reducible refine gate_dst (N := 16) rfl ?_); refine Kd.R_lit k23 _ 23 ?hg (N := 16) ?hd (xs := ([(⟨a0_0, a0_1, a0_2, a0_3⟩ : S23), (⟨a1_0, a1_1, a1_2, a1_3⟩ : S23), (⟨a2_0, a2_1, a2_2, a2_3⟩ : S23)] : List (S23))) (inner := [.int .i64 a0_0, .int .i64 a0_1, .int .i64 a0_2, .string a0_3, .int .i64 a1_0, .int .i64 a1_1, .int .i64 a1_2, .string a1_3, .int .i64 a2_0, .int .i64 a2_1, .int .i64 a2_2, .string a2_3]) (ok := fun _ => True) (okp := fun _ => True) ?hr ?hp (fun _ hk => hk) trivial (Below.refl _ _) (Nat.le_refl _) (by simp) ?_; (case hd => rfl); (case hg => rfl); (case hr => first | (go_simp; done) | (go_simp; rfl)); (case hp => exact (Reps.c4 (show Kd.M k23 _ _ _ (⟨a0_0, a0_1, a0_2, a0_3⟩ : S23) [.int .i64 a0_0, .int .i64 a0_1, .int .i64 a0_2, .string a0_3] from (k23_mkM _ _ _ (⟨a0_0, a0_1, a0_2, a0_3⟩ : S23) )) (Reps.c4 (show Kd.M k23 _ _ _ (⟨a1_0, a1_1, a1_2, a1_3⟩ : S23) [.int .i64 a1_0, .int .i64 a1_1, .int .i64 a1_2, .string a1_3] from (k23_mkM _ _ _ (⟨a1_0, a1_1, a1_2, a1_3⟩ : S23) )) (Reps.c4 (show Kd.M k23 _ _ _ (⟨a2_0, a2_1, a2_2, a2_3⟩ : S23) [.int .i64 a2_0, .int .i64 a2_1, .int .i64 a2_2, .string a2_3] from (k23_mkM _ _ _ (⟨a2_0, a2_1, a2_2, a2_3⟩ : S23) )) (Reps.none _ _))))); intro v106 w19 ho20 hb hg_ hnew_; clear hg_ hnew_; (first | rw [← Ny105.out] at ho20 | (simp only [Int.reduceToNat] at ho20; rw [← Ny105.out] at ho20)); have n0_ := Aside0.mk (Kd.R_lower (Kd.R_newB (Kd.R_newB (Kd.R_newB (Kd.R_newB ho20 (g := gb101) (o := .cells #[.int .i64 a0_0, .int .i64 a0_1, .int .i64 a0_2, .string a0_3] 23 (0, 0)) (zk BK101.out)) (g := gb102) (o := .cells #[.int .i64 a1_0, .int .i64 a1_1, .int .i64 a1_2, .string a1_3] 23 (0, 0)) (zk BK102.out)) (g := gb103) (o := .cells #[.int .i64 a2_0, .int .i64 a2_1, .int .i64 a2_2, .string a2_3] 23 (0, 0)) (zk BK103.out)) (g := gb104) (o := .cells #[.int .i64 0, .int .i64 0, .int .i64 0, .string (⟨#[]⟩ : ByteArray)] 23 (0, 0)) (zk BK104.out)) (below_size (by repeat (first | (with_reducible first | exact HB.out | apply below_alloc | apply pw_below_drewN | apply below_drew1 | refine below_set ?_ GE101.out | refine below_set ?_ GE102.out | refine below_set ?_ GE103.out | refine below_set ?_ GE104.out) | exact HB.out)))); have n1_ := Aside0.mk (blk_below (zk BK101.out) hb); have n2_ := Aside0.mk (blk_below (zk BK102.out) hb); have n3_ := Aside0.mk (blk_below (zk BK103.out) hb); have n4_ := Aside0.mk (blk_below (zk BK104.out) hb); have n5_ := Aside0.mk (below_step (by repeat (first | (with_reducible first | exact HB.out | apply below_alloc | apply pw_below_drewN | apply below_drew1 | refine below_set ?_ GE101.out | refine below_set ?_ GE102.out | refine below_set ?_ GE103.out | refine below_set ?_ GE104.out) | exact HB.out)) hb); clear BK101; clear BK102; clear BK103; clear BK104; clear HB; have HO107 := n0_; have BK101 := n1_; have BK102 := n2_; have BK103 := n3_; have BK104 := n4_; have HB := n5_; clear n0_ n1_ n2_ n3_ n4_ n5_; clear hb ho20; obtain ⟨Ao21, co21, eo21⟩ := Kd.R_slice HO107.out; subst eo21) | (go_at_call 57; (with_reducible refine (ironbarkref05_stringsT.calls _ _ y105 0 t108 _ ?side1 ?side2 A4.out).mono ?_); (case side1 => repeat (first | exact (Kd.R_reads' HO107.out).2.2 | (with_reducible refine Kd.C_alloc ?_ _) | (with_reducible refine Kd.C_drewN ?_ _) | (with_reducible refine Kd.C_drew ?_))); (case side2 => exact (Kd.R_reads' HO107.out).2.1); rintro e w22 ⟨rfl, hb⟩; have n0_ := Aside0.mk (Kd.R_below (by (with_reducible repeat (first | apply Kd.R_alloc | apply Kd.R_drewN | apply Kd.R_drew)); exact HO107.out) hb); have n1_ := Aside0.mk (blk_below (zk BK101.out) hb); have n2_ := Aside0.mk (blk_below (zk BK102.out) hb); have n3_ := Aside0.mk (blk_below (zk BK103.out) hb); have n4_ := Aside0.mk (blk_below (zk BK104.out) hb); have n5_ := Aside0.mk (below_step (by repeat (first | (with_reducible first | exact HB.out | apply below_alloc | apply pw_below_drewN | apply below_drew1 | refine below_set ?_ GE101.out | refine below_set ?_ GE102.out | refine below_set ?_ GE103.out | refine below_set ?_ GE104.out) | exact HB.out)) hb); clear HO107; clear BK101; clear BK102; clear BK103; clear BK104; clear HB; have HO107 := n0_; have BK101 := n1_; have BK102 := n2_; have BK103 := n3_; have BK104 := n4_; have HB := n5_; clear n0_ n1_ n2_ n3_ n4_ n5_; (try clear hb); (try clear hb2); (try clear hk); (try clear hi))))
    go_loopg [9, 10] k (fun kq v9 v10 w' => ∃ (x9_1 : ByteArray) (x10_1 : Int), v9 = .string x9_1 ∧ v10 = .int .i64 x10_1 ∧ Aside0 (ironbarkref05_Translate.l0 kq x9_1 x10_1 a0_0 a0_1 a0_2 a0_3 a1_0 a1_1 a1_2 a1_3 a2_0 a2_1 a2_2 a2_3 = some (r1, r2, r3, r4, r5)) ∧ Aside0 (kq ≤ k) ∧ Aside0 (w'.heap[gb101]? = some (.cells #[.int .i64 a0_0, .int .i64 a0_1, .int .i64 a0_2, .string a0_3] 23 (0, 0))) ∧ Aside0 (w'.heap[gb102]? = some (.cells #[.int .i64 a1_0, .int .i64 a1_1, .int .i64 a1_2, .string a1_3] 23 (0, 0))) ∧ Aside0 (w'.heap[gb103]? = some (.cells #[.int .i64 a2_0, .int .i64 a2_1, .int .i64 a2_2, .string a2_3] 23 (0, 0))) ∧ Aside0 (w'.heap[gb104]? = some (.cells #[.int .i64 0, .int .i64 0, .int .i64 0, .string (⟨#[]⟩ : ByteArray)] 23 (0, 0))) ∧ Aside0 (Below w.heap.size w w'))
    case atStart => exact ⟨((⟨#[]⟩ : ByteArray)), (0), (by first | rfl | (simp; done) | (generalize ByteArray.toList _ = l_; cases l_ <;> rfl) | (simp [*]; done)), (by first | rfl | (simp; done) | (generalize ByteArray.toList _ = l_; cases l_ <;> rfl) | (simp [*]; done)), H', ⟨Nat.le_refl _⟩, ⟨zk BK101.out⟩, ⟨zk BK102.out⟩, ⟨zk BK103.out⟩, ⟨zk BK104.out⟩, ⟨by repeat (first | (with_reducible first | exact HB.out | apply below_alloc | apply pw_below_drewN | apply below_drew1 | refine below_set ?_ GE101.out | refine below_set ?_ GE102.out | refine below_set ?_ GE103.out | refine below_set ?_ GE104.out) | exact HB.out)⟩⟩
    case round =>
      clear H'
      try clear c1
      try clear p2
      try clear c4
      try clear c5
      try clear c5b0
      try clear c5b1
      try clear c10
      try clear c11
      try clear c12
      try clear c14
      try clear c15
      try clear c17
      try clear hcz13_0 hcz13_1 hcz13_2 hcz13_3
      try clear hcz16_0 hcz16_1 hcz16_2 hcz16_3
      try clear hcz18_0 hcz18_1 hcz18_2 hcz18_3
      try clear hfz13_0 hfz13_1 hfz13_2 hfz13_3
      try clear hfz16_0 hfz16_1 hfz16_2 hfz16_3
      try clear hfz18_0 hfz18_1 hfz18_2 hfz18_3
      obtain ⟨x9_1, x10_1, rfl, rfl, HA, HK1, BK101, BK102, BK103, BK104, HB⟩ := hrel
      cases gk with
      | zero => exact absurd HA.out (by simp [ironbarkref05_Translate.l0])
      | succ k1 =>
        have H := HA.out
        clear HA
        simp only [ironbarkref05_Translate.l0] at H
        by_cases c23 : x10_1 < (a0_3.size : Int)
        · rw [if_pos c23] at H
          have c23b0 : decide (x10_1 < (a0_3.size : Int)) = true := decide_eq_true c23
          clear c23
          by_cases c24 : 0 ≤ x10_1
          · rw [if_pos c24] at H
            have c24b0 := eq_true c24
            have c24b1 : decide (0 ≤ x10_1) = true := decide_eq_true c24
            clear c24
            by_cases c25 : x10_1 ≤ (wrap64 (x10_1 + 1))
            · rw [if_pos c25] at H
              have c25b0 := eq_true c25
              have c25b1 : decide (x10_1 ≤ (wrap64 (x10_1 + 1))) = true := decide_eq_true c25
              by_cases c26 : (wrap64 (x10_1 + 1)) ≤ (a0_3.size : Int)
              · rw [if_pos c26] at H
                have c26b0 := eq_true c26
                have c26b1 : decide ((wrap64 (x10_1 + 1)) ≤ (a0_3.size : Int)) = true := decide_eq_true c26
                replace H := Option.bind_eq_some_iff.mp H
                obtain ⟨t113, A280, H⟩ := H
                replace H : (if t113 > 0 then ((ironbarkref05_Filler.f a0_0).bind fun t114 => (if t113 ≤ (a1_3.size : Int) then (if 0 ≤ (wrap64 (t113 - 1)) then (if (wrap64 (t113 - 1)) ≤ t113 then (if x9_1.size + (a1_3.extract ((wrap64 (t113 - 1)) : Int).toNat (t113 : Int).toNat).size ≤ 9223372036854775807 then (ironbarkref05_Translate.l0 k1 (x9_1 ++ (a1_3.extract ((wrap64 (t113 - 1)) : Int).toNat (t113 : Int).toNat)) (wrap64 (x10_1 + 1)) a0_0 a0_1 a0_2 a0_3 a1_0 a1_1 a1_2 a1_3 a2_0 a2_1 a2_2 a2_3) else (none)) else (none)) else (none)) else (if x9_1.size + t114.size ≤ 9223372036854775807 then (ironbarkref05_Translate.l0 k1 (x9_1 ++ t114) (wrap64 (x10_1 + 1)) a0_0 a0_1 a0_2 a0_3 a1_0 a1_1 a1_2 a1_3 a2_0 a2_1 a2_2 a2_3) else (none)))) else (if x9_1.size + (a0_3.extract (x10_1 : Int).toNat ((wrap64 (x10_1 + 1)) : Int).toNat).size ≤ 9223372036854775807 then (ironbarkref05_Translate.l0 k1 (x9_1 ++ (a0_3.extract (x10_1 : Int).toNat ((wrap64 (x10_1 + 1)) : Int).toNat)) (wrap64 (x10_1 + 1)) a0_0 a0_1 a0_2 a0_3 a1_0 a1_1 a1_2 a1_3 a2_0 a2_1 a2_2 a2_3) else (none))) = some (r1, r2, r3, r4, r5) := H
                have A28 := Aside0.mk A280
                clear A280
                by_cases c29 : t113 > 0
                · rw [if_pos c29] at H
                  have c29b0 : decide (0 < t113) = true := decide_eq_true c29
                  clear c29
                  replace H := Option.bind_eq_some_iff.mp H
                  obtain ⟨t114, A300, H⟩ := H
                  replace H : (if t113 ≤ (a1_3.size : Int) then (if 0 ≤ (wrap64 (t113 - 1)) then (if (wrap64 (t113 - 1)) ≤ t113 then (if x9_1.size + (a1_3.extract ((wrap64 (t113 - 1)) : Int).toNat (t113 : Int).toNat).size ≤ 9223372036854775807 then (ironbarkref05_Translate.l0 k1 (x9_1 ++ (a1_3.extract ((wrap64 (t113 - 1)) : Int).toNat (t113 : Int).toNat)) (wrap64 (x10_1 + 1)) a0_0 a0_1 a0_2 a0_3 a1_0 a1_1 a1_2 a1_3 a2_0 a2_1 a2_2 a2_3) else (none)) else (none)) else (none)) else (if x9_1.size + t114.size ≤ 9223372036854775807 then (ironbarkref05_Translate.l0 k1 (x9_1 ++ t114) (wrap64 (x10_1 + 1)) a0_0 a0_1 a0_2 a0_3 a1_0 a1_1 a1_2 a1_3 a2_0 a2_1 a2_2 a2_3) else (none))) = some (r1, r2, r3, r4, r5) := H
                  have A30 := Aside0.mk A300
                  clear A300
                  by_cases c31 : t113 ≤ (a1_3.size : Int)
                  · rw [if_pos c31] at H
                    have c31b0 : decide (t113 ≤ (a1_3.size : Int)) = true := decide_eq_true c31
                    clear c31
                    obtain ⟨ji32, hji32⟩ : ∃ j_ : Int, (wrap64 (t113 - 1)) = j_ := ⟨_, rfl⟩
                    replace H : (if 0 ≤ (ji32) then (if (ji32) ≤ t113 then (if x9_1.size + (a1_3.extract ((ji32) : Int).toNat (t113 : Int).toNat).size ≤ 9223372036854775807 then (ironbarkref05_Translate.l0 k1 (x9_1 ++ (a1_3.extract ((ji32) : Int).toNat (t113 : Int).toNat)) (wrap64 (x10_1 + 1)) a0_0 a0_1 a0_2 a0_3 a1_0 a1_1 a1_2 a1_3 a2_0 a2_1 a2_2 a2_3) else (none)) else (none)) else (none)) = some (r1, r2, r3, r4, r5) := by first | (rw [hji32] at H; exact H) | (simp only [hji32] at H ⊢; exact H)
                    (try rw [hji32] at A28)
                    (try rw [hji32] at A30)
                    have hji32w : (IntKind.i64.wrap (t113 - 1)) = ji32 := (i64_w _).trans hji32
                    by_cases c33 : 0 ≤ (ji32)
                    · rw [if_pos c33] at H
                      have c33b0 := eq_true c33
                      have c33b1 : decide (0 ≤ (ji32)) = true := decide_eq_true c33
                      clear c33
                      by_cases c34 : (ji32) ≤ t113
                      · rw [if_pos c34] at H
                        have c34b0 := eq_true c34
                        have c34b1 : decide ((ji32) ≤ t113) = true := decide_eq_true c34
                        clear c34
                        have c35b0 := eq_true (of_decide_eq_true (by first | (with_reducible assumption) | assumption) : t113 ≤ (a1_3.size : Int))
                        by_cases c36 : x9_1.size + (a1_3.extract ((ji32) : Int).toNat (t113 : Int).toNat).size ≤ 9223372036854775807
                        · rw [if_pos c36] at H
                          have c36b0 := eq_true c36
                          have c36b1 : decide (x9_1.size + (a1_3.extract ((ji32) : Int).toNat (t113 : Int).toNat).size ≤ 9223372036854775807) = true := decide_eq_true c36
                          try have c36b2 : (9223372036854775807 < x9_1.size + (a1_3.extract ((ji32) : Int).toNat (t113 : Int).toNat).size) = False := eq_false (Nat.not_lt.2 c36)
                          have H' := Aside0.mk H
                          clear H
                          have hnb37 := NB101_102.out
                          have hnc37 := NB102_101.out
                          have hnb38 := NB101_103.out
                          have hnc38 := NB103_101.out
                          have hnb39 := NB101_104.out
                          have hnc39 := NB104_101.out
                          obtain ⟨hcz40_0, hcz40_1, hcz40_2, hcz40_3⟩ := blk_quad BK101.out
                          obtain ⟨hfz40_0, hfz40_1, hfz40_2, hfz40_3⟩ := blk_quad_free BK101.out
                          have hnb41 := NB103_102.out
                          have hnc41 := NB102_103.out
                          have hnb42 := NB103_104.out
                          have hnc42 := NB104_103.out
                          obtain ⟨hcz43_0, hcz43_1, hcz43_2, hcz43_3⟩ := blk_quad BK103.out
                          obtain ⟨hfz43_0, hfz43_1, hfz43_2, hfz43_3⟩ := blk_quad_free BK103.out
                          have p27 : 0 ≤ (x10_1 : Int) := of_decide_eq_true (by first | (with_reducible assumption) | assumption)
                          have q27 : x10_1 < (a0_3.size : Int) := of_decide_eq_true (by first | (with_reducible assumption) | assumption)
                          have hx27 := bt_at a0_3 x10_1
                          replace p27 := eq_true p27
                          replace q27 := eq_true q27
                          go_wp2_with (first | (go_at_call 69; (with_reducible refine (ironbarkref05_inT.calls a2_3 (bt a0_3 x10_1) t113 _ A28.out).mono ?_); rintro e w' ⟨rfl, ⟨nd, rfl⟩⟩; (try first | exact ⟨rfl, _, World.drewN_drewN _ _ _⟩ | exact ⟨rfl, _, Eq.trans (World.drewN_drewN _ _ _) (congrArg (World.drewN _) (Nat.add_assoc _ _ _))⟩)) | (go_at_call 81; (with_reducible refine (ironbarkref05_Filler.calls a0_0 t114 _ A30.out).mono ?_); rintro e w' ⟨rfl, ⟨nd, rfl⟩⟩; (try first | exact ⟨rfl, _, World.drewN_drewN _ _ _⟩ | exact ⟨rfl, _, Eq.trans (World.drewN_drewN _ _ _) (congrArg (World.drewN _) (Nat.add_assoc _ _ _))⟩); have hnb44 := NB102_104.out; have hnc44 := NB104_102.out; obtain ⟨hcz45_0, hcz45_1, hcz45_2, hcz45_3⟩ := blk_quad BK102.out; obtain ⟨hfz45_0, hfz45_1, hfz45_2, hfz45_3⟩ := blk_quad_free BK102.out))
                          repeat (go_quiet (first | (go_at_call 69; (with_reducible refine (ironbarkref05_inT.calls a2_3 (bt a0_3 x10_1) t113 _ A28.out).mono ?_); rintro e w' ⟨rfl, ⟨nd, rfl⟩⟩; (try first | exact ⟨rfl, _, World.drewN_drewN _ _ _⟩ | exact ⟨rfl, _, Eq.trans (World.drewN_drewN _ _ _) (congrArg (World.drewN _) (Nat.add_assoc _ _ _))⟩)) | (go_at_call 81; (with_reducible refine (ironbarkref05_Filler.calls a0_0 t114 _ A30.out).mono ?_); rintro e w' ⟨rfl, ⟨nd, rfl⟩⟩; (try first | exact ⟨rfl, _, World.drewN_drewN _ _ _⟩ | exact ⟨rfl, _, Eq.trans (World.drewN_drewN _ _ _) (congrArg (World.drewN _) (Nat.add_assoc _ _ _))⟩); have hnb44 := NB102_104.out; have hnc44 := NB104_102.out; obtain ⟨hcz45_0, hcz45_1, hcz45_2, hcz45_3⟩ := blk_quad BK102.out; obtain ⟨hfz45_0, hfz45_1, hfz45_2, hfz45_3⟩ := blk_quad_free BK102.out)); try go_wp2_with (first | (go_at_call 69; (with_reducible refine (ironbarkref05_inT.calls a2_3 (bt a0_3 x10_1) t113 _ A28.out).mono ?_); rintro e w' ⟨rfl, ⟨nd, rfl⟩⟩; (try first | exact ⟨rfl, _, World.drewN_drewN _ _ _⟩ | exact ⟨rfl, _, Eq.trans (World.drewN_drewN _ _ _) (congrArg (World.drewN _) (Nat.add_assoc _ _ _))⟩)) | (go_at_call 81; (with_reducible refine (ironbarkref05_Filler.calls a0_0 t114 _ A30.out).mono ?_); rintro e w' ⟨rfl, ⟨nd, rfl⟩⟩; (try first | exact ⟨rfl, _, World.drewN_drewN _ _ _⟩ | exact ⟨rfl, _, Eq.trans (World.drewN_drewN _ _ _) (congrArg (World.drewN _) (Nat.add_assoc _ _ _))⟩); have hnb44 := NB102_104.out; have hnc44 := NB104_102.out; obtain ⟨hcz45_0, hcz45_1, hcz45_2, hcz45_3⟩ := blk_quad BK102.out; obtain ⟨hfz45_0, hfz45_1, hfz45_2, hfz45_3⟩ := blk_quad_free BK102.out)))
                          go_roundg k1
                          case measure => have := HK1.out; omega
                          case rel => exact ⟨(x9_1 ++ (a1_3.extract ((ji32) : Int).toNat (t113 : Int).toNat)), (wrap64 (x10_1 + 1)), (by first | rfl | (simp; done) | (simp only [← hji32] <;> (first | rfl | simp)) | (simp [*]; done)), (by first | rfl | (simp; done) | (generalize ByteArray.toList _ = l_; cases l_ <;> rfl) | (simp [*]; done)), H', ⟨by have := HK1.out; omega⟩, ⟨zk BK101.out⟩, ⟨zk BK102.out⟩, ⟨zk BK103.out⟩, ⟨zk BK104.out⟩, ⟨by repeat (first | (with_reducible first | exact HB.out | apply below_alloc | apply pw_below_drewN | apply below_drew1 | refine below_set ?_ GE101.out | refine below_set ?_ GE102.out | refine below_set ?_ GE103.out | refine below_set ?_ GE104.out) | exact HB.out)⟩⟩
                        · rw [if_neg c36] at H
                          exact absurd H (by simp)
                      · rw [if_neg c34] at H
                        exact absurd H (by simp)
                    · rw [if_neg c33] at H
                      exact absurd H (by simp)
                  · rw [if_neg c31] at H
                    have c31b0 : decide (t113 ≤ (a1_3.size : Int)) = false := decide_eq_false c31
                    clear c31
                    by_cases c46 : x9_1.size + t114.size ≤ 9223372036854775807
                    · rw [if_pos c46] at H
                      have c46b0 := eq_true c46
                      have c46b1 : decide (x9_1.size + t114.size ≤ 9223372036854775807) = true := decide_eq_true c46
                      try have c46b2 : (9223372036854775807 < x9_1.size + t114.size) = False := eq_false (Nat.not_lt.2 c46)
                      have H' := Aside0.mk H
                      clear H
                      have hnb47 := NB101_102.out
                      have hnc47 := NB102_101.out
                      have hnb48 := NB101_103.out
                      have hnc48 := NB103_101.out
                      have hnb49 := NB101_104.out
                      have hnc49 := NB104_101.out
                      obtain ⟨hcz50_0, hcz50_1, hcz50_2, hcz50_3⟩ := blk_quad BK101.out
                      obtain ⟨hfz50_0, hfz50_1, hfz50_2, hfz50_3⟩ := blk_quad_free BK101.out
                      have hnb51 := NB103_102.out
                      have hnc51 := NB102_103.out
                      have hnb52 := NB103_104.out
                      have hnc52 := NB104_103.out
                      obtain ⟨hcz53_0, hcz53_1, hcz53_2, hcz53_3⟩ := blk_quad BK103.out
                      obtain ⟨hfz53_0, hfz53_1, hfz53_2, hfz53_3⟩ := blk_quad_free BK103.out
                      have p27 : 0 ≤ (x10_1 : Int) := of_decide_eq_true (by first | (with_reducible assumption) | assumption)
                      have q27 : x10_1 < (a0_3.size : Int) := of_decide_eq_true (by first | (with_reducible assumption) | assumption)
                      have hx27 := bt_at a0_3 x10_1
                      replace p27 := eq_true p27
                      replace q27 := eq_true q27
                      go_wp2_with (first | (go_at_call 69; (with_reducible refine (ironbarkref05_inT.calls a2_3 (bt a0_3 x10_1) t113 _ A28.out).mono ?_); rintro e w' ⟨rfl, ⟨nd, rfl⟩⟩; (try first | exact ⟨rfl, _, World.drewN_drewN _ _ _⟩ | exact ⟨rfl, _, Eq.trans (World.drewN_drewN _ _ _) (congrArg (World.drewN _) (Nat.add_assoc _ _ _))⟩)) | (go_at_call 81; (with_reducible refine (ironbarkref05_Filler.calls a0_0 t114 _ A30.out).mono ?_); rintro e w' ⟨rfl, ⟨nd, rfl⟩⟩; (try first | exact ⟨rfl, _, World.drewN_drewN _ _ _⟩ | exact ⟨rfl, _, Eq.trans (World.drewN_drewN _ _ _) (congrArg (World.drewN _) (Nat.add_assoc _ _ _))⟩); have hnb54 := NB102_104.out; have hnc54 := NB104_102.out; obtain ⟨hcz55_0, hcz55_1, hcz55_2, hcz55_3⟩ := blk_quad BK102.out; obtain ⟨hfz55_0, hfz55_1, hfz55_2, hfz55_3⟩ := blk_quad_free BK102.out))
                      repeat (go_quiet (first | (go_at_call 69; (with_reducible refine (ironbarkref05_inT.calls a2_3 (bt a0_3 x10_1) t113 _ A28.out).mono ?_); rintro e w' ⟨rfl, ⟨nd, rfl⟩⟩; (try first | exact ⟨rfl, _, World.drewN_drewN _ _ _⟩ | exact ⟨rfl, _, Eq.trans (World.drewN_drewN _ _ _) (congrArg (World.drewN _) (Nat.add_assoc _ _ _))⟩)) | (go_at_call 81; (with_reducible refine (ironbarkref05_Filler.calls a0_0 t114 _ A30.out).mono ?_); rintro e w' ⟨rfl, ⟨nd, rfl⟩⟩; (try first | exact ⟨rfl, _, World.drewN_drewN _ _ _⟩ | exact ⟨rfl, _, Eq.trans (World.drewN_drewN _ _ _) (congrArg (World.drewN _) (Nat.add_assoc _ _ _))⟩); have hnb54 := NB102_104.out; have hnc54 := NB104_102.out; obtain ⟨hcz55_0, hcz55_1, hcz55_2, hcz55_3⟩ := blk_quad BK102.out; obtain ⟨hfz55_0, hfz55_1, hfz55_2, hfz55_3⟩ := blk_quad_free BK102.out)); try go_wp2_with (first | (go_at_call 69; (with_reducible refine (ironbarkref05_inT.calls a2_3 (bt a0_3 x10_1) t113 _ A28.out).mono ?_); rintro e w' ⟨rfl, ⟨nd, rfl⟩⟩; (try first | exact ⟨rfl, _, World.drewN_drewN _ _ _⟩ | exact ⟨rfl, _, Eq.trans (World.drewN_drewN _ _ _) (congrArg (World.drewN _) (Nat.add_assoc _ _ _))⟩)) | (go_at_call 81; (with_reducible refine (ironbarkref05_Filler.calls a0_0 t114 _ A30.out).mono ?_); rintro e w' ⟨rfl, ⟨nd, rfl⟩⟩; (try first | exact ⟨rfl, _, World.drewN_drewN _ _ _⟩ | exact ⟨rfl, _, Eq.trans (World.drewN_drewN _ _ _) (congrArg (World.drewN _) (Nat.add_assoc _ _ _))⟩); have hnb54 := NB102_104.out; have hnc54 := NB104_102.out; obtain ⟨hcz55_0, hcz55_1, hcz55_2, hcz55_3⟩ := blk_quad BK102.out; obtain ⟨hfz55_0, hfz55_1, hfz55_2, hfz55_3⟩ := blk_quad_free BK102.out)))
                      go_roundg k1
                      case measure => have := HK1.out; omega
                      case rel => exact ⟨(x9_1 ++ t114), (wrap64 (x10_1 + 1)), (by first | rfl | (simp; done) | (generalize ByteArray.toList _ = l_; cases l_ <;> rfl) | (simp [*]; done)), (by first | rfl | (simp; done) | (generalize ByteArray.toList _ = l_; cases l_ <;> rfl) | (simp [*]; done)), H', ⟨by have := HK1.out; omega⟩, ⟨zk BK101.out⟩, ⟨zk BK102.out⟩, ⟨zk BK103.out⟩, ⟨zk BK104.out⟩, ⟨by repeat (first | (with_reducible first | exact HB.out | apply below_alloc | apply pw_below_drewN | apply below_drew1 | refine below_set ?_ GE101.out | refine below_set ?_ GE102.out | refine below_set ?_ GE103.out | refine below_set ?_ GE104.out) | exact HB.out)⟩⟩
                    · rw [if_neg c46] at H
                      exact absurd H (by simp)
                · rw [if_neg c29] at H
                  have c29b0 : decide (0 < t113) = false := decide_eq_false c29
                  clear c29
                  by_cases c56 : x9_1.size + (a0_3.extract (x10_1 : Int).toNat ((wrap64 (x10_1 + 1)) : Int).toNat).size ≤ 9223372036854775807
                  · rw [if_pos c56] at H
                    have c56b0 := eq_true c56
                    have c56b1 : decide (x9_1.size + (a0_3.extract (x10_1 : Int).toNat ((wrap64 (x10_1 + 1)) : Int).toNat).size ≤ 9223372036854775807) = true := decide_eq_true c56
                    try have c56b2 : (9223372036854775807 < x9_1.size + (a0_3.extract (x10_1 : Int).toNat ((wrap64 (x10_1 + 1)) : Int).toNat).size) = False := eq_false (Nat.not_lt.2 c56)
                    have H' := Aside0.mk H
                    clear H
                    have hnb57 := NB101_102.out
                    have hnc57 := NB102_101.out
                    have hnb58 := NB101_103.out
                    have hnc58 := NB103_101.out
                    have hnb59 := NB101_104.out
                    have hnc59 := NB104_101.out
                    obtain ⟨hcz60_0, hcz60_1, hcz60_2, hcz60_3⟩ := blk_quad BK101.out
                    obtain ⟨hfz60_0, hfz60_1, hfz60_2, hfz60_3⟩ := blk_quad_free BK101.out
                    have hnb61 := NB103_102.out
                    have hnc61 := NB102_103.out
                    have hnb62 := NB103_104.out
                    have hnc62 := NB104_103.out
                    obtain ⟨hcz63_0, hcz63_1, hcz63_2, hcz63_3⟩ := blk_quad BK103.out
                    obtain ⟨hfz63_0, hfz63_1, hfz63_2, hfz63_3⟩ := blk_quad_free BK103.out
                    have p27 : 0 ≤ (x10_1 : Int) := of_decide_eq_true (by first | (with_reducible assumption) | assumption)
                    have q27 : x10_1 < (a0_3.size : Int) := of_decide_eq_true (by first | (with_reducible assumption) | assumption)
                    have hx27 := bt_at a0_3 x10_1
                    replace p27 := eq_true p27
                    replace q27 := eq_true q27
                    go_wp2_with (first | (go_at_call 69; (with_reducible refine (ironbarkref05_inT.calls a2_3 (bt a0_3 x10_1) t113 _ A28.out).mono ?_); rintro e w' ⟨rfl, ⟨nd, rfl⟩⟩; (try first | exact ⟨rfl, _, World.drewN_drewN _ _ _⟩ | exact ⟨rfl, _, Eq.trans (World.drewN_drewN _ _ _) (congrArg (World.drewN _) (Nat.add_assoc _ _ _))⟩)))
                    repeat (go_quiet (first | (go_at_call 69; (with_reducible refine (ironbarkref05_inT.calls a2_3 (bt a0_3 x10_1) t113 _ A28.out).mono ?_); rintro e w' ⟨rfl, ⟨nd, rfl⟩⟩; (try first | exact ⟨rfl, _, World.drewN_drewN _ _ _⟩ | exact ⟨rfl, _, Eq.trans (World.drewN_drewN _ _ _) (congrArg (World.drewN _) (Nat.add_assoc _ _ _))⟩))); try go_wp2_with (first | (go_at_call 69; (with_reducible refine (ironbarkref05_inT.calls a2_3 (bt a0_3 x10_1) t113 _ A28.out).mono ?_); rintro e w' ⟨rfl, ⟨nd, rfl⟩⟩; (try first | exact ⟨rfl, _, World.drewN_drewN _ _ _⟩ | exact ⟨rfl, _, Eq.trans (World.drewN_drewN _ _ _) (congrArg (World.drewN _) (Nat.add_assoc _ _ _))⟩))))
                    go_roundg k1
                    case measure => have := HK1.out; omega
                    case rel => exact ⟨(x9_1 ++ (a0_3.extract (x10_1 : Int).toNat ((wrap64 (x10_1 + 1)) : Int).toNat)), (wrap64 (x10_1 + 1)), (by first | rfl | (simp; done) | (generalize ByteArray.toList _ = l_; cases l_ <;> rfl) | (simp [*]; done)), (by first | rfl | (simp; done) | (generalize ByteArray.toList _ = l_; cases l_ <;> rfl) | (simp [*]; done)), H', ⟨by have := HK1.out; omega⟩, ⟨zk BK101.out⟩, ⟨zk BK102.out⟩, ⟨zk BK103.out⟩, ⟨zk BK104.out⟩, ⟨by repeat (first | (with_reducible first | exact HB.out | apply below_alloc | apply pw_below_drewN | apply below_drew1 | refine below_set ?_ GE101.out | refine below_set ?_ GE102.out | refine below_set ?_ GE103.out | refine below_set ?_ GE104.out) | exact HB.out)⟩⟩
                  · rw [if_neg c56] at H
                    exact absurd H (by simp)
              · rw [if_neg c26] at H
                exact absurd H (by simp)
            · rw [if_neg c25] at H
              exact absurd H (by simp)
          · rw [if_neg c24] at H
            exact absurd H (by simp)
        · rw [if_neg c23] at H
          have c23b0 : decide (x10_1 < (a0_3.size : Int)) = false := decide_eq_false c23
          clear c23
          replace H := Option.bind_eq_some_iff.mp H
          obtain ⟨⟨t109, t110, t111, t112⟩, A640, H⟩ := H
          replace H : (some (t109, t110, t111, t112, 0)) = some (r1, r2, r3, r4, r5) := H
          have A64 := Aside0.mk A640
          clear A640
          simp only [Option.some.injEq, Prod.mk.injEq] at H
          obtain ⟨rfl, rfl, rfl, rfl, rfl⟩ := H
          have hnb65 := NB101_102.out
          have hnc65 := NB102_101.out
          have hnb66 := NB101_103.out
          have hnc66 := NB103_101.out
          have hnb67 := NB101_104.out
          have hnc67 := NB104_101.out
          obtain ⟨hcz68_0, hcz68_1, hcz68_2, hcz68_3⟩ := blk_quad BK101.out
          obtain ⟨hfz68_0, hfz68_1, hfz68_2, hfz68_3⟩ := blk_quad_free BK101.out
          go_wp2_with (first | (go_at_call 74; (with_reducible refine (ironbarkref05_made.calls a0_0 x9_1 t109 t110 t111 t112 _ A64.out).mono ?_); rintro e w69 ⟨rfl, hb⟩; have n0_ := Aside0.mk (blk_below (zk BK101.out) hb); have n1_ := Aside0.mk (blk_below (zk BK102.out) hb); have n2_ := Aside0.mk (blk_below (zk BK103.out) hb); have n3_ := Aside0.mk (blk_below (zk BK104.out) hb); have n4_ := Aside0.mk (below_step (by repeat (first | (with_reducible first | exact HB.out | apply below_alloc | apply pw_below_drewN | apply below_drew1 | refine below_set ?_ GE101.out | refine below_set ?_ GE102.out | refine below_set ?_ GE103.out | refine below_set ?_ GE104.out) | exact HB.out)) hb); clear BK101; clear BK102; clear BK103; clear BK104; clear HB; have BK101 := n0_; have BK102 := n1_; have BK103 := n2_; have BK104 := n3_; have HB := n4_; clear n0_ n1_ n2_ n3_ n4_; (try clear hb); (try clear hb2); (try clear hk); (try clear hi); have hnb70 := NB104_102.out; have hnc70 := NB102_104.out; have hnb71 := NB104_103.out; have hnc71 := NB103_104.out; obtain ⟨hcz72_0, hcz72_1, hcz72_2, hcz72_3⟩ := blk_quad BK104.out; obtain ⟨hfz72_0, hfz72_1, hfz72_2, hfz72_3⟩ := blk_quad_free BK104.out))
          repeat (go_quiet (first | (go_at_call 74; (with_reducible refine (ironbarkref05_made.calls a0_0 x9_1 t109 t110 t111 t112 _ A64.out).mono ?_); rintro e w69 ⟨rfl, hb⟩; have n0_ := Aside0.mk (blk_below (zk BK101.out) hb); have n1_ := Aside0.mk (blk_below (zk BK102.out) hb); have n2_ := Aside0.mk (blk_below (zk BK103.out) hb); have n3_ := Aside0.mk (blk_below (zk BK104.out) hb); have n4_ := Aside0.mk (below_step (by repeat (first | (with_reducible first | exact HB.out | apply below_alloc | apply pw_below_drewN | apply below_drew1 | refine below_set ?_ GE101.out | refine below_set ?_ GE102.out | refine below_set ?_ GE103.out | refine below_set ?_ GE104.out) | exact HB.out)) hb); clear BK101; clear BK102; clear BK103; clear BK104; clear HB; have BK101 := n0_; have BK102 := n1_; have BK103 := n2_; have BK104 := n3_; have HB := n4_; clear n0_ n1_ n2_ n3_ n4_; (try clear hb); (try clear hb2); (try clear hk); (try clear hi); have hnb70 := NB104_102.out; have hnc70 := NB102_104.out; have hnb71 := NB104_103.out; have hnc71 := NB103_104.out; obtain ⟨hcz72_0, hcz72_1, hcz72_2, hcz72_3⟩ := blk_quad BK104.out; obtain ⟨hfz72_0, hfz72_1, hfz72_2, hfz72_3⟩ := blk_quad_free BK104.out)); try go_wp2_with (first | (go_at_call 74; (with_reducible refine (ironbarkref05_made.calls a0_0 x9_1 t109 t110 t111 t112 _ A64.out).mono ?_); rintro e w69 ⟨rfl, hb⟩; have n0_ := Aside0.mk (blk_below (zk BK101.out) hb); have n1_ := Aside0.mk (blk_below (zk BK102.out) hb); have n2_ := Aside0.mk (blk_below (zk BK103.out) hb); have n3_ := Aside0.mk (blk_below (zk BK104.out) hb); have n4_ := Aside0.mk (below_step (by repeat (first | (with_reducible first | exact HB.out | apply below_alloc | apply pw_below_drewN | apply below_drew1 | refine below_set ?_ GE101.out | refine below_set ?_ GE102.out | refine below_set ?_ GE103.out | refine below_set ?_ GE104.out) | exact HB.out)) hb); clear BK101; clear BK102; clear BK103; clear BK104; clear HB; have BK101 := n0_; have BK102 := n1_; have BK103 := n2_; have BK104 := n3_; have HB := n4_; clear n0_ n1_ n2_ n3_ n4_; (try clear hb); (try clear hb2); (try clear hk); (try clear hi); have hnb70 := NB104_102.out; have hnc70 := NB102_104.out; have hnb71 := NB104_103.out; have hnc71 := NB103_104.out; obtain ⟨hcz72_0, hcz72_1, hcz72_2, hcz72_3⟩ := blk_quad BK104.out; obtain ⟨hfz72_0, hfz72_1, hfz72_2, hfz72_3⟩ := blk_quad_free BK104.out)))
          refine bodyPost_ret (results_ct rfl _ _ gb104 23 #[.int .i64 t109, .int .i64 t110, .int .i64 t111, .string t112] (0, 0) _ rfl (by refine zk ?_; refine blk_put (cs := #[.int .i64 t109, .int .i64 t110, .int .i64 t111, .string (⟨#[]⟩ : ByteArray)]) ?_ 3 _ rfl; refine zk ?_; refine blk_put (cs := #[.int .i64 t109, .int .i64 t110, .int .i64 0, .string (⟨#[]⟩ : ByteArray)]) ?_ 2 _ rfl; refine zk ?_; refine blk_put (cs := #[.int .i64 t109, .int .i64 0, .int .i64 0, .string (⟨#[]⟩ : ByteArray)]) ?_ 1 _ rfl; refine zk ?_; refine blk_put (cs := #[.int .i64 0, .int .i64 0, .int .i64 0, .string (⟨#[]⟩ : ByteArray)]) ?_ 0 _ rfl; refine zk ?_; exact BK104.out) Try.underlying23 rfl (by kernel_rfl)) rfl ?_
          exact ⟨by first | rfl | (simp [errW_none, errW_some] <;> rfl) | (simp [*, errW_none, errW_some] <;> rfl), by repeat (first | (with_reducible first | exact HB.out | apply below_alloc | apply pw_below_drewN | apply below_drew1 | refine below_set ?_ GE101.out | refine below_set ?_ GE102.out | refine below_set ?_ GE103.out | refine below_set ?_ GE104.out) | exact HB.out)⟩
  · rw [if_neg c5] at H
    have c5b0 : (t108 == 0) = false := beq_eq_false_iff_ne.mpr c5
    have c5b1 : (t108 != 0) = true := bne_iff_ne.mpr c5
    simp only [Option.some.injEq, Prod.mk.injEq] at H
    obtain ⟨rfl, rfl, rfl, rfl, rfl⟩ := H
    go_enter Try.func42, Try.ntmps42
    go_wp2_with (first | ((with_reducible refine gate_dst (N := 3) rfl ?_); refine box_event ?hg (N := 3) ?hd (cs := #[.int .i64 a0_0, .int .i64 a0_1, .int .i64 a0_2, .string a0_3]) (t := 23) ?hr ?_; (case hd => rfl); (case hg => rfl); (case hr => first | (go_simp; done) | (go_simp; rfl)); intro gb101 hg w73 hbox hb; have n0_ := Aside0.mk (below_step (by repeat (first | (with_reducible first | exact HB.out | apply below_alloc | apply pw_below_drewN | apply below_drew1) | exact HB.out)) hb); have n1_ := Aside0.mk (hbox); have n2_ := Aside0.mk ((by rw [hg]; exact (below_size (by repeat (first | (with_reducible first | exact HB.out | apply below_alloc | apply pw_below_drewN | apply below_drew1) | exact HB.out))) : w.heap.size ≤ gb101)); have n3_ := n2_; clear HB; have HB := n0_; have BK101 := n1_; have GW101 := n2_; have GE101 := n3_; clear n0_ n1_ n2_ n3_; clear hb hbox hg) | ((with_reducible refine gate_dst (N := 4) rfl ?_); refine box_event ?hg (N := 4) ?hd (cs := #[.int .i64 a1_0, .int .i64 a1_1, .int .i64 a1_2, .string a1_3]) (t := 23) ?hr ?_; (case hd => rfl); (case hg => rfl); (case hr => first | (go_simp; done) | (go_simp; rfl)); intro gb102 hg w74 hbox hb; have n0_ := Aside0.mk (blk_below (zk BK101.out) hb); have n1_ := Aside0.mk (below_step (by repeat (first | (with_reducible first | exact HB.out | apply below_alloc | apply pw_below_drewN | apply below_drew1 | refine below_set ?_ GE101.out) | exact HB.out)) hb); have n2_ := Aside0.mk (hbox); have n3_ := Aside0.mk ((by rw [hg]; exact (below_size (by repeat (first | (with_reducible first | exact HB.out | apply below_alloc | apply pw_below_drewN | apply below_drew1 | refine below_set ?_ GE101.out) | exact HB.out))) : w.heap.size ≤ gb102)); have n4_ := n3_; have n5_ := Aside0.mk ((by rw [hg]; exact Nat.ne_of_lt (blk_lt (zk BK101.out)) : gb101 ≠ gb102)); have n6_ := Aside0.mk ((by rw [hg]; exact Nat.ne_of_gt (blk_lt (zk BK101.out)) : gb102 ≠ gb101)); clear BK101; clear HB; have BK101 := n0_; have HB := n1_; have BK102 := n2_; have GW102 := n3_; have GE102 := n4_; have NB101_102 := n5_; have NB102_101 := n6_; clear n0_ n1_ n2_ n3_ n4_ n5_ n6_; clear hb hbox hg) | ((with_reducible refine gate_dst (N := 5) rfl ?_); refine box_event ?hg (N := 5) ?hd (cs := #[.int .i64 a2_0, .int .i64 a2_1, .int .i64 a2_2, .string a2_3]) (t := 23) ?hr ?_; (case hd => rfl); (case hg => rfl); (case hr => first | (go_simp; done) | (go_simp; rfl)); intro gb103 hg w75 hbox hb; have n0_ := Aside0.mk (blk_below (zk BK101.out) hb); have n1_ := Aside0.mk (blk_below (zk BK102.out) hb); have n2_ := Aside0.mk (below_step (by repeat (first | (with_reducible first | exact HB.out | apply below_alloc | apply pw_below_drewN | apply below_drew1 | refine below_set ?_ GE101.out | refine below_set ?_ GE102.out) | exact HB.out)) hb); have n3_ := Aside0.mk (hbox); have n4_ := Aside0.mk ((by rw [hg]; exact (below_size (by repeat (first | (with_reducible first | exact HB.out | apply below_alloc | apply pw_below_drewN | apply below_drew1 | refine below_set ?_ GE101.out | refine below_set ?_ GE102.out) | exact HB.out))) : w.heap.size ≤ gb103)); have n5_ := n4_; have n6_ := Aside0.mk ((by rw [hg]; exact Nat.ne_of_lt (blk_lt (zk BK101.out)) : gb101 ≠ gb103)); have n7_ := Aside0.mk ((by rw [hg]; exact Nat.ne_of_gt (blk_lt (zk BK101.out)) : gb103 ≠ gb101)); have n8_ := Aside0.mk ((by rw [hg]; exact Nat.ne_of_lt (blk_lt (zk BK102.out)) : gb102 ≠ gb103)); have n9_ := Aside0.mk ((by rw [hg]; exact Nat.ne_of_gt (blk_lt (zk BK102.out)) : gb103 ≠ gb102)); clear BK101; clear BK102; clear HB; have BK101 := n0_; have BK102 := n1_; have HB := n2_; have BK103 := n3_; have GW103 := n4_; have GE103 := n5_; have NB101_103 := n6_; have NB103_101 := n7_; have NB102_103 := n8_; have NB103_102 := n9_; clear n0_ n1_ n2_ n3_ n4_ n5_ n6_ n7_ n8_ n9_; clear hb hbox hg) | ((with_reducible refine gate_dst (N := 6) rfl ?_); refine box_event ?hg (N := 6) ?hd (cs := #[.int .i64 0, .int .i64 0, .int .i64 0, .string (⟨#[]⟩ : ByteArray)]) (t := 23) ?hr ?_; (case hd => rfl); (case hg => rfl); (case hr => first | (go_simp; done) | (go_simp; rfl)); intro gb104 hg w76 hbox hb; have n0_ := Aside0.mk (blk_below (zk BK101.out) hb); have n1_ := Aside0.mk (blk_below (zk BK102.out) hb); have n2_ := Aside0.mk (blk_below (zk BK103.out) hb); have n3_ := Aside0.mk (below_step (by repeat (first | (with_reducible first | exact HB.out | apply below_alloc | apply pw_below_drewN | apply below_drew1 | refine below_set ?_ GE101.out | refine below_set ?_ GE102.out | refine below_set ?_ GE103.out) | exact HB.out)) hb); have n4_ := Aside0.mk (hbox); have n5_ := Aside0.mk ((by rw [hg]; exact (below_size (by repeat (first | (with_reducible first | exact HB.out | apply below_alloc | apply pw_below_drewN | apply below_drew1 | refine below_set ?_ GE101.out | refine below_set ?_ GE102.out | refine below_set ?_ GE103.out) | exact HB.out))) : w.heap.size ≤ gb104)); have n6_ := n5_; have n7_ := Aside0.mk ((by rw [hg]; exact Nat.ne_of_lt (blk_lt (zk BK101.out)) : gb101 ≠ gb104)); have n8_ := Aside0.mk ((by rw [hg]; exact Nat.ne_of_gt (blk_lt (zk BK101.out)) : gb104 ≠ gb101)); have n9_ := Aside0.mk ((by rw [hg]; exact Nat.ne_of_lt (blk_lt (zk BK102.out)) : gb102 ≠ gb104)); have n10_ := Aside0.mk ((by rw [hg]; exact Nat.ne_of_gt (blk_lt (zk BK102.out)) : gb104 ≠ gb102)); have n11_ := Aside0.mk ((by rw [hg]; exact Nat.ne_of_lt (blk_lt (zk BK103.out)) : gb103 ≠ gb104)); have n12_ := Aside0.mk ((by rw [hg]; exact Nat.ne_of_gt (blk_lt (zk BK103.out)) : gb104 ≠ gb103)); clear BK101; clear BK102; clear BK103; clear HB; have BK101 := n0_; have BK102 := n1_; have BK103 := n2_; have HB := n3_; have BK104 := n4_; have GW104 := n5_; have GE104 := n6_; have NB101_104 := n7_; have NB104_101 := n8_; have NB102_104 := n9_; have NB104_102 := n10_; have NB103_104 := n11_; have NB104_103 := n12_; clear n0_ n1_ n2_ n3_ n4_ n5_ n6_ n7_ n8_ n9_ n10_ n11_ n12_; clear hb hbox hg; have hnb77 := NB101_102.out; have hnc77 := NB102_101.out; have hnb78 := NB101_103.out; have hnc78 := NB103_101.out; have hnb79 := NB101_104.out; have hnc79 := NB104_101.out; obtain ⟨hcz80_0, hcz80_1, hcz80_2, hcz80_3⟩ := blk_quad BK101.out; obtain ⟨hfz80_0, hfz80_1, hfz80_2, hfz80_3⟩ := blk_quad_free BK101.out; have hnb81 := NB102_103.out; have hnc81 := NB103_102.out; have hnb82 := NB102_104.out; have hnc82 := NB104_102.out; obtain ⟨hcz83_0, hcz83_1, hcz83_2, hcz83_3⟩ := blk_quad BK102.out; obtain ⟨hfz83_0, hfz83_1, hfz83_2, hfz83_3⟩ := blk_quad_free BK102.out; have hnb84 := NB103_104.out; have hnc84 := NB104_103.out; obtain ⟨hcz85_0, hcz85_1, hcz85_2, hcz85_3⟩ := blk_quad BK103.out; obtain ⟨hfz85_0, hfz85_1, hfz85_2, hfz85_3⟩ := blk_quad_free BK103.out) | ((with_reducible refine gate_dst (N := 16) rfl ?_); refine Kd.R_lit k23 _ 23 ?hg (N := 16) ?hd (xs := ([(⟨a0_0, a0_1, a0_2, a0_3⟩ : S23), (⟨a1_0, a1_1, a1_2, a1_3⟩ : S23), (⟨a2_0, a2_1, a2_2, a2_3⟩ : S23)] : List (S23))) (inner := [.int .i64 a0_0, .int .i64 a0_1, .int .i64 a0_2, .string a0_3, .int .i64 a1_0, .int .i64 a1_1, .int .i64 a1_2, .string a1_3, .int .i64 a2_0, .int .i64 a2_1, .int .i64 a2_2, .string a2_3]) (ok := fun _ => True) (okp := fun _ => True) ?hr ?hp (fun _ hk => hk) trivial (Below.refl _ _) (Nat.le_refl _) (by simp) ?_; (case hd => rfl); (case hg => rfl); (case hr => first | (go_simp; done) | (go_simp; rfl)); (case hp => exact (Reps.c4 (show Kd.M k23 _ _ _ (⟨a0_0, a0_1, a0_2, a0_3⟩ : S23) [.int .i64 a0_0, .int .i64 a0_1, .int .i64 a0_2, .string a0_3] from (k23_mkM _ _ _ (⟨a0_0, a0_1, a0_2, a0_3⟩ : S23) )) (Reps.c4 (show Kd.M k23 _ _ _ (⟨a1_0, a1_1, a1_2, a1_3⟩ : S23) [.int .i64 a1_0, .int .i64 a1_1, .int .i64 a1_2, .string a1_3] from (k23_mkM _ _ _ (⟨a1_0, a1_1, a1_2, a1_3⟩ : S23) )) (Reps.c4 (show Kd.M k23 _ _ _ (⟨a2_0, a2_1, a2_2, a2_3⟩ : S23) [.int .i64 a2_0, .int .i64 a2_1, .int .i64 a2_2, .string a2_3] from (k23_mkM _ _ _ (⟨a2_0, a2_1, a2_2, a2_3⟩ : S23) )) (Reps.none _ _))))); intro v106 w86 ho87 hb hg_ hnew_; clear hg_ hnew_; (first | rw [← Ny105.out] at ho87 | (simp only [Int.reduceToNat] at ho87; rw [← Ny105.out] at ho87)); have n0_ := Aside0.mk (Kd.R_lower (Kd.R_newB (Kd.R_newB (Kd.R_newB (Kd.R_newB ho87 (g := gb101) (o := .cells #[.int .i64 a0_0, .int .i64 a0_1, .int .i64 a0_2, .string a0_3] 23 (0, 0)) (zk BK101.out)) (g := gb102) (o := .cells #[.int .i64 a1_0, .int .i64 a1_1, .int .i64 a1_2, .string a1_3] 23 (0, 0)) (zk BK102.out)) (g := gb103) (o := .cells #[.int .i64 a2_0, .int .i64 a2_1, .int .i64 a2_2, .string a2_3] 23 (0, 0)) (zk BK103.out)) (g := gb104) (o := .cells #[.int .i64 0, .int .i64 0, .int .i64 0, .string (⟨#[]⟩ : ByteArray)] 23 (0, 0)) (zk BK104.out)) (below_size (by repeat (first | (with_reducible first | exact HB.out | apply below_alloc | apply pw_below_drewN | apply below_drew1 | refine below_set ?_ GE101.out | refine below_set ?_ GE102.out | refine below_set ?_ GE103.out | refine below_set ?_ GE104.out) | exact HB.out)))); have n1_ := Aside0.mk (blk_below (zk BK101.out) hb); have n2_ := Aside0.mk (blk_below (zk BK102.out) hb); have n3_ := Aside0.mk (blk_below (zk BK103.out) hb); have n4_ := Aside0.mk (blk_below (zk BK104.out) hb); have n5_ := Aside0.mk (below_step (by repeat (first | (with_reducible first | exact HB.out | apply below_alloc | apply pw_below_drewN | apply below_drew1 | refine below_set ?_ GE101.out | refine below_set ?_ GE102.out | refine below_set ?_ GE103.out | refine below_set ?_ GE104.out) | exact HB.out)) hb); clear BK101; clear BK102; clear BK103; clear BK104; clear HB; have HO107 := n0_; have BK101 := n1_; have BK102 := n2_; have BK103 := n3_; have BK104 := n4_; have HB := n5_; clear n0_ n1_ n2_ n3_ n4_ n5_; clear hb ho87; obtain ⟨Ao88, co88, eo88⟩ := Kd.R_slice HO107.out; subst eo88) | (go_at_call 57; (with_reducible refine (ironbarkref05_stringsT.calls _ _ y105 0 t108 _ ?side1 ?side2 A4.out).mono ?_); (case side1 => repeat (first | exact (Kd.R_reads' HO107.out).2.2 | (with_reducible refine Kd.C_alloc ?_ _) | (with_reducible refine Kd.C_drewN ?_ _) | (with_reducible refine Kd.C_drew ?_))); (case side2 => exact (Kd.R_reads' HO107.out).2.1); rintro e w89 ⟨rfl, hb⟩; have n0_ := Aside0.mk (Kd.R_below (by (with_reducible repeat (first | apply Kd.R_alloc | apply Kd.R_drewN | apply Kd.R_drew)); exact HO107.out) hb); have n1_ := Aside0.mk (blk_below (zk BK101.out) hb); have n2_ := Aside0.mk (blk_below (zk BK102.out) hb); have n3_ := Aside0.mk (blk_below (zk BK103.out) hb); have n4_ := Aside0.mk (blk_below (zk BK104.out) hb); have n5_ := Aside0.mk (below_step (by repeat (first | (with_reducible first | exact HB.out | apply below_alloc | apply pw_below_drewN | apply below_drew1 | refine below_set ?_ GE101.out | refine below_set ?_ GE102.out | refine below_set ?_ GE103.out | refine below_set ?_ GE104.out) | exact HB.out)) hb); clear HO107; clear BK101; clear BK102; clear BK103; clear BK104; clear HB; have HO107 := n0_; have BK101 := n1_; have BK102 := n2_; have BK103 := n3_; have BK104 := n4_; have HB := n5_; clear n0_ n1_ n2_ n3_ n4_ n5_; (try clear hb); (try clear hb2); (try clear hk); (try clear hi); obtain ⟨hcz90_0, hcz90_1, hcz90_2, hcz90_3⟩ := blk_quad BK104.out; obtain ⟨hfz90_0, hfz90_1, hfz90_2, hfz90_3⟩ := blk_quad_free BK104.out))
    repeat (go_quiet (first | ((with_reducible refine gate_dst (N := 3) rfl ?_); refine box_event ?hg (N := 3) ?hd (cs := #[.int .i64 a0_0, .int .i64 a0_1, .int .i64 a0_2, .string a0_3]) (t := 23) ?hr ?_; (case hd => rfl); (case hg => rfl); (case hr => first | (go_simp; done) | (go_simp; rfl)); intro gb101 hg w73 hbox hb; have n0_ := Aside0.mk (below_step (by repeat (first | (with_reducible first | exact HB.out | apply below_alloc | apply pw_below_drewN | apply below_drew1) | exact HB.out)) hb); have n1_ := Aside0.mk (hbox); have n2_ := Aside0.mk ((by rw [hg]; exact (below_size (by repeat (first | (with_reducible first | exact HB.out | apply below_alloc | apply pw_below_drewN | apply below_drew1) | exact HB.out))) : w.heap.size ≤ gb101)); have n3_ := n2_; clear HB; have HB := n0_; have BK101 := n1_; have GW101 := n2_; have GE101 := n3_; clear n0_ n1_ n2_ n3_; clear hb hbox hg) | ((with_reducible refine gate_dst (N := 4) rfl ?_); refine box_event ?hg (N := 4) ?hd (cs := #[.int .i64 a1_0, .int .i64 a1_1, .int .i64 a1_2, .string a1_3]) (t := 23) ?hr ?_; (case hd => rfl); (case hg => rfl); (case hr => first | (go_simp; done) | (go_simp; rfl)); intro gb102 hg w74 hbox hb; have n0_ := Aside0.mk (blk_below (zk BK101.out) hb); have n1_ := Aside0.mk (below_step (by repeat (first | (with_reducible first | exact HB.out | apply below_alloc | apply pw_below_drewN | apply below_drew1 | refine below_set ?_ GE101.out) | exact HB.out)) hb); have n2_ := Aside0.mk (hbox); have n3_ := Aside0.mk ((by rw [hg]; exact (below_size (by repeat (first | (with_reducible first | exact HB.out | apply below_alloc | apply pw_below_drewN | apply below_drew1 | refine below_set ?_ GE101.out) | exact HB.out))) : w.heap.size ≤ gb102)); have n4_ := n3_; have n5_ := Aside0.mk ((by rw [hg]; exact Nat.ne_of_lt (blk_lt (zk BK101.out)) : gb101 ≠ gb102)); have n6_ := Aside0.mk ((by rw [hg]; exact Nat.ne_of_gt (blk_lt (zk BK101.out)) : gb102 ≠ gb101)); clear BK101; clear HB; have BK101 := n0_; have HB := n1_; have BK102 := n2_; have GW102 := n3_; have GE102 := n4_; have NB101_102 := n5_; have NB102_101 := n6_; clear n0_ n1_ n2_ n3_ n4_ n5_ n6_; clear hb hbox hg) | ((with_reducible refine gate_dst (N := 5) rfl ?_); refine box_event ?hg (N := 5) ?hd (cs := #[.int .i64 a2_0, .int .i64 a2_1, .int .i64 a2_2, .string a2_3]) (t := 23) ?hr ?_; (case hd => rfl); (case hg => rfl); (case hr => first | (go_simp; done) | (go_simp; rfl)); intro gb103 hg w75 hbox hb; have n0_ := Aside0.mk (blk_below (zk BK101.out) hb); have n1_ := Aside0.mk (blk_below (zk BK102.out) hb); have n2_ := Aside0.mk (below_step (by repeat (first | (with_reducible first | exact HB.out | apply below_alloc | apply pw_below_drewN | apply below_drew1 | refine below_set ?_ GE101.out | refine below_set ?_ GE102.out) | exact HB.out)) hb); have n3_ := Aside0.mk (hbox); have n4_ := Aside0.mk ((by rw [hg]; exact (below_size (by repeat (first | (with_reducible first | exact HB.out | apply below_alloc | apply pw_below_drewN | apply below_drew1 | refine below_set ?_ GE101.out | refine below_set ?_ GE102.out) | exact HB.out))) : w.heap.size ≤ gb103)); have n5_ := n4_; have n6_ := Aside0.mk ((by rw [hg]; exact Nat.ne_of_lt (blk_lt (zk BK101.out)) : gb101 ≠ gb103)); have n7_ := Aside0.mk ((by rw [hg]; exact Nat.ne_of_gt (blk_lt (zk BK101.out)) : gb103 ≠ gb101)); have n8_ := Aside0.mk ((by rw [hg]; exact Nat.ne_of_lt (blk_lt (zk BK102.out)) : gb102 ≠ gb103)); have n9_ := Aside0.mk ((by rw [hg]; exact Nat.ne_of_gt (blk_lt (zk BK102.out)) : gb103 ≠ gb102)); clear BK101; clear BK102; clear HB; have BK101 := n0_; have BK102 := n1_; have HB := n2_; have BK103 := n3_; have GW103 := n4_; have GE103 := n5_; have NB101_103 := n6_; have NB103_101 := n7_; have NB102_103 := n8_; have NB103_102 := n9_; clear n0_ n1_ n2_ n3_ n4_ n5_ n6_ n7_ n8_ n9_; clear hb hbox hg) | ((with_reducible refine gate_dst (N := 6) rfl ?_); refine box_event ?hg (N := 6) ?hd (cs := #[.int .i64 0, .int .i64 0, .int .i64 0, .string (⟨#[]⟩ : ByteArray)]) (t := 23) ?hr ?_; (case hd => rfl); (case hg => rfl); (case hr => first | (go_simp; done) | (go_simp; rfl)); intro gb104 hg w76 hbox hb; have n0_ := Aside0.mk (blk_below (zk BK101.out) hb); have n1_ := Aside0.mk (blk_below (zk BK102.out) hb); have n2_ := Aside0.mk (blk_below (zk BK103.out) hb); have n3_ := Aside0.mk (below_step (by repeat (first | (with_reducible first | exact HB.out | apply below_alloc | apply pw_below_drewN | apply below_drew1 | refine below_set ?_ GE101.out | refine below_set ?_ GE102.out | refine below_set ?_ GE103.out) | exact HB.out)) hb); have n4_ := Aside0.mk (hbox); have n5_ := Aside0.mk ((by rw [hg]; exact (below_size (by repeat (first | (with_reducible first | exact HB.out | apply below_alloc | apply pw_below_drewN | apply below_drew1 | refine below_set ?_ GE101.out | refine below_set ?_ GE102.out | refine below_set ?_ GE103.out) | exact HB.out))) : w.heap.size ≤ gb104)); have n6_ := n5_; have n7_ := Aside0.mk ((by rw [hg]; exact Nat.ne_of_lt (blk_lt (zk BK101.out)) : gb101 ≠ gb104)); have n8_ := Aside0.mk ((by rw [hg]; exact Nat.ne_of_gt (blk_lt (zk BK101.out)) : gb104 ≠ gb101)); have n9_ := Aside0.mk ((by rw [hg]; exact Nat.ne_of_lt (blk_lt (zk BK102.out)) : gb102 ≠ gb104)); have n10_ := Aside0.mk ((by rw [hg]; exact Nat.ne_of_gt (blk_lt (zk BK102.out)) : gb104 ≠ gb102)); have n11_ := Aside0.mk ((by rw [hg]; exact Nat.ne_of_lt (blk_lt (zk BK103.out)) : gb103 ≠ gb104)); have n12_ := Aside0.mk ((by rw [hg]; exact Nat.ne_of_gt (blk_lt (zk BK103.out)) : gb104 ≠ gb103)); clear BK101; clear BK102; clear BK103; clear HB; have BK101 := n0_; have BK102 := n1_; have BK103 := n2_; have HB := n3_; have BK104 := n4_; have GW104 := n5_; have GE104 := n6_; have NB101_104 := n7_; have NB104_101 := n8_; have NB102_104 := n9_; have NB104_102 := n10_; have NB103_104 := n11_; have NB104_103 := n12_; clear n0_ n1_ n2_ n3_ n4_ n5_ n6_ n7_ n8_ n9_ n10_ n11_ n12_; clear hb hbox hg; have hnb77 := NB101_102.out; have hnc77 := NB102_101.out; have hnb78 := NB101_103.out; have hnc78 := NB103_101.out; have hnb79 := NB101_104.out; have hnc79 := NB104_101.out; obtain ⟨hcz80_0, hcz80_1, hcz80_2, hcz80_3⟩ := blk_quad BK101.out; obtain ⟨hfz80_0, hfz80_1, hfz80_2, hfz80_3⟩ := blk_quad_free BK101.out; have hnb81 := NB102_103.out; have hnc81 := NB103_102.out; have hnb82 := NB102_104.out; have hnc82 := NB104_102.out; obtain ⟨hcz83_0, hcz83_1, hcz83_2, hcz83_3⟩ := blk_quad BK102.out; obtain ⟨hfz83_0, hfz83_1, hfz83_2, hfz83_3⟩ := blk_quad_free BK102.out; have hnb84 := NB103_104.out; have hnc84 := NB104_103.out; obtain ⟨hcz85_0, hcz85_1, hcz85_2, hcz85_3⟩ := blk_quad BK103.out; obtain ⟨hfz85_0, hfz85_1, hfz85_2, hfz85_3⟩ := blk_quad_free BK103.out) | ((with_reducible refine gate_dst (N := 16) rfl ?_); refine Kd.R_lit k23 _ 23 ?hg (N := 16) ?hd (xs := ([(⟨a0_0, a0_1, a0_2, a0_3⟩ : S23), (⟨a1_0, a1_1, a1_2, a1_3⟩ : S23), (⟨a2_0, a2_1, a2_2, a2_3⟩ : S23)] : List (S23))) (inner := [.int .i64 a0_0, .int .i64 a0_1, .int .i64 a0_2, .string a0_3, .int .i64 a1_0, .int .i64 a1_1, .int .i64 a1_2, .string a1_3, .int .i64 a2_0, .int .i64 a2_1, .int .i64 a2_2, .string a2_3]) (ok := fun _ => True) (okp := fun _ => True) ?hr ?hp (fun _ hk => hk) trivial (Below.refl _ _) (Nat.le_refl _) (by simp) ?_; (case hd => rfl); (case hg => rfl); (case hr => first | (go_simp; done) | (go_simp; rfl)); (case hp => exact (Reps.c4 (show Kd.M k23 _ _ _ (⟨a0_0, a0_1, a0_2, a0_3⟩ : S23) [.int .i64 a0_0, .int .i64 a0_1, .int .i64 a0_2, .string a0_3] from (k23_mkM _ _ _ (⟨a0_0, a0_1, a0_2, a0_3⟩ : S23) )) (Reps.c4 (show Kd.M k23 _ _ _ (⟨a1_0, a1_1, a1_2, a1_3⟩ : S23) [.int .i64 a1_0, .int .i64 a1_1, .int .i64 a1_2, .string a1_3] from (k23_mkM _ _ _ (⟨a1_0, a1_1, a1_2, a1_3⟩ : S23) )) (Reps.c4 (show Kd.M k23 _ _ _ (⟨a2_0, a2_1, a2_2, a2_3⟩ : S23) [.int .i64 a2_0, .int .i64 a2_1, .int .i64 a2_2, .string a2_3] from (k23_mkM _ _ _ (⟨a2_0, a2_1, a2_2, a2_3⟩ : S23) )) (Reps.none _ _))))); intro v106 w86 ho87 hb hg_ hnew_; clear hg_ hnew_; (first | rw [← Ny105.out] at ho87 | (simp only [Int.reduceToNat] at ho87; rw [← Ny105.out] at ho87)); have n0_ := Aside0.mk (Kd.R_lower (Kd.R_newB (Kd.R_newB (Kd.R_newB (Kd.R_newB ho87 (g := gb101) (o := .cells #[.int .i64 a0_0, .int .i64 a0_1, .int .i64 a0_2, .string a0_3] 23 (0, 0)) (zk BK101.out)) (g := gb102) (o := .cells #[.int .i64 a1_0, .int .i64 a1_1, .int .i64 a1_2, .string a1_3] 23 (0, 0)) (zk BK102.out)) (g := gb103) (o := .cells #[.int .i64 a2_0, .int .i64 a2_1, .int .i64 a2_2, .string a2_3] 23 (0, 0)) (zk BK103.out)) (g := gb104) (o := .cells #[.int .i64 0, .int .i64 0, .int .i64 0, .string (⟨#[]⟩ : ByteArray)] 23 (0, 0)) (zk BK104.out)) (below_size (by repeat (first | (with_reducible first | exact HB.out | apply below_alloc | apply pw_below_drewN | apply below_drew1 | refine below_set ?_ GE101.out | refine below_set ?_ GE102.out | refine below_set ?_ GE103.out | refine below_set ?_ GE104.out) | exact HB.out)))); have n1_ := Aside0.mk (blk_below (zk BK101.out) hb); have n2_ := Aside0.mk (blk_below (zk BK102.out) hb); have n3_ := Aside0.mk (blk_below (zk BK103.out) hb); have n4_ := Aside0.mk (blk_below (zk BK104.out) hb); have n5_ := Aside0.mk (below_step (by repeat (first | (with_reducible first | exact HB.out | apply below_alloc | apply pw_below_drewN | apply below_drew1 | refine below_set ?_ GE101.out | refine below_set ?_ GE102.out | refine below_set ?_ GE103.out | refine below_set ?_ GE104.out) | exact HB.out)) hb); clear BK101; clear BK102; clear BK103; clear BK104; clear HB; have HO107 := n0_; have BK101 := n1_; have BK102 := n2_; have BK103 := n3_; have BK104 := n4_; have HB := n5_; clear n0_ n1_ n2_ n3_ n4_ n5_; clear hb ho87; obtain ⟨Ao88, co88, eo88⟩ := Kd.R_slice HO107.out; subst eo88) | (go_at_call 57; (with_reducible refine (ironbarkref05_stringsT.calls _ _ y105 0 t108 _ ?side1 ?side2 A4.out).mono ?_); (case side1 => repeat (first | exact (Kd.R_reads' HO107.out).2.2 | (with_reducible refine Kd.C_alloc ?_ _) | (with_reducible refine Kd.C_drewN ?_ _) | (with_reducible refine Kd.C_drew ?_))); (case side2 => exact (Kd.R_reads' HO107.out).2.1); rintro e w89 ⟨rfl, hb⟩; have n0_ := Aside0.mk (Kd.R_below (by (with_reducible repeat (first | apply Kd.R_alloc | apply Kd.R_drewN | apply Kd.R_drew)); exact HO107.out) hb); have n1_ := Aside0.mk (blk_below (zk BK101.out) hb); have n2_ := Aside0.mk (blk_below (zk BK102.out) hb); have n3_ := Aside0.mk (blk_below (zk BK103.out) hb); have n4_ := Aside0.mk (blk_below (zk BK104.out) hb); have n5_ := Aside0.mk (below_step (by repeat (first | (with_reducible first | exact HB.out | apply below_alloc | apply pw_below_drewN | apply below_drew1 | refine below_set ?_ GE101.out | refine below_set ?_ GE102.out | refine below_set ?_ GE103.out | refine below_set ?_ GE104.out) | exact HB.out)) hb); clear HO107; clear BK101; clear BK102; clear BK103; clear BK104; clear HB; have HO107 := n0_; have BK101 := n1_; have BK102 := n2_; have BK103 := n3_; have BK104 := n4_; have HB := n5_; clear n0_ n1_ n2_ n3_ n4_ n5_; (try clear hb); (try clear hb2); (try clear hk); (try clear hi); obtain ⟨hcz90_0, hcz90_1, hcz90_2, hcz90_3⟩ := blk_quad BK104.out; obtain ⟨hfz90_0, hfz90_1, hfz90_2, hfz90_3⟩ := blk_quad_free BK104.out)); try go_wp2_with (first | ((with_reducible refine gate_dst (N := 3) rfl ?_); refine box_event ?hg (N := 3) ?hd (cs := #[.int .i64 a0_0, .int .i64 a0_1, .int .i64 a0_2, .string a0_3]) (t := 23) ?hr ?_; (case hd => rfl); (case hg => rfl); (case hr => first | (go_simp; done) | (go_simp; rfl)); intro gb101 hg w73 hbox hb; have n0_ := Aside0.mk (below_step (by repeat (first | (with_reducible first | exact HB.out | apply below_alloc | apply pw_below_drewN | apply below_drew1) | exact HB.out)) hb); have n1_ := Aside0.mk (hbox); have n2_ := Aside0.mk ((by rw [hg]; exact (below_size (by repeat (first | (with_reducible first | exact HB.out | apply below_alloc | apply pw_below_drewN | apply below_drew1) | exact HB.out))) : w.heap.size ≤ gb101)); have n3_ := n2_; clear HB; have HB := n0_; have BK101 := n1_; have GW101 := n2_; have GE101 := n3_; clear n0_ n1_ n2_ n3_; clear hb hbox hg) | ((with_reducible refine gate_dst (N := 4) rfl ?_); refine box_event ?hg (N := 4) ?hd (cs := #[.int .i64 a1_0, .int .i64 a1_1, .int .i64 a1_2, .string a1_3]) (t := 23) ?hr ?_; (case hd => rfl); (case hg => rfl); (case hr => first | (go_simp; done) | (go_simp; rfl)); intro gb102 hg w74 hbox hb; have n0_ := Aside0.mk (blk_below (zk BK101.out) hb); have n1_ := Aside0.mk (below_step (by repeat (first | (with_reducible first | exact HB.out | apply below_alloc | apply pw_below_drewN | apply below_drew1 | refine below_set ?_ GE101.out) | exact HB.out)) hb); have n2_ := Aside0.mk (hbox); have n3_ := Aside0.mk ((by rw [hg]; exact (below_size (by repeat (first | (with_reducible first | exact HB.out | apply below_alloc | apply pw_below_drewN | apply below_drew1 | refine below_set ?_ GE101.out) | exact HB.out))) : w.heap.size ≤ gb102)); have n4_ := n3_; have n5_ := Aside0.mk ((by rw [hg]; exact Nat.ne_of_lt (blk_lt (zk BK101.out)) : gb101 ≠ gb102)); have n6_ := Aside0.mk ((by rw [hg]; exact Nat.ne_of_gt (blk_lt (zk BK101.out)) : gb102 ≠ gb101)); clear BK101; clear HB; have BK101 := n0_; have HB := n1_; have BK102 := n2_; have GW102 := n3_; have GE102 := n4_; have NB101_102 := n5_; have NB102_101 := n6_; clear n0_ n1_ n2_ n3_ n4_ n5_ n6_; clear hb hbox hg) | ((with_reducible refine gate_dst (N := 5) rfl ?_); refine box_event ?hg (N := 5) ?hd (cs := #[.int .i64 a2_0, .int .i64 a2_1, .int .i64 a2_2, .string a2_3]) (t := 23) ?hr ?_; (case hd => rfl); (case hg => rfl); (case hr => first | (go_simp; done) | (go_simp; rfl)); intro gb103 hg w75 hbox hb; have n0_ := Aside0.mk (blk_below (zk BK101.out) hb); have n1_ := Aside0.mk (blk_below (zk BK102.out) hb); have n2_ := Aside0.mk (below_step (by repeat (first | (with_reducible first | exact HB.out | apply below_alloc | apply pw_below_drewN | apply below_drew1 | refine below_set ?_ GE101.out | refine below_set ?_ GE102.out) | exact HB.out)) hb); have n3_ := Aside0.mk (hbox); have n4_ := Aside0.mk ((by rw [hg]; exact (below_size (by repeat (first | (with_reducible first | exact HB.out | apply below_alloc | apply pw_below_drewN | apply below_drew1 | refine below_set ?_ GE101.out | refine below_set ?_ GE102.out) | exact HB.out))) : w.heap.size ≤ gb103)); have n5_ := n4_; have n6_ := Aside0.mk ((by rw [hg]; exact Nat.ne_of_lt (blk_lt (zk BK101.out)) : gb101 ≠ gb103)); have n7_ := Aside0.mk ((by rw [hg]; exact Nat.ne_of_gt (blk_lt (zk BK101.out)) : gb103 ≠ gb101)); have n8_ := Aside0.mk ((by rw [hg]; exact Nat.ne_of_lt (blk_lt (zk BK102.out)) : gb102 ≠ gb103)); have n9_ := Aside0.mk ((by rw [hg]; exact Nat.ne_of_gt (blk_lt (zk BK102.out)) : gb103 ≠ gb102)); clear BK101; clear BK102; clear HB; have BK101 := n0_; have BK102 := n1_; have HB := n2_; have BK103 := n3_; have GW103 := n4_; have GE103 := n5_; have NB101_103 := n6_; have NB103_101 := n7_; have NB102_103 := n8_; have NB103_102 := n9_; clear n0_ n1_ n2_ n3_ n4_ n5_ n6_ n7_ n8_ n9_; clear hb hbox hg) | ((with_reducible refine gate_dst (N := 6) rfl ?_); refine box_event ?hg (N := 6) ?hd (cs := #[.int .i64 0, .int .i64 0, .int .i64 0, .string (⟨#[]⟩ : ByteArray)]) (t := 23) ?hr ?_; (case hd => rfl); (case hg => rfl); (case hr => first | (go_simp; done) | (go_simp; rfl)); intro gb104 hg w76 hbox hb; have n0_ := Aside0.mk (blk_below (zk BK101.out) hb); have n1_ := Aside0.mk (blk_below (zk BK102.out) hb); have n2_ := Aside0.mk (blk_below (zk BK103.out) hb); have n3_ := Aside0.mk (below_step (by repeat (first | (with_reducible first | exact HB.out | apply below_alloc | apply pw_below_drewN | apply below_drew1 | refine below_set ?_ GE101.out | refine below_set ?_ GE102.out | refine below_set ?_ GE103.out) | exact HB.out)) hb); have n4_ := Aside0.mk (hbox); have n5_ := Aside0.mk ((by rw [hg]; exact (below_size (by repeat (first | (with_reducible first | exact HB.out | apply below_alloc | apply pw_below_drewN | apply below_drew1 | refine below_set ?_ GE101.out | refine below_set ?_ GE102.out | refine below_set ?_ GE103.out) | exact HB.out))) : w.heap.size ≤ gb104)); have n6_ := n5_; have n7_ := Aside0.mk ((by rw [hg]; exact Nat.ne_of_lt (blk_lt (zk BK101.out)) : gb101 ≠ gb104)); have n8_ := Aside0.mk ((by rw [hg]; exact Nat.ne_of_gt (blk_lt (zk BK101.out)) : gb104 ≠ gb101)); have n9_ := Aside0.mk ((by rw [hg]; exact Nat.ne_of_lt (blk_lt (zk BK102.out)) : gb102 ≠ gb104)); have n10_ := Aside0.mk ((by rw [hg]; exact Nat.ne_of_gt (blk_lt (zk BK102.out)) : gb104 ≠ gb102)); have n11_ := Aside0.mk ((by rw [hg]; exact Nat.ne_of_lt (blk_lt (zk BK103.out)) : gb103 ≠ gb104)); have n12_ := Aside0.mk ((by rw [hg]; exact Nat.ne_of_gt (blk_lt (zk BK103.out)) : gb104 ≠ gb103)); clear BK101; clear BK102; clear BK103; clear HB; have BK101 := n0_; have BK102 := n1_; have BK103 := n2_; have HB := n3_; have BK104 := n4_; have GW104 := n5_; have GE104 := n6_; have NB101_104 := n7_; have NB104_101 := n8_; have NB102_104 := n9_; have NB104_102 := n10_; have NB103_104 := n11_; have NB104_103 := n12_; clear n0_ n1_ n2_ n3_ n4_ n5_ n6_ n7_ n8_ n9_ n10_ n11_ n12_; clear hb hbox hg; have hnb77 := NB101_102.out; have hnc77 := NB102_101.out; have hnb78 := NB101_103.out; have hnc78 := NB103_101.out; have hnb79 := NB101_104.out; have hnc79 := NB104_101.out; obtain ⟨hcz80_0, hcz80_1, hcz80_2, hcz80_3⟩ := blk_quad BK101.out; obtain ⟨hfz80_0, hfz80_1, hfz80_2, hfz80_3⟩ := blk_quad_free BK101.out; have hnb81 := NB102_103.out; have hnc81 := NB103_102.out; have hnb82 := NB102_104.out; have hnc82 := NB104_102.out; obtain ⟨hcz83_0, hcz83_1, hcz83_2, hcz83_3⟩ := blk_quad BK102.out; obtain ⟨hfz83_0, hfz83_1, hfz83_2, hfz83_3⟩ := blk_quad_free BK102.out; have hnb84 := NB103_104.out; have hnc84 := NB104_103.out; obtain ⟨hcz85_0, hcz85_1, hcz85_2, hcz85_3⟩ := blk_quad BK103.out; obtain ⟨hfz85_0, hfz85_1, hfz85_2, hfz85_3⟩ := blk_quad_free BK103.out) | ((with_reducible refine gate_dst (N := 16) rfl ?_); refine Kd.R_lit k23 _ 23 ?hg (N := 16) ?hd (xs := ([(⟨a0_0, a0_1, a0_2, a0_3⟩ : S23), (⟨a1_0, a1_1, a1_2, a1_3⟩ : S23), (⟨a2_0, a2_1, a2_2, a2_3⟩ : S23)] : List (S23))) (inner := [.int .i64 a0_0, .int .i64 a0_1, .int .i64 a0_2, .string a0_3, .int .i64 a1_0, .int .i64 a1_1, .int .i64 a1_2, .string a1_3, .int .i64 a2_0, .int .i64 a2_1, .int .i64 a2_2, .string a2_3]) (ok := fun _ => True) (okp := fun _ => True) ?hr ?hp (fun _ hk => hk) trivial (Below.refl _ _) (Nat.le_refl _) (by simp) ?_; (case hd => rfl); (case hg => rfl); (case hr => first | (go_simp; done) | (go_simp; rfl)); (case hp => exact (Reps.c4 (show Kd.M k23 _ _ _ (⟨a0_0, a0_1, a0_2, a0_3⟩ : S23) [.int .i64 a0_0, .int .i64 a0_1, .int .i64 a0_2, .string a0_3] from (k23_mkM _ _ _ (⟨a0_0, a0_1, a0_2, a0_3⟩ : S23) )) (Reps.c4 (show Kd.M k23 _ _ _ (⟨a1_0, a1_1, a1_2, a1_3⟩ : S23) [.int .i64 a1_0, .int .i64 a1_1, .int .i64 a1_2, .string a1_3] from (k23_mkM _ _ _ (⟨a1_0, a1_1, a1_2, a1_3⟩ : S23) )) (Reps.c4 (show Kd.M k23 _ _ _ (⟨a2_0, a2_1, a2_2, a2_3⟩ : S23) [.int .i64 a2_0, .int .i64 a2_1, .int .i64 a2_2, .string a2_3] from (k23_mkM _ _ _ (⟨a2_0, a2_1, a2_2, a2_3⟩ : S23) )) (Reps.none _ _))))); intro v106 w86 ho87 hb hg_ hnew_; clear hg_ hnew_; (first | rw [← Ny105.out] at ho87 | (simp only [Int.reduceToNat] at ho87; rw [← Ny105.out] at ho87)); have n0_ := Aside0.mk (Kd.R_lower (Kd.R_newB (Kd.R_newB (Kd.R_newB (Kd.R_newB ho87 (g := gb101) (o := .cells #[.int .i64 a0_0, .int .i64 a0_1, .int .i64 a0_2, .string a0_3] 23 (0, 0)) (zk BK101.out)) (g := gb102) (o := .cells #[.int .i64 a1_0, .int .i64 a1_1, .int .i64 a1_2, .string a1_3] 23 (0, 0)) (zk BK102.out)) (g := gb103) (o := .cells #[.int .i64 a2_0, .int .i64 a2_1, .int .i64 a2_2, .string a2_3] 23 (0, 0)) (zk BK103.out)) (g := gb104) (o := .cells #[.int .i64 0, .int .i64 0, .int .i64 0, .string (⟨#[]⟩ : ByteArray)] 23 (0, 0)) (zk BK104.out)) (below_size (by repeat (first | (with_reducible first | exact HB.out | apply below_alloc | apply pw_below_drewN | apply below_drew1 | refine below_set ?_ GE101.out | refine below_set ?_ GE102.out | refine below_set ?_ GE103.out | refine below_set ?_ GE104.out) | exact HB.out)))); have n1_ := Aside0.mk (blk_below (zk BK101.out) hb); have n2_ := Aside0.mk (blk_below (zk BK102.out) hb); have n3_ := Aside0.mk (blk_below (zk BK103.out) hb); have n4_ := Aside0.mk (blk_below (zk BK104.out) hb); have n5_ := Aside0.mk (below_step (by repeat (first | (with_reducible first | exact HB.out | apply below_alloc | apply pw_below_drewN | apply below_drew1 | refine below_set ?_ GE101.out | refine below_set ?_ GE102.out | refine below_set ?_ GE103.out | refine below_set ?_ GE104.out) | exact HB.out)) hb); clear BK101; clear BK102; clear BK103; clear BK104; clear HB; have HO107 := n0_; have BK101 := n1_; have BK102 := n2_; have BK103 := n3_; have BK104 := n4_; have HB := n5_; clear n0_ n1_ n2_ n3_ n4_ n5_; clear hb ho87; obtain ⟨Ao88, co88, eo88⟩ := Kd.R_slice HO107.out; subst eo88) | (go_at_call 57; (with_reducible refine (ironbarkref05_stringsT.calls _ _ y105 0 t108 _ ?side1 ?side2 A4.out).mono ?_); (case side1 => repeat (first | exact (Kd.R_reads' HO107.out).2.2 | (with_reducible refine Kd.C_alloc ?_ _) | (with_reducible refine Kd.C_drewN ?_ _) | (with_reducible refine Kd.C_drew ?_))); (case side2 => exact (Kd.R_reads' HO107.out).2.1); rintro e w89 ⟨rfl, hb⟩; have n0_ := Aside0.mk (Kd.R_below (by (with_reducible repeat (first | apply Kd.R_alloc | apply Kd.R_drewN | apply Kd.R_drew)); exact HO107.out) hb); have n1_ := Aside0.mk (blk_below (zk BK101.out) hb); have n2_ := Aside0.mk (blk_below (zk BK102.out) hb); have n3_ := Aside0.mk (blk_below (zk BK103.out) hb); have n4_ := Aside0.mk (blk_below (zk BK104.out) hb); have n5_ := Aside0.mk (below_step (by repeat (first | (with_reducible first | exact HB.out | apply below_alloc | apply pw_below_drewN | apply below_drew1 | refine below_set ?_ GE101.out | refine below_set ?_ GE102.out | refine below_set ?_ GE103.out | refine below_set ?_ GE104.out) | exact HB.out)) hb); clear HO107; clear BK101; clear BK102; clear BK103; clear BK104; clear HB; have HO107 := n0_; have BK101 := n1_; have BK102 := n2_; have BK103 := n3_; have BK104 := n4_; have HB := n5_; clear n0_ n1_ n2_ n3_ n4_ n5_; (try clear hb); (try clear hb2); (try clear hk); (try clear hi); obtain ⟨hcz90_0, hcz90_1, hcz90_2, hcz90_3⟩ := blk_quad BK104.out; obtain ⟨hfz90_0, hfz90_1, hfz90_2, hfz90_3⟩ := blk_quad_free BK104.out)))
    refine bodyPost_ret (results_ct rfl _ _ gb104 23 #[.int .i64 0, .int .i64 0, .int .i64 0, .string (⟨#[]⟩ : ByteArray)] (0, 0) _ rfl (by refine zk ?_; refine blk_put (cs := #[.int .i64 0, .int .i64 0, .int .i64 0, .string (⟨#[]⟩ : ByteArray)]) ?_ 3 _ rfl; refine zk ?_; refine blk_put (cs := #[.int .i64 0, .int .i64 0, .int .i64 0, .string (⟨#[]⟩ : ByteArray)]) ?_ 2 _ rfl; refine zk ?_; refine blk_put (cs := #[.int .i64 0, .int .i64 0, .int .i64 0, .string (⟨#[]⟩ : ByteArray)]) ?_ 1 _ rfl; refine zk ?_; refine blk_put (cs := #[.int .i64 0, .int .i64 0, .int .i64 0, .string (⟨#[]⟩ : ByteArray)]) ?_ 0 _ rfl; refine zk ?_; exact BK104.out) Try.underlying23 rfl (by kernel_rfl)) rfl ?_
    exact ⟨by first | rfl | (simp [errW_none, errW_some] <;> rfl) | (simp [*, errW_none, errW_some] <;> rfl), by repeat (first | (with_reducible first | exact HB.out | apply below_alloc | apply pw_below_drewN | apply below_drew1 | refine below_set ?_ GE101.out | refine below_set ?_ GE102.out | refine below_set ?_ GE103.out | refine below_set ?_ GE104.out) | exact HB.out)⟩
end Go.Proofs.Ytnelblndidciiaa.P

-- from the text D87
namespace Go.Proofs.Ytnelblndidciiaa.P
open Go.RowKit Go.Proofs.YtnelblndidciiaaW.PrintWords Go.Proofs.YtnelblndidciiaaW.PrintLast Go.Proofs.YtnelblndidciiaaW.PrintMore
attribute [local go_sem] max2_int min2_int max_two min_two max_three min_three max_four min_four   -- for this text's walks alone
set_option linter.unusedVariables false
set_option linter.unusedSimpArgs false
def bits_times.j0 : Nat → Int → Bool → Int → Int → Int → ByteArray → Option (Int × Int × Int × ByteArray × Int)
  | 0, _, _, _, _, _, _ => none
  | k + 1, x1, x17, x102000, x102001, x102002, x102003 => if x17 = true then (some (0, 0, 0, (⟨#[]⟩ : ByteArray), 3)) else (if (x102003.size : Int) = 0 then (some (x102000, x102001, x102002, x102003, 0)) else ((strings_Repeat.f x102003 x1).bind fun t103 => ((bits_with.f x102000 x102001 x102002 x102003 t103).bind fun bt104 => (some (bt104.1, bt104.2.1, bt104.2.2.1, bt104.2.2.2, 0)))))
def bits_times.f (k : Nat) (a0_0 : Int) (a0_1 : Int) (a0_2 : Int) (a0_3 : ByteArray) (a1 : Int) : Option (Int × Int × Int × ByteArray × Int) := if (a0_3.size : Int) > 0 then (if (a0_3.size : Int) = 0 then (none) else (bits_times.j0 k a1 (decide (a1 > (wrap64 ((250 : Int) / (a0_3.size : Int))))) a0_0 a0_1 a0_2 a0_3)) else (bits_times.j0 k a1 false a0_0 a0_1 a0_2 a0_3)
def bits_times.T5 : Bool × List (List Nat × List Nat) := (true, [([], []), ([], []), ([1], [1]), ([], []), ([2, 3], [2, 3]), ([0, 4, 4], [0, 4]), ([5, 5, 0, 1, 2, 3, 4, 5], [5]), ([6, 0, 1, 2, 3, 4, 5, 6], [])])
def bits_times.B5 : List Nat := [0, 0, 2, 0, 14, 31, 63, 127]
theorem bits_times.tab5 : rtab .any (opsOf Try.f87 5) = bits_times.T5 := by kernel_rfl
theorem bits_times.bits5 : waitsOk bits_times.T5.2 bits_times.B5 = true := by kernel_rfl
set_option maxHeartbeats 8000000 in
set_option maxRecDepth 100000 in
theorem bits_times.calls (k : Nat) (a0_0 : Int) (a0_1 : Int) (a0_2 : Int) (a0_3 : ByteArray) (a1 : Int) (r1 : Int) (r2 : Int) (r3 : Int) (r4 : ByteArray) (r5 : Int) (w : World) (h : bits_times.f k a0_0 a0_1 a0_2 a0_3 a1 = some (r1, r2, r3, r4, r5)) :
    Calls Try.prog 87 #[.agg #[.int .i64 a0_0, .int .i64 a0_1, .int .i64 a0_2, .string a0_3], .int .i64 a1] w fun e w' => e = .returned (.tuple #[.agg #[.int .i64 r1, .int .i64 r2, .int .i64 r3, .string r4], .int .i64 r5]) ∧ Below w.heap.size w w' := by
  have hu23 := Try.underlying23
  have HB := Aside0.mk (Below.refl w.heap.size w)
  have H : (if (a0_3.size : Int) > 0 then (if (a0_3.size : Int) = 0 then (none) else (bits_times.j0 k a1 (decide (a1 > (wrap64 ((250 : Int) / (a0_3.size : Int))))) a0_0 a0_1 a0_2 a0_3)) else (bits_times.j0 k a1 false a0_0 a0_1 a0_2 a0_3)) = some (r1, r2, r3, r4, r5) := h
  clear h
  have HC3 := Aside0.mk H
  clear H
  go_enter Try.func87, Try.ntmps87
  go_upto_region 1 with (first | ((with_reducible refine gate_dst (N := 2) rfl ?_); (try (refine gate_guard (by rfl) ?_; dsimp only)); refine box_event ?hg (N := 2) ?hd (cs := #[.int .i64 a0_0, .int .i64 a0_1, .int .i64 a0_2, .string a0_3]) (t := 23) ?hr ?_; (case hd => rfl); (case hg => rfl); (case hr => first | (go_simp; done) | (go_simp; rfl)); intro gb101 hg w4 hbox hb; have n0_ := Aside0.mk (below_step (by repeat (first | (with_reducible first | exact HB.out | apply below_alloc | apply pw_below_drewN | apply below_drew1) | exact HB.out)) hb); have n1_ := Aside0.mk (hbox); have n2_ := Aside0.mk ((by rw [hg]; exact (below_size (by repeat (first | (with_reducible first | exact HB.out | apply below_alloc | apply pw_below_drewN | apply below_drew1) | exact HB.out))) : w.heap.size ≤ gb101)); have n3_ := n2_; clear HB; have HB := n0_; have BK101 := n1_; have GW101 := n2_; have GE101 := n3_; clear n0_ n1_ n2_ n3_; clear hb hbox hg) | ((with_reducible refine gate_dst (N := 4) rfl ?_); (try (refine gate_guard (by rfl) ?_; dsimp only)); refine box_event ?hg (N := 4) ?hd (cs := #[.int .i64 0, .int .i64 0, .int .i64 0, .string (⟨#[]⟩ : ByteArray)]) (t := 23) ?hr ?_; (case hd => rfl); (case hg => rfl); (case hr => first | (go_simp; done) | (go_simp; rfl)); intro gb102 hg w5 hbox hb; have n0_ := Aside0.mk (blk_below (zk BK101.out) hb); have n1_ := Aside0.mk (below_step (by repeat (first | (with_reducible first | exact HB.out | apply below_alloc | apply pw_below_drewN | apply below_drew1 | refine below_set ?_ GE101.out) | exact HB.out)) hb); have n2_ := Aside0.mk (hbox); have n3_ := Aside0.mk ((by rw [hg]; exact (below_size (by repeat (first | (with_reducible first | exact HB.out | apply below_alloc | apply pw_below_drewN | apply below_drew1 | refine below_set ?_ GE101.out) | exact HB.out))) : w.heap.size ≤ gb102)); have n4_ := n3_; have n5_ := Aside0.mk ((by rw [hg]; exact Nat.ne_of_lt (blk_lt (zk BK101.out)) : gb101 ≠ gb102)); have n6_ := Aside0.mk ((by rw [hg]; exact Nat.ne_of_gt (blk_lt (zk BK101.out)) : gb102 ≠ gb101)); clear BK101; clear HB; have BK101 := n0_; have HB := n1_; have BK102 := n2_; have GW102 := n3_; have GE102 := n4_; have NB101_102 := n5_; have NB102_101 := n6_; clear n0_ n1_ n2_ n3_ n4_ n5_ n6_; clear hb hbox hg))
  (try simp only [Act.put, List.setIfInBounds_toArray, List.set_cons_zero, List.set_cons_succ])
  go_cut [17] (fun v17 wc => ∃ (kq : Nat) (x17_2 : Bool), v17 = .bool x17_2 ∧ Aside0 (bits_times.j0 kq a1 x17_2 a0_0 a0_1 a0_2 a0_3 = some (r1, r2, r3, r4, r5)) ∧ Aside0 (kq ≤ k) ∧ Aside0 (wc.heap[gb101]? = some (.cells #[.int .i64 a0_0, .int .i64 a0_1, .int .i64 a0_2, .string a0_3] 23 (0, 0))) ∧ Aside0 (wc.heap[gb102]? = some (.cells #[.int .i64 0, .int .i64 0, .int .i64 0, .string (⟨#[]⟩ : ByteArray)] 23 (0, 0))) ∧ Aside0 (Below w.heap.size w wc))
  case first =>
    have H := HC3.out
    clear HC3
    by_cases c6 : (a0_3.size : Int) > 0
    · rw [if_pos c6] at H
      have c6b0 : decide (0 < (a0_3.size : Int)) = true := decide_eq_true c6
      have c6b1 : decide (0 < a0_3.size) = true := decide_eq_true (by omega)
      clear c6
      (first | rw [c6b0] | (simp only [i64_w, i32_w]; rw [c6b0]) | skip)
      by_cases c7 : (a0_3.size : Int) = 0
      · rw [if_pos c7] at H
        exact absurd H (by simp)
      · rw [if_neg c7] at H
        have c7b0 : ((a0_3.size : Int) == 0) = false := beq_eq_false_iff_ne.mpr c7
        have c7b1 : ((a0_3.size : Int) != 0) = true := bne_iff_ne.mpr c7
        have hwd_ : wrap64 ((250 : Int) / (a0_3.size : Int)) = (250 : Int) / (a0_3.size : Int) := by
          have h1_ := Int.ediv_nonneg (show (0 : Int) ≤ 250 by decide) (Int.natCast_nonneg a0_3.size)
          have h2_ := Int.ediv_le_self (a0_3.size : Int) (show (0 : Int) ≤ 250 by decide)
          generalize (250 : Int) / (a0_3.size : Int) = x_ at *
          unfold wrap64; omega
        have H' := Aside0.mk H
        clear H
        have hnb8 := NB101_102.out
        have hnc8 := NB102_101.out
        obtain ⟨hcz9_0, hcz9_1, hcz9_2, hcz9_3⟩ := blk_quad BK101.out
        obtain ⟨hfz9_0, hfz9_1, hfz9_2, hfz9_3⟩ := blk_quad_free BK101.out
        go_wp2
        go_meet
        case rel => exact ⟨_, (decide (a1 > (wrap64 ((250 : Int) / (a0_3.size : Int))))), (by first | rfl | (simp; done) | (generalize ByteArray.toList _ = l_; cases l_ <;> rfl) | (rw [hwd_]; done) | (rw [hwd_]; rfl) | (simp [hwd_]; done) | (simp [*]; done)), H', ⟨by first | omega | exact Nat.le_refl _⟩, ⟨zk BK101.out⟩, ⟨zk BK102.out⟩, ⟨by repeat (first | (with_reducible first | exact HB.out | apply below_alloc | apply pw_below_drewN | apply below_drew1 | refine below_set ?_ GE101.out | refine below_set ?_ GE102.out) | exact HB.out)⟩⟩
    · rw [if_neg c6] at H
      have c6b0 : decide (0 < (a0_3.size : Int)) = false := decide_eq_false c6
      have c6b1 : decide (0 < a0_3.size) = false := decide_eq_false (by omega)
      clear c6
      (first | rw [c6b0] | (simp only [i64_w, i32_w]; rw [c6b0]) | skip)
      have H' := Aside0.mk H
      clear H
      have hnb10 := NB101_102.out
      have hnc10 := NB102_101.out
      obtain ⟨hcz11_0, hcz11_1, hcz11_2, hcz11_3⟩ := blk_quad BK101.out
      obtain ⟨hfz11_0, hfz11_1, hfz11_2, hfz11_3⟩ := blk_quad_free BK101.out
      go_wp2
      go_meet
      case rel => exact ⟨_, (false), (by first | rfl | (simp; done) | (generalize ByteArray.toList _ = l_; cases l_ <;> rfl) | (simp [*]; done)), H', ⟨by first | omega | exact Nat.le_refl _⟩, ⟨zk BK101.out⟩, ⟨zk BK102.out⟩, ⟨by repeat (first | (with_reducible first | exact HB.out | apply below_alloc | apply pw_below_drewN | apply below_drew1 | refine below_set ?_ GE101.out | refine below_set ?_ GE102.out) | exact HB.out)⟩⟩
  case rest =>
    clear HC3
    try clear c1
    try clear p2
    try clear c6
    try clear c6b0
    try clear c6b1
    try clear p6
    try clear c7
    try clear c7b0
    try clear c7b1
    try clear c8
    try clear c10
    try clear hcz11_0 hcz11_1 hcz11_2 hcz11_3
    try clear hcz9_0 hcz9_1 hcz9_2 hcz9_3
    try clear hfz11_0 hfz11_1 hfz11_2 hfz11_3
    try clear hfz9_0 hfz9_1 hfz9_2 hfz9_3
    obtain ⟨kq, x17_2, rfl, HA, HJ2, BK101, BK102, HB⟩ := hcut
    cases kq with
    | zero => exact absurd HA.out (by simp [bits_times.j0])
    | succ kj2 =>
      have H := HA.out
      clear HA
      simp only [bits_times.j0] at H
      by_cases c12 : x17_2 = true
      · subst c12
        have H1 : (some (0, 0, 0, (⟨#[]⟩ : ByteArray), 3)) = some (r1, r2, r3, r4, r5) := by rw [if_pos rfl] at H; exact H
        clear H
        have H := H1
        clear H1
        simp only [Option.some.injEq, Prod.mk.injEq] at H
        obtain ⟨rfl, rfl, rfl, rfl, rfl⟩ := H
        have hnb13 := NB102_101.out
        have hnc13 := NB101_102.out
        obtain ⟨hcz14_0, hcz14_1, hcz14_2, hcz14_3⟩ := blk_quad BK102.out
        obtain ⟨hfz14_0, hfz14_1, hfz14_2, hfz14_3⟩ := blk_quad_free BK102.out
        go_wp2
        refine bodyPost_ret (results_ct rfl _ _ gb102 23 #[.int .i64 0, .int .i64 0, .int .i64 0, .string (⟨#[]⟩ : ByteArray)] (0, 0) _ rfl (by refine zk ?_; refine blk_put (cs := #[.int .i64 0, .int .i64 0, .int .i64 0, .string (⟨#[]⟩ : ByteArray)]) ?_ 3 _ rfl; refine zk ?_; refine blk_put (cs := #[.int .i64 0, .int .i64 0, .int .i64 0, .string (⟨#[]⟩ : ByteArray)]) ?_ 2 _ rfl; refine zk ?_; refine blk_put (cs := #[.int .i64 0, .int .i64 0, .int .i64 0, .string (⟨#[]⟩ : ByteArray)]) ?_ 1 _ rfl; refine zk ?_; refine blk_put (cs := #[.int .i64 0, .int .i64 0, .int .i64 0, .string (⟨#[]⟩ : ByteArray)]) ?_ 0 _ rfl; refine zk ?_; exact BK102.out) Try.underlying23 rfl (by kernel_rfl)) rfl ?_
        exact ⟨by first | rfl | (simp [errW_none, errW_some] <;> rfl) | (simp [*, errW_none, errW_some] <;> rfl), by repeat (first | (with_reducible first | exact HB.out | apply below_alloc | apply pw_below_drewN | apply below_drew1 | refine below_set ?_ GE101.out | refine below_set ?_ GE102.out) | exact HB.out)⟩
      · replace c12 := Bool.eq_false_iff.mpr c12
        subst c12
        have H1 : (if (a0_3.size : Int) = 0 then (some (a0_0, a0_1, a0_2, a0_3, 0)) else ((strings_Repeat.f a0_3 a1).bind fun t103 => ((bits_with.f a0_0 a0_1 a0_2 a0_3 t103).bind fun bt104 => (some (bt104.1, bt104.2.1, bt104.2.2.1, bt104.2.2.2, 0))))) = some (r1, r2, r3, r4, r5) := by rw [if_neg (show ¬ (false = true) by decide)] at H; exact H
        clear H
        have H := H1
        clear H1
        by_cases c15 : (a0_3.size : Int) = 0
        · rw [if_pos c15] at H
          have c15b0 : ((a0_3.size : Int) == 0) = true := beq_iff_eq.mpr c15
          have c15b1 : ((a0_3.size : Int) != 0) = false := bne_eq_false_iff_eq.mpr c15
          clear c15
          simp only [Option.some.injEq, Prod.mk.injEq] at H
          obtain ⟨rfl, rfl, rfl, rfl, rfl⟩ := H
          have hnb16 := NB101_102.out
          have hnc16 := NB102_101.out
          obtain ⟨hcz17_0, hcz17_1, hcz17_2, hcz17_3⟩ := blk_quad BK101.out
          obtain ⟨hfz17_0, hfz17_1, hfz17_2, hfz17_3⟩ := blk_quad_free BK101.out
          obtain ⟨hcz18_0, hcz18_1, hcz18_2, hcz18_3⟩ := blk_quad BK102.out
          obtain ⟨hfz18_0, hfz18_1, hfz18_2, hfz18_3⟩ := blk_quad_free BK102.out
          go_wp2
          refine bodyPost_ret (results_ct rfl _ _ gb102 23 #[.int .i64 a0_0, .int .i64 a0_1, .int .i64 a0_2, .string a0_3] (0, 0) _ rfl (by refine zk ?_; refine blk_put (cs := #[.int .i64 a0_0, .int .i64 a0_1, .int .i64 a0_2, .string (⟨#[]⟩ : ByteArray)]) ?_ 3 _ rfl; refine zk ?_; refine blk_put (cs := #[.int .i64 a0_0, .int .i64 a0_1, .int .i64 0, .string (⟨#[]⟩ : ByteArray)]) ?_ 2 _ rfl; refine zk ?_; refine blk_put (cs := #[.int .i64 a0_0, .int .i64 0, .int .i64 0, .string (⟨#[]⟩ : ByteArray)]) ?_ 1 _ rfl; refine zk ?_; refine blk_put (cs := #[.int .i64 0, .int .i64 0, .int .i64 0, .string (⟨#[]⟩ : ByteArray)]) ?_ 0 _ rfl; refine zk ?_; exact BK102.out) Try.underlying23 rfl (by kernel_rfl)) rfl ?_
          exact ⟨by first | rfl | (simp [errW_none, errW_some] <;> rfl) | (simp [*, errW_none, errW_some] <;> rfl), by repeat (first | (with_reducible first | exact HB.out | apply below_alloc | apply pw_below_drewN | apply below_drew1 | refine below_set ?_ GE101.out | refine below_set ?_ GE102.out) | exact HB.out)⟩
        · rw [if_neg c15] at H
          have c15b0 : ((a0_3.size : Int) == 0) = false := beq_eq_false_iff_ne.mpr c15
          have c15b1 : ((a0_3.size : Int) != 0) = true := bne_iff_ne.mpr c15
          replace H := Option.bind_eq_some_iff.mp H
          obtain ⟨t103, A190, H⟩ := H
          replace H : ((bits_with.f a0_0 a0_1 a0_2 a0_3 t103).bind fun bt104 => (some (bt104.1, bt104.2.1, bt104.2.2.1, bt104.2.2.2, 0))) = some (r1, r2, r3, r4, r5) := H
          have A19 := Aside0.mk A190
          clear A190
          replace H := Option.bind_eq_some_iff.mp H
          obtain ⟨⟨t104, t105, t106, t107⟩, A200, H⟩ := H
          replace H : (some (t104, t105, t106, t107, 0)) = some (r1, r2, r3, r4, r5) := H
          have A20 := Aside0.mk A200
          clear A200
          simp only [Option.some.injEq, Prod.mk.injEq] at H
          obtain ⟨rfl, rfl, rfl, rfl, rfl⟩ := H
          have hnb21 := NB101_102.out
          have hnc21 := NB102_101.out
          obtain ⟨hcz22_0, hcz22_1, hcz22_2, hcz22_3⟩ := blk_quad BK101.out
          obtain ⟨hfz22_0, hfz22_1, hfz22_2, hfz22_3⟩ := blk_quad_free BK101.out
          try go_wp2
          have n0_ := Aside0.mk (blk_drew BK101.out)
          have n1_ := Aside0.mk (blk_drew BK102.out)
          have n2_ := Aside0.mk (below_drew1 HB.out)
          clear BK101
          clear BK102
          clear HB
          have BK101 := n0_
          have BK102 := n1_
          have HB := n2_
          clear n0_ n1_ n2_
          refine start_ (n := 8) (S := fun w' => w'.cell? ⟨gb101, 0, none⟩ = some (.int .i64 a0_0) ∧ w'.cell? ⟨gb101, 1, none⟩ = some (.int .i64 a0_1) ∧ w'.cell? ⟨gb101, 2, none⟩ = some (.int .i64 a0_2) ∧ w'.cell? ⟨gb101, 3, none⟩ = some (.string a0_3)) (ds := []) #[false, false, false, false, false, false, false, false] (by kernel_rfl) rfl rfl ⟨(blk_cell BK101.out 0).trans rfl, (blk_cell BK101.out 1).trans rfl, (blk_cell BK101.out 2).trans rfl, (blk_cell BK101.out 3).trans rfl⟩ (fun hHeld => ?_); refine with_tabW bits_times.tab5 bits_times.bits5 (fun HT_ HW_ => ?_)
          generalize wc.drew = w23 at BK101 BK102 HB hHeld ⊢
          refine pure_ (i := 1) (N := some 25) (v := ?_) (a' := ?_) #[false, true, false, false, false, false, false, false] rfl rfl (any_of HT_.out (by kernel_rfl)) (fun _ _ _ h => h) (Or.inl ⟨by rfl, ?_⟩) ?_ ?_
          rotate_left
          · intro w'
            go_simp
            with_reducible rfl
          rotate_left
          · simp only [Act.put, List.setIfInBounds_toArray, List.set_cons_zero, List.set_cons_succ, i64_w, i32_w]
            rfl
          refine pure_ (i := 3) (N := some 27) (v := ?_) (a' := ?_) #[false, true, false, true, false, false, false, false] rfl rfl (any_of HT_.out (by kernel_rfl)) (fun _ _ _ h => h) (Or.inl ⟨by rfl, ?_⟩) ?_ ?_
          rotate_left
          · intro w'
            go_simp
            with_reducible rfl
          rotate_left
          · simp only [Act.put, List.setIfInBounds_toArray, List.set_cons_zero, List.set_cons_succ, i64_w, i32_w]
            rfl
          refine take_ (i := 0) (N := some 24) (v := ?_) (a' := ?_) #[true, true, false, true, false, false, false, false] rfl rfl (take_ofW HT_.out HW_.out (by kernel_rfl)) (fun _ _ _ h => h) (Or.inl ⟨by rfl, ?_⟩) hHeld ?_ ?_
          rotate_left
          · rintro w' ⟨s0, s1, s2, s3⟩
            go_simp
            with_reducible rfl
          rotate_left
          · simp only [Act.put, List.setIfInBounds_toArray, List.set_cons_zero, List.set_cons_succ, i64_w, i32_w]
            rfl
          refine take_ (i := 2) (N := some 26) (v := ?_) (a' := ?_) #[true, true, true, true, false, false, false, false] rfl rfl (take_ofW HT_.out HW_.out (by kernel_rfl)) (fun _ _ _ h => h) (Or.inl ⟨by rfl, ?_⟩) hHeld ?_ ?_
          rotate_left
          · rintro w' ⟨s0, s1, s2, s3⟩
            go_simp
            with_reducible rfl
          rotate_left
          · simp only [Act.put, List.setIfInBounds_toArray, List.set_cons_zero, List.set_cons_succ, i64_w, i32_w]
            rfl
          refine one_ (i := 4) (N := some 28) #[true, true, true, true, true, false, false, false] rfl rfl (one_of HT_.out (by kernel_rfl)) (by decide) (fun K hK => ?_)
          refine goes_ Try.func83 (by kernel_rfl) rfl #[.string a0_3, .int .i64 a1] (by rfl) rfl rfl (by (try simp only [List.map_toArray, List.map_cons, List.map_nil]); first | done | rfl | (simp only [List.length_drop, List.length_take]; rfl)) ?_
          with_reducible refine (strings_Repeat.calls a0_3 a1 t103 _ A19.out).mono ?_
          rintro e w24 ⟨rfl, hb⟩
          refine ⟨_, rfl, ?_⟩
          have n0_ := Aside0.mk (blk_below (zk BK101.out) hb)
          have n1_ := Aside0.mk (blk_below (zk BK102.out) hb)
          have n2_ := Aside0.mk (below_step (by repeat (first | (with_reducible first | exact HB.out | apply below_alloc | apply pw_below_drewN | apply below_drew1 | refine below_set ?_ GE101.out | refine below_set ?_ GE102.out) | exact HB.out)) hb)
          clear BK101
          clear BK102
          clear HB
          have BK101 := n0_
          have BK102 := n1_
          have HB := n2_
          clear n0_ n1_ n2_
          (try clear hb)
          (try clear hb2)
          (try clear hk)
          (try clear hi)
          refine hK.out _ _ ⟨(blk_cell BK101.out 0).trans rfl, (blk_cell BK101.out 1).trans rfl, (blk_cell BK101.out 2).trans rfl, (blk_cell BK101.out 3).trans rfl⟩ (fun hHeld => ?_)
          clear hK K
          refine norm_ (a' := ?_) ?_ ?_
          rotate_left
          · show Act.put _ (some 28) _ = _
            simp only [Act.put, List.setIfInBounds_toArray, List.set_cons_zero, List.set_cons_succ, i64_w, i32_w]
            rfl
          refine one_ (i := 5) (N := some 29) #[true, true, true, true, true, true, false, false] rfl rfl (one_of HT_.out (by kernel_rfl)) (by decide) (fun K hK => ?_)
          refine goes_ Try.func65 (by kernel_rfl) rfl #[.agg #[.int .i64 a0_0, .int .i64 a0_1, .int .i64 a0_2, .string a0_3], .string t103] (by rfl) rfl rfl (by (try simp only [List.map_toArray, List.map_cons, List.map_nil]); first | done | rfl | (simp only [List.length_drop, List.length_take]; rfl)) ?_
          with_reducible refine (bits_with.calls a0_0 a0_1 a0_2 a0_3 t103 t104 t105 t106 t107 _ A20.out).mono ?_
          rintro e w25 ⟨rfl, hb⟩
          refine ⟨_, rfl, ?_⟩
          have n0_ := Aside0.mk (blk_below (zk BK101.out) hb)
          have n1_ := Aside0.mk (blk_below (zk BK102.out) hb)
          have n2_ := Aside0.mk (below_step (by repeat (first | (with_reducible first | exact HB.out | apply below_alloc | apply pw_below_drewN | apply below_drew1 | refine below_set ?_ GE101.out | refine below_set ?_ GE102.out) | exact HB.out)) hb)
          clear BK101
          clear BK102
          clear HB
          have BK101 := n0_
          have BK102 := n1_
          have HB := n2_
          clear n0_ n1_ n2_
          (try clear hb)
          (try clear hb2)
          (try clear hk)
          (try clear hi)
          refine hK.out _ _ ⟨(blk_cell BK101.out 0).trans rfl, (blk_cell BK101.out 1).trans rfl, (blk_cell BK101.out 2).trans rfl, (blk_cell BK101.out 3).trans rfl⟩ (fun hHeld => ?_)
          clear hK K
          refine norm_ (a' := ?_) ?_ ?_
          rotate_left
          · show Act.put _ (some 29) _ = _
            simp only [Act.put, List.setIfInBounds_toArray, List.set_cons_zero, List.set_cons_succ, i64_w, i32_w]
            rfl
          refine one_ (i := 6) (N := none) #[true, true, true, true, true, true, true, false] rfl rfl (one_of HT_.out (by kernel_rfl)) (by decide) (fun K hK => ?_)
          have hs26 : w25.cell? ⟨gb102, 0, none⟩ = some (.int .i64 0) := (blk_cell BK102.out 0).trans rfl
          have hfs26 := blk_frozen BK102.out 0
          have hns26_0 := NB101_102.out
          have hms26_0 := NB102_101.out
          have hs27 : w25.cell? ⟨gb102, 1, none⟩ = some (.int .i64 0) := (blk_cell BK102.out 1).trans rfl
          have hfs27 := blk_frozen BK102.out 1
          have hns27_0 := NB101_102.out
          have hms27_0 := NB102_101.out
          have hs28 : w25.cell? ⟨gb102, 2, none⟩ = some (.int .i64 0) := (blk_cell BK102.out 2).trans rfl
          have hfs28 := blk_frozen BK102.out 2
          have hns28_0 := NB101_102.out
          have hms28_0 := NB102_101.out
          have hs29 : w25.cell? ⟨gb102, 3, none⟩ = some (.string (⟨#[]⟩ : ByteArray)) := (blk_cell BK102.out 3).trans rfl
          have hfs29 := blk_frozen BK102.out 3
          have hns29_0 := NB101_102.out
          have hms29_0 := NB102_101.out
          refine skip_ (w1 := ?_) (by rfl) rfl ?_ ?_
          rotate_left
          · go_simp
            rfl
          refine hK.out _ _ ⟨((cell_far (p := ⟨gb102, _, none⟩) NB101_102.out _).trans (((cell_far (p := ⟨gb102, _, none⟩) NB101_102.out _).trans (((cell_far (p := ⟨gb102, _, none⟩) NB101_102.out _).trans (((cell_far (p := ⟨gb102, _, none⟩) NB101_102.out _).trans (hHeld.1)))))))), ((cell_far (p := ⟨gb102, _, none⟩) NB101_102.out _).trans (((cell_far (p := ⟨gb102, _, none⟩) NB101_102.out _).trans (((cell_far (p := ⟨gb102, _, none⟩) NB101_102.out _).trans (((cell_far (p := ⟨gb102, _, none⟩) NB101_102.out _).trans (hHeld.2.1)))))))), ((cell_far (p := ⟨gb102, _, none⟩) NB101_102.out _).trans (((cell_far (p := ⟨gb102, _, none⟩) NB101_102.out _).trans (((cell_far (p := ⟨gb102, _, none⟩) NB101_102.out _).trans (((cell_far (p := ⟨gb102, _, none⟩) NB101_102.out _).trans (hHeld.2.2.1)))))))), ((cell_far (p := ⟨gb102, _, none⟩) NB101_102.out _).trans (((cell_far (p := ⟨gb102, _, none⟩) NB101_102.out _).trans (((cell_far (p := ⟨gb102, _, none⟩) NB101_102.out _).trans (((cell_far (p := ⟨gb102, _, none⟩) NB101_102.out _).trans (hHeld.2.2.2))))))))⟩ (fun hHeld => ?_)
          clear hK K
          refine pure_ (i := 7) (N := some 5) (v := ?_) (a' := ?_) #[true, true, true, true, true, true, true, true] rfl rfl (any_of HT_.out (by kernel_rfl)) (fun _ _ _ h => h) (Or.inl ⟨by rfl, ?_⟩) ?_ ?_
          rotate_left
          · intro w'
            go_simp
            with_reducible rfl
          rotate_left
          · simp only [Act.put, List.setIfInBounds_toArray, List.set_cons_zero, List.set_cons_succ, i64_w, i32_w]
            rfl
          refine done_ (done_of HT_.out (by kernel_rfl)) ?_
          try go_wp2
          refine bodyPost_ret (results_ct rfl _ _ gb102 23 #[.int .i64 t104, .int .i64 t105, .int .i64 t106, .string t107] (0, 0) _ rfl (by refine zk ?_; refine blk_put (cs := #[.int .i64 t104, .int .i64 t105, .int .i64 t106, .string (⟨#[]⟩ : ByteArray)]) ?_ 3 _ rfl; refine zk ?_; refine blk_put (cs := #[.int .i64 t104, .int .i64 t105, .int .i64 0, .string (⟨#[]⟩ : ByteArray)]) ?_ 2 _ rfl; refine zk ?_; refine blk_put (cs := #[.int .i64 t104, .int .i64 0, .int .i64 0, .string (⟨#[]⟩ : ByteArray)]) ?_ 1 _ rfl; refine zk ?_; refine blk_put (cs := #[.int .i64 0, .int .i64 0, .int .i64 0, .string (⟨#[]⟩ : ByteArray)]) ?_ 0 _ rfl; refine zk ?_; exact BK102.out) Try.underlying23 rfl (by kernel_rfl)) rfl ?_
          exact ⟨by first | rfl | (simp [errW_none, errW_some] <;> rfl) | (simp [*, errW_none, errW_some] <;> rfl), by repeat (first | (with_reducible first | exact HB.out | apply below_alloc | apply pw_below_drewN | apply below_drew1 | refine below_set ?_ GE101.out | refine below_set ?_ GE102.out) | exact HB.out)⟩
end Go.Proofs.Ytnelblndidciiaa.P
