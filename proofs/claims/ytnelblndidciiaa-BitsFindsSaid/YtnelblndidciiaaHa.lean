/- Contracts of the functions of bits that look into an interface value: of, Valid, at. -/
import Derived.Test.YtnelblndidciiaaK
import Derived.WalkSpells
import Derived.WalkLawsBesides
import Derived.Lib.Hide
namespace Go.Proofs.Ytnelblndidciiaa.P
open Go.RowKit Go.Proofs.YtnelblndidciiaaW.PrintWords Go.Proofs.YtnelblndidciiaaW.PrintLast Go.Proofs.YtnelblndidciiaaW.PrintMore
set_option linter.unusedVariables false
set_option linter.unusedSimpArgs false

/-! ### the plain functions -/
/-- A character is right for a kind. -/
def okc (n : Int) (c : Int) : Bool := if n = 4 then decide (32 ≤ c) && decide (c ≤ 126) else c == 48 || c == 49
/-- All characters are right. -/
def okS (n : Int) (s : ByteArray) : Bool := s.data.toList.all fun c => okc n (c.toNat : Int)
theorem okS_iff (n : Int) (s : ByteArray) : okS n s = true ↔ ∀ (k : Nat) (h : k < s.size), okc n ((s[k]'h).toNat : Int) = true := by
  unfold okS
  rw [List.all_eq_true]
  constructor
  · intro H k h
    exact H _ (by rw [show s[k] = s.data.toList[k]'(by simpa using h) from rfl]; exact List.getElem_mem _)
  · intro H c hc
    obtain ⟨k, h, rfl⟩ := List.getElem_of_mem hc
    exact H k (by simpa using h)
theorem okS_no (n : Int) (s : ByteArray) (k : Nat) (h : k < s.size) (hn : okc n ((s[k]'h).toNat : Int) = false) : okS n s = false := by
  cases e : okS n s with
  | false => rfl
  | true => rw [(okS_iff n s).1 e k h] at hn; cases hn
/-- bits.Valid. -/
def validB (n a b : Int) (s : ByteArray) : Bool := (n == 4 || n == 5) && (a == 0 && (b == 0 && (decide (s.size ≤ 250) && okS n s)))
def bits_Valid.f (a0_0 a0_1 a0_2 : Int) (a0_3 : ByteArray) : Option Bool := some (validB a0_0 a0_1 a0_2 a0_3)
/-- The filler of a kind. -/
def fillc (n : Int) : Int := if n = 4 then 32 else 48
/-- bits.at: none where the code would panic. -/
def bits_at.f (a0_0 a0_1 a0_2 : Int) (a0_3 : ByteArray) (a1 : Int) : Option Int :=
  if a1 < (a0_3.size : Int) then (if 0 ≤ a1 then some (bt a0_3 a1) else none) else if a0_0 = 4 ∨ a0_0 = 5 then some (fillc a0_0) else none

/-! ### of -/
def ofV (n : Int) : Value := if n = 4 then .iface 106 (.agg #[]) else if n = 5 then .iface 68 (.agg #[]) else .nilIface
theorem of_any (n : Int) (w : World) : Calls Try.prog 84 #[.int .i64 n] w fun e w' => e = .returned (ofV n) ∧ w = w' := by
  by_cases h4 : n = 4
  · subst h4
    go_enter Try.func84, Try.ntmps84
    go_wp2
    go_ret
    exact ⟨rfl, rfl⟩
  · have hb4 : (n == 4) = false := beq_eq_false_iff_ne.2 h4
    by_cases h5 : n = 5
    · subst h5
      go_enter Try.func84, Try.ntmps84
      go_wp2
      go_ret
      exact ⟨rfl, rfl⟩
    · have hb5 : (n == 5) = false := beq_eq_false_iff_ne.2 h5
      have e : ofV n = .nilIface := by simp [ofV, h4, h5]
      rw [e]
      clear h4 h5 e
      go_enter Try.func84, Try.ntmps84
      go_wp2
      go_ret
      exact ⟨rfl, rfl⟩
theorem of_4 (w : World) : Calls Try.prog 84 #[.int .i64 4] w fun e w' => e = .returned (.iface 106 (.agg #[])) ∧ w = w' := of_any 4 w
theorem of_5 (w : World) : Calls Try.prog 84 #[.int .i64 5] w fun e w' => e = .returned (.iface 68 (.agg #[])) ∧ w = w' := of_any 5 w
theorem of_no (n : Int) (h4 : n ≠ 4) (h5 : n ≠ 5) (w : World) : Calls Try.prog 84 #[.int .i64 n] w fun e w' => e = .returned .nilIface ∧ w = w' := by
  have := of_any n w; simpa only [ofV, if_neg h4, if_neg h5] using this

/-! ### right, filler -/
theorem right4 (c : Int) (w : World) : Calls Try.prog 128 #[.agg #[], .int .u8 c] w fun e w' => e = .returned (.bool (okc 4 c)) ∧ Below w.heap.size w w' := by
  by_cases h : 32 ≤ c
  · have h1 : decide (32 ≤ c) = true := decide_eq_true h
    go_enter Try.func128, Try.ntmps128
    go_wp2
    go_ret
    exact ⟨by simp [okc, h], (Below.refl _ _).alloc (Nat.le_refl _) _⟩
  · have h1 : decide (32 ≤ c) = false := decide_eq_false h
    go_enter Try.func128, Try.ntmps128
    go_wp2
    go_ret
    exact ⟨by simp [okc, h1], (Below.refl _ _).alloc (Nat.le_refl _) _⟩
theorem right5 (c : Int) (w : World) : Calls Try.prog 71 #[.agg #[], .int .u8 c] w fun e w' => e = .returned (.bool (okc 5 c)) ∧ Below w.heap.size w w' := by
  by_cases h : c = 48
  · subst h
    go_enter Try.func71, Try.ntmps71
    go_wp2
    go_ret
    exact ⟨rfl, (Below.refl _ _).alloc (Nat.le_refl _) _⟩
  · have h1 : (c == 48) = false := beq_eq_false_iff_ne.2 h
    go_enter Try.func71, Try.ntmps71
    go_wp2
    go_ret
    exact ⟨by simp [okc, h1], (Below.refl _ _).alloc (Nat.le_refl _) _⟩
theorem filler4 (w : World) : Calls Try.prog 127 #[.agg #[]] w fun e w' => e = .returned (.int .u8 32) ∧ Below w.heap.size w w' := by
  go_enter Try.func127, Try.ntmps127
  go_wp2
  go_ret
  exact ⟨rfl, (Below.refl _ _).alloc (Nat.le_refl _) _⟩
theorem filler5 (w : World) : Calls Try.prog 125 #[.agg #[]] w fun e w' => e = .returned (.int .u8 48) ∧ Below w.heap.size w w' := by
  go_enter Try.func125, Try.ntmps125
  go_wp2
  go_ret
  exact ⟨rfl, (Below.refl _ _).alloc (Nat.le_refl _) _⟩
theorem ahead4 (w : World) : (nilAhead 230 106 (.agg #[]) "ironbark/bits.right").run Try.prog w = .ok (some false) w := by kernel_rfl
theorem method4 (w : World) : (method 230 106 (.agg #[]) "ironbark/bits.right").run Try.prog w = .ok (128, .agg #[]) w := by kernel_rfl
theorem ahead5 (w : World) : (nilAhead 230 68 (.agg #[]) "ironbark/bits.right").run Try.prog w = .ok (some false) w := by kernel_rfl
theorem method5 (w : World) : (method 230 68 (.agg #[]) "ironbark/bits.right").run Try.prog w = .ok (71, .agg #[]) w := by kernel_rfl
theorem fmethod4 (w : World) : (method 230 106 (.agg #[]) "ironbark/bits.filler").run Try.prog w = .ok (127, .agg #[]) w := by kernel_rfl
theorem fmethod5 (w : World) : (method 230 68 (.agg #[]) "ironbark/bits.filler").run Try.prog w = .ok (125, .agg #[]) w := by kernel_rfl
theorem below_cell {B : Nat} {w wr w' : World} {a : Addr} {v : Value} (hb : Below wr.heap.size wr w') (hc : wr.cell? a = some v) : w'.cell? a = some v := pw_cell_below hb hc

/-! ### Valid -/
theorem valid_no (n a b : Int) (s : ByteArray) (h4 : n ≠ 4) (h5 : n ≠ 5) (w : World) :
    Calls Try.prog 62 #[.agg #[.int .i64 n, .int .i64 a, .int .i64 b, .string s]] w fun e w' => e = .returned (.bool false) ∧ Below w.heap.size w w' := by
  go_enter Try.func62, Try.ntmps62
  go_wp2_with (go_at_call 84; refine (of_no n h4 h5 _).mono ?_; rintro e w' ⟨rfl, rfl⟩)
  go_ret
  exact ⟨rfl, (Below.refl _ _).alloc (Nat.le_refl _) _⟩

theorem valid_4_a (a b : Int) (s : ByteArray) (h : a ≠ 0) (w : World) :
    Calls Try.prog 62 #[.agg #[.int .i64 4, .int .i64 a, .int .i64 b, .string s]] w fun e w' => e = .returned (.bool false) ∧ Below w.heap.size w w' := by
  have h1 : (a != 0) = true := bne_iff_ne.2 h
  go_enter Try.func62, Try.ntmps62
  go_wp2_with (go_at_call 84; refine (of_4 _).mono ?_; rintro e w' ⟨rfl, rfl⟩)
  go_ret
  exact ⟨rfl, (Below.refl _ _).alloc (Nat.le_refl _) _⟩
theorem valid_4_b (b : Int) (s : ByteArray) (h : b ≠ 0) (w : World) :
    Calls Try.prog 62 #[.agg #[.int .i64 4, .int .i64 0, .int .i64 b, .string s]] w fun e w' => e = .returned (.bool false) ∧ Below w.heap.size w w' := by
  have h1 : (b != 0) = true := bne_iff_ne.2 h
  go_enter Try.func62, Try.ntmps62
  go_wp2_with (go_at_call 84; refine (of_4 _).mono ?_; rintro e w' ⟨rfl, rfl⟩)
  go_ret
  exact ⟨rfl, (Below.refl _ _).alloc (Nat.le_refl _) _⟩
theorem valid_4_s (s : ByteArray) (h : 250 < s.size) (w : World) :
    Calls Try.prog 62 #[.agg #[.int .i64 4, .int .i64 0, .int .i64 0, .string s]] w fun e w' => e = .returned (.bool false) ∧ Below w.heap.size w w' := by
  have hd : decide (250 < (s.size : Int)) = true := decide_eq_true (by omega)
  go_enter Try.func62, Try.ntmps62
  go_wp2_with (go_at_call 84; refine (of_4 _).mono ?_; rintro e w' ⟨rfl, rfl⟩)
  go_ret
  exact ⟨rfl, (Below.refl _ _).alloc (Nat.le_refl _) _⟩
set_option maxHeartbeats 2000000 in
set_option maxRecDepth 100000 in
theorem valid_4 (s : ByteArray) (w : World) (hs : s.size ≤ 250) :
    Calls Try.prog 62 #[.agg #[.int .i64 4, .int .i64 0, .int .i64 0, .string s]] w fun e w' => e = .returned (.bool (okS 4 s)) ∧ Below w.heap.size w w' := by
  have hd : decide (250 < (s.size : Int)) = false := decide_eq_false (by omega)
  go_enter Try.func62, Try.ntmps62
  go_wp2_with (go_at_call 84; refine (of_4 _).mono ?_; rintro e w' ⟨rfl, rfl⟩)
  go_loopw [29] (fun v wr => ∃ k : Nat, k ≤ s.size ∧ v = .int .i64 k ∧ (∀ (j : Nat) (h : j < s.size), j < k → okc 4 ((s[j]'h).toNat : Int) = true) ∧ Below w.heap.size w wr ∧ wr.cell? ⟨w.heap.size, 3, none⟩ = some (.string s)) (fun v _ => s.size - (intOf v).toNat)
  case atStart => exact ⟨0, Nat.zero_le _, rfl, fun _ _ h => absurd h (Nat.not_lt_zero _), (Below.refl _ _).alloc (Nat.le_refl _) _, by simp [go_sem]⟩
  case round =>
    obtain ⟨k, hk, rfl, hall0, hb, hc⟩ := hrel
    have hall := Lib.hid hall0
    clear hall0
    by_cases hlt : k < s.size
    · cases hok : okc 4 ((s[k]'hlt).toNat : Int) with
      | true =>
        go_wp2
        have h1 := ahead4
        have h2 := method4
        go_region_with (go_at_call 128; refine (right4 _ _).mono ?_; rintro e w' ⟨rfl, hb1⟩)
        all_goals
          have hb2 : Below w.heap.size w w' := hb.drew.trans (hb1.mono (by have := hb.size; simpa using this))
          have hc2 : w'.cell? ⟨w.heap.size, 3, none⟩ = some (.string s) := pw_cell_below hb1 (by simpa [go_sem] using hc)
          go_wp2
          go_roundw
          case rel => exact ⟨k + 1, hlt, by go_num, fun j h hj => by rcases Nat.lt_succ_iff_lt_or_eq.1 hj with h' | rfl; exact hall.out j h h'; exact hok, hb2, hc2⟩
          case measure => simp [intOf]; omega
      | false =>
        have hno := Lib.hid (okS_no 4 s k hlt hok)
        go_wp2
        have h1 := ahead4
        have h2 := method4
        go_region_with (go_at_call 128; refine (right4 _ _).mono ?_; rintro e w' ⟨rfl, hb1⟩)
        all_goals
          have hb2 : Below w.heap.size w w' := hb.drew.trans (hb1.mono (by have := hb.size; simpa using this))
          go_wp2
          go_ret
          rw [hno.out]
          exact ⟨rfl, hb2⟩
    · have hT := Lib.hid ((okS_iff 4 s).2 fun j h => hall.out j h (by omega))
      go_wp2
      go_ret
      rw [hT.out]
      exact ⟨rfl, hb⟩

theorem valid_5_a (a b : Int) (s : ByteArray) (h : a ≠ 0) (w : World) :
    Calls Try.prog 62 #[.agg #[.int .i64 5, .int .i64 a, .int .i64 b, .string s]] w fun e w' => e = .returned (.bool false) ∧ Below w.heap.size w w' := by
  have h1 : (a != 0) = true := bne_iff_ne.2 h
  go_enter Try.func62, Try.ntmps62
  go_wp2_with (go_at_call 84; refine (of_5 _).mono ?_; rintro e w' ⟨rfl, rfl⟩)
  go_ret
  exact ⟨rfl, (Below.refl _ _).alloc (Nat.le_refl _) _⟩
theorem valid_5_b (b : Int) (s : ByteArray) (h : b ≠ 0) (w : World) :
    Calls Try.prog 62 #[.agg #[.int .i64 5, .int .i64 0, .int .i64 b, .string s]] w fun e w' => e = .returned (.bool false) ∧ Below w.heap.size w w' := by
  have h1 : (b != 0) = true := bne_iff_ne.2 h
  go_enter Try.func62, Try.ntmps62
  go_wp2_with (go_at_call 84; refine (of_5 _).mono ?_; rintro e w' ⟨rfl, rfl⟩)
  go_ret
  exact ⟨rfl, (Below.refl _ _).alloc (Nat.le_refl _) _⟩
theorem valid_5_s (s : ByteArray) (h : 250 < s.size) (w : World) :
    Calls Try.prog 62 #[.agg #[.int .i64 5, .int .i64 0, .int .i64 0, .string s]] w fun e w' => e = .returned (.bool false) ∧ Below w.heap.size w w' := by
  have hd : decide (250 < (s.size : Int)) = true := decide_eq_true (by omega)
  go_enter Try.func62, Try.ntmps62
  go_wp2_with (go_at_call 84; refine (of_5 _).mono ?_; rintro e w' ⟨rfl, rfl⟩)
  go_ret
  exact ⟨rfl, (Below.refl _ _).alloc (Nat.le_refl _) _⟩
set_option maxHeartbeats 2000000 in
set_option maxRecDepth 100000 in
theorem valid_5 (s : ByteArray) (w : World) (hs : s.size ≤ 250) :
    Calls Try.prog 62 #[.agg #[.int .i64 5, .int .i64 0, .int .i64 0, .string s]] w fun e w' => e = .returned (.bool (okS 5 s)) ∧ Below w.heap.size w w' := by
  have hd : decide (250 < (s.size : Int)) = false := decide_eq_false (by omega)
  go_enter Try.func62, Try.ntmps62
  go_wp2_with (go_at_call 84; refine (of_5 _).mono ?_; rintro e w' ⟨rfl, rfl⟩)
  go_loopw [29] (fun v wr => ∃ k : Nat, k ≤ s.size ∧ v = .int .i64 k ∧ (∀ (j : Nat) (h : j < s.size), j < k → okc 5 ((s[j]'h).toNat : Int) = true) ∧ Below w.heap.size w wr ∧ wr.cell? ⟨w.heap.size, 3, none⟩ = some (.string s)) (fun v _ => s.size - (intOf v).toNat)
  case atStart => exact ⟨0, Nat.zero_le _, rfl, fun _ _ h => absurd h (Nat.not_lt_zero _), (Below.refl _ _).alloc (Nat.le_refl _) _, by simp [go_sem]⟩
  case round =>
    obtain ⟨k, hk, rfl, hall0, hb, hc⟩ := hrel
    have hall := Lib.hid hall0
    clear hall0
    by_cases hlt : k < s.size
    · cases hok : okc 5 ((s[k]'hlt).toNat : Int) with
      | true =>
        go_wp2
        have h1 := ahead5
        have h2 := method5
        go_region_with (go_at_call 71; refine (right5 _ _).mono ?_; rintro e w' ⟨rfl, hb1⟩)
        all_goals
          have hb2 : Below w.heap.size w w' := hb.drew.trans (hb1.mono (by have := hb.size; simpa using this))
          have hc2 : w'.cell? ⟨w.heap.size, 3, none⟩ = some (.string s) := pw_cell_below hb1 (by simpa [go_sem] using hc)
          go_wp2
          go_roundw
          case rel => exact ⟨k + 1, hlt, by go_num, fun j h hj => by rcases Nat.lt_succ_iff_lt_or_eq.1 hj with h' | rfl; exact hall.out j h h'; exact hok, hb2, hc2⟩
          case measure => simp [intOf]; omega
      | false =>
        have hno := Lib.hid (okS_no 5 s k hlt hok)
        go_wp2
        have h1 := ahead5
        have h2 := method5
        go_region_with (go_at_call 71; refine (right5 _ _).mono ?_; rintro e w' ⟨rfl, hb1⟩)
        all_goals
          have hb2 : Below w.heap.size w w' := hb.drew.trans (hb1.mono (by have := hb.size; simpa using this))
          go_wp2
          go_ret
          rw [hno.out]
          exact ⟨rfl, hb2⟩
    · have hT := Lib.hid ((okS_iff 5 s).2 fun j h => hall.out j h (by omega))
      go_wp2
      go_ret
      rw [hT.out]
      exact ⟨rfl, hb⟩

theorem bits_Valid.calls (a0_0 a0_1 a0_2 : Int) (a0_3 : ByteArray) (r : Bool) (w : World) (h : bits_Valid.f a0_0 a0_1 a0_2 a0_3 = some r) :
    Calls Try.prog 62 #[.agg #[.int .i64 a0_0, .int .i64 a0_1, .int .i64 a0_2, .string a0_3]] w fun e w' => e = .returned (.bool r) ∧ Below w.heap.size w w' := by
  obtain rfl : validB a0_0 a0_1 a0_2 a0_3 = r := by simpa [bits_Valid.f] using h
  clear h
  by_cases h4 : a0_0 = 4
  · subst h4
    by_cases ha : a0_1 = 0
    · subst ha
      by_cases hb : a0_2 = 0
      · subst hb
        by_cases hs : a0_3.size ≤ 250
        · have e : validB 4 0 0 a0_3 = okS 4 a0_3 := by simp [validB, hs]
          rw [e]; exact valid_4 a0_3 w hs
        · have e : validB 4 0 0 a0_3 = false := by simp [validB, hs]
          rw [e]; exact valid_4_s a0_3 (by omega) w
      · have e : validB 4 0 a0_2 a0_3 = false := by simp [validB, hb]
        rw [e]; exact valid_4_b a0_2 a0_3 hb w
    · have e : validB 4 a0_1 a0_2 a0_3 = false := by simp [validB, ha]
      rw [e]; exact valid_4_a a0_1 a0_2 a0_3 ha w
  · by_cases h5 : a0_0 = 5
    · subst h5
      by_cases ha : a0_1 = 0
      · subst ha
        by_cases hb : a0_2 = 0
        · subst hb
          by_cases hs : a0_3.size ≤ 250
          · have e : validB 5 0 0 a0_3 = okS 5 a0_3 := by simp [validB, hs]
            rw [e]; exact valid_5 a0_3 w hs
          · have e : validB 5 0 0 a0_3 = false := by simp [validB, hs]
            rw [e]; exact valid_5_s a0_3 (by omega) w
        · have e : validB 5 0 a0_2 a0_3 = false := by simp [validB, hb]
          rw [e]; exact valid_5_b a0_2 a0_3 hb w
      · have e : validB 5 a0_1 a0_2 a0_3 = false := by simp [validB, ha]
        rw [e]; exact valid_5_a a0_1 a0_2 a0_3 ha w
    · have e : validB a0_0 a0_1 a0_2 a0_3 = false := by simp [validB, h4, h5]
      rw [e]; exact valid_no _ _ _ _ h4 h5 w

/-! ### at -/
theorem at_in (n a b : Int) (s : ByteArray) (i : Int) (w : World) (h0 : 0 ≤ i) (h : i < (s.size : Int)) :
    Calls Try.prog 56 #[.agg #[.int .i64 n, .int .i64 a, .int .i64 b, .string s], .int .i64 i] w fun e w' => e = .returned (.int .u8 (bt s i)) ∧ Below w.heap.size w w' := by
  have hi : i.toNat < s.size := by omega
  have hbt := bt_at s i hi
  go_enter Try.func56, Try.ntmps56
  go_wp2
  go_ret
  exact ⟨rfl, (Below.refl _ _).alloc (Nat.le_refl _) _⟩
theorem at_4 (a b : Int) (s : ByteArray) (i : Int) (w : World) (h : ¬ i < (s.size : Int)) :
    Calls Try.prog 56 #[.agg #[.int .i64 4, .int .i64 a, .int .i64 b, .string s], .int .i64 i] w fun e w' => e = .returned (.int .u8 32) ∧ Below w.heap.size w w' := by
  have hm := fmethod4
  go_enter Try.func56, Try.ntmps56
  go_wp2_with (first | (go_at_call 84; refine (of_4 _).mono ?_; rintro e w' ⟨rfl, rfl⟩) | (go_at_call 127; refine (filler4 _).mono ?_; rintro e w' ⟨rfl, hb1⟩))
  go_ret
  exact ⟨rfl, ((Below.refl _ _).alloc (Nat.le_refl _) _).trans (hb1.mono (by simp))⟩
theorem at_5 (a b : Int) (s : ByteArray) (i : Int) (w : World) (h : ¬ i < (s.size : Int)) :
    Calls Try.prog 56 #[.agg #[.int .i64 5, .int .i64 a, .int .i64 b, .string s], .int .i64 i] w fun e w' => e = .returned (.int .u8 48) ∧ Below w.heap.size w w' := by
  have hm := fmethod5
  go_enter Try.func56, Try.ntmps56
  go_wp2_with (first | (go_at_call 84; refine (of_5 _).mono ?_; rintro e w' ⟨rfl, rfl⟩) | (go_at_call 125; refine (filler5 _).mono ?_; rintro e w' ⟨rfl, hb1⟩))
  go_ret
  exact ⟨rfl, ((Below.refl _ _).alloc (Nat.le_refl _) _).trans (hb1.mono (by simp))⟩
theorem bits_at.calls (a0_0 a0_1 a0_2 : Int) (a0_3 : ByteArray) (a1 : Int) (r : Int) (w : World) (h : bits_at.f a0_0 a0_1 a0_2 a0_3 a1 = some r) :
    Calls Try.prog 56 #[.agg #[.int .i64 a0_0, .int .i64 a0_1, .int .i64 a0_2, .string a0_3], .int .i64 a1] w fun e w' => e = .returned (.int .u8 r) ∧ Below w.heap.size w w' := by
  unfold bits_at.f at h
  split at h
  · rename_i h1
    split at h
    · rename_i h2
      obtain rfl : bt a0_3 a1 = r := by simpa using h
      exact at_in _ _ _ _ _ _ h2 h1
    · cases h
  · rename_i h1
    split at h
    · rename_i h2
      obtain rfl : fillc a0_0 = r := by simpa using h
      rcases h2 with rfl | rfl
      · exact at_4 _ _ _ _ _ h1
      · exact at_5 _ _ _ _ _ h1
    · cases h
end Go.Proofs.Ytnelblndidciiaa.P
