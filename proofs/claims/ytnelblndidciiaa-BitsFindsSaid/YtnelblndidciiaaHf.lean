/- Contracts of strings.IndexByte and strings.Repeat in the form of the printed ones; bits.places with the closures of Index and Tally, and these two. -/
import Derived.Test.YtnelblndidciiaaShelf
import Derived.Test.YtnelblndidciiaaHe
namespace Go.Proofs.Ytnelblndidciiaa.P
open Go.RowKit Go.Proofs.YtnelblndidciiaaW.PrintWords Go.Proofs.YtnelblndidciiaaW.PrintLast Go.Proofs.YtnelblndidciiaaW.PrintMore
set_option linter.unusedVariables false
set_option linter.unusedSimpArgs false
def strings_IndexByte.f (a0 : ByteArray) (a1 : Int) : Option Int := some (Lib.indexByte a0.data.toList a1.toNat.toUInt8)
theorem strings_IndexByte.calls (a0 : ByteArray) (a1 : Int) (r : Int) (w : World) (h : strings_IndexByte.f a0 a1 = some r) :
    Calls Try.prog 86 #[.string a0, .int .u8 a1] w fun e w' => e = .returned (.int .i64 r) ∧ Drawn0 w w' := by
  obtain rfl : Lib.indexByte a0.data.toList a1.toNat.toUInt8 = r := by simpa [strings_IndexByte.f] using h
  exact (Go.Proofs.Try.strings_IndexByte a0 a1 w).mono fun e w' ⟨he, hw⟩ => ⟨he, hw ▸ Drawn0.refl _⟩
def strings_Repeat.f (a0 : ByteArray) (a1 : Int) : Option ByteArray := if 0 ≤ a1 ∧ a1 ≤ 9223372036854775807 ∧ a0.size * a1.toNat ≤ 140737488355328 then some ⟨(Lib.repeatL a0.data.toList a1.toNat).toArray⟩ else none
theorem strings_Repeat.calls (a0 : ByteArray) (a1 : Int) (r : ByteArray) (w : World) (h : strings_Repeat.f a0 a1 = some r) :
    Calls Try.prog 83 #[.string a0, .int .i64 a1] w fun e w' => e = .returned (.string r) ∧ Below w.heap.size w w' := by
  unfold strings_Repeat.f at h
  split at h
  · rename_i hc
    obtain rfl : (⟨(Lib.repeatL a0.data.toList a1.toNat).toArray⟩ : ByteArray) = r := by simpa using h
    obtain ⟨c, rfl⟩ := Int.eq_ofNat_of_zero_le hc.1
    exact Go.Proofs.Try.strings_Repeat a0 c w (by omega) (by simpa using hc.2.2)
  · cases h

/-! ### places, Index, Tally -/
def matchAt (s p : ByteArray) (i : Nat) : Bool := (s.extract i (i + p.size)).toList == p.toList
def hit (s p : ByteArray) (i : Nat) : Bool := decide (0 < p.size) && matchAt s p i
def idxFrom (s p : ByteArray) : Nat → Nat → Int
  | 0, _ => 0
  | d + 1, i => if hit s p i then (i : Int) + 1 else idxFrom s p d (i + 1)
def tallyFrom (s p : ByteArray) : Nat → Nat → Int
  | 0, _ => 0
  | d + 1, i => (if hit s p i then 1 else 0) + tallyFrom s p d (i + 1)
theorem tallyFrom_range (s p : ByteArray) : ∀ d i, 0 ≤ tallyFrom s p d i ∧ tallyFrom s p d i ≤ d := by
  intro d
  induction d with
  | zero => intro i; simp [tallyFrom]
  | succ d ih => intro i; have := ih (i + 1); simp only [tallyFrom]; split <;> omega
theorem toList_nil (p : ByteArray) (h : p.size = 0) : p.toList = [] := by
  rw [ByteArray.toList_eq]; exact List.eq_nil_of_length_eq_zero (by simpa using h)
theorem toList_ne (p : ByteArray) (h : 0 < p.size) : ¬ p.toList = [] := by
  rw [ByteArray.toList_eq]; intro e
  have : p.size = 0 := by rw [← data_length, e]; rfl
  omega
theorem index_closure (i : Int) (g B : Nat) (w : World) (x : Int) (hi : 0 ≤ i) (hi2 : i ≤ 1000) (hB : B ≤ g) (hc : w.heap[g]? = some (.cells #[.int .i64 x] 3 (0, 0))) :
    Calls Try.prog 60 #[.int .i64 i, .pointer (some ⟨g, 0, none⟩)] w fun e w' => e = .returned (.bool false) ∧ Below B w w' ∧ w'.heap[g]? = some (.cells #[.int .i64 (i + 1)] 3 (0, 0)) := by
  have c0 : w.cell? ⟨g, 0, none⟩ = some (.int .i64 x) := (blk_cell hc 0).trans rfl
  have f0 := blk_frozen hc 0
  have HC := Aside0.mk hc
  clear hc
  go_enter Try.func60, Try.ntmps60
  go_wp2
  go_ret
  exact ⟨rfl, (Below.refl _ _).setCell hB _, blk_set HC.out 0 _⟩
theorem tally_closure (i : Int) (g B : Nat) (w : World) (x : Int) (hi : 0 ≤ x) (hi2 : x ≤ 1000) (hB : B ≤ g) (hc : w.heap[g]? = some (.cells #[.int .i64 x] 3 (0, 0))) :
    Calls Try.prog 67 #[.int .i64 i, .pointer (some ⟨g, 0, none⟩)] w fun e w' => e = .returned (.bool true) ∧ Below B w w' ∧ w'.heap[g]? = some (.cells #[.int .i64 (x + 1)] 3 (0, 0)) := by
  have c0 : w.cell? ⟨g, 0, none⟩ = some (.int .i64 x) := (blk_cell hc 0).trans rfl
  have f0 := blk_frozen hc 0
  have HC := Aside0.mk hc
  clear hc
  go_enter Try.func67, Try.ntmps67
  go_wp2
  go_ret
  exact ⟨rfl, (Below.refl _ _).setCell hB _, blk_set HC.out 0 _⟩

set_option maxRecDepth 100000 in
theorem places_index (s p : ByteArray) (g B : Nat) (w : World) (hs : s.size ≤ 250) (hps : p.size ≤ s.size) (hB : B ≤ g) (hc : w.heap[g]? = some (.cells #[.int .i64 0] 3 (0, 0))) :
    Calls Try.prog 59 #[.string s, .string p, .func (.func 60) #[] #[.pointer (some ⟨g, 0, none⟩)]] w fun e w' => e = .returned (.tuple #[]) ∧ Below B w w' ∧ w'.heap[g]? = some (.cells #[.int .i64 (idxFrom s p (s.size - p.size + 1) 0)] 3 (0, 0)) := by
  have HC := Aside0.mk hc
  clear hc
  obtain ⟨tot, htot⟩ : ∃ tot, idxFrom s p (s.size - p.size + 1) 0 = tot := ⟨_, rfl⟩
  rw [htot]
  have HT := Lib.hid htot
  clear htot
  go_enter Try.func59, Try.ntmps59
  go_wp2_with fail
  go_loopw [13] (fun v wr => ∃ (k : Nat) (c : Int), k ≤ s.size - p.size + 1 ∧ v = .int .i64 k ∧ c = 0 ∧ Aside0 (idxFrom s p (s.size - p.size + 1 - k) k = tot) ∧ Aside0 (Below B w wr) ∧ Aside0 (wr.heap[g]? = some (.cells #[.int .i64 c] 3 (0, 0)))) (fun v _ => s.size + 1 - p.size - (intOf v).toNat)
  case atStart => exact ⟨0, 0, Nat.zero_le _, rfl, rfl, ⟨by have := HT.out; simpa using this⟩, ⟨Below.refl _ _⟩, HC⟩
  case round =>
    obtain ⟨k, c, hk, rfl, HCI, H1, H2, H3⟩ := hrel
    subst HCI
    by_cases hlt : k < s.size - p.size + 1
    · have hrest : s.size - p.size + 1 - k = (s.size - p.size + 1 - (k + 1)) + 1 := by omega
      by_cases hp0 : 0 < p.size
      · have hne := toList_ne p hp0
        have hne2 : (!p.toList.isEmpty) = true := by cases e : p.toList with | nil => exact absurd e hne | cons _ _ => rfl
        cases hm : matchAt s p k with
        | true =>
          have hm2 : ((s.extract k (k + p.size)).toList == p.toList) = true := hm
          have H1' := H1.out
          rw [hrest] at H1'
          simp only [idxFrom, hit, decide_eq_true hp0, hm, Bool.and_self, if_true] at H1'
          have H4 := Aside0.mk H1'
          clear H1 H1' hm hrest
          go_wp2_with (go_at_call 60; refine (index_closure _ g B _ 0 (by omega) (by omega) hB H3.out).mono ?_)
          rintro e w' ⟨rfl, hb1, hc1⟩
          have HB := Aside0.mk (H2.out.trans hb1)
          have HC1 := Aside0.mk hc1
          clear hb1 hc1
          go_wp2_with fail
          refine bodyPost_ret (results_none rfl _ _ _) rfl ?_
          exact ⟨rfl, HB.out, by rw [← H4.out]; exact HC1.out⟩
        | false =>
          have hm2 : ((s.extract k (k + p.size)).toList == p.toList) = false := hm
          have H1' := H1.out
          rw [hrest] at H1'
          simp only [idxFrom, hit, decide_eq_true hp0, hm, Bool.and_false, Bool.false_eq_true, if_false] at H1'
          have H4 := Aside0.mk H1'
          clear H1 H1' hm hrest
          go_wp2_with fail
          go_roundw
          case rel => exact ⟨k + 1, 0, by omega, by go_num, rfl, H4, H2, H3⟩
          case measure => simp [intOf]; omega
      · have hnil := toList_nil p (by omega)
        have H1' := H1.out
        rw [hrest] at H1'
        simp only [idxFrom, hit, decide_eq_false hp0, Bool.false_and, Bool.false_eq_true, if_false] at H1'
        have H4 := Aside0.mk H1'
        clear H1 H1' hrest
        go_wp2_with fail
        go_roundw
        case rel => exact ⟨k + 1, 0, by omega, by go_num, rfl, H4, H2, H3⟩
        case measure => simp [intOf]; omega
    · have hz : s.size - p.size + 1 - k = 0 := by omega
      have H1' := H1.out
      rw [hz] at H1'
      simp only [idxFrom] at H1'
      have H4 := Aside0.mk H1'
      clear H1 H1' hz
      go_wp2_with fail
      go_end0
      exact ⟨rfl, H2.out, by rw [← H4.out]; exact H3.out⟩

set_option maxRecDepth 100000 in
theorem places_tally (s p : ByteArray) (g B : Nat) (w : World) (hs : s.size ≤ 250) (hps : p.size ≤ s.size) (hB : B ≤ g) (hc : w.heap[g]? = some (.cells #[.int .i64 0] 3 (0, 0))) :
    Calls Try.prog 59 #[.string s, .string p, .func (.func 67) #[] #[.pointer (some ⟨g, 0, none⟩)]] w fun e w' => e = .returned (.tuple #[]) ∧ Below B w w' ∧ w'.heap[g]? = some (.cells #[.int .i64 (tallyFrom s p (s.size - p.size + 1) 0)] 3 (0, 0)) := by
  have HC := Aside0.mk hc
  clear hc
  obtain ⟨tot, htot⟩ : ∃ tot, tallyFrom s p (s.size - p.size + 1) 0 = tot := ⟨_, rfl⟩
  rw [htot]
  have HT := Lib.hid htot
  clear htot
  go_enter Try.func59, Try.ntmps59
  go_wp2_with fail
  go_loopw [13] (fun v wr => ∃ (k : Nat) (c : Int), k ≤ s.size - p.size + 1 ∧ v = .int .i64 k ∧ (0 ≤ c ∧ c ≤ k) ∧ Aside0 (c + tallyFrom s p (s.size - p.size + 1 - k) k = tot) ∧ Aside0 (Below B w wr) ∧ Aside0 (wr.heap[g]? = some (.cells #[.int .i64 c] 3 (0, 0)))) (fun v _ => s.size + 1 - p.size - (intOf v).toNat)
  case atStart => exact ⟨0, 0, Nat.zero_le _, rfl, ⟨Int.le_refl _, by simp⟩, ⟨by have := HT.out; simpa using this⟩, ⟨Below.refl _ _⟩, HC⟩
  case round =>
    obtain ⟨k, c, hk, rfl, HCI, H1, H2, H3⟩ := hrel
    obtain ⟨hc0, hck⟩ := HCI
    by_cases hlt : k < s.size - p.size + 1
    · have hrest : s.size - p.size + 1 - k = (s.size - p.size + 1 - (k + 1)) + 1 := by omega
      by_cases hp0 : 0 < p.size
      · have hne := toList_ne p hp0
        have hne2 : (!p.toList.isEmpty) = true := by cases e : p.toList with | nil => exact absurd e hne | cons _ _ => rfl
        cases hm : matchAt s p k with
        | true =>
          have hm2 : ((s.extract k (k + p.size)).toList == p.toList) = true := hm
          have H1' := H1.out
          rw [hrest] at H1'
          simp only [tallyFrom, hit, decide_eq_true hp0, hm, Bool.and_self, if_true] at H1'
          have H4 := Aside0.mk H1'
          clear H1 H1' hm hrest
          go_wp2_with (go_at_call 67; refine (tally_closure _ g B _ c (by omega) (by omega) hB H3.out).mono ?_)
          rintro e w' ⟨rfl, hb1, hc1⟩
          have HB := Aside0.mk (H2.out.trans hb1)
          have HC1 := Aside0.mk hc1
          clear hb1 hc1
          go_wp2_with fail
          go_roundw
          case rel => exact ⟨k + 1, c + 1, by omega, by go_num, ⟨by omega, by omega⟩, ⟨by rw [← H4.out, Int.add_assoc]⟩, HB, HC1⟩
          case measure => simp [intOf]; omega
        | false =>
          have hm2 : ((s.extract k (k + p.size)).toList == p.toList) = false := hm
          have H1' := H1.out
          rw [hrest] at H1'
          simp only [tallyFrom, hit, decide_eq_true hp0, hm, Bool.and_false, Bool.false_eq_true, if_false, Int.zero_add] at H1'
          have H4 := Aside0.mk H1'
          clear H1 H1' hm hrest
          go_wp2_with fail
          go_roundw
          case rel => exact ⟨k + 1, c, by omega, by go_num, ⟨hc0, by omega⟩, H4, H2, H3⟩
          case measure => simp [intOf]; omega
      · have hnil := toList_nil p (by omega)
        have H1' := H1.out
        rw [hrest] at H1'
        simp only [tallyFrom, hit, decide_eq_false hp0, Bool.false_and, Bool.false_eq_true, if_false, Int.zero_add] at H1'
        have H4 := Aside0.mk H1'
        clear H1 H1' hrest
        go_wp2_with fail
        go_roundw
        case rel => exact ⟨k + 1, c, by omega, by go_num, ⟨hc0, by omega⟩, H4, H2, H3⟩
        case measure => simp [intOf]; omega
    · have hz : s.size - p.size + 1 - k = 0 := by omega
      have H1' := H1.out
      rw [hz] at H1'
      simp only [tallyFrom, Int.add_zero] at H1'
      have H4 := Aside0.mk H1'
      clear H1 H1' hz
      go_wp2_with fail
      go_end0
      exact ⟨rfl, H2.out, by rw [← H4.out]; exact H3.out⟩

end Go.Proofs.Ytnelblndidciiaa.P
