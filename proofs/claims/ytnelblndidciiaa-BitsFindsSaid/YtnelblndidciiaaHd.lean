/- Plain forms of the reference's Filled and in; strings as lists of numbers. -/
import Derived.Test.YtnelblndidciiaaHc
import Derived.Test.YtnelblndidciiaaA58
import Derived.Test.YtnelblndidciiaaA69
namespace Go.Proofs.Ytnelblndidciiaa.P
open Go.RowKit Go.Proofs.YtnelblndidciiaaW.PrintWords Go.Proofs.YtnelblndidciiaaW.PrintLast Go.Proofs.YtnelblndidciiaaW.PrintMore
set_option linter.unusedVariables false
set_option linter.unusedSimpArgs false

theorem bytes_ext {a b : ByteArray} (h : a.size = b.size) (h2 : ∀ i : Nat, i < a.size → bt a (i : Int) = bt b (i : Int)) : a = b := by
  obtain ⟨⟨la⟩⟩ := a
  obtain ⟨⟨lb⟩⟩ := b
  have hs : la.length = lb.length := h
  have : la = lb := by
    apply List.ext_getElem hs
    intro i h1 h3
    have := h2 i h1
    rw [btN ⟨⟨la⟩⟩ i (show i < ByteArray.size ⟨⟨la⟩⟩ from h1), btN ⟨⟨lb⟩⟩ i (show i < ByteArray.size ⟨⟨lb⟩⟩ from h3)] at this
    exact UInt8.toNat.inj (by exact_mod_cast this)
  rw [this]
theorem bt_append (a b : ByteArray) (i : Nat) : bt (a ++ b) (i : Int) = if i < a.size then bt a (i : Int) else bt b ((i - a.size : Nat) : Int) := by
  by_cases h : i < (a ++ b).size
  · rw [btN _ i h]
    rw [ByteArray.size_append] at h
    by_cases h1 : i < a.size
    · rw [if_pos h1, btN _ i h1, ByteArray.getElem_append_left h1]
    · rw [if_neg h1, btN _ (i - a.size) (by omega), ByteArray.getElem_append_right (by omega)]
  · have h' := h
    rw [ByteArray.size_append] at h
    rw [if_neg (by omega)]
    unfold bt
    rw [dif_neg (by simpa using h'), dif_neg (by simp; omega)]
theorem bt_out (a : ByteArray) (i : Nat) (h : a.size ≤ i) : bt a (i : Int) = 0 := by
  unfold bt; rw [dif_neg (by simpa using h)]
theorem size_extract0 (a : ByteArray) (m : Nat) : (a.extract 0 m).size = min m a.size := by simp [ByteArray.size_extract]
theorem bt_extract0 (a : ByteArray) (m i : Nat) (h : i < m) (h2 : i < a.size) : bt (a.extract 0 m) (i : Int) = bt a (i : Int) := by
  rw [btN _ i (by rw [size_extract0]; omega), btN _ i h2, ByteArray.getElem_extract]
  simp
/-- One character, n times. -/
def repC (c : UInt8) (n : Nat) : ByteArray := ⟨Array.replicate n c⟩
theorem repC_size (c : UInt8) (n : Nat) : (repC c n).size = n := by simp [repC, ByteArray.size]
theorem bt_repC (c : UInt8) (n i : Nat) (h : i < n) : bt (repC c n) (i : Int) = (c.toNat : Int) := by
  rw [btN _ i (by rw [repC_size]; exact h)]
  simp [repC, ByteArray.getElem_eq_getElem_data]
/-- A text filled up behind, or cut. -/
def fillB (kind : Int) : UInt8 := if kind = 5 then 48 else 32
def filledS (s : ByteArray) (kind n : Int) : ByteArray := (s ++ repC (fillB kind) (n.toNat - s.size)).extract 0 n.toNat
theorem filledS_size (s : ByteArray) (kind n : Int) : (filledS s kind n).size = n.toNat := by
  unfold filledS; rw [size_extract0, ByteArray.size_append, repC_size]; omega
theorem bt_filledS (s : ByteArray) (kind n : Int) (i : Nat) (h : (i : Int) < n) : bt (filledS s kind n) (i : Int) = if i < s.size then bt s (i : Int) else ((fillB kind).toNat : Int) := by
  unfold filledS
  rw [bt_extract0 _ _ _ (by omega) (by rw [ByteArray.size_append, repC_size]; omega), bt_append]
  by_cases h1 : i < s.size
  · rw [if_pos h1, if_pos h1]
  · rw [if_neg h1, if_neg h1, bt_repC _ _ _ (by omega)]
theorem filler_is (kind : Int) : ironbarkref05_Filler.f kind = some (repC (fillB kind) 1) := by
  unfold ironbarkref05_Filler.f fillB
  by_cases h : kind = 5
  · rw [if_pos h, if_pos h]; rfl
  · rw [if_neg h, if_neg h]; rfl
theorem rep_one_more (c : UInt8) (n : Nat) : repC c 1 ++ repC c n = repC c (n + 1) := by
  apply bytes_ext
  · rw [ByteArray.size_append, repC_size, repC_size, repC_size]; omega
  · intro i h
    rw [ByteArray.size_append, repC_size, repC_size] at h
    rw [bt_append, bt_repC c (n + 1) i (by omega), repC_size]
    by_cases h1 : i < 1
    · rw [if_pos h1, bt_repC c 1 i h1]
    · rw [if_neg h1, bt_repC c n _ (by omega)]
theorem bapp_assoc (a b c : ByteArray) : a ++ b ++ c = a ++ (b ++ c) := ByteArray.append_assoc
theorem filledS_more (s : ByteArray) (kind n : Int) (h : (s.size : Int) < n) : filledS (s ++ repC (fillB kind) 1) kind n = filledS s kind n := by
  unfold filledS
  rw [bapp_assoc, rep_one_more, ByteArray.size_append, repC_size, show n.toNat - (s.size + 1) + 1 = n.toNat - s.size by omega]
theorem filled_l0 (kind n : Int) (hn : n ≤ 9223372036854775807) : ∀ (d : Nat) (s : ByteArray), n.toNat - s.size = d → Ev (fun k => ironbarkref05_Filled.l0 k s kind n) (filledS s kind n) := by
  intro d
  induction d with
  | zero =>
    intro s h
    refine Ev.step (f := fun _ => some (s.extract 0 n.toNat)) (fun k => ?_) ?_
    · simp only [ironbarkref05_Filled.l0]
      have e : (mx n 0).toNat = n.toNat := by unfold mx; split <;> omega
      rw [if_neg (by omega), if_pos (by unfold mx; split <;> omega), if_pos (by unfold mx; split <;> omega), e]
    · have e : filledS s kind n = s.extract 0 n.toNat := by
        unfold filledS
        rw [h]
        have : s ++ repC (fillB kind) 0 = s := by
          apply bytes_ext
          · rw [ByteArray.size_append, repC_size]; omega
          · intro i hi; rw [ByteArray.size_append, repC_size] at hi; rw [bt_append, if_pos (by omega)]
        rw [this]
      rw [e]
      exact Ev.now _
  | succ d ih =>
    intro s h
    have hlt : (s.size : Int) < n := by omega
    refine Ev.step (f := fun k => ironbarkref05_Filled.l0 k (s ++ repC (fillB kind) 1) kind n) (fun k => ?_) ?_
    · simp only [ironbarkref05_Filled.l0]
      rw [if_pos hlt, filler_is]
      simp only [Option.bind_some]
      rw [if_pos (by rw [repC_size]; omega)]
    · rw [← filledS_more s kind n hlt]
      exact ih _ (by rw [ByteArray.size_append, repC_size]; omega)
def ironbarkref05_FilledT.f (a0 : ByteArray) (a1 a2 : Int) : Option ByteArray := if a2 ≤ 9223372036854775807 then some (filledS a0 a1 a2) else none
theorem ironbarkref05_FilledT.calls (a0 : ByteArray) (a1 : Int) (a2 : Int) (r : ByteArray) (w : World) (h : ironbarkref05_FilledT.f a0 a1 a2 = some r) :
    Calls Try.prog 58 #[.string a0, .int .i64 a1, .int .i64 a2] w fun e w' => e = .returned (.string r) ∧ Below w.heap.size w w' := by
  unfold ironbarkref05_FilledT.f at h
  split at h
  · rename_i hn
    obtain rfl : filledS a0 a1 a2 = r := by simpa using h
    obtain ⟨k, hk⟩ := (filled_l0 a1 a2 hn _ a0 rfl).rounds
    exact ironbarkref05_Filled.calls k a0 a1 a2 _ w hk
  · cases h

/-! ### in -/
def addI (x : Int) (i : Nat) : Int := if x = 0 then 0 else x + i
/-- The place of a number in a list, from 1 on; 0 if it is not there. -/
def inL (c : Int) : List UInt8 → Int
  | [] => 0
  | b :: l => if (b.toNat : Int) = c then 1 else addI (inL c l) 1
theorem inL_range (c : Int) : ∀ l : List UInt8, 0 ≤ inL c l ∧ inL c l ≤ l.length
  | [] => by simp [inL]
  | b :: l => by
    have := inL_range c l
    simp only [inL, List.length_cons, addI]
    split
    · omega
    · split <;> omega
theorem in_l0 (s : ByteArray) (c : Int) (hl : s.size ≤ 9223372036854775807) : ∀ d i : Nat, i + d = s.size →
    Ev (fun k => ironbarkref05_in.l0 k s c (i : Int)) (addI (inL c (s.data.toList.drop i)) i) := by
  intro d
  induction d with
  | zero =>
    intro i h
    rw [List.drop_of_length_le (by show s.size ≤ i; omega)]
    exact Ev.step (f := fun _ => some 0) (fun k => by simp only [ironbarkref05_in.l0]; rw [if_neg (by omega)]) (Ev.now _)
  | succ d ih =>
    intro i h
    have hi : i < s.size := by omega
    have e : ∀ k, ironbarkref05_in.l0 (k + 1) s c (i : Int) = if bt s (i : Int) = c then some ((i + 1 : Nat) : Int) else ironbarkref05_in.l0 k s c ((i + 1 : Nat) : Int) := fun k => by
      simp only [ironbarkref05_in.l0]
      rw [if_pos (by omega), if_pos (by omega), wrapN hi hl]
    have hd : inL c (s.data.toList.drop i) = if bt s (i : Int) = c then 1 else addI (inL c (s.data.toList.drop (i + 1))) 1 := by
      rw [List.drop_eq_getElem_cons (show i < s.data.toList.length by simpa using hi), btN s i hi]; rfl
    rw [hd]
    by_cases hc : bt s (i : Int) = c
    · rw [if_pos hc]
      refine Ev.step (f := fun _ => some (addI 1 i)) (fun k => by rw [e, if_pos hc]; congr 1; simp only [addI, if_neg (show ¬ (1 : Int) = 0 by decide)]; omega) (Ev.now _)
    · rw [if_neg hc]
      refine Ev.step (fun k => by rw [e, if_neg hc]) ?_
      have := ih (i + 1) (by omega)
      have hr := inL_range c (s.data.toList.drop (i + 1))
      generalize inL c (s.data.toList.drop (i + 1)) = x at this hr ⊢
      have e2 : addI (addI x 1) i = addI x (i + 1) := by
        unfold addI; by_cases h0 : x = 0
        · simp [h0]
        · simp only [if_neg h0]; rw [if_neg (by omega)]; omega
      rw [e2]
      exact this
def inI (s : ByteArray) (c : Int) : Int := inL c s.data.toList
def ironbarkref05_inT.f (a0 : ByteArray) (a1 : Int) : Option Int := if a0.size ≤ 9223372036854775807 then some (inI a0 a1) else none
theorem ironbarkref05_inT.calls (a0 : ByteArray) (a1 : Int) (r : Int) (w : World) (h : ironbarkref05_inT.f a0 a1 = some r) :
    Calls Try.prog 69 #[.string a0, .int .u8 a1] w fun e w' => e = .returned (.int .i64 r) ∧ Drawn0 w w' := by
  unfold ironbarkref05_inT.f at h
  split at h
  · rename_i hn
    obtain rfl : inI a0 a1 = r := by simpa using h
    have hev := in_l0 a0 a1 hn a0.size 0 (by omega)
    have hr := inL_range a1 a0.data.toList
    rw [List.drop_zero] at hev
    have e : addI (inL a1 a0.data.toList) 0 = inI a0 a1 := by
      unfold inI addI; split <;> omega
    rw [e] at hev
    obtain ⟨k, hk⟩ := hev.rounds
    exact ironbarkref05_in.calls k a0 a1 _ w hk
  · cases h
end Go.Proofs.Ytnelblndidciiaa.P
