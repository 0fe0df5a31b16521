/- Part 10 of the proof of the law BitsParts: functions, contracts and plain laws; merged by this session's program. -/
import Derived.Test.YtnelblndidciiaaMBitsParts1
import Derived.Test.YtnelblndidciiaaMBitsParts2
import Derived.Test.YtnelblndidciiaaMBitsParts3
import Derived.Test.YtnelblndidciiaaMBitsParts4
import Derived.Test.YtnelblndidciiaaMBitsParts5
import Derived.Test.YtnelblndidciiaaMBitsParts6
import Derived.Test.YtnelblndidciiaaMBitsParts7
import Derived.Test.YtnelblndidciiaaMBitsParts8
import Derived.Test.YtnelblndidciiaaMBitsParts9
-- from the text Pp
namespace Go.Proofs.Ytnelblndidciiaa.P
open Go.RowKit Go.Proofs.YtnelblndidciiaaW.PrintWords Go.Proofs.YtnelblndidciiaaW.PrintLast Go.Proofs.YtnelblndidciiaaW.PrintMore
set_option linter.unusedVariables false
set_option linter.unusedSimpArgs false
def partF (L : Nat) (i : Int) : Nat := (mn (mx i 1 - 1) (L : Int)).toNat
def partT (L : Nat) (i n : Int) : Nat := (mx (mn (i + n - 1) L) (mn (mx i 1 - 1) L)).toNat
def partR (L : Nat) (i n : Int) : Bool := decide (1 ≤ i) && (decide (0 ≤ n) && decide (i + n - 1 ≤ L))
def cnd (r : Bool) : Int := if r = true then 0 else 5
theorem cond_is (r : Bool) : bits_cond.f r = some (cnd r) := by cases r <;> rfl
theorem far_no (n : Int) (h : farI n = false) : -1000000000 ≤ n ∧ n ≤ 1000000000 := by simp [farI] at h; omega
theorem part_is (L : Nat) (i n : Int) (hL : L ≤ 250) (hi : farI i = false) (h1 : -2000000000 ≤ n) (h2 : n ≤ 2000000000) : bits_part.f (L : Int) i n = some ((partF L i : Int), (partT L i n : Int), partR L i n) := by
  have hi := far_no i hi
  unfold bits_part.f
  have e1 : wrap64 ((mx i 1) - 1) = mx i 1 - 1 := by unfold wrap64 mx; split <;> omega
  have e2 : wrap64 (wrap64 (i + n) - 1) = i + n - 1 := by unfold wrap64; omega
  rw [e1, e2]
  have e3 : mn (mx i 1 - 1) (L : Int) = (partF L i : Int) := by unfold partF mn mx; repeat' split <;> omega
  have e4 : mx (mn (i + n - 1) L) (partF L i : Int) = (partT L i n : Int) := by unfold partT partF mn mx; repeat' split <;> omega
  rw [e3, e4]
  unfold partR
  by_cases h3 : 1 ≤ i
  · rw [if_pos h3, decide_eq_true h3]
    by_cases h4 : 0 ≤ n
    · rw [if_pos h4, decide_eq_true h4]; rfl
    · rw [if_neg h4, decide_eq_false h4]; rfl
  · rw [if_neg h3, decide_eq_false h3]; rfl
theorem part_ord (L : Nat) (i n : Int) : partF L i ≤ partT L i n ∧ partT L i n ≤ L := by
  unfold partF partT mn mx
  constructor <;> repeat' split
  all_goals omega
theorem partF_iff (L : Nat) (i : Int) (j : Nat) (h : j < L) : partF L i ≤ j ↔ i ≤ (j : Int) + 1 := by
  unfold partF mn mx
  repeat' split
  all_goals omega
theorem partT_iff (L : Nat) (i n : Int) (j : Nat) (h : j < L) (h2 : partF L i ≤ j) : j < partT L i n ↔ (j : Int) + 1 ≤ i + n - 1 := by
  unfold partF mn mx at h2
  unfold partT mn mx
  repeat' split at h2
  all_goals repeat' split
  all_goals omega
theorem partF_0 (L : Nat) (i : Int) (h : i < 1) : partF L i = 0 := by
  unfold partF mn mx; repeat' split
  all_goals omega
theorem partF_big (L : Nat) (i : Int) (h : i > (L : Int) + 1) : L ≤ partF L i := by
  unfold partF mn mx; repeat' split
  all_goals omega
theorem partF_in (L : Nat) (i : Int) (h : 1 ≤ i) (h2 : i ≤ (L : Int) + 1) : partF L i = (i - 1).toNat := by
  unfold partF mn mx; repeat' split
  all_goals omega
theorem ext_empty (s : ByteArray) (a b : Nat) (h : b ≤ a) : s.extract a b = ⟨#[]⟩ := by
  apply bytes_ext
  · simp only [ByteArray.size_extract]; show _ = 0; omega
  · intro i hi; simp only [ByteArray.size_extract] at hi; omega
theorem bt_extract (s : ByteArray) (a b i : Nat) (h : a + i < b) (h2 : a + i < s.size) : bt (s.extract a b) (i : Int) = bt s ((a + i : Nat) : Int) := by
  rw [btN _ i (by simp only [ByteArray.size_extract]; omega), btN _ (a + i) h2, ByteArray.getElem_extract]
theorem ext_snoc (s : ByteArray) (a b : Nat) (x : ByteArray) (h : a ≤ b) (hb : b < s.size) (hx : x.size = 1) (he : bt x 0 = bt s (b : Int)) : s.extract a b ++ x = s.extract a (b + 1) := by
  apply bytes_ext
  · simp only [ByteArray.size_append, ByteArray.size_extract, hx]; omega
  · intro i hi
    simp only [ByteArray.size_append, ByteArray.size_extract, hx] at hi
    rw [bt_append, bt_extract s a (b + 1) i (by omega) (by omega)]
    simp only [ByteArray.size_extract]
    by_cases h1 : i < min b s.size - a
    · rw [if_pos h1, bt_extract s a b i (by omega) (by omega)]
    · have : i = b - a := by omega
      rw [if_neg h1, show i - (min b s.size - a) = 0 by omega, show a + i = b by omega]
      exact he
theorem one_byte (s : ByteArray) (j : Nat) (h : j < s.size) : (s.extract j (j + 1)).size = 1 ∧ bt (s.extract j (j + 1)) 0 = bt s (j : Int) := by
  refine ⟨by simp only [ByteArray.size_extract]; omega, ?_⟩
  have := bt_extract s j (j + 1) 0 (by omega) (by omega)
  simpa using this
theorem ext_all (s : ByteArray) (n : Nat) (h : s.size ≤ n) : s.extract 0 n = s := by
  apply bytes_ext
  · simp only [ByteArray.size_extract]; omega
  · intro i hi
    simp only [ByteArray.size_extract] at hi
    rw [bt_extract0 _ _ _ (by omega) (by omega)]
abbrev R6 := Int × Int × Int × ByteArray × Int × Int
def subR (s : S23) (i n : Int) : R6 :=
  if okV s = true then (if (farI i || farI n) = true then (0, 0, 0, ⟨#[]⟩, 0, 7) else (s.f0, 0, 0, s.f3.extract (partF s.f3.size i) (partT s.f3.size i n), cnd (partR s.f3.size i n), 0)) else (0, 0, 0, ⟨#[]⟩, 0, 1)
theorem sub_is (s : S23) (i n : Int) : bits_Sub.f s.f0 s.f1 s.f2 s.f3 i n = some (subR s i n) := by
  unfold bits_Sub.f subR
  have hv : bits_Valid.f s.f0 s.f1 s.f2 s.f3 = some (okV s) := rfl
  rw [hv, Option.bind_some]
  by_cases h : okV s = true
  · rw [if_pos h, if_pos h]
    simp only [bits_farT.f, Option.bind_some, List.any_cons, List.any_nil, Bool.or_false]
    by_cases hf : (farI i || farI n) = true
    · rw [if_pos hf, if_pos hf]
    · rw [if_neg hf, if_neg hf]
      have hf' : farI i = false ∧ farI n = false := by simpa using hf
      have hn := far_no n hf'.2
      have ho := part_ord s.f3.size i n
      rw [part_is s.f3.size i n (okV_parts h).2.2.2.1 hf'.1 (by omega) (by omega), Option.bind_some]
      simp only
      rw [if_pos (by omega), if_pos (by omega), if_pos (by omega), cond_is]
      simp only [bits_with.f, Option.bind_some, Int.toNat_natCast]
  · rw [if_neg h, if_neg h]
theorem rsub_j1 (s : S23) (x : ByteArray) (b : Bool) : Ev (fun k => ironbarkref05_Sub.j1 k x b s.f0 s.f1 s.f2 s.f3) (s.f0, 0, 0, x, cnd (!b), 0) := by
  refine Ev.step (f := fun _ => some (s.f0, 0, 0, x, cnd (!b), 0)) (fun k => ?_) (Ev.now _)
  simp only [ironbarkref05_Sub.j1, ironbarkref05_made.f, Option.bind_some]
  cases b <;> rfl
theorem rsub_l0 (s : S23) (i n : Int) (hs : s.f3.size ≤ 250) (hi : farI i = false) (hn : farI n = false) : ∀ d j : Nat, j + d = s.f3.size →
    Ev (fun k => ironbarkref05_Sub.l0 k i n (s.f3.extract (partF s.f3.size i) (min j (partT s.f3.size i n))) ((j : Int) + 1) s.f0 s.f1 s.f2 s.f3) (s.f0, 0, 0, s.f3.extract (partF s.f3.size i) (partT s.f3.size i n), cnd (partR s.f3.size i n), 0) := by
  have hi' := far_no i hi
  have hn' := far_no n hn
  have ho := part_ord s.f3.size i n
  have ew : wrap64 (wrap64 (i + n) - 1) = i + n - 1 := by unfold wrap64; omega
  intro d
  induction d with
  | zero =>
    intro j h
    rw [show min j (partT s.f3.size i n) = partT s.f3.size i n by omega]
    refine Ev.step (f := fun k => ironbarkref05_Sub.j1 k (s.f3.extract (partF s.f3.size i) (partT s.f3.size i n)) (!partR s.f3.size i n) s.f0 s.f1 s.f2 s.f3) (fun k => ?_) ?_
    · simp only [ironbarkref05_Sub.l0]
      rw [if_neg (by omega), ew]
      unfold partR
      by_cases h1 : i < 1
      · rw [if_pos h1, decide_eq_false (show ¬ 1 ≤ i by omega)]; rfl
      · rw [if_neg h1, decide_eq_true (show 1 ≤ i by omega)]
        by_cases h2 : n < 0
        · rw [if_pos h2, decide_eq_false (show ¬ 0 ≤ n by omega)]; rfl
        · rw [if_neg h2, decide_eq_true (show 0 ≤ n by omega)]
          by_cases h3 : i + n - 1 > (s.f3.size : Int)
          · rw [decide_eq_true h3, decide_eq_false (show ¬ i + n - 1 ≤ (s.f3.size : Int) by omega)]; rfl
          · rw [decide_eq_false h3, decide_eq_true (show i + n - 1 ≤ (s.f3.size : Int) by omega)]; rfl
    · have := rsub_j1 s (s.f3.extract (partF s.f3.size i) (partT s.f3.size i n)) (!partR s.f3.size i n)
      rwa [Bool.not_not] at this
  | succ d ih =>
    intro j h
    have hj : j < s.f3.size := by omega
    have hF := partF_iff s.f3.size i j hj
    have e1 : wrap64 ((j : Int) + 1 - 1) = j := by unfold wrap64; omega
    have e2 : wrap64 ((j : Int) + 1 + 1) = ((j + 1 : Nat) : Int) + 1 := by unfold wrap64; omega
    have e3 : ((j : Int) + 1).toNat = j + 1 := by omega
    have hnext := ih (j + 1) (by omega)
    by_cases h1 : partF s.f3.size i ≤ j
    · have hT := partT_iff s.f3.size i n j hj h1
      by_cases h2 : j < partT s.f3.size i n
      · obtain ⟨o1, o2⟩ := one_byte s.f3 j hj
        have hsn := ext_snoc s.f3 (partF s.f3.size i) j (s.f3.extract j (j + 1)) h1 hj o1 o2
        rw [show min (j + 1) (partT s.f3.size i n) = j + 1 by omega] at hnext
        rw [show min j (partT s.f3.size i n) = j by omega]
        refine Ev.step (fun k => ?_) hnext
        simp only [ironbarkref05_Sub.l0]
        rw [if_pos (by omega), if_pos (by omega), ew, if_pos (hT.1 h2), e1, if_pos (by omega), if_pos (by omega), e2, e3, Int.toNat_natCast, hsn, o1, if_pos (by simp only [ByteArray.size_extract]; omega)]
      · rw [show min (j + 1) (partT s.f3.size i n) = min j (partT s.f3.size i n) by omega] at hnext
        refine Ev.step (fun k => ?_) hnext
        simp only [ironbarkref05_Sub.l0]
        rw [if_pos (by omega), if_pos (by omega), ew, if_neg (fun h3 => h2 (hT.2 h3)), e2]
    · rw [ext_empty s.f3 _ _ (by omega)] at hnext ⊢
      refine Ev.step (fun k => ?_) hnext
      simp only [ironbarkref05_Sub.l0]
      rw [if_pos (by omega), if_neg (by omega), e2]
theorem rsub_ev (s : S23) (i n : Int) : Ev (fun k => ironbarkref05_Sub.f k s.f0 s.f1 s.f2 s.f3 i n) (subR s i n) := by
  unfold ironbarkref05_Sub.f subR
  have hv : ironbarkref05_ValidT.f s.f0 s.f1 s.f2 s.f3 = some (okV s) := rfl
  rw [hv]
  simp only [Option.bind_some, ironbarkref05_plainT.f, List.any_cons, List.any_nil, Bool.or_false]
  by_cases h : okV s = true
  · simp only [if_pos h]
    by_cases hf : (farI i || farI n) = true
    · rw [if_pos hf]
      exact Ev.congr (fun k => if_neg (by rw [hf]; decide)) (Ev.now _)
    · rw [if_neg hf]
      have hf' : farI i = false ∧ farI n = false := by simpa using hf
      have hb : (farI i || farI n) = false := by simpa using hf
      refine Ev.congr (fun k => if_pos (by rw [hb]; rfl)) ?_
      have := rsub_l0 s i n (okV_parts h).2.2.2.1 hf'.1 hf'.2 s.f3.size 0 (by omega)
      rw [ext_empty s.f3 _ _ (by omega)] at this
      exact this
  · simp only [if_neg h]; exact Ev.now _
def restR (s : S23) (i : Int) : R6 :=
  if okV s = true then (if farI i = true then (0, 0, 0, ⟨#[]⟩, 0, 7) else (s.f0, 0, 0, s.f3.extract (partF s.f3.size i) s.f3.size, cnd (decide (1 ≤ i) && decide (i ≤ (s.f3.size : Int) + 1)), 0)) else (0, 0, 0, ⟨#[]⟩, 0, 1)
theorem rest_is (s : S23) (i : Int) : bits_Rest.f s.f0 s.f1 s.f2 s.f3 i = some (restR s i) := by
  unfold bits_Rest.f restR
  have hv : bits_Valid.f s.f0 s.f1 s.f2 s.f3 = some (okV s) := rfl
  rw [hv, Option.bind_some]
  by_cases h : okV s = true
  · have hs := (okV_parts h).2.2.2.1
    rw [if_pos h, if_pos h]
    simp only [bits_farT.f, Option.bind_some, List.any_cons, List.any_nil, Bool.or_false]
    by_cases hf : farI i = true
    · rw [if_pos hf, if_pos hf]
    · rw [if_neg hf, if_neg hf]
      have hf' : farI i = false := by simpa using hf
      have hi := far_no i hf'
      have ew : wrap64 (wrap64 ((s.f3.size : Int) - i) + 1) = (s.f3.size : Int) - i + 1 := by unfold wrap64; omega
      have ho := part_ord s.f3.size i ((s.f3.size : Int) - i + 1)
      have hT : partT s.f3.size i ((s.f3.size : Int) - i + 1) = s.f3.size := by
        unfold partT mn mx; repeat' split
        all_goals omega
      have hR : partR s.f3.size i ((s.f3.size : Int) - i + 1) = (decide (1 ≤ i) && decide (i ≤ (s.f3.size : Int) + 1)) := by
        unfold partR
        congr 1
        by_cases h2 : i ≤ (s.f3.size : Int) + 1
        · rw [decide_eq_true h2, decide_eq_true (show 0 ≤ (s.f3.size : Int) - i + 1 by omega), decide_eq_true (by omega)]; rfl
        · rw [decide_eq_false h2, decide_eq_false (show ¬ 0 ≤ (s.f3.size : Int) - i + 1 by omega)]; rfl
      rw [ew, part_is s.f3.size i _ hs hf' (by omega) (by omega), Option.bind_some]
      simp only
      rw [if_pos (by omega), if_pos (by omega), if_pos (by omega), cond_is, hT, hR]
      simp only [bits_with.f, Option.bind_some, Int.toNat_natCast]
  · rw [if_neg h, if_neg h]
theorem rrest_is (s : S23) (i : Int) : ironbarkref05_Rest.f s.f0 s.f1 s.f2 s.f3 i = some (restR s i) := by
  unfold ironbarkref05_Rest.f restR
  have hv : ironbarkref05_ValidT.f s.f0 s.f1 s.f2 s.f3 = some (okV s) := rfl
  rw [hv]
  simp only [Option.bind_some, ironbarkref05_plainT.f, List.any_cons, List.any_nil, Bool.or_false]
  by_cases h : okV s = true
  · obtain ⟨-, h2, h3, hs, -⟩ := okV_parts h
    simp only [if_pos h]
    by_cases hf : farI i = true
    · rw [if_pos hf, if_neg (by rw [hf]; decide)]
    · have hf' : farI i = false := by simpa using hf
      have hi := far_no i hf'
      rw [if_neg hf, if_pos (by rw [hf']; rfl)]
      have e1 : wrap64 ((s.f3.size : Int) + 1) = (s.f3.size : Int) + 1 := by unfold wrap64; omega
      have e2 : wrap64 (i - 1) = i - 1 := by unfold wrap64; omega
      rw [e1, e2]
      simp only [ironbarkref05_made.f, Option.bind_some]
      by_cases h4 : i < 1
      · rw [if_pos h4, decide_eq_false (show ¬ 1 ≤ i by omega), h2, h3, partF_0 _ _ h4, ext_all _ _ (Nat.le_refl _)]; rfl
      · rw [if_neg h4, decide_eq_true (show 1 ≤ i by omega)]
        by_cases h5 : i > (s.f3.size : Int) + 1
        · rw [if_pos h5, decide_eq_false (show ¬ i ≤ (s.f3.size : Int) + 1 by omega), ext_empty _ _ _ (partF_big _ _ h5)]; rfl
        · rw [if_neg h5, if_pos (by omega), if_pos (by omega), decide_eq_true (show i ≤ (s.f3.size : Int) + 1 by omega), partF_in _ _ (by omega) (by omega)]; rfl
  · rw [if_neg h, if_neg h]
theorem str_size (l : List Int) : (strOfNums l).size = l.length := by simp [strOfNums, ByteArray.size]
theorem str_bt (l : List Int) (j : Nat) (h : j < l.length) (h0 : 0 ≤ l.getD j 0) (h1 : l.getD j 0 ≤ 255) : bt (strOfNums l) (j : Int) = l.getD j 0 := by
  rw [btN _ j (by rw [str_size]; exact h)]
  have e : (strOfNums l)[j]'(by rw [str_size]; exact h) = UInt8.ofNat (l.getD j 0).toNat := by
    simp [strOfNums, ByteArray.getElem_eq_getElem_data, List.getD, h]
  rw [e]
  simp only [UInt8.toNat_ofNat']
  omega
/-- What stands at an index behind the setting. -/
def setAt (n : Int) (v : ByteArray) (i : Int) (F T : Nat) (s : ByteArray) (j : Nat) : Int :=
  if F ≤ j ∧ j < T then (if (j : Int) - i + 1 < v.size then bt v ((j : Int) - i + 1) else fillc n) else bt s (j : Int)
theorem setL_get (n : Int) (v : ByteArray) (i : Int) (F : Nat) (s : ByteArray) (m : Nat) (h : F + m ≤ s.size) : ∀ j, j < s.size → (setL n v i F m (bytesOf s)).getD j 0 = setAt n v i F (F + m) s j := by
  induction m with
  | zero =>
    intro j hj
    unfold setAt
    rw [if_neg (by omega), btN s j hj]
    show (bytesOf s).getD j 0 = _
    have hj' : j < s.data.toList.length := hj
    simp [bytesOf, List.getD_eq_getElem?_getD, List.getElem?_map, List.getElem?_eq_getElem hj', ByteArray.getElem_eq_getElem_data]
  | succ m ih =>
    intro j hj
    have ih := ih (by omega) j hj
    rw [setL_succ]
    have hl : (setL n v i F m (bytesOf s)).length = s.size := by rw [setL_len, bytesOf_len]
    by_cases e : j = F + m
    · subst e
      rw [Int.toNat_natCast, List.getD_eq_getElem?_getD, List.getElem?_set_self (by rw [hl]; exact hj)]
      unfold setAt
      have e2 : ((F + m : Nat) : Int) = (F : Int) + (m : Int) := by omega
      rw [if_pos (show F ≤ F + m ∧ F + m < F + (m + 1) from ⟨by omega, by omega⟩), e2]; rfl
    · rw [Int.toNat_natCast, List.getD_eq_getElem?_getD, List.getElem?_set_ne (by omega), ← List.getD_eq_getElem?_getD, ih]
      unfold setAt
      by_cases h1 : F ≤ j ∧ j < F + m
      · rw [if_pos h1, if_pos (show F ≤ j ∧ j < F + (m + 1) from ⟨h1.1, by omega⟩)]
      · rw [if_neg h1, if_neg (show ¬ (F ≤ j ∧ j < F + (m + 1)) by omega)]
def setB (s v : S23) (i n : Int) : ByteArray := strOfNums (setL v.f0 v.f3 i (partF s.f3.size i) (partT s.f3.size i n - partF s.f3.size i) (bytesOf s.f3))
theorem setB_size (s v : S23) (i n : Int) : (setB s v i n).size = s.f3.size := by unfold setB; rw [str_size, setL_len, bytesOf_len]
theorem fillc_range (n : Int) : 0 ≤ fillc n ∧ fillc n ≤ 255 := by unfold fillc; split <;> omega
theorem setAt_range (n : Int) (v : ByteArray) (i : Int) (F T : Nat) (s : ByteArray) (j : Nat) : 0 ≤ setAt n v i F T s j ∧ setAt n v i F T s j ≤ 255 := by
  unfold setAt
  split
  · split
    · exact bt_range _ _
    · exact fillc_range n
  · exact bt_range _ _
theorem setB_bt (s v : S23) (i n : Int) (j : Nat) (hj : j < s.f3.size) : bt (setB s v i n) (j : Int) = setAt v.f0 v.f3 i (partF s.f3.size i) (partT s.f3.size i n) s.f3 j := by
  have ho := part_ord s.f3.size i n
  have hg := setL_get v.f0 v.f3 i (partF s.f3.size i) s.f3 (partT s.f3.size i n - partF s.f3.size i) (by omega) j hj
  rw [show partF s.f3.size i + (partT s.f3.size i n - partF s.f3.size i) = partT s.f3.size i n by omega] at hg
  have hr := setAt_range v.f0 v.f3 i (partF s.f3.size i) (partT s.f3.size i n) s.f3 j
  unfold setB
  rw [str_bt _ j (by rw [setL_len, bytesOf_len]; exact hj) (by rw [hg]; exact hr.1) (by rw [hg]; exact hr.2), hg]
theorem setB_v (s v : S23) (i n : Int) (j : Nat) (hj : j < s.f3.size) (h1 : partF s.f3.size i ≤ j ∧ j < partT s.f3.size i n) (h2 : (j : Int) - i + 1 < v.f3.size) : bt (setB s v i n) (j : Int) = bt v.f3 ((j : Int) - i + 1) := by
  rw [setB_bt s v i n j hj]; unfold setAt; rw [if_pos h1, if_pos h2]
theorem setB_f (s v : S23) (i n : Int) (j : Nat) (hj : j < s.f3.size) (h1 : partF s.f3.size i ≤ j ∧ j < partT s.f3.size i n) (h2 : ¬ (j : Int) - i + 1 < v.f3.size) : bt (setB s v i n) (j : Int) = fillc v.f0 := by
  rw [setB_bt s v i n j hj]; unfold setAt; rw [if_pos h1, if_neg h2]
theorem setB_o (s v : S23) (i n : Int) (j : Nat) (hj : j < s.f3.size) (h1 : ¬ (partF s.f3.size i ≤ j ∧ j < partT s.f3.size i n)) : bt (setB s v i n) (j : Int) = bt s.f3 (j : Int) := by
  rw [setB_bt s v i n j hj]; unfold setAt; rw [if_neg h1]
def setR (s v : S23) (i n : Int) : R6 :=
  if askedI [s, v] = 0 then (if (farI i || farI n) = true then (0, 0, 0, ⟨#[]⟩, 0, 7) else (s.f0, 0, 0, setB s v i n, cnd (partR s.f3.size i n), 0)) else (0, 0, 0, ⟨#[]⟩, 0, askedI [s, v])
theorem set_is (s v : S23) (i n : Int) : bits_SetSub.f s.f0 s.f1 s.f2 s.f3 i n v.f0 v.f1 v.f2 v.f3 = some (setR s v i n) := by
  unfold bits_SetSub.f setR
  by_cases h : askedI [s, v] = 0
  · rw [if_pos h, if_pos h]
    by_cases hf : (farI i || farI n) = true
    · rw [if_pos hf, if_pos hf]
    · rw [if_neg hf, if_neg hf]
      have hf' : farI i = false ∧ farI n = false := by simpa using hf
      have hn := far_no n hf'.2
      have ho := part_ord s.f3.size i n
      have hs := (okV_parts (askedI_two h).1).2.2.2.1
      rw [part_is s.f3.size i n hs hf'.1 (by omega) (by omega), Option.bind_some]
      simp only [cond_is, Option.bind_some]
      rw [show ((partT s.f3.size i n : Int) - (partF s.f3.size i : Int)).toNat = partT s.f3.size i n - partF s.f3.size i by omega]
      rfl
  · rw [if_neg h, if_neg h]
theorem rset_j2 (s : S23) (x : ByteArray) (b : Bool) : Ev (fun k => ironbarkref05_SetSub.j2 k x b s.f0 s.f1 s.f2 s.f3) (s.f0, 0, 0, x, cnd (!b), 0) := by
  refine Ev.step (f := fun _ => some (s.f0, 0, 0, x, cnd (!b), 0)) (fun k => ?_) (Ev.now _)
  simp only [ironbarkref05_SetSub.j2, ironbarkref05_made.f, Option.bind_some]
  cases b <;> rfl
theorem fillB_c2 (n : Int) (h : n = 4 ∨ n = 5) : ((fillB n).toNat : Int) = fillc n := by rcases h with rfl | rfl <;> rfl
theorem w_n (i n : Int) (hi : -1000000000 ≤ i ∧ i ≤ 1000000000) (hn : -1000000000 ≤ n ∧ n ≤ 1000000000) : wrap64 (wrap64 (i + n) - 1) = i + n - 1 := by unfold wrap64; omega
theorem w_0 (j : Nat) (h : j ≤ 250) : wrap64 ((j : Int) + 1 - 1) = j := by unfold wrap64; omega
theorem w_1 (j : Nat) (h : j ≤ 250) : wrap64 ((j : Int) + 1 + 1) = ((j + 1 : Nat) : Int) + 1 := by unfold wrap64; omega
theorem w_t (j : Nat) : ((j : Int) + 1).toNat = j + 1 := by omega
theorem w_i (j : Nat) (i : Int) (h : j ≤ 250) (hi : -1000000000 ≤ i ∧ i ≤ 1000000000) : wrap64 ((j : Int) + 1 - i) = (j : Int) + 1 - i := by unfold wrap64; omega
theorem w_m (m : Nat) (h : m ≤ 250) : wrap64 ((m : Int) + 1) = (m : Int) + 1 := by unfold wrap64; omega
theorem acc_size (B : ByteArray) (j : Nat) (h : j ≤ B.size) : (B.extract 0 j).size = j := by simp only [ByteArray.size_extract]; omega
theorem rset_l0 (s v : S23) (i n : Int) (h : askedI [s, v] = 0) (hi : farI i = false) (hn : farI n = false) : ∀ d j : Nat, j + d = s.f3.size →
    Ev (fun k => ironbarkref05_SetSub.l0 k i n ((setB s v i n).extract 0 j) ((j : Int) + 1) s.f0 s.f1 s.f2 s.f3 v.f0 v.f1 v.f2 v.f3) (s.f0, 0, 0, setB s v i n, cnd (partR s.f3.size i n), 0) := by
  obtain ⟨ha, hb, hk⟩ := askedI_two h
  have hs := (okV_parts ha).2.2.2.1
  have hv := (okV_parts hb).2.2.2.1
  have hkind := (okV_parts ha).1
  have hi' := far_no i hi
  have hn' := far_no n hn
  have ho := part_ord s.f3.size i n
  clear h
  have hbv := setB_v s v i n
  have hbf := setB_f s v i n
  have hbo := setB_o s v i n
  have hsz := setB_size s v i n
  generalize setB s v i n = B at *
  intro d
  induction d with
  | zero =>
    intro j hj
    rw [ext_all _ _ (show B.size ≤ j by omega)]
    refine Ev.step (f := fun k => ironbarkref05_SetSub.j2 k B (!partR s.f3.size i n) s.f0 s.f1 s.f2 s.f3) (fun k => ?_) ?_
    · simp only [ironbarkref05_SetSub.l0]
      rw [if_neg (by omega), w_n i n hi' hn']
      unfold partR
      by_cases h1 : i < 1
      · rw [if_pos h1, decide_eq_false (show ¬ 1 ≤ i by omega)]; rfl
      · rw [if_neg h1, decide_eq_true (show 1 ≤ i by omega)]
        by_cases h2 : n < 0
        · rw [if_pos h2, decide_eq_false (show ¬ 0 ≤ n by omega)]; rfl
        · rw [if_neg h2, decide_eq_true (show 0 ≤ n by omega)]
          by_cases h3 : i + n - 1 > (s.f3.size : Int)
          · rw [decide_eq_true h3, decide_eq_false (show ¬ i + n - 1 ≤ (s.f3.size : Int) by omega)]; rfl
          · rw [decide_eq_false h3, decide_eq_true (show i + n - 1 ≤ (s.f3.size : Int) by omega)]; rfl
    · have := rset_j2 s B (!partR s.f3.size i n)
      rwa [Bool.not_not] at this
  | succ d ih =>
    intro j hj
    have hjs : j < s.f3.size := by omega
    have hF := partF_iff s.f3.size i j hjs
    have hj250 : j ≤ 250 := by omega
    have hnext := ih (j + 1) (by omega)
    have hacc := acc_size B j (by omega)
    -- the piece that is put behind
    have hput : ∀ x : ByteArray, x.size = 1 → bt x 0 = bt B (j : Int) → B.extract 0 j ++ x = B.extract 0 (j + 1) := fun x hx he => ext_snoc _ 0 j x (by omega) (by omega) hx he
    by_cases hin : partF s.f3.size i ≤ j ∧ j < partT s.f3.size i n
    · have hT := (partT_iff s.f3.size i n j hjs hin.1).1 hin.2
      have hFi := hF.1 hin.1
      have e5 : (j : Int) - i + 1 = (j : Int) + 1 - i := by omega
      refine Ev.step (f := fun k => ironbarkref05_SetSub.j1 k i n (B.extract 0 j) ((j : Int) + 1) (s.f3.extract j (j + 1)) ((j : Int) + 1 - i) true s.f0 s.f1 s.f2 s.f3 v.f0 v.f1 v.f2 v.f3) (fun k => ?_) ?_
      · simp only [ironbarkref05_SetSub.l0]
        rw [if_pos (by omega), w_0 j hj250, if_pos (by omega), if_pos (by omega), w_i j i hj250 hi', if_pos (by omega), w_t j, Int.toNat_natCast, decide_eq_true (show (j : Int) + 1 - i < n by omega)]
      · by_cases hlt : (j : Int) - i + 1 < v.f3.size
        · obtain ⟨m, hm⟩ := Int.eq_ofNat_of_zero_le (show 0 ≤ (j : Int) + 1 - i by omega)
          have hmv : m < v.f3.size := by omega
          have o1 := (one_byte v.f3 m hmv).1
          have hp := hput (v.f3.extract m (m + 1)) o1 (by rw [(one_byte v.f3 m hmv).2, hbv j hjs hin hlt, e5, hm])
          refine Ev.step (fun k => ?_) hnext
          simp only [ironbarkref05_SetSub.j1]
          rw [if_pos trivial, filler_is, Option.bind_some, hm, w_m m (by omega), if_pos (by omega), if_pos (by omega), if_pos (by omega), if_pos (by omega), Int.toNat_natCast, w_t m, hp, w_1 j hj250, if_pos (by rw [o1, hacc]; omega)]
        · have hp := hput (repC (fillB s.f0) 1) (repC_size _ _) (by
            rw [show bt (repC (fillB s.f0) 1) 0 = ((fillB s.f0).toNat : Int) from bt_repC (fillB s.f0) 1 0 (Nat.lt_succ_self 0), hbf j hjs hin hlt, fillB_c2 _ hkind, hk])
          refine Ev.step (fun k => ?_) hnext
          simp only [ironbarkref05_SetSub.j1]
          rw [if_pos trivial, filler_is, Option.bind_some, if_neg (by omega), if_pos (by rw [repC_size, hacc]; omega), hp, w_1 j hj250]
    · have o1 := (one_byte s.f3 j hjs).1
      have hp := hput (s.f3.extract j (j + 1)) o1 (by rw [(one_byte s.f3 j hjs).2, hbo j hjs hin])
      refine Ev.step (f := fun k => ironbarkref05_SetSub.j1 k i n (B.extract 0 j) ((j : Int) + 1) (s.f3.extract j (j + 1)) ((j : Int) + 1 - i) false s.f0 s.f1 s.f2 s.f3 v.f0 v.f1 v.f2 v.f3) (fun k => ?_) ?_
      · simp only [ironbarkref05_SetSub.l0]
        rw [if_pos (by omega), w_0 j hj250, if_pos (by omega), if_pos (by omega), w_i j i hj250 hi', w_t j, Int.toNat_natCast]
        by_cases h1 : partF s.f3.size i ≤ j
        · have hT := partT_iff s.f3.size i n j hjs h1
          have hFi := hF.1 h1
          rw [if_pos (by omega), decide_eq_false (show ¬ (j : Int) + 1 - i < n from fun h9 => hin ⟨h1, hT.2 (by omega)⟩)]
        · rw [if_neg (show ¬ (j : Int) + 1 - i ≥ 0 from fun h9 => h1 (hF.2 (by omega)))]
      · refine Ev.step (fun k => ?_) hnext
        simp only [ironbarkref05_SetSub.j1]
        rw [if_neg (by decide), hp, w_1 j hj250, if_pos (by rw [o1, hacc]; omega)]
theorem rset_ev (s v : S23) (i n : Int) : Ev (fun k => ironbarkref05_SetSub.f k s.f0 s.f1 s.f2 s.f3 i n v.f0 v.f1 v.f2 v.f3) (setR s v i n) := by
  unfold ironbarkref05_SetSub.f setR
  simp only [ironbarkref05_stringsT.f, Option.bind_some, strings_asked, ironbarkref05_plainT.f, List.any_cons, List.any_nil, Bool.or_false]
  by_cases h : askedI [s, v] = 0
  · rw [if_pos h]
    refine Ev.congr (fun k => if_pos h) ?_
    by_cases hf : (farI i || farI n) = true
    · rw [if_pos hf]
      exact Ev.congr (fun k => if_neg (by rw [hf]; decide)) (Ev.now _)
    · rw [if_neg hf]
      have hf' : farI i = false ∧ farI n = false := by simpa using hf
      have hb : (farI i || farI n) = false := by simpa using hf
      refine Ev.congr (fun k => if_pos (by rw [hb]; rfl)) ?_
      have := rset_l0 s v i n h hf'.1 hf'.2 s.f3.size 0 (by omega)
      rw [ext_empty _ _ _ (Nat.le_refl 0)] at this
      exact this
  · rw [if_neg h]
    exact Ev.congr (f := fun _ => some (0, 0, 0, ⟨#[]⟩, 0, askedI [s, v])) (fun k => if_neg h) (Ev.now _)
theorem awake_trueP : ironbarklaw05_awake.f = some true := by decide +kernel
theorem okc_bt (s : ByteArray) (n x : Int) (h : okS n s = true) (h0 : 0 ≤ x) (h1 : x < s.size) : okc n (bt s x) = true := by
  obtain ⟨m, rfl⟩ := Int.eq_ofNat_of_zero_le h0
  rw [btN s m (by omega)]
  exact (okS_iff n s).1 h m (by omega)
theorem okc_fill (n : Int) (h : n = 4 ∨ n = 5) : okc n (fillc n) = true := by rcases h with rfl | rfl <;> rfl
theorem setB_okS (s v : S23) (i n : Int) (h : askedI [s, v] = 0) : okS s.f0 (setB s v i n) = true := by
  obtain ⟨ha, hb, hk⟩ := askedI_two h
  clear h
  have h1 := (okV_parts ha).2.2.2.2
  have h2 := (okV_parts hb).2.2.2.2
  have h3 := (okV_parts ha).1
  rw [okS_iff]
  intro k hkz
  rw [← btN (setB s v i n) k hkz]
  rw [setB_size] at hkz
  by_cases hin : partF s.f3.size i ≤ k ∧ k < partT s.f3.size i n
  · have hF := (partF_iff s.f3.size i k hkz).1 hin.1
    by_cases hlt : (k : Int) - i + 1 < v.f3.size
    · rw [setB_v s v i n k hkz hin hlt, hk]
      exact okc_bt v.f3 v.f0 _ h2 (by omega) hlt
    · rw [setB_f s v i n k hkz hin hlt, ← hk]
      exact okc_fill s.f0 h3
  · rw [setB_o s v i n k hkz hin]
    exact okc_bt s.f3 s.f0 _ h1 (by omega) (by omega)
theorem setB_ok (s v : S23) (i n : Int) (h : askedI [s, v] = 0) : okV ⟨s.f0, 0, 0, setB s v i n⟩ = true := by
  have hs := setB_okS s v i n h
  have hz := setB_size s v i n
  obtain ⟨k1, -, -, k4, -⟩ := okV_parts (askedI_two h).1
  unfold okV validB
  simp only [hs, hz]
  rw [decide_eq_true (show s.f3.size ≤ 250 from k4)]
  rcases k1 with e | e <;> rw [e] <;> rfl
theorem rep_is (c : UInt8) (m : Nat) : (⟨(Lib.repeatL [c] m).toArray⟩ : ByteArray) = repC c m := by
  unfold repC
  congr 1
  have : Lib.repeatL [c] m = List.replicate m c := by
    induction m with
    | zero => rfl
    | succ m ih => simp [Lib.repeatL, ih, List.replicate_succ]
  rw [this, List.toArray_replicate]
theorem fillU_c (n : Int) : ((fillU n).toNat : Int) = fillc n := by unfold fillU fillc; split <;> rfl
def fitB (v : S23) (N : Nat) : ByteArray := if N < v.f3.size then v.f3.extract 0 N else v.f3 ++ repC (fillU v.f0) (N - v.f3.size)
theorem fit_is (v : S23) (N : Nat) (h : okV v = true) (hN : N ≤ 250) : bits_Fit.f v.f0 v.f1 v.f2 v.f3 v.f0 0 0 (N : Int) false ⟨#[]⟩ = some (v.f0, 0, 0, fitB v N, if N < v.f3.size then 6 else 0, 0) := by
  unfold bits_Fit.f fitB
  have hT : validT v.f0 0 0 (N : Int) false ⟨#[]⟩ = true := by
    unfold validT
    rw [decide_eq_true (show (0 : Int) ≤ (N : Int) by omega), decide_eq_true (show (N : Int) ≤ 250 by omega)]
    rcases (okV_parts h).1 with e | e <;> rw [e] <;> rfl
  rw [if_pos (show validB v.f0 v.f1 v.f2 v.f3 = true from h), if_pos hT, if_pos rfl]
  by_cases h1 : N < v.f3.size
  · rw [if_pos (by omega), if_pos h1, if_pos h1, Int.toNat_natCast]
  · rw [if_neg (by omega), if_neg (by decide), if_neg h1, if_neg h1, Int.toNat_natCast, rep_is]
theorem fitB_size (v : S23) (N : Nat) : (fitB v N).size = N := by
  unfold fitB
  split
  · simp only [ByteArray.size_extract]; omega
  · rw [ByteArray.size_append, repC_size]; omega
theorem fitB_bt (v : S23) (N t : Nat) (h : t < N) : bt (fitB v N) (t : Int) = if t < v.f3.size then bt v.f3 (t : Int) else fillc v.f0 := by
  unfold fitB
  by_cases h1 : N < v.f3.size
  · rw [if_pos h1, if_pos (by omega), bt_extract0 _ _ _ h (by omega)]
  · rw [if_neg h1, bt_append]
    by_cases h2 : t < v.f3.size
    · rw [if_pos h2, if_pos h2]
    · rw [if_neg h2, if_neg h2, bt_repC _ _ _ (by omega), fillU_c]
theorem part_right (L F N : Nat) (h : F + N ≤ L) : partF L ((F : Int) + 1) = F ∧ partT L ((F : Int) + 1) (N : Int) = F + N := by
  unfold partF partT mn mx
  constructor <;> repeat' split
  all_goals omega
section
variable (s v : S23) (F N : Nat) (hFN : F + N ≤ s.f3.size)
include hFN
theorem set_mid : (setB s v ((F : Int) + 1) (N : Int)).extract F (F + N) = fitB v N := by
  obtain ⟨hF, hT⟩ := part_right s.f3.size F N hFN
  have hz := setB_size s v ((F : Int) + 1) (N : Int)
  have hv := setB_v s v ((F : Int) + 1) (N : Int)
  have hf := setB_f s v ((F : Int) + 1) (N : Int)
  rw [hF, hT] at hv hf
  generalize setB s v ((F : Int) + 1) (N : Int) = B at *
  apply bytes_ext
  · rw [fitB_size]; simp only [ByteArray.size_extract]; omega
  · intro t ht
    simp only [ByteArray.size_extract] at ht
    rw [bt_extract B F (F + N) t (by omega) (by omega), fitB_bt v N t (by omega)]
    have e : ((F + t : Nat) : Int) - ((F : Int) + 1) + 1 = (t : Int) := by omega
    by_cases h1 : t < v.f3.size
    · rw [hv (F + t) (by omega) ⟨by omega, by omega⟩ (by rw [e]; omega), e, if_pos h1]
    · rw [hf (F + t) (by omega) ⟨by omega, by omega⟩ (by rw [e]; omega), if_neg h1]
theorem set_head : (setB s v ((F : Int) + 1) (N : Int)).extract 0 F = s.f3.extract 0 F := by
  obtain ⟨hF, hT⟩ := part_right s.f3.size F N hFN
  have hz := setB_size s v ((F : Int) + 1) (N : Int)
  have ho := setB_o s v ((F : Int) + 1) (N : Int)
  rw [hF, hT] at ho
  generalize setB s v ((F : Int) + 1) (N : Int) = B at *
  apply bytes_ext
  · simp only [ByteArray.size_extract]; omega
  · intro t ht
    simp only [ByteArray.size_extract] at ht
    rw [bt_extract0 _ _ _ (by omega) (by omega), bt_extract0 _ _ _ (by omega) (by omega)]
    exact ho t (by omega) (by omega)
theorem set_tail : (setB s v ((F : Int) + 1) (N : Int)).extract (F + N) (setB s v ((F : Int) + 1) (N : Int)).size = s.f3.extract (F + N) s.f3.size := by
  obtain ⟨hF, hT⟩ := part_right s.f3.size F N hFN
  have hz := setB_size s v ((F : Int) + 1) (N : Int)
  have ho := setB_o s v ((F : Int) + 1) (N : Int)
  rw [hF, hT] at ho
  generalize setB s v ((F : Int) + 1) (N : Int) = B at *
  apply bytes_ext
  · simp only [ByteArray.size_extract]; omega
  · intro t ht
    simp only [ByteArray.size_extract] at ht
    rw [bt_extract _ _ _ t (by omega) (by omega), bt_extract _ _ _ t (by omega) (by omega)]
    exact ho (F + N + t) (by omega) (by omega)
end
theorem parts_j3t (s v : S23) (i n : Int) (a : S23) : Ev (fun k => ironbarklaw05_BitsParts.j3 k i n true s.f0 s.f1 s.f2 s.f3 v.f0 v.f1 v.f2 v.f3 a.f0 a.f1 a.f2 a.f3) true := by
  refine Ev.step (f := fun _ => some true) (fun k => ?_) (Ev.now _)
  simp only [ironbarklaw05_BitsParts.j3]
  rw [if_pos trivial, awake_trueP]; rfl
theorem right_parts (L : Nat) (i n : Int) (hr : partR L i n = true) : ∃ F N : Nat, i = (F : Int) + 1 ∧ n = (N : Int) ∧ F + N ≤ L := by
  have hr' : 1 ≤ i ∧ 0 ≤ n ∧ i + n - 1 ≤ (L : Int) := by simpa [partR] using hr
  exact ⟨(i - 1).toNat, n.toNat, by omega, by omega, by omega⟩
theorem parts_arith (L F N : Nat) (h : F + N ≤ L) (hL : L ≤ 250) : N ≤ 250 ∧ wrap64 ((F : Int) + 1 - 1) = (F : Int) ∧ wrap64 ((F : Int) + (N : Int)) = ((F + N : Nat) : Int) ∧ (0 : Int) ≤ (F : Int) ∧ (F : Int) ≤ (L : Int) ∧ (0 : Int) ≤ ((F + N : Nat) : Int) ∧ ((F + N : Nat) : Int) ≤ (L : Int) :=
  ⟨by omega, w_0 F (by omega), by unfold wrap64; omega, by omega, by omega, by omega, by omega⟩
theorem parts_sub (s v : S23) (F N : Nat) (h : askedI [s, v] = 0) (hi : farI ((F : Int) + 1) = false) (hn : farI (N : Int) = false) (hr : partR s.f3.size ((F : Int) + 1) (N : Int) = true) (hFN : F + N ≤ s.f3.size) :
    bits_Sub.f s.f0 0 0 (setB s v ((F : Int) + 1) (N : Int)) ((F : Int) + 1) (N : Int) = some (s.f0, 0, 0, fitB v N, 0, 0) := by
  have hm := set_mid s v F N hFN
  have hz := setB_size s v ((F : Int) + 1) (N : Int)
  have hok := setB_ok s v ((F : Int) + 1) (N : Int) h
  obtain ⟨p1, p2⟩ := part_right s.f3.size F N hFN
  generalize setB s v ((F : Int) + 1) (N : Int) = B at *
  refine (sub_is ⟨s.f0, 0, 0, B⟩ ((F : Int) + 1) (N : Int)).trans ?_
  unfold subR
  rw [if_pos hok, if_neg (by rw [hi, hn]; decide), hz, p1, p2, hr, hm]; rfl
theorem parts_j3 (s v : S23) (i n : Int) (h : askedI [s, v] = 0) (hi : farI i = false) (hn : farI n = false) (hr : partR s.f3.size i n = true) :
    Ev (fun k => ironbarklaw05_BitsParts.j3 k i n false s.f0 s.f1 s.f2 s.f3 v.f0 v.f1 v.f2 v.f3 s.f0 0 0 (setB s v i n)) true := by
  obtain ⟨F, N, rfl, rfl, hFN⟩ := right_parts _ _ _ hr
  obtain ⟨hN, e1, e2, g1, g2, g3, g4⟩ := parts_arith _ F N hFN (okV_parts (askedI_two h).1).2.2.2.1
  have hk := (askedI_two h).2.2
  have hsub := parts_sub s v F N h hi hn hr hFN
  have hfit := fit_is v N (askedI_two h).2.1 hN
  have hhead := set_head s v F N hFN
  have htail := set_tail s v F N hFN
  have hz := setB_size s v ((F : Int) + 1) (N : Int)
  generalize setB s v ((F : Int) + 1) (N : Int) = B at *
  rw [hz] at htail
  refine Ev.step (f := fun _ => some true) (fun k => ?_) (Ev.now _)
  simp only [ironbarklaw05_BitsParts.j3]
  rw [if_neg (by decide), hsub, Option.bind_some, hfit, Option.bind_some, awake_trueP]
  simp only [e1, e2, hk, beq_self_eq_true, Bool.and_self, if_true, Int.toNat_natCast, hhead, htail, hz, Option.bind_some]
  rw [if_pos g1, if_pos g2, if_pos g2, if_pos g3, if_pos g4, if_pos g4]
theorem parts_j2 (s v : S23) (i n : Int) : Ev (fun k => ironbarklaw05_BitsParts.j2 k i n (setR s v i n).2.2.2.2.1 (setR s v i n).2.2.2.2.2 false s.f0 s.f1 s.f2 s.f3 v.f0 v.f1 v.f2 v.f3 (setR s v i n).1 (setR s v i n).2.1 (setR s v i n).2.2.1 (setR s v i n).2.2.2.1) true := by
  by_cases he : (setR s v i n).2.2.2.2.2 = 0
  · by_cases hc : (setR s v i n).2.2.2.2.1 = 0
    · have h : askedI [s, v] = 0 := by
        by_cases h : askedI [s, v] = 0
        · exact h
        · unfold setR at he; rw [if_neg h] at he; exact absurd he h
      have hf : ¬ (farI i || farI n) = true := by
        intro hf
        unfold setR at he; rw [if_pos h, if_pos hf] at he; cases he
      have hR : setR s v i n = (s.f0, 0, 0, setB s v i n, cnd (partR s.f3.size i n), 0) := by unfold setR; rw [if_pos h, if_neg hf]
      rw [hR] at hc ⊢
      have hf' : farI i = false ∧ farI n = false := by simpa using hf
      have hr : partR s.f3.size i n = true := by
        cases hp : partR s.f3.size i n with
        | true => rfl
        | false => rw [hp] at hc; cases hc
      have hj := parts_j3 s v i n h hf'.1 hf'.2 hr
      refine Ev.step (fun k => ?_) hj
      simp only [ironbarklaw05_BitsParts.j2]
      rw [if_neg (by decide), if_pos trivial, hr]; rfl
    · refine Ev.step (fun k => ?_) (parts_j3t s v i n ⟨(setR s v i n).1, (setR s v i n).2.1, (setR s v i n).2.2.1, (setR s v i n).2.2.2.1⟩)
      simp only [ironbarklaw05_BitsParts.j2]
      rw [if_neg (by decide), if_pos he, bne_iff_ne.2 hc]
  · refine Ev.step (fun k => ?_) (parts_j3t s v i n ⟨(setR s v i n).1, (setR s v i n).2.1, (setR s v i n).2.2.1, (setR s v i n).2.2.2.1⟩)
    simp only [ironbarklaw05_BitsParts.j2]
    rw [if_neg (by decide), if_neg he]
theorem parts_j1 (s v : S23) (i n : Int) : Ev (fun k => ironbarklaw05_BitsParts.j1 k i n false s.f0 s.f1 s.f2 s.f3 v.f0 v.f1 v.f2 v.f3) true := by
  have hj := parts_j2 s v i n
  have hs := set_is s v i n
  have hr := rset_ev s v i n
  generalize setR s v i n = r at *
  refine Ev.step (f := fun k => (ironbarkref05_SetSub.f k s.f0 s.f1 s.f2 s.f3 i n v.f0 v.f1 v.f2 v.f3).bind fun bt140 => (if (!(r.1 == bt140.1) || (!(r.2.1 == bt140.2.1) || (!(r.2.2.1 == bt140.2.2.1) || (!(r.2.2.2.1.toList == bt140.2.2.2.1.toList))))) = true then (ironbarklaw05_BitsParts.j2 k i n r.2.2.2.2.1 r.2.2.2.2.2 true s.f0 s.f1 s.f2 s.f3 v.f0 v.f1 v.f2 v.f3 r.1 r.2.1 r.2.2.1 r.2.2.2.1) else (if r.2.2.2.2.1 = bt140.2.2.2.2.1 then (ironbarklaw05_BitsParts.j2 k i n r.2.2.2.2.1 r.2.2.2.2.2 (r.2.2.2.2.2 != bt140.2.2.2.2.2) s.f0 s.f1 s.f2 s.f3 v.f0 v.f1 v.f2 v.f3 r.1 r.2.1 r.2.2.1 r.2.2.2.1) else (ironbarklaw05_BitsParts.j2 k i n r.2.2.2.2.1 r.2.2.2.2.2 true s.f0 s.f1 s.f2 s.f3 v.f0 v.f1 v.f2 v.f3 r.1 r.2.1 r.2.2.1 r.2.2.2.1)))) (fun k => ?_) ?_
  · simp only [ironbarklaw05_BitsParts.j1]
    rw [if_neg (by decide), hs, Option.bind_some]
  · refine Ev.bind hr ?_
    refine Ev.congr (fun k => (if_neg (by simp)).trans (if_pos rfl)) ?_
    simp only [bne_self_eq_false]; exact hj
theorem parts_j0 (s v : S23) (i n : Int) : Ev (fun k => ironbarklaw05_BitsParts.j0 k i n false s.f0 s.f1 s.f2 s.f3 v.f0 v.f1 v.f2 v.f3) true := by
  have hj := parts_j1 s v i n
  have hs := rest_is s i
  have hr := rrest_is s i
  generalize restR s i = r at *
  refine Ev.step (fun k => ?_) hj
  simp only [ironbarklaw05_BitsParts.j0]
  rw [if_neg (by decide), hs, Option.bind_some, hr, Option.bind_some, if_neg (by simp), if_pos rfl, bne_self_eq_false]
theorem parts_ev (s v : S23) (i n : Int) : Ev (fun k => ironbarklaw05_BitsParts.f k s.f0 s.f1 s.f2 s.f3 i n v.f0 v.f1 v.f2 v.f3) true := by
  have hj := parts_j0 s v i n
  have hs := sub_is s i n
  have hr := rsub_ev s i n
  generalize subR s i n = r at *
  unfold ironbarklaw05_BitsParts.f
  simp only [ironbarklaw05_lightT.f, Option.bind_some, awake_trueP, hs]
  split
  · refine Ev.bind hr ?_
    refine Ev.congr (fun k => (if_neg (by simp)).trans (if_pos rfl)) ?_
    simp only [bne_self_eq_false]; exact hj
  · exact Ev.now _
theorem BitsParts_walk (s : S23) (i n : Int) (v : S23) (w : World) (_ : Wf23 s) (_ : (Lit.int .i64 i).wf = true) (_ : (Lit.int .i64 n).wf = true) (_ : Wf23 v) :
    Calls Try.prog 6 #[.agg #[.int .i64 s.f0, .int .i64 s.f1, .int .i64 s.f2, .string s.f3], .int .i64 i, .int .i64 n, .agg #[.int .i64 v.f0, .int .i64 v.f1, .int .i64 v.f2, .string v.f3]] w fun e w' => e = .returned (.bool true) ∧ Below w.heap.size w w' := by
  obtain ⟨k, hk⟩ := (parts_ev s v i n).rounds
  exact ironbarklaw05_BitsParts.calls k _ _ _ _ _ _ _ _ _ _ true w hk ⟨rfl⟩
end Go.Proofs.Ytnelblndidciiaa.P
