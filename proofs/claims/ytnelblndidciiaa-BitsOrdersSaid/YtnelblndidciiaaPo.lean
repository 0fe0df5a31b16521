/- The plain law of BitsOrders: Compare is the reference's, turned round it has the other sign, and it is an order. -/
import Derived.Test.YtnelblndidciiaaC3
import Derived.Test.YtnelblndidciiaaQ
namespace Go.Proofs.Ytnelblndidciiaa.P
open Go.RowKit Go.Proofs.YtnelblndidciiaaW.PrintWords Go.Proofs.YtnelblndidciiaaW.PrintLast Go.Proofs.YtnelblndidciiaaW.PrintMore
set_option linter.unusedVariables false
set_option linter.unusedSimpArgs false

theorem awake_true : ironbarklaw05_awake.f = some true := by decide +kernel

/-- The item at an index, the filler behind the end. -/
def atF (v : S23) (i : Nat) : Int := if i < v.f3.size then bt v.f3 (i : Int) else fillc v.f0
def cmpF (f g : Nat → Int) : Nat → Nat → Int
  | 0, _ => 0
  | d + 1, i => if f i < g i then -1 else if f i > g i then 1 else cmpF f g d (i + 1)
theorem cmpF_anti (f g : Nat → Int) : ∀ d i, cmpF g f d i = - cmpF f g d i := by
  intro d
  induction d with
  | zero => intro i; rfl
  | succ d ih =>
    intro i
    simp only [cmpF]
    rcases Int.lt_trichotomy (f i) (g i) with h | h | h
    · rw [if_neg (by omega), if_pos h, if_pos h]; rfl
    · rw [if_neg (by omega), if_neg (by omega), if_neg (by omega), if_neg (by omega)]; exact ih _
    · rw [if_pos h, if_neg (by omega), if_pos h]
theorem cmpF_range (f g : Nat → Int) : ∀ d i, -1 ≤ cmpF f g d i ∧ cmpF f g d i ≤ 1 := by
  intro d
  induction d with
  | zero => intro i; simp [cmpF]
  | succ d ih => intro i; simp only [cmpF]; split; · omega
                 split; · omega
                 exact ih _
theorem cmpF_le (f g h : Nat → Int) : ∀ d i, cmpF f g d i ≤ 0 → cmpF g h d i ≤ 0 → cmpF f h d i ≤ 0 := by
  intro d
  induction d with
  | zero => intro i _ _; simp [cmpF]
  | succ d ih =>
    intro i h1 h2
    simp only [cmpF] at *
    by_cases a : f i < g i
    · by_cases b : g i < h i
      · rw [if_pos (by omega)]; omega
      · rw [if_neg b] at h2
        by_cases c : g i > h i
        · rw [if_pos c] at h2; omega
        · rw [if_pos (by omega)]; omega
    · rw [if_neg a] at h1
      by_cases a2 : f i > g i
      · rw [if_pos a2] at h1; omega
      · rw [if_neg a2] at h1
        have e : f i = g i := by omega
        by_cases b : g i < h i
        · rw [if_pos (by omega)]; omega
        · rw [if_neg b] at h2
          by_cases c : g i > h i
          · rw [if_pos c] at h2; omega
          · rw [if_neg c] at h2
            rw [if_neg (by omega), if_neg (by omega)]
            exact ih _ h1 h2
theorem cmpF_ge (f g h : Nat → Int) (d i : Nat) (h1 : 0 ≤ cmpF f g d i) (h2 : 0 ≤ cmpF g h d i) : 0 ≤ cmpF f h d i := by
  have := cmpF_le h g f d i (by rw [cmpF_anti g h]; omega) (by rw [cmpF_anti f g]; omega)
  rw [cmpF_anti f h] at this
  omega
theorem cmpF_same (f g : Nat → Int) : ∀ d i, (∀ j, i ≤ j → f j = g j) → cmpF f g d i = 0 := by
  intro d
  induction d with
  | zero => intro i _; rfl
  | succ d ih =>
    intro i h
    simp only [cmpF]
    rw [h i (Nat.le_refl _), if_neg (by omega), if_neg (by omega)]
    exact ih _ (fun j hj => h j (by omega))
theorem cmpF_more (f g : Nat → Int) (m : Nat) : ∀ d i, (∀ j, i + d ≤ j → f j = g j) → cmpF f g (d + m) i = cmpF f g d i := by
  intro d
  induction d with
  | zero => intro i h; rw [Nat.zero_add]; exact cmpF_same f g m i (fun j hj => h j (by omega))
  | succ d ih =>
    intro i h
    rw [show d + 1 + m = (d + m) + 1 by omega]
    simp only [cmpF]
    rw [ih (i + 1) (fun j hj => h j (by omega))]
theorem cmpF_congr (f g f' g' : Nat → Int) (n : Nat) (hf : ∀ i, i < n → f i = f' i) (hg : ∀ i, i < n → g i = g' i) : ∀ d i, i + d = n → cmpF f g d i = cmpF f' g' d i := by
  intro d
  induction d with
  | zero => intro i h; rfl
  | succ d ih =>
    intro i h
    simp only [cmpF]
    rw [hf i (by omega), hg i (by omega), ih (i + 1) (by omega)]
/-- Compare's value for two strings that may be compared. -/
def mxN (a b : S23) : Nat := max a.f3.size b.f3.size
def cmpI (a b : S23) : Int := cmpF (atF a) (atF b) (mxN a b) 0
theorem mx_size (a b : S23) : mx (a.f3.size : Int) (b.f3.size : Int) = (mxN a b : Int) := by unfold mx mxN; split <;> omega
def Str (v : S23) : Prop := okV v = true
theorem Str.len {v : S23} (h : Str v) : v.f3.size ≤ 250 := (okV_parts h).2.2.2.1
theorem Str.kind {v : S23} (h : Str v) : v.f0 = 4 ∨ v.f0 = 5 := (okV_parts h).1
theorem cmpI_at (a b : S23) (hk : a.f0 = b.f0) (N : Nat) (hN : mxN a b ≤ N) : cmpI a b = cmpF (atF a) (atF b) N 0 := by
  obtain ⟨m, rfl⟩ : ∃ m, N = mxN a b + m := ⟨N - mxN a b, by omega⟩
  refine (cmpF_more _ _ m _ 0 (fun j hj => ?_)).symm
  unfold mxN at hj
  unfold atF
  rw [if_neg (by omega), if_neg (by omega), hk]
theorem at_is (v : S23) (hv : Str v) (i : Nat) : bits_at.f v.f0 v.f1 v.f2 v.f3 (i : Int) = some (atF v i) := by
  unfold bits_at.f atF
  by_cases h : i < v.f3.size
  · rw [if_pos (by omega), if_pos (by omega), if_pos h]
  · rw [if_neg (by omega), if_pos hv.kind, if_neg h]
theorem compare_l0 (a b : S23) (ha : Str a) (hb : Str b) (n : Nat) (hn : n ≤ 250) : ∀ d i, i + d = n →
    Ev (fun k => bits_Compare.l0 k (n : Int) (i : Int) a.f0 a.f1 a.f2 a.f3 b.f0 b.f1 b.f2 b.f3) (cmpF (atF a) (atF b) d i, 0) := by
  intro d
  induction d with
  | zero =>
    intro i h
    exact Ev.step (f := fun _ => some (0, 0)) (fun k => by simp only [bits_Compare.l0]; rw [if_neg (by omega)]) (Ev.now _)
  | succ d ih =>
    intro i h
    have e : ∀ k, bits_Compare.l0 (k + 1) (n : Int) (i : Int) a.f0 a.f1 a.f2 a.f3 b.f0 b.f1 b.f2 b.f3 = if atF a i < atF b i then some (-1, 0) else if atF a i > atF b i then some (1, 0) else bits_Compare.l0 k (n : Int) ((i + 1 : Nat) : Int) a.f0 a.f1 a.f2 a.f3 b.f0 b.f1 b.f2 b.f3 := fun k => by
      simp only [bits_Compare.l0]
      rw [if_pos (by omega), at_is a ha, at_is b hb, wrapN (show i < n by omega) (by omega)]
      simp only [Option.bind_some]
    simp only [cmpF]
    by_cases h1 : atF a i < atF b i
    · rw [if_pos h1]; exact Ev.step (f := fun _ => some (-1, 0)) (fun k => by rw [e, if_pos h1]) (Ev.now _)
    · by_cases h2 : atF a i > atF b i
      · rw [if_neg h1, if_pos h2]; exact Ev.step (f := fun _ => some (1, 0)) (fun k => by rw [e, if_neg h1, if_pos h2]) (Ev.now _)
      · rw [if_neg h1, if_neg h2]; exact Ev.step (fun k => by rw [e, if_neg h1, if_neg h2]) (ih _ (by omega))
def cmpR (a b : S23) : Int × Int := if askedI [a, b] = 0 then (cmpI a b, 0) else (0, askedI [a, b])
theorem compare_ev (a b : S23) : Ev (fun k => bits_Compare.f k a.f0 a.f1 a.f2 a.f3 b.f0 b.f1 b.f2 b.f3) (cmpR a b) := by
  unfold bits_Compare.f cmpR
  simp only [bits_askedT.f, Option.bind_some]
  by_cases h : askedI [a, b] = 0
  · obtain ⟨ha, hb, hk⟩ := askedI_two h
    rw [if_pos h]
    refine Ev.congr (fun k => if_pos h) ?_
    rw [mx_size]
    exact compare_l0 a b ha hb (mxN a b) (by have h1 := Str.len ha; have h2 := Str.len hb; unfold mxN; omega) _ 0 (by omega)
  · rw [if_neg h]
    exact Ev.congr (f := fun _ => some (0, askedI [a, b])) (fun k => if_neg h) (Ev.now _)
theorem rcompare_l0 (x y : ByteArray) (n : Nat) (hn : n ≤ 250) (hx : x.size = n) (hy : y.size = n) : ∀ d i, i + d = n →
    Ev (fun k => ironbarkref05_Compare.l0 k (n : Int) x y (i : Int)) (cmpF (fun j => bt x (j : Int)) (fun j => bt y (j : Int)) d i, 0) := by
  intro d
  induction d with
  | zero =>
    intro i h
    exact Ev.step (f := fun _ => some (0, 0)) (fun k => by simp only [ironbarkref05_Compare.l0]; rw [if_neg (by omega)]) (Ev.now _)
  | succ d ih =>
    intro i h
    have e : ∀ k, ironbarkref05_Compare.l0 (k + 1) (n : Int) x y (i : Int) = if bt x (i : Int) < bt y (i : Int) then some (-1, 0) else if bt x (i : Int) > bt y (i : Int) then some (1, 0) else ironbarkref05_Compare.l0 k (n : Int) x y ((i + 1 : Nat) : Int) := fun k => by
      simp only [ironbarkref05_Compare.l0]
      rw [if_pos (by omega), if_pos (by omega), if_pos (by omega), if_pos (by omega), wrapN (show i < n by omega) (by omega)]
    simp only [cmpF]
    by_cases h1 : bt x (i : Int) < bt y (i : Int)
    · rw [if_pos h1]; exact Ev.step (f := fun _ => some (-1, 0)) (fun k => by rw [e, if_pos h1]) (Ev.now _)
    · by_cases h2 : bt x (i : Int) > bt y (i : Int)
      · rw [if_neg h1, if_pos h2]; exact Ev.step (f := fun _ => some (1, 0)) (fun k => by rw [e, if_neg h1, if_pos h2]) (Ev.now _)
      · rw [if_neg h1, if_neg h2]; exact Ev.step (fun k => by rw [e, if_neg h1, if_neg h2]) (ih _ (by omega))
theorem fillB_c (n : Int) (h : n = 4 ∨ n = 5) : ((fillB n).toNat : Int) = fillc n := by rcases h with rfl | rfl <;> rfl
theorem filled_at (v : S23) (hv : Str v) (n i : Nat) (h : i < n) : bt (filledS v.f3 v.f0 (n : Int)) (i : Int) = atF v i := by
  rw [bt_filledS _ _ _ _ (by omega), fillB_c _ hv.kind]; rfl
theorem rcompare_ev (a b : S23) : Ev (fun k => ironbarkref05_Compare.f k a.f0 a.f1 a.f2 a.f3 b.f0 b.f1 b.f2 b.f3) (cmpR a b) := by
  unfold ironbarkref05_Compare.f cmpR
  simp only [ironbarkref05_stringsT.f, Option.bind_some, strings_asked]
  by_cases h : askedI [a, b] = 0
  · obtain ⟨ha, hb, hk⟩ := askedI_two h
    have hn : mxN a b ≤ 250 := by have h1 := Str.len ha; have h2 := Str.len hb; unfold mxN; omega
    rw [if_pos h]
    refine Ev.congr (fun k => if_pos h) ?_
    rw [mx_size]
    simp only [ironbarkref05_FilledT.f]
    rw [if_pos (by omega), if_pos (by omega)]
    simp only [Option.bind_some]
    have hc := cmpF_congr (fun j => bt (filledS a.f3 a.f0 (mxN a b : Int)) (j : Int)) (fun j => bt (filledS b.f3 b.f0 (mxN a b : Int)) (j : Int)) (atF a) (atF b) (mxN a b)
      (fun i hi => filled_at a ha _ i hi) (fun i hi => filled_at b hb _ i hi) (mxN a b) 0 (by omega)
    unfold cmpI
    rw [← hc]
    exact rcompare_l0 _ _ (mxN a b) hn (by rw [filledS_size]; omega) (by rw [filledS_size]; omega) _ 0 (by omega)
  · rw [if_neg h]
    exact Ev.congr (f := fun _ => some (0, askedI [a, b])) (fun k => if_neg h) (Ev.now _)
theorem asked_zero {a b : S23} (ha : okV a = true) (hb : okV b = true) (h : a.f0 = b.f0) : askedI [a, b] = 0 := by
  simp [askedI, ha, hb, h]
theorem orders_j2 (x y z : Int) (b : Bool) (h : b = false → ¬ (x ≤ 0 ∧ y ≤ 0 ∧ z > 0) ∧ ¬ (x ≥ 0 ∧ y ≥ 0 ∧ z < 0)) : Ev (fun k => ironbarklaw05_BitsOrders.j2 k x y z b) true := by
  refine Ev.step (f := fun _ => some true) (fun k => ?_) (Ev.now _)
  simp only [ironbarklaw05_BitsOrders.j2, awake_true, Option.bind_some]
  cases b with
  | true => rw [if_pos rfl]
  | false =>
    obtain ⟨h1, h2⟩ := h rfl
    rw [if_neg (by decide)]
    repeat' split
    all_goals first | rfl | (exfalso; omega)
theorem orders_ev (a b c : S23) : Ev (fun k => ironbarklaw05_BitsOrders.f k a.f0 a.f1 a.f2 a.f3 b.f0 b.f1 b.f2 b.f3 c.f0 c.f1 c.f2 c.f3) true := by
  unfold ironbarklaw05_BitsOrders.f
  simp only [ironbarklaw05_lightT.f, Option.bind_some, awake_true]
  split
  · refine Ev.bind (compare_ev a b) (Ev.bind (rcompare_ev a b) ?_)
    simp only [if_true, bne_self_eq_false]
    by_cases h : askedI [a, b] = 0
    · obtain ⟨ha, hb, hk⟩ := askedI_two h
      have e : cmpR a b = (cmpI a b, 0) := if_pos h
      have e2 : cmpR b a = (cmpI b a, 0) := if_pos (asked_zero hb ha hk.symm)
      have e3 : cmpI b a = - cmpI a b := by
        unfold cmpI; rw [show mxN b a = mxN a b from Nat.max_comm _ _]; exact cmpF_anti _ _ _ _
      rw [e]
      refine Ev.step (f := fun k => (bits_Compare.f k b.f0 b.f1 b.f2 b.f3 a.f0 a.f1 a.f2 a.f3).bind fun bt149 => if bt149.2 = 0 then ironbarklaw05_BitsOrders.j1 k (cmpI a b) (bt149.1 != wrap64 (-cmpI a b)) a.f0 a.f1 a.f2 a.f3 b.f0 b.f1 b.f2 b.f3 c.f0 c.f1 c.f2 c.f3 else ironbarklaw05_BitsOrders.j1 k (cmpI a b) true a.f0 a.f1 a.f2 a.f3 b.f0 b.f1 b.f2 b.f3 c.f0 c.f1 c.f2 c.f3) (fun k => by
        simp only [ironbarklaw05_BitsOrders.j0]; rw [if_neg (by decide), if_pos trivial]) ?_
      refine Ev.bind (compare_ev b a) ?_
      rw [e2, e3]
      have hr := cmpF_range (atF a) (atF b) (mxN a b) 0
      have ew : wrap64 (-cmpI a b) = -cmpI a b := by unfold cmpI wrap64; omega
      simp only [if_true, ew, bne_self_eq_false]
      refine Ev.step (f := fun k => (bits_Compare.f k b.f0 b.f1 b.f2 b.f3 c.f0 c.f1 c.f2 c.f3).bind fun bt151 => (bits_Compare.f k a.f0 a.f1 a.f2 a.f3 c.f0 c.f1 c.f2 c.f3).bind fun bt153 => if bt151.2 = 0 then ironbarklaw05_BitsOrders.j2 k (cmpI a b) bt151.1 bt153.1 (bt153.2 != 0) else ironbarklaw05_BitsOrders.j2 k (cmpI a b) bt151.1 bt153.1 true) (fun k => by
        simp only [ironbarklaw05_BitsOrders.j1]; rw [if_neg (by decide)]) ?_
      refine Ev.bind (compare_ev b c) (Ev.bind (compare_ev a c) ?_)
      by_cases h2 : (cmpR b c).2 = 0
      · refine Ev.congr (fun k => if_pos h2) ?_
        refine orders_j2 _ _ _ _ (fun h3 => ?_)
        have h3 : (cmpR a c).2 = 0 := by simpa using h3
        have hbc : askedI [b, c] = 0 := by
          by_cases hh : askedI [b, c] = 0
          · exact hh
          · simp [cmpR, hh] at h2
        obtain ⟨_, hc, hk2⟩ := askedI_two hbc
        have hac := asked_zero ha hc (hk.trans hk2)
        have f1 : (cmpR b c).1 = cmpI b c := by simp [cmpR, hbc]
        have f2 : (cmpR a c).1 = cmpI a c := by simp [cmpR, hac]
        rw [f1, f2]
        have n1 : mxN a b ≤ max (mxN a b) (max (mxN b c) (mxN a c)) := by omega
        have n2 : mxN b c ≤ max (mxN a b) (max (mxN b c) (mxN a c)) := by omega
        have n3 : mxN a c ≤ max (mxN a b) (max (mxN b c) (mxN a c)) := by omega
        rw [cmpI_at a b hk _ n1, cmpI_at b c hk2 _ n2, cmpI_at a c (hk.trans hk2) _ n3]
        constructor
        · rintro ⟨g1, g2, g3⟩
          have := cmpF_le _ _ _ _ _ g1 g2; omega
        · rintro ⟨g1, g2, g3⟩
          have := cmpF_ge _ _ _ _ _ g1 g2; omega
      · refine Ev.congr (fun k => if_neg h2) ?_
        exact orders_j2 _ _ _ _ (fun h3 => by cases h3)
    · have e : cmpR a b = (0, askedI [a, b]) := if_neg h
      rw [e]
      refine Ev.step (f := fun _ => some true) (fun k => ?_) (Ev.now _)
      simp only [ironbarklaw05_BitsOrders.j0, awake_true, Option.bind_some]
      rw [if_neg (by decide), if_neg h]
  · exact Ev.now _
theorem BitsOrders_walk (a b c : S23) (w : World) (_ : Wf23 a) (_ : Wf23 b) (_ : Wf23 c) :
    Calls Try.prog 3 #[.agg #[.int .i64 a.f0, .int .i64 a.f1, .int .i64 a.f2, .string a.f3], .agg #[.int .i64 b.f0, .int .i64 b.f1, .int .i64 b.f2, .string b.f3], .agg #[.int .i64 c.f0, .int .i64 c.f1, .int .i64 c.f2, .string c.f3]] w fun e w' => e = .returned (.bool true) ∧ Below w.heap.size w w' := by
  obtain ⟨k, hk⟩ := (orders_ev a b c).rounds
  exact ironbarklaw05_BitsOrders.calls k _ _ _ _ _ _ _ _ _ _ _ _ true w hk
end Go.Proofs.Ytnelblndidciiaa.P
