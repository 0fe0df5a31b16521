/- Part 9 of the proof of the law BitsParts: functions, contracts and plain laws; merged by this session's program. -/
import Derived.Deep.Slices
import Derived.Deep.Fields
import Derived.ProofKit
import Derived.ChangeSame
import Derived.SizedLaws
import Derived.Test.YtnelblndidciiaaMBitsParts1
import Derived.Test.YtnelblndidciiaaMBitsParts2
import Derived.Test.YtnelblndidciiaaMBitsParts3
import Derived.Test.YtnelblndidciiaaMBitsParts4
import Derived.Test.YtnelblndidciiaaMBitsParts5
import Derived.Test.YtnelblndidciiaaMBitsParts6
import Derived.Test.YtnelblndidciiaaMBitsParts7
import Derived.Test.YtnelblndidciiaaMBitsParts8
-- from the text E6
namespace Go.Proofs.Ytnelblndidciiaa.P
open Go.RowKit Go.Proofs.YtnelblndidciiaaW.PrintWords Go.Proofs.YtnelblndidciiaaW.PrintLast Go.Proofs.YtnelblndidciiaaW.PrintMore
attribute [local go_sem] max2_int min2_int max_two min_two max_three min_three max_four min_four   -- for this text's walks alone
set_option linter.unusedVariables false
set_option linter.unusedSimpArgs false
attribute [local go_sem high] eqA23
mutual
def ironbarklaw05_BitsParts.j0 : Nat → Int → Int → Bool → Int → Int → Int → ByteArray → Int → Int → Int → ByteArray → Option (Bool)
 | 0, _, _, _, _, _, _, _, _, _, _, _ => none
 | k + 1, x1, x2, x53, x102000, x102001, x102002, x102003, x103000, x103001, x103002, x103003 => if x53 = true then (some false) else ((bits_Rest.f x102000 x102001 x102002 x102003 x1).bind fun bt122 => ((ironbarkref05_Rest.f x102000 x102001 x102002 x102003 x1).bind fun bt128 => (if (!(bt122.1 == bt128.1) || (!(bt122.2.1 == bt128.2.1) || (!(bt122.2.2.1 == bt128.2.2.1) || (!(bt122.2.2.2.1.toList == bt128.2.2.2.1.toList))))) = true then (ironbarklaw05_BitsParts.j1 k x1 x2 true x102000 x102001 x102002 x102003 x103000 x103001 x103002 x103003) else (if bt122.2.2.2.2.1 = bt128.2.2.2.2.1 then (ironbarklaw05_BitsParts.j1 k x1 x2 (bt122.2.2.2.2.2 != bt128.2.2.2.2.2) x102000 x102001 x102002 x102003 x103000 x103001 x103002 x103003) else (ironbarklaw05_BitsParts.j1 k x1 x2 true x102000 x102001 x102002 x102003 x103000 x103001 x103002 x103003)))))
def ironbarklaw05_BitsParts.j1 : Nat → Int → Int → Bool → Int → Int → Int → ByteArray → Int → Int → Int → ByteArray → Option (Bool)
 | 0, _, _, _, _, _, _, _, _, _, _, _ => none
 | k + 1, x1, x2, x80, x102000, x102001, x102002, x102003, x103000, x103001, x103002, x103003 => if x80 = true then (some false) else ((bits_SetSub.f x102000 x102001 x102002 x102003 x1 x2 x103000 x103001 x103002 x103003).bind fun bt134 => ((ironbarkref05_SetSub.f k x102000 x102001 x102002 x102003 x1 x2 x103000 x103001 x103002 x103003).bind fun bt140 => (if (!(bt134.1 == bt140.1) || (!(bt134.2.1 == bt140.2.1) || (!(bt134.2.2.1 == bt140.2.2.1) || (!(bt134.2.2.2.1.toList == bt140.2.2.2.1.toList))))) = true then (ironbarklaw05_BitsParts.j2 k x1 x2 bt134.2.2.2.2.1 bt134.2.2.2.2.2 true x102000 x102001 x102002 x102003 x103000 x103001 x103002 x103003 bt134.1 bt134.2.1 bt134.2.2.1 bt134.2.2.2.1) else (if bt134.2.2.2.2.1 = bt140.2.2.2.2.1 then (ironbarklaw05_BitsParts.j2 k x1 x2 bt134.2.2.2.2.1 bt134.2.2.2.2.2 (bt134.2.2.2.2.2 != bt140.2.2.2.2.2) x102000 x102001 x102002 x102003 x103000 x103001 x103002 x103003 bt134.1 bt134.2.1 bt134.2.2.1 bt134.2.2.2.1) else (ironbarklaw05_BitsParts.j2 k x1 x2 bt134.2.2.2.2.1 bt134.2.2.2.2.2 true x102000 x102001 x102002 x102003 x103000 x103001 x103002 x103003 bt134.1 bt134.2.1 bt134.2.2.1 bt134.2.2.2.1)))))
def ironbarklaw05_BitsParts.j2 : Nat → Int → Int → Int → Int → Bool → Int → Int → Int → ByteArray → Int → Int → Int → ByteArray → Int → Int → Int → ByteArray → Option (Bool)
 | 0, _, _, _, _, _, _, _, _, _, _, _, _, _, _, _, _, _ => none
 | k + 1, x1, x2, x10, x11, x111, x102000, x102001, x102002, x102003, x103000, x103001, x103002, x103003, x115000, x115001, x115002, x115003 => if x111 = true then (some false) else (if x11 = 0 then (ironbarklaw05_BitsParts.j3 k x1 x2 (x10 != 0) x102000 x102001 x102002 x102003 x103000 x103001 x103002 x103003 x115000 x115001 x115002 x115003) else (ironbarklaw05_BitsParts.j3 k x1 x2 true x102000 x102001 x102002 x102003 x103000 x103001 x103002 x103003 x115000 x115001 x115002 x115003))
def ironbarklaw05_BitsParts.j3 : Nat → Int → Int → Bool → Int → Int → Int → ByteArray → Int → Int → Int → ByteArray → Int → Int → Int → ByteArray → Option (Bool)
 | 0, _, _, _, _, _, _, _, _, _, _, _, _, _, _, _ => none
 | k + 1, x1, x2, x117, x102000, x102001, x102002, x102003, x103000, x103001, x103002, x103003, x115000, x115001, x115002, x115003 => if x117 = true then ((ironbarklaw05_awake.f).bind fun t146 => (some t146)) else ((bits_Sub.f x115000 x115001 x115002 x115003 x1 x2).bind fun bt147 => ((bits_Fit.f x103000 x103001 x103002 x103003 x103000 0 0 x2 false (⟨#[]⟩ : ByteArray)).bind fun bt154 => (if bt147.2.2.2.2.2 = 0 then (if bt154.2.2.2.2.2 = 0 then (if (bt147.1 == bt154.1 && (bt147.2.1 == bt154.2.1 && (bt147.2.2.1 == bt154.2.2.1 && (bt147.2.2.2.1.toList == bt154.2.2.2.1.toList)))) = true then (if 0 ≤ (wrap64 (x1 - 1)) then (if (wrap64 (x1 - 1)) ≤ (x115003.size : Int) then (if (wrap64 (x1 - 1)) ≤ (x102003.size : Int) then (if (x115003.extract 0 ((wrap64 (x1 - 1)) : Int).toNat).toList = (x102003.extract 0 ((wrap64 (x1 - 1)) : Int).toNat).toList then (if 0 ≤ (wrap64 ((wrap64 (x1 - 1)) + x2)) then (if (wrap64 ((wrap64 (x1 - 1)) + x2)) ≤ (x115003.size : Int) then (if (wrap64 ((wrap64 (x1 - 1)) + x2)) ≤ (x102003.size : Int) then (if (x115003.extract ((wrap64 ((wrap64 (x1 - 1)) + x2)) : Int).toNat x115003.size).toList = (x102003.extract ((wrap64 ((wrap64 (x1 - 1)) + x2)) : Int).toNat x102003.size).toList then ((ironbarklaw05_awake.f).bind fun t161 => (some t161)) else (some false)) else (none)) else (none)) else (none)) else (some false)) else (none)) else (none)) else (none)) else (some false)) else (some false)) else (some false))))
end
def ironbarklaw05_BitsParts.f (k : Nat) (a0_0 : Int) (a0_1 : Int) (a0_2 : Int) (a0_3 : ByteArray) (a1 : Int) (a2 : Int) (a3_0 : Int) (a3_1 : Int) (a3_2 : Int) (a3_3 : ByteArray) : Option (Bool) := (ironbarklaw05_lightT.f (([(⟨a0_0, a0_1, a0_2, a0_3⟩ : S23), (⟨a3_0, a3_1, a3_2, a3_3⟩ : S23)] : List (S23)))).bind fun t106 => (if t106 = true then ((bits_Sub.f a0_0 a0_1 a0_2 a0_3 a1 a2).bind fun bt108 => ((ironbarkref05_Sub.f k a0_0 a0_1 a0_2 a0_3 a1 a2).bind fun bt115 => (if (!(bt108.1 == bt115.1) || (!(bt108.2.1 == bt115.2.1) || (!(bt108.2.2.1 == bt115.2.2.1) || (!(bt108.2.2.2.1.toList == bt115.2.2.2.1.toList))))) = true then (ironbarklaw05_BitsParts.j0 k a1 a2 true a0_0 a0_1 a0_2 a0_3 a3_0 a3_1 a3_2 a3_3) else (if bt108.2.2.2.2.1 = bt115.2.2.2.2.1 then (ironbarklaw05_BitsParts.j0 k a1 a2 (bt108.2.2.2.2.2 != bt115.2.2.2.2.2) a0_0 a0_1 a0_2 a0_3 a3_0 a3_1 a3_2 a3_3) else (ironbarklaw05_BitsParts.j0 k a1 a2 true a0_0 a0_1 a0_2 a0_3 a3_0 a3_1 a3_2 a3_3))))) else ((ironbarklaw05_awake.f).bind fun t107 => (some t107)))
def ironbarklaw05_BitsParts.T19 : Bool × List (List Nat × List Nat) := (true, [([], []), ([0], [0]), ([1], [1]), ([2], [2]), ([3, 2], [2, 3]), ([2, 4], [2, 4]), ([5, 2], [5]), ([6], [6]), ([6], [6]), ([7, 8, 6], [6, 7, 8]), ([6, 9], [6, 9]), ([10, 6], [10]), ([11], [11]), ([12, 11], [11, 12]), ([11], [11]), ([14, 11], [11, 14]), ([13, 15, 11], [11, 13, 15]), ([11], [11]), ([17, 11], [11, 17]), ([11], [11]), ([19, 11], [11, 19]), ([18, 20, 11], [11, 18, 20]), ([16, 21, 11], [11, 16, 21]), ([11, 22], [11, 22]), ([23, 11], [23]), ([24], [24]), ([25, 24], [24, 25]), ([24], [24]), ([27, 24], [24, 27]), ([24], [24]), ([28, 29, 24], [24, 28, 29]), ([26, 30, 24], [24, 26, 30]), ([24], [24]), ([32, 24], [24, 32]), ([24], [24]), ([34, 24], [24, 34]), ([24], [24]), ([35, 36, 24], [24, 35, 36]), ([33, 37, 24], [24, 33, 37]), ([31, 38, 24], [24, 31, 38]), ([24, 39], [24, 39]), ([40, 24], [40]), ([41, 41], [41]), ([41, 42], [41, 42]), ([43, 42, 0, 1, 2, 3, 4, 5, 6, 7, 8, 9, 10, 11, 12, 13, 14, 15, 16, 17, 18, 19, 20, 21, 22, 23, 24, 25, 26, 27, 28, 29, 30, 31, 32, 33, 34, 35, 36, 37, 38, 39, 40, 41, 42, 43], [43])])
def ironbarklaw05_BitsParts.B19 : List Nat := [0, 1, 3, 7, 15, 31, 63, 127, 127, 511, 1023, 2047, 4095, 8191, 4095, 20479, 65535, 4095, 135167, 4095, 528383, 1970175, 4194303, 8388607, 16777215, 33554431, 67108863, 33554431, 167772159, 33554431, 973078527, 2147483647, 33554431, 4328521727, 33554431, 17213423615, 33554431, 120292638719, 270616494079, 549755813887, 1099511627775, 2199023255551, 4398046511103, 8796093022207, 17592186044415]
theorem ironbarklaw05_BitsParts.tab19 : rtab .any (opsOf Try.f6 19) = ironbarklaw05_BitsParts.T19 := by kernel_rfl
theorem ironbarklaw05_BitsParts.bits19 : waitsOk ironbarklaw05_BitsParts.T19.2 ironbarklaw05_BitsParts.B19 = true := by kernel_rfl
set_option maxHeartbeats 8000000 in
set_option maxRecDepth 100000 in
theorem ironbarklaw05_BitsParts.calls (k : Nat) (a0_0 : Int) (a0_1 : Int) (a0_2 : Int) (a0_3 : ByteArray) (a1 : Int) (a2 : Int) (a3_0 : Int) (a3_1 : Int) (a3_2 : Int) (a3_3 : ByteArray) (r : Bool) (w : World) (h : ironbarklaw05_BitsParts.f k a0_0 a0_1 a0_2 a0_3 a1 a2 a3_0 a3_1 a3_2 a3_3 = some r) (hrt_ : Aside0 (r = true)) :
  Calls Try.prog 6 #[.agg #[.int .i64 a0_0, .int .i64 a0_1, .int .i64 a0_2, .string a0_3], .int .i64 a1, .int .i64 a2, .agg #[.int .i64 a3_0, .int .i64 a3_1, .int .i64 a3_2, .string a3_3]] w fun e w' => e = .returned (.bool r) ∧ Below w.heap.size w w' := by
 have hu23 := Try.underlying23
 have hu44 := Try.underlying44
 have HB := Aside0.mk (Below.refl w.heap.size w)
 have H : ((ironbarklaw05_lightT.f (([(⟨a0_0, a0_1, a0_2, a0_3⟩ : S23), (⟨a3_0, a3_1, a3_2, a3_3⟩ : S23)] : List (S23)))).bind fun t106 => (if t106 = true then ((bits_Sub.f a0_0 a0_1 a0_2 a0_3 a1 a2).bind fun bt108 => ((ironbarkref05_Sub.f k a0_0 a0_1 a0_2 a0_3 a1 a2).bind fun bt115 => (if (!(bt108.1 == bt115.1) || (!(bt108.2.1 == bt115.2.1) || (!(bt108.2.2.1 == bt115.2.2.1) || (!(bt108.2.2.2.1.toList == bt115.2.2.2.1.toList))))) = true then (ironbarklaw05_BitsParts.j0 k a1 a2 true a0_0 a0_1 a0_2 a0_3 a3_0 a3_1 a3_2 a3_3) else (if bt108.2.2.2.2.1 = bt115.2.2.2.2.1 then (ironbarklaw05_BitsParts.j0 k a1 a2 (bt108.2.2.2.2.2 != bt115.2.2.2.2.2) a0_0 a0_1 a0_2 a0_3 a3_0 a3_1 a3_2 a3_3) else (ironbarklaw05_BitsParts.j0 k a1 a2 true a0_0 a0_1 a0_2 a0_3 a3_0 a3_1 a3_2 a3_3))))) else ((ironbarklaw05_awake.f).bind fun t107 => (some t107)))) = some r := h
 clear h
 obtain ⟨y103, hy103⟩ : ∃ y_ : List (S23), y_ = (([(⟨a0_0, a0_1, a0_2, a0_3⟩ : S23), (⟨a3_0, a3_1, a3_2, a3_3⟩ : S23)] : List (S23))) := ⟨_, rfl⟩
 replace H : ((ironbarklaw05_lightT.f y103).bind fun t106 => (if t106 = true then ((bits_Sub.f a0_0 a0_1 a0_2 a0_3 a1 a2).bind fun bt108 => ((ironbarkref05_Sub.f k a0_0 a0_1 a0_2 a0_3 a1 a2).bind fun bt115 => (if (!(bt108.1 == bt115.1) || (!(bt108.2.1 == bt115.2.1) || (!(bt108.2.2.1 == bt115.2.2.1) || (!(bt108.2.2.2.1.toList == bt115.2.2.2.1.toList))))) = true then (ironbarklaw05_BitsParts.j0 k a1 a2 true a0_0 a0_1 a0_2 a0_3 a3_0 a3_1 a3_2 a3_3) else (if bt108.2.2.2.2.1 = bt115.2.2.2.2.1 then (ironbarklaw05_BitsParts.j0 k a1 a2 (bt108.2.2.2.2.2 != bt115.2.2.2.2.2) a0_0 a0_1 a0_2 a0_3 a3_0 a3_1 a3_2 a3_3) else (ironbarklaw05_BitsParts.j0 k a1 a2 true a0_0 a0_1 a0_2 a0_3 a3_0 a3_1 a3_2 a3_3))))) else ((ironbarklaw05_awake.f).bind fun t107 => (some t107)))) = some r := by first | (rw [hy103]; with_reducible exact H) | (have H2_ := (Option.bind_some _ _).symm.trans H; rw [hy103]; with_reducible exact H2_) | (have H2_ := (Option.bind_some _ _).symm.trans H; with_reducible exact H2_) | with_reducible exact H | (rw [hy103]; exact H) | exact H
 have Ny103 := Aside0.mk hy103
 clear hy103
 replace H := Option.bind_eq_some_iff.mp H
 obtain ⟨t106, A50, H⟩ := H
 replace H : (if t106 = true then ((bits_Sub.f a0_0 a0_1 a0_2 a0_3 a1 a2).bind fun bt108 => ((ironbarkref05_Sub.f k a0_0 a0_1 a0_2 a0_3 a1 a2).bind fun bt115 => (if (!(bt108.1 == bt115.1) || (!(bt108.2.1 == bt115.2.1) || (!(bt108.2.2.1 == bt115.2.2.1) || (!(bt108.2.2.2.1.toList == bt115.2.2.2.1.toList))))) = true then (ironbarklaw05_BitsParts.j0 k a1 a2 true a0_0 a0_1 a0_2 a0_3 a3_0 a3_1 a3_2 a3_3) else (if bt108.2.2.2.2.1 = bt115.2.2.2.2.1 then (ironbarklaw05_BitsParts.j0 k a1 a2 (bt108.2.2.2.2.2 != bt115.2.2.2.2.2) a0_0 a0_1 a0_2 a0_3 a3_0 a3_1 a3_2 a3_3) else (ironbarklaw05_BitsParts.j0 k a1 a2 true a0_0 a0_1 a0_2 a0_3 a3_0 a3_1 a3_2 a3_3))))) else ((ironbarklaw05_awake.f).bind fun t107 => (some t107))) = some r := H
 have A5 := Aside0.mk A50
 clear A50
 by_cases c6 : t106 = true
 ·subst c6
  have H1 : ((bits_Sub.f a0_0 a0_1 a0_2 a0_3 a1 a2).bind fun bt108 => ((ironbarkref05_Sub.f k a0_0 a0_1 a0_2 a0_3 a1 a2).bind fun bt115 => (if (!(bt108.1 == bt115.1) || (!(bt108.2.1 == bt115.2.1) || (!(bt108.2.2.1 == bt115.2.2.1) || (!(bt108.2.2.2.1.toList == bt115.2.2.2.1.toList))))) = true then (ironbarklaw05_BitsParts.j0 k a1 a2 true a0_0 a0_1 a0_2 a0_3 a3_0 a3_1 a3_2 a3_3) else (if bt108.2.2.2.2.1 = bt115.2.2.2.2.1 then (ironbarklaw05_BitsParts.j0 k a1 a2 (bt108.2.2.2.2.2 != bt115.2.2.2.2.2) a0_0 a0_1 a0_2 a0_3 a3_0 a3_1 a3_2 a3_3) else (ironbarklaw05_BitsParts.j0 k a1 a2 true a0_0 a0_1 a0_2 a0_3 a3_0 a3_1 a3_2 a3_3))))) = some r := by rw [if_pos rfl] at H; exact H
  clear H
  have H := H1
  clear H1
  replace H := Option.bind_eq_some_iff.mp H
  obtain ⟨⟨t108, t109, t110, t111, t112, t113⟩, A70, H⟩ := H
  replace H : ((ironbarkref05_Sub.f k a0_0 a0_1 a0_2 a0_3 a1 a2).bind fun bt115 => (if (!(t108 == bt115.1) || (!(t109 == bt115.2.1) || (!(t110 == bt115.2.2.1) || (!(t111.toList == bt115.2.2.2.1.toList))))) = true then (ironbarklaw05_BitsParts.j0 k a1 a2 true a0_0 a0_1 a0_2 a0_3 a3_0 a3_1 a3_2 a3_3) else (if t112 = bt115.2.2.2.2.1 then (ironbarklaw05_BitsParts.j0 k a1 a2 (t113 != bt115.2.2.2.2.2) a0_0 a0_1 a0_2 a0_3 a3_0 a3_1 a3_2 a3_3) else (ironbarklaw05_BitsParts.j0 k a1 a2 true a0_0 a0_1 a0_2 a0_3 a3_0 a3_1 a3_2 a3_3)))) = some r := H
  have A7 := Aside0.mk A70
  clear A70
  replace H := Option.bind_eq_some_iff.mp H
  obtain ⟨⟨t115, t116, t117, t118, t119, t120⟩, A80, H⟩ := H
  replace H : (if (!(t108 == t115) || (!(t109 == t116) || (!(t110 == t117) || (!(t111.toList == t118.toList))))) = true then (ironbarklaw05_BitsParts.j0 k a1 a2 true a0_0 a0_1 a0_2 a0_3 a3_0 a3_1 a3_2 a3_3) else (if t112 = t119 then (ironbarklaw05_BitsParts.j0 k a1 a2 (t113 != t120) a0_0 a0_1 a0_2 a0_3 a3_0 a3_1 a3_2 a3_3) else (ironbarklaw05_BitsParts.j0 k a1 a2 true a0_0 a0_1 a0_2 a0_3 a3_0 a3_1 a3_2 a3_3))) = some r := H
  have A8 := Aside0.mk A80
  clear A80
  have HC9 := Aside0.mk H
  clear H
  go_enter Try.func6, Try.ntmps6
  go_upto_region 5 with (first | ((with_reducible refine gate_dst (N := 4) rfl ?_); refine box_event ?hg (N := 4) ?hd (cs := #[.int .i64 a0_0, .int .i64 a0_1, .int .i64 a0_2, .string a0_3]) (t := 23) ?hr ?_; (case hd => rfl); (case hg => rfl); (case hr => first | (go_simp; done) | (go_simp; rfl)); intro gb101 hg w10 hbox hb; have n0_ := Aside0.mk (below_step (by repeat (first | (with_reducible first | exact HB.out | apply below_alloc | apply pw_below_drewN | apply below_drew1) | exact HB.out)) hb); have n1_ := Aside0.mk (hbox); have n2_ := Aside0.mk ((by rw [hg]; exact (below_size (by repeat (first | (with_reducible first | exact HB.out | apply below_alloc | apply pw_below_drewN | apply below_drew1) | exact HB.out))) : w.heap.size ≤ gb101)); have n3_ := n2_; clear HB; have HB := n0_; have BK101 := n1_; have GW101 := n2_; have GE101 := n3_; clear n0_ n1_ n2_ n3_; clear hb hbox hg) | ((with_reducible refine gate_dst (N := 7) rfl ?_); refine box_event ?hg (N := 7) ?hd (cs := #[.int .i64 a3_0, .int .i64 a3_1, .int .i64 a3_2, .string a3_3]) (t := 23) ?hr ?_; (case hd => rfl); (case hg => rfl); (case hr => first | (go_simp; done) | (go_simp; rfl)); intro gb102 hg w11 hbox hb; have n0_ := Aside0.mk (blk_below (g := gb101) (o := .cells #[.int .i64 a0_0, .int .i64 a0_1, .int .i64 a0_2, .string a0_3] 23 (0, 0)) (by (with_reducible repeat (first | refine blk_drewN ?_ _ | refine blk_drew ?_ | refine blk_alloc ?_ _)); exact BK101.out) hb); have n1_ := Aside0.mk (below_step (by repeat (first | (with_reducible first | exact HB.out | apply below_alloc | apply pw_below_drewN | apply below_drew1 | refine below_set ?_ GE101.out) | exact HB.out)) hb); have n2_ := Aside0.mk (hbox); have n3_ := Aside0.mk ((by rw [hg]; exact (below_size (by repeat (first | (with_reducible first | exact HB.out | apply below_alloc | apply pw_below_drewN | apply below_drew1 | refine below_set ?_ GE101.out) | exact HB.out))) : w.heap.size ≤ gb102)); have n4_ := n3_; have n5_ := Aside0.mk ((by rw [hg]; exact Nat.ne_of_lt (blk_lt (g := gb101) (o := .cells #[.int .i64 a0_0, .int .i64 a0_1, .int .i64 a0_2, .string a0_3] 23 (0, 0)) (by (with_reducible repeat (first | refine blk_drewN ?_ _ | refine blk_drew ?_ | refine blk_alloc ?_ _)); exact BK101.out)) : gb101 ≠ gb102)); have n6_ := Aside0.mk ((by rw [hg]; exact Nat.ne_of_gt (blk_lt (g := gb101) (o := .cells #[.int .i64 a0_0, .int .i64 a0_1, .int .i64 a0_2, .string a0_3] 23 (0, 0)) (by (with_reducible repeat (first | refine blk_drewN ?_ _ | refine blk_drew ?_ | refine blk_alloc ?_ _)); exact BK101.out)) : gb102 ≠ gb101)); clear BK101; clear HB; have BK101 := n0_; have HB := n1_; have BK102 := n2_; have GW102 := n3_; have GE102 := n4_; have NB101_102 := n5_; have NB102_101 := n6_; clear n0_ n1_ n2_ n3_ n4_ n5_ n6_; clear hb hbox hg; have hnb12 := NB101_102.out; have hnc12 := NB102_101.out; have hcz13_0 : w11.cell? ⟨gb101, 0, none⟩ = some (.int .i64 a0_0) := (blk_cell BK101.out 0).trans rfl; have hcz13_1 : w11.cell? ⟨gb101, 1, none⟩ = some (.int .i64 a0_1) := (blk_cell BK101.out 1).trans rfl; have hcz13_2 : w11.cell? ⟨gb101, 2, none⟩ = some (.int .i64 a0_2) := (blk_cell BK101.out 2).trans rfl; have hcz13_3 : w11.cell? ⟨gb101, 3, none⟩ = some (.string a0_3) := (blk_cell BK101.out 3).trans rfl; have hfz13_0 := blk_frozen BK101.out 0; have hfz13_1 := blk_frozen BK101.out 1; have hfz13_2 := blk_frozen BK101.out 2; have hfz13_3 := blk_frozen BK101.out 3; have hcz14_0 : w11.cell? ⟨gb102, 0, none⟩ = some (.int .i64 a3_0) := (blk_cell BK102.out 0).trans rfl; have hcz14_1 : w11.cell? ⟨gb102, 1, none⟩ = some (.int .i64 a3_1) := (blk_cell BK102.out 1).trans rfl; have hcz14_2 : w11.cell? ⟨gb102, 2, none⟩ = some (.int .i64 a3_2) := (blk_cell BK102.out 2).trans rfl; have hcz14_3 : w11.cell? ⟨gb102, 3, none⟩ = some (.string a3_3) := (blk_cell BK102.out 3).trans rfl; have hfz14_0 := blk_frozen BK102.out 0; have hfz14_1 := blk_frozen BK102.out 1; have hfz14_2 := blk_frozen BK102.out 2; have hfz14_3 := blk_frozen BK102.out 3) | ((with_reducible refine gate_dst (N := 21) rfl ?_); refine Kd.R_lit k23 _ 23 ?hg (N := 21) ?hd (xs := ([(⟨a0_0, a0_1, a0_2, a0_3⟩ : S23), (⟨a3_0, a3_1, a3_2, a3_3⟩ : S23)] : List (S23))) (inner := [.int .i64 a0_0, .int .i64 a0_1, .int .i64 a0_2, .string a0_3, .int .i64 a3_0, .int .i64 a3_1, .int .i64 a3_2, .string a3_3]) (ok := fun _ => True) (okp := fun _ => True) ?hr ?hp (fun _ hk => hk) trivial (Below.refl _ _) (Nat.le_refl _) (by simp) ?_; (case hd => rfl); (case hg => rfl); (case hr => first | (go_simp; done) | (go_simp; rfl)); (case hp => exact (Reps.c4 (show Kd.M k23 _ _ _ (⟨a0_0, a0_1, a0_2, a0_3⟩ : S23) [.int .i64 a0_0, .int .i64 a0_1, .int .i64 a0_2, .string a0_3] from (k23_mkM _ _ _ (⟨a0_0, a0_1, a0_2, a0_3⟩ : S23) )) (Reps.c4 (show Kd.M k23 _ _ _ (⟨a3_0, a3_1, a3_2, a3_3⟩ : S23) [.int .i64 a3_0, .int .i64 a3_1, .int .i64 a3_2, .string a3_3] from (k23_mkM _ _ _ (⟨a3_0, a3_1, a3_2, a3_3⟩ : S23) )) (Reps.none _ _)))); intro v104 w15 ho16 hb hg_ hnew_; clear hg_ hnew_; (first | rw [← Ny103.out] at ho16 | (simp only [Int.reduceToNat] at ho16; rw [← Ny103.out] at ho16)); have n0_ := Aside0.mk (Kd.R_lower (Kd.R_newB (Kd.R_newB ho16 (g := gb101) (o := .cells #[.int .i64 a0_0, .int .i64 a0_1, .int .i64 a0_2, .string a0_3] 23 (0, 0)) (by (with_reducible repeat (first | refine blk_drewN ?_ _ | refine blk_drew ?_ | refine blk_alloc ?_ _)); exact BK101.out)) (g := gb102) (o := .cells #[.int .i64 a3_0, .int .i64 a3_1, .int .i64 a3_2, .string a3_3] 23 (0, 0)) (by (with_reducible repeat (first | refine blk_drewN ?_ _ | refine blk_drew ?_ | refine blk_alloc ?_ _)); exact BK102.out)) (below_size (by repeat (first | (with_reducible first | exact HB.out | apply below_alloc | apply pw_below_drewN | apply below_drew1 | refine below_set ?_ GE101.out | refine below_set ?_ GE102.out) | exact HB.out)))); have n1_ := Aside0.mk (blk_below (g := gb101) (o := .cells #[.int .i64 a0_0, .int .i64 a0_1, .int .i64 a0_2, .string a0_3] 23 (0, 0)) (by (with_reducible repeat (first | refine blk_drewN ?_ _ | refine blk_drew ?_ | refine blk_alloc ?_ _)); exact BK101.out) hb); have n2_ := Aside0.mk (blk_below (g := gb102) (o := .cells #[.int .i64 a3_0, .int .i64 a3_1, .int .i64 a3_2, .string a3_3] 23 (0, 0)) (by (with_reducible repeat (first | refine blk_drewN ?_ _ | refine blk_drew ?_ | refine blk_alloc ?_ _)); exact BK102.out) hb); have n3_ := Aside0.mk (below_step (by repeat (first | (with_reducible first | exact HB.out | apply below_alloc | apply pw_below_drewN | apply below_drew1 | refine below_set ?_ GE101.out | refine below_set ?_ GE102.out) | exact HB.out)) hb); clear BK101; clear BK102; clear HB; have HO105 := n0_; have BK101 := n1_; have BK102 := n2_; have HB := n3_; clear n0_ n1_ n2_ n3_; clear hb ho16; obtain ⟨Ao17, co17, eo17⟩ := Kd.R_slice HO105.out; subst eo17) | ((with_reducible refine gate_callee (f := 8) rfl ?_); refine goesL_ (some 22) rfl rfl Try.func8 (by kernel_rfl) rfl #[.slice Ao17 y103.length co17] rfl (by (try simp only [List.map_toArray, List.map_cons, List.map_nil]); first | done | rfl | (simp only [List.length_drop, List.length_take]; rfl)) ?_; (with_reducible refine (ironbarklaw05_lightT.calls _ _ y103 true _ ?side1 ?side2 A5.out).mono ?_); (case side1 => repeat (first | exact (Kd.R_reads' HO105.out).2.2 | (with_reducible refine Kd.C_alloc ?_ _) | (with_reducible refine Kd.C_drewN ?_ _) | (with_reducible refine Kd.C_drew ?_))); (case side2 => exact (Kd.R_reads' HO105.out).2.1); rintro e w' ⟨rfl, ⟨nd, rfl⟩⟩; refine ⟨_, rfl, ?_⟩; (try (rw [drewN_self w15]; generalize hq_ : World.drewN w15 _ = w15; have n0_ : Aside0 (Kd.R k23 23 w15 w.heap.size (fun k_ => k_ ≠ gb101 ∧ k_ ≠ gb102) (.slice Ao17 y103.length co17) y103) := ⟨by rw [← hq_]; exact (by (with_reducible repeat (first | apply Kd.R_alloc | apply Kd.R_drewN | apply Kd.R_drew)); exact Kd.R_mono HO105.out (fun _ hk => ⟨hk.1.2, hk.2⟩))⟩; have n1_ : Aside0 (w15.heap[gb101]? = some (.cells #[.int .i64 a0_0, .int .i64 a0_1, .int .i64 a0_2, .string a0_3] 23 (0, 0))) := ⟨by rw [← hq_]; exact (by (with_reducible repeat (first | refine blk_drewN ?_ _ | refine blk_drew ?_ | refine blk_alloc ?_ _)); exact BK101.out)⟩; have n2_ : Aside0 (w15.heap[gb102]? = some (.cells #[.int .i64 a3_0, .int .i64 a3_1, .int .i64 a3_2, .string a3_3] 23 (0, 0))) := ⟨by rw [← hq_]; exact (by (with_reducible repeat (first | refine blk_drewN ?_ _ | refine blk_drew ?_ | refine blk_alloc ?_ _)); exact BK102.out)⟩; have n3_ : Aside0 (Below w.heap.size w w15) := ⟨by rw [← hq_]; exact (by repeat (first | (with_reducible first | exact HB.out | apply below_alloc | apply pw_below_drewN | apply below_drew1 | refine below_set ?_ GE101.out | refine below_set ?_ GE102.out) | exact HB.out))⟩; clear HO105 BK101 BK102 HB hq_; have HO105 := n0_; have BK101 := n1_; have BK102 := n2_; have HB := n3_; clear n0_ n1_ n2_ n3_)); have hcz18_0 : w15.cell? ⟨gb101, 0, none⟩ = some (.int .i64 a0_0) := (blk_cell BK101.out 0).trans rfl; have hcz18_1 : w15.cell? ⟨gb101, 1, none⟩ = some (.int .i64 a0_1) := (blk_cell BK101.out 1).trans rfl; have hcz18_2 : w15.cell? ⟨gb101, 2, none⟩ = some (.int .i64 a0_2) := (blk_cell BK101.out 2).trans rfl; have hcz18_3 : w15.cell? ⟨gb101, 3, none⟩ = some (.string a0_3) := (blk_cell BK101.out 3).trans rfl; have hfz18_0 := blk_frozen BK101.out 0; have hfz18_1 := blk_frozen BK101.out 1; have hfz18_2 := blk_frozen BK101.out 2; have hfz18_3 := blk_frozen BK101.out 3) | ((with_reducible refine gate_callee (f := 14) rfl ?_); refine goesL_ (some 29) rfl rfl Try.func14 (by kernel_rfl) rfl #[.agg #[.int .i64 a0_0, .int .i64 a0_1, .int .i64 a0_2, .string a0_3], .int .i64 a1, .int .i64 a2] rfl (by (try simp only [List.map_toArray, List.map_cons, List.map_nil]); first | done | rfl | (simp only [List.length_drop, List.length_take]; rfl)) ?_; (with_reducible refine (bits_Sub.calls a0_0 a0_1 a0_2 a0_3 a1 a2 t108 t109 t110 t111 t112 t113 _ A7.out).mono ?_); rintro e w19 ⟨rfl, hb⟩; refine ⟨_, rfl, ?_⟩; have n0_ := Aside0.mk (Kd.R_below (by (with_reducible repeat (first | apply Kd.R_alloc | apply Kd.R_drewN | apply Kd.R_drew)); exact HO105.out) hb); have n1_ := Aside0.mk (blk_below (g := gb101) (o := .cells #[.int .i64 a0_0, .int .i64 a0_1, .int .i64 a0_2, .string a0_3] 23 (0, 0)) (by (with_reducible repeat (first | refine blk_drewN ?_ _ | refine blk_drew ?_ | refine blk_alloc ?_ _)); exact BK101.out) hb); have n2_ := Aside0.mk (blk_below (g := gb102) (o := .cells #[.int .i64 a3_0, .int .i64 a3_1, .int .i64 a3_2, .string a3_3] 23 (0, 0)) (by (with_reducible repeat (first | refine blk_drewN ?_ _ | refine blk_drew ?_ | refine blk_alloc ?_ _)); exact BK102.out) hb); have n3_ := Aside0.mk (below_step (by repeat (first | (with_reducible first | exact HB.out | apply below_alloc | apply pw_below_drewN | apply below_drew1 | refine below_set ?_ GE101.out | refine below_set ?_ GE102.out) | exact HB.out)) hb); clear HO105; clear BK101; clear BK102; clear HB; have HO105 := n0_; have BK101 := n1_; have BK102 := n2_; have HB := n3_; clear n0_ n1_ n2_ n3_; (try clear hb); (try clear hb2); (try clear hk); (try clear hi)) | ((with_reducible refine gate_dst (N := 9) rfl ?_); refine box_event ?hg (N := 9) ?hd (cs := #[.int .i64 0, .int .i64 0, .int .i64 0, .string (⟨#[]⟩ : ByteArray)]) (t := 23) ?hr ?_; (case hd => rfl); (case hg => rfl); (case hr => first | (go_simp; done) | (go_simp; rfl)); intro gb114 hg w20 hbox hb; have n0_ := Aside0.mk (Kd.R_below (Kd.R_elderB (by (with_reducible repeat (first | apply Kd.R_alloc | apply Kd.R_drewN | apply Kd.R_drew)); exact HO105.out) gb114 (Nat.le_of_eq hg.symm)) hb); have n1_ := Aside0.mk (blk_below (g := gb101) (o := .cells #[.int .i64 a0_0, .int .i64 a0_1, .int .i64 a0_2, .string a0_3] 23 (0, 0)) (by (with_reducible repeat (first | refine blk_drewN ?_ _ | refine blk_drew ?_ | refine blk_alloc ?_ _)); exact BK101.out) hb); have n2_ := Aside0.mk (blk_below (g := gb102) (o := .cells #[.int .i64 a3_0, .int .i64 a3_1, .int .i64 a3_2, .string a3_3] 23 (0, 0)) (by (with_reducible repeat (first | refine blk_drewN ?_ _ | refine blk_drew ?_ | refine blk_alloc ?_ _)); exact BK102.out) hb); have n3_ := Aside0.mk (below_step (by repeat (first | (with_reducible first | exact HB.out | apply below_alloc | apply pw_below_drewN | apply below_drew1 | refine below_set ?_ GE101.out | refine below_set ?_ GE102.out) | exact HB.out)) hb); have n4_ := Aside0.mk (hbox); have n5_ := Aside0.mk ((by rw [hg]; exact (below_size (by repeat (first | (with_reducible first | exact HB.out | apply below_alloc | apply pw_below_drewN | apply below_drew1 | refine below_set ?_ GE101.out | refine below_set ?_ GE102.out) | exact HB.out))) : w.heap.size ≤ gb114)); have n6_ := n5_; have n7_ := Aside0.mk ((by rw [hg]; exact Nat.ne_of_lt (blk_lt (g := gb101) (o := .cells #[.int .i64 a0_0, .int .i64 a0_1, .int .i64 a0_2, .string a0_3] 23 (0, 0)) (by (with_reducible repeat (first | refine blk_drewN ?_ _ | refine blk_drew ?_ | refine blk_alloc ?_ _)); exact BK101.out)) : gb101 ≠ gb114)); have n8_ := Aside0.mk ((by rw [hg]; exact Nat.ne_of_gt (blk_lt (g := gb101) (o := .cells #[.int .i64 a0_0, .int .i64 a0_1, .int .i64 a0_2, .string a0_3] 23 (0, 0)) (by (with_reducible repeat (first | refine blk_drewN ?_ _ | refine blk_drew ?_ | refine blk_alloc ?_ _)); exact BK101.out)) : gb114 ≠ gb101)); have n9_ := Aside0.mk ((by rw [hg]; exact Nat.ne_of_lt (blk_lt (g := gb102) (o := .cells #[.int .i64 a3_0, .int .i64 a3_1, .int .i64 a3_2, .string a3_3] 23 (0, 0)) (by (with_reducible repeat (first | refine blk_drewN ?_ _ | refine blk_drew ?_ | refine blk_alloc ?_ _)); exact BK102.out)) : gb102 ≠ gb114)); have n10_ := Aside0.mk ((by rw [hg]; exact Nat.ne_of_gt (blk_lt (g := gb102) (o := .cells #[.int .i64 a3_0, .int .i64 a3_1, .int .i64 a3_2, .string a3_3] 23 (0, 0)) (by (with_reducible repeat (first | refine blk_drewN ?_ _ | refine blk_drew ?_ | refine blk_alloc ?_ _)); exact BK102.out)) : gb114 ≠ gb102)); clear HO105; clear BK101; clear BK102; clear HB; have HO105 := n0_; have BK101 := n1_; have BK102 := n2_; have HB := n3_; have BK114 := n4_; have GW114 := n5_; have GE114 := n6_; have NB101_114 := n7_; have NB114_101 := n8_; have NB102_114 := n9_; have NB114_102 := n10_; clear n0_ n1_ n2_ n3_ n4_ n5_ n6_ n7_ n8_ n9_ n10_; clear hb hbox hg; have hnb21 := NB114_101.out; have hnc21 := NB101_114.out; have hnb22 := NB114_102.out; have hnc22 := NB102_114.out; have hcz23_0 : w20.cell? ⟨gb114, 0, none⟩ = some (.int .i64 0) := (blk_cell BK114.out 0).trans rfl; have hcz23_1 : w20.cell? ⟨gb114, 1, none⟩ = some (.int .i64 0) := (blk_cell BK114.out 1).trans rfl; have hcz23_2 : w20.cell? ⟨gb114, 2, none⟩ = some (.int .i64 0) := (blk_cell BK114.out 2).trans rfl; have hcz23_3 : w20.cell? ⟨gb114, 3, none⟩ = some (.string (⟨#[]⟩ : ByteArray)) := (blk_cell BK114.out 3).trans rfl; have hfz23_0 := blk_frozen BK114.out 0; have hfz23_1 := blk_frozen BK114.out 1; have hfz23_2 := blk_frozen BK114.out 2; have hfz23_3 := blk_frozen BK114.out 3; have hcz24_0 : w20.cell? ⟨gb101, 0, none⟩ = some (.int .i64 a0_0) := (blk_cell BK101.out 0).trans rfl; have hcz24_1 : w20.cell? ⟨gb101, 1, none⟩ = some (.int .i64 a0_1) := (blk_cell BK101.out 1).trans rfl; have hcz24_2 : w20.cell? ⟨gb101, 2, none⟩ = some (.int .i64 a0_2) := (blk_cell BK101.out 2).trans rfl; have hcz24_3 : w20.cell? ⟨gb101, 3, none⟩ = some (.string a0_3) := (blk_cell BK101.out 3).trans rfl; have hfz24_0 := blk_frozen BK101.out 0; have hfz24_1 := blk_frozen BK101.out 1; have hfz24_2 := blk_frozen BK101.out 2; have hfz24_3 := blk_frozen BK101.out 3) | ((with_reducible refine gate_callee (f := 35) rfl ?_); refine goesL_ (some 37) rfl rfl Try.func35 (by kernel_rfl) rfl #[.agg #[.int .i64 a0_0, .int .i64 a0_1, .int .i64 a0_2, .string a0_3], .int .i64 a1, .int .i64 a2] rfl (by (try simp only [List.map_toArray, List.map_cons, List.map_nil]); first | done | rfl | (simp only [List.length_drop, List.length_take]; rfl)) ?_; (with_reducible refine (ironbarkref05_Sub.calls k a0_0 a0_1 a0_2 a0_3 a1 a2 t115 t116 t117 t118 t119 t120 _ A8.out).mono ?_); rintro e w25 ⟨rfl, hb⟩; refine ⟨_, rfl, ?_⟩; have n0_ := Aside0.mk (Kd.R_below (by (with_reducible repeat (first | apply Kd.R_alloc | apply Kd.R_drewN | apply Kd.R_drew)); exact (Kd.R_mono (Kd.R_far (p := ⟨gb114, 3, none⟩) (Kd.R_far (p := ⟨gb114, 2, none⟩) (Kd.R_far (p := ⟨gb114, 1, none⟩) (Kd.R_far (p := ⟨gb114, 0, none⟩) (Kd.R_mono HO105.out (fun k_ hk => (⟨hk, hk.2⟩ : _ ∧ k_ ≠ gb114))) (fun _ hk => hk.2) (.int .i64 t108)) (fun _ hk => hk.2) (.int .i64 t109)) (fun _ hk => hk.2) (.int .i64 t110)) (fun _ hk => hk.2) (.string t111)) (fun _ h_ => h_.1))) hb); have n1_ := Aside0.mk (blk_below (g := gb101) (o := .cells #[.int .i64 a0_0, .int .i64 a0_1, .int .i64 a0_2, .string a0_3] 23 (0, 0)) (by (with_reducible repeat (first | refine blk_drewN ?_ _ | refine blk_drew ?_ | refine blk_alloc ?_ _)); refine blk_far ?_ NB101_114.out _; (with_reducible repeat (first | refine blk_drewN ?_ _ | refine blk_drew ?_ | refine blk_alloc ?_ _)); refine blk_far ?_ NB101_114.out _; (with_reducible repeat (first | refine blk_drewN ?_ _ | refine blk_drew ?_ | refine blk_alloc ?_ _)); refine blk_far ?_ NB101_114.out _; (with_reducible repeat (first | refine blk_drewN ?_ _ | refine blk_drew ?_ | refine blk_alloc ?_ _)); refine blk_far ?_ NB101_114.out _; (with_reducible repeat (first | refine blk_drewN ?_ _ | refine blk_drew ?_ | refine blk_alloc ?_ _)); exact BK101.out) hb); have n2_ := Aside0.mk (blk_below (g := gb102) (o := .cells #[.int .i64 a3_0, .int .i64 a3_1, .int .i64 a3_2, .string a3_3] 23 (0, 0)) (by (with_reducible repeat (first | refine blk_drewN ?_ _ | refine blk_drew ?_ | refine blk_alloc ?_ _)); refine blk_far ?_ NB102_114.out _; (with_reducible repeat (first | refine blk_drewN ?_ _ | refine blk_drew ?_ | refine blk_alloc ?_ _)); refine blk_far ?_ NB102_114.out _; (with_reducible repeat (first | refine blk_drewN ?_ _ | refine blk_drew ?_ | refine blk_alloc ?_ _)); refine blk_far ?_ NB102_114.out _; (with_reducible repeat (first | refine blk_drewN ?_ _ | refine blk_drew ?_ | refine blk_alloc ?_ _)); refine blk_far ?_ NB102_114.out _; (with_reducible repeat (first | refine blk_drewN ?_ _ | refine blk_drew ?_ | refine blk_alloc ?_ _)); exact BK102.out) hb); have n3_ := Aside0.mk (blk_below (g := gb114) (o := .cells #[.int .i64 t108, .int .i64 t109, .int .i64 t110, .string t111] 23 (0, 0)) (by (with_reducible repeat (first | refine blk_drewN ?_ _ | refine blk_drew ?_ | refine blk_alloc ?_ _)); refine blk_put (cs := #[.int .i64 t108, .int .i64 t109, .int .i64 t110, .string (⟨#[]⟩ : ByteArray)]) ?_ 3 _ rfl; (with_reducible repeat (first | refine blk_drewN ?_ _ | refine blk_drew ?_ | refine blk_alloc ?_ _)); refine blk_put (cs := #[.int .i64 t108, .int .i64 t109, .int .i64 0, .string (⟨#[]⟩ : ByteArray)]) ?_ 2 _ rfl; (with_reducible repeat (first | refine blk_drewN ?_ _ | refine blk_drew ?_ | refine blk_alloc ?_ _)); refine blk_put (cs := #[.int .i64 t108, .int .i64 0, .int .i64 0, .string (⟨#[]⟩ : ByteArray)]) ?_ 1 _ rfl; (with_reducible repeat (first | refine blk_drewN ?_ _ | refine blk_drew ?_ | refine blk_alloc ?_ _)); refine blk_put (cs := #[.int .i64 0, .int .i64 0, .int .i64 0, .string (⟨#[]⟩ : ByteArray)]) ?_ 0 _ rfl; (with_reducible repeat (first | refine blk_drewN ?_ _ | refine blk_drew ?_ | refine blk_alloc ?_ _)); exact BK114.out) hb); have n4_ := Aside0.mk (below_step (by repeat (first | (with_reducible first | exact HB.out | apply below_alloc | apply pw_below_drewN | apply below_drew1 | refine below_set ?_ GE101.out | refine below_set ?_ GE102.out | refine below_set ?_ GE114.out) | exact HB.out)) hb); clear HO105; clear BK101; clear BK102; clear BK114; clear HB; have HO105 := n0_; have BK101 := n1_; have BK102 := n2_; have BK114 := n3_; have HB := n4_; clear n0_ n1_ n2_ n3_ n4_; (try clear hb); (try clear hb2); (try clear hk); (try clear hi)) | ((with_reducible refine gate_dst (N := 12) rfl ?_); refine box_event ?hg (N := 12) ?hd (cs := #[.int .i64 0, .int .i64 0, .int .i64 0, .string (⟨#[]⟩ : ByteArray)]) (t := 23) ?hr ?_; (case hd => rfl); (case hg => rfl); (case hr => first | (go_simp; done) | (go_simp; rfl)); intro gb121 hg w26 hbox hb; have n0_ := Aside0.mk (Kd.R_below (Kd.R_elderB (by (with_reducible repeat (first | apply Kd.R_alloc | apply Kd.R_drewN | apply Kd.R_drew)); exact HO105.out) gb121 (Nat.le_of_eq hg.symm)) hb); have n1_ := Aside0.mk (blk_below (g := gb101) (o := .cells #[.int .i64 a0_0, .int .i64 a0_1, .int .i64 a0_2, .string a0_3] 23 (0, 0)) (by (with_reducible repeat (first | refine blk_drewN ?_ _ | refine blk_drew ?_ | refine blk_alloc ?_ _)); exact BK101.out) hb); have n2_ := Aside0.mk (blk_below (g := gb102) (o := .cells #[.int .i64 a3_0, .int .i64 a3_1, .int .i64 a3_2, .string a3_3] 23 (0, 0)) (by (with_reducible repeat (first | refine blk_drewN ?_ _ | refine blk_drew ?_ | refine blk_alloc ?_ _)); exact BK102.out) hb); have n3_ := Aside0.mk (blk_below (g := gb114) (o := .cells #[.int .i64 t108, .int .i64 t109, .int .i64 t110, .string t111] 23 (0, 0)) (by (with_reducible repeat (first | refine blk_drewN ?_ _ | refine blk_drew ?_ | refine blk_alloc ?_ _)); exact BK114.out) hb); have n4_ := Aside0.mk (below_step (by repeat (first | (with_reducible first | exact HB.out | apply below_alloc | apply pw_below_drewN | apply below_drew1 | refine below_set ?_ GE101.out | refine below_set ?_ GE102.out | refine below_set ?_ GE114.out) | exact HB.out)) hb); have n5_ := Aside0.mk (hbox); have n6_ := Aside0.mk ((by rw [hg]; exact (below_size (by repeat (first | (with_reducible first | exact HB.out | apply below_alloc | apply pw_below_drewN | apply below_drew1 | refine below_set ?_ GE101.out | refine below_set ?_ GE102.out | refine below_set ?_ GE114.out) | exact HB.out))) : w.heap.size ≤ gb121)); have n7_ := n6_; have n8_ := Aside0.mk ((by rw [hg]; exact Nat.ne_of_lt (blk_lt (g := gb101) (o := .cells #[.int .i64 a0_0, .int .i64 a0_1, .int .i64 a0_2, .string a0_3] 23 (0, 0)) (by (with_reducible repeat (first | refine blk_drewN ?_ _ | refine blk_drew ?_ | refine blk_alloc ?_ _)); exact BK101.out)) : gb101 ≠ gb121)); have n9_ := Aside0.mk ((by rw [hg]; exact Nat.ne_of_gt (blk_lt (g := gb101) (o := .cells #[.int .i64 a0_0, .int .i64 a0_1, .int .i64 a0_2, .string a0_3] 23 (0, 0)) (by (with_reducible repeat (first | refine blk_drewN ?_ _ | refine blk_drew ?_ | refine blk_alloc ?_ _)); exact BK101.out)) : gb121 ≠ gb101)); have n10_ := Aside0.mk ((by rw [hg]; exact Nat.ne_of_lt (blk_lt (g := gb102) (o := .cells #[.int .i64 a3_0, .int .i64 a3_1, .int .i64 a3_2, .string a3_3] 23 (0, 0)) (by (with_reducible repeat (first | refine blk_drewN ?_ _ | refine blk_drew ?_ | refine blk_alloc ?_ _)); exact BK102.out)) : gb102 ≠ gb121)); have n11_ := Aside0.mk ((by rw [hg]; exact Nat.ne_of_gt (blk_lt (g := gb102) (o := .cells #[.int .i64 a3_0, .int .i64 a3_1, .int .i64 a3_2, .string a3_3] 23 (0, 0)) (by (with_reducible repeat (first | refine blk_drewN ?_ _ | refine blk_drew ?_ | refine blk_alloc ?_ _)); exact BK102.out)) : gb121 ≠ gb102)); have n12_ := Aside0.mk ((by rw [hg]; exact Nat.ne_of_lt (blk_lt (g := gb114) (o := .cells #[.int .i64 t108, .int .i64 t109, .int .i64 t110, .string t111] 23 (0, 0)) (by (with_reducible repeat (first | refine blk_drewN ?_ _ | refine blk_drew ?_ | refine blk_alloc ?_ _)); exact BK114.out)) : gb114 ≠ gb121)); have n13_ := Aside0.mk ((by rw [hg]; exact Nat.ne_of_gt (blk_lt (g := gb114) (o := .cells #[.int .i64 t108, .int .i64 t109, .int .i64 t110, .string t111] 23 (0, 0)) (by (with_reducible repeat (first | refine blk_drewN ?_ _ | refine blk_drew ?_ | refine blk_alloc ?_ _)); exact BK114.out)) : gb121 ≠ gb114)); clear HO105; clear BK101; clear BK102; clear BK114; clear HB; have HO105 := n0_; have BK101 := n1_; have BK102 := n2_; have BK114 := n3_; have HB := n4_; have BK121 := n5_; have GW121 := n6_; have GE121 := n7_; have NB101_121 := n8_; have NB121_101 := n9_; have NB102_121 := n10_; have NB121_102 := n11_; have NB114_121 := n12_; have NB121_114 := n13_; clear n0_ n1_ n2_ n3_ n4_ n5_ n6_ n7_ n8_ n9_ n10_ n11_ n12_ n13_; clear hb hbox hg; have hnb27 := NB121_101.out; have hnc27 := NB101_121.out; have hnb28 := NB121_102.out; have hnc28 := NB102_121.out; have hnb29 := NB121_114.out; have hnc29 := NB114_121.out; have hcz30_0 : w26.cell? ⟨gb121, 0, none⟩ = some (.int .i64 0) := (blk_cell BK121.out 0).trans rfl; have hcz30_1 : w26.cell? ⟨gb121, 1, none⟩ = some (.int .i64 0) := (blk_cell BK121.out 1).trans rfl; have hcz30_2 : w26.cell? ⟨gb121, 2, none⟩ = some (.int .i64 0) := (blk_cell BK121.out 2).trans rfl; have hcz30_3 : w26.cell? ⟨gb121, 3, none⟩ = some (.string (⟨#[]⟩ : ByteArray)) := (blk_cell BK121.out 3).trans rfl; have hfz30_0 := blk_frozen BK121.out 0; have hfz30_1 := blk_frozen BK121.out 1; have hfz30_2 := blk_frozen BK121.out 2; have hfz30_3 := blk_frozen BK121.out 3))
  (try simp only [Act.put, List.setIfInBounds_toArray, List.set_cons_zero, List.set_cons_succ])
  go_cut [53] (fun v53 wc => ∃ (kq : Nat) (x53_8 : Bool), v53 = .bool x53_8 ∧ Aside0 (ironbarklaw05_BitsParts.j0 kq a1 a2 x53_8 a0_0 a0_1 a0_2 a0_3 a3_0 a3_1 a3_2 a3_3 = some r) ∧ Aside0 (kq ≤ k) ∧ Aside0 (wc.heap[gb101]? = some (.cells #[.int .i64 a0_0, .int .i64 a0_1, .int .i64 a0_2, .string a0_3] 23 (0, 0))) ∧ Aside0 (wc.heap[gb102]? = some (.cells #[.int .i64 a3_0, .int .i64 a3_1, .int .i64 a3_2, .string a3_3] 23 (0, 0))) ∧ Aside0 (wc.heap[gb114]? = some (.cells #[.int .i64 t108, .int .i64 t109, .int .i64 t110, .string t111] 23 (0, 0))) ∧ Aside0 (wc.heap[gb121]? = some (.cells #[.int .i64 t115, .int .i64 t116, .int .i64 t117, .string t118] 23 (0, 0))) ∧ Aside0 (Below w.heap.size w wc))
  case first =>
   have H := HC9.out
   clear HC9
   by_cases c31 : (!(t108 == t115) || (!(t109 == t116) || (!(t110 == t117) || (!(t111.toList == t118.toList))))) = true
   ·rw [if_pos c31] at H
    have c31b0 : (!(t108 == t115) || (!(t109 == t116) || (!(t110 == t117) || (!(t111.toList == t118.toList))))) = true := c31
    clear c31
    (first | rw [c31b0] | (simp only [i64_w, i32_w]; rw [c31b0]) | skip)
    have H' := Aside0.mk H
    clear H
    have hnb32 := NB114_101.out
    have hnc32 := NB101_114.out
    have hnb33 := NB114_102.out
    have hnc33 := NB102_114.out
    have hnb34 := NB114_121.out
    have hnc34 := NB121_114.out
    have hcz35_0 : w26.cell? ⟨gb114, 0, none⟩ = some (.int .i64 t108) := (blk_cell BK114.out 0).trans rfl
    have hcz35_1 : w26.cell? ⟨gb114, 1, none⟩ = some (.int .i64 t109) := (blk_cell BK114.out 1).trans rfl
    have hcz35_2 : w26.cell? ⟨gb114, 2, none⟩ = some (.int .i64 t110) := (blk_cell BK114.out 2).trans rfl
    have hcz35_3 : w26.cell? ⟨gb114, 3, none⟩ = some (.string t111) := (blk_cell BK114.out 3).trans rfl
    have hfz35_0 := blk_frozen BK114.out 0
    have hfz35_1 := blk_frozen BK114.out 1
    have hfz35_2 := blk_frozen BK114.out 2
    have hfz35_3 := blk_frozen BK114.out 3
    have hnb36 := NB121_101.out
    have hnc36 := NB101_121.out
    have hnb37 := NB121_102.out
    have hnc37 := NB102_121.out
    have hcz38_0 : w26.cell? ⟨gb121, 0, none⟩ = some (.int .i64 0) := (blk_cell BK121.out 0).trans rfl
    have hcz38_1 : w26.cell? ⟨gb121, 1, none⟩ = some (.int .i64 0) := (blk_cell BK121.out 1).trans rfl
    have hcz38_2 : w26.cell? ⟨gb121, 2, none⟩ = some (.int .i64 0) := (blk_cell BK121.out 2).trans rfl
    have hcz38_3 : w26.cell? ⟨gb121, 3, none⟩ = some (.string (⟨#[]⟩ : ByteArray)) := (blk_cell BK121.out 3).trans rfl
    have hfz38_0 := blk_frozen BK121.out 0
    have hfz38_1 := blk_frozen BK121.out 1
    have hfz38_2 := blk_frozen BK121.out 2
    have hfz38_3 := blk_frozen BK121.out 3
    go_wp2
    go_meet
    case rel => exact ⟨_, (true), (by first | rfl | (simp; done) | (generalize ByteArray.toList _ = l_; cases l_ <;> rfl) | (simp [*]; done)), H', ⟨by first | omega | exact Nat.le_refl _⟩, ⟨by (with_reducible repeat (first | refine blk_drewN ?_ _ | refine blk_drew ?_ | refine blk_alloc ?_ _)); refine blk_far ?_ NB101_121.out _; (with_reducible repeat (first | refine blk_drewN ?_ _ | refine blk_drew ?_ | refine blk_alloc ?_ _)); refine blk_far ?_ NB101_121.out _; (with_reducible repeat (first | refine blk_drewN ?_ _ | refine blk_drew ?_ | refine blk_alloc ?_ _)); refine blk_far ?_ NB101_121.out _; (with_reducible repeat (first | refine blk_drewN ?_ _ | refine blk_drew ?_ | refine blk_alloc ?_ _)); refine blk_far ?_ NB101_121.out _; (with_reducible repeat (first | refine blk_drewN ?_ _ | refine blk_drew ?_ | refine blk_alloc ?_ _)); exact BK101.out⟩, ⟨by (with_reducible repeat (first | refine blk_drewN ?_ _ | refine blk_drew ?_ | refine blk_alloc ?_ _)); refine blk_far ?_ NB102_121.out _; (with_reducible repeat (first | refine blk_drewN ?_ _ | refine blk_drew ?_ | refine blk_alloc ?_ _)); refine blk_far ?_ NB102_121.out _; (with_reducible repeat (first | refine blk_drewN ?_ _ | refine blk_drew ?_ | refine blk_alloc ?_ _)); refine blk_far ?_ NB102_121.out _; (with_reducible repeat (first | refine blk_drewN ?_ _ | refine blk_drew ?_ | refine blk_alloc ?_ _)); refine blk_far ?_ NB102_121.out _; (with_reducible repeat (first | refine blk_drewN ?_ _ | refine blk_drew ?_ | refine blk_alloc ?_ _)); exact BK102.out⟩, ⟨by (with_reducible repeat (first | refine blk_drewN ?_ _ | refine blk_drew ?_ | refine blk_alloc ?_ _)); refine blk_far ?_ NB114_121.out _; (with_reducible repeat (first | refine blk_drewN ?_ _ | refine blk_drew ?_ | refine blk_alloc ?_ _)); refine blk_far ?_ NB114_121.out _; (with_reducible repeat (first | refine blk_drewN ?_ _ | refine blk_drew ?_ | refine blk_alloc ?_ _)); refine blk_far ?_ NB114_121.out _; (with_reducible repeat (first | refine blk_drewN ?_ _ | refine blk_drew ?_ | refine blk_alloc ?_ _)); refine blk_far ?_ NB114_121.out _; (with_reducible repeat (first | refine blk_drewN ?_ _ | refine blk_drew ?_ | refine blk_alloc ?_ _)); exact BK114.out⟩, ⟨by (with_reducible repeat (first | refine blk_drewN ?_ _ | refine blk_drew ?_ | refine blk_alloc ?_ _)); refine blk_put (cs := #[.int .i64 t115, .int .i64 t116, .int .i64 t117, .string (⟨#[]⟩ : ByteArray)]) ?_ 3 _ rfl; (with_reducible repeat (first | refine blk_drewN ?_ _ | refine blk_drew ?_ | refine blk_alloc ?_ _)); refine blk_put (cs := #[.int .i64 t115, .int .i64 t116, .int .i64 0, .string (⟨#[]⟩ : ByteArray)]) ?_ 2 _ rfl; (with_reducible repeat (first | refine blk_drewN ?_ _ | refine blk_drew ?_ | refine blk_alloc ?_ _)); refine blk_put (cs := #[.int .i64 t115, .int .i64 0, .int .i64 0, .string (⟨#[]⟩ : ByteArray)]) ?_ 1 _ rfl; (with_reducible repeat (first | refine blk_drewN ?_ _ | refine blk_drew ?_ | refine blk_alloc ?_ _)); refine blk_put (cs := #[.int .i64 0, .int .i64 0, .int .i64 0, .string (⟨#[]⟩ : ByteArray)]) ?_ 0 _ rfl; (with_reducible repeat (first | refine blk_drewN ?_ _ | refine blk_drew ?_ | refine blk_alloc ?_ _)); exact BK121.out⟩, ⟨by repeat (first | (with_reducible first | exact HB.out | apply below_alloc | apply pw_below_drewN | apply below_drew1 | refine below_set ?_ GE101.out | refine below_set ?_ GE102.out | refine below_set ?_ GE114.out | refine below_set ?_ GE121.out) | exact HB.out)⟩⟩
   ·rw [if_neg c31] at H
    have c31b0 : (!(t108 == t115) || (!(t109 == t116) || (!(t110 == t117) || (!(t111.toList == t118.toList))))) = false := by simpa using c31
    clear c31
    (first | rw [c31b0] | (simp only [i64_w, i32_w]; rw [c31b0]) | skip)
    by_cases c39 : t112 = t119
    ·rw [if_pos c39] at H
     have c39b0 : (t112 == t119) = true := beq_iff_eq.mpr c39
     have c39b1 : (t112 != t119) = false := bne_eq_false_iff_eq.mpr c39
     clear c39
     have H' := Aside0.mk H
     clear H
     have hnb40 := NB114_101.out
     have hnc40 := NB101_114.out
     have hnb41 := NB114_102.out
     have hnc41 := NB102_114.out
     have hnb42 := NB114_121.out
     have hnc42 := NB121_114.out
     have hcz43_0 : w26.cell? ⟨gb114, 0, none⟩ = some (.int .i64 t108) := (blk_cell BK114.out 0).trans rfl
     have hcz43_1 : w26.cell? ⟨gb114, 1, none⟩ = some (.int .i64 t109) := (blk_cell BK114.out 1).trans rfl
     have hcz43_2 : w26.cell? ⟨gb114, 2, none⟩ = some (.int .i64 t110) := (blk_cell BK114.out 2).trans rfl
     have hcz43_3 : w26.cell? ⟨gb114, 3, none⟩ = some (.string t111) := (blk_cell BK114.out 3).trans rfl
     have hfz43_0 := blk_frozen BK114.out 0
     have hfz43_1 := blk_frozen BK114.out 1
     have hfz43_2 := blk_frozen BK114.out 2
     have hfz43_3 := blk_frozen BK114.out 3
     have hnb44 := NB121_101.out
     have hnc44 := NB101_121.out
     have hnb45 := NB121_102.out
     have hnc45 := NB102_121.out
     have hcz46_0 : w26.cell? ⟨gb121, 0, none⟩ = some (.int .i64 0) := (blk_cell BK121.out 0).trans rfl
     have hcz46_1 : w26.cell? ⟨gb121, 1, none⟩ = some (.int .i64 0) := (blk_cell BK121.out 1).trans rfl
     have hcz46_2 : w26.cell? ⟨gb121, 2, none⟩ = some (.int .i64 0) := (blk_cell BK121.out 2).trans rfl
     have hcz46_3 : w26.cell? ⟨gb121, 3, none⟩ = some (.string (⟨#[]⟩ : ByteArray)) := (blk_cell BK121.out 3).trans rfl
     have hfz46_0 := blk_frozen BK121.out 0
     have hfz46_1 := blk_frozen BK121.out 1
     have hfz46_2 := blk_frozen BK121.out 2
     have hfz46_3 := blk_frozen BK121.out 3
     go_wp2
     go_meet
     case rel => exact ⟨_, ((t113 != t120)), (by first | rfl | (simp; done) | (generalize ByteArray.toList _ = l_; cases l_ <;> rfl) | (simp [*]; done)), H', ⟨by first | omega | exact Nat.le_refl _⟩, ⟨by (with_reducible repeat (first | refine blk_drewN ?_ _ | refine blk_drew ?_ | refine blk_alloc ?_ _)); refine blk_far ?_ NB101_121.out _; (with_reducible repeat (first | refine blk_drewN ?_ _ | refine blk_drew ?_ | refine blk_alloc ?_ _)); refine blk_far ?_ NB101_121.out _; (with_reducible repeat (first | refine blk_drewN ?_ _ | refine blk_drew ?_ | refine blk_alloc ?_ _)); refine blk_far ?_ NB101_121.out _; (with_reducible repeat (first | refine blk_drewN ?_ _ | refine blk_drew ?_ | refine blk_alloc ?_ _)); refine blk_far ?_ NB101_121.out _; (with_reducible repeat (first | refine blk_drewN ?_ _ | refine blk_drew ?_ | refine blk_alloc ?_ _)); exact BK101.out⟩, ⟨by (with_reducible repeat (first | refine blk_drewN ?_ _ | refine blk_drew ?_ | refine blk_alloc ?_ _)); refine blk_far ?_ NB102_121.out _; (with_reducible repeat (first | refine blk_drewN ?_ _ | refine blk_drew ?_ | refine blk_alloc ?_ _)); refine blk_far ?_ NB102_121.out _; (with_reducible repeat (first | refine blk_drewN ?_ _ | refine blk_drew ?_ | refine blk_alloc ?_ _)); refine blk_far ?_ NB102_121.out _; (with_reducible repeat (first | refine blk_drewN ?_ _ | refine blk_drew ?_ | refine blk_alloc ?_ _)); refine blk_far ?_ NB102_121.out _; (with_reducible repeat (first | refine blk_drewN ?_ _ | refine blk_drew ?_ | refine blk_alloc ?_ _)); exact BK102.out⟩, ⟨by (with_reducible repeat (first | refine blk_drewN ?_ _ | refine blk_drew ?_ | refine blk_alloc ?_ _)); refine blk_far ?_ NB114_121.out _; (with_reducible repeat (first | refine blk_drewN ?_ _ | refine blk_drew ?_ | refine blk_alloc ?_ _)); refine blk_far ?_ NB114_121.out _; (with_reducible repeat (first | refine blk_drewN ?_ _ | refine blk_drew ?_ | refine blk_alloc ?_ _)); refine blk_far ?_ NB114_121.out _; (with_reducible repeat (first | refine blk_drewN ?_ _ | refine blk_drew ?_ | refine blk_alloc ?_ _)); refine blk_far ?_ NB114_121.out _; (with_reducible repeat (first | refine blk_drewN ?_ _ | refine blk_drew ?_ | refine blk_alloc ?_ _)); exact BK114.out⟩, ⟨by (with_reducible repeat (first | refine blk_drewN ?_ _ | refine blk_drew ?_ | refine blk_alloc ?_ _)); refine blk_put (cs := #[.int .i64 t115, .int .i64 t116, .int .i64 t117, .string (⟨#[]⟩ : ByteArray)]) ?_ 3 _ rfl; (with_reducible repeat (first | refine blk_drewN ?_ _ | refine blk_drew ?_ | refine blk_alloc ?_ _)); refine blk_put (cs := #[.int .i64 t115, .int .i64 t116, .int .i64 0, .string (⟨#[]⟩ : ByteArray)]) ?_ 2 _ rfl; (with_reducible repeat (first | refine blk_drewN ?_ _ | refine blk_drew ?_ | refine blk_alloc ?_ _)); refine blk_put (cs := #[.int .i64 t115, .int .i64 0, .int .i64 0, .string (⟨#[]⟩ : ByteArray)]) ?_ 1 _ rfl; (with_reducible repeat (first | refine blk_drewN ?_ _ | refine blk_drew ?_ | refine blk_alloc ?_ _)); refine blk_put (cs := #[.int .i64 0, .int .i64 0, .int .i64 0, .string (⟨#[]⟩ : ByteArray)]) ?_ 0 _ rfl; (with_reducible repeat (first | refine blk_drewN ?_ _ | refine blk_drew ?_ | refine blk_alloc ?_ _)); exact BK121.out⟩, ⟨by repeat (first | (with_reducible first | exact HB.out | apply below_alloc | apply pw_below_drewN | apply below_drew1 | refine below_set ?_ GE101.out | refine below_set ?_ GE102.out | refine below_set ?_ GE114.out | refine below_set ?_ GE121.out) | exact HB.out)⟩⟩
    ·rw [if_neg c39] at H
     have c39b0 : (t112 == t119) = false := beq_eq_false_iff_ne.mpr c39
     have c39b1 : (t112 != t119) = true := bne_iff_ne.mpr c39
     have H' := Aside0.mk H
     clear H
     have hnb47 := NB114_101.out
     have hnc47 := NB101_114.out
     have hnb48 := NB114_102.out
     have hnc48 := NB102_114.out
     have hnb49 := NB114_121.out
     have hnc49 := NB121_114.out
     have hcz50_0 : w26.cell? ⟨gb114, 0, none⟩ = some (.int .i64 t108) := (blk_cell BK114.out 0).trans rfl
     have hcz50_1 : w26.cell? ⟨gb114, 1, none⟩ = some (.int .i64 t109) := (blk_cell BK114.out 1).trans rfl
     have hcz50_2 : w26.cell? ⟨gb114, 2, none⟩ = some (.int .i64 t110) := (blk_cell BK114.out 2).trans rfl
     have hcz50_3 : w26.cell? ⟨gb114, 3, none⟩ = some (.string t111) := (blk_cell BK114.out 3).trans rfl
     have hfz50_0 := blk_frozen BK114.out 0
     have hfz50_1 := blk_frozen BK114.out 1
     have hfz50_2 := blk_frozen BK114.out 2
     have hfz50_3 := blk_frozen BK114.out 3
     have hnb51 := NB121_101.out
     have hnc51 := NB101_121.out
     have hnb52 := NB121_102.out
     have hnc52 := NB102_121.out
     have hcz53_0 : w26.cell? ⟨gb121, 0, none⟩ = some (.int .i64 0) := (blk_cell BK121.out 0).trans rfl
     have hcz53_1 : w26.cell? ⟨gb121, 1, none⟩ = some (.int .i64 0) := (blk_cell BK121.out 1).trans rfl
     have hcz53_2 : w26.cell? ⟨gb121, 2, none⟩ = some (.int .i64 0) := (blk_cell BK121.out 2).trans rfl
     have hcz53_3 : w26.cell? ⟨gb121, 3, none⟩ = some (.string (⟨#[]⟩ : ByteArray)) := (blk_cell BK121.out 3).trans rfl
     have hfz53_0 := blk_frozen BK121.out 0
     have hfz53_1 := blk_frozen BK121.out 1
     have hfz53_2 := blk_frozen BK121.out 2
     have hfz53_3 := blk_frozen BK121.out 3
     go_wp2
     go_meet
     case rel => exact ⟨_, (true), (by first | rfl | (simp; done) | (generalize ByteArray.toList _ = l_; cases l_ <;> rfl) | (simp [*]; done)), H', ⟨by first | omega | exact Nat.le_refl _⟩, ⟨by (with_reducible repeat (first | refine blk_drewN ?_ _ | refine blk_drew ?_ | refine blk_alloc ?_ _)); refine blk_far ?_ NB101_121.out _; (with_reducible repeat (first | refine blk_drewN ?_ _ | refine blk_drew ?_ | refine blk_alloc ?_ _)); refine blk_far ?_ NB101_121.out _; (with_reducible repeat (first | refine blk_drewN ?_ _ | refine blk_drew ?_ | refine blk_alloc ?_ _)); refine blk_far ?_ NB101_121.out _; (with_reducible repeat (first | refine blk_drewN ?_ _ | refine blk_drew ?_ | refine blk_alloc ?_ _)); refine blk_far ?_ NB101_121.out _; (with_reducible repeat (first | refine blk_drewN ?_ _ | refine blk_drew ?_ | refine blk_alloc ?_ _)); exact BK101.out⟩, ⟨by (with_reducible repeat (first | refine blk_drewN ?_ _ | refine blk_drew ?_ | refine blk_alloc ?_ _)); refine blk_far ?_ NB102_121.out _; (with_reducible repeat (first | refine blk_drewN ?_ _ | refine blk_drew ?_ | refine blk_alloc ?_ _)); refine blk_far ?_ NB102_121.out _; (with_reducible repeat (first | refine blk_drewN ?_ _ | refine blk_drew ?_ | refine blk_alloc ?_ _)); refine blk_far ?_ NB102_121.out _; (with_reducible repeat (first | refine blk_drewN ?_ _ | refine blk_drew ?_ | refine blk_alloc ?_ _)); refine blk_far ?_ NB102_121.out _; (with_reducible repeat (first | refine blk_drewN ?_ _ | refine blk_drew ?_ | refine blk_alloc ?_ _)); exact BK102.out⟩, ⟨by (with_reducible repeat (first | refine blk_drewN ?_ _ | refine blk_drew ?_ | refine blk_alloc ?_ _)); refine blk_far ?_ NB114_121.out _; (with_reducible repeat (first | refine blk_drewN ?_ _ | refine blk_drew ?_ | refine blk_alloc ?_ _)); refine blk_far ?_ NB114_121.out _; (with_reducible repeat (first | refine blk_drewN ?_ _ | refine blk_drew ?_ | refine blk_alloc ?_ _)); refine blk_far ?_ NB114_121.out _; (with_reducible repeat (first | refine blk_drewN ?_ _ | refine blk_drew ?_ | refine blk_alloc ?_ _)); refine blk_far ?_ NB114_121.out _; (with_reducible repeat (first | refine blk_drewN ?_ _ | refine blk_drew ?_ | refine blk_alloc ?_ _)); exact BK114.out⟩, ⟨by (with_reducible repeat (first | refine blk_drewN ?_ _ | refine blk_drew ?_ | refine blk_alloc ?_ _)); refine blk_put (cs := #[.int .i64 t115, .int .i64 t116, .int .i64 t117, .string (⟨#[]⟩ : ByteArray)]) ?_ 3 _ rfl; (with_reducible repeat (first | refine blk_drewN ?_ _ | refine blk_drew ?_ | refine blk_alloc ?_ _)); refine blk_put (cs := #[.int .i64 t115, .int .i64 t116, .int .i64 0, .string (⟨#[]⟩ : ByteArray)]) ?_ 2 _ rfl; (with_reducible repeat (first | refine blk_drewN ?_ _ | refine blk_drew ?_ | refine blk_alloc ?_ _)); refine blk_put (cs := #[.int .i64 t115, .int .i64 0, .int .i64 0, .string (⟨#[]⟩ : ByteArray)]) ?_ 1 _ rfl; (with_reducible repeat (first | refine blk_drewN ?_ _ | refine blk_drew ?_ | refine blk_alloc ?_ _)); refine blk_put (cs := #[.int .i64 0, .int .i64 0, .int .i64 0, .string (⟨#[]⟩ : ByteArray)]) ?_ 0 _ rfl; (with_reducible repeat (first | refine blk_drewN ?_ _ | refine blk_drew ?_ | refine blk_alloc ?_ _)); exact BK121.out⟩, ⟨by repeat (first | (with_reducible first | exact HB.out | apply below_alloc | apply pw_below_drewN | apply below_drew1 | refine below_set ?_ GE101.out | refine below_set ?_ GE102.out | refine below_set ?_ GE114.out | refine below_set ?_ GE121.out) | exact HB.out)⟩⟩
  case rest =>
   clear HC9
   try clear c1
   try clear c2
   try clear p2
   try clear c3
   try clear c4
   try clear c5
   try clear c6
   try clear c8
   try clear c12
   try clear c14
   try clear c21
   try clear c22
   try clear c27
   try clear c28
   try clear c29
   try clear c31
   try clear c31b0
   try clear c32
   try clear c33
   try clear c34
   try clear c35
   try clear c36
   try clear c37
   try clear c39
   try clear c39b0
   try clear c39b1
   try clear c40
   try clear c41
   try clear c42
   try clear c44
   try clear c45
   try clear c47
   try clear c48
   try clear c49
   try clear c51
   try clear c52
   try clear hcz13_0
   try clear hcz13_1
   try clear hcz13_2
   try clear hcz13_3
   try clear hcz14_0
   try clear hcz14_1
   try clear hcz14_2
   try clear hcz14_3
   try clear hcz18_0
   try clear hcz18_1
   try clear hcz18_2
   try clear hcz18_3
   try clear hcz23_0
   try clear hcz23_1
   try clear hcz23_2
   try clear hcz23_3
   try clear hcz24_0
   try clear hcz24_1
   try clear hcz24_2
   try clear hcz24_3
   try clear hcz30_0
   try clear hcz30_1
   try clear hcz30_2
   try clear hcz30_3
   try clear hcz35_0
   try clear hcz35_1
   try clear hcz35_2
   try clear hcz35_3
   try clear hcz38_0
   try clear hcz38_1
   try clear hcz38_2
   try clear hcz38_3
   try clear hcz43_0
   try clear hcz43_1
   try clear hcz43_2
   try clear hcz43_3
   try clear hcz46_0
   try clear hcz46_1
   try clear hcz46_2
   try clear hcz46_3
   try clear hcz50_0
   try clear hcz50_1
   try clear hcz50_2
   try clear hcz50_3
   try clear hcz53_0
   try clear hcz53_1
   try clear hcz53_2
   try clear hcz53_3
   try clear hfz13_0
   try clear hfz13_1
   try clear hfz13_2
   try clear hfz13_3
   try clear hfz14_0
   try clear hfz14_1
   try clear hfz14_2
   try clear hfz14_3
   try clear hfz18_0
   try clear hfz18_1
   try clear hfz18_2
   try clear hfz18_3
   try clear hfz23_0
   try clear hfz23_1
   try clear hfz23_2
   try clear hfz23_3
   try clear hfz24_0
   try clear hfz24_1
   try clear hfz24_2
   try clear hfz24_3
   try clear hfz30_0
   try clear hfz30_1
   try clear hfz30_2
   try clear hfz30_3
   try clear hfz35_0
   try clear hfz35_1
   try clear hfz35_2
   try clear hfz35_3
   try clear hfz38_0
   try clear hfz38_1
   try clear hfz38_2
   try clear hfz38_3
   try clear hfz43_0
   try clear hfz43_1
   try clear hfz43_2
   try clear hfz43_3
   try clear hfz46_0
   try clear hfz46_1
   try clear hfz46_2
   try clear hfz46_3
   try clear hfz50_0
   try clear hfz50_1
   try clear hfz50_2
   try clear hfz50_3
   try clear hfz53_0
   try clear hfz53_1
   try clear hfz53_2
   try clear hfz53_3
   obtain ⟨kq, x53_8, rfl, HA, HJ8, BK101, BK102, BK114, BK121, HB⟩ := hcut
   cases kq with
   | zero => exact absurd HA.out (by simp [ironbarklaw05_BitsParts.j0])
   | succ kj8 =>
    have H := HA.out
    clear HA
    simp only [ironbarklaw05_BitsParts.j0] at H
    by_cases c54 : x53_8 = true
    ·subst c54
     have H1 : (some false) = some r := by rw [if_pos rfl] at H; exact H
     clear H
     have H := H1
     clear H1
     exact absurd ((Option.some.inj H).trans hrt_.out) (by decide)
    ·replace c54 := Bool.eq_false_iff.mpr c54
     subst c54
     have H1 : ((bits_Rest.f a0_0 a0_1 a0_2 a0_3 a1).bind fun bt122 => ((ironbarkref05_Rest.f a0_0 a0_1 a0_2 a0_3 a1).bind fun bt128 => (if (!(bt122.1 == bt128.1) || (!(bt122.2.1 == bt128.2.1) || (!(bt122.2.2.1 == bt128.2.2.1) || (!(bt122.2.2.2.1.toList == bt128.2.2.2.1.toList))))) = true then (ironbarklaw05_BitsParts.j1 kj8 a1 a2 true a0_0 a0_1 a0_2 a0_3 a3_0 a3_1 a3_2 a3_3) else (if bt122.2.2.2.2.1 = bt128.2.2.2.2.1 then (ironbarklaw05_BitsParts.j1 kj8 a1 a2 (bt122.2.2.2.2.2 != bt128.2.2.2.2.2) a0_0 a0_1 a0_2 a0_3 a3_0 a3_1 a3_2 a3_3) else (ironbarklaw05_BitsParts.j1 kj8 a1 a2 true a0_0 a0_1 a0_2 a0_3 a3_0 a3_1 a3_2 a3_3))))) = some r := by rw [if_neg (show ¬ (false = true) by decide)] at H; exact H
     clear H
     have H := H1
     clear H1
     replace H := Option.bind_eq_some_iff.mp H
     obtain ⟨⟨t122, t123, t124, t125, t126, t127⟩, A550, H⟩ := H
     replace H : ((ironbarkref05_Rest.f a0_0 a0_1 a0_2 a0_3 a1).bind fun bt128 => (if (!(t122 == bt128.1) || (!(t123 == bt128.2.1) || (!(t124 == bt128.2.2.1) || (!(t125.toList == bt128.2.2.2.1.toList))))) = true then (ironbarklaw05_BitsParts.j1 kj8 a1 a2 true a0_0 a0_1 a0_2 a0_3 a3_0 a3_1 a3_2 a3_3) else (if t126 = bt128.2.2.2.2.1 then (ironbarklaw05_BitsParts.j1 kj8 a1 a2 (t127 != bt128.2.2.2.2.2) a0_0 a0_1 a0_2 a0_3 a3_0 a3_1 a3_2 a3_3) else (ironbarklaw05_BitsParts.j1 kj8 a1 a2 true a0_0 a0_1 a0_2 a0_3 a3_0 a3_1 a3_2 a3_3)))) = some r := H
     have A55 := Aside0.mk A550
     clear A550
     replace H := Option.bind_eq_some_iff.mp H
     obtain ⟨⟨t128, t129, t130, t131, t132, t133⟩, A560, H⟩ := H
     replace H : (if (!(t122 == t128) || (!(t123 == t129) || (!(t124 == t130) || (!(t125.toList == t131.toList))))) = true then (ironbarklaw05_BitsParts.j1 kj8 a1 a2 true a0_0 a0_1 a0_2 a0_3 a3_0 a3_1 a3_2 a3_3) else (if t126 = t132 then (ironbarklaw05_BitsParts.j1 kj8 a1 a2 (t127 != t133) a0_0 a0_1 a0_2 a0_3 a3_0 a3_1 a3_2 a3_3) else (ironbarklaw05_BitsParts.j1 kj8 a1 a2 true a0_0 a0_1 a0_2 a0_3 a3_0 a3_1 a3_2 a3_3))) = some r := H
     have A56 := Aside0.mk A560
     clear A560
     have HC57 := Aside0.mk H
     clear H
     have hnb58 := NB101_102.out
     have hnc58 := NB102_101.out
     have hnb59 := NB101_114.out
     have hnc59 := NB114_101.out
     have hnb60 := NB101_121.out
     have hnc60 := NB121_101.out
     have hcz61_0 : wc.cell? ⟨gb101, 0, none⟩ = some (.int .i64 a0_0) := (blk_cell BK101.out 0).trans rfl
     have hcz61_1 : wc.cell? ⟨gb101, 1, none⟩ = some (.int .i64 a0_1) := (blk_cell BK101.out 1).trans rfl
     have hcz61_2 : wc.cell? ⟨gb101, 2, none⟩ = some (.int .i64 a0_2) := (blk_cell BK101.out 2).trans rfl
     have hcz61_3 : wc.cell? ⟨gb101, 3, none⟩ = some (.string a0_3) := (blk_cell BK101.out 3).trans rfl
     have hfz61_0 := blk_frozen BK101.out 0
     have hfz61_1 := blk_frozen BK101.out 1
     have hfz61_2 := blk_frozen BK101.out 2
     have hfz61_3 := blk_frozen BK101.out 3
     go_upto_region 9 with (first | ((with_reducible refine gate_callee (f := 36) rfl ?_); refine goesL_ (some 57) rfl rfl Try.func36 (by kernel_rfl) rfl #[.agg #[.int .i64 a0_0, .int .i64 a0_1, .int .i64 a0_2, .string a0_3], .int .i64 a1] rfl (by (try simp only [List.map_toArray, List.map_cons, List.map_nil]); first | done | rfl | (simp only [List.length_drop, List.length_take]; rfl)) ?_; (with_reducible refine (bits_Rest.calls a0_0 a0_1 a0_2 a0_3 a1 t122 t123 t124 t125 t126 t127 _ A55.out).mono ?_); rintro e w62 ⟨rfl, hb⟩; refine ⟨_, rfl, ?_⟩; have n0_ := Aside0.mk (blk_below (g := gb101) (o := .cells #[.int .i64 a0_0, .int .i64 a0_1, .int .i64 a0_2, .string a0_3] 23 (0, 0)) (by (with_reducible repeat (first | refine blk_drewN ?_ _ | refine blk_drew ?_ | refine blk_alloc ?_ _)); exact BK101.out) hb); have n1_ := Aside0.mk (blk_below (g := gb102) (o := .cells #[.int .i64 a3_0, .int .i64 a3_1, .int .i64 a3_2, .string a3_3] 23 (0, 0)) (by (with_reducible repeat (first | refine blk_drewN ?_ _ | refine blk_drew ?_ | refine blk_alloc ?_ _)); exact BK102.out) hb); have n2_ := Aside0.mk (blk_below (g := gb114) (o := .cells #[.int .i64 t108, .int .i64 t109, .int .i64 t110, .string t111] 23 (0, 0)) (by (with_reducible repeat (first | refine blk_drewN ?_ _ | refine blk_drew ?_ | refine blk_alloc ?_ _)); exact BK114.out) hb); have n3_ := Aside0.mk (blk_below (g := gb121) (o := .cells #[.int .i64 t115, .int .i64 t116, .int .i64 t117, .string t118] 23 (0, 0)) (by (with_reducible repeat (first | refine blk_drewN ?_ _ | refine blk_drew ?_ | refine blk_alloc ?_ _)); exact BK121.out) hb); have n4_ := Aside0.mk (below_step (by repeat (first | (with_reducible first | exact HB.out | apply below_alloc | apply pw_below_drewN | apply below_drew1 | refine below_set ?_ GE101.out | refine below_set ?_ GE102.out | refine below_set ?_ GE114.out | refine below_set ?_ GE121.out) | exact HB.out)) hb); clear BK101; clear BK102; clear BK114; clear BK121; clear HB; have BK101 := n0_; have BK102 := n1_; have BK114 := n2_; have BK121 := n3_; have HB := n4_; clear n0_ n1_ n2_ n3_ n4_; (try clear hb); (try clear hb2); (try clear hk); (try clear hi); have hnb63 := NB114_102.out; have hnc63 := NB102_114.out; have hnb64 := NB114_121.out; have hnc64 := NB121_114.out; have hcz65_0 : w62.cell? ⟨gb114, 0, none⟩ = some (.int .i64 t108) := (blk_cell BK114.out 0).trans rfl; have hcz65_1 : w62.cell? ⟨gb114, 1, none⟩ = some (.int .i64 t109) := (blk_cell BK114.out 1).trans rfl; have hcz65_2 : w62.cell? ⟨gb114, 2, none⟩ = some (.int .i64 t110) := (blk_cell BK114.out 2).trans rfl; have hcz65_3 : w62.cell? ⟨gb114, 3, none⟩ = some (.string t111) := (blk_cell BK114.out 3).trans rfl; have hfz65_0 := blk_frozen BK114.out 0; have hfz65_1 := blk_frozen BK114.out 1; have hfz65_2 := blk_frozen BK114.out 2; have hfz65_3 := blk_frozen BK114.out 3; have hcz66_0 : w62.cell? ⟨gb101, 0, none⟩ = some (.int .i64 a0_0) := (blk_cell BK101.out 0).trans rfl; have hcz66_1 : w62.cell? ⟨gb101, 1, none⟩ = some (.int .i64 a0_1) := (blk_cell BK101.out 1).trans rfl; have hcz66_2 : w62.cell? ⟨gb101, 2, none⟩ = some (.int .i64 a0_2) := (blk_cell BK101.out 2).trans rfl; have hcz66_3 : w62.cell? ⟨gb101, 3, none⟩ = some (.string a0_3) := (blk_cell BK101.out 3).trans rfl; have hfz66_0 := blk_frozen BK101.out 0; have hfz66_1 := blk_frozen BK101.out 1; have hfz66_2 := blk_frozen BK101.out 2; have hfz66_3 := blk_frozen BK101.out 3) | ((with_reducible refine gate_callee (f := 37) rfl ?_); refine goesL_ (some 64) rfl rfl Try.func37 (by kernel_rfl) rfl #[.agg #[.int .i64 a0_0, .int .i64 a0_1, .int .i64 a0_2, .string a0_3], .int .i64 a1] rfl (by (try simp only [List.map_toArray, List.map_cons, List.map_nil]); first | done | rfl | (simp only [List.length_drop, List.length_take]; rfl)) ?_; (with_reducible refine (ironbarkref05_Rest.calls a0_0 a0_1 a0_2 a0_3 a1 t128 t129 t130 t131 t132 t133 _ A56.out).mono ?_); rintro e w67 ⟨rfl, hb⟩; refine ⟨_, rfl, ?_⟩; have n0_ := Aside0.mk (blk_below (g := gb101) (o := .cells #[.int .i64 a0_0, .int .i64 a0_1, .int .i64 a0_2, .string a0_3] 23 (0, 0)) (by (with_reducible repeat (first | refine blk_drewN ?_ _ | refine blk_drew ?_ | refine blk_alloc ?_ _)); refine blk_far ?_ NB101_114.out _; (with_reducible repeat (first | refine blk_drewN ?_ _ | refine blk_drew ?_ | refine blk_alloc ?_ _)); refine blk_far ?_ NB101_114.out _; (with_reducible repeat (first | refine blk_drewN ?_ _ | refine blk_drew ?_ | refine blk_alloc ?_ _)); refine blk_far ?_ NB101_114.out _; (with_reducible repeat (first | refine blk_drewN ?_ _ | refine blk_drew ?_ | refine blk_alloc ?_ _)); refine blk_far ?_ NB101_114.out _; (with_reducible repeat (first | refine blk_drewN ?_ _ | refine blk_drew ?_ | refine blk_alloc ?_ _)); exact BK101.out) hb); have n1_ := Aside0.mk (blk_below (g := gb102) (o := .cells #[.int .i64 a3_0, .int .i64 a3_1, .int .i64 a3_2, .string a3_3] 23 (0, 0)) (by (with_reducible repeat (first | refine blk_drewN ?_ _ | refine blk_drew ?_ | refine blk_alloc ?_ _)); refine blk_far ?_ NB102_114.out _; (with_reducible repeat (first | refine blk_drewN ?_ _ | refine blk_drew ?_ | refine blk_alloc ?_ _)); refine blk_far ?_ NB102_114.out _; (with_reducible repeat (first | refine blk_drewN ?_ _ | refine blk_drew ?_ | refine blk_alloc ?_ _)); refine blk_far ?_ NB102_114.out _; (with_reducible repeat (first | refine blk_drewN ?_ _ | refine blk_drew ?_ | refine blk_alloc ?_ _)); refine blk_far ?_ NB102_114.out _; (with_reducible repeat (first | refine blk_drewN ?_ _ | refine blk_drew ?_ | refine blk_alloc ?_ _)); exact BK102.out) hb); have n2_ := Aside0.mk (blk_below (g := gb114) (o := .cells #[.int .i64 t122, .int .i64 t123, .int .i64 t124, .string t125] 23 (0, 0)) (by (with_reducible repeat (first | refine blk_drewN ?_ _ | refine blk_drew ?_ | refine blk_alloc ?_ _)); refine blk_put (cs := #[.int .i64 t122, .int .i64 t123, .int .i64 t124, .string t111]) ?_ 3 _ rfl; (with_reducible repeat (first | refine blk_drewN ?_ _ | refine blk_drew ?_ | refine blk_alloc ?_ _)); refine blk_put (cs := #[.int .i64 t122, .int .i64 t123, .int .i64 t110, .string t111]) ?_ 2 _ rfl; (with_reducible repeat (first | refine blk_drewN ?_ _ | refine blk_drew ?_ | refine blk_alloc ?_ _)); refine blk_put (cs := #[.int .i64 t122, .int .i64 t109, .int .i64 t110, .string t111]) ?_ 1 _ rfl; (with_reducible repeat (first | refine blk_drewN ?_ _ | refine blk_drew ?_ | refine blk_alloc ?_ _)); refine blk_put (cs := #[.int .i64 t108, .int .i64 t109, .int .i64 t110, .string t111]) ?_ 0 _ rfl; (with_reducible repeat (first | refine blk_drewN ?_ _ | refine blk_drew ?_ | refine blk_alloc ?_ _)); exact BK114.out) hb); have n3_ := Aside0.mk (blk_below (g := gb121) (o := .cells #[.int .i64 t115, .int .i64 t116, .int .i64 t117, .string t118] 23 (0, 0)) (by (with_reducible repeat (first | refine blk_drewN ?_ _ | refine blk_drew ?_ | refine blk_alloc ?_ _)); refine blk_far ?_ NB121_114.out _; (with_reducible repeat (first | refine blk_drewN ?_ _ | refine blk_drew ?_ | refine blk_alloc ?_ _)); refine blk_far ?_ NB121_114.out _; (with_reducible repeat (first | refine blk_drewN ?_ _ | refine blk_drew ?_ | refine blk_alloc ?_ _)); refine blk_far ?_ NB121_114.out _; (with_reducible repeat (first | refine blk_drewN ?_ _ | refine blk_drew ?_ | refine blk_alloc ?_ _)); refine blk_far ?_ NB121_114.out _; (with_reducible repeat (first | refine blk_drewN ?_ _ | refine blk_drew ?_ | refine blk_alloc ?_ _)); exact BK121.out) hb); have n4_ := Aside0.mk (below_step (by repeat (first | (with_reducible first | exact HB.out | apply below_alloc | apply pw_below_drewN | apply below_drew1 | refine below_set ?_ GE101.out | refine below_set ?_ GE102.out | refine below_set ?_ GE114.out | refine below_set ?_ GE121.out) | exact HB.out)) hb); clear BK101; clear BK102; clear BK114; clear BK121; clear HB; have BK101 := n0_; have BK102 := n1_; have BK114 := n2_; have BK121 := n3_; have HB := n4_; clear n0_ n1_ n2_ n3_ n4_; (try clear hb); (try clear hb2); (try clear hk); (try clear hi); have hnb68 := NB121_102.out; have hnc68 := NB102_121.out; have hcz69_0 : w67.cell? ⟨gb121, 0, none⟩ = some (.int .i64 t115) := (blk_cell BK121.out 0).trans rfl; have hcz69_1 : w67.cell? ⟨gb121, 1, none⟩ = some (.int .i64 t116) := (blk_cell BK121.out 1).trans rfl; have hcz69_2 : w67.cell? ⟨gb121, 2, none⟩ = some (.int .i64 t117) := (blk_cell BK121.out 2).trans rfl; have hcz69_3 : w67.cell? ⟨gb121, 3, none⟩ = some (.string t118) := (blk_cell BK121.out 3).trans rfl; have hfz69_0 := blk_frozen BK121.out 0; have hfz69_1 := blk_frozen BK121.out 1; have hfz69_2 := blk_frozen BK121.out 2; have hfz69_3 := blk_frozen BK121.out 3))
     (try simp only [Act.put, List.setIfInBounds_toArray, List.set_cons_zero, List.set_cons_succ])
     go_cut [80] (fun v80 wc => ∃ (kq : Nat) (x80_56 : Bool), v80 = .bool x80_56 ∧ Aside0 (ironbarklaw05_BitsParts.j1 kq a1 a2 x80_56 a0_0 a0_1 a0_2 a0_3 a3_0 a3_1 a3_2 a3_3 = some r) ∧ Aside0 (kq ≤ kj8) ∧ Aside0 (wc.heap[gb101]? = some (.cells #[.int .i64 a0_0, .int .i64 a0_1, .int .i64 a0_2, .string a0_3] 23 (0, 0))) ∧ Aside0 (wc.heap[gb102]? = some (.cells #[.int .i64 a3_0, .int .i64 a3_1, .int .i64 a3_2, .string a3_3] 23 (0, 0))) ∧ Aside0 (wc.heap[gb114]? = some (.cells #[.int .i64 t122, .int .i64 t123, .int .i64 t124, .string t125] 23 (0, 0))) ∧ Aside0 (wc.heap[gb121]? = some (.cells #[.int .i64 t128, .int .i64 t129, .int .i64 t130, .string t131] 23 (0, 0))) ∧ Aside0 (Below w.heap.size w wc))
     case first =>
      have H := HC57.out
      clear HC57
      by_cases c70 : (!(t122 == t128) || (!(t123 == t129) || (!(t124 == t130) || (!(t125.toList == t131.toList))))) = true
      ·rw [if_pos c70] at H
       have c70b0 : (!(t122 == t128) || (!(t123 == t129) || (!(t124 == t130) || (!(t125.toList == t131.toList))))) = true := c70
       clear c70
       (first | rw [c70b0] | (simp only [i64_w, i32_w]; rw [c70b0]) | skip)
       have H' := Aside0.mk H
       clear H
       have hnb71 := NB114_101.out
       have hnc71 := NB101_114.out
       have hnb72 := NB114_102.out
       have hnc72 := NB102_114.out
       have hnb73 := NB114_121.out
       have hnc73 := NB121_114.out
       have hcz74_0 : w67.cell? ⟨gb114, 0, none⟩ = some (.int .i64 t122) := (blk_cell BK114.out 0).trans rfl
       have hcz74_1 : w67.cell? ⟨gb114, 1, none⟩ = some (.int .i64 t123) := (blk_cell BK114.out 1).trans rfl
       have hcz74_2 : w67.cell? ⟨gb114, 2, none⟩ = some (.int .i64 t124) := (blk_cell BK114.out 2).trans rfl
       have hcz74_3 : w67.cell? ⟨gb114, 3, none⟩ = some (.string t125) := (blk_cell BK114.out 3).trans rfl
       have hfz74_0 := blk_frozen BK114.out 0
       have hfz74_1 := blk_frozen BK114.out 1
       have hfz74_2 := blk_frozen BK114.out 2
       have hfz74_3 := blk_frozen BK114.out 3
       have hnb75 := NB121_101.out
       have hnc75 := NB101_121.out
       have hnb76 := NB121_102.out
       have hnc76 := NB102_121.out
       have hcz77_0 : w67.cell? ⟨gb121, 0, none⟩ = some (.int .i64 t115) := (blk_cell BK121.out 0).trans rfl
       have hcz77_1 : w67.cell? ⟨gb121, 1, none⟩ = some (.int .i64 t116) := (blk_cell BK121.out 1).trans rfl
       have hcz77_2 : w67.cell? ⟨gb121, 2, none⟩ = some (.int .i64 t117) := (blk_cell BK121.out 2).trans rfl
       have hcz77_3 : w67.cell? ⟨gb121, 3, none⟩ = some (.string t118) := (blk_cell BK121.out 3).trans rfl
       have hfz77_0 := blk_frozen BK121.out 0
       have hfz77_1 := blk_frozen BK121.out 1
       have hfz77_2 := blk_frozen BK121.out 2
       have hfz77_3 := blk_frozen BK121.out 3
       go_wp2
       go_meet
       case rel => exact ⟨_, (true), (by first | rfl | (simp; done) | (generalize ByteArray.toList _ = l_; cases l_ <;> rfl) | (simp [*]; done)), H', ⟨by have := HJ8.out; first | omega | exact Nat.le_refl _⟩, ⟨by (with_reducible repeat (first | refine blk_drewN ?_ _ | refine blk_drew ?_ | refine blk_alloc ?_ _)); refine blk_far ?_ NB101_121.out _; (with_reducible repeat (first | refine blk_drewN ?_ _ | refine blk_drew ?_ | refine blk_alloc ?_ _)); refine blk_far ?_ NB101_121.out _; (with_reducible repeat (first | refine blk_drewN ?_ _ | refine blk_drew ?_ | refine blk_alloc ?_ _)); refine blk_far ?_ NB101_121.out _; (with_reducible repeat (first | refine blk_drewN ?_ _ | refine blk_drew ?_ | refine blk_alloc ?_ _)); refine blk_far ?_ NB101_121.out _; (with_reducible repeat (first | refine blk_drewN ?_ _ | refine blk_drew ?_ | refine blk_alloc ?_ _)); exact BK101.out⟩, ⟨by (with_reducible repeat (first | refine blk_drewN ?_ _ | refine blk_drew ?_ | refine blk_alloc ?_ _)); refine blk_far ?_ NB102_121.out _; (with_reducible repeat (first | refine blk_drewN ?_ _ | refine blk_drew ?_ | refine blk_alloc ?_ _)); refine blk_far ?_ NB102_121.out _; (with_reducible repeat (first | refine blk_drewN ?_ _ | refine blk_drew ?_ | refine blk_alloc ?_ _)); refine blk_far ?_ NB102_121.out _; (with_reducible repeat (first | refine blk_drewN ?_ _ | refine blk_drew ?_ | refine blk_alloc ?_ _)); refine blk_far ?_ NB102_121.out _; (with_reducible repeat (first | refine blk_drewN ?_ _ | refine blk_drew ?_ | refine blk_alloc ?_ _)); exact BK102.out⟩, ⟨by (with_reducible repeat (first | refine blk_drewN ?_ _ | refine blk_drew ?_ | refine blk_alloc ?_ _)); refine blk_far ?_ NB114_121.out _; (with_reducible repeat (first | refine blk_drewN ?_ _ | refine blk_drew ?_ | refine blk_alloc ?_ _)); refine blk_far ?_ NB114_121.out _; (with_reducible repeat (first | refine blk_drewN ?_ _ | refine blk_drew ?_ | refine blk_alloc ?_ _)); refine blk_far ?_ NB114_121.out _; (with_reducible repeat (first | refine blk_drewN ?_ _ | refine blk_drew ?_ | refine blk_alloc ?_ _)); refine blk_far ?_ NB114_121.out _; (with_reducible repeat (first | refine blk_drewN ?_ _ | refine blk_drew ?_ | refine blk_alloc ?_ _)); exact BK114.out⟩, ⟨by (with_reducible repeat (first | refine blk_drewN ?_ _ | refine blk_drew ?_ | refine blk_alloc ?_ _)); refine blk_put (cs := #[.int .i64 t128, .int .i64 t129, .int .i64 t130, .string t118]) ?_ 3 _ rfl; (with_reducible repeat (first | refine blk_drewN ?_ _ | refine blk_drew ?_ | refine blk_alloc ?_ _)); refine blk_put (cs := #[.int .i64 t128, .int .i64 t129, .int .i64 t117, .string t118]) ?_ 2 _ rfl; (with_reducible repeat (first | refine blk_drewN ?_ _ | refine blk_drew ?_ | refine blk_alloc ?_ _)); refine blk_put (cs := #[.int .i64 t128, .int .i64 t116, .int .i64 t117, .string t118]) ?_ 1 _ rfl; (with_reducible repeat (first | refine blk_drewN ?_ _ | refine blk_drew ?_ | refine blk_alloc ?_ _)); refine blk_put (cs := #[.int .i64 t115, .int .i64 t116, .int .i64 t117, .string t118]) ?_ 0 _ rfl; (with_reducible repeat (first | refine blk_drewN ?_ _ | refine blk_drew ?_ | refine blk_alloc ?_ _)); exact BK121.out⟩, ⟨by repeat (first | (with_reducible first | exact HB.out | apply below_alloc | apply pw_below_drewN | apply below_drew1 | refine below_set ?_ GE101.out | refine below_set ?_ GE102.out | refine below_set ?_ GE114.out | refine below_set ?_ GE121.out) | exact HB.out)⟩⟩
      ·rw [if_neg c70] at H
       have c70b0 : (!(t122 == t128) || (!(t123 == t129) || (!(t124 == t130) || (!(t125.toList == t131.toList))))) = false := by simpa using c70
       clear c70
       (first | rw [c70b0] | (simp only [i64_w, i32_w]; rw [c70b0]) | skip)
       by_cases c78 : t126 = t132
       ·rw [if_pos c78] at H
        have c78b0 : (t126 == t132) = true := beq_iff_eq.mpr c78
        have c78b1 : (t126 != t132) = false := bne_eq_false_iff_eq.mpr c78
        clear c78
        have H' := Aside0.mk H
        clear H
        have hnb79 := NB114_101.out
        have hnc79 := NB101_114.out
        have hnb80 := NB114_102.out
        have hnc80 := NB102_114.out
        have hnb81 := NB114_121.out
        have hnc81 := NB121_114.out
        have hcz82_0 : w67.cell? ⟨gb114, 0, none⟩ = some (.int .i64 t122) := (blk_cell BK114.out 0).trans rfl
        have hcz82_1 : w67.cell? ⟨gb114, 1, none⟩ = some (.int .i64 t123) := (blk_cell BK114.out 1).trans rfl
        have hcz82_2 : w67.cell? ⟨gb114, 2, none⟩ = some (.int .i64 t124) := (blk_cell BK114.out 2).trans rfl
        have hcz82_3 : w67.cell? ⟨gb114, 3, none⟩ = some (.string t125) := (blk_cell BK114.out 3).trans rfl
        have hfz82_0 := blk_frozen BK114.out 0
        have hfz82_1 := blk_frozen BK114.out 1
        have hfz82_2 := blk_frozen BK114.out 2
        have hfz82_3 := blk_frozen BK114.out 3
        have hnb83 := NB121_101.out
        have hnc83 := NB101_121.out
        have hnb84 := NB121_102.out
        have hnc84 := NB102_121.out
        have hcz85_0 : w67.cell? ⟨gb121, 0, none⟩ = some (.int .i64 t115) := (blk_cell BK121.out 0).trans rfl
        have hcz85_1 : w67.cell? ⟨gb121, 1, none⟩ = some (.int .i64 t116) := (blk_cell BK121.out 1).trans rfl
        have hcz85_2 : w67.cell? ⟨gb121, 2, none⟩ = some (.int .i64 t117) := (blk_cell BK121.out 2).trans rfl
        have hcz85_3 : w67.cell? ⟨gb121, 3, none⟩ = some (.string t118) := (blk_cell BK121.out 3).trans rfl
        have hfz85_0 := blk_frozen BK121.out 0
        have hfz85_1 := blk_frozen BK121.out 1
        have hfz85_2 := blk_frozen BK121.out 2
        have hfz85_3 := blk_frozen BK121.out 3
        go_wp2
        go_meet
        case rel => exact ⟨_, ((t127 != t133)), (by first | rfl | (simp; done) | (generalize ByteArray.toList _ = l_; cases l_ <;> rfl) | (simp [*]; done)), H', ⟨by have := HJ8.out; first | omega | exact Nat.le_refl _⟩, ⟨by (with_reducible repeat (first | refine blk_drewN ?_ _ | refine blk_drew ?_ | refine blk_alloc ?_ _)); refine blk_far ?_ NB101_121.out _; (with_reducible repeat (first | refine blk_drewN ?_ _ | refine blk_drew ?_ | refine blk_alloc ?_ _)); refine blk_far ?_ NB101_121.out _; (with_reducible repeat (first | refine blk_drewN ?_ _ | refine blk_drew ?_ | refine blk_alloc ?_ _)); refine blk_far ?_ NB101_121.out _; (with_reducible repeat (first | refine blk_drewN ?_ _ | refine blk_drew ?_ | refine blk_alloc ?_ _)); refine blk_far ?_ NB101_121.out _; (with_reducible repeat (first | refine blk_drewN ?_ _ | refine blk_drew ?_ | refine blk_alloc ?_ _)); exact BK101.out⟩, ⟨by (with_reducible repeat (first | refine blk_drewN ?_ _ | refine blk_drew ?_ | refine blk_alloc ?_ _)); refine blk_far ?_ NB102_121.out _; (with_reducible repeat (first | refine blk_drewN ?_ _ | refine blk_drew ?_ | refine blk_alloc ?_ _)); refine blk_far ?_ NB102_121.out _; (with_reducible repeat (first | refine blk_drewN ?_ _ | refine blk_drew ?_ | refine blk_alloc ?_ _)); refine blk_far ?_ NB102_121.out _; (with_reducible repeat (first | refine blk_drewN ?_ _ | refine blk_drew ?_ | refine blk_alloc ?_ _)); refine blk_far ?_ NB102_121.out _; (with_reducible repeat (first | refine blk_drewN ?_ _ | refine blk_drew ?_ | refine blk_alloc ?_ _)); exact BK102.out⟩, ⟨by (with_reducible repeat (first | refine blk_drewN ?_ _ | refine blk_drew ?_ | refine blk_alloc ?_ _)); refine blk_far ?_ NB114_121.out _; (with_reducible repeat (first | refine blk_drewN ?_ _ | refine blk_drew ?_ | refine blk_alloc ?_ _)); refine blk_far ?_ NB114_121.out _; (with_reducible repeat (first | refine blk_drewN ?_ _ | refine blk_drew ?_ | refine blk_alloc ?_ _)); refine blk_far ?_ NB114_121.out _; (with_reducible repeat (first | refine blk_drewN ?_ _ | refine blk_drew ?_ | refine blk_alloc ?_ _)); refine blk_far ?_ NB114_121.out _; (with_reducible repeat (first | refine blk_drewN ?_ _ | refine blk_drew ?_ | refine blk_alloc ?_ _)); exact BK114.out⟩, ⟨by (with_reducible repeat (first | refine blk_drewN ?_ _ | refine blk_drew ?_ | refine blk_alloc ?_ _)); refine blk_put (cs := #[.int .i64 t128, .int .i64 t129, .int .i64 t130, .string t118]) ?_ 3 _ rfl; (with_reducible repeat (first | refine blk_drewN ?_ _ | refine blk_drew ?_ | refine blk_alloc ?_ _)); refine blk_put (cs := #[.int .i64 t128, .int .i64 t129, .int .i64 t117, .string t118]) ?_ 2 _ rfl; (with_reducible repeat (first | refine blk_drewN ?_ _ | refine blk_drew ?_ | refine blk_alloc ?_ _)); refine blk_put (cs := #[.int .i64 t128, .int .i64 t116, .int .i64 t117, .string t118]) ?_ 1 _ rfl; (with_reducible repeat (first | refine blk_drewN ?_ _ | refine blk_drew ?_ | refine blk_alloc ?_ _)); refine blk_put (cs := #[.int .i64 t115, .int .i64 t116, .int .i64 t117, .string t118]) ?_ 0 _ rfl; (with_reducible repeat (first | refine blk_drewN ?_ _ | refine blk_drew ?_ | refine blk_alloc ?_ _)); exact BK121.out⟩, ⟨by repeat (first | (with_reducible first | exact HB.out | apply below_alloc | apply pw_below_drewN | apply below_drew1 | refine below_set ?_ GE101.out | refine below_set ?_ GE102.out | refine below_set ?_ GE114.out | refine below_set ?_ GE121.out) | exact HB.out)⟩⟩
       ·rw [if_neg c78] at H
        have c78b0 : (t126 == t132) = false := beq_eq_false_iff_ne.mpr c78
        have c78b1 : (t126 != t132) = true := bne_iff_ne.mpr c78
        have H' := Aside0.mk H
        clear H
        have hnb86 := NB114_101.out
        have hnc86 := NB101_114.out
        have hnb87 := NB114_102.out
        have hnc87 := NB102_114.out
        have hnb88 := NB114_121.out
        have hnc88 := NB121_114.out
        have hcz89_0 : w67.cell? ⟨gb114, 0, none⟩ = some (.int .i64 t122) := (blk_cell BK114.out 0).trans rfl
        have hcz89_1 : w67.cell? ⟨gb114, 1, none⟩ = some (.int .i64 t123) := (blk_cell BK114.out 1).trans rfl
        have hcz89_2 : w67.cell? ⟨gb114, 2, none⟩ = some (.int .i64 t124) := (blk_cell BK114.out 2).trans rfl
        have hcz89_3 : w67.cell? ⟨gb114, 3, none⟩ = some (.string t125) := (blk_cell BK114.out 3).trans rfl
        have hfz89_0 := blk_frozen BK114.out 0
        have hfz89_1 := blk_frozen BK114.out 1
        have hfz89_2 := blk_frozen BK114.out 2
        have hfz89_3 := blk_frozen BK114.out 3
        have hnb90 := NB121_101.out
        have hnc90 := NB101_121.out
        have hnb91 := NB121_102.out
        have hnc91 := NB102_121.out
        have hcz92_0 : w67.cell? ⟨gb121, 0, none⟩ = some (.int .i64 t115) := (blk_cell BK121.out 0).trans rfl
        have hcz92_1 : w67.cell? ⟨gb121, 1, none⟩ = some (.int .i64 t116) := (blk_cell BK121.out 1).trans rfl
        have hcz92_2 : w67.cell? ⟨gb121, 2, none⟩ = some (.int .i64 t117) := (blk_cell BK121.out 2).trans rfl
        have hcz92_3 : w67.cell? ⟨gb121, 3, none⟩ = some (.string t118) := (blk_cell BK121.out 3).trans rfl
        have hfz92_0 := blk_frozen BK121.out 0
        have hfz92_1 := blk_frozen BK121.out 1
        have hfz92_2 := blk_frozen BK121.out 2
        have hfz92_3 := blk_frozen BK121.out 3
        go_wp2
        go_meet
        case rel => exact ⟨_, (true), (by first | rfl | (simp; done) | (generalize ByteArray.toList _ = l_; cases l_ <;> rfl) | (simp [*]; done)), H', ⟨by have := HJ8.out; first | omega | exact Nat.le_refl _⟩, ⟨by (with_reducible repeat (first | refine blk_drewN ?_ _ | refine blk_drew ?_ | refine blk_alloc ?_ _)); refine blk_far ?_ NB101_121.out _; (with_reducible repeat (first | refine blk_drewN ?_ _ | refine blk_drew ?_ | refine blk_alloc ?_ _)); refine blk_far ?_ NB101_121.out _; (with_reducible repeat (first | refine blk_drewN ?_ _ | refine blk_drew ?_ | refine blk_alloc ?_ _)); refine blk_far ?_ NB101_121.out _; (with_reducible repeat (first | refine blk_drewN ?_ _ | refine blk_drew ?_ | refine blk_alloc ?_ _)); refine blk_far ?_ NB101_121.out _; (with_reducible repeat (first | refine blk_drewN ?_ _ | refine blk_drew ?_ | refine blk_alloc ?_ _)); exact BK101.out⟩, ⟨by (with_reducible repeat (first | refine blk_drewN ?_ _ | refine blk_drew ?_ | refine blk_alloc ?_ _)); refine blk_far ?_ NB102_121.out _; (with_reducible repeat (first | refine blk_drewN ?_ _ | refine blk_drew ?_ | refine blk_alloc ?_ _)); refine blk_far ?_ NB102_121.out _; (with_reducible repeat (first | refine blk_drewN ?_ _ | refine blk_drew ?_ | refine blk_alloc ?_ _)); refine blk_far ?_ NB102_121.out _; (with_reducible repeat (first | refine blk_drewN ?_ _ | refine blk_drew ?_ | refine blk_alloc ?_ _)); refine blk_far ?_ NB102_121.out _; (with_reducible repeat (first | refine blk_drewN ?_ _ | refine blk_drew ?_ | refine blk_alloc ?_ _)); exact BK102.out⟩, ⟨by (with_reducible repeat (first | refine blk_drewN ?_ _ | refine blk_drew ?_ | refine blk_alloc ?_ _)); refine blk_far ?_ NB114_121.out _; (with_reducible repeat (first | refine blk_drewN ?_ _ | refine blk_drew ?_ | refine blk_alloc ?_ _)); refine blk_far ?_ NB114_121.out _; (with_reducible repeat (first | refine blk_drewN ?_ _ | refine blk_drew ?_ | refine blk_alloc ?_ _)); refine blk_far ?_ NB114_121.out _; (with_reducible repeat (first | refine blk_drewN ?_ _ | refine blk_drew ?_ | refine blk_alloc ?_ _)); refine blk_far ?_ NB114_121.out _; (with_reducible repeat (first | refine blk_drewN ?_ _ | refine blk_drew ?_ | refine blk_alloc ?_ _)); exact BK114.out⟩, ⟨by (with_reducible repeat (first | refine blk_drewN ?_ _ | refine blk_drew ?_ | refine blk_alloc ?_ _)); refine blk_put (cs := #[.int .i64 t128, .int .i64 t129, .int .i64 t130, .string t118]) ?_ 3 _ rfl; (with_reducible repeat (first | refine blk_drewN ?_ _ | refine blk_drew ?_ | refine blk_alloc ?_ _)); refine blk_put (cs := #[.int .i64 t128, .int .i64 t129, .int .i64 t117, .string t118]) ?_ 2 _ rfl; (with_reducible repeat (first | refine blk_drewN ?_ _ | refine blk_drew ?_ | refine blk_alloc ?_ _)); refine blk_put (cs := #[.int .i64 t128, .int .i64 t116, .int .i64 t117, .string t118]) ?_ 1 _ rfl; (with_reducible repeat (first | refine blk_drewN ?_ _ | refine blk_drew ?_ | refine blk_alloc ?_ _)); refine blk_put (cs := #[.int .i64 t115, .int .i64 t116, .int .i64 t117, .string t118]) ?_ 0 _ rfl; (with_reducible repeat (first | refine blk_drewN ?_ _ | refine blk_drew ?_ | refine blk_alloc ?_ _)); exact BK121.out⟩, ⟨by repeat (first | (with_reducible first | exact HB.out | apply below_alloc | apply pw_below_drewN | apply below_drew1 | refine below_set ?_ GE101.out | refine below_set ?_ GE102.out | refine below_set ?_ GE114.out | refine below_set ?_ GE121.out) | exact HB.out)⟩⟩
     case rest =>
      clear HC57
      try clear c1
      try clear c2
      try clear p2
      try clear c3
      try clear c4
      try clear c5
      try clear c6
      try clear c7
      try clear c8
      try clear c9
      try clear c12
      try clear c14
      try clear c21
      try clear c22
      try clear c27
      try clear c28
      try clear c29
      try clear c31
      try clear c31b0
      try clear c32
      try clear c33
      try clear c34
      try clear c35
      try clear c36
      try clear c37
      try clear c39
      try clear c39b0
      try clear c39b1
      try clear c40
      try clear c41
      try clear c42
      try clear c44
      try clear c45
      try clear c47
      try clear c48
      try clear c49
      try clear c51
      try clear c52
      try clear c54
      try clear c58
      try clear c59
      try clear c60
      try clear c63
      try clear c64
      try clear c68
      try clear c70
      try clear c70b0
      try clear c71
      try clear c72
      try clear c73
      try clear c75
      try clear c76
      try clear c78
      try clear c78b0
      try clear c78b1
      try clear c79
      try clear c80
      try clear c81
      try clear c83
      try clear c84
      try clear c86
      try clear c87
      try clear c88
      try clear c90
      try clear c91
      try clear hcz13_0
      try clear hcz13_1
      try clear hcz13_2
      try clear hcz13_3
      try clear hcz14_0
      try clear hcz14_1
      try clear hcz14_2
      try clear hcz14_3
      try clear hcz18_0
      try clear hcz18_1
      try clear hcz18_2
      try clear hcz18_3
      try clear hcz23_0
      try clear hcz23_1
      try clear hcz23_2
      try clear hcz23_3
      try clear hcz24_0
      try clear hcz24_1
      try clear hcz24_2
      try clear hcz24_3
      try clear hcz30_0
      try clear hcz30_1
      try clear hcz30_2
      try clear hcz30_3
      try clear hcz35_0
      try clear hcz35_1
      try clear hcz35_2
      try clear hcz35_3
      try clear hcz38_0
      try clear hcz38_1
      try clear hcz38_2
      try clear hcz38_3
      try clear hcz43_0
      try clear hcz43_1
      try clear hcz43_2
      try clear hcz43_3
      try clear hcz46_0
      try clear hcz46_1
      try clear hcz46_2
      try clear hcz46_3
      try clear hcz50_0
      try clear hcz50_1
      try clear hcz50_2
      try clear hcz50_3
      try clear hcz53_0
      try clear hcz53_1
      try clear hcz53_2
      try clear hcz53_3
      try clear hcz61_0
      try clear hcz61_1
      try clear hcz61_2
      try clear hcz61_3
      try clear hcz65_0
      try clear hcz65_1
      try clear hcz65_2
      try clear hcz65_3
      try clear hcz66_0
      try clear hcz66_1
      try clear hcz66_2
      try clear hcz66_3
      try clear hcz69_0
      try clear hcz69_1
      try clear hcz69_2
      try clear hcz69_3
      try clear hcz74_0
      try clear hcz74_1
      try clear hcz74_2
      try clear hcz74_3
      try clear hcz77_0
      try clear hcz77_1
      try clear hcz77_2
      try clear hcz77_3
      try clear hcz82_0
      try clear hcz82_1
      try clear hcz82_2
      try clear hcz82_3
      try clear hcz85_0
      try clear hcz85_1
      try clear hcz85_2
      try clear hcz85_3
      try clear hcz89_0
      try clear hcz89_1
      try clear hcz89_2
      try clear hcz89_3
      try clear hcz92_0
      try clear hcz92_1
      try clear hcz92_2
      try clear hcz92_3
      try clear hfz13_0
      try clear hfz13_1
      try clear hfz13_2
      try clear hfz13_3
      try clear hfz14_0
      try clear hfz14_1
      try clear hfz14_2
      try clear hfz14_3
      try clear hfz18_0
      try clear hfz18_1
      try clear hfz18_2
      try clear hfz18_3
      try clear hfz23_0
      try clear hfz23_1
      try clear hfz23_2
      try clear hfz23_3
      try clear hfz24_0
      try clear hfz24_1
      try clear hfz24_2
      try clear hfz24_3
      try clear hfz30_0
      try clear hfz30_1
      try clear hfz30_2
      try clear hfz30_3
      try clear hfz35_0
      try clear hfz35_1
      try clear hfz35_2
      try clear hfz35_3
      try clear hfz38_0
      try clear hfz38_1
      try clear hfz38_2
      try clear hfz38_3
      try clear hfz43_0
      try clear hfz43_1
      try clear hfz43_2
      try clear hfz43_3
      try clear hfz46_0
      try clear hfz46_1
      try clear hfz46_2
      try clear hfz46_3
      try clear hfz50_0
      try clear hfz50_1
      try clear hfz50_2
      try clear hfz50_3
      try clear hfz53_0
      try clear hfz53_1
      try clear hfz53_2
      try clear hfz53_3
      try clear hfz61_0
      try clear hfz61_1
      try clear hfz61_2
      try clear hfz61_3
      try clear hfz65_0
      try clear hfz65_1
      try clear hfz65_2
      try clear hfz65_3
      try clear hfz66_0
      try clear hfz66_1
      try clear hfz66_2
      try clear hfz66_3
      try clear hfz69_0
      try clear hfz69_1
      try clear hfz69_2
      try clear hfz69_3
      try clear hfz74_0
      try clear hfz74_1
      try clear hfz74_2
      try clear hfz74_3
      try clear hfz77_0
      try clear hfz77_1
      try clear hfz77_2
      try clear hfz77_3
      try clear hfz82_0
      try clear hfz82_1
      try clear hfz82_2
      try clear hfz82_3
      try clear hfz85_0
      try clear hfz85_1
      try clear hfz85_2
      try clear hfz85_3
      try clear hfz89_0
      try clear hfz89_1
      try clear hfz89_2
      try clear hfz89_3
      try clear hfz92_0
      try clear hfz92_1
      try clear hfz92_2
      try clear hfz92_3
      try clear p2
      obtain ⟨kq, x80_56, rfl, HA, HJ56, BK101, BK102, BK114, BK121, HB⟩ := hcut
      cases kq with
      | zero => exact absurd HA.out (by simp [ironbarklaw05_BitsParts.j1])
      | succ kj56 =>
       have H := HA.out
       clear HA
       simp only [ironbarklaw05_BitsParts.j1] at H
       by_cases c93 : x80_56 = true
       ·subst c93
        have H1 : (some false) = some r := by rw [if_pos rfl] at H; exact H
        clear H
        have H := H1
        clear H1
        exact absurd ((Option.some.inj H).trans hrt_.out) (by decide)
       ·replace c93 := Bool.eq_false_iff.mpr c93
        subst c93
        have H1 : ((bits_SetSub.f a0_0 a0_1 a0_2 a0_3 a1 a2 a3_0 a3_1 a3_2 a3_3).bind fun bt134 => ((ironbarkref05_SetSub.f kj56 a0_0 a0_1 a0_2 a0_3 a1 a2 a3_0 a3_1 a3_2 a3_3).bind fun bt140 => (if (!(bt134.1 == bt140.1) || (!(bt134.2.1 == bt140.2.1) || (!(bt134.2.2.1 == bt140.2.2.1) || (!(bt134.2.2.2.1.toList == bt140.2.2.2.1.toList))))) = true then (ironbarklaw05_BitsParts.j2 kj56 a1 a2 bt134.2.2.2.2.1 bt134.2.2.2.2.2 true a0_0 a0_1 a0_2 a0_3 a3_0 a3_1 a3_2 a3_3 bt134.1 bt134.2.1 bt134.2.2.1 bt134.2.2.2.1) else (if bt134.2.2.2.2.1 = bt140.2.2.2.2.1 then (ironbarklaw05_BitsParts.j2 kj56 a1 a2 bt134.2.2.2.2.1 bt134.2.2.2.2.2 (bt134.2.2.2.2.2 != bt140.2.2.2.2.2) a0_0 a0_1 a0_2 a0_3 a3_0 a3_1 a3_2 a3_3 bt134.1 bt134.2.1 bt134.2.2.1 bt134.2.2.2.1) else (ironbarklaw05_BitsParts.j2 kj56 a1 a2 bt134.2.2.2.2.1 bt134.2.2.2.2.2 true a0_0 a0_1 a0_2 a0_3 a3_0 a3_1 a3_2 a3_3 bt134.1 bt134.2.1 bt134.2.2.1 bt134.2.2.2.1))))) = some r := by rw [if_neg (show ¬ (false = true) by decide)] at H; exact H
        clear H
        have H := H1
        clear H1
        replace H := Option.bind_eq_some_iff.mp H
        obtain ⟨⟨t134, t135, t136, t137, t138, t139⟩, A940, H⟩ := H
        replace H : ((ironbarkref05_SetSub.f kj56 a0_0 a0_1 a0_2 a0_3 a1 a2 a3_0 a3_1 a3_2 a3_3).bind fun bt140 => (if (!(t134 == bt140.1) || (!(t135 == bt140.2.1) || (!(t136 == bt140.2.2.1) || (!(t137.toList == bt140.2.2.2.1.toList))))) = true then (ironbarklaw05_BitsParts.j2 kj56 a1 a2 t138 t139 true a0_0 a0_1 a0_2 a0_3 a3_0 a3_1 a3_2 a3_3 t134 t135 t136 t137) else (if t138 = bt140.2.2.2.2.1 then (ironbarklaw05_BitsParts.j2 kj56 a1 a2 t138 t139 (t139 != bt140.2.2.2.2.2) a0_0 a0_1 a0_2 a0_3 a3_0 a3_1 a3_2 a3_3 t134 t135 t136 t137) else (ironbarklaw05_BitsParts.j2 kj56 a1 a2 t138 t139 true a0_0 a0_1 a0_2 a0_3 a3_0 a3_1 a3_2 a3_3 t134 t135 t136 t137)))) = some r := H
        have A94 := Aside0.mk A940
        clear A940
        replace H := Option.bind_eq_some_iff.mp H
        obtain ⟨⟨t140, t141, t142, t143, t144, t145⟩, A950, H⟩ := H
        replace H : (if (!(t134 == t140) || (!(t135 == t141) || (!(t136 == t142) || (!(t137.toList == t143.toList))))) = true then (ironbarklaw05_BitsParts.j2 kj56 a1 a2 t138 t139 true a0_0 a0_1 a0_2 a0_3 a3_0 a3_1 a3_2 a3_3 t134 t135 t136 t137) else (if t138 = t144 then (ironbarklaw05_BitsParts.j2 kj56 a1 a2 t138 t139 (t139 != t145) a0_0 a0_1 a0_2 a0_3 a3_0 a3_1 a3_2 a3_3 t134 t135 t136 t137) else (ironbarklaw05_BitsParts.j2 kj56 a1 a2 t138 t139 true a0_0 a0_1 a0_2 a0_3 a3_0 a3_1 a3_2 a3_3 t134 t135 t136 t137))) = some r := H
        have A95 := Aside0.mk A950
        clear A950
        have HC96 := Aside0.mk H
        clear H
        have hnb97 := NB101_102.out
        have hnc97 := NB102_101.out
        have hnb98 := NB101_114.out
        have hnc98 := NB114_101.out
        have hnb99 := NB101_121.out
        have hnc99 := NB121_101.out
        have hcz100_0 : wc.cell? ⟨gb101, 0, none⟩ = some (.int .i64 a0_0) := (blk_cell BK101.out 0).trans rfl
        have hcz100_1 : wc.cell? ⟨gb101, 1, none⟩ = some (.int .i64 a0_1) := (blk_cell BK101.out 1).trans rfl
        have hcz100_2 : wc.cell? ⟨gb101, 2, none⟩ = some (.int .i64 a0_2) := (blk_cell BK101.out 2).trans rfl
        have hcz100_3 : wc.cell? ⟨gb101, 3, none⟩ = some (.string a0_3) := (blk_cell BK101.out 3).trans rfl
        have hfz100_0 := blk_frozen BK101.out 0
        have hfz100_1 := blk_frozen BK101.out 1
        have hfz100_2 := blk_frozen BK101.out 2
        have hfz100_3 := blk_frozen BK101.out 3
        have hnb101 := NB102_114.out
        have hnc101 := NB114_102.out
        have hnb102 := NB102_121.out
        have hnc102 := NB121_102.out
        have hcz103_0 : wc.cell? ⟨gb102, 0, none⟩ = some (.int .i64 a3_0) := (blk_cell BK102.out 0).trans rfl
        have hcz103_1 : wc.cell? ⟨gb102, 1, none⟩ = some (.int .i64 a3_1) := (blk_cell BK102.out 1).trans rfl
        have hcz103_2 : wc.cell? ⟨gb102, 2, none⟩ = some (.int .i64 a3_2) := (blk_cell BK102.out 2).trans rfl
        have hcz103_3 : wc.cell? ⟨gb102, 3, none⟩ = some (.string a3_3) := (blk_cell BK102.out 3).trans rfl
        have hfz103_0 := blk_frozen BK102.out 0
        have hfz103_1 := blk_frozen BK102.out 1
        have hfz103_2 := blk_frozen BK102.out 2
        have hfz103_3 := blk_frozen BK102.out 3
        go_upto_region 13 with (first | ((with_reducible refine gate_callee (f := 38) rfl ?_); refine goesL_ (some 86) rfl rfl Try.func38 (by kernel_rfl) rfl #[.agg #[.int .i64 a0_0, .int .i64 a0_1, .int .i64 a0_2, .string a0_3], .int .i64 a1, .int .i64 a2, .agg #[.int .i64 a3_0, .int .i64 a3_1, .int .i64 a3_2, .string a3_3]] rfl (by (try simp only [List.map_toArray, List.map_cons, List.map_nil]); first | done | rfl | (simp only [List.length_drop, List.length_take]; rfl)) ?_; (with_reducible refine (bits_SetSub.calls a0_0 a0_1 a0_2 a0_3 a1 a2 a3_0 a3_1 a3_2 a3_3 t134 t135 t136 t137 t138 t139 _ A94.out).mono ?_); rintro e w104 ⟨rfl, hb⟩; refine ⟨_, rfl, ?_⟩; have n0_ := Aside0.mk (blk_below (g := gb101) (o := .cells #[.int .i64 a0_0, .int .i64 a0_1, .int .i64 a0_2, .string a0_3] 23 (0, 0)) (by (with_reducible repeat (first | refine blk_drewN ?_ _ | refine blk_drew ?_ | refine blk_alloc ?_ _)); exact BK101.out) hb); have n1_ := Aside0.mk (blk_below (g := gb102) (o := .cells #[.int .i64 a3_0, .int .i64 a3_1, .int .i64 a3_2, .string a3_3] 23 (0, 0)) (by (with_reducible repeat (first | refine blk_drewN ?_ _ | refine blk_drew ?_ | refine blk_alloc ?_ _)); exact BK102.out) hb); have n2_ := Aside0.mk (blk_below (g := gb114) (o := .cells #[.int .i64 t122, .int .i64 t123, .int .i64 t124, .string t125] 23 (0, 0)) (by (with_reducible repeat (first | refine blk_drewN ?_ _ | refine blk_drew ?_ | refine blk_alloc ?_ _)); exact BK114.out) hb); have n3_ := Aside0.mk (blk_below (g := gb121) (o := .cells #[.int .i64 t128, .int .i64 t129, .int .i64 t130, .string t131] 23 (0, 0)) (by (with_reducible repeat (first | refine blk_drewN ?_ _ | refine blk_drew ?_ | refine blk_alloc ?_ _)); exact BK121.out) hb); have n4_ := Aside0.mk (below_step (by repeat (first | (with_reducible first | exact HB.out | apply below_alloc | apply pw_below_drewN | apply below_drew1 | refine below_set ?_ GE101.out | refine below_set ?_ GE102.out | refine below_set ?_ GE114.out | refine below_set ?_ GE121.out) | exact HB.out)) hb); clear BK101; clear BK102; clear BK114; clear BK121; clear HB; have BK101 := n0_; have BK102 := n1_; have BK114 := n2_; have BK121 := n3_; have HB := n4_; clear n0_ n1_ n2_ n3_ n4_; (try clear hb); (try clear hb2); (try clear hk); (try clear hi); have hnb105 := NB114_121.out; have hnc105 := NB121_114.out; have hcz106_0 : w104.cell? ⟨gb114, 0, none⟩ = some (.int .i64 t122) := (blk_cell BK114.out 0).trans rfl; have hcz106_1 : w104.cell? ⟨gb114, 1, none⟩ = some (.int .i64 t123) := (blk_cell BK114.out 1).trans rfl; have hcz106_2 : w104.cell? ⟨gb114, 2, none⟩ = some (.int .i64 t124) := (blk_cell BK114.out 2).trans rfl; have hcz106_3 : w104.cell? ⟨gb114, 3, none⟩ = some (.string t125) := (blk_cell BK114.out 3).trans rfl; have hfz106_0 := blk_frozen BK114.out 0; have hfz106_1 := blk_frozen BK114.out 1; have hfz106_2 := blk_frozen BK114.out 2; have hfz106_3 := blk_frozen BK114.out 3; have hcz107_0 : w104.cell? ⟨gb101, 0, none⟩ = some (.int .i64 a0_0) := (blk_cell BK101.out 0).trans rfl; have hcz107_1 : w104.cell? ⟨gb101, 1, none⟩ = some (.int .i64 a0_1) := (blk_cell BK101.out 1).trans rfl; have hcz107_2 : w104.cell? ⟨gb101, 2, none⟩ = some (.int .i64 a0_2) := (blk_cell BK101.out 2).trans rfl; have hcz107_3 : w104.cell? ⟨gb101, 3, none⟩ = some (.string a0_3) := (blk_cell BK101.out 3).trans rfl; have hfz107_0 := blk_frozen BK101.out 0; have hfz107_1 := blk_frozen BK101.out 1; have hfz107_2 := blk_frozen BK101.out 2; have hfz107_3 := blk_frozen BK101.out 3; have hcz108_0 : w104.cell? ⟨gb102, 0, none⟩ = some (.int .i64 a3_0) := (blk_cell BK102.out 0).trans rfl; have hcz108_1 : w104.cell? ⟨gb102, 1, none⟩ = some (.int .i64 a3_1) := (blk_cell BK102.out 1).trans rfl; have hcz108_2 : w104.cell? ⟨gb102, 2, none⟩ = some (.int .i64 a3_2) := (blk_cell BK102.out 2).trans rfl; have hcz108_3 : w104.cell? ⟨gb102, 3, none⟩ = some (.string a3_3) := (blk_cell BK102.out 3).trans rfl; have hfz108_0 := blk_frozen BK102.out 0; have hfz108_1 := blk_frozen BK102.out 1; have hfz108_2 := blk_frozen BK102.out 2; have hfz108_3 := blk_frozen BK102.out 3) | ((with_reducible refine gate_callee (f := 39) rfl ?_); refine goesL_ (some 95) rfl rfl Try.func39 (by kernel_rfl) rfl #[.agg #[.int .i64 a0_0, .int .i64 a0_1, .int .i64 a0_2, .string a0_3], .int .i64 a1, .int .i64 a2, .agg #[.int .i64 a3_0, .int .i64 a3_1, .int .i64 a3_2, .string a3_3]] rfl (by (try simp only [List.map_toArray, List.map_cons, List.map_nil]); first | done | rfl | (simp only [List.length_drop, List.length_take]; rfl)) ?_; (with_reducible refine (ironbarkref05_SetSub.calls kj56 a0_0 a0_1 a0_2 a0_3 a1 a2 a3_0 a3_1 a3_2 a3_3 t140 t141 t142 t143 t144 t145 _ A95.out).mono ?_); rintro e w109 ⟨rfl, hb⟩; refine ⟨_, rfl, ?_⟩; have n0_ := Aside0.mk (blk_below (g := gb101) (o := .cells #[.int .i64 a0_0, .int .i64 a0_1, .int .i64 a0_2, .string a0_3] 23 (0, 0)) (by (with_reducible repeat (first | refine blk_drewN ?_ _ | refine blk_drew ?_ | refine blk_alloc ?_ _)); refine blk_far ?_ NB101_114.out _; (with_reducible repeat (first | refine blk_drewN ?_ _ | refine blk_drew ?_ | refine blk_alloc ?_ _)); refine blk_far ?_ NB101_114.out _; (with_reducible repeat (first | refine blk_drewN ?_ _ | refine blk_drew ?_ | refine blk_alloc ?_ _)); refine blk_far ?_ NB101_114.out _; (with_reducible repeat (first | refine blk_drewN ?_ _ | refine blk_drew ?_ | refine blk_alloc ?_ _)); refine blk_far ?_ NB101_114.out _; (with_reducible repeat (first | refine blk_drewN ?_ _ | refine blk_drew ?_ | refine blk_alloc ?_ _)); exact BK101.out) hb); have n1_ := Aside0.mk (blk_below (g := gb102) (o := .cells #[.int .i64 a3_0, .int .i64 a3_1, .int .i64 a3_2, .string a3_3] 23 (0, 0)) (by (with_reducible repeat (first | refine blk_drewN ?_ _ | refine blk_drew ?_ | refine blk_alloc ?_ _)); refine blk_far ?_ NB102_114.out _; (with_reducible repeat (first | refine blk_drewN ?_ _ | refine blk_drew ?_ | refine blk_alloc ?_ _)); refine blk_far ?_ NB102_114.out _; (with_reducible repeat (first | refine blk_drewN ?_ _ | refine blk_drew ?_ | refine blk_alloc ?_ _)); refine blk_far ?_ NB102_114.out _; (with_reducible repeat (first | refine blk_drewN ?_ _ | refine blk_drew ?_ | refine blk_alloc ?_ _)); refine blk_far ?_ NB102_114.out _; (with_reducible repeat (first | refine blk_drewN ?_ _ | refine blk_drew ?_ | refine blk_alloc ?_ _)); exact BK102.out) hb); have n2_ := Aside0.mk (blk_below (g := gb114) (o := .cells #[.int .i64 t134, .int .i64 t135, .int .i64 t136, .string t137] 23 (0, 0)) (by (with_reducible repeat (first | refine blk_drewN ?_ _ | refine blk_drew ?_ | refine blk_alloc ?_ _)); refine blk_put (cs := #[.int .i64 t134, .int .i64 t135, .int .i64 t136, .string t125]) ?_ 3 _ rfl; (with_reducible repeat (first | refine blk_drewN ?_ _ | refine blk_drew ?_ | refine blk_alloc ?_ _)); refine blk_put (cs := #[.int .i64 t134, .int .i64 t135, .int .i64 t124, .string t125]) ?_ 2 _ rfl; (with_reducible repeat (first | refine blk_drewN ?_ _ | refine blk_drew ?_ | refine blk_alloc ?_ _)); refine blk_put (cs := #[.int .i64 t134, .int .i64 t123, .int .i64 t124, .string t125]) ?_ 1 _ rfl; (with_reducible repeat (first | refine blk_drewN ?_ _ | refine blk_drew ?_ | refine blk_alloc ?_ _)); refine blk_put (cs := #[.int .i64 t122, .int .i64 t123, .int .i64 t124, .string t125]) ?_ 0 _ rfl; (with_reducible repeat (first | refine blk_drewN ?_ _ | refine blk_drew ?_ | refine blk_alloc ?_ _)); exact BK114.out) hb); have n3_ := Aside0.mk (blk_below (g := gb121) (o := .cells #[.int .i64 t128, .int .i64 t129, .int .i64 t130, .string t131] 23 (0, 0)) (by (with_reducible repeat (first | refine blk_drewN ?_ _ | refine blk_drew ?_ | refine blk_alloc ?_ _)); refine blk_far ?_ NB121_114.out _; (with_reducible repeat (first | refine blk_drewN ?_ _ | refine blk_drew ?_ | refine blk_alloc ?_ _)); refine blk_far ?_ NB121_114.out _; (with_reducible repeat (first | refine blk_drewN ?_ _ | refine blk_drew ?_ | refine blk_alloc ?_ _)); refine blk_far ?_ NB121_114.out _; (with_reducible repeat (first | refine blk_drewN ?_ _ | refine blk_drew ?_ | refine blk_alloc ?_ _)); refine blk_far ?_ NB121_114.out _; (with_reducible repeat (first | refine blk_drewN ?_ _ | refine blk_drew ?_ | refine blk_alloc ?_ _)); exact BK121.out) hb); have n4_ := Aside0.mk (below_step (by repeat (first | (with_reducible first | exact HB.out | apply below_alloc | apply pw_below_drewN | apply below_drew1 | refine below_set ?_ GE101.out | refine below_set ?_ GE102.out | refine below_set ?_ GE114.out | refine below_set ?_ GE121.out) | exact HB.out)) hb); clear BK101; clear BK102; clear BK114; clear BK121; clear HB; have BK101 := n0_; have BK102 := n1_; have BK114 := n2_; have BK121 := n3_; have HB := n4_; clear n0_ n1_ n2_ n3_ n4_; (try clear hb); (try clear hb2); (try clear hk); (try clear hi); have hcz110_0 : w109.cell? ⟨gb121, 0, none⟩ = some (.int .i64 t128) := (blk_cell BK121.out 0).trans rfl; have hcz110_1 : w109.cell? ⟨gb121, 1, none⟩ = some (.int .i64 t129) := (blk_cell BK121.out 1).trans rfl; have hcz110_2 : w109.cell? ⟨gb121, 2, none⟩ = some (.int .i64 t130) := (blk_cell BK121.out 2).trans rfl; have hcz110_3 : w109.cell? ⟨gb121, 3, none⟩ = some (.string t131) := (blk_cell BK121.out 3).trans rfl; have hfz110_0 := blk_frozen BK121.out 0; have hfz110_1 := blk_frozen BK121.out 1; have hfz110_2 := blk_frozen BK121.out 2; have hfz110_3 := blk_frozen BK121.out 3))
        (try simp only [Act.put, List.setIfInBounds_toArray, List.set_cons_zero, List.set_cons_succ])
        go_cut [111] (fun v111 wc => ∃ (kq : Nat) (x111_95 : Bool), v111 = .bool x111_95 ∧ Aside0 (ironbarklaw05_BitsParts.j2 kq a1 a2 t138 t139 x111_95 a0_0 a0_1 a0_2 a0_3 a3_0 a3_1 a3_2 a3_3 t134 t135 t136 t137 = some r) ∧ Aside0 (kq ≤ kj56) ∧ Aside0 (wc.heap[gb101]? = some (.cells #[.int .i64 a0_0, .int .i64 a0_1, .int .i64 a0_2, .string a0_3] 23 (0, 0))) ∧ Aside0 (wc.heap[gb102]? = some (.cells #[.int .i64 a3_0, .int .i64 a3_1, .int .i64 a3_2, .string a3_3] 23 (0, 0))) ∧ Aside0 (wc.heap[gb114]? = some (.cells #[.int .i64 t134, .int .i64 t135, .int .i64 t136, .string t137] 23 (0, 0))) ∧ Aside0 (wc.heap[gb121]? = some (.cells #[.int .i64 t140, .int .i64 t141, .int .i64 t142, .string t143] 23 (0, 0))) ∧ Aside0 (Below w.heap.size w wc))
        case first =>
         have H := HC96.out
         clear HC96
         by_cases c111 : (!(t134 == t140) || (!(t135 == t141) || (!(t136 == t142) || (!(t137.toList == t143.toList))))) = true
         ·rw [if_pos c111] at H
          have c111b0 : (!(t134 == t140) || (!(t135 == t141) || (!(t136 == t142) || (!(t137.toList == t143.toList))))) = true := c111
          clear c111
          (first | rw [c111b0] | (simp only [i64_w, i32_w]; rw [c111b0]) | skip)
          have H' := Aside0.mk H
          clear H
          have hnb112 := NB114_101.out
          have hnc112 := NB101_114.out
          have hnb113 := NB114_102.out
          have hnc113 := NB102_114.out
          have hnb114 := NB114_121.out
          have hnc114 := NB121_114.out
          have hcz115_0 : w109.cell? ⟨gb114, 0, none⟩ = some (.int .i64 t134) := (blk_cell BK114.out 0).trans rfl
          have hcz115_1 : w109.cell? ⟨gb114, 1, none⟩ = some (.int .i64 t135) := (blk_cell BK114.out 1).trans rfl
          have hcz115_2 : w109.cell? ⟨gb114, 2, none⟩ = some (.int .i64 t136) := (blk_cell BK114.out 2).trans rfl
          have hcz115_3 : w109.cell? ⟨gb114, 3, none⟩ = some (.string t137) := (blk_cell BK114.out 3).trans rfl
          have hfz115_0 := blk_frozen BK114.out 0
          have hfz115_1 := blk_frozen BK114.out 1
          have hfz115_2 := blk_frozen BK114.out 2
          have hfz115_3 := blk_frozen BK114.out 3
          have hnb116 := NB121_101.out
          have hnc116 := NB101_121.out
          have hnb117 := NB121_102.out
          have hnc117 := NB102_121.out
          have hcz118_0 : w109.cell? ⟨gb121, 0, none⟩ = some (.int .i64 t128) := (blk_cell BK121.out 0).trans rfl
          have hcz118_1 : w109.cell? ⟨gb121, 1, none⟩ = some (.int .i64 t129) := (blk_cell BK121.out 1).trans rfl
          have hcz118_2 : w109.cell? ⟨gb121, 2, none⟩ = some (.int .i64 t130) := (blk_cell BK121.out 2).trans rfl
          have hcz118_3 : w109.cell? ⟨gb121, 3, none⟩ = some (.string t131) := (blk_cell BK121.out 3).trans rfl
          have hfz118_0 := blk_frozen BK121.out 0
          have hfz118_1 := blk_frozen BK121.out 1
          have hfz118_2 := blk_frozen BK121.out 2
          have hfz118_3 := blk_frozen BK121.out 3
          go_wp2
          go_meet
          case rel => exact ⟨_, (true), (by first | rfl | (simp; done) | (generalize ByteArray.toList _ = l_; cases l_ <;> rfl) | (simp [*]; done)), H', ⟨by have := HJ8.out; have := HJ56.out; first | omega | exact Nat.le_refl _⟩, ⟨by (with_reducible repeat (first | refine blk_drewN ?_ _ | refine blk_drew ?_ | refine blk_alloc ?_ _)); refine blk_far ?_ NB101_121.out _; (with_reducible repeat (first | refine blk_drewN ?_ _ | refine blk_drew ?_ | refine blk_alloc ?_ _)); refine blk_far ?_ NB101_121.out _; (with_reducible repeat (first | refine blk_drewN ?_ _ | refine blk_drew ?_ | refine blk_alloc ?_ _)); refine blk_far ?_ NB101_121.out _; (with_reducible repeat (first | refine blk_drewN ?_ _ | refine blk_drew ?_ | refine blk_alloc ?_ _)); refine blk_far ?_ NB101_121.out _; (with_reducible repeat (first | refine blk_drewN ?_ _ | refine blk_drew ?_ | refine blk_alloc ?_ _)); exact BK101.out⟩, ⟨by (with_reducible repeat (first | refine blk_drewN ?_ _ | refine blk_drew ?_ | refine blk_alloc ?_ _)); refine blk_far ?_ NB102_121.out _; (with_reducible repeat (first | refine blk_drewN ?_ _ | refine blk_drew ?_ | refine blk_alloc ?_ _)); refine blk_far ?_ NB102_121.out _; (with_reducible repeat (first | refine blk_drewN ?_ _ | refine blk_drew ?_ | refine blk_alloc ?_ _)); refine blk_far ?_ NB102_121.out _; (with_reducible repeat (first | refine blk_drewN ?_ _ | refine blk_drew ?_ | refine blk_alloc ?_ _)); refine blk_far ?_ NB102_121.out _; (with_reducible repeat (first | refine blk_drewN ?_ _ | refine blk_drew ?_ | refine blk_alloc ?_ _)); exact BK102.out⟩, ⟨by (with_reducible repeat (first | refine blk_drewN ?_ _ | refine blk_drew ?_ | refine blk_alloc ?_ _)); refine blk_far ?_ NB114_121.out _; (with_reducible repeat (first | refine blk_drewN ?_ _ | refine blk_drew ?_ | refine blk_alloc ?_ _)); refine blk_far ?_ NB114_121.out _; (with_reducible repeat (first | refine blk_drewN ?_ _ | refine blk_drew ?_ | refine blk_alloc ?_ _)); refine blk_far ?_ NB114_121.out _; (with_reducible repeat (first | refine blk_drewN ?_ _ | refine blk_drew ?_ | refine blk_alloc ?_ _)); refine blk_far ?_ NB114_121.out _; (with_reducible repeat (first | refine blk_drewN ?_ _ | refine blk_drew ?_ | refine blk_alloc ?_ _)); exact BK114.out⟩, ⟨by (with_reducible repeat (first | refine blk_drewN ?_ _ | refine blk_drew ?_ | refine blk_alloc ?_ _)); refine blk_put (cs := #[.int .i64 t140, .int .i64 t141, .int .i64 t142, .string t131]) ?_ 3 _ rfl; (with_reducible repeat (first | refine blk_drewN ?_ _ | refine blk_drew ?_ | refine blk_alloc ?_ _)); refine blk_put (cs := #[.int .i64 t140, .int .i64 t141, .int .i64 t130, .string t131]) ?_ 2 _ rfl; (with_reducible repeat (first | refine blk_drewN ?_ _ | refine blk_drew ?_ | refine blk_alloc ?_ _)); refine blk_put (cs := #[.int .i64 t140, .int .i64 t129, .int .i64 t130, .string t131]) ?_ 1 _ rfl; (with_reducible repeat (first | refine blk_drewN ?_ _ | refine blk_drew ?_ | refine blk_alloc ?_ _)); refine blk_put (cs := #[.int .i64 t128, .int .i64 t129, .int .i64 t130, .string t131]) ?_ 0 _ rfl; (with_reducible repeat (first | refine blk_drewN ?_ _ | refine blk_drew ?_ | refine blk_alloc ?_ _)); exact BK121.out⟩, ⟨by repeat (first | (with_reducible first | exact HB.out | apply below_alloc | apply pw_below_drewN | apply below_drew1 | refine below_set ?_ GE101.out | refine below_set ?_ GE102.out | refine below_set ?_ GE114.out | refine below_set ?_ GE121.out) | exact HB.out)⟩⟩
         ·rw [if_neg c111] at H
          have c111b0 : (!(t134 == t140) || (!(t135 == t141) || (!(t136 == t142) || (!(t137.toList == t143.toList))))) = false := by simpa using c111
          clear c111
          (first | rw [c111b0] | (simp only [i64_w, i32_w]; rw [c111b0]) | skip)
          by_cases c119 : t138 = t144
          ·rw [if_pos c119] at H
           have c119b0 : (t138 == t144) = true := beq_iff_eq.mpr c119
           have c119b1 : (t138 != t144) = false := bne_eq_false_iff_eq.mpr c119
           clear c119
           have H' := Aside0.mk H
           clear H
           have hnb120 := NB114_101.out
           have hnc120 := NB101_114.out
           have hnb121 := NB114_102.out
           have hnc121 := NB102_114.out
           have hnb122 := NB114_121.out
           have hnc122 := NB121_114.out
           have hcz123_0 : w109.cell? ⟨gb114, 0, none⟩ = some (.int .i64 t134) := (blk_cell BK114.out 0).trans rfl
           have hcz123_1 : w109.cell? ⟨gb114, 1, none⟩ = some (.int .i64 t135) := (blk_cell BK114.out 1).trans rfl
           have hcz123_2 : w109.cell? ⟨gb114, 2, none⟩ = some (.int .i64 t136) := (blk_cell BK114.out 2).trans rfl
           have hcz123_3 : w109.cell? ⟨gb114, 3, none⟩ = some (.string t137) := (blk_cell BK114.out 3).trans rfl
           have hfz123_0 := blk_frozen BK114.out 0
           have hfz123_1 := blk_frozen BK114.out 1
           have hfz123_2 := blk_frozen BK114.out 2
           have hfz123_3 := blk_frozen BK114.out 3
           have hnb124 := NB121_101.out
           have hnc124 := NB101_121.out
           have hnb125 := NB121_102.out
           have hnc125 := NB102_121.out
           have hcz126_0 : w109.cell? ⟨gb121, 0, none⟩ = some (.int .i64 t128) := (blk_cell BK121.out 0).trans rfl
           have hcz126_1 : w109.cell? ⟨gb121, 1, none⟩ = some (.int .i64 t129) := (blk_cell BK121.out 1).trans rfl
           have hcz126_2 : w109.cell? ⟨gb121, 2, none⟩ = some (.int .i64 t130) := (blk_cell BK121.out 2).trans rfl
           have hcz126_3 : w109.cell? ⟨gb121, 3, none⟩ = some (.string t131) := (blk_cell BK121.out 3).trans rfl
           have hfz126_0 := blk_frozen BK121.out 0
           have hfz126_1 := blk_frozen BK121.out 1
           have hfz126_2 := blk_frozen BK121.out 2
           have hfz126_3 := blk_frozen BK121.out 3
           go_wp2
           go_meet
           case rel => exact ⟨_, ((t139 != t145)), (by first | rfl | (simp; done) | (generalize ByteArray.toList _ = l_; cases l_ <;> rfl) | (simp [*]; done)), H', ⟨by have := HJ8.out; have := HJ56.out; first | omega | exact Nat.le_refl _⟩, ⟨by (with_reducible repeat (first | refine blk_drewN ?_ _ | refine blk_drew ?_ | refine blk_alloc ?_ _)); refine blk_far ?_ NB101_121.out _; (with_reducible repeat (first | refine blk_drewN ?_ _ | refine blk_drew ?_ | refine blk_alloc ?_ _)); refine blk_far ?_ NB101_121.out _; (with_reducible repeat (first | refine blk_drewN ?_ _ | refine blk_drew ?_ | refine blk_alloc ?_ _)); refine blk_far ?_ NB101_121.out _; (with_reducible repeat (first | refine blk_drewN ?_ _ | refine blk_drew ?_ | refine blk_alloc ?_ _)); refine blk_far ?_ NB101_121.out _; (with_reducible repeat (first | refine blk_drewN ?_ _ | refine blk_drew ?_ | refine blk_alloc ?_ _)); exact BK101.out⟩, ⟨by (with_reducible repeat (first | refine blk_drewN ?_ _ | refine blk_drew ?_ | refine blk_alloc ?_ _)); refine blk_far ?_ NB102_121.out _; (with_reducible repeat (first | refine blk_drewN ?_ _ | refine blk_drew ?_ | refine blk_alloc ?_ _)); refine blk_far ?_ NB102_121.out _; (with_reducible repeat (first | refine blk_drewN ?_ _ | refine blk_drew ?_ | refine blk_alloc ?_ _)); refine blk_far ?_ NB102_121.out _; (with_reducible repeat (first | refine blk_drewN ?_ _ | refine blk_drew ?_ | refine blk_alloc ?_ _)); refine blk_far ?_ NB102_121.out _; (with_reducible repeat (first | refine blk_drewN ?_ _ | refine blk_drew ?_ | refine blk_alloc ?_ _)); exact BK102.out⟩, ⟨by (with_reducible repeat (first | refine blk_drewN ?_ _ | refine blk_drew ?_ | refine blk_alloc ?_ _)); refine blk_far ?_ NB114_121.out _; (with_reducible repeat (first | refine blk_drewN ?_ _ | refine blk_drew ?_ | refine blk_alloc ?_ _)); refine blk_far ?_ NB114_121.out _; (with_reducible repeat (first | refine blk_drewN ?_ _ | refine blk_drew ?_ | refine blk_alloc ?_ _)); refine blk_far ?_ NB114_121.out _; (with_reducible repeat (first | refine blk_drewN ?_ _ | refine blk_drew ?_ | refine blk_alloc ?_ _)); refine blk_far ?_ NB114_121.out _; (with_reducible repeat (first | refine blk_drewN ?_ _ | refine blk_drew ?_ | refine blk_alloc ?_ _)); exact BK114.out⟩, ⟨by (with_reducible repeat (first | refine blk_drewN ?_ _ | refine blk_drew ?_ | refine blk_alloc ?_ _)); refine blk_put (cs := #[.int .i64 t140, .int .i64 t141, .int .i64 t142, .string t131]) ?_ 3 _ rfl; (with_reducible repeat (first | refine blk_drewN ?_ _ | refine blk_drew ?_ | refine blk_alloc ?_ _)); refine blk_put (cs := #[.int .i64 t140, .int .i64 t141, .int .i64 t130, .string t131]) ?_ 2 _ rfl; (with_reducible repeat (first | refine blk_drewN ?_ _ | refine blk_drew ?_ | refine blk_alloc ?_ _)); refine blk_put (cs := #[.int .i64 t140, .int .i64 t129, .int .i64 t130, .string t131]) ?_ 1 _ rfl; (with_reducible repeat (first | refine blk_drewN ?_ _ | refine blk_drew ?_ | refine blk_alloc ?_ _)); refine blk_put (cs := #[.int .i64 t128, .int .i64 t129, .int .i64 t130, .string t131]) ?_ 0 _ rfl; (with_reducible repeat (first | refine blk_drewN ?_ _ | refine blk_drew ?_ | refine blk_alloc ?_ _)); exact BK121.out⟩, ⟨by repeat (first | (with_reducible first | exact HB.out | apply below_alloc | apply pw_below_drewN | apply below_drew1 | refine below_set ?_ GE101.out | refine below_set ?_ GE102.out | refine below_set ?_ GE114.out | refine below_set ?_ GE121.out) | exact HB.out)⟩⟩
          ·rw [if_neg c119] at H
           have c119b0 : (t138 == t144) = false := beq_eq_false_iff_ne.mpr c119
           have c119b1 : (t138 != t144) = true := bne_iff_ne.mpr c119
           have H' := Aside0.mk H
           clear H
           have hnb127 := NB114_101.out
           have hnc127 := NB101_114.out
           have hnb128 := NB114_102.out
           have hnc128 := NB102_114.out
           have hnb129 := NB114_121.out
           have hnc129 := NB121_114.out
           have hcz130_0 : w109.cell? ⟨gb114, 0, none⟩ = some (.int .i64 t134) := (blk_cell BK114.out 0).trans rfl
           have hcz130_1 : w109.cell? ⟨gb114, 1, none⟩ = some (.int .i64 t135) := (blk_cell BK114.out 1).trans rfl
           have hcz130_2 : w109.cell? ⟨gb114, 2, none⟩ = some (.int .i64 t136) := (blk_cell BK114.out 2).trans rfl
           have hcz130_3 : w109.cell? ⟨gb114, 3, none⟩ = some (.string t137) := (blk_cell BK114.out 3).trans rfl
           have hfz130_0 := blk_frozen BK114.out 0
           have hfz130_1 := blk_frozen BK114.out 1
           have hfz130_2 := blk_frozen BK114.out 2
           have hfz130_3 := blk_frozen BK114.out 3
           have hnb131 := NB121_101.out
           have hnc131 := NB101_121.out
           have hnb132 := NB121_102.out
           have hnc132 := NB102_121.out
           have hcz133_0 : w109.cell? ⟨gb121, 0, none⟩ = some (.int .i64 t128) := (blk_cell BK121.out 0).trans rfl
           have hcz133_1 : w109.cell? ⟨gb121, 1, none⟩ = some (.int .i64 t129) := (blk_cell BK121.out 1).trans rfl
           have hcz133_2 : w109.cell? ⟨gb121, 2, none⟩ = some (.int .i64 t130) := (blk_cell BK121.out 2).trans rfl
           have hcz133_3 : w109.cell? ⟨gb121, 3, none⟩ = some (.string t131) := (blk_cell BK121.out 3).trans rfl
           have hfz133_0 := blk_frozen BK121.out 0
           have hfz133_1 := blk_frozen BK121.out 1
           have hfz133_2 := blk_frozen BK121.out 2
           have hfz133_3 := blk_frozen BK121.out 3
           go_wp2
           go_meet
           case rel => exact ⟨_, (true), (by first | rfl | (simp; done) | (generalize ByteArray.toList _ = l_; cases l_ <;> rfl) | (simp [*]; done)), H', ⟨by have := HJ8.out; have := HJ56.out; first | omega | exact Nat.le_refl _⟩, ⟨by (with_reducible repeat (first | refine blk_drewN ?_ _ | refine blk_drew ?_ | refine blk_alloc ?_ _)); refine blk_far ?_ NB101_121.out _; (with_reducible repeat (first | refine blk_drewN ?_ _ | refine blk_drew ?_ | refine blk_alloc ?_ _)); refine blk_far ?_ NB101_121.out _; (with_reducible repeat (first | refine blk_drewN ?_ _ | refine blk_drew ?_ | refine blk_alloc ?_ _)); refine blk_far ?_ NB101_121.out _; (with_reducible repeat (first | refine blk_drewN ?_ _ | refine blk_drew ?_ | refine blk_alloc ?_ _)); refine blk_far ?_ NB101_121.out _; (with_reducible repeat (first | refine blk_drewN ?_ _ | refine blk_drew ?_ | refine blk_alloc ?_ _)); exact BK101.out⟩, ⟨by (with_reducible repeat (first | refine blk_drewN ?_ _ | refine blk_drew ?_ | refine blk_alloc ?_ _)); refine blk_far ?_ NB102_121.out _; (with_reducible repeat (first | refine blk_drewN ?_ _ | refine blk_drew ?_ | refine blk_alloc ?_ _)); refine blk_far ?_ NB102_121.out _; (with_reducible repeat (first | refine blk_drewN ?_ _ | refine blk_drew ?_ | refine blk_alloc ?_ _)); refine blk_far ?_ NB102_121.out _; (with_reducible repeat (first | refine blk_drewN ?_ _ | refine blk_drew ?_ | refine blk_alloc ?_ _)); refine blk_far ?_ NB102_121.out _; (with_reducible repeat (first | refine blk_drewN ?_ _ | refine blk_drew ?_ | refine blk_alloc ?_ _)); exact BK102.out⟩, ⟨by (with_reducible repeat (first | refine blk_drewN ?_ _ | refine blk_drew ?_ | refine blk_alloc ?_ _)); refine blk_far ?_ NB114_121.out _; (with_reducible repeat (first | refine blk_drewN ?_ _ | refine blk_drew ?_ | refine blk_alloc ?_ _)); refine blk_far ?_ NB114_121.out _; (with_reducible repeat (first | refine blk_drewN ?_ _ | refine blk_drew ?_ | refine blk_alloc ?_ _)); refine blk_far ?_ NB114_121.out _; (with_reducible repeat (first | refine blk_drewN ?_ _ | refine blk_drew ?_ | refine blk_alloc ?_ _)); refine blk_far ?_ NB114_121.out _; (with_reducible repeat (first | refine blk_drewN ?_ _ | refine blk_drew ?_ | refine blk_alloc ?_ _)); exact BK114.out⟩, ⟨by (with_reducible repeat (first | refine blk_drewN ?_ _ | refine blk_drew ?_ | refine blk_alloc ?_ _)); refine blk_put (cs := #[.int .i64 t140, .int .i64 t141, .int .i64 t142, .string t131]) ?_ 3 _ rfl; (with_reducible repeat (first | refine blk_drewN ?_ _ | refine blk_drew ?_ | refine blk_alloc ?_ _)); refine blk_put (cs := #[.int .i64 t140, .int .i64 t141, .int .i64 t130, .string t131]) ?_ 2 _ rfl; (with_reducible repeat (first | refine blk_drewN ?_ _ | refine blk_drew ?_ | refine blk_alloc ?_ _)); refine blk_put (cs := #[.int .i64 t140, .int .i64 t129, .int .i64 t130, .string t131]) ?_ 1 _ rfl; (with_reducible repeat (first | refine blk_drewN ?_ _ | refine blk_drew ?_ | refine blk_alloc ?_ _)); refine blk_put (cs := #[.int .i64 t128, .int .i64 t129, .int .i64 t130, .string t131]) ?_ 0 _ rfl; (with_reducible repeat (first | refine blk_drewN ?_ _ | refine blk_drew ?_ | refine blk_alloc ?_ _)); exact BK121.out⟩, ⟨by repeat (first | (with_reducible first | exact HB.out | apply below_alloc | apply pw_below_drewN | apply below_drew1 | refine below_set ?_ GE101.out | refine below_set ?_ GE102.out | refine below_set ?_ GE114.out | refine below_set ?_ GE121.out) | exact HB.out)⟩⟩
        case rest =>
         clear HC96
         try clear c1
         try clear c2
         try clear p2
         try clear c3
         try clear c4
         try clear c5
         try clear c6
         try clear c7
         try clear c8
         try clear c9
         try clear c10
         try clear c11
         try clear c12
         try clear c13
         try clear c14
         try clear c21
         try clear c22
         try clear c27
         try clear c28
         try clear c29
         try clear c31
         try clear c31b0
         try clear c32
         try clear c33
         try clear c34
         try clear c35
         try clear c36
         try clear c37
         try clear c38
         try clear c39
         try clear c39b0
         try clear c39b1
         try clear c40
         try clear c41
         try clear c42
         try clear c44
         try clear c45
         try clear c47
         try clear c48
         try clear c49
         try clear c51
         try clear c52
         try clear c54
         try clear c58
         try clear c59
         try clear c60
         try clear c63
         try clear c64
         try clear c68
         try clear c70
         try clear c70b0
         try clear c71
         try clear c72
         try clear c73
         try clear c75
         try clear c76
         try clear c78
         try clear c78b0
         try clear c78b1
         try clear c79
         try clear c80
         try clear c81
         try clear c83
         try clear c84
         try clear c86
         try clear c87
         try clear c88
         try clear c90
         try clear c91
         try clear c93
         try clear c97
         try clear c98
         try clear c99
         try clear c101
         try clear c102
         try clear c105
         try clear c111
         try clear c111b0
         try clear c112
         try clear c113
         try clear c114
         try clear c116
         try clear c117
         try clear c119
         try clear c119b0
         try clear c119b1
         try clear c120
         try clear c121
         try clear c122
         try clear c124
         try clear c125
         try clear c127
         try clear c128
         try clear c129
         try clear c131
         try clear c132
         try clear hcz100_0
         try clear hcz100_1
         try clear hcz100_2
         try clear hcz100_3
         try clear hcz103_0
         try clear hcz103_1
         try clear hcz103_2
         try clear hcz103_3
         try clear hcz106_0
         try clear hcz106_1
         try clear hcz106_2
         try clear hcz106_3
         try clear hcz107_0
         try clear hcz107_1
         try clear hcz107_2
         try clear hcz107_3
         try clear hcz108_0
         try clear hcz108_1
         try clear hcz108_2
         try clear hcz108_3
         try clear hcz110_0
         try clear hcz110_1
         try clear hcz110_2
         try clear hcz110_3
         try clear hcz115_0
         try clear hcz115_1
         try clear hcz115_2
         try clear hcz115_3
         try clear hcz118_0
         try clear hcz118_1
         try clear hcz118_2
         try clear hcz118_3
         try clear hcz123_0
         try clear hcz123_1
         try clear hcz123_2
         try clear hcz123_3
         try clear hcz126_0
         try clear hcz126_1
         try clear hcz126_2
         try clear hcz126_3
         try clear hcz130_0
         try clear hcz130_1
         try clear hcz130_2
         try clear hcz130_3
         try clear hcz133_0
         try clear hcz133_1
         try clear hcz133_2
         try clear hcz133_3
         try clear hcz13_0
         try clear hcz13_1
         try clear hcz13_2
         try clear hcz13_3
         try clear hcz14_0
         try clear hcz14_1
         try clear hcz14_2
         try clear hcz14_3
         try clear hcz18_0
         try clear hcz18_1
         try clear hcz18_2
         try clear hcz18_3
         try clear hcz23_0
         try clear hcz23_1
         try clear hcz23_2
         try clear hcz23_3
         try clear hcz24_0
         try clear hcz24_1
         try clear hcz24_2
         try clear hcz24_3
         try clear hcz30_0
         try clear hcz30_1
         try clear hcz30_2
         try clear hcz30_3
         try clear hcz35_0
         try clear hcz35_1
         try clear hcz35_2
         try clear hcz35_3
         try clear hcz38_0
         try clear hcz38_1
         try clear hcz38_2
         try clear hcz38_3
         try clear hcz43_0
         try clear hcz43_1
         try clear hcz43_2
         try clear hcz43_3
         try clear hcz46_0
         try clear hcz46_1
         try clear hcz46_2
         try clear hcz46_3
         try clear hcz50_0
         try clear hcz50_1
         try clear hcz50_2
         try clear hcz50_3
         try clear hcz53_0
         try clear hcz53_1
         try clear hcz53_2
         try clear hcz53_3
         try clear hcz61_0
         try clear hcz61_1
         try clear hcz61_2
         try clear hcz61_3
         try clear hcz65_0
         try clear hcz65_1
         try clear hcz65_2
         try clear hcz65_3
         try clear hcz66_0
         try clear hcz66_1
         try clear hcz66_2
         try clear hcz66_3
         try clear hcz69_0
         try clear hcz69_1
         try clear hcz69_2
         try clear hcz69_3
         try clear hcz74_0
         try clear hcz74_1
         try clear hcz74_2
         try clear hcz74_3
         try clear hcz77_0
         try clear hcz77_1
         try clear hcz77_2
         try clear hcz77_3
         try clear hcz82_0
         try clear hcz82_1
         try clear hcz82_2
         try clear hcz82_3
         try clear hcz85_0
         try clear hcz85_1
         try clear hcz85_2
         try clear hcz85_3
         try clear hcz89_0
         try clear hcz89_1
         try clear hcz89_2
         try clear hcz89_3
         try clear hcz92_0
         try clear hcz92_1
         try clear hcz92_2
         try clear hcz92_3
         try clear hfz100_0
         try clear hfz100_1
         try clear hfz100_2
         try clear hfz100_3
         try clear hfz103_0
         try clear hfz103_1
         try clear hfz103_2
         try clear hfz103_3
         try clear hfz106_0
         try clear hfz106_1
         try clear hfz106_2
         try clear hfz106_3
         try clear hfz107_0
         try clear hfz107_1
         try clear hfz107_2
         try clear hfz107_3
         try clear hfz108_0
         try clear hfz108_1
         try clear hfz108_2
         try clear hfz108_3
         try clear hfz110_0
         try clear hfz110_1
         try clear hfz110_2
         try clear hfz110_3
         try clear hfz115_0
         try clear hfz115_1
         try clear hfz115_2
         try clear hfz115_3
         try clear hfz118_0
         try clear hfz118_1
         try clear hfz118_2
         try clear hfz118_3
         try clear hfz123_0
         try clear hfz123_1
         try clear hfz123_2
         try clear hfz123_3
         try clear hfz126_0
         try clear hfz126_1
         try clear hfz126_2
         try clear hfz126_3
         try clear hfz130_0
         try clear hfz130_1
         try clear hfz130_2
         try clear hfz130_3
         try clear hfz133_0
         try clear hfz133_1
         try clear hfz133_2
         try clear hfz133_3
         try clear hfz13_0
         try clear hfz13_1
         try clear hfz13_2
         try clear hfz13_3
         try clear hfz14_0
         try clear hfz14_1
         try clear hfz14_2
         try clear hfz14_3
         try clear hfz18_0
         try clear hfz18_1
         try clear hfz18_2
         try clear hfz18_3
         try clear hfz23_0
         try clear hfz23_1
         try clear hfz23_2
         try clear hfz23_3
         try clear hfz24_0
         try clear hfz24_1
         try clear hfz24_2
         try clear hfz24_3
         try clear hfz30_0
         try clear hfz30_1
         try clear hfz30_2
         try clear hfz30_3
         try clear hfz35_0
         try clear hfz35_1
         try clear hfz35_2
         try clear hfz35_3
         try clear hfz38_0
         try clear hfz38_1
         try clear hfz38_2
         try clear hfz38_3
         try clear hfz43_0
         try clear hfz43_1
         try clear hfz43_2
         try clear hfz43_3
         try clear hfz46_0
         try clear hfz46_1
         try clear hfz46_2
         try clear hfz46_3
         try clear hfz50_0
         try clear hfz50_1
         try clear hfz50_2
         try clear hfz50_3
         try clear hfz53_0
         try clear hfz53_1
         try clear hfz53_2
         try clear hfz53_3
         try clear hfz61_0
         try clear hfz61_1
         try clear hfz61_2
         try clear hfz61_3
         try clear hfz65_0
         try clear hfz65_1
         try clear hfz65_2
         try clear hfz65_3
         try clear hfz66_0
         try clear hfz66_1
         try clear hfz66_2
         try clear hfz66_3
         try clear hfz69_0
         try clear hfz69_1
         try clear hfz69_2
         try clear hfz69_3
         try clear hfz74_0
         try clear hfz74_1
         try clear hfz74_2
         try clear hfz74_3
         try clear hfz77_0
         try clear hfz77_1
         try clear hfz77_2
         try clear hfz77_3
         try clear hfz82_0
         try clear hfz82_1
         try clear hfz82_2
         try clear hfz82_3
         try clear hfz85_0
         try clear hfz85_1
         try clear hfz85_2
         try clear hfz85_3
         try clear hfz89_0
         try clear hfz89_1
         try clear hfz89_2
         try clear hfz89_3
         try clear hfz92_0
         try clear hfz92_1
         try clear hfz92_2
         try clear hfz92_3
         try clear p2
         obtain ⟨kq, x111_95, rfl, HA, HJ95, BK101, BK102, BK114, BK121, HB⟩ := hcut
         cases kq with
         | zero => exact absurd HA.out (by simp [ironbarklaw05_BitsParts.j2])
         | succ kj95 =>
          have H := HA.out
          clear HA
          simp only [ironbarklaw05_BitsParts.j2] at H
          by_cases c134 : x111_95 = true
          ·subst c134
           have H1 : (some false) = some r := by rw [if_pos rfl] at H; exact H
           clear H
           have H := H1
           clear H1
           exact absurd ((Option.some.inj H).trans hrt_.out) (by decide)
          ·replace c134 := Bool.eq_false_iff.mpr c134
           subst c134
           have H1 : (if t139 = 0 then (ironbarklaw05_BitsParts.j3 kj95 a1 a2 (t138 != 0) a0_0 a0_1 a0_2 a0_3 a3_0 a3_1 a3_2 a3_3 t134 t135 t136 t137) else (ironbarklaw05_BitsParts.j3 kj95 a1 a2 true a0_0 a0_1 a0_2 a0_3 a3_0 a3_1 a3_2 a3_3 t134 t135 t136 t137)) = some r := by rw [if_neg (show ¬ (false = true) by decide)] at H; exact H
           clear H
           have H := H1
           clear H1
           have HC135 := Aside0.mk H
           clear H
           go_upto_region 15 with (fail)
           go_cut [117] (fun v117 wc => ∃ (kq : Nat) (x117_134 : Bool), v117 = .bool x117_134 ∧ Aside0 (ironbarklaw05_BitsParts.j3 kq a1 a2 x117_134 a0_0 a0_1 a0_2 a0_3 a3_0 a3_1 a3_2 a3_3 t134 t135 t136 t137 = some r) ∧ Aside0 (kq ≤ kj95) ∧ Aside0 (wc.heap[gb101]? = some (.cells #[.int .i64 a0_0, .int .i64 a0_1, .int .i64 a0_2, .string a0_3] 23 (0, 0))) ∧ Aside0 (wc.heap[gb102]? = some (.cells #[.int .i64 a3_0, .int .i64 a3_1, .int .i64 a3_2, .string a3_3] 23 (0, 0))) ∧ Aside0 (wc.heap[gb114]? = some (.cells #[.int .i64 t134, .int .i64 t135, .int .i64 t136, .string t137] 23 (0, 0))) ∧ Aside0 (wc.heap[gb121]? = some (.cells #[.int .i64 t140, .int .i64 t141, .int .i64 t142, .string t143] 23 (0, 0))) ∧ Aside0 (Below w.heap.size w wc))
           case first =>
            have H := HC135.out
            clear HC135
            by_cases c136 : t139 = 0
            ·rw [if_pos c136] at H
             have c136b0 : (t139 == 0) = true := beq_iff_eq.mpr c136
             have c136b1 : (t139 != 0) = false := bne_eq_false_iff_eq.mpr c136
             clear c136
             (first | rw [c136b0] | (simp only [i64_w, i32_w]; rw [c136b0]) | skip)
             have H' := Aside0.mk H
             clear H
             go_wp2
             go_meet
             case rel => exact ⟨_, ((t138 != 0)), (by first | rfl | (simp; done) | (generalize ByteArray.toList _ = l_; cases l_ <;> rfl) | (simp [*]; done)), H', ⟨by have := HJ8.out; have := HJ56.out; have := HJ95.out; first | omega | exact Nat.le_refl _⟩, ⟨by (with_reducible repeat (first | refine blk_drewN ?_ _ | refine blk_drew ?_ | refine blk_alloc ?_ _)); exact BK101.out⟩, ⟨by (with_reducible repeat (first | refine blk_drewN ?_ _ | refine blk_drew ?_ | refine blk_alloc ?_ _)); exact BK102.out⟩, ⟨by (with_reducible repeat (first | refine blk_drewN ?_ _ | refine blk_drew ?_ | refine blk_alloc ?_ _)); exact BK114.out⟩, ⟨by (with_reducible repeat (first | refine blk_drewN ?_ _ | refine blk_drew ?_ | refine blk_alloc ?_ _)); exact BK121.out⟩, ⟨by repeat (first | (with_reducible first | exact HB.out | apply below_alloc | apply pw_below_drewN | apply below_drew1 | refine below_set ?_ GE101.out | refine below_set ?_ GE102.out | refine below_set ?_ GE114.out | refine below_set ?_ GE121.out) | exact HB.out)⟩⟩
            ·rw [if_neg c136] at H
             have c136b0 : (t139 == 0) = false := beq_eq_false_iff_ne.mpr c136
             have c136b1 : (t139 != 0) = true := bne_iff_ne.mpr c136
             (first | rw [c136b0] | (simp only [i64_w, i32_w]; rw [c136b0]) | skip)
             have H' := Aside0.mk H
             clear H
             go_wp2
             go_meet
             case rel => exact ⟨_, (true), (by first | rfl | (simp; done) | (generalize ByteArray.toList _ = l_; cases l_ <;> rfl) | (simp [*]; done)), H', ⟨by have := HJ8.out; have := HJ56.out; have := HJ95.out; first | omega | exact Nat.le_refl _⟩, ⟨by (with_reducible repeat (first | refine blk_drewN ?_ _ | refine blk_drew ?_ | refine blk_alloc ?_ _)); exact BK101.out⟩, ⟨by (with_reducible repeat (first | refine blk_drewN ?_ _ | refine blk_drew ?_ | refine blk_alloc ?_ _)); exact BK102.out⟩, ⟨by (with_reducible repeat (first | refine blk_drewN ?_ _ | refine blk_drew ?_ | refine blk_alloc ?_ _)); exact BK114.out⟩, ⟨by (with_reducible repeat (first | refine blk_drewN ?_ _ | refine blk_drew ?_ | refine blk_alloc ?_ _)); exact BK121.out⟩, ⟨by repeat (first | (with_reducible first | exact HB.out | apply below_alloc | apply pw_below_drewN | apply below_drew1 | refine below_set ?_ GE101.out | refine below_set ?_ GE102.out | refine below_set ?_ GE114.out | refine below_set ?_ GE121.out) | exact HB.out)⟩⟩
           case rest =>
            clear HC135
            try clear c1
            try clear c2
            try clear p2
            try clear c3
            try clear c4
            try clear c5
            try clear c6
            try clear c7
            try clear c8
            try clear c9
            try clear c10
            try clear c11
            try clear c12
            try clear c13
            try clear c14
            try clear c21
            try clear c22
            try clear c27
            try clear c28
            try clear c29
            try clear c31
            try clear c31b0
            try clear c32
            try clear c33
            try clear c34
            try clear c35
            try clear c36
            try clear c37
            try clear c38
            try clear c39
            try clear c39b0
            try clear c39b1
            try clear c40
            try clear c41
            try clear c42
            try clear c44
            try clear c45
            try clear c47
            try clear c48
            try clear c49
            try clear c51
            try clear c52
            try clear c54
            try clear c58
            try clear c59
            try clear c60
            try clear c63
            try clear c64
            try clear c68
            try clear c70
            try clear c70b0
            try clear c71
            try clear c72
            try clear c73
            try clear c75
            try clear c76
            try clear c78
            try clear c78b0
            try clear c78b1
            try clear c79
            try clear c80
            try clear c81
            try clear c83
            try clear c84
            try clear c86
            try clear c87
            try clear c88
            try clear c90
            try clear c91
            try clear c93
            try clear c97
            try clear c98
            try clear c99
            try clear c101
            try clear c102
            try clear c105
            try clear c111
            try clear c111b0
            try clear c112
            try clear c113
            try clear c114
            try clear c116
            try clear c117
            try clear c119
            try clear c119b0
            try clear c119b1
            try clear c120
            try clear c121
            try clear c122
            try clear c124
            try clear c125
            try clear c127
            try clear c128
            try clear c129
            try clear c131
            try clear c132
            try clear c134
            try clear c136
            try clear c136b0
            try clear c136b1
            try clear hcz100_0
            try clear hcz100_1
            try clear hcz100_2
            try clear hcz100_3
            try clear hcz103_0
            try clear hcz103_1
            try clear hcz103_2
            try clear hcz103_3
            try clear hcz106_0
            try clear hcz106_1
            try clear hcz106_2
            try clear hcz106_3
            try clear hcz107_0
            try clear hcz107_1
            try clear hcz107_2
            try clear hcz107_3
            try clear hcz108_0
            try clear hcz108_1
            try clear hcz108_2
            try clear hcz108_3
            try clear hcz110_0
            try clear hcz110_1
            try clear hcz110_2
            try clear hcz110_3
            try clear hcz115_0
            try clear hcz115_1
            try clear hcz115_2
            try clear hcz115_3
            try clear hcz118_0
            try clear hcz118_1
            try clear hcz118_2
            try clear hcz118_3
            try clear hcz123_0
            try clear hcz123_1
            try clear hcz123_2
            try clear hcz123_3
            try clear hcz126_0
            try clear hcz126_1
            try clear hcz126_2
            try clear hcz126_3
            try clear hcz130_0
            try clear hcz130_1
            try clear hcz130_2
            try clear hcz130_3
            try clear hcz133_0
            try clear hcz133_1
            try clear hcz133_2
            try clear hcz133_3
            try clear hcz13_0
            try clear hcz13_1
            try clear hcz13_2
            try clear hcz13_3
            try clear hcz14_0
            try clear hcz14_1
            try clear hcz14_2
            try clear hcz14_3
            try clear hcz18_0
            try clear hcz18_1
            try clear hcz18_2
            try clear hcz18_3
            try clear hcz23_0
            try clear hcz23_1
            try clear hcz23_2
            try clear hcz23_3
            try clear hcz24_0
            try clear hcz24_1
            try clear hcz24_2
            try clear hcz24_3
            try clear hcz30_0
            try clear hcz30_1
            try clear hcz30_2
            try clear hcz30_3
            try clear hcz35_0
            try clear hcz35_1
            try clear hcz35_2
            try clear hcz35_3
            try clear hcz38_0
            try clear hcz38_1
            try clear hcz38_2
            try clear hcz38_3
            try clear hcz43_0
            try clear hcz43_1
            try clear hcz43_2
            try clear hcz43_3
            try clear hcz46_0
            try clear hcz46_1
            try clear hcz46_2
            try clear hcz46_3
            try clear hcz50_0
            try clear hcz50_1
            try clear hcz50_2
            try clear hcz50_3
            try clear hcz53_0
            try clear hcz53_1
            try clear hcz53_2
            try clear hcz53_3
            try clear hcz61_0
            try clear hcz61_1
            try clear hcz61_2
            try clear hcz61_3
            try clear hcz65_0
            try clear hcz65_1
            try clear hcz65_2
            try clear hcz65_3
            try clear hcz66_0
            try clear hcz66_1
            try clear hcz66_2
            try clear hcz66_3
            try clear hcz69_0
            try clear hcz69_1
            try clear hcz69_2
            try clear hcz69_3
            try clear hcz74_0
            try clear hcz74_1
            try clear hcz74_2
            try clear hcz74_3
            try clear hcz77_0
            try clear hcz77_1
            try clear hcz77_2
            try clear hcz77_3
            try clear hcz82_0
            try clear hcz82_1
            try clear hcz82_2
            try clear hcz82_3
            try clear hcz85_0
            try clear hcz85_1
            try clear hcz85_2
            try clear hcz85_3
            try clear hcz89_0
            try clear hcz89_1
            try clear hcz89_2
            try clear hcz89_3
            try clear hcz92_0
            try clear hcz92_1
            try clear hcz92_2
            try clear hcz92_3
            try clear hfz100_0
            try clear hfz100_1
            try clear hfz100_2
            try clear hfz100_3
            try clear hfz103_0
            try clear hfz103_1
            try clear hfz103_2
            try clear hfz103_3
            try clear hfz106_0
            try clear hfz106_1
            try clear hfz106_2
            try clear hfz106_3
            try clear hfz107_0
            try clear hfz107_1
            try clear hfz107_2
            try clear hfz107_3
            try clear hfz108_0
            try clear hfz108_1
            try clear hfz108_2
            try clear hfz108_3
            try clear hfz110_0
            try clear hfz110_1
            try clear hfz110_2
            try clear hfz110_3
            try clear hfz115_0
            try clear hfz115_1
            try clear hfz115_2
            try clear hfz115_3
            try clear hfz118_0
            try clear hfz118_1
            try clear hfz118_2
            try clear hfz118_3
            try clear hfz123_0
            try clear hfz123_1
            try clear hfz123_2
            try clear hfz123_3
            try clear hfz126_0
            try clear hfz126_1
            try clear hfz126_2
            try clear hfz126_3
            try clear hfz130_0
            try clear hfz130_1
            try clear hfz130_2
            try clear hfz130_3
            try clear hfz133_0
            try clear hfz133_1
            try clear hfz133_2
            try clear hfz133_3
            try clear hfz13_0
            try clear hfz13_1
            try clear hfz13_2
            try clear hfz13_3
            try clear hfz14_0
            try clear hfz14_1
            try clear hfz14_2
            try clear hfz14_3
            try clear hfz18_0
            try clear hfz18_1
            try clear hfz18_2
            try clear hfz18_3
            try clear hfz23_0
            try clear hfz23_1
            try clear hfz23_2
            try clear hfz23_3
            try clear hfz24_0
            try clear hfz24_1
            try clear hfz24_2
            try clear hfz24_3
            try clear hfz30_0
            try clear hfz30_1
            try clear hfz30_2
            try clear hfz30_3
            try clear hfz35_0
            try clear hfz35_1
            try clear hfz35_2
            try clear hfz35_3
            try clear hfz38_0
            try clear hfz38_1
            try clear hfz38_2
            try clear hfz38_3
            try clear hfz43_0
            try clear hfz43_1
            try clear hfz43_2
            try clear hfz43_3
            try clear hfz46_0
            try clear hfz46_1
            try clear hfz46_2
            try clear hfz46_3
            try clear hfz50_0
            try clear hfz50_1
            try clear hfz50_2
            try clear hfz50_3
            try clear hfz53_0
            try clear hfz53_1
            try clear hfz53_2
            try clear hfz53_3
            try clear hfz61_0
            try clear hfz61_1
            try clear hfz61_2
            try clear hfz61_3
            try clear hfz65_0
            try clear hfz65_1
            try clear hfz65_2
            try clear hfz65_3
            try clear hfz66_0
            try clear hfz66_1
            try clear hfz66_2
            try clear hfz66_3
            try clear hfz69_0
            try clear hfz69_1
            try clear hfz69_2
            try clear hfz69_3
            try clear hfz74_0
            try clear hfz74_1
            try clear hfz74_2
            try clear hfz74_3
            try clear hfz77_0
            try clear hfz77_1
            try clear hfz77_2
            try clear hfz77_3
            try clear hfz82_0
            try clear hfz82_1
            try clear hfz82_2
            try clear hfz82_3
            try clear hfz85_0
            try clear hfz85_1
            try clear hfz85_2
            try clear hfz85_3
            try clear hfz89_0
            try clear hfz89_1
            try clear hfz89_2
            try clear hfz89_3
            try clear hfz92_0
            try clear hfz92_1
            try clear hfz92_2
            try clear hfz92_3
            try clear p2
            obtain ⟨kq, x117_134, rfl, HA, HJ134, BK101, BK102, BK114, BK121, HB⟩ := hcut
            cases kq with
            | zero => exact absurd HA.out (by simp [ironbarklaw05_BitsParts.j3])
            | succ kj134 =>
             have H := HA.out
             clear HA
             simp only [ironbarklaw05_BitsParts.j3] at H
             by_cases c137 : x117_134 = true
             ·subst c137
              have H1 : ((ironbarklaw05_awake.f).bind fun t146 => (some t146)) = some r := by rw [if_pos rfl] at H; exact H
              clear H
              have H := H1
              clear H1
              replace H := Option.bind_eq_some_iff.mp H
              obtain ⟨t146, A1380, H⟩ := H
              replace H : (some t146) = some r := H
              have A138 := Aside0.mk A1380
              clear A1380
              obtain rfl := Option.some.inj H
              go_wp2_with (first | ((with_reducible refine gate_callee (f := 9) rfl ?_); refine goesL_ (some 118) rfl rfl Try.func9 (by kernel_rfl) rfl #[] rfl (by (try simp only [List.map_toArray, List.map_cons, List.map_nil]); first | done | rfl | (simp only [List.length_drop, List.length_take]; rfl)) ?_; (with_reducible refine (ironbarklaw05_awake.calls  t146 _ A138.out).mono ?_); rintro e w139 ⟨rfl, hb⟩; refine ⟨_, rfl, ?_⟩; have n0_ := Aside0.mk (blk_below (g := gb101) (o := .cells #[.int .i64 a0_0, .int .i64 a0_1, .int .i64 a0_2, .string a0_3] 23 (0, 0)) (by (with_reducible repeat (first | refine blk_drewN ?_ _ | refine blk_drew ?_ | refine blk_alloc ?_ _)); exact BK101.out) hb); have n1_ := Aside0.mk (blk_below (g := gb102) (o := .cells #[.int .i64 a3_0, .int .i64 a3_1, .int .i64 a3_2, .string a3_3] 23 (0, 0)) (by (with_reducible repeat (first | refine blk_drewN ?_ _ | refine blk_drew ?_ | refine blk_alloc ?_ _)); exact BK102.out) hb); have n2_ := Aside0.mk (blk_below (g := gb114) (o := .cells #[.int .i64 t134, .int .i64 t135, .int .i64 t136, .string t137] 23 (0, 0)) (by (with_reducible repeat (first | refine blk_drewN ?_ _ | refine blk_drew ?_ | refine blk_alloc ?_ _)); exact BK114.out) hb); have n3_ := Aside0.mk (blk_below (g := gb121) (o := .cells #[.int .i64 t140, .int .i64 t141, .int .i64 t142, .string t143] 23 (0, 0)) (by (with_reducible repeat (first | refine blk_drewN ?_ _ | refine blk_drew ?_ | refine blk_alloc ?_ _)); exact BK121.out) hb); have n4_ := Aside0.mk (below_step (by repeat (first | (with_reducible first | exact HB.out | apply below_alloc | apply pw_below_drewN | apply below_drew1 | refine below_set ?_ GE101.out | refine below_set ?_ GE102.out | refine below_set ?_ GE114.out | refine below_set ?_ GE121.out) | exact HB.out)) hb); clear BK101; clear BK102; clear BK114; clear BK121; clear HB; have BK101 := n0_; have BK102 := n1_; have BK114 := n2_; have BK121 := n3_; have HB := n4_; clear n0_ n1_ n2_ n3_ n4_; (try clear hb); (try clear hb2); (try clear hk); (try clear hi)))
              go_ret
              exact ⟨by first | rfl | (simp [errW_none, errW_some] <;> rfl) | (simp [*, errW_none, errW_some] <;> rfl), by repeat (first | (with_reducible first | exact HB.out | apply below_alloc | apply pw_below_drewN | apply below_drew1 | refine below_set ?_ GE101.out | refine below_set ?_ GE102.out | refine below_set ?_ GE114.out | refine below_set ?_ GE121.out) | exact HB.out)⟩
             ·replace c137 := Bool.eq_false_iff.mpr c137
              subst c137
              have H1 : ((bits_Sub.f t134 t135 t136 t137 a1 a2).bind fun bt147 => ((bits_Fit.f a3_0 a3_1 a3_2 a3_3 a3_0 0 0 a2 false (⟨#[]⟩ : ByteArray)).bind fun bt154 => (if bt147.2.2.2.2.2 = 0 then (if bt154.2.2.2.2.2 = 0 then (if (bt147.1 == bt154.1 && (bt147.2.1 == bt154.2.1 && (bt147.2.2.1 == bt154.2.2.1 && (bt147.2.2.2.1.toList == bt154.2.2.2.1.toList)))) = true then (if 0 ≤ (wrap64 (a1 - 1)) then (if (wrap64 (a1 - 1)) ≤ (t137.size : Int) then (if (wrap64 (a1 - 1)) ≤ (a0_3.size : Int) then (if (t137.extract 0 ((wrap64 (a1 - 1)) : Int).toNat).toList = (a0_3.extract 0 ((wrap64 (a1 - 1)) : Int).toNat).toList then (if 0 ≤ (wrap64 ((wrap64 (a1 - 1)) + a2)) then (if (wrap64 ((wrap64 (a1 - 1)) + a2)) ≤ (t137.size : Int) then (if (wrap64 ((wrap64 (a1 - 1)) + a2)) ≤ (a0_3.size : Int) then (if (t137.extract ((wrap64 ((wrap64 (a1 - 1)) + a2)) : Int).toNat t137.size).toList = (a0_3.extract ((wrap64 ((wrap64 (a1 - 1)) + a2)) : Int).toNat a0_3.size).toList then ((ironbarklaw05_awake.f).bind fun t161 => (some t161)) else (some false)) else (none)) else (none)) else (none)) else (some false)) else (none)) else (none)) else (none)) else (some false)) else (some false)) else (some false)))) = some r := by rw [if_neg (show ¬ (false = true) by decide)] at H; exact H
              clear H
              have H := H1
              clear H1
              replace H := Option.bind_eq_some_iff.mp H
              obtain ⟨⟨t147, t148, t149, t150, t151, t152⟩, A1400, H⟩ := H
              replace H : ((bits_Fit.f a3_0 a3_1 a3_2 a3_3 a3_0 0 0 a2 false (⟨#[]⟩ : ByteArray)).bind fun bt154 => (if t152 = 0 then (if bt154.2.2.2.2.2 = 0 then (if (t147 == bt154.1 && (t148 == bt154.2.1 && (t149 == bt154.2.2.1 && (t150.toList == bt154.2.2.2.1.toList)))) = true then (if 0 ≤ (wrap64 (a1 - 1)) then (if (wrap64 (a1 - 1)) ≤ (t137.size : Int) then (if (wrap64 (a1 - 1)) ≤ (a0_3.size : Int) then (if (t137.extract 0 ((wrap64 (a1 - 1)) : Int).toNat).toList = (a0_3.extract 0 ((wrap64 (a1 - 1)) : Int).toNat).toList then (if 0 ≤ (wrap64 ((wrap64 (a1 - 1)) + a2)) then (if (wrap64 ((wrap64 (a1 - 1)) + a2)) ≤ (t137.size : Int) then (if (wrap64 ((wrap64 (a1 - 1)) + a2)) ≤ (a0_3.size : Int) then (if (t137.extract ((wrap64 ((wrap64 (a1 - 1)) + a2)) : Int).toNat t137.size).toList = (a0_3.extract ((wrap64 ((wrap64 (a1 - 1)) + a2)) : Int).toNat a0_3.size).toList then ((ironbarklaw05_awake.f).bind fun t161 => (some t161)) else (some false)) else (none)) else (none)) else (none)) else (some false)) else (none)) else (none)) else (none)) else (some false)) else (some false)) else (some false))) = some r := H
              have A140 := Aside0.mk A1400
              clear A1400
              replace H := Option.bind_eq_some_iff.mp H
              obtain ⟨⟨t154, t155, t156, t157, t158, t159⟩, A1410, H⟩ := H
              replace H : (if t152 = 0 then (if t159 = 0 then (if (t147 == t154 && (t148 == t155 && (t149 == t156 && (t150.toList == t157.toList)))) = true then (if 0 ≤ (wrap64 (a1 - 1)) then (if (wrap64 (a1 - 1)) ≤ (t137.size : Int) then (if (wrap64 (a1 - 1)) ≤ (a0_3.size : Int) then (if (t137.extract 0 ((wrap64 (a1 - 1)) : Int).toNat).toList = (a0_3.extract 0 ((wrap64 (a1 - 1)) : Int).toNat).toList then (if 0 ≤ (wrap64 ((wrap64 (a1 - 1)) + a2)) then (if (wrap64 ((wrap64 (a1 - 1)) + a2)) ≤ (t137.size : Int) then (if (wrap64 ((wrap64 (a1 - 1)) + a2)) ≤ (a0_3.size : Int) then (if (t137.extract ((wrap64 ((wrap64 (a1 - 1)) + a2)) : Int).toNat t137.size).toList = (a0_3.extract ((wrap64 ((wrap64 (a1 - 1)) + a2)) : Int).toNat a0_3.size).toList then ((ironbarklaw05_awake.f).bind fun t161 => (some t161)) else (some false)) else (none)) else (none)) else (none)) else (some false)) else (none)) else (none)) else (none)) else (some false)) else (some false)) else (some false)) = some r := H
              have A141 := Aside0.mk A1410
              clear A1410
              by_cases c142 : t152 = 0
              ·rw [if_pos c142] at H
               have c142b0 : (t152 == 0) = true := beq_iff_eq.mpr c142
               have c142b1 : (t152 != 0) = false := bne_eq_false_iff_eq.mpr c142
               clear c142
               by_cases c143 : t159 = 0
               ·rw [if_pos c143] at H
                have c143b0 : (t159 == 0) = true := beq_iff_eq.mpr c143
                have c143b1 : (t159 != 0) = false := bne_eq_false_iff_eq.mpr c143
                clear c143
                by_cases c144 : (t147 == t154 && (t148 == t155 && (t149 == t156 && (t150.toList == t157.toList)))) = true
                ·rw [if_pos c144] at H
                 have c144b0 : (t147 == t154 && (t148 == t155 && (t149 == t156 && (t150.toList == t157.toList)))) = true := c144
                 (try (have c144b1 : decide (t147 = t154 && (t148 == t155 && (t149 == t156 && (t150.toList == t157.toList)))) = true := by simpa using c144))
                 (try (have c144b2 : (t147 == t154 && (t148 == t155 && (t149 == t156 && (t150.toList == t157.toList)))) = true := by simpa using c144))
                 clear c144
                 obtain ⟨ji145, hji145⟩ : ∃ j_ : Int, (wrap64 (a1 - 1)) = j_ := ⟨_, rfl⟩
                 replace H : (if 0 ≤ (ji145) then (if (ji145) ≤ (t137.size : Int) then (if (ji145) ≤ (a0_3.size : Int) then (if (t137.extract 0 ((ji145) : Int).toNat).toList = (a0_3.extract 0 ((ji145) : Int).toNat).toList then (if 0 ≤ (wrap64 ((ji145) + a2)) then (if (wrap64 ((ji145) + a2)) ≤ (t137.size : Int) then (if (wrap64 ((ji145) + a2)) ≤ (a0_3.size : Int) then (if (t137.extract ((wrap64 ((ji145) + a2)) : Int).toNat t137.size).toList = (a0_3.extract ((wrap64 ((ji145) + a2)) : Int).toNat a0_3.size).toList then ((ironbarklaw05_awake.f).bind fun t161 => (some t161)) else (some false)) else (none)) else (none)) else (none)) else (some false)) else (none)) else (none)) else (none)) = some r := by first | (rw [hji145] at H; exact H) | (simp only [hji145] at H ⊢; exact H)
                 (try rw [hji145] at A140)
                 (try rw [hji145] at A141)
                 have hji145w : (IntKind.i64.wrap (a1 - 1)) = ji145 := (i64_w _).trans hji145
                 by_cases c146 : 0 ≤ (ji145)
                 ·rw [if_pos c146] at H
                  have c146b0 := eq_true c146
                  have c146b1 : decide (0 ≤ (ji145)) = true := decide_eq_true c146
                  clear c146
                  by_cases c147 : (ji145) ≤ (t137.size : Int)
                  ·rw [if_pos c147] at H
                   have c147b0 := eq_true c147
                   have c147b1 : decide ((ji145) ≤ (t137.size : Int)) = true := decide_eq_true c147
                   clear c147
                   have c148b0 := eq_true (of_decide_eq_true (by first | (with_reducible assumption) | assumption) : 0 ≤ (ji145))
                   by_cases c149 : (ji145) ≤ (a0_3.size : Int)
                   ·rw [if_pos c149] at H
                    have c149b0 := eq_true c149
                    have c149b1 : decide ((ji145) ≤ (a0_3.size : Int)) = true := decide_eq_true c149
                    clear c149
                    by_cases c150 : (t137.extract 0 ((ji145) : Int).toNat).toList = (a0_3.extract 0 ((ji145) : Int).toNat).toList
                    ·rw [if_pos c150] at H
                     have c150b0 : ((t137.extract 0 ((ji145) : Int).toNat).toList == (a0_3.extract 0 ((ji145) : Int).toNat).toList) = true := beq_iff_eq.mpr c150
                     have c150b1 : ((t137.extract 0 ((ji145) : Int).toNat).toList != (a0_3.extract 0 ((ji145) : Int).toNat).toList) = false := bne_eq_false_iff_eq.mpr c150
                     clear c150
                     obtain ⟨ji151, hji151⟩ : ∃ j_ : Int, (wrap64 ((ji145) + a2)) = j_ := ⟨_, rfl⟩
                     replace H : (if 0 ≤ (ji151) then (if (ji151) ≤ (t137.size : Int) then (if (ji151) ≤ (a0_3.size : Int) then (if (t137.extract ((ji151) : Int).toNat t137.size).toList = (a0_3.extract ((ji151) : Int).toNat a0_3.size).toList then ((ironbarklaw05_awake.f).bind fun t161 => (some t161)) else (some false)) else (none)) else (none)) else (none)) = some r := by first | (rw [hji151] at H; exact H) | (simp only [hji151] at H ⊢; exact H)
                     (try rw [hji151] at A140)
                     (try rw [hji151] at A141)
                     have hji151w : (IntKind.i64.wrap ((ji145) + a2)) = ji151 := (i64_w _).trans hji151
                     by_cases c152 : 0 ≤ (ji151)
                     ·rw [if_pos c152] at H
                      have c152b0 := eq_true c152
                      have c152b1 : decide (0 ≤ (ji151)) = true := decide_eq_true c152
                      clear c152
                      by_cases c153 : (ji151) ≤ (t137.size : Int)
                      ·rw [if_pos c153] at H
                       have c153b0 := eq_true c153
                       have c153b1 : decide ((ji151) ≤ (t137.size : Int)) = true := decide_eq_true c153
                       clear c153
                       have c154b0 := eq_true (of_decide_eq_true (by first | (with_reducible assumption) | assumption) : 0 ≤ (ji151))
                       by_cases c155 : (ji151) ≤ (a0_3.size : Int)
                       ·rw [if_pos c155] at H
                        have c155b0 := eq_true c155
                        have c155b1 : decide ((ji151) ≤ (a0_3.size : Int)) = true := decide_eq_true c155
                        clear c155
                        by_cases c156 : (t137.extract ((ji151) : Int).toNat t137.size).toList = (a0_3.extract ((ji151) : Int).toNat a0_3.size).toList
                        ·rw [if_pos c156] at H
                         have c156b0 : ((t137.extract ((ji151) : Int).toNat t137.size).toList == (a0_3.extract ((ji151) : Int).toNat a0_3.size).toList) = true := beq_iff_eq.mpr c156
                         have c156b1 : ((t137.extract ((ji151) : Int).toNat t137.size).toList != (a0_3.extract ((ji151) : Int).toNat a0_3.size).toList) = false := bne_eq_false_iff_eq.mpr c156
                         clear c156
                         replace H := Option.bind_eq_some_iff.mp H
                         obtain ⟨t161, A1570, H⟩ := H
                         replace H : (some t161) = some r := H
                         have A157 := Aside0.mk A1570
                         clear A1570
                         obtain rfl := Option.some.inj H
                         have hnb158 := NB114_101.out
                         have hnc158 := NB101_114.out
                         have hnb159 := NB114_102.out
                         have hnc159 := NB102_114.out
                         have hnb160 := NB114_121.out
                         have hnc160 := NB121_114.out
                         have hcz161_0 : wc.cell? ⟨gb114, 0, none⟩ = some (.int .i64 t134) := (blk_cell BK114.out 0).trans rfl
                         have hcz161_1 : wc.cell? ⟨gb114, 1, none⟩ = some (.int .i64 t135) := (blk_cell BK114.out 1).trans rfl
                         have hcz161_2 : wc.cell? ⟨gb114, 2, none⟩ = some (.int .i64 t136) := (blk_cell BK114.out 2).trans rfl
                         have hcz161_3 : wc.cell? ⟨gb114, 3, none⟩ = some (.string t137) := (blk_cell BK114.out 3).trans rfl
                         have hfz161_0 := blk_frozen BK114.out 0
                         have hfz161_1 := blk_frozen BK114.out 1
                         have hfz161_2 := blk_frozen BK114.out 2
                         have hfz161_3 := blk_frozen BK114.out 3
                         try go_wp2_with (first | ((with_reducible refine gate_callee (f := 14) rfl ?_); refine goesL_ (some 123) rfl rfl Try.func14 (by kernel_rfl) rfl #[.agg #[.int .i64 t134, .int .i64 t135, .int .i64 t136, .string t137], .int .i64 a1, .int .i64 a2] rfl (by (try simp only [List.map_toArray, List.map_cons, List.map_nil]); first | done | rfl | (simp only [List.length_drop, List.length_take]; rfl)) ?_; (with_reducible refine (bits_Sub.calls t134 t135 t136 t137 a1 a2 t147 t148 t149 t150 t151 t152 _ A140.out).mono ?_); rintro e w162 ⟨rfl, hb⟩; refine ⟨_, rfl, ?_⟩; have n0_ := Aside0.mk (blk_below (g := gb101) (o := .cells #[.int .i64 a0_0, .int .i64 a0_1, .int .i64 a0_2, .string a0_3] 23 (0, 0)) (by (with_reducible repeat (first | refine blk_drewN ?_ _ | refine blk_drew ?_ | refine blk_alloc ?_ _)); exact BK101.out) hb); have n1_ := Aside0.mk (blk_below (g := gb102) (o := .cells #[.int .i64 a3_0, .int .i64 a3_1, .int .i64 a3_2, .string a3_3] 23 (0, 0)) (by (with_reducible repeat (first | refine blk_drewN ?_ _ | refine blk_drew ?_ | refine blk_alloc ?_ _)); exact BK102.out) hb); have n2_ := Aside0.mk (blk_below (g := gb114) (o := .cells #[.int .i64 t134, .int .i64 t135, .int .i64 t136, .string t137] 23 (0, 0)) (by (with_reducible repeat (first | refine blk_drewN ?_ _ | refine blk_drew ?_ | refine blk_alloc ?_ _)); exact BK114.out) hb); have n3_ := Aside0.mk (blk_below (g := gb121) (o := .cells #[.int .i64 t140, .int .i64 t141, .int .i64 t142, .string t143] 23 (0, 0)) (by (with_reducible repeat (first | refine blk_drewN ?_ _ | refine blk_drew ?_ | refine blk_alloc ?_ _)); exact BK121.out) hb); have n4_ := Aside0.mk (below_step (by repeat (first | (with_reducible first | exact HB.out | apply below_alloc | apply pw_below_drewN | apply below_drew1 | refine below_set ?_ GE101.out | refine below_set ?_ GE102.out | refine below_set ?_ GE114.out | refine below_set ?_ GE121.out) | exact HB.out)) hb); clear BK101; clear BK102; clear BK114; clear BK121; clear HB; have BK101 := n0_; have BK102 := n1_; have BK114 := n2_; have BK121 := n3_; have HB := n4_; clear n0_ n1_ n2_ n3_ n4_; (try clear hb); (try clear hb2); (try clear hk); (try clear hi)) | ((with_reducible refine gate_dst (N := 15) rfl ?_); refine box_event ?hg (N := 15) ?hd (cs := #[.int .i64 0, .int .i64 0, .int .i64 0, .string (⟨#[]⟩ : ByteArray)]) (t := 23) ?hr ?_; (case hd => rfl); (case hg => rfl); (case hr => first | (go_simp; done) | (go_simp; rfl)); intro gb153 hg w163 hbox hb; have n0_ := Aside0.mk (blk_below (g := gb101) (o := .cells #[.int .i64 a0_0, .int .i64 a0_1, .int .i64 a0_2, .string a0_3] 23 (0, 0)) (by (with_reducible repeat (first | refine blk_drewN ?_ _ | refine blk_drew ?_ | refine blk_alloc ?_ _)); exact BK101.out) hb); have n1_ := Aside0.mk (blk_below (g := gb102) (o := .cells #[.int .i64 a3_0, .int .i64 a3_1, .int .i64 a3_2, .string a3_3] 23 (0, 0)) (by (with_reducible repeat (first | refine blk_drewN ?_ _ | refine blk_drew ?_ | refine blk_alloc ?_ _)); exact BK102.out) hb); have n2_ := Aside0.mk (blk_below (g := gb114) (o := .cells #[.int .i64 t134, .int .i64 t135, .int .i64 t136, .string t137] 23 (0, 0)) (by (with_reducible repeat (first | refine blk_drewN ?_ _ | refine blk_drew ?_ | refine blk_alloc ?_ _)); exact BK114.out) hb); have n3_ := Aside0.mk (blk_below (g := gb121) (o := .cells #[.int .i64 t140, .int .i64 t141, .int .i64 t142, .string t143] 23 (0, 0)) (by (with_reducible repeat (first | refine blk_drewN ?_ _ | refine blk_drew ?_ | refine blk_alloc ?_ _)); exact BK121.out) hb); have n4_ := Aside0.mk (below_step (by repeat (first | (with_reducible first | exact HB.out | apply below_alloc | apply pw_below_drewN | apply below_drew1 | refine below_set ?_ GE101.out | refine below_set ?_ GE102.out | refine below_set ?_ GE114.out | refine below_set ?_ GE121.out) | exact HB.out)) hb); have n5_ := Aside0.mk (hbox); have n6_ := Aside0.mk ((by rw [hg]; exact (below_size (by repeat (first | (with_reducible first | exact HB.out | apply below_alloc | apply pw_below_drewN | apply below_drew1 | refine below_set ?_ GE101.out | refine below_set ?_ GE102.out | refine below_set ?_ GE114.out | refine below_set ?_ GE121.out) | exact HB.out))) : w.heap.size ≤ gb153)); have n7_ := n6_; have n8_ := Aside0.mk ((by rw [hg]; exact Nat.ne_of_lt (blk_lt (g := gb101) (o := .cells #[.int .i64 a0_0, .int .i64 a0_1, .int .i64 a0_2, .string a0_3] 23 (0, 0)) (by (with_reducible repeat (first | refine blk_drewN ?_ _ | refine blk_drew ?_ | refine blk_alloc ?_ _)); exact BK101.out)) : gb101 ≠ gb153)); have n9_ := Aside0.mk ((by rw [hg]; exact Nat.ne_of_gt (blk_lt (g := gb101) (o := .cells #[.int .i64 a0_0, .int .i64 a0_1, .int .i64 a0_2, .string a0_3] 23 (0, 0)) (by (with_reducible repeat (first | refine blk_drewN ?_ _ | refine blk_drew ?_ | refine blk_alloc ?_ _)); exact BK101.out)) : gb153 ≠ gb101)); have n10_ := Aside0.mk ((by rw [hg]; exact Nat.ne_of_lt (blk_lt (g := gb102) (o := .cells #[.int .i64 a3_0, .int .i64 a3_1, .int .i64 a3_2, .string a3_3] 23 (0, 0)) (by (with_reducible repeat (first | refine blk_drewN ?_ _ | refine blk_drew ?_ | refine blk_alloc ?_ _)); exact BK102.out)) : gb102 ≠ gb153)); have n11_ := Aside0.mk ((by rw [hg]; exact Nat.ne_of_gt (blk_lt (g := gb102) (o := .cells #[.int .i64 a3_0, .int .i64 a3_1, .int .i64 a3_2, .string a3_3] 23 (0, 0)) (by (with_reducible repeat (first | refine blk_drewN ?_ _ | refine blk_drew ?_ | refine blk_alloc ?_ _)); exact BK102.out)) : gb153 ≠ gb102)); have n12_ := Aside0.mk ((by rw [hg]; exact Nat.ne_of_lt (blk_lt (g := gb114) (o := .cells #[.int .i64 t134, .int .i64 t135, .int .i64 t136, .string t137] 23 (0, 0)) (by (with_reducible repeat (first | refine blk_drewN ?_ _ | refine blk_drew ?_ | refine blk_alloc ?_ _)); exact BK114.out)) : gb114 ≠ gb153)); have n13_ := Aside0.mk ((by rw [hg]; exact Nat.ne_of_gt (blk_lt (g := gb114) (o := .cells #[.int .i64 t134, .int .i64 t135, .int .i64 t136, .string t137] 23 (0, 0)) (by (with_reducible repeat (first | refine blk_drewN ?_ _ | refine blk_drew ?_ | refine blk_alloc ?_ _)); exact BK114.out)) : gb153 ≠ gb114)); have n14_ := Aside0.mk ((by rw [hg]; exact Nat.ne_of_lt (blk_lt (g := gb121) (o := .cells #[.int .i64 t140, .int .i64 t141, .int .i64 t142, .string t143] 23 (0, 0)) (by (with_reducible repeat (first | refine blk_drewN ?_ _ | refine blk_drew ?_ | refine blk_alloc ?_ _)); exact BK121.out)) : gb121 ≠ gb153)); have n15_ := Aside0.mk ((by rw [hg]; exact Nat.ne_of_gt (blk_lt (g := gb121) (o := .cells #[.int .i64 t140, .int .i64 t141, .int .i64 t142, .string t143] 23 (0, 0)) (by (with_reducible repeat (first | refine blk_drewN ?_ _ | refine blk_drew ?_ | refine blk_alloc ?_ _)); exact BK121.out)) : gb153 ≠ gb121)); clear BK101; clear BK102; clear BK114; clear BK121; clear HB; have BK101 := n0_; have BK102 := n1_; have BK114 := n2_; have BK121 := n3_; have HB := n4_; have BK153 := n5_; have GW153 := n6_; have GE153 := n7_; have NB101_153 := n8_; have NB153_101 := n9_; have NB102_153 := n10_; have NB153_102 := n11_; have NB114_153 := n12_; have NB153_114 := n13_; have NB121_153 := n14_; have NB153_121 := n15_; clear n0_ n1_ n2_ n3_ n4_ n5_ n6_ n7_ n8_ n9_ n10_ n11_ n12_ n13_ n14_ n15_; clear hb hbox hg; have hnb164 := NB153_101.out; have hnc164 := NB101_153.out; have hnb165 := NB153_102.out; have hnc165 := NB102_153.out; have hnb166 := NB153_114.out; have hnc166 := NB114_153.out; have hnb167 := NB153_121.out; have hnc167 := NB121_153.out; have hcz168_0 : w163.cell? ⟨gb153, 0, none⟩ = some (.int .i64 0) := (blk_cell BK153.out 0).trans rfl; have hcz168_1 : w163.cell? ⟨gb153, 1, none⟩ = some (.int .i64 0) := (blk_cell BK153.out 1).trans rfl; have hcz168_2 : w163.cell? ⟨gb153, 2, none⟩ = some (.int .i64 0) := (blk_cell BK153.out 2).trans rfl; have hcz168_3 : w163.cell? ⟨gb153, 3, none⟩ = some (.string (⟨#[]⟩ : ByteArray)) := (blk_cell BK153.out 3).trans rfl; have hfz168_0 := blk_frozen BK153.out 0; have hfz168_1 := blk_frozen BK153.out 1; have hfz168_2 := blk_frozen BK153.out 2; have hfz168_3 := blk_frozen BK153.out 3; have hnb169 := NB102_101.out; have hnc169 := NB101_102.out; have hnb170 := NB102_121.out; have hnc170 := NB121_102.out; have hcz171_0 : w163.cell? ⟨gb102, 0, none⟩ = some (.int .i64 a3_0) := (blk_cell BK102.out 0).trans rfl; have hcz171_1 : w163.cell? ⟨gb102, 1, none⟩ = some (.int .i64 a3_1) := (blk_cell BK102.out 1).trans rfl; have hcz171_2 : w163.cell? ⟨gb102, 2, none⟩ = some (.int .i64 a3_2) := (blk_cell BK102.out 2).trans rfl; have hcz171_3 : w163.cell? ⟨gb102, 3, none⟩ = some (.string a3_3) := (blk_cell BK102.out 3).trans rfl; have hfz171_0 := blk_frozen BK102.out 0; have hfz171_1 := blk_frozen BK102.out 1; have hfz171_2 := blk_frozen BK102.out 2; have hfz171_3 := blk_frozen BK102.out 3) | ((with_reducible refine gate_callee (f := 40) rfl ?_); refine goesL_ (some 133) rfl rfl Try.func40 (by kernel_rfl) rfl #[.agg #[.int .i64 a3_0, .int .i64 a3_1, .int .i64 a3_2, .string a3_3], .agg #[.int .i64 a3_0, .int .i64 0, .int .i64 0, .int .i64 a2, .bool false, .string (⟨#[]⟩ : ByteArray)]] rfl (by (try simp only [List.map_toArray, List.map_cons, List.map_nil]); first | done | rfl | (simp only [List.length_drop, List.length_take]; rfl)) ?_; (with_reducible refine (bits_Fit.calls a3_0 a3_1 a3_2 a3_3 a3_0 0 0 a2 false (⟨#[]⟩ : ByteArray) t154 t155 t156 t157 t158 t159 _ A141.out).mono ?_); rintro e w172 ⟨rfl, hb⟩; refine ⟨_, rfl, ?_⟩; have n0_ := Aside0.mk (blk_below (g := gb101) (o := .cells #[.int .i64 a0_0, .int .i64 a0_1, .int .i64 a0_2, .string a0_3] 23 (0, 0)) (by (with_reducible repeat (first | refine blk_drewN ?_ _ | refine blk_drew ?_ | refine blk_alloc ?_ _)); refine blk_far ?_ NB101_153.out _; (with_reducible repeat (first | refine blk_drewN ?_ _ | refine blk_drew ?_ | refine blk_alloc ?_ _)); refine blk_far ?_ NB101_153.out _; (with_reducible repeat (first | refine blk_drewN ?_ _ | refine blk_drew ?_ | refine blk_alloc ?_ _)); refine blk_far ?_ NB101_153.out _; (with_reducible repeat (first | refine blk_drewN ?_ _ | refine blk_drew ?_ | refine blk_alloc ?_ _)); refine blk_far ?_ NB101_153.out _; (with_reducible repeat (first | refine blk_drewN ?_ _ | refine blk_drew ?_ | refine blk_alloc ?_ _)); exact BK101.out) hb); have n1_ := Aside0.mk (blk_below (g := gb102) (o := .cells #[.int .i64 a3_0, .int .i64 a3_1, .int .i64 a3_2, .string a3_3] 23 (0, 0)) (by (with_reducible repeat (first | refine blk_drewN ?_ _ | refine blk_drew ?_ | refine blk_alloc ?_ _)); refine blk_far ?_ NB102_153.out _; (with_reducible repeat (first | refine blk_drewN ?_ _ | refine blk_drew ?_ | refine blk_alloc ?_ _)); refine blk_far ?_ NB102_153.out _; (with_reducible repeat (first | refine blk_drewN ?_ _ | refine blk_drew ?_ | refine blk_alloc ?_ _)); refine blk_far ?_ NB102_153.out _; (with_reducible repeat (first | refine blk_drewN ?_ _ | refine blk_drew ?_ | refine blk_alloc ?_ _)); refine blk_far ?_ NB102_153.out _; (with_reducible repeat (first | refine blk_drewN ?_ _ | refine blk_drew ?_ | refine blk_alloc ?_ _)); exact BK102.out) hb); have n2_ := Aside0.mk (blk_below (g := gb114) (o := .cells #[.int .i64 t134, .int .i64 t135, .int .i64 t136, .string t137] 23 (0, 0)) (by (with_reducible repeat (first | refine blk_drewN ?_ _ | refine blk_drew ?_ | refine blk_alloc ?_ _)); refine blk_far ?_ NB114_153.out _; (with_reducible repeat (first | refine blk_drewN ?_ _ | refine blk_drew ?_ | refine blk_alloc ?_ _)); refine blk_far ?_ NB114_153.out _; (with_reducible repeat (first | refine blk_drewN ?_ _ | refine blk_drew ?_ | refine blk_alloc ?_ _)); refine blk_far ?_ NB114_153.out _; (with_reducible repeat (first | refine blk_drewN ?_ _ | refine blk_drew ?_ | refine blk_alloc ?_ _)); refine blk_far ?_ NB114_153.out _; (with_reducible repeat (first | refine blk_drewN ?_ _ | refine blk_drew ?_ | refine blk_alloc ?_ _)); exact BK114.out) hb); have n3_ := Aside0.mk (blk_below (g := gb121) (o := .cells #[.int .i64 t140, .int .i64 t141, .int .i64 t142, .string t143] 23 (0, 0)) (by (with_reducible repeat (first | refine blk_drewN ?_ _ | refine blk_drew ?_ | refine blk_alloc ?_ _)); refine blk_far ?_ NB121_153.out _; (with_reducible repeat (first | refine blk_drewN ?_ _ | refine blk_drew ?_ | refine blk_alloc ?_ _)); refine blk_far ?_ NB121_153.out _; (with_reducible repeat (first | refine blk_drewN ?_ _ | refine blk_drew ?_ | refine blk_alloc ?_ _)); refine blk_far ?_ NB121_153.out _; (with_reducible repeat (first | refine blk_drewN ?_ _ | refine blk_drew ?_ | refine blk_alloc ?_ _)); refine blk_far ?_ NB121_153.out _; (with_reducible repeat (first | refine blk_drewN ?_ _ | refine blk_drew ?_ | refine blk_alloc ?_ _)); exact BK121.out) hb); have n4_ := Aside0.mk (blk_below (g := gb153) (o := .cells #[.int .i64 t147, .int .i64 t148, .int .i64 t149, .string t150] 23 (0, 0)) (by (with_reducible repeat (first | refine blk_drewN ?_ _ | refine blk_drew ?_ | refine blk_alloc ?_ _)); refine blk_put (cs := #[.int .i64 t147, .int .i64 t148, .int .i64 t149, .string (⟨#[]⟩ : ByteArray)]) ?_ 3 _ rfl; (with_reducible repeat (first | refine blk_drewN ?_ _ | refine blk_drew ?_ | refine blk_alloc ?_ _)); refine blk_put (cs := #[.int .i64 t147, .int .i64 t148, .int .i64 0, .string (⟨#[]⟩ : ByteArray)]) ?_ 2 _ rfl; (with_reducible repeat (first | refine blk_drewN ?_ _ | refine blk_drew ?_ | refine blk_alloc ?_ _)); refine blk_put (cs := #[.int .i64 t147, .int .i64 0, .int .i64 0, .string (⟨#[]⟩ : ByteArray)]) ?_ 1 _ rfl; (with_reducible repeat (first | refine blk_drewN ?_ _ | refine blk_drew ?_ | refine blk_alloc ?_ _)); refine blk_put (cs := #[.int .i64 0, .int .i64 0, .int .i64 0, .string (⟨#[]⟩ : ByteArray)]) ?_ 0 _ rfl; (with_reducible repeat (first | refine blk_drewN ?_ _ | refine blk_drew ?_ | refine blk_alloc ?_ _)); exact BK153.out) hb); have n5_ := Aside0.mk (below_step (by repeat (first | (with_reducible first | exact HB.out | apply below_alloc | apply pw_below_drewN | apply below_drew1 | refine below_set ?_ GE101.out | refine below_set ?_ GE102.out | refine below_set ?_ GE114.out | refine below_set ?_ GE121.out | refine below_set ?_ GE153.out) | exact HB.out)) hb); clear BK101; clear BK102; clear BK114; clear BK121; clear BK153; clear HB; have BK101 := n0_; have BK102 := n1_; have BK114 := n2_; have BK121 := n3_; have BK153 := n4_; have HB := n5_; clear n0_ n1_ n2_ n3_ n4_ n5_; (try clear hb); (try clear hb2); (try clear hk); (try clear hi)) | ((with_reducible refine gate_dst (N := 17) rfl ?_); refine box_event ?hg (N := 17) ?hd (cs := #[.int .i64 0, .int .i64 0, .int .i64 0, .string (⟨#[]⟩ : ByteArray)]) (t := 23) ?hr ?_; (case hd => rfl); (case hg => rfl); (case hr => first | (go_simp; done) | (go_simp; rfl)); intro gb160 hg w173 hbox hb; have n0_ := Aside0.mk (blk_below (g := gb101) (o := .cells #[.int .i64 a0_0, .int .i64 a0_1, .int .i64 a0_2, .string a0_3] 23 (0, 0)) (by (with_reducible repeat (first | refine blk_drewN ?_ _ | refine blk_drew ?_ | refine blk_alloc ?_ _)); exact BK101.out) hb); have n1_ := Aside0.mk (blk_below (g := gb102) (o := .cells #[.int .i64 a3_0, .int .i64 a3_1, .int .i64 a3_2, .string a3_3] 23 (0, 0)) (by (with_reducible repeat (first | refine blk_drewN ?_ _ | refine blk_drew ?_ | refine blk_alloc ?_ _)); exact BK102.out) hb); have n2_ := Aside0.mk (blk_below (g := gb114) (o := .cells #[.int .i64 t134, .int .i64 t135, .int .i64 t136, .string t137] 23 (0, 0)) (by (with_reducible repeat (first | refine blk_drewN ?_ _ | refine blk_drew ?_ | refine blk_alloc ?_ _)); exact BK114.out) hb); have n3_ := Aside0.mk (blk_below (g := gb121) (o := .cells #[.int .i64 t140, .int .i64 t141, .int .i64 t142, .string t143] 23 (0, 0)) (by (with_reducible repeat (first | refine blk_drewN ?_ _ | refine blk_drew ?_ | refine blk_alloc ?_ _)); exact BK121.out) hb); have n4_ := Aside0.mk (blk_below (g := gb153) (o := .cells #[.int .i64 t147, .int .i64 t148, .int .i64 t149, .string t150] 23 (0, 0)) (by (with_reducible repeat (first | refine blk_drewN ?_ _ | refine blk_drew ?_ | refine blk_alloc ?_ _)); exact BK153.out) hb); have n5_ := Aside0.mk (below_step (by repeat (first | (with_reducible first | exact HB.out | apply below_alloc | apply pw_below_drewN | apply below_drew1 | refine below_set ?_ GE101.out | refine below_set ?_ GE102.out | refine below_set ?_ GE114.out | refine below_set ?_ GE121.out | refine below_set ?_ GE153.out) | exact HB.out)) hb); have n6_ := Aside0.mk (hbox); have n7_ := Aside0.mk ((by rw [hg]; exact (below_size (by repeat (first | (with_reducible first | exact HB.out | apply below_alloc | apply pw_below_drewN | apply below_drew1 | refine below_set ?_ GE101.out | refine below_set ?_ GE102.out | refine below_set ?_ GE114.out | refine below_set ?_ GE121.out | refine below_set ?_ GE153.out) | exact HB.out))) : w.heap.size ≤ gb160)); have n8_ := n7_; have n9_ := Aside0.mk ((by rw [hg]; exact Nat.ne_of_lt (blk_lt (g := gb101) (o := .cells #[.int .i64 a0_0, .int .i64 a0_1, .int .i64 a0_2, .string a0_3] 23 (0, 0)) (by (with_reducible repeat (first | refine blk_drewN ?_ _ | refine blk_drew ?_ | refine blk_alloc ?_ _)); exact BK101.out)) : gb101 ≠ gb160)); have n10_ := Aside0.mk ((by rw [hg]; exact Nat.ne_of_gt (blk_lt (g := gb101) (o := .cells #[.int .i64 a0_0, .int .i64 a0_1, .int .i64 a0_2, .string a0_3] 23 (0, 0)) (by (with_reducible repeat (first | refine blk_drewN ?_ _ | refine blk_drew ?_ | refine blk_alloc ?_ _)); exact BK101.out)) : gb160 ≠ gb101)); have n11_ := Aside0.mk ((by rw [hg]; exact Nat.ne_of_lt (blk_lt (g := gb102) (o := .cells #[.int .i64 a3_0, .int .i64 a3_1, .int .i64 a3_2, .string a3_3] 23 (0, 0)) (by (with_reducible repeat (first | refine blk_drewN ?_ _ | refine blk_drew ?_ | refine blk_alloc ?_ _)); exact BK102.out)) : gb102 ≠ gb160)); have n12_ := Aside0.mk ((by rw [hg]; exact Nat.ne_of_gt (blk_lt (g := gb102) (o := .cells #[.int .i64 a3_0, .int .i64 a3_1, .int .i64 a3_2, .string a3_3] 23 (0, 0)) (by (with_reducible repeat (first | refine blk_drewN ?_ _ | refine blk_drew ?_ | refine blk_alloc ?_ _)); exact BK102.out)) : gb160 ≠ gb102)); have n13_ := Aside0.mk ((by rw [hg]; exact Nat.ne_of_lt (blk_lt (g := gb114) (o := .cells #[.int .i64 t134, .int .i64 t135, .int .i64 t136, .string t137] 23 (0, 0)) (by (with_reducible repeat (first | refine blk_drewN ?_ _ | refine blk_drew ?_ | refine blk_alloc ?_ _)); exact BK114.out)) : gb114 ≠ gb160)); have n14_ := Aside0.mk ((by rw [hg]; exact Nat.ne_of_gt (blk_lt (g := gb114) (o := .cells #[.int .i64 t134, .int .i64 t135, .int .i64 t136, .string t137] 23 (0, 0)) (by (with_reducible repeat (first | refine blk_drewN ?_ _ | refine blk_drew ?_ | refine blk_alloc ?_ _)); exact BK114.out)) : gb160 ≠ gb114)); have n15_ := Aside0.mk ((by rw [hg]; exact Nat.ne_of_lt (blk_lt (g := gb121) (o := .cells #[.int .i64 t140, .int .i64 t141, .int .i64 t142, .string t143] 23 (0, 0)) (by (with_reducible repeat (first | refine blk_drewN ?_ _ | refine blk_drew ?_ | refine blk_alloc ?_ _)); exact BK121.out)) : gb121 ≠ gb160)); have n16_ := Aside0.mk ((by rw [hg]; exact Nat.ne_of_gt (blk_lt (g := gb121) (o := .cells #[.int .i64 t140, .int .i64 t141, .int .i64 t142, .string t143] 23 (0, 0)) (by (with_reducible repeat (first | refine blk_drewN ?_ _ | refine blk_drew ?_ | refine blk_alloc ?_ _)); exact BK121.out)) : gb160 ≠ gb121)); have n17_ := Aside0.mk ((by rw [hg]; exact Nat.ne_of_lt (blk_lt (g := gb153) (o := .cells #[.int .i64 t147, .int .i64 t148, .int .i64 t149, .string t150] 23 (0, 0)) (by (with_reducible repeat (first | refine blk_drewN ?_ _ | refine blk_drew ?_ | refine blk_alloc ?_ _)); exact BK153.out)) : gb153 ≠ gb160)); have n18_ := Aside0.mk ((by rw [hg]; exact Nat.ne_of_gt (blk_lt (g := gb153) (o := .cells #[.int .i64 t147, .int .i64 t148, .int .i64 t149, .string t150] 23 (0, 0)) (by (with_reducible repeat (first | refine blk_drewN ?_ _ | refine blk_drew ?_ | refine blk_alloc ?_ _)); exact BK153.out)) : gb160 ≠ gb153)); clear BK101; clear BK102; clear BK114; clear BK121; clear BK153; clear HB; have BK101 := n0_; have BK102 := n1_; have BK114 := n2_; have BK121 := n3_; have BK153 := n4_; have HB := n5_; have BK160 := n6_; have GW160 := n7_; have GE160 := n8_; have NB101_160 := n9_; have NB160_101 := n10_; have NB102_160 := n11_; have NB160_102 := n12_; have NB114_160 := n13_; have NB160_114 := n14_; have NB121_160 := n15_; have NB160_121 := n16_; have NB153_160 := n17_; have NB160_153 := n18_; clear n0_ n1_ n2_ n3_ n4_ n5_ n6_ n7_ n8_ n9_ n10_ n11_ n12_ n13_ n14_ n15_ n16_ n17_ n18_; clear hb hbox hg; have hnb174 := NB160_101.out; have hnc174 := NB101_160.out; have hnb175 := NB160_102.out; have hnc175 := NB102_160.out; have hnb176 := NB160_114.out; have hnc176 := NB114_160.out; have hnb177 := NB160_121.out; have hnc177 := NB121_160.out; have hnb178 := NB160_153.out; have hnc178 := NB153_160.out; have hcz179_0 : w173.cell? ⟨gb160, 0, none⟩ = some (.int .i64 0) := (blk_cell BK160.out 0).trans rfl; have hcz179_1 : w173.cell? ⟨gb160, 1, none⟩ = some (.int .i64 0) := (blk_cell BK160.out 1).trans rfl; have hcz179_2 : w173.cell? ⟨gb160, 2, none⟩ = some (.int .i64 0) := (blk_cell BK160.out 2).trans rfl; have hcz179_3 : w173.cell? ⟨gb160, 3, none⟩ = some (.string (⟨#[]⟩ : ByteArray)) := (blk_cell BK160.out 3).trans rfl; have hfz179_0 := blk_frozen BK160.out 0; have hfz179_1 := blk_frozen BK160.out 1; have hfz179_2 := blk_frozen BK160.out 2; have hfz179_3 := blk_frozen BK160.out 3))
                         have n0_ : Aside0 (((((w173.setCell ⟨gb160, 0, none⟩ (.int .i64 t154)).setCell ⟨gb160, 1, none⟩ (.int .i64 t155)).setCell ⟨gb160, 2, none⟩ (.int .i64 t156)).setCell ⟨gb160, 3, none⟩ (.string t157)).heap[gb101]? = some (.cells #[.int .i64 a0_0, .int .i64 a0_1, .int .i64 a0_2, .string a0_3] 23 (0, 0))) := ⟨by (with_reducible repeat (first | refine blk_drewN ?_ _ | refine blk_drew ?_ | refine blk_alloc ?_ _)); refine blk_far ?_ NB101_160.out _; (with_reducible repeat (first | refine blk_drewN ?_ _ | refine blk_drew ?_ | refine blk_alloc ?_ _)); refine blk_far ?_ NB101_160.out _; (with_reducible repeat (first | refine blk_drewN ?_ _ | refine blk_drew ?_ | refine blk_alloc ?_ _)); refine blk_far ?_ NB101_160.out _; (with_reducible repeat (first | refine blk_drewN ?_ _ | refine blk_drew ?_ | refine blk_alloc ?_ _)); refine blk_far ?_ NB101_160.out _; (with_reducible repeat (first | refine blk_drewN ?_ _ | refine blk_drew ?_ | refine blk_alloc ?_ _)); exact BK101.out⟩
                         have n1_ : Aside0 (((((w173.setCell ⟨gb160, 0, none⟩ (.int .i64 t154)).setCell ⟨gb160, 1, none⟩ (.int .i64 t155)).setCell ⟨gb160, 2, none⟩ (.int .i64 t156)).setCell ⟨gb160, 3, none⟩ (.string t157)).heap[gb102]? = some (.cells #[.int .i64 a3_0, .int .i64 a3_1, .int .i64 a3_2, .string a3_3] 23 (0, 0))) := ⟨by (with_reducible repeat (first | refine blk_drewN ?_ _ | refine blk_drew ?_ | refine blk_alloc ?_ _)); refine blk_far ?_ NB102_160.out _; (with_reducible repeat (first | refine blk_drewN ?_ _ | refine blk_drew ?_ | refine blk_alloc ?_ _)); refine blk_far ?_ NB102_160.out _; (with_reducible repeat (first | refine blk_drewN ?_ _ | refine blk_drew ?_ | refine blk_alloc ?_ _)); refine blk_far ?_ NB102_160.out _; (with_reducible repeat (first | refine blk_drewN ?_ _ | refine blk_drew ?_ | refine blk_alloc ?_ _)); refine blk_far ?_ NB102_160.out _; (with_reducible repeat (first | refine blk_drewN ?_ _ | refine blk_drew ?_ | refine blk_alloc ?_ _)); exact BK102.out⟩
                         have n2_ : Aside0 (((((w173.setCell ⟨gb160, 0, none⟩ (.int .i64 t154)).setCell ⟨gb160, 1, none⟩ (.int .i64 t155)).setCell ⟨gb160, 2, none⟩ (.int .i64 t156)).setCell ⟨gb160, 3, none⟩ (.string t157)).heap[gb114]? = some (.cells #[.int .i64 t134, .int .i64 t135, .int .i64 t136, .string t137] 23 (0, 0))) := ⟨by (with_reducible repeat (first | refine blk_drewN ?_ _ | refine blk_drew ?_ | refine blk_alloc ?_ _)); refine blk_far ?_ NB114_160.out _; (with_reducible repeat (first | refine blk_drewN ?_ _ | refine blk_drew ?_ | refine blk_alloc ?_ _)); refine blk_far ?_ NB114_160.out _; (with_reducible repeat (first | refine blk_drewN ?_ _ | refine blk_drew ?_ | refine blk_alloc ?_ _)); refine blk_far ?_ NB114_160.out _; (with_reducible repeat (first | refine blk_drewN ?_ _ | refine blk_drew ?_ | refine blk_alloc ?_ _)); refine blk_far ?_ NB114_160.out _; (with_reducible repeat (first | refine blk_drewN ?_ _ | refine blk_drew ?_ | refine blk_alloc ?_ _)); exact BK114.out⟩
                         have n3_ : Aside0 (((((w173.setCell ⟨gb160, 0, none⟩ (.int .i64 t154)).setCell ⟨gb160, 1, none⟩ (.int .i64 t155)).setCell ⟨gb160, 2, none⟩ (.int .i64 t156)).setCell ⟨gb160, 3, none⟩ (.string t157)).heap[gb121]? = some (.cells #[.int .i64 t140, .int .i64 t141, .int .i64 t142, .string t143] 23 (0, 0))) := ⟨by (with_reducible repeat (first | refine blk_drewN ?_ _ | refine blk_drew ?_ | refine blk_alloc ?_ _)); refine blk_far ?_ NB121_160.out _; (with_reducible repeat (first | refine blk_drewN ?_ _ | refine blk_drew ?_ | refine blk_alloc ?_ _)); refine blk_far ?_ NB121_160.out _; (with_reducible repeat (first | refine blk_drewN ?_ _ | refine blk_drew ?_ | refine blk_alloc ?_ _)); refine blk_far ?_ NB121_160.out _; (with_reducible repeat (first | refine blk_drewN ?_ _ | refine blk_drew ?_ | refine blk_alloc ?_ _)); refine blk_far ?_ NB121_160.out _; (with_reducible repeat (first | refine blk_drewN ?_ _ | refine blk_drew ?_ | refine blk_alloc ?_ _)); exact BK121.out⟩
                         have n4_ : Aside0 (((((w173.setCell ⟨gb160, 0, none⟩ (.int .i64 t154)).setCell ⟨gb160, 1, none⟩ (.int .i64 t155)).setCell ⟨gb160, 2, none⟩ (.int .i64 t156)).setCell ⟨gb160, 3, none⟩ (.string t157)).heap[gb153]? = some (.cells #[.int .i64 t147, .int .i64 t148, .int .i64 t149, .string t150] 23 (0, 0))) := ⟨by (with_reducible repeat (first | refine blk_drewN ?_ _ | refine blk_drew ?_ | refine blk_alloc ?_ _)); refine blk_far ?_ NB153_160.out _; (with_reducible repeat (first | refine blk_drewN ?_ _ | refine blk_drew ?_ | refine blk_alloc ?_ _)); refine blk_far ?_ NB153_160.out _; (with_reducible repeat (first | refine blk_drewN ?_ _ | refine blk_drew ?_ | refine blk_alloc ?_ _)); refine blk_far ?_ NB153_160.out _; (with_reducible repeat (first | refine blk_drewN ?_ _ | refine blk_drew ?_ | refine blk_alloc ?_ _)); refine blk_far ?_ NB153_160.out _; (with_reducible repeat (first | refine blk_drewN ?_ _ | refine blk_drew ?_ | refine blk_alloc ?_ _)); exact BK153.out⟩
                         have n5_ : Aside0 (((((w173.setCell ⟨gb160, 0, none⟩ (.int .i64 t154)).setCell ⟨gb160, 1, none⟩ (.int .i64 t155)).setCell ⟨gb160, 2, none⟩ (.int .i64 t156)).setCell ⟨gb160, 3, none⟩ (.string t157)).heap[gb160]? = some (.cells #[.int .i64 t154, .int .i64 t155, .int .i64 t156, .string t157] 23 (0, 0))) := ⟨by (with_reducible repeat (first | refine blk_drewN ?_ _ | refine blk_drew ?_ | refine blk_alloc ?_ _)); refine blk_put (cs := #[.int .i64 t154, .int .i64 t155, .int .i64 t156, .string (⟨#[]⟩ : ByteArray)]) ?_ 3 _ rfl; (with_reducible repeat (first | refine blk_drewN ?_ _ | refine blk_drew ?_ | refine blk_alloc ?_ _)); refine blk_put (cs := #[.int .i64 t154, .int .i64 t155, .int .i64 0, .string (⟨#[]⟩ : ByteArray)]) ?_ 2 _ rfl; (with_reducible repeat (first | refine blk_drewN ?_ _ | refine blk_drew ?_ | refine blk_alloc ?_ _)); refine blk_put (cs := #[.int .i64 t154, .int .i64 0, .int .i64 0, .string (⟨#[]⟩ : ByteArray)]) ?_ 1 _ rfl; (with_reducible repeat (first | refine blk_drewN ?_ _ | refine blk_drew ?_ | refine blk_alloc ?_ _)); refine blk_put (cs := #[.int .i64 0, .int .i64 0, .int .i64 0, .string (⟨#[]⟩ : ByteArray)]) ?_ 0 _ rfl; (with_reducible repeat (first | refine blk_drewN ?_ _ | refine blk_drew ?_ | refine blk_alloc ?_ _)); exact BK160.out⟩
                         have n6_ : Aside0 (Below w.heap.size w ((((w173.setCell ⟨gb160, 0, none⟩ (.int .i64 t154)).setCell ⟨gb160, 1, none⟩ (.int .i64 t155)).setCell ⟨gb160, 2, none⟩ (.int .i64 t156)).setCell ⟨gb160, 3, none⟩ (.string t157))) := ⟨by repeat (first | (with_reducible first | exact HB.out | apply below_alloc | apply pw_below_drewN | apply below_drew1 | refine below_set ?_ GE101.out | refine below_set ?_ GE102.out | refine below_set ?_ GE114.out | refine below_set ?_ GE121.out | refine below_set ?_ GE153.out | refine below_set ?_ GE160.out) | exact HB.out)⟩
                         (try clear BK101)
                         (try clear BK102)
                         (try clear BK114)
                         (try clear BK121)
                         (try clear BK153)
                         (try clear BK160)
                         (try clear HB)
                         generalize ((((w173.setCell ⟨gb160, 0, none⟩ (.int .i64 t154)).setCell ⟨gb160, 1, none⟩ (.int .i64 t155)).setCell ⟨gb160, 2, none⟩ (.int .i64 t156)).setCell ⟨gb160, 3, none⟩ (.string t157)) = w180 at n0_ n1_ n2_ n3_ n4_ n5_ n6_ ⊢
                         have BK101 := n0_
                         have BK102 := n1_
                         have BK114 := n2_
                         have BK121 := n3_
                         have BK153 := n4_
                         have BK160 := n5_
                         have HB := n6_
                         clear n0_ n1_ n2_ n3_ n4_ n5_ n6_
                         have n0_ := Aside0.mk (blk_drew BK101.out)
                         have n1_ := Aside0.mk (blk_drew BK102.out)
                         have n2_ := Aside0.mk (blk_drew BK114.out)
                         have n3_ := Aside0.mk (blk_drew BK121.out)
                         have n4_ := Aside0.mk (blk_drew BK153.out)
                         have n5_ := Aside0.mk (blk_drew BK160.out)
                         have n6_ := Aside0.mk (below_drew1 HB.out)
                         clear BK101
                         clear BK102
                         clear BK114
                         clear BK121
                         clear BK153
                         clear BK160
                         clear HB
                         have BK101 := n0_
                         have BK102 := n1_
                         have BK114 := n2_
                         have BK121 := n3_
                         have BK153 := n4_
                         have BK160 := n5_
                         have HB := n6_
                         clear n0_ n1_ n2_ n3_ n4_ n5_ n6_
                         refine start_ (n := 45) (S := fun w' => w'.cell? ⟨gb153, 0, none⟩ = some (.int .i64 t147) ∧ w'.cell? ⟨gb153, 1, none⟩ = some (.int .i64 t148) ∧ w'.cell? ⟨gb153, 2, none⟩ = some (.int .i64 t149) ∧ w'.cell? ⟨gb153, 3, none⟩ = some (.string t150) ∧ w'.cell? ⟨gb160, 0, none⟩ = some (.int .i64 t154) ∧ w'.cell? ⟨gb160, 1, none⟩ = some (.int .i64 t155) ∧ w'.cell? ⟨gb160, 2, none⟩ = some (.int .i64 t156) ∧ w'.cell? ⟨gb160, 3, none⟩ = some (.string t157) ∧ w'.cell? ⟨gb114, 0, none⟩ = some (.int .i64 t134) ∧ w'.cell? ⟨gb114, 1, none⟩ = some (.int .i64 t135) ∧ w'.cell? ⟨gb114, 2, none⟩ = some (.int .i64 t136) ∧ w'.cell? ⟨gb114, 3, none⟩ = some (.string t137) ∧ w'.cell? ⟨gb101, 0, none⟩ = some (.int .i64 a0_0) ∧ w'.cell? ⟨gb101, 1, none⟩ = some (.int .i64 a0_1) ∧ w'.cell? ⟨gb101, 2, none⟩ = some (.int .i64 a0_2) ∧ w'.cell? ⟨gb101, 3, none⟩ = some (.string a0_3)) (ds := []) #[false, false, false, false, false, false, false, false, false, false, false, false, false, false, false, false, false, false, false, false, false, false, false, false, false, false, false, false, false, false, false, false, false, false, false, false, false, false, false, false, false, false, false, false, false] (by kernel_rfl) rfl rfl ⟨(blk_cell BK153.out 0).trans rfl, (blk_cell BK153.out 1).trans rfl, (blk_cell BK153.out 2).trans rfl, (blk_cell BK153.out 3).trans rfl, (blk_cell BK160.out 0).trans rfl, (blk_cell BK160.out 1).trans rfl, (blk_cell BK160.out 2).trans rfl, (blk_cell BK160.out 3).trans rfl, (blk_cell BK114.out 0).trans rfl, (blk_cell BK114.out 1).trans rfl, (blk_cell BK114.out 2).trans rfl, (blk_cell BK114.out 3).trans rfl, (blk_cell BK101.out 0).trans rfl, (blk_cell BK101.out 1).trans rfl, (blk_cell BK101.out 2).trans rfl, (blk_cell BK101.out 3).trans rfl⟩ (fun hHeld => ?_); refine with_tabW ironbarklaw05_BitsParts.tab19 ironbarklaw05_BitsParts.bits19 (fun HT_ HW_ => ?_)
                         generalize w180.drew = w181 at BK101 BK102 BK114 BK121 BK153 BK160 HB hHeld ⊢
                         refine pure_ (i := 0) (N := some 137) (v := ?_) (a' := ?_) #[true, false, false, false, false, false, false, false, false, false, false, false, false, false, false, false, false, false, false, false, false, false, false, false, false, false, false, false, false, false, false, false, false, false, false, false, false, false, false, false, false, false, false, false, false] rfl rfl (any_of HT_.out (by kernel_rfl)) (fun _ _ _ h => h) (Or.inl ⟨by rfl, ?_⟩) ?_ ?_
                         rotate_left
                         ·intro w'
                          go_simp
                          with_reducible rfl
                         rotate_left
                         ·simp only [Act.put, List.setIfInBounds_toArray, List.set_cons_zero, List.set_cons_succ, i64_w, i32_w]
                          rfl
                         refine pure_ (i := 1) (N := some 138) (v := ?_) (a' := ?_) #[true, true, false, false, false, false, false, false, false, false, false, false, false, false, false, false, false, false, false, false, false, false, false, false, false, false, false, false, false, false, false, false, false, false, false, false, false, false, false, false, false, false, false, false, false] rfl rfl (any_of HT_.out (by kernel_rfl)) (fun _ _ _ h => h) (Or.inl ⟨by rfl, ?_⟩) ?_ ?_
                         rotate_left
                         ·intro w'
                          go_simp
                          with_reducible rfl
                         rotate_left
                         ·simp only [Act.put, List.setIfInBounds_toArray, List.set_cons_zero, List.set_cons_succ, i64_w, i32_w]
                          rfl
                         refine pure_ (i := 2) (N := some 139) (v := ?_) (a' := ?_) #[true, true, true, false, false, false, false, false, false, false, false, false, false, false, false, false, false, false, false, false, false, false, false, false, false, false, false, false, false, false, false, false, false, false, false, false, false, false, false, false, false, false, false, false, false] rfl rfl (any_of HT_.out (by kernel_rfl)) (fun _ _ _ h => h) (Or.inl ⟨by rfl, ?_⟩) ?_ ?_
                         rotate_left
                         ·intro w'
                          go_simp
                          with_reducible rfl
                         rotate_left
                         ·simp only [Act.put, List.setIfInBounds_toArray, List.set_cons_zero, List.set_cons_succ, i64_w, i32_w]
                          rfl
                         refine pure_ (i := 3) (N := some 140) (v := ?_) (a' := ?_) #[true, true, true, true, false, false, false, false, false, false, false, false, false, false, false, false, false, false, false, false, false, false, false, false, false, false, false, false, false, false, false, false, false, false, false, false, false, false, false, false, false, false, false, false, false] rfl rfl (any_of HT_.out (by kernel_rfl)) (fun _ _ _ h => h) (Or.inl ⟨by rfl, ?_⟩) ?_ ?_
                         rotate_left
                         ·intro w'
                          go_simp
                          with_reducible rfl
                         rotate_left
                         ·simp only [Act.put, List.setIfInBounds_toArray, List.set_cons_zero, List.set_cons_succ, i64_w, i32_w]
                          rfl
                         refine pure_ (i := 4) (N := some 141) (v := ?_) (a' := ?_) #[true, true, true, true, true, false, false, false, false, false, false, false, false, false, false, false, false, false, false, false, false, false, false, false, false, false, false, false, false, false, false, false, false, false, false, false, false, false, false, false, false, false, false, false, false] rfl rfl (any_of HT_.out (by kernel_rfl)) (fun _ _ _ h => h) (Or.inl ⟨by rfl, ?_⟩) ?_ ?_
                         rotate_left
                         ·intro w'
                          go_simp
                          with_reducible rfl
                         rotate_left
                         ·simp only [Act.put, List.setIfInBounds_toArray, List.set_cons_zero, List.set_cons_succ, i64_w, i32_w]
                          rfl
                         refine pure_ (i := 5) (N := some 142) (v := ?_) (a' := ?_) #[true, true, true, true, true, true, false, false, false, false, false, false, false, false, false, false, false, false, false, false, false, false, false, false, false, false, false, false, false, false, false, false, false, false, false, false, false, false, false, false, false, false, false, false, false] rfl rfl (any_of HT_.out (by kernel_rfl)) (fun _ _ _ h => h) (Or.inl ⟨by rfl, ?_⟩) ?_ ?_
                         rotate_left
                         ·intro w'
                          go_simp
                          with_reducible rfl
                         rotate_left
                         ·simp only [Act.put, List.setIfInBounds_toArray, List.set_cons_zero, List.set_cons_succ, i64_w, i32_w]
                          rfl
                         refine pure_ (i := 6) (N := some 143) (v := ?_) (a' := ?_) #[true, true, true, true, true, true, true, false, false, false, false, false, false, false, false, false, false, false, false, false, false, false, false, false, false, false, false, false, false, false, false, false, false, false, false, false, false, false, false, false, false, false, false, false, false] rfl rfl (any_of HT_.out (by kernel_rfl)) (fun _ _ _ h => h) (Or.inl ⟨by rfl, ?_⟩) ?_ ?_
                         rotate_left
                         ·intro w'
                          go_simp
                          with_reducible rfl
                         rotate_left
                         ·simp only [Act.put, List.setIfInBounds_toArray, List.set_cons_zero, List.set_cons_succ, i64_w, i32_w]
                          rfl
                         refine take_ (i := 7) (N := some 144) (v := ?_) (a' := ?_) #[true, true, true, true, true, true, true, true, false, false, false, false, false, false, false, false, false, false, false, false, false, false, false, false, false, false, false, false, false, false, false, false, false, false, false, false, false, false, false, false, false, false, false, false, false] rfl rfl (take_ofW HT_.out HW_.out (by kernel_rfl)) (fun _ _ _ h => h) (Or.inl ⟨by rfl, ?_⟩) hHeld ?_ ?_
                         rotate_left
                         ·rintro w' ⟨s0, s1, s2, s3, s4, s5, s6, s7, s8, s9, s10, s11, s12, s13, s14, s15⟩
                          go_simp
                          with_reducible rfl
                         rotate_left
                         ·simp only [Act.put, List.setIfInBounds_toArray, List.set_cons_zero, List.set_cons_succ, i64_w, i32_w]
                          rfl
                         refine take_ (i := 8) (N := some 145) (v := ?_) (a' := ?_) #[true, true, true, true, true, true, true, true, true, false, false, false, false, false, false, false, false, false, false, false, false, false, false, false, false, false, false, false, false, false, false, false, false, false, false, false, false, false, false, false, false, false, false, false, false] rfl rfl (take_ofW HT_.out HW_.out (by kernel_rfl)) (fun _ _ _ h => h) (Or.inl ⟨by rfl, ?_⟩) hHeld ?_ ?_
                         rotate_left
                         ·rintro w' ⟨s0, s1, s2, s3, s4, s5, s6, s7, s8, s9, s10, s11, s12, s13, s14, s15⟩
                          go_simp
                          with_reducible rfl
                         rotate_left
                         ·simp only [Act.put, List.setIfInBounds_toArray, List.set_cons_zero, List.set_cons_succ, i64_w, i32_w]
                          rfl
                         refine pure_ (i := 9) (N := some 146) (v := ?_) (a' := ?_) #[true, true, true, true, true, true, true, true, true, true, false, false, false, false, false, false, false, false, false, false, false, false, false, false, false, false, false, false, false, false, false, false, false, false, false, false, false, false, false, false, false, false, false, false, false] rfl rfl (any_of HT_.out (by kernel_rfl)) (fun _ _ _ h => h) (Or.inl ⟨by rfl, ?_⟩) ?_ ?_
                         rotate_left
                         ·intro w'
                          go_simp
                          with_reducible rfl
                         rotate_left
                         ·simp only [Act.put, List.setIfInBounds_toArray, List.set_cons_zero, List.set_cons_succ, i64_w, i32_w]
                          rfl
                         refine pure_ (i := 10) (N := some 147) (v := ?_) (a' := ?_) #[true, true, true, true, true, true, true, true, true, true, true, false, false, false, false, false, false, false, false, false, false, false, false, false, false, false, false, false, false, false, false, false, false, false, false, false, false, false, false, false, false, false, false, false, false] rfl rfl (any_of HT_.out (by kernel_rfl)) (fun _ _ _ h => h) (Or.inl ⟨by rfl, ?_⟩) ?_ ?_
                         rotate_left
                         ·intro w'
                          go_simp
                          with_reducible rfl
                         rotate_left
                         ·simp only [Act.put, List.setIfInBounds_toArray, List.set_cons_zero, List.set_cons_succ, i64_w, i32_w]
                          rfl
                         refine pure_ (i := 11) (N := some 148) (v := ?_) (a' := ?_) #[true, true, true, true, true, true, true, true, true, true, true, true, false, false, false, false, false, false, false, false, false, false, false, false, false, false, false, false, false, false, false, false, false, false, false, false, false, false, false, false, false, false, false, false, false] rfl rfl (any_of HT_.out (by kernel_rfl)) (fun _ _ _ h => h) (Or.inl ⟨by rfl, ?_⟩) ?_ ?_
                         rotate_left
                         ·intro w'
                          go_simp
                          with_reducible rfl
                         rotate_left
                         ·simp only [Act.put, List.setIfInBounds_toArray, List.set_cons_zero, List.set_cons_succ, i64_w, i32_w]
                          rfl
                         refine pure_ (i := 12) (N := some 149) (v := ?_) (a' := ?_) #[true, true, true, true, true, true, true, true, true, true, true, true, true, false, false, false, false, false, false, false, false, false, false, false, false, false, false, false, false, false, false, false, false, false, false, false, false, false, false, false, false, false, false, false, false] rfl rfl (any_of HT_.out (by kernel_rfl)) (fun _ _ _ h => h) (Or.inl ⟨by rfl, ?_⟩) ?_ ?_
                         rotate_left
                         ·intro w'
                          go_simp
                          with_reducible rfl
                         rotate_left
                         ·simp only [Act.put, List.setIfInBounds_toArray, List.set_cons_zero, List.set_cons_succ, i64_w, i32_w]
                          rfl
                         refine pure_ (i := 14) (N := some 151) (v := ?_) (a' := ?_) #[true, true, true, true, true, true, true, true, true, true, true, true, true, false, true, false, false, false, false, false, false, false, false, false, false, false, false, false, false, false, false, false, false, false, false, false, false, false, false, false, false, false, false, false, false] rfl rfl (any_of HT_.out (by kernel_rfl)) (fun _ _ _ h => h) (Or.inl ⟨by rfl, ?_⟩) ?_ ?_
                         rotate_left
                         ·intro w'
                          go_simp
                          with_reducible rfl
                         rotate_left
                         ·simp only [Act.put, List.setIfInBounds_toArray, List.set_cons_zero, List.set_cons_succ, i64_w, i32_w]
                          rfl
                         refine pure_ (i := 15) (N := some 152) (v := ?_) (a' := ?_) #[true, true, true, true, true, true, true, true, true, true, true, true, true, false, true, true, false, false, false, false, false, false, false, false, false, false, false, false, false, false, false, false, false, false, false, false, false, false, false, false, false, false, false, false, false] rfl rfl (any_of HT_.out (by kernel_rfl)) (fun _ _ _ h => h) (Or.inl ⟨by rfl, ?_⟩) ?_ ?_
                         rotate_left
                         ·intro w'
                          go_simp
                          with_reducible rfl
                         rotate_left
                         ·simp only [Act.put, List.setIfInBounds_toArray, List.set_cons_zero, List.set_cons_succ, i64_w, i32_w]
                          rfl
                         refine pure_ (i := 17) (N := some 154) (v := ?_) (a' := ?_) #[true, true, true, true, true, true, true, true, true, true, true, true, true, false, true, true, false, true, false, false, false, false, false, false, false, false, false, false, false, false, false, false, false, false, false, false, false, false, false, false, false, false, false, false, false] rfl rfl (any_of HT_.out (by kernel_rfl)) (fun _ _ _ h => h) (Or.inl ⟨by rfl, ?_⟩) ?_ ?_
                         rotate_left
                         ·intro w'
                          go_simp
                          with_reducible rfl
                         rotate_left
                         ·simp only [Act.put, List.setIfInBounds_toArray, List.set_cons_zero, List.set_cons_succ, i64_w, i32_w]
                          rfl
                         refine pure_ (i := 19) (N := some 156) (v := ?_) (a' := ?_) #[true, true, true, true, true, true, true, true, true, true, true, true, true, false, true, true, false, true, false, true, false, false, false, false, false, false, false, false, false, false, false, false, false, false, false, false, false, false, false, false, false, false, false, false, false] rfl rfl (any_of HT_.out (by kernel_rfl)) (fun _ _ _ h => h) (Or.inl ⟨by rfl, ?_⟩) ?_ ?_
                         rotate_left
                         ·intro w'
                          go_simp
                          with_reducible rfl
                         rotate_left
                         ·simp only [Act.put, List.setIfInBounds_toArray, List.set_cons_zero, List.set_cons_succ, i64_w, i32_w]
                          rfl
                         refine pure_ (i := 20) (N := some 157) (v := ?_) (a' := ?_) #[true, true, true, true, true, true, true, true, true, true, true, true, true, false, true, true, false, true, false, true, true, false, false, false, false, false, false, false, false, false, false, false, false, false, false, false, false, false, false, false, false, false, false, false, false] rfl rfl (any_of HT_.out (by kernel_rfl)) (fun _ _ _ h => h) (Or.inl ⟨by rfl, ?_⟩) ?_ ?_
                         rotate_left
                         ·intro w'
                          go_simp
                          with_reducible rfl
                         rotate_left
                         ·simp only [Act.put, List.setIfInBounds_toArray, List.set_cons_zero, List.set_cons_succ, i64_w, i32_w]
                          rfl
                         refine take_ (i := 13) (N := some 150) (v := ?_) (a' := ?_) #[true, true, true, true, true, true, true, true, true, true, true, true, true, true, true, true, false, true, false, true, true, false, false, false, false, false, false, false, false, false, false, false, false, false, false, false, false, false, false, false, false, false, false, false, false] rfl rfl (take_ofW HT_.out HW_.out (by kernel_rfl)) (fun _ _ _ h => h) (Or.inl ⟨by rfl, ?_⟩) hHeld ?_ ?_
                         rotate_left
                         ·rintro w' ⟨s0, s1, s2, s3, s4, s5, s6, s7, s8, s9, s10, s11, s12, s13, s14, s15⟩
                          go_simp
                          with_reducible rfl
                         rotate_left
                         ·simp only [Act.put, List.setIfInBounds_toArray, List.set_cons_zero, List.set_cons_succ, i64_w, i32_w]
                          rfl
                         refine pure_ (i := 16) (N := some 153) (v := ?_) (a' := ?_) #[true, true, true, true, true, true, true, true, true, true, true, true, true, true, true, true, true, true, false, true, true, false, false, false, false, false, false, false, false, false, false, false, false, false, false, false, false, false, false, false, false, false, false, false, false] rfl rfl (any_of HT_.out (by kernel_rfl)) (fun _ _ _ h => h) (Or.inl ⟨by rfl, ?_⟩) ?_ ?_
                         rotate_left
                         ·intro w'
                          go_simp
                          with_reducible rfl
                         rotate_left
                         ·simp only [Act.put, List.setIfInBounds_toArray, List.set_cons_zero, List.set_cons_succ, i64_w, i32_w]
                          rfl
                         refine take_ (i := 18) (N := some 155) (v := ?_) (a' := ?_) #[true, true, true, true, true, true, true, true, true, true, true, true, true, true, true, true, true, true, true, true, true, false, false, false, false, false, false, false, false, false, false, false, false, false, false, false, false, false, false, false, false, false, false, false, false] rfl rfl (take_ofW HT_.out HW_.out (by kernel_rfl)) (fun _ _ _ h => h) (Or.inl ⟨by rfl, ?_⟩) hHeld ?_ ?_
                         rotate_left
                         ·rintro w' ⟨s0, s1, s2, s3, s4, s5, s6, s7, s8, s9, s10, s11, s12, s13, s14, s15⟩
                          go_simp
                          with_reducible rfl
                         rotate_left
                         ·simp only [Act.put, List.setIfInBounds_toArray, List.set_cons_zero, List.set_cons_succ, i64_w, i32_w]
                          rfl
                         refine pure_ (i := 21) (N := some 158) (v := ?_) (a' := ?_) #[true, true, true, true, true, true, true, true, true, true, true, true, true, true, true, true, true, true, true, true, true, true, false, false, false, false, false, false, false, false, false, false, false, false, false, false, false, false, false, false, false, false, false, false, false] rfl rfl (any_of HT_.out (by kernel_rfl)) (fun _ _ _ h => h) (Or.inl ⟨by rfl, ?_⟩) ?_ ?_
                         rotate_left
                         ·intro w'
                          go_simp
                          with_reducible rfl
                         rotate_left
                         ·simp only [Act.put, List.setIfInBounds_toArray, List.set_cons_zero, List.set_cons_succ, i64_w, i32_w]
                          rfl
                         refine pure_ (i := 22) (N := some 159) (v := ?_) (a' := ?_) #[true, true, true, true, true, true, true, true, true, true, true, true, true, true, true, true, true, true, true, true, true, true, true, false, false, false, false, false, false, false, false, false, false, false, false, false, false, false, false, false, false, false, false, false, false] rfl rfl (any_of HT_.out (by kernel_rfl)) (fun _ _ _ h => h) (Or.inl ⟨by rfl, ?_⟩) ?_ ?_
                         rotate_left
                         ·intro w'
                          go_simp
                          with_reducible rfl
                         rotate_left
                         ·simp only [Act.put, List.setIfInBounds_toArray, List.set_cons_zero, List.set_cons_succ, i64_w, i32_w]
                          rfl
                         refine pure_ (i := 23) (N := some 160) (v := ?_) (a' := ?_) #[true, true, true, true, true, true, true, true, true, true, true, true, true, true, true, true, true, true, true, true, true, true, true, true, false, false, false, false, false, false, false, false, false, false, false, false, false, false, false, false, false, false, false, false, false] rfl rfl (any_of HT_.out (by kernel_rfl)) (fun _ _ _ h => h) (Or.inl ⟨by rfl, ?_⟩) ?_ ?_
                         rotate_left
                         ·intro w'
                          go_simp
                          with_reducible rfl
                         rotate_left
                         ·simp only [Act.put, List.setIfInBounds_toArray, List.set_cons_zero, List.set_cons_succ, i64_w, i32_w]
                          rfl
                         refine pure_ (i := 24) (N := some 161) (v := ?_) (a' := ?_) #[true, true, true, true, true, true, true, true, true, true, true, true, true, true, true, true, true, true, true, true, true, true, true, true, true, false, false, false, false, false, false, false, false, false, false, false, false, false, false, false, false, false, false, false, false] rfl rfl (any_of HT_.out (by kernel_rfl)) (fun _ _ _ h => h) (Or.inl ⟨by rfl, ?_⟩) ?_ ?_
                         rotate_left
                         ·intro w'
                          go_simp
                          with_reducible rfl
                         rotate_left
                         ·simp only [Act.put, List.setIfInBounds_toArray, List.set_cons_zero, List.set_cons_succ, i64_w, i32_w]
                          rfl
                         refine pure_ (i := 25) (N := some 162) (v := ?_) (a' := ?_) #[true, true, true, true, true, true, true, true, true, true, true, true, true, true, true, true, true, true, true, true, true, true, true, true, true, true, false, false, false, false, false, false, false, false, false, false, false, false, false, false, false, false, false, false, false] rfl rfl (any_of HT_.out (by kernel_rfl)) (fun _ _ _ h => h) (Or.inl ⟨by rfl, ?_⟩) ?_ ?_
                         rotate_left
                         ·intro w'
                          go_simp
                          with_reducible rfl
                         rotate_left
                         ·simp only [Act.put, List.setIfInBounds_toArray, List.set_cons_zero, List.set_cons_succ, i64_w, i32_w]
                          rfl
                         refine pure_ (i := 27) (N := some 164) (v := ?_) (a' := ?_) #[true, true, true, true, true, true, true, true, true, true, true, true, true, true, true, true, true, true, true, true, true, true, true, true, true, true, false, true, false, false, false, false, false, false, false, false, false, false, false, false, false, false, false, false, false] rfl rfl (any_of HT_.out (by kernel_rfl)) (fun _ _ _ h => h) (Or.inl ⟨by rfl, ?_⟩) ?_ ?_
                         rotate_left
                         ·intro w'
                          go_simp
                          with_reducible rfl
                         rotate_left
                         ·simp only [Act.put, List.setIfInBounds_toArray, List.set_cons_zero, List.set_cons_succ, i64_w, i32_w]
                          rfl
                         refine pure_ (i := 28) (N := some 165) (v := ?_) (a' := ?_) #[true, true, true, true, true, true, true, true, true, true, true, true, true, true, true, true, true, true, true, true, true, true, true, true, true, true, false, true, true, false, false, false, false, false, false, false, false, false, false, false, false, false, false, false, false] rfl rfl (any_of HT_.out (by kernel_rfl)) (fun _ _ _ h => h) (Or.inl ⟨by rfl, ?_⟩) ?_ ?_
                         rotate_left
                         ·intro w'
                          go_simp
                          with_reducible rfl
                         rotate_left
                         ·simp only [Act.put, List.setIfInBounds_toArray, List.set_cons_zero, List.set_cons_succ, i64_w, i32_w]
                          rfl
                         refine pure_ (i := 29) (N := some 166) (v := ?_) (a' := ?_) #[true, true, true, true, true, true, true, true, true, true, true, true, true, true, true, true, true, true, true, true, true, true, true, true, true, true, false, true, true, true, false, false, false, false, false, false, false, false, false, false, false, false, false, false, false] rfl rfl (any_of HT_.out (by kernel_rfl)) (fun _ _ _ h => h) (Or.inl ⟨by rfl, ?_⟩) ?_ ?_
                         rotate_left
                         ·intro w'
                          go_simp
                          with_reducible rfl
                         rotate_left
                         ·simp only [Act.put, List.setIfInBounds_toArray, List.set_cons_zero, List.set_cons_succ, i64_w, i32_w]
                          rfl
                         refine pure_ (i := 30) (N := some 167) (v := ?_) (a' := ?_) #[true, true, true, true, true, true, true, true, true, true, true, true, true, true, true, true, true, true, true, true, true, true, true, true, true, true, false, true, true, true, true, false, false, false, false, false, false, false, false, false, false, false, false, false, false] rfl rfl (any_of HT_.out (by kernel_rfl)) (fun _ _ _ h => h) (Or.inl ⟨by rfl, ?_⟩) ?_ ?_
                         rotate_left
                         ·intro w'
                          go_simp
                          with_reducible rfl
                         rotate_left
                         ·simp only [Act.put, List.setIfInBounds_toArray, List.set_cons_zero, List.set_cons_succ, i64_w, i32_w]
                          rfl
                         refine pure_ (i := 32) (N := some 169) (v := ?_) (a' := ?_) #[true, true, true, true, true, true, true, true, true, true, true, true, true, true, true, true, true, true, true, true, true, true, true, true, true, true, false, true, true, true, true, false, true, false, false, false, false, false, false, false, false, false, false, false, false] rfl rfl (any_of HT_.out (by kernel_rfl)) (fun _ _ _ h => h) (Or.inl ⟨by rfl, ?_⟩) ?_ ?_
                         rotate_left
                         ·intro w'
                          go_simp
                          with_reducible rfl
                         rotate_left
                         ·simp only [Act.put, List.setIfInBounds_toArray, List.set_cons_zero, List.set_cons_succ, i64_w, i32_w]
                          rfl
                         refine pure_ (i := 34) (N := some 171) (v := ?_) (a' := ?_) #[true, true, true, true, true, true, true, true, true, true, true, true, true, true, true, true, true, true, true, true, true, true, true, true, true, true, false, true, true, true, true, false, true, false, true, false, false, false, false, false, false, false, false, false, false] rfl rfl (any_of HT_.out (by kernel_rfl)) (fun _ _ _ h => h) (Or.inl ⟨by rfl, ?_⟩) ?_ ?_
                         rotate_left
                         ·intro w'
                          go_simp
                          with_reducible rfl
                         rotate_left
                         ·simp only [Act.put, List.setIfInBounds_toArray, List.set_cons_zero, List.set_cons_succ, i64_w, i32_w]
                          rfl
                         refine pure_ (i := 35) (N := some 172) (v := ?_) (a' := ?_) #[true, true, true, true, true, true, true, true, true, true, true, true, true, true, true, true, true, true, true, true, true, true, true, true, true, true, false, true, true, true, true, false, true, false, true, true, false, false, false, false, false, false, false, false, false] rfl rfl (any_of HT_.out (by kernel_rfl)) (fun _ _ _ h => h) (Or.inl ⟨by rfl, ?_⟩) ?_ ?_
                         rotate_left
                         ·intro w'
                          go_simp
                          with_reducible rfl
                         rotate_left
                         ·simp only [Act.put, List.setIfInBounds_toArray, List.set_cons_zero, List.set_cons_succ, i64_w, i32_w]
                          rfl
                         refine pure_ (i := 36) (N := some 173) (v := ?_) (a' := ?_) #[true, true, true, true, true, true, true, true, true, true, true, true, true, true, true, true, true, true, true, true, true, true, true, true, true, true, false, true, true, true, true, false, true, false, true, true, true, false, false, false, false, false, false, false, false] rfl rfl (any_of HT_.out (by kernel_rfl)) (fun _ _ _ h => h) (Or.inl ⟨by rfl, ?_⟩) ?_ ?_
                         rotate_left
                         ·intro w'
                          go_simp
                          with_reducible rfl
                         rotate_left
                         ·simp only [Act.put, List.setIfInBounds_toArray, List.set_cons_zero, List.set_cons_succ, i64_w, i32_w]
                          rfl
                         refine pure_ (i := 37) (N := some 174) (v := ?_) (a' := ?_) #[true, true, true, true, true, true, true, true, true, true, true, true, true, true, true, true, true, true, true, true, true, true, true, true, true, true, false, true, true, true, true, false, true, false, true, true, true, true, false, false, false, false, false, false, false] rfl rfl (any_of HT_.out (by kernel_rfl)) (fun _ _ _ h => h) (Or.inl ⟨by rfl, ?_⟩) ?_ ?_
                         rotate_left
                         ·intro w'
                          go_simp
                          with_reducible rfl
                         rotate_left
                         ·simp only [Act.put, List.setIfInBounds_toArray, List.set_cons_zero, List.set_cons_succ, i64_w, i32_w]
                          rfl
                         refine take_ (i := 26) (N := some 163) (v := ?_) (a' := ?_) #[true, true, true, true, true, true, true, true, true, true, true, true, true, true, true, true, true, true, true, true, true, true, true, true, true, true, true, true, true, true, true, false, true, false, true, true, true, true, false, false, false, false, false, false, false] rfl rfl (take_ofW HT_.out HW_.out (by kernel_rfl)) (fun _ _ _ h => h) (Or.inl ⟨by rfl, ?_⟩) hHeld ?_ ?_
                         rotate_left
                         ·rintro w' ⟨s0, s1, s2, s3, s4, s5, s6, s7, s8, s9, s10, s11, s12, s13, s14, s15⟩
                          go_simp
                          with_reducible rfl
                         rotate_left
                         ·simp only [Act.put, List.setIfInBounds_toArray, List.set_cons_zero, List.set_cons_succ, i64_w, i32_w]
                          rfl
                         refine pure_ (i := 31) (N := some 168) (v := ?_) (a' := ?_) #[true, true, true, true, true, true, true, true, true, true, true, true, true, true, true, true, true, true, true, true, true, true, true, true, true, true, true, true, true, true, true, true, true, false, true, true, true, true, false, false, false, false, false, false, false] rfl rfl (any_of HT_.out (by kernel_rfl)) (fun _ _ _ h => h) (Or.inl ⟨by rfl, ?_⟩) ?_ ?_
                         rotate_left
                         ·intro w'
                          go_simp
                          with_reducible rfl
                         rotate_left
                         ·simp only [Act.put, List.setIfInBounds_toArray, List.set_cons_zero, List.set_cons_succ, i64_w, i32_w]
                          rfl
                         refine take_ (i := 33) (N := some 170) (v := ?_) (a' := ?_) #[true, true, true, true, true, true, true, true, true, true, true, true, true, true, true, true, true, true, true, true, true, true, true, true, true, true, true, true, true, true, true, true, true, true, true, true, true, true, false, false, false, false, false, false, false] rfl rfl (take_ofW HT_.out HW_.out (by kernel_rfl)) (fun _ _ _ h => h) (Or.inl ⟨by rfl, ?_⟩) hHeld ?_ ?_
                         rotate_left
                         ·rintro w' ⟨s0, s1, s2, s3, s4, s5, s6, s7, s8, s9, s10, s11, s12, s13, s14, s15⟩
                          go_simp
                          with_reducible rfl
                         rotate_left
                         ·simp only [Act.put, List.setIfInBounds_toArray, List.set_cons_zero, List.set_cons_succ, i64_w, i32_w]
                          rfl
                         refine pure_ (i := 38) (N := some 175) (v := ?_) (a' := ?_) #[true, true, true, true, true, true, true, true, true, true, true, true, true, true, true, true, true, true, true, true, true, true, true, true, true, true, true, true, true, true, true, true, true, true, true, true, true, true, true, false, false, false, false, false, false] rfl rfl (any_of HT_.out (by kernel_rfl)) (fun _ _ _ h => h) (Or.inl ⟨by rfl, ?_⟩) ?_ ?_
                         rotate_left
                         ·intro w'
                          go_simp
                          with_reducible rfl
                         rotate_left
                         ·simp only [Act.put, List.setIfInBounds_toArray, List.set_cons_zero, List.set_cons_succ, i64_w, i32_w]
                          rfl
                         refine pure_ (i := 39) (N := some 176) (v := ?_) (a' := ?_) #[true, true, true, true, true, true, true, true, true, true, true, true, true, true, true, true, true, true, true, true, true, true, true, true, true, true, true, true, true, true, true, true, true, true, true, true, true, true, true, true, false, false, false, false, false] rfl rfl (any_of HT_.out (by kernel_rfl)) (fun _ _ _ h => h) (Or.inl ⟨by rfl, ?_⟩) ?_ ?_
                         rotate_left
                         ·intro w'
                          go_simp
                          with_reducible rfl
                         rotate_left
                         ·simp only [Act.put, List.setIfInBounds_toArray, List.set_cons_zero, List.set_cons_succ, i64_w, i32_w]
                          rfl
                         refine pure_ (i := 40) (N := some 177) (v := ?_) (a' := ?_) #[true, true, true, true, true, true, true, true, true, true, true, true, true, true, true, true, true, true, true, true, true, true, true, true, true, true, true, true, true, true, true, true, true, true, true, true, true, true, true, true, true, false, false, false, false] rfl rfl (any_of HT_.out (by kernel_rfl)) (fun _ _ _ h => h) (Or.inl ⟨by rfl, ?_⟩) ?_ ?_
                         rotate_left
                         ·intro w'
                          go_simp
                          with_reducible rfl
                         rotate_left
                         ·simp only [Act.put, List.setIfInBounds_toArray, List.set_cons_zero, List.set_cons_succ, i64_w, i32_w]
                          rfl
                         refine pure_ (i := 41) (N := some 178) (v := ?_) (a' := ?_) #[true, true, true, true, true, true, true, true, true, true, true, true, true, true, true, true, true, true, true, true, true, true, true, true, true, true, true, true, true, true, true, true, true, true, true, true, true, true, true, true, true, true, false, false, false] rfl rfl (any_of HT_.out (by kernel_rfl)) (fun _ _ _ h => h) (Or.inl ⟨by rfl, ?_⟩) ?_ ?_
                         rotate_left
                         ·intro w'
                          go_simp
                          with_reducible rfl
                         rotate_left
                         ·simp only [Act.put, List.setIfInBounds_toArray, List.set_cons_zero, List.set_cons_succ, i64_w, i32_w]
                          rfl
                         refine one_ (i := 42) (N := some 179) #[true, true, true, true, true, true, true, true, true, true, true, true, true, true, true, true, true, true, true, true, true, true, true, true, true, true, true, true, true, true, true, true, true, true, true, true, true, true, true, true, true, true, true, false, false] rfl rfl (one_of HT_.out (by kernel_rfl)) (by decide) (fun K hK => ?_)
                         refine goes_ Try.func9 (by kernel_rfl) rfl #[] (by rfl) rfl rfl (by (try simp only [List.map_toArray, List.map_cons, List.map_nil]); first | done | rfl | (simp only [List.length_drop, List.length_take]; rfl)) ?_
                         with_reducible refine (ironbarklaw05_awake.calls  t161 _ A157.out).mono ?_
                         rintro e w182 ⟨rfl, hb⟩
                         refine ⟨_, rfl, ?_⟩
                         have n0_ := Aside0.mk (blk_below (g := gb101) (o := .cells #[.int .i64 a0_0, .int .i64 a0_1, .int .i64 a0_2, .string a0_3] 23 (0, 0)) (by (with_reducible repeat (first | refine blk_drewN ?_ _ | refine blk_drew ?_ | refine blk_alloc ?_ _)); exact BK101.out) hb)
                         have n1_ := Aside0.mk (blk_below (g := gb102) (o := .cells #[.int .i64 a3_0, .int .i64 a3_1, .int .i64 a3_2, .string a3_3] 23 (0, 0)) (by (with_reducible repeat (first | refine blk_drewN ?_ _ | refine blk_drew ?_ | refine blk_alloc ?_ _)); exact BK102.out) hb)
                         have n2_ := Aside0.mk (blk_below (g := gb114) (o := .cells #[.int .i64 t134, .int .i64 t135, .int .i64 t136, .string t137] 23 (0, 0)) (by (with_reducible repeat (first | refine blk_drewN ?_ _ | refine blk_drew ?_ | refine blk_alloc ?_ _)); exact BK114.out) hb)
                         have n3_ := Aside0.mk (blk_below (g := gb121) (o := .cells #[.int .i64 t140, .int .i64 t141, .int .i64 t142, .string t143] 23 (0, 0)) (by (with_reducible repeat (first | refine blk_drewN ?_ _ | refine blk_drew ?_ | refine blk_alloc ?_ _)); exact BK121.out) hb)
                         have n4_ := Aside0.mk (blk_below (g := gb153) (o := .cells #[.int .i64 t147, .int .i64 t148, .int .i64 t149, .string t150] 23 (0, 0)) (by (with_reducible repeat (first | refine blk_drewN ?_ _ | refine blk_drew ?_ | refine blk_alloc ?_ _)); exact BK153.out) hb)
                         have n5_ := Aside0.mk (blk_below (g := gb160) (o := .cells #[.int .i64 t154, .int .i64 t155, .int .i64 t156, .string t157] 23 (0, 0)) (by (with_reducible repeat (first | refine blk_drewN ?_ _ | refine blk_drew ?_ | refine blk_alloc ?_ _)); exact BK160.out) hb)
                         have n6_ := Aside0.mk (below_step (by repeat (first | (with_reducible first | exact HB.out | apply below_alloc | apply pw_below_drewN | apply below_drew1 | refine below_set ?_ GE101.out | refine below_set ?_ GE102.out | refine below_set ?_ GE114.out | refine below_set ?_ GE121.out | refine below_set ?_ GE153.out | refine below_set ?_ GE160.out) | exact HB.out)) hb)
                         clear BK101
                         clear BK102
                         clear BK114
                         clear BK121
                         clear BK153
                         clear BK160
                         clear HB
                         have BK101 := n0_
                         have BK102 := n1_
                         have BK114 := n2_
                         have BK121 := n3_
                         have BK153 := n4_
                         have BK160 := n5_
                         have HB := n6_
                         clear n0_ n1_ n2_ n3_ n4_ n5_ n6_
                         (try clear hb)
                         (try clear hb2)
                         (try clear hk)
                         (try clear hi)
                         refine hK.out _ _ ⟨(blk_cell BK153.out 0).trans rfl, (blk_cell BK153.out 1).trans rfl, (blk_cell BK153.out 2).trans rfl, (blk_cell BK153.out 3).trans rfl, (blk_cell BK160.out 0).trans rfl, (blk_cell BK160.out 1).trans rfl, (blk_cell BK160.out 2).trans rfl, (blk_cell BK160.out 3).trans rfl, (blk_cell BK114.out 0).trans rfl, (blk_cell BK114.out 1).trans rfl, (blk_cell BK114.out 2).trans rfl, (blk_cell BK114.out 3).trans rfl, (blk_cell BK101.out 0).trans rfl, (blk_cell BK101.out 1).trans rfl, (blk_cell BK101.out 2).trans rfl, (blk_cell BK101.out 3).trans rfl⟩ (fun hHeld => ?_)
                         clear hK K
                         refine norm_ (a' := ?_) ?_ ?_
                         rotate_left
                         ·show Act.put _ (some 179) _ = _
                          simp only [Act.put, List.setIfInBounds_toArray, List.set_cons_zero, List.set_cons_succ, i64_w, i32_w]
                          rfl
                         refine pure_ (i := 43) (N := some 180) (v := ?_) (a' := ?_) #[true, true, true, true, true, true, true, true, true, true, true, true, true, true, true, true, true, true, true, true, true, true, true, true, true, true, true, true, true, true, true, true, true, true, true, true, true, true, true, true, true, true, true, true, false] rfl rfl (any_of HT_.out (by kernel_rfl)) (fun _ _ _ h => h) (Or.inl ⟨by rfl, ?_⟩) ?_ ?_
                         rotate_left
                         ·intro w'
                          go_simp
                          with_reducible rfl
                         rotate_left
                         ·simp only [Act.put, List.setIfInBounds_toArray, List.set_cons_zero, List.set_cons_succ, i64_w, i32_w]
                          rfl
                         refine pure_ (i := 44) (N := some 8) (v := ?_) (a' := ?_) #[true, true, true, true, true, true, true, true, true, true, true, true, true, true, true, true, true, true, true, true, true, true, true, true, true, true, true, true, true, true, true, true, true, true, true, true, true, true, true, true, true, true, true, true, true] rfl rfl (any_of HT_.out (by kernel_rfl)) (fun _ _ _ h => h) (Or.inl ⟨by rfl, ?_⟩) ?_ ?_
                         rotate_left
                         ·intro w'
                          go_simp
                          with_reducible rfl
                         rotate_left
                         ·simp only [Act.put, List.setIfInBounds_toArray, List.set_cons_zero, List.set_cons_succ, i64_w, i32_w]
                          rfl
                         refine done_ (done_of HT_.out (by kernel_rfl)) ?_
                         try go_wp2
                         go_ret
                         exact ⟨by first | rfl | (simp [errW_none, errW_some] <;> rfl) | (simp only [← hji145, ← hji151]; first | rfl | (simp [errW_none, errW_some] <;> rfl)) | (simp [*, errW_none, errW_some] <;> rfl), by repeat (first | (with_reducible first | exact HB.out | apply below_alloc | apply pw_below_drewN | apply below_drew1 | refine below_set ?_ GE101.out | refine below_set ?_ GE102.out | refine below_set ?_ GE114.out | refine below_set ?_ GE121.out | refine below_set ?_ GE153.out | refine below_set ?_ GE160.out) | exact HB.out)⟩
                        ·rw [if_neg c156] at H
                         have c156b0 : ((t137.extract ((ji151) : Int).toNat t137.size).toList == (a0_3.extract ((ji151) : Int).toNat a0_3.size).toList) = false := beq_eq_false_iff_ne.mpr c156
                         have c156b1 : ((t137.extract ((ji151) : Int).toNat t137.size).toList != (a0_3.extract ((ji151) : Int).toNat a0_3.size).toList) = true := bne_iff_ne.mpr c156
                         exact absurd ((Option.some.inj H).trans hrt_.out) (by decide)
                       ·rw [if_neg c155] at H
                        exact absurd H (by simp)
                      ·rw [if_neg c153] at H
                       exact absurd H (by simp)
                     ·rw [if_neg c152] at H
                      exact absurd H (by simp)
                    ·rw [if_neg c150] at H
                     have c150b0 : ((t137.extract 0 ((ji145) : Int).toNat).toList == (a0_3.extract 0 ((ji145) : Int).toNat).toList) = false := beq_eq_false_iff_ne.mpr c150
                     have c150b1 : ((t137.extract 0 ((ji145) : Int).toNat).toList != (a0_3.extract 0 ((ji145) : Int).toNat).toList) = true := bne_iff_ne.mpr c150
                     exact absurd ((Option.some.inj H).trans hrt_.out) (by decide)
                   ·rw [if_neg c149] at H
                    exact absurd H (by simp)
                  ·rw [if_neg c147] at H
                   exact absurd H (by simp)
                 ·rw [if_neg c146] at H
                  exact absurd H (by simp)
                ·rw [if_neg c144] at H
                 have c144b0 : (t147 == t154 && (t148 == t155 && (t149 == t156 && (t150.toList == t157.toList)))) = false := by simpa using c144
                 (try (have c144b1 : decide (t147 = t154 && (t148 == t155 && (t149 == t156 && (t150.toList == t157.toList)))) = false := by simpa using c144))
                 (try (have c144b2 : (t147 == t154 && (t148 == t155 && (t149 == t156 && (t150.toList == t157.toList)))) = false := by simpa using c144))
                 (try (have c144b3 : ¬ (t147 = t154 && (t148 == t155 && (t149 == t156 && (t150.toList == t157.toList)))) := by simpa using c144))
                 clear c144
                 exact absurd ((Option.some.inj H).trans hrt_.out) (by decide)
               ·rw [if_neg c143] at H
                have c143b0 : (t159 == 0) = false := beq_eq_false_iff_ne.mpr c143
                have c143b1 : (t159 != 0) = true := bne_iff_ne.mpr c143
                exact absurd ((Option.some.inj H).trans hrt_.out) (by decide)
              ·rw [if_neg c142] at H
               have c142b0 : (t152 == 0) = false := beq_eq_false_iff_ne.mpr c142
               have c142b1 : (t152 != 0) = true := bne_iff_ne.mpr c142
               exact absurd ((Option.some.inj H).trans hrt_.out) (by decide)
 ·replace c6 := Bool.eq_false_iff.mpr c6
  subst c6
  have H1 : ((ironbarklaw05_awake.f).bind fun t107 => (some t107)) = some r := by rw [if_neg (show ¬ (false = true) by decide)] at H; exact H
  clear H
  have H := H1
  clear H1
  replace H := Option.bind_eq_some_iff.mp H
  obtain ⟨t107, A1830, H⟩ := H
  replace H : (some t107) = some r := H
  have A183 := Aside0.mk A1830
  clear A1830
  obtain rfl := Option.some.inj H
  go_enter Try.func6, Try.ntmps6
  go_wp2_with (first | ((with_reducible refine gate_dst (N := 4) rfl ?_); refine box_event ?hg (N := 4) ?hd (cs := #[.int .i64 a0_0, .int .i64 a0_1, .int .i64 a0_2, .string a0_3]) (t := 23) ?hr ?_; (case hd => rfl); (case hg => rfl); (case hr => first | (go_simp; done) | (go_simp; rfl)); intro gb101 hg w184 hbox hb; have n0_ := Aside0.mk (below_step (by repeat (first | (with_reducible first | exact HB.out | apply below_alloc | apply pw_below_drewN | apply below_drew1) | exact HB.out)) hb); have n1_ := Aside0.mk (hbox); have n2_ := Aside0.mk ((by rw [hg]; exact (below_size (by repeat (first | (with_reducible first | exact HB.out | apply below_alloc | apply pw_below_drewN | apply below_drew1) | exact HB.out))) : w.heap.size ≤ gb101)); have n3_ := n2_; clear HB; have HB := n0_; have BK101 := n1_; have GW101 := n2_; have GE101 := n3_; clear n0_ n1_ n2_ n3_; clear hb hbox hg) | ((with_reducible refine gate_dst (N := 7) rfl ?_); refine box_event ?hg (N := 7) ?hd (cs := #[.int .i64 a3_0, .int .i64 a3_1, .int .i64 a3_2, .string a3_3]) (t := 23) ?hr ?_; (case hd => rfl); (case hg => rfl); (case hr => first | (go_simp; done) | (go_simp; rfl)); intro gb102 hg w185 hbox hb; have n0_ := Aside0.mk (blk_below (g := gb101) (o := .cells #[.int .i64 a0_0, .int .i64 a0_1, .int .i64 a0_2, .string a0_3] 23 (0, 0)) (by (with_reducible repeat (first | refine blk_drewN ?_ _ | refine blk_drew ?_ | refine blk_alloc ?_ _)); exact BK101.out) hb); have n1_ := Aside0.mk (below_step (by repeat (first | (with_reducible first | exact HB.out | apply below_alloc | apply pw_below_drewN | apply below_drew1 | refine below_set ?_ GE101.out) | exact HB.out)) hb); have n2_ := Aside0.mk (hbox); have n3_ := Aside0.mk ((by rw [hg]; exact (below_size (by repeat (first | (with_reducible first | exact HB.out | apply below_alloc | apply pw_below_drewN | apply below_drew1 | refine below_set ?_ GE101.out) | exact HB.out))) : w.heap.size ≤ gb102)); have n4_ := n3_; have n5_ := Aside0.mk ((by rw [hg]; exact Nat.ne_of_lt (blk_lt (g := gb101) (o := .cells #[.int .i64 a0_0, .int .i64 a0_1, .int .i64 a0_2, .string a0_3] 23 (0, 0)) (by (with_reducible repeat (first | refine blk_drewN ?_ _ | refine blk_drew ?_ | refine blk_alloc ?_ _)); exact BK101.out)) : gb101 ≠ gb102)); have n6_ := Aside0.mk ((by rw [hg]; exact Nat.ne_of_gt (blk_lt (g := gb101) (o := .cells #[.int .i64 a0_0, .int .i64 a0_1, .int .i64 a0_2, .string a0_3] 23 (0, 0)) (by (with_reducible repeat (first | refine blk_drewN ?_ _ | refine blk_drew ?_ | refine blk_alloc ?_ _)); exact BK101.out)) : gb102 ≠ gb101)); clear BK101; clear HB; have BK101 := n0_; have HB := n1_; have BK102 := n2_; have GW102 := n3_; have GE102 := n4_; have NB101_102 := n5_; have NB102_101 := n6_; clear n0_ n1_ n2_ n3_ n4_ n5_ n6_; clear hb hbox hg; have hnb186 := NB101_102.out; have hnc186 := NB102_101.out; have hcz187_0 : w185.cell? ⟨gb101, 0, none⟩ = some (.int .i64 a0_0) := (blk_cell BK101.out 0).trans rfl; have hcz187_1 : w185.cell? ⟨gb101, 1, none⟩ = some (.int .i64 a0_1) := (blk_cell BK101.out 1).trans rfl; have hcz187_2 : w185.cell? ⟨gb101, 2, none⟩ = some (.int .i64 a0_2) := (blk_cell BK101.out 2).trans rfl; have hcz187_3 : w185.cell? ⟨gb101, 3, none⟩ = some (.string a0_3) := (blk_cell BK101.out 3).trans rfl; have hfz187_0 := blk_frozen BK101.out 0; have hfz187_1 := blk_frozen BK101.out 1; have hfz187_2 := blk_frozen BK101.out 2; have hfz187_3 := blk_frozen BK101.out 3; have hcz188_0 : w185.cell? ⟨gb102, 0, none⟩ = some (.int .i64 a3_0) := (blk_cell BK102.out 0).trans rfl; have hcz188_1 : w185.cell? ⟨gb102, 1, none⟩ = some (.int .i64 a3_1) := (blk_cell BK102.out 1).trans rfl; have hcz188_2 : w185.cell? ⟨gb102, 2, none⟩ = some (.int .i64 a3_2) := (blk_cell BK102.out 2).trans rfl; have hcz188_3 : w185.cell? ⟨gb102, 3, none⟩ = some (.string a3_3) := (blk_cell BK102.out 3).trans rfl; have hfz188_0 := blk_frozen BK102.out 0; have hfz188_1 := blk_frozen BK102.out 1; have hfz188_2 := blk_frozen BK102.out 2; have hfz188_3 := blk_frozen BK102.out 3) | ((with_reducible refine gate_dst (N := 21) rfl ?_); refine Kd.R_lit k23 _ 23 ?hg (N := 21) ?hd (xs := ([(⟨a0_0, a0_1, a0_2, a0_3⟩ : S23), (⟨a3_0, a3_1, a3_2, a3_3⟩ : S23)] : List (S23))) (inner := [.int .i64 a0_0, .int .i64 a0_1, .int .i64 a0_2, .string a0_3, .int .i64 a3_0, .int .i64 a3_1, .int .i64 a3_2, .string a3_3]) (ok := fun _ => True) (okp := fun _ => True) ?hr ?hp (fun _ hk => hk) trivial (Below.refl _ _) (Nat.le_refl _) (by simp) ?_; (case hd => rfl); (case hg => rfl); (case hr => first | (go_simp; done) | (go_simp; rfl)); (case hp => exact (Reps.c4 (show Kd.M k23 _ _ _ (⟨a0_0, a0_1, a0_2, a0_3⟩ : S23) [.int .i64 a0_0, .int .i64 a0_1, .int .i64 a0_2, .string a0_3] from (k23_mkM _ _ _ (⟨a0_0, a0_1, a0_2, a0_3⟩ : S23) )) (Reps.c4 (show Kd.M k23 _ _ _ (⟨a3_0, a3_1, a3_2, a3_3⟩ : S23) [.int .i64 a3_0, .int .i64 a3_1, .int .i64 a3_2, .string a3_3] from (k23_mkM _ _ _ (⟨a3_0, a3_1, a3_2, a3_3⟩ : S23) )) (Reps.none _ _)))); intro v104 w189 ho190 hb hg_ hnew_; clear hg_ hnew_; (first | rw [← Ny103.out] at ho190 | (simp only [Int.reduceToNat] at ho190; rw [← Ny103.out] at ho190)); have n0_ := Aside0.mk (Kd.R_lower (Kd.R_newB (Kd.R_newB ho190 (g := gb101) (o := .cells #[.int .i64 a0_0, .int .i64 a0_1, .int .i64 a0_2, .string a0_3] 23 (0, 0)) (by (with_reducible repeat (first | refine blk_drewN ?_ _ | refine blk_drew ?_ | refine blk_alloc ?_ _)); exact BK101.out)) (g := gb102) (o := .cells #[.int .i64 a3_0, .int .i64 a3_1, .int .i64 a3_2, .string a3_3] 23 (0, 0)) (by (with_reducible repeat (first | refine blk_drewN ?_ _ | refine blk_drew ?_ | refine blk_alloc ?_ _)); exact BK102.out)) (below_size (by repeat (first | (with_reducible first | exact HB.out | apply below_alloc | apply pw_below_drewN | apply below_drew1 | refine below_set ?_ GE101.out | refine below_set ?_ GE102.out) | exact HB.out)))); have n1_ := Aside0.mk (blk_below (g := gb101) (o := .cells #[.int .i64 a0_0, .int .i64 a0_1, .int .i64 a0_2, .string a0_3] 23 (0, 0)) (by (with_reducible repeat (first | refine blk_drewN ?_ _ | refine blk_drew ?_ | refine blk_alloc ?_ _)); exact BK101.out) hb); have n2_ := Aside0.mk (blk_below (g := gb102) (o := .cells #[.int .i64 a3_0, .int .i64 a3_1, .int .i64 a3_2, .string a3_3] 23 (0, 0)) (by (with_reducible repeat (first | refine blk_drewN ?_ _ | refine blk_drew ?_ | refine blk_alloc ?_ _)); exact BK102.out) hb); have n3_ := Aside0.mk (below_step (by repeat (first | (with_reducible first | exact HB.out | apply below_alloc | apply pw_below_drewN | apply below_drew1 | refine below_set ?_ GE101.out | refine below_set ?_ GE102.out) | exact HB.out)) hb); clear BK101; clear BK102; clear HB; have HO105 := n0_; have BK101 := n1_; have BK102 := n2_; have HB := n3_; clear n0_ n1_ n2_ n3_; clear hb ho190; obtain ⟨Ao191, co191, eo191⟩ := Kd.R_slice HO105.out; subst eo191) | ((with_reducible refine gate_callee (f := 8) rfl ?_); refine goesL_ (some 22) rfl rfl Try.func8 (by kernel_rfl) rfl #[.slice Ao191 y103.length co191] rfl (by (try simp only [List.map_toArray, List.map_cons, List.map_nil]); first | done | rfl | (simp only [List.length_drop, List.length_take]; rfl)) ?_; (with_reducible refine (ironbarklaw05_lightT.calls _ _ y103 false _ ?side1 ?side2 A5.out).mono ?_); (case side1 => repeat (first | exact (Kd.R_reads' HO105.out).2.2 | (with_reducible refine Kd.C_alloc ?_ _) | (with_reducible refine Kd.C_drewN ?_ _) | (with_reducible refine Kd.C_drew ?_))); (case side2 => exact (Kd.R_reads' HO105.out).2.1); rintro e w' ⟨rfl, ⟨nd, rfl⟩⟩; refine ⟨_, rfl, ?_⟩) | ((with_reducible refine gate_callee (f := 9) rfl ?_); refine goesL_ (some 24) rfl rfl Try.func9 (by kernel_rfl) rfl #[] rfl (by (try simp only [List.map_toArray, List.map_cons, List.map_nil]); first | done | rfl | (simp only [List.length_drop, List.length_take]; rfl)) ?_; (with_reducible refine (ironbarklaw05_awake.calls  t107 _ A183.out).mono ?_); rintro e w192 ⟨rfl, hb⟩; refine ⟨_, rfl, ?_⟩; have n0_ := Aside0.mk (Kd.R_below (by (with_reducible repeat (first | apply Kd.R_alloc | apply Kd.R_drewN | apply Kd.R_drew)); exact HO105.out) hb); have n1_ := Aside0.mk (blk_below (g := gb101) (o := .cells #[.int .i64 a0_0, .int .i64 a0_1, .int .i64 a0_2, .string a0_3] 23 (0, 0)) (by (with_reducible repeat (first | refine blk_drewN ?_ _ | refine blk_drew ?_ | refine blk_alloc ?_ _)); exact BK101.out) hb); have n2_ := Aside0.mk (blk_below (g := gb102) (o := .cells #[.int .i64 a3_0, .int .i64 a3_1, .int .i64 a3_2, .string a3_3] 23 (0, 0)) (by (with_reducible repeat (first | refine blk_drewN ?_ _ | refine blk_drew ?_ | refine blk_alloc ?_ _)); exact BK102.out) hb); have n3_ := Aside0.mk (below_step (by repeat (first | (with_reducible first | exact HB.out | apply below_alloc | apply pw_below_drewN | apply below_drew1 | refine below_set ?_ GE101.out | refine below_set ?_ GE102.out) | exact HB.out)) hb); clear HO105; clear BK101; clear BK102; clear HB; have HO105 := n0_; have BK101 := n1_; have BK102 := n2_; have HB := n3_; clear n0_ n1_ n2_ n3_; (try clear hb); (try clear hb2); (try clear hk); (try clear hi)))
  go_ret
  exact ⟨by first | rfl | (simp [errW_none, errW_some] <;> rfl) | (simp [*, errW_none, errW_some] <;> rfl), by repeat (first | (with_reducible first | exact HB.out | apply below_alloc | apply pw_below_drewN | apply below_drew1 | refine below_set ?_ GE101.out | refine below_set ?_ GE102.out) | exact HB.out)⟩
end Go.Proofs.Ytnelblndidciiaa.P

-- from the text Q
namespace Go.Proofs.Ytnelblndidciiaa.P
open Go.RowKit Go.ChangeShapes Go.WideShapes Go.ChangeAt Go.Deep Go.Proofs.YtnelblndidciiaaW.PrintWords Go.Proofs.YtnelblndidciiaaW.PrintLast Go.Proofs.YtnelblndidciiaaW.PrintMore
set_option linter.unusedVariables false
set_option linter.unusedSimpArgs false
set_option maxRecDepth 100000
theorem list_of {α : Type} {p : Nat → α → Prop} : ∀ n : Nat, (∀ i, i < n → ∃ x, p i x) → ∃ l : List α, l.length = n ∧ ∀ i x, l[i]? = some x → p i x
  | 0, _ => ⟨[], rfl, fun i x h => by simp at h⟩
  | n + 1, h => by
    obtain ⟨l, hl, hp⟩ := list_of n (fun i hi => h i (by omega))
    obtain ⟨x, hx⟩ := h n (by omega)
    refine ⟨l ++ [x], by simp [hl], fun i y hy => ?_⟩
    rcases Nat.lt_trichotomy i n with h1 | h1 | h1
    · exact hp i y (by rw [List.getElem?_append_left (by omega)] at hy; exact hy)
    · subst h1; rw [List.getElem?_append_right (by omega), hl] at hy; simp at hy; subst hy; exact hx
    · rw [List.getElem?_eq_none (by simp; omega)] at hy; cases hy
section
variable {H : Type} {enc : TypeId × Value → H} {w : World} {base : Nat} {spare : Nat → Bool} {held : Bool} {fuel : Nat} {cs : List Value} {x : DataW H × List MemPlace}
theorem sized_any {P : Program} {t e : TypeId} {a : Option Addr} {len cap : Nat} {d : DataW H} {ps : List MemPlace} {ts : List TypeId} {ds : List (DataW H)} {j : Nat} (hsz : (DataW.weightsEach P ts ds).all (· ≤ reachBytes) = true) (ht : ts[j]? = some t) (hd : ds[j]? = some d) (hu : P.underlying t = some (.slice e)) {B : Nat} (hB : P.bytesOf e = B) (h : DataW.Trod enc P w base spare held t (.slice a len cap) d ps) : len * B ≤ 140737488351232 := by
  obtain ⟨fuel, hf⟩ := h
  rcases open_slice hu hf with ⟨hcs, _⟩ | ⟨a', len', cap', m, n, D, Pl, hcs, _, hl, _, _, hx, _⟩
  · simp [Value.cells] at hcs
    obtain ⟨rfl, rfl, rfl⟩ := hcs
    simp
  · simp [Value.cells] at hcs
    obtain ⟨rfl, rfl, rfl⟩ := hcs
    obtain ⟨hx, _⟩ := Prod.mk.inj hx
    subst hx
    have z := sized_slice hsz ht hd hu
    rw [hB, List.length_map, List.length_range] at z
    exact Nat.le_trans (Nat.mul_le_mul_right _ (Nat.le_add_right _ _)) z
def Wf23 (x : S23) : Prop := (Lit.int .i64 x.f0).wf = true ∧ (Lit.int .i64 x.f1).wf = true ∧ (Lit.int .i64 x.f2).wf = true ∧ x.f3.size ≤ maxLen
theorem cells23 : Try.prog.cellsOf 23 = 4 := by kernel_rfl
theorem trod23 (h : DataW.trod enc Try.prog w base spare held fuel 23 cs = some x) : ∃ s : S23, cs = [.int .i64 s.f0, .int .i64 s.f1, .int .i64 s.f2, .string s.f3] ∧ Wf23 s := by
  obtain ⟨xs, n, _, _, hlen, hxl, hf⟩ := DataW.trod_struct Try.underlying23 h
  rw [cells23] at hlen
  match cs, hlen, xs, hxl with
  | [c0, c1, c2, c3], _, [y0, y1, y2, y3], _ =>
    have g0 : DataW.trod enc Try.prog w base spare held n 3 (List.take (Try.prog.cellsOf 3) (List.drop 0 [c0, c1, c2, c3])) = some y0 := hf 0 _ rfl
    rw [show Try.prog.cellsOf 3 = 1 from by kernel_rfl] at g0
    replace g0 : DataW.trod enc Try.prog w base spare held n 3 [c0] = some y0 := g0
    have g1 : DataW.trod enc Try.prog w base spare held n 3 (List.take (Try.prog.cellsOf 3) (List.drop 1 [c0, c1, c2, c3])) = some y1 := hf 1 _ rfl
    rw [show Try.prog.cellsOf 3 = 1 from by kernel_rfl] at g1
    replace g1 : DataW.trod enc Try.prog w base spare held n 3 [c1] = some y1 := g1
    have g2 : DataW.trod enc Try.prog w base spare held n 3 (List.take (Try.prog.cellsOf 3) (List.drop 2 [c0, c1, c2, c3])) = some y2 := hf 2 _ rfl
    rw [show Try.prog.cellsOf 3 = 1 from by kernel_rfl] at g2
    replace g2 : DataW.trod enc Try.prog w base spare held n 3 [c2] = some y2 := g2
    have g3 : DataW.trod enc Try.prog w base spare held n 9 (List.take (Try.prog.cellsOf 9) (List.drop 3 [c0, c1, c2, c3])) = some y3 := hf 3 _ rfl
    rw [show Try.prog.cellsOf 9 = 1 from by kernel_rfl] at g3
    replace g3 : DataW.trod enc Try.prog w base spare held n 9 [c3] = some y3 := g3
    obtain ⟨s0, e0, -, w0⟩ := DataW.trod_int Try.underlying3 g0
    simp only [List.cons.injEq, and_true] at e0
    subst e0
    obtain ⟨s1, e1, -, w1⟩ := DataW.trod_int Try.underlying3 g1
    simp only [List.cons.injEq, and_true] at e1
    subst e1
    obtain ⟨s2, e2, -, w2⟩ := DataW.trod_int Try.underlying3 g2
    simp only [List.cons.injEq, and_true] at e2
    subst e2
    obtain ⟨s3, e3, -, w3⟩ := DataW.trod_string Try.underlying9 g3
    simp only [List.cons.injEq, and_true] at e3
    subst e3
    exact ⟨⟨s0, s1, s2, s3⟩, rfl, w0, w1, w2, w3⟩
theorem arg23 {W : World} {r : Reach} {b0 : Nat} {v : Value} {d : DataW H} {p : List MemPlace} (hv : Value.okWide Try.prog W r b0 23 v) (h : DataW.Trod enc Try.prog w base spare held 23 v d p) : ∃ s : S23, v = .agg #[.int .i64 s.f0, .int .i64 s.f1, .int .i64 s.f2, .string s.f3] ∧ Wf23 s := by
  obtain ⟨cs, rfl, _⟩ := okWide_struct Try.underlying23 hv
  obtain ⟨fuel, hf⟩ := h
  obtain ⟨s, e, hw⟩ := trod23 hf
  refine ⟨s, ?_, hw⟩
  have e2 : cs.toList = _ := e
  rw [← e2]
def Wf44 (x : S44) : Prop := (Lit.int .i64 x.f0).wf = true ∧ (Lit.int .i64 x.f1).wf = true ∧ (Lit.int .i64 x.f2).wf = true ∧ (Lit.int .i64 x.f3).wf = true ∧ True ∧ x.f5.size ≤ maxLen
theorem cells44 : Try.prog.cellsOf 44 = 6 := by kernel_rfl
theorem trod44 (h : DataW.trod enc Try.prog w base spare held fuel 44 cs = some x) : ∃ s : S44, cs = [.int .i64 s.f0, .int .i64 s.f1, .int .i64 s.f2, .int .i64 s.f3, .bool s.f4, .string s.f5] ∧ Wf44 s := by
  obtain ⟨xs, n, _, _, hlen, hxl, hf⟩ := DataW.trod_struct Try.underlying44 h
  rw [cells44] at hlen
  match cs, hlen, xs, hxl with
  | [c0, c1, c2, c3, c4, c5], _, [y0, y1, y2, y3, y4, y5], _ =>
    have g0 : DataW.trod enc Try.prog w base spare held n 3 (List.take (Try.prog.cellsOf 3) (List.drop 0 [c0, c1, c2, c3, c4, c5])) = some y0 := hf 0 _ rfl
    rw [show Try.prog.cellsOf 3 = 1 from by kernel_rfl] at g0
    replace g0 : DataW.trod enc Try.prog w base spare held n 3 [c0] = some y0 := g0
    have g1 : DataW.trod enc Try.prog w base spare held n 3 (List.take (Try.prog.cellsOf 3) (List.drop 1 [c0, c1, c2, c3, c4, c5])) = some y1 := hf 1 _ rfl
    rw [show Try.prog.cellsOf 3 = 1 from by kernel_rfl] at g1
    replace g1 : DataW.trod enc Try.prog w base spare held n 3 [c1] = some y1 := g1
    have g2 : DataW.trod enc Try.prog w base spare held n 3 (List.take (Try.prog.cellsOf 3) (List.drop 2 [c0, c1, c2, c3, c4, c5])) = some y2 := hf 2 _ rfl
    rw [show Try.prog.cellsOf 3 = 1 from by kernel_rfl] at g2
    replace g2 : DataW.trod enc Try.prog w base spare held n 3 [c2] = some y2 := g2
    have g3 : DataW.trod enc Try.prog w base spare held n 3 (List.take (Try.prog.cellsOf 3) (List.drop 3 [c0, c1, c2, c3, c4, c5])) = some y3 := hf 3 _ rfl
    rw [show Try.prog.cellsOf 3 = 1 from by kernel_rfl] at g3
    replace g3 : DataW.trod enc Try.prog w base spare held n 3 [c3] = some y3 := g3
    have g4 : DataW.trod enc Try.prog w base spare held n 4 (List.take (Try.prog.cellsOf 4) (List.drop 4 [c0, c1, c2, c3, c4, c5])) = some y4 := hf 4 _ rfl
    rw [show Try.prog.cellsOf 4 = 1 from by kernel_rfl] at g4
    replace g4 : DataW.trod enc Try.prog w base spare held n 4 [c4] = some y4 := g4
    have g5 : DataW.trod enc Try.prog w base spare held n 9 (List.take (Try.prog.cellsOf 9) (List.drop 5 [c0, c1, c2, c3, c4, c5])) = some y5 := hf 5 _ rfl
    rw [show Try.prog.cellsOf 9 = 1 from by kernel_rfl] at g5
    replace g5 : DataW.trod enc Try.prog w base spare held n 9 [c5] = some y5 := g5
    obtain ⟨s0, e0, -, w0⟩ := DataW.trod_int Try.underlying3 g0
    simp only [List.cons.injEq, and_true] at e0
    subst e0
    obtain ⟨s1, e1, -, w1⟩ := DataW.trod_int Try.underlying3 g1
    simp only [List.cons.injEq, and_true] at e1
    subst e1
    obtain ⟨s2, e2, -, w2⟩ := DataW.trod_int Try.underlying3 g2
    simp only [List.cons.injEq, and_true] at e2
    subst e2
    obtain ⟨s3, e3, -, w3⟩ := DataW.trod_int Try.underlying3 g3
    simp only [List.cons.injEq, and_true] at e3
    subst e3
    obtain ⟨s4, e4, -⟩ := DataW.trod_bool Try.underlying4 g4
    simp only [List.cons.injEq, and_true] at e4
    subst e4
    obtain ⟨s5, e5, -, w5⟩ := DataW.trod_string Try.underlying9 g5
    simp only [List.cons.injEq, and_true] at e5
    subst e5
    exact ⟨⟨s0, s1, s2, s3, s4, s5⟩, rfl, w0, w1, w2, w3, trivial, w5⟩
theorem arg44 {W : World} {r : Reach} {b0 : Nat} {v : Value} {d : DataW H} {p : List MemPlace} (hv : Value.okWide Try.prog W r b0 44 v) (h : DataW.Trod enc Try.prog w base spare held 44 v d p) : ∃ s : S44, v = .agg #[.int .i64 s.f0, .int .i64 s.f1, .int .i64 s.f2, .int .i64 s.f3, .bool s.f4, .string s.f5] ∧ Wf44 s := by
  obtain ⟨cs, rfl, _⟩ := okWide_struct Try.underlying44 hv
  obtain ⟨fuel, hf⟩ := h
  obtain ⟨s, e, hw⟩ := trod44 hf
  refine ⟨s, ?_, hw⟩
  have e2 : cs.toList = _ := e
  rw [← e2]
theorem arg50 {W : World} {r : Reach} {b0 : Nat} {v : Value} {d : DataW H} {p : List MemPlace} (hv : Value.okWide Try.prog W r b0 50 v) (h : DataW.Trod enc Try.prog w base (fun _ => true) held 50 v d p) : ∃ (A : Option Addr) (cap : Nat) (l : List S23), v = .slice A l.length cap ∧ Kd.C k23 w A l.length l ∧ l.length ≤ cap ∧ ∀ y ∈ l, Wf23 y := by
  obtain ⟨a0, len0, cap0, rfl⟩ := okWide_slice Try.underlying50 hv
  obtain ⟨fuel, hf⟩ := h
  rcases open_slice Try.underlying50 hf with ⟨hcs, _⟩ | ⟨a, len, cap, m, n, D, Pl, hcs, _, hl, hm, hmm, _, hi⟩
  · simp [Value.cells] at hcs
    obtain ⟨rfl, rfl, rfl⟩ := hcs
    exact ⟨none, 0, [], rfl, ⟨rfl, by simp, fun h => absurd h (by simp)⟩, Nat.le_refl _, fun y hy => by cases hy⟩
  · simp [Value.cells] at hcs
    obtain ⟨rfl, rfl, rfl⟩ := hcs
    simp only [if_true] at hmm
    subst hmm
    obtain ⟨l, hll, hp⟩ := list_of (p := fun i (s : S23) => (∀ j u, ([.int .i64 s.f0, .int .i64 s.f1, .int .i64 s.f2, .string s.f3] : List Value)[j]? = some u → w.cell? (a.add (i * 4 + j)) = some u) ∧ Wf23 s) len0 (fun i him => by
      obtain ⟨cs', hc, ht⟩ := hi i (by omega)
      rw [show Try.prog.cellsOf 23 = 4 from by kernel_rfl] at hc
      obtain ⟨_, hcl, hat⟩ := World.cells?_some hc
      obtain ⟨s, rfl, hw⟩ := trod23 ht
      refine ⟨s, fun j u hj => ?_, hw⟩
      have hjn : j < 4 := by rcases Nat.lt_or_ge j 4 with h | h; exact h; rw [List.getElem?_eq_none (by simpa using h)] at hj; cases hj
      rw [← Go.Deep.add_add, hat j hjn]; exact hj)
    subst hll
    refine ⟨some a, _, l, rfl, ⟨rfl, by simp only [maxLen] at hm; omega, fun _ => ⟨a, rfl, fun j q hq => ⟨_, rfl, k23_mk w q, fun i u hu => (hp j q hq).1 i u hu⟩⟩⟩, hl, fun y hy => ?_⟩
    obtain ⟨i, hi, rfl⟩ := List.getElem_of_mem hy
    exact (hp i _ (List.getElem?_eq_getElem hi)).2
theorem arg77 {W : World} {r : Reach} {b0 : Nat} {v : Value} {d : DataW H} {p : List MemPlace} (hv : Value.okWide Try.prog W r b0 77 v) (h : DataW.Trod enc Try.prog w base (fun _ => true) held 77 v d p) : ∃ (A : Option Addr) (cap : Nat) (l : List Int), v = .slice A l.length cap ∧ Kd.C (Kd.int .u8) w A l.length l ∧ l.length ≤ cap ∧ ∀ y ∈ l, (Lit.int .u8 y).wf = true := by
  obtain ⟨a0, len0, cap0, rfl⟩ := okWide_slice Try.underlying77 hv
  obtain ⟨fuel, hf⟩ := h
  rcases open_slice Try.underlying77 hf with ⟨hcs, _⟩ | ⟨a, len, cap, m, n, D, Pl, hcs, _, hl, hm, hmm, _, hi⟩
  · simp [Value.cells] at hcs
    obtain ⟨rfl, rfl, rfl⟩ := hcs
    exact ⟨none, 0, [], rfl, ⟨rfl, by simp, fun h => absurd h (by simp)⟩, Nat.le_refl _, fun y hy => by cases hy⟩
  · simp [Value.cells] at hcs
    obtain ⟨rfl, rfl, rfl⟩ := hcs
    simp only [if_true] at hmm
    subst hmm
    obtain ⟨l, hll, hp⟩ := list_of (p := fun i (s : Int) => (∀ j u, ([.int .u8 s] : List Value)[j]? = some u → w.cell? (a.add (i * 1 + j)) = some u) ∧ (Lit.int .u8 s).wf = true) len0 (fun i him => by
      obtain ⟨cs', hc, ht⟩ := hi i (by omega)
      rw [show Try.prog.cellsOf 5 = 1 from by kernel_rfl] at hc
      obtain ⟨_, hcl, hat⟩ := World.cells?_some hc
      obtain ⟨s, rfl, -, hw⟩ := DataW.trod_int Try.underlying5 ht
      refine ⟨s, fun j u hj => ?_, hw⟩
      have hjn : j < 1 := by rcases Nat.lt_or_ge j 1 with h | h; exact h; rw [List.getElem?_eq_none (by simpa using h)] at hj; cases hj
      rw [← Go.Deep.add_add, hat j hjn]; exact hj)
    subst hll
    refine ⟨some a, _, l, rfl, ⟨rfl, by simp only [maxLen] at hm; omega, fun _ => ⟨a, rfl, fun j q hq => ⟨_, rfl, rfl, fun i u hu => (hp j q hq).1 i u hu⟩⟩⟩, hl, fun y hy => ?_⟩
    obtain ⟨i, hi, rfl⟩ := List.getElem_of_mem hy
    exact (hp i _ (List.getElem?_eq_getElem hi)).2
theorem arg86 {W : World} {r : Reach} {b0 : Nat} {v : Value} {d : DataW H} {p : List MemPlace} (hv : Value.okWide Try.prog W r b0 86 v) (h : DataW.Trod enc Try.prog w base (fun _ => true) held 86 v d p) : ∃ (A : Option Addr) (cap : Nat) (l : List Int), v = .slice A l.length cap ∧ Kd.C (Kd.int .i64) w A l.length l ∧ l.length ≤ cap ∧ ∀ y ∈ l, (Lit.int .i64 y).wf = true := by
  obtain ⟨a0, len0, cap0, rfl⟩ := okWide_slice Try.underlying86 hv
  obtain ⟨fuel, hf⟩ := h
  rcases open_slice Try.underlying86 hf with ⟨hcs, _⟩ | ⟨a, len, cap, m, n, D, Pl, hcs, _, hl, hm, hmm, _, hi⟩
  · simp [Value.cells] at hcs
    obtain ⟨rfl, rfl, rfl⟩ := hcs
    exact ⟨none, 0, [], rfl, ⟨rfl, by simp, fun h => absurd h (by simp)⟩, Nat.le_refl _, fun y hy => by cases hy⟩
  · simp [Value.cells] at hcs
    obtain ⟨rfl, rfl, rfl⟩ := hcs
    simp only [if_true] at hmm
    subst hmm
    obtain ⟨l, hll, hp⟩ := list_of (p := fun i (s : Int) => (∀ j u, ([.int .i64 s] : List Value)[j]? = some u → w.cell? (a.add (i * 1 + j)) = some u) ∧ (Lit.int .i64 s).wf = true) len0 (fun i him => by
      obtain ⟨cs', hc, ht⟩ := hi i (by omega)
      rw [show Try.prog.cellsOf 3 = 1 from by kernel_rfl] at hc
      obtain ⟨_, hcl, hat⟩ := World.cells?_some hc
      obtain ⟨s, rfl, -, hw⟩ := DataW.trod_int Try.underlying3 ht
      refine ⟨s, fun j u hj => ?_, hw⟩
      have hjn : j < 1 := by rcases Nat.lt_or_ge j 1 with h | h; exact h; rw [List.getElem?_eq_none (by simpa using h)] at hj; cases hj
      rw [← Go.Deep.add_add, hat j hjn]; exact hj)
    subst hll
    refine ⟨some a, _, l, rfl, ⟨rfl, by simp only [maxLen] at hm; omega, fun _ => ⟨a, rfl, fun j q hq => ⟨_, rfl, rfl, fun i u hu => (hp j q hq).1 i u hu⟩⟩⟩, hl, fun y hy => ?_⟩
    obtain ⟨i, hi, rfl⟩ := List.getElem_of_mem hy
    exact (hp i _ (List.getElem?_eq_getElem hi)).2
end
end Go.Proofs.Ytnelblndidciiaa.P
