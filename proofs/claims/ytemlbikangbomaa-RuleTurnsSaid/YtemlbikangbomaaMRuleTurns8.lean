/- Part 8 of the proof of the law RuleTurns: functions, contracts and plain laws; merged by this session's program. -/
import Derived.Test.YtemlbikangbomaaMRuleTurns1
import Derived.Test.YtemlbikangbomaaMRuleTurns2
import Derived.Test.YtemlbikangbomaaMRuleTurns3
import Derived.Test.YtemlbikangbomaaMRuleTurns4
import Derived.Test.YtemlbikangbomaaMRuleTurns5
import Derived.Test.YtemlbikangbomaaMRuleTurns6
import Derived.Test.YtemlbikangbomaaMRuleTurns7
-- from the text E6
namespace Go.Proofs.Ytemlbikangbomaa.P
open Go.RowKit Go.Proofs.YtemlbikangbomaaW.PrintWords Go.Proofs.YtemlbikangbomaaW.PrintLast Go.Proofs.YtemlbikangbomaaW.PrintMore
attribute [local go_sem] max2_int min2_int max_two min_two max_three min_three max_four min_four   -- for this text's walks alone
set_option linter.unusedVariables false
set_option linter.unusedSimpArgs false
attribute [local go_sem high] eqA25
mutual
def ironbarklaw02_RuleTurns.j0 : Nat → Bool → Int → Int → Int → Int → Bool → ByteArray → Option (Bool)
 | 0, _, _, _, _, _, _, _ => none
 | k + 1, x71, x102000, x102001, x102002, x102003, x102004, x102005 => if x71 = true then (some false) else ((rule_Float.f x102000 x102001 x102002 x102003 x102004 x102005).bind fun bt142 => ((ironbarkref02_Float.f k x102000 x102001 x102002 x102003 x102004 x102005).bind fun bt149 => ((rule_Number.f x102000 x102001 x102002 x102003 x102004 x102005).bind fun bt156 => ((ironbarkref02_Number.f k x102000 x102001 x102002 x102003 x102004 x102005).bind fun bt163 => (if (!(bt142.1 == bt149.1) || (!(bt142.2.1 == bt149.2.1) || (!(bt142.2.2.1 == bt149.2.2.1) || (!(bt142.2.2.2.1 == bt149.2.2.2.1) || (!(bt142.2.2.2.2.1 == bt149.2.2.2.2.1) || (!(bt142.2.2.2.2.2.1.toList == bt149.2.2.2.2.2.1.toList))))))) = true then (ironbarklaw02_RuleTurns.j1 k true x102000 x102001 x102002 x102003 x102004 x102005) else (if bt142.2.2.2.2.2.2 = bt149.2.2.2.2.2.2 then (if (!(bt156.1 == bt163.1) || (!(bt156.2.1 == bt163.2.1) || (!(bt156.2.2.1 == bt163.2.2.1) || (!(bt156.2.2.2.1 == bt163.2.2.2.1) || (!(bt156.2.2.2.2.1 == bt163.2.2.2.2.1) || (!(bt156.2.2.2.2.2.1.toList == bt163.2.2.2.2.2.1.toList))))))) = true then (ironbarklaw02_RuleTurns.j1 k true x102000 x102001 x102002 x102003 x102004 x102005) else (if bt156.2.2.2.2.2.2 = bt163.2.2.2.2.2.2 then (if bt142.2.2.2.2.2.2 = 0 then ((ironbarkref01_Valid.f k bt142.1 bt142.2.1 bt142.2.2.1 bt142.2.2.2.1 bt142.2.2.2.2.1 bt142.2.2.2.2.2.1).bind fun t170 => (if t170 = true then (if bt156.2.2.2.2.2.2 = 0 then ((ironbarkref01_Valid.f k bt156.1 bt156.2.1 bt156.2.2.1 bt156.2.2.2.1 bt156.2.2.2.2.1 bt156.2.2.2.2.2.1).bind fun t171 => (ironbarklaw02_RuleTurns.j1 k (!t171) x102000 x102001 x102002 x102003 x102004 x102005)) else (ironbarklaw02_RuleTurns.j1 k false x102000 x102001 x102002 x102003 x102004 x102005)) else (ironbarklaw02_RuleTurns.j1 k true x102000 x102001 x102002 x102003 x102004 x102005))) else (if bt156.2.2.2.2.2.2 = 0 then ((ironbarkref01_Valid.f k bt156.1 bt156.2.1 bt156.2.2.1 bt156.2.2.2.1 bt156.2.2.2.2.1 bt156.2.2.2.2.2.1).bind fun t172 => (ironbarklaw02_RuleTurns.j1 k (!t172) x102000 x102001 x102002 x102003 x102004 x102005)) else (ironbarklaw02_RuleTurns.j1 k false x102000 x102001 x102002 x102003 x102004 x102005))) else (ironbarklaw02_RuleTurns.j1 k true x102000 x102001 x102002 x102003 x102004 x102005))) else (ironbarklaw02_RuleTurns.j1 k true x102000 x102001 x102002 x102003 x102004 x102005)))))))
def ironbarklaw02_RuleTurns.j1 : Nat → Bool → Int → Int → Int → Int → Bool → ByteArray → Option (Bool)
 | 0, _, _, _, _, _, _, _ => none
 | k + 1, x127, x102000, x102001, x102002, x102003, x102004, x102005 => if x127 = true then (some false) else ((rule_Negated.f x102000 x102001 x102002 x102003 x102004 x102005).bind fun bt173 => ((ironbarkref02_Negated.f k x102000 x102001 x102002 x102003 x102004 x102005).bind fun bt180 => (if (bt173.1 == bt180.1 && (bt173.2.1 == bt180.2.1 && (bt173.2.2.1 == bt180.2.2.1 && (bt173.2.2.2.1 == bt180.2.2.2.1 && (bt173.2.2.2.2.1 == bt180.2.2.2.2.1 && (bt173.2.2.2.2.2.1.toList == bt180.2.2.2.2.2.1.toList)))))) = true then (if bt173.2.2.2.2.2.2 = bt180.2.2.2.2.2.2 then ((ironbarklaw02_awake.f k).bind fun t187 => (some t187)) else (some false)) else (some false))))
end
def ironbarklaw02_RuleTurns.f (k : Nat) (a0_0 : Int) (a0_1 : Int) (a0_2 : Int) (a0_3 : Int) (a0_4 : Bool) (a0_5 : ByteArray) : Option (Bool) := (ironbarklaw02_light.f k (([(⟨a0_0, a0_1, a0_2, a0_3, a0_4, a0_5⟩ : S25)] : List (S25)))).bind fun t105 => (if t105 = true then ((rule_Binary.f a0_0 a0_1 a0_2 a0_3 a0_4 a0_5).bind fun bt107 => ((ironbarkref02_Binary.f k a0_0 a0_1 a0_2 a0_3 a0_4 a0_5).bind fun bt115 => ((rule_Decimal.f a0_0 a0_1 a0_2 a0_3 a0_4 a0_5).bind fun bt123 => ((ironbarkref02_Decimal.f k a0_0 a0_1 a0_2 a0_3 a0_4 a0_5).bind fun bt131 => (if (!(bt107.1 == bt115.1) || (!(bt107.2.1 == bt115.2.1) || (!(bt107.2.2.1 == bt115.2.2.1) || (!(bt107.2.2.2.1 == bt115.2.2.2.1) || (!(bt107.2.2.2.2.1 == bt115.2.2.2.2.1) || (!(bt107.2.2.2.2.2.1.toList == bt115.2.2.2.2.2.1.toList))))))) = true then (ironbarklaw02_RuleTurns.j0 k true a0_0 a0_1 a0_2 a0_3 a0_4 a0_5) else (if bt107.2.2.2.2.2.2 = bt115.2.2.2.2.2.2 then (if (!(bt123.1 == bt131.1) || (!(bt123.2.1 == bt131.2.1) || (!(bt123.2.2.1 == bt131.2.2.1) || (!(bt123.2.2.2.1 == bt131.2.2.2.1) || (!(bt123.2.2.2.2.1 == bt131.2.2.2.2.1) || (!(bt123.2.2.2.2.2.1.toList == bt131.2.2.2.2.2.1.toList))))))) = true then (ironbarklaw02_RuleTurns.j0 k true a0_0 a0_1 a0_2 a0_3 a0_4 a0_5) else (if bt123.2.2.2.2.2.2 = bt131.2.2.2.2.2.2 then (if bt107.2.2.2.2.2.2 = 0 then ((ironbarkref01_Valid.f k bt107.1 bt107.2.1 bt107.2.2.1 bt107.2.2.2.1 bt107.2.2.2.2.1 bt107.2.2.2.2.2.1).bind fun t139 => (if t139 = true then (if bt123.2.2.2.2.2.2 = 0 then ((ironbarkref01_Valid.f k bt123.1 bt123.2.1 bt123.2.2.1 bt123.2.2.2.1 bt123.2.2.2.2.1 bt123.2.2.2.2.2.1).bind fun t140 => (ironbarklaw02_RuleTurns.j0 k (!t140) a0_0 a0_1 a0_2 a0_3 a0_4 a0_5)) else (ironbarklaw02_RuleTurns.j0 k false a0_0 a0_1 a0_2 a0_3 a0_4 a0_5)) else (ironbarklaw02_RuleTurns.j0 k true a0_0 a0_1 a0_2 a0_3 a0_4 a0_5))) else (if bt123.2.2.2.2.2.2 = 0 then ((ironbarkref01_Valid.f k bt123.1 bt123.2.1 bt123.2.2.1 bt123.2.2.2.1 bt123.2.2.2.2.1 bt123.2.2.2.2.2.1).bind fun t141 => (ironbarklaw02_RuleTurns.j0 k (!t141) a0_0 a0_1 a0_2 a0_3 a0_4 a0_5)) else (ironbarklaw02_RuleTurns.j0 k false a0_0 a0_1 a0_2 a0_3 a0_4 a0_5))) else (ironbarklaw02_RuleTurns.j0 k true a0_0 a0_1 a0_2 a0_3 a0_4 a0_5))) else (ironbarklaw02_RuleTurns.j0 k true a0_0 a0_1 a0_2 a0_3 a0_4 a0_5))))))) else ((ironbarklaw02_awake.f k).bind fun t106 => (some t106)))
theorem ironbarklaw02_RuleTurns.j0_no : ∀ (k : Nat) y0 y1 y2 y3 y4 y5, ¬ ironbarklaw02_RuleTurns.j0 k true y0 y1 y2 y3 y4 y5 = some true := by intro k y0 y1 y2 y3 y4 y5; cases k <;> simp [ironbarklaw02_RuleTurns.j0]
theorem ironbarklaw02_RuleTurns.j1_no : ∀ (k : Nat) y0 y1 y2 y3 y4 y5, ¬ ironbarklaw02_RuleTurns.j1 k true y0 y1 y2 y3 y4 y5 = some true := by intro k y0 y1 y2 y3 y4 y5; cases k <;> simp [ironbarklaw02_RuleTurns.j1]
set_option maxHeartbeats 8000000 in
set_option maxRecDepth 100000 in
theorem ironbarklaw02_RuleTurns.calls (k : Nat) (a0_0 : Int) (a0_1 : Int) (a0_2 : Int) (a0_3 : Int) (a0_4 : Bool) (a0_5 : ByteArray) (r : Bool) (w : World) (h : ironbarklaw02_RuleTurns.f k a0_0 a0_1 a0_2 a0_3 a0_4 a0_5 = some r) (hrt_ : Aside0 (r = true)) :
  Calls Try.prog 6 #[.agg #[.int .i64 a0_0, .int .i64 a0_1, .int .i64 a0_2, .int .i64 a0_3, .bool a0_4, .string a0_5]] w fun e w' => e = .returned (.bool r) ∧ Below w.heap.size w w' := by
 have hu25 := Try.underlying25
 have HB := Aside0.mk (Below.refl w.heap.size w)
 have H : ((ironbarklaw02_light.f k (([(⟨a0_0, a0_1, a0_2, a0_3, a0_4, a0_5⟩ : S25)] : List (S25)))).bind fun t105 => (if t105 = true then ((rule_Binary.f a0_0 a0_1 a0_2 a0_3 a0_4 a0_5).bind fun bt107 => ((ironbarkref02_Binary.f k a0_0 a0_1 a0_2 a0_3 a0_4 a0_5).bind fun bt115 => ((rule_Decimal.f a0_0 a0_1 a0_2 a0_3 a0_4 a0_5).bind fun bt123 => ((ironbarkref02_Decimal.f k a0_0 a0_1 a0_2 a0_3 a0_4 a0_5).bind fun bt131 => (if (!(bt107.1 == bt115.1) || (!(bt107.2.1 == bt115.2.1) || (!(bt107.2.2.1 == bt115.2.2.1) || (!(bt107.2.2.2.1 == bt115.2.2.2.1) || (!(bt107.2.2.2.2.1 == bt115.2.2.2.2.1) || (!(bt107.2.2.2.2.2.1.toList == bt115.2.2.2.2.2.1.toList))))))) = true then (ironbarklaw02_RuleTurns.j0 k true a0_0 a0_1 a0_2 a0_3 a0_4 a0_5) else (if bt107.2.2.2.2.2.2 = bt115.2.2.2.2.2.2 then (if (!(bt123.1 == bt131.1) || (!(bt123.2.1 == bt131.2.1) || (!(bt123.2.2.1 == bt131.2.2.1) || (!(bt123.2.2.2.1 == bt131.2.2.2.1) || (!(bt123.2.2.2.2.1 == bt131.2.2.2.2.1) || (!(bt123.2.2.2.2.2.1.toList == bt131.2.2.2.2.2.1.toList))))))) = true then (ironbarklaw02_RuleTurns.j0 k true a0_0 a0_1 a0_2 a0_3 a0_4 a0_5) else (if bt123.2.2.2.2.2.2 = bt131.2.2.2.2.2.2 then (if bt107.2.2.2.2.2.2 = 0 then ((ironbarkref01_Valid.f k bt107.1 bt107.2.1 bt107.2.2.1 bt107.2.2.2.1 bt107.2.2.2.2.1 bt107.2.2.2.2.2.1).bind fun t139 => (if t139 = true then (if bt123.2.2.2.2.2.2 = 0 then ((ironbarkref01_Valid.f k bt123.1 bt123.2.1 bt123.2.2.1 bt123.2.2.2.1 bt123.2.2.2.2.1 bt123.2.2.2.2.2.1).bind fun t140 => (ironbarklaw02_RuleTurns.j0 k (!t140) a0_0 a0_1 a0_2 a0_3 a0_4 a0_5)) else (ironbarklaw02_RuleTurns.j0 k false a0_0 a0_1 a0_2 a0_3 a0_4 a0_5)) else (ironbarklaw02_RuleTurns.j0 k true a0_0 a0_1 a0_2 a0_3 a0_4 a0_5))) else (if bt123.2.2.2.2.2.2 = 0 then ((ironbarkref01_Valid.f k bt123.1 bt123.2.1 bt123.2.2.1 bt123.2.2.2.1 bt123.2.2.2.2.1 bt123.2.2.2.2.2.1).bind fun t141 => (ironbarklaw02_RuleTurns.j0 k (!t141) a0_0 a0_1 a0_2 a0_3 a0_4 a0_5)) else (ironbarklaw02_RuleTurns.j0 k false a0_0 a0_1 a0_2 a0_3 a0_4 a0_5))) else (ironbarklaw02_RuleTurns.j0 k true a0_0 a0_1 a0_2 a0_3 a0_4 a0_5))) else (ironbarklaw02_RuleTurns.j0 k true a0_0 a0_1 a0_2 a0_3 a0_4 a0_5))))))) else ((ironbarklaw02_awake.f k).bind fun t106 => (some t106)))) = some r := h
 clear h
 obtain ⟨y102, hy102⟩ : ∃ y_ : List (S25), y_ = (([(⟨a0_0, a0_1, a0_2, a0_3, a0_4, a0_5⟩ : S25)] : List (S25))) := ⟨_, rfl⟩
 replace H : ((ironbarklaw02_light.f k y102).bind fun t105 => (if t105 = true then ((rule_Binary.f a0_0 a0_1 a0_2 a0_3 a0_4 a0_5).bind fun bt107 => ((ironbarkref02_Binary.f k a0_0 a0_1 a0_2 a0_3 a0_4 a0_5).bind fun bt115 => ((rule_Decimal.f a0_0 a0_1 a0_2 a0_3 a0_4 a0_5).bind fun bt123 => ((ironbarkref02_Decimal.f k a0_0 a0_1 a0_2 a0_3 a0_4 a0_5).bind fun bt131 => (if (!(bt107.1 == bt115.1) || (!(bt107.2.1 == bt115.2.1) || (!(bt107.2.2.1 == bt115.2.2.1) || (!(bt107.2.2.2.1 == bt115.2.2.2.1) || (!(bt107.2.2.2.2.1 == bt115.2.2.2.2.1) || (!(bt107.2.2.2.2.2.1.toList == bt115.2.2.2.2.2.1.toList))))))) = true then (ironbarklaw02_RuleTurns.j0 k true a0_0 a0_1 a0_2 a0_3 a0_4 a0_5) else (if bt107.2.2.2.2.2.2 = bt115.2.2.2.2.2.2 then (if (!(bt123.1 == bt131.1) || (!(bt123.2.1 == bt131.2.1) || (!(bt123.2.2.1 == bt131.2.2.1) || (!(bt123.2.2.2.1 == bt131.2.2.2.1) || (!(bt123.2.2.2.2.1 == bt131.2.2.2.2.1) || (!(bt123.2.2.2.2.2.1.toList == bt131.2.2.2.2.2.1.toList))))))) = true then (ironbarklaw02_RuleTurns.j0 k true a0_0 a0_1 a0_2 a0_3 a0_4 a0_5) else (if bt123.2.2.2.2.2.2 = bt131.2.2.2.2.2.2 then (if bt107.2.2.2.2.2.2 = 0 then ((ironbarkref01_Valid.f k bt107.1 bt107.2.1 bt107.2.2.1 bt107.2.2.2.1 bt107.2.2.2.2.1 bt107.2.2.2.2.2.1).bind fun t139 => (if t139 = true then (if bt123.2.2.2.2.2.2 = 0 then ((ironbarkref01_Valid.f k bt123.1 bt123.2.1 bt123.2.2.1 bt123.2.2.2.1 bt123.2.2.2.2.1 bt123.2.2.2.2.2.1).bind fun t140 => (ironbarklaw02_RuleTurns.j0 k (!t140) a0_0 a0_1 a0_2 a0_3 a0_4 a0_5)) else (ironbarklaw02_RuleTurns.j0 k false a0_0 a0_1 a0_2 a0_3 a0_4 a0_5)) else (ironbarklaw02_RuleTurns.j0 k true a0_0 a0_1 a0_2 a0_3 a0_4 a0_5))) else (if bt123.2.2.2.2.2.2 = 0 then ((ironbarkref01_Valid.f k bt123.1 bt123.2.1 bt123.2.2.1 bt123.2.2.2.1 bt123.2.2.2.2.1 bt123.2.2.2.2.2.1).bind fun t141 => (ironbarklaw02_RuleTurns.j0 k (!t141) a0_0 a0_1 a0_2 a0_3 a0_4 a0_5)) else (ironbarklaw02_RuleTurns.j0 k false a0_0 a0_1 a0_2 a0_3 a0_4 a0_5))) else (ironbarklaw02_RuleTurns.j0 k true a0_0 a0_1 a0_2 a0_3 a0_4 a0_5))) else (ironbarklaw02_RuleTurns.j0 k true a0_0 a0_1 a0_2 a0_3 a0_4 a0_5))))))) else ((ironbarklaw02_awake.f k).bind fun t106 => (some t106)))) = some r := by first | (rw [hy102]; with_reducible exact H) | (have H2_ := (Option.bind_some _ _).symm.trans H; rw [hy102]; with_reducible exact H2_) | (have H2_ := (Option.bind_some _ _).symm.trans H; with_reducible exact H2_) | with_reducible exact H | (rw [hy102]; exact H) | exact H
 have Ny102 := Aside0.mk hy102
 clear hy102
 replace H := Option.bind_eq_some_iff.mp H
 obtain ⟨t105, A20, H⟩ := H
 replace H : (if t105 = true then ((rule_Binary.f a0_0 a0_1 a0_2 a0_3 a0_4 a0_5).bind fun bt107 => ((ironbarkref02_Binary.f k a0_0 a0_1 a0_2 a0_3 a0_4 a0_5).bind fun bt115 => ((rule_Decimal.f a0_0 a0_1 a0_2 a0_3 a0_4 a0_5).bind fun bt123 => ((ironbarkref02_Decimal.f k a0_0 a0_1 a0_2 a0_3 a0_4 a0_5).bind fun bt131 => (if (!(bt107.1 == bt115.1) || (!(bt107.2.1 == bt115.2.1) || (!(bt107.2.2.1 == bt115.2.2.1) || (!(bt107.2.2.2.1 == bt115.2.2.2.1) || (!(bt107.2.2.2.2.1 == bt115.2.2.2.2.1) || (!(bt107.2.2.2.2.2.1.toList == bt115.2.2.2.2.2.1.toList))))))) = true then (ironbarklaw02_RuleTurns.j0 k true a0_0 a0_1 a0_2 a0_3 a0_4 a0_5) else (if bt107.2.2.2.2.2.2 = bt115.2.2.2.2.2.2 then (if (!(bt123.1 == bt131.1) || (!(bt123.2.1 == bt131.2.1) || (!(bt123.2.2.1 == bt131.2.2.1) || (!(bt123.2.2.2.1 == bt131.2.2.2.1) || (!(bt123.2.2.2.2.1 == bt131.2.2.2.2.1) || (!(bt123.2.2.2.2.2.1.toList == bt131.2.2.2.2.2.1.toList))))))) = true then (ironbarklaw02_RuleTurns.j0 k true a0_0 a0_1 a0_2 a0_3 a0_4 a0_5) else (if bt123.2.2.2.2.2.2 = bt131.2.2.2.2.2.2 then (if bt107.2.2.2.2.2.2 = 0 then ((ironbarkref01_Valid.f k bt107.1 bt107.2.1 bt107.2.2.1 bt107.2.2.2.1 bt107.2.2.2.2.1 bt107.2.2.2.2.2.1).bind fun t139 => (if t139 = true then (if bt123.2.2.2.2.2.2 = 0 then ((ironbarkref01_Valid.f k bt123.1 bt123.2.1 bt123.2.2.1 bt123.2.2.2.1 bt123.2.2.2.2.1 bt123.2.2.2.2.2.1).bind fun t140 => (ironbarklaw02_RuleTurns.j0 k (!t140) a0_0 a0_1 a0_2 a0_3 a0_4 a0_5)) else (ironbarklaw02_RuleTurns.j0 k false a0_0 a0_1 a0_2 a0_3 a0_4 a0_5)) else (ironbarklaw02_RuleTurns.j0 k true a0_0 a0_1 a0_2 a0_3 a0_4 a0_5))) else (if bt123.2.2.2.2.2.2 = 0 then ((ironbarkref01_Valid.f k bt123.1 bt123.2.1 bt123.2.2.1 bt123.2.2.2.1 bt123.2.2.2.2.1 bt123.2.2.2.2.2.1).bind fun t141 => (ironbarklaw02_RuleTurns.j0 k (!t141) a0_0 a0_1 a0_2 a0_3 a0_4 a0_5)) else (ironbarklaw02_RuleTurns.j0 k false a0_0 a0_1 a0_2 a0_3 a0_4 a0_5))) else (ironbarklaw02_RuleTurns.j0 k true a0_0 a0_1 a0_2 a0_3 a0_4 a0_5))) else (ironbarklaw02_RuleTurns.j0 k true a0_0 a0_1 a0_2 a0_3 a0_4 a0_5))))))) else ((ironbarklaw02_awake.f k).bind fun t106 => (some t106))) = some r := H
 have A2 := Aside0.mk A20
 clear A20
 by_cases c3 : t105 = true
 ·subst c3
  have H1 : ((rule_Binary.f a0_0 a0_1 a0_2 a0_3 a0_4 a0_5).bind fun bt107 => ((ironbarkref02_Binary.f k a0_0 a0_1 a0_2 a0_3 a0_4 a0_5).bind fun bt115 => ((rule_Decimal.f a0_0 a0_1 a0_2 a0_3 a0_4 a0_5).bind fun bt123 => ((ironbarkref02_Decimal.f k a0_0 a0_1 a0_2 a0_3 a0_4 a0_5).bind fun bt131 => (if (!(bt107.1 == bt115.1) || (!(bt107.2.1 == bt115.2.1) || (!(bt107.2.2.1 == bt115.2.2.1) || (!(bt107.2.2.2.1 == bt115.2.2.2.1) || (!(bt107.2.2.2.2.1 == bt115.2.2.2.2.1) || (!(bt107.2.2.2.2.2.1.toList == bt115.2.2.2.2.2.1.toList))))))) = true then (ironbarklaw02_RuleTurns.j0 k true a0_0 a0_1 a0_2 a0_3 a0_4 a0_5) else (if bt107.2.2.2.2.2.2 = bt115.2.2.2.2.2.2 then (if (!(bt123.1 == bt131.1) || (!(bt123.2.1 == bt131.2.1) || (!(bt123.2.2.1 == bt131.2.2.1) || (!(bt123.2.2.2.1 == bt131.2.2.2.1) || (!(bt123.2.2.2.2.1 == bt131.2.2.2.2.1) || (!(bt123.2.2.2.2.2.1.toList == bt131.2.2.2.2.2.1.toList))))))) = true then (ironbarklaw02_RuleTurns.j0 k true a0_0 a0_1 a0_2 a0_3 a0_4 a0_5) else (if bt123.2.2.2.2.2.2 = bt131.2.2.2.2.2.2 then (if bt107.2.2.2.2.2.2 = 0 then ((ironbarkref01_Valid.f k bt107.1 bt107.2.1 bt107.2.2.1 bt107.2.2.2.1 bt107.2.2.2.2.1 bt107.2.2.2.2.2.1).bind fun t139 => (if t139 = true then (if bt123.2.2.2.2.2.2 = 0 then ((ironbarkref01_Valid.f k bt123.1 bt123.2.1 bt123.2.2.1 bt123.2.2.2.1 bt123.2.2.2.2.1 bt123.2.2.2.2.2.1).bind fun t140 => (ironbarklaw02_RuleTurns.j0 k (!t140) a0_0 a0_1 a0_2 a0_3 a0_4 a0_5)) else (ironbarklaw02_RuleTurns.j0 k false a0_0 a0_1 a0_2 a0_3 a0_4 a0_5)) else (ironbarklaw02_RuleTurns.j0 k true a0_0 a0_1 a0_2 a0_3 a0_4 a0_5))) else (if bt123.2.2.2.2.2.2 = 0 then ((ironbarkref01_Valid.f k bt123.1 bt123.2.1 bt123.2.2.1 bt123.2.2.2.1 bt123.2.2.2.2.1 bt123.2.2.2.2.2.1).bind fun t141 => (ironbarklaw02_RuleTurns.j0 k (!t141) a0_0 a0_1 a0_2 a0_3 a0_4 a0_5)) else (ironbarklaw02_RuleTurns.j0 k false a0_0 a0_1 a0_2 a0_3 a0_4 a0_5))) else (ironbarklaw02_RuleTurns.j0 k true a0_0 a0_1 a0_2 a0_3 a0_4 a0_5))) else (ironbarklaw02_RuleTurns.j0 k true a0_0 a0_1 a0_2 a0_3 a0_4 a0_5))))))) = some r := by rw [if_pos rfl] at H; exact H
  clear H
  have H := H1
  clear H1
  replace H := Option.bind_eq_some_iff.mp H
  obtain ⟨⟨t107, t108, t109, t110, t111, t112, t113⟩, A40, H⟩ := H
  replace H : ((ironbarkref02_Binary.f k a0_0 a0_1 a0_2 a0_3 a0_4 a0_5).bind fun bt115 => ((rule_Decimal.f a0_0 a0_1 a0_2 a0_3 a0_4 a0_5).bind fun bt123 => ((ironbarkref02_Decimal.f k a0_0 a0_1 a0_2 a0_3 a0_4 a0_5).bind fun bt131 => (if (!(t107 == bt115.1) || (!(t108 == bt115.2.1) || (!(t109 == bt115.2.2.1) || (!(t110 == bt115.2.2.2.1) || (!(t111 == bt115.2.2.2.2.1) || (!(t112.toList == bt115.2.2.2.2.2.1.toList))))))) = true then (ironbarklaw02_RuleTurns.j0 k true a0_0 a0_1 a0_2 a0_3 a0_4 a0_5) else (if t113 = bt115.2.2.2.2.2.2 then (if (!(bt123.1 == bt131.1) || (!(bt123.2.1 == bt131.2.1) || (!(bt123.2.2.1 == bt131.2.2.1) || (!(bt123.2.2.2.1 == bt131.2.2.2.1) || (!(bt123.2.2.2.2.1 == bt131.2.2.2.2.1) || (!(bt123.2.2.2.2.2.1.toList == bt131.2.2.2.2.2.1.toList))))))) = true then (ironbarklaw02_RuleTurns.j0 k true a0_0 a0_1 a0_2 a0_3 a0_4 a0_5) else (if bt123.2.2.2.2.2.2 = bt131.2.2.2.2.2.2 then (if t113 = 0 then ((ironbarkref01_Valid.f k t107 t108 t109 t110 t111 t112).bind fun t139 => (if t139 = true then (if bt123.2.2.2.2.2.2 = 0 then ((ironbarkref01_Valid.f k bt123.1 bt123.2.1 bt123.2.2.1 bt123.2.2.2.1 bt123.2.2.2.2.1 bt123.2.2.2.2.2.1).bind fun t140 => (ironbarklaw02_RuleTurns.j0 k (!t140) a0_0 a0_1 a0_2 a0_3 a0_4 a0_5)) else (ironbarklaw02_RuleTurns.j0 k false a0_0 a0_1 a0_2 a0_3 a0_4 a0_5)) else (ironbarklaw02_RuleTurns.j0 k true a0_0 a0_1 a0_2 a0_3 a0_4 a0_5))) else (if bt123.2.2.2.2.2.2 = 0 then ((ironbarkref01_Valid.f k bt123.1 bt123.2.1 bt123.2.2.1 bt123.2.2.2.1 bt123.2.2.2.2.1 bt123.2.2.2.2.2.1).bind fun t141 => (ironbarklaw02_RuleTurns.j0 k (!t141) a0_0 a0_1 a0_2 a0_3 a0_4 a0_5)) else (ironbarklaw02_RuleTurns.j0 k false a0_0 a0_1 a0_2 a0_3 a0_4 a0_5))) else (ironbarklaw02_RuleTurns.j0 k true a0_0 a0_1 a0_2 a0_3 a0_4 a0_5))) else (ironbarklaw02_RuleTurns.j0 k true a0_0 a0_1 a0_2 a0_3 a0_4 a0_5)))))) = some r := H
  have A4 := Aside0.mk A40
  clear A40
  replace H := Option.bind_eq_some_iff.mp H
  obtain ⟨⟨t115, t116, t117, t118, t119, t120, t121⟩, A50, H⟩ := H
  replace H : ((rule_Decimal.f a0_0 a0_1 a0_2 a0_3 a0_4 a0_5).bind fun bt123 => ((ironbarkref02_Decimal.f k a0_0 a0_1 a0_2 a0_3 a0_4 a0_5).bind fun bt131 => (if (!(t107 == t115) || (!(t108 == t116) || (!(t109 == t117) || (!(t110 == t118) || (!(t111 == t119) || (!(t112.toList == t120.toList))))))) = true then (ironbarklaw02_RuleTurns.j0 k true a0_0 a0_1 a0_2 a0_3 a0_4 a0_5) else (if t113 = t121 then (if (!(bt123.1 == bt131.1) || (!(bt123.2.1 == bt131.2.1) || (!(bt123.2.2.1 == bt131.2.2.1) || (!(bt123.2.2.2.1 == bt131.2.2.2.1) || (!(bt123.2.2.2.2.1 == bt131.2.2.2.2.1) || (!(bt123.2.2.2.2.2.1.toList == bt131.2.2.2.2.2.1.toList))))))) = true then (ironbarklaw02_RuleTurns.j0 k true a0_0 a0_1 a0_2 a0_3 a0_4 a0_5) else (if bt123.2.2.2.2.2.2 = bt131.2.2.2.2.2.2 then (if t113 = 0 then ((ironbarkref01_Valid.f k t107 t108 t109 t110 t111 t112).bind fun t139 => (if t139 = true then (if bt123.2.2.2.2.2.2 = 0 then ((ironbarkref01_Valid.f k bt123.1 bt123.2.1 bt123.2.2.1 bt123.2.2.2.1 bt123.2.2.2.2.1 bt123.2.2.2.2.2.1).bind fun t140 => (ironbarklaw02_RuleTurns.j0 k (!t140) a0_0 a0_1 a0_2 a0_3 a0_4 a0_5)) else (ironbarklaw02_RuleTurns.j0 k false a0_0 a0_1 a0_2 a0_3 a0_4 a0_5)) else (ironbarklaw02_RuleTurns.j0 k true a0_0 a0_1 a0_2 a0_3 a0_4 a0_5))) else (if bt123.2.2.2.2.2.2 = 0 then ((ironbarkref01_Valid.f k bt123.1 bt123.2.1 bt123.2.2.1 bt123.2.2.2.1 bt123.2.2.2.2.1 bt123.2.2.2.2.2.1).bind fun t141 => (ironbarklaw02_RuleTurns.j0 k (!t141) a0_0 a0_1 a0_2 a0_3 a0_4 a0_5)) else (ironbarklaw02_RuleTurns.j0 k false a0_0 a0_1 a0_2 a0_3 a0_4 a0_5))) else (ironbarklaw02_RuleTurns.j0 k true a0_0 a0_1 a0_2 a0_3 a0_4 a0_5))) else (ironbarklaw02_RuleTurns.j0 k true a0_0 a0_1 a0_2 a0_3 a0_4 a0_5))))) = some r := H
  have A5 := Aside0.mk A50
  clear A50
  replace H := Option.bind_eq_some_iff.mp H
  obtain ⟨⟨t123, t124, t125, t126, t127, t128, t129⟩, A60, H⟩ := H
  replace H : ((ironbarkref02_Decimal.f k a0_0 a0_1 a0_2 a0_3 a0_4 a0_5).bind fun bt131 => (if (!(t107 == t115) || (!(t108 == t116) || (!(t109 == t117) || (!(t110 == t118) || (!(t111 == t119) || (!(t112.toList == t120.toList))))))) = true then (ironbarklaw02_RuleTurns.j0 k true a0_0 a0_1 a0_2 a0_3 a0_4 a0_5) else (if t113 = t121 then (if (!(t123 == bt131.1) || (!(t124 == bt131.2.1) || (!(t125 == bt131.2.2.1) || (!(t126 == bt131.2.2.2.1) || (!(t127 == bt131.2.2.2.2.1) || (!(t128.toList == bt131.2.2.2.2.2.1.toList))))))) = true then (ironbarklaw02_RuleTurns.j0 k true a0_0 a0_1 a0_2 a0_3 a0_4 a0_5) else (if t129 = bt131.2.2.2.2.2.2 then (if t113 = 0 then ((ironbarkref01_Valid.f k t107 t108 t109 t110 t111 t112).bind fun t139 => (if t139 = true then (if t129 = 0 then ((ironbarkref01_Valid.f k t123 t124 t125 t126 t127 t128).bind fun t140 => (ironbarklaw02_RuleTurns.j0 k (!t140) a0_0 a0_1 a0_2 a0_3 a0_4 a0_5)) else (ironbarklaw02_RuleTurns.j0 k false a0_0 a0_1 a0_2 a0_3 a0_4 a0_5)) else (ironbarklaw02_RuleTurns.j0 k true a0_0 a0_1 a0_2 a0_3 a0_4 a0_5))) else (if t129 = 0 then ((ironbarkref01_Valid.f k t123 t124 t125 t126 t127 t128).bind fun t141 => (ironbarklaw02_RuleTurns.j0 k (!t141) a0_0 a0_1 a0_2 a0_3 a0_4 a0_5)) else (ironbarklaw02_RuleTurns.j0 k false a0_0 a0_1 a0_2 a0_3 a0_4 a0_5))) else (ironbarklaw02_RuleTurns.j0 k true a0_0 a0_1 a0_2 a0_3 a0_4 a0_5))) else (ironbarklaw02_RuleTurns.j0 k true a0_0 a0_1 a0_2 a0_3 a0_4 a0_5)))) = some r := H
  have A6 := Aside0.mk A60
  clear A60
  replace H := Option.bind_eq_some_iff.mp H
  obtain ⟨⟨t131, t132, t133, t134, t135, t136, t137⟩, A70, H⟩ := H
  replace H : (if (!(t107 == t115) || (!(t108 == t116) || (!(t109 == t117) || (!(t110 == t118) || (!(t111 == t119) || (!(t112.toList == t120.toList))))))) = true then (ironbarklaw02_RuleTurns.j0 k true a0_0 a0_1 a0_2 a0_3 a0_4 a0_5) else (if t113 = t121 then (if (!(t123 == t131) || (!(t124 == t132) || (!(t125 == t133) || (!(t126 == t134) || (!(t127 == t135) || (!(t128.toList == t136.toList))))))) = true then (ironbarklaw02_RuleTurns.j0 k true a0_0 a0_1 a0_2 a0_3 a0_4 a0_5) else (if t129 = t137 then (if t113 = 0 then ((ironbarkref01_Valid.f k t107 t108 t109 t110 t111 t112).bind fun t139 => (if t139 = true then (if t129 = 0 then ((ironbarkref01_Valid.f k t123 t124 t125 t126 t127 t128).bind fun t140 => (ironbarklaw02_RuleTurns.j0 k (!t140) a0_0 a0_1 a0_2 a0_3 a0_4 a0_5)) else (ironbarklaw02_RuleTurns.j0 k false a0_0 a0_1 a0_2 a0_3 a0_4 a0_5)) else (ironbarklaw02_RuleTurns.j0 k true a0_0 a0_1 a0_2 a0_3 a0_4 a0_5))) else (if t129 = 0 then ((ironbarkref01_Valid.f k t123 t124 t125 t126 t127 t128).bind fun t141 => (ironbarklaw02_RuleTurns.j0 k (!t141) a0_0 a0_1 a0_2 a0_3 a0_4 a0_5)) else (ironbarklaw02_RuleTurns.j0 k false a0_0 a0_1 a0_2 a0_3 a0_4 a0_5))) else (ironbarklaw02_RuleTurns.j0 k true a0_0 a0_1 a0_2 a0_3 a0_4 a0_5))) else (ironbarklaw02_RuleTurns.j0 k true a0_0 a0_1 a0_2 a0_3 a0_4 a0_5))) = some r := H
  have A7 := Aside0.mk A70
  clear A70
  have HC8 := Aside0.mk H
  clear H
  go_enter Try.func6, Try.ntmps6
  go_upto_region 7 with (first | ((with_reducible refine gate_dst (N := 1) rfl ?_); refine box_event ?hg (N := 1) ?hd (cs := #[.int .i64 a0_0, .int .i64 a0_1, .int .i64 a0_2, .int .i64 a0_3, .bool a0_4, .string a0_5]) (t := 25) ?hr ?_; (case hd => rfl); (case hg => rfl); (case hr => first | (go_simp; done) | (go_simp; rfl)); intro gb101 hg w9 hbox hb; have n0_ := Aside0.mk (below_step (by repeat (first | (with_reducible first | exact HB.out | apply below_alloc | apply pw_below_drewN | apply below_drew1) | exact HB.out)) hb); have n1_ := Aside0.mk (hbox); have n2_ := Aside0.mk ((by rw [hg]; exact (below_size (by repeat (first | (with_reducible first | exact HB.out | apply below_alloc | apply pw_below_drewN | apply below_drew1) | exact HB.out))) : w.heap.size ≤ gb101)); have n3_ := n2_; clear HB; have HB := n0_; have BK101 := n1_; have GW101 := n2_; have GE101 := n3_; clear n0_ n1_ n2_ n3_; clear hb hbox hg; have hcz10_0 : w9.cell? ⟨gb101, 0, none⟩ = some (.int .i64 a0_0) := (blk_cell BK101.out 0).trans rfl; have hcz10_1 : w9.cell? ⟨gb101, 1, none⟩ = some (.int .i64 a0_1) := (blk_cell BK101.out 1).trans rfl; have hcz10_2 : w9.cell? ⟨gb101, 2, none⟩ = some (.int .i64 a0_2) := (blk_cell BK101.out 2).trans rfl; have hcz10_3 : w9.cell? ⟨gb101, 3, none⟩ = some (.int .i64 a0_3) := (blk_cell BK101.out 3).trans rfl; have hcz10_4 : w9.cell? ⟨gb101, 4, none⟩ = some (.bool a0_4) := (blk_cell BK101.out 4).trans rfl; have hcz10_5 : w9.cell? ⟨gb101, 5, none⟩ = some (.string a0_5) := (blk_cell BK101.out 5).trans rfl; have hfz10_0 := blk_frozen BK101.out 0; have hfz10_1 := blk_frozen BK101.out 1; have hfz10_2 := blk_frozen BK101.out 2; have hfz10_3 := blk_frozen BK101.out 3; have hfz10_4 := blk_frozen BK101.out 4; have hfz10_5 := blk_frozen BK101.out 5) | ((with_reducible refine gate_dst (N := 12) rfl ?_); refine Kd.R_lit k25 _ 25 ?hg (N := 12) ?hd (xs := ([(⟨a0_0, a0_1, a0_2, a0_3, a0_4, a0_5⟩ : S25)] : List (S25))) (inner := [.int .i64 a0_0, .int .i64 a0_1, .int .i64 a0_2, .int .i64 a0_3, .bool a0_4, .string a0_5]) (ok := fun _ => True) (okp := fun _ => True) ?hr ?hp (fun _ hk => hk) trivial (Below.refl _ _) (Nat.le_refl _) (by simp) ?_; (case hd => rfl); (case hg => rfl); (case hr => first | (go_simp; done) | (go_simp; rfl)); (case hp => exact (Reps.c6 (show Kd.M k25 _ _ _ (⟨a0_0, a0_1, a0_2, a0_3, a0_4, a0_5⟩ : S25) [.int .i64 a0_0, .int .i64 a0_1, .int .i64 a0_2, .int .i64 a0_3, .bool a0_4, .string a0_5] from (k25_mkM _ _ _ (⟨a0_0, a0_1, a0_2, a0_3, a0_4, a0_5⟩ : S25) )) (Reps.none _ _))); intro v103 w11 ho12 hb hg_ hnew_; clear hg_ hnew_; (first | rw [← Ny102.out] at ho12 | (simp only [Int.reduceToNat] at ho12; rw [← Ny102.out] at ho12)); have n0_ := Aside0.mk (Kd.R_lower (Kd.R_newB ho12 (g := gb101) (o := .cells #[.int .i64 a0_0, .int .i64 a0_1, .int .i64 a0_2, .int .i64 a0_3, .bool a0_4, .string a0_5] 25 (0, 0)) (by (with_reducible repeat (first | refine blk_drewN ?_ _ | refine blk_drew ?_ | refine blk_alloc ?_ _)); exact BK101.out)) (below_size (by repeat (first | (with_reducible first | exact HB.out | apply below_alloc | apply pw_below_drewN | apply below_drew1 | refine below_set ?_ GE101.out) | exact HB.out)))); have n1_ := Aside0.mk (blk_below (g := gb101) (o := .cells #[.int .i64 a0_0, .int .i64 a0_1, .int .i64 a0_2, .int .i64 a0_3, .bool a0_4, .string a0_5] 25 (0, 0)) (by (with_reducible repeat (first | refine blk_drewN ?_ _ | refine blk_drew ?_ | refine blk_alloc ?_ _)); exact BK101.out) hb); have n2_ := Aside0.mk (below_step (by repeat (first | (with_reducible first | exact HB.out | apply below_alloc | apply pw_below_drewN | apply below_drew1 | refine below_set ?_ GE101.out) | exact HB.out)) hb); clear BK101; clear HB; have HO104 := n0_; have BK101 := n1_; have HB := n2_; clear n0_ n1_ n2_; clear hb ho12; obtain ⟨Ao13, co13, eo13⟩ := Kd.R_slice HO104.out; subst eo13) | ((with_reducible refine gate_callee (f := 16) rfl ?_); refine goesL_ (some 13) rfl rfl Try.func16 (by kernel_rfl) rfl #[.slice Ao13 y102.length co13] rfl (by (try simp only [List.map_toArray, List.map_cons, List.map_nil]); first | done | rfl | (simp only [List.length_drop, List.length_take]; rfl)) ?_; (with_reducible refine (ironbarklaw02_light.calls k _ _ y102 true _ ?side1 ?side2 A2.out).mono ?_); (case side1 => repeat (first | exact (Kd.R_reads' HO104.out).2.2 | (with_reducible refine Kd.C_alloc ?_ _) | (with_reducible refine Kd.C_drewN ?_ _) | (with_reducible refine Kd.C_drew ?_))); (case side2 => exact (Kd.R_reads' HO104.out).2.1); rintro e w' ⟨rfl, ⟨nd, rfl⟩⟩; refine ⟨_, rfl, ?_⟩; (try (rw [drewN_self w11]; generalize hq_ : World.drewN w11 _ = w11; have n0_ : Aside0 (Kd.R k25 25 w11 w.heap.size (fun k_ => k_ ≠ gb101) (.slice Ao13 y102.length co13) y102) := ⟨by rw [← hq_]; exact (by (with_reducible repeat (first | apply Kd.R_alloc | apply Kd.R_drewN | apply Kd.R_drew)); exact Kd.R_mono HO104.out (fun _ hk => hk.2))⟩; have n1_ : Aside0 (w11.heap[gb101]? = some (.cells #[.int .i64 a0_0, .int .i64 a0_1, .int .i64 a0_2, .int .i64 a0_3, .bool a0_4, .string a0_5] 25 (0, 0))) := ⟨by rw [← hq_]; exact (by (with_reducible repeat (first | refine blk_drewN ?_ _ | refine blk_drew ?_ | refine blk_alloc ?_ _)); exact BK101.out)⟩; have n2_ : Aside0 (Below w.heap.size w w11) := ⟨by rw [← hq_]; exact (by repeat (first | (with_reducible first | exact HB.out | apply below_alloc | apply pw_below_drewN | apply below_drew1 | refine below_set ?_ GE101.out) | exact HB.out))⟩; clear HO104 BK101 HB hq_; have HO104 := n0_; have BK101 := n1_; have HB := n2_; clear n0_ n1_ n2_)); have hcz14_0 : w11.cell? ⟨gb101, 0, none⟩ = some (.int .i64 a0_0) := (blk_cell BK101.out 0).trans rfl; have hcz14_1 : w11.cell? ⟨gb101, 1, none⟩ = some (.int .i64 a0_1) := (blk_cell BK101.out 1).trans rfl; have hcz14_2 : w11.cell? ⟨gb101, 2, none⟩ = some (.int .i64 a0_2) := (blk_cell BK101.out 2).trans rfl; have hcz14_3 : w11.cell? ⟨gb101, 3, none⟩ = some (.int .i64 a0_3) := (blk_cell BK101.out 3).trans rfl; have hcz14_4 : w11.cell? ⟨gb101, 4, none⟩ = some (.bool a0_4) := (blk_cell BK101.out 4).trans rfl; have hcz14_5 : w11.cell? ⟨gb101, 5, none⟩ = some (.string a0_5) := (blk_cell BK101.out 5).trans rfl; have hfz14_0 := blk_frozen BK101.out 0; have hfz14_1 := blk_frozen BK101.out 1; have hfz14_2 := blk_frozen BK101.out 2; have hfz14_3 := blk_frozen BK101.out 3; have hfz14_4 := blk_frozen BK101.out 4; have hfz14_5 := blk_frozen BK101.out 5) | ((with_reducible refine gate_callee (f := 24) rfl ?_); refine goesL_ (some 18) rfl rfl Try.func24 (by kernel_rfl) rfl #[.agg #[.int .i64 a0_0, .int .i64 a0_1, .int .i64 a0_2, .int .i64 a0_3, .bool a0_4, .string a0_5]] rfl (by (try simp only [List.map_toArray, List.map_cons, List.map_nil]); first | done | rfl | (simp only [List.length_drop, List.length_take]; rfl)) ?_; (with_reducible refine (rule_Binary.calls a0_0 a0_1 a0_2 a0_3 a0_4 a0_5 t107 t108 t109 t110 t111 t112 t113 _ A4.out).mono ?_); rintro e w15 ⟨rfl, hb⟩; refine ⟨_, rfl, ?_⟩; have n0_ := Aside0.mk (Kd.R_below (by (with_reducible repeat (first | apply Kd.R_alloc | apply Kd.R_drewN | apply Kd.R_drew)); exact HO104.out) hb); have n1_ := Aside0.mk (blk_below (g := gb101) (o := .cells #[.int .i64 a0_0, .int .i64 a0_1, .int .i64 a0_2, .int .i64 a0_3, .bool a0_4, .string a0_5] 25 (0, 0)) (by (with_reducible repeat (first | refine blk_drewN ?_ _ | refine blk_drew ?_ | refine blk_alloc ?_ _)); exact BK101.out) hb); have n2_ := Aside0.mk (below_step (by repeat (first | (with_reducible first | exact HB.out | apply below_alloc | apply pw_below_drewN | apply below_drew1 | refine below_set ?_ GE101.out) | exact HB.out)) hb); clear HO104; clear BK101; clear HB; have HO104 := n0_; have BK101 := n1_; have HB := n2_; clear n0_ n1_ n2_; (try clear hb); (try clear hb2); (try clear hk); (try clear hi)) | ((with_reducible refine gate_dst (N := 3) rfl ?_); refine box_event ?hg (N := 3) ?hd (cs := #[.int .i64 0, .int .i64 0, .int .i64 0, .int .i64 0, .bool false, .string (⟨#[]⟩ : ByteArray)]) (t := 25) ?hr ?_; (case hd => rfl); (case hg => rfl); (case hr => first | (go_simp; done) | (go_simp; rfl)); intro gb114 hg w16 hbox hb; have n0_ := Aside0.mk (Kd.R_below (Kd.R_elderB (by (with_reducible repeat (first | apply Kd.R_alloc | apply Kd.R_drewN | apply Kd.R_drew)); exact HO104.out) gb114 (Nat.le_of_eq hg.symm)) hb); have n1_ := Aside0.mk (blk_below (g := gb101) (o := .cells #[.int .i64 a0_0, .int .i64 a0_1, .int .i64 a0_2, .int .i64 a0_3, .bool a0_4, .string a0_5] 25 (0, 0)) (by (with_reducible repeat (first | refine blk_drewN ?_ _ | refine blk_drew ?_ | refine blk_alloc ?_ _)); exact BK101.out) hb); have n2_ := Aside0.mk (below_step (by repeat (first | (with_reducible first | exact HB.out | apply below_alloc | apply pw_below_drewN | apply below_drew1 | refine below_set ?_ GE101.out) | exact HB.out)) hb); have n3_ := Aside0.mk (hbox); have n4_ := Aside0.mk ((by rw [hg]; exact (below_size (by repeat (first | (with_reducible first | exact HB.out | apply below_alloc | apply pw_below_drewN | apply below_drew1 | refine below_set ?_ GE101.out) | exact HB.out))) : w.heap.size ≤ gb114)); have n5_ := n4_; have n6_ := Aside0.mk ((by rw [hg]; exact Nat.ne_of_lt (blk_lt (g := gb101) (o := .cells #[.int .i64 a0_0, .int .i64 a0_1, .int .i64 a0_2, .int .i64 a0_3, .bool a0_4, .string a0_5] 25 (0, 0)) (by (with_reducible repeat (first | refine blk_drewN ?_ _ | refine blk_drew ?_ | refine blk_alloc ?_ _)); exact BK101.out)) : gb101 ≠ gb114)); have n7_ := Aside0.mk ((by rw [hg]; exact Nat.ne_of_gt (blk_lt (g := gb101) (o := .cells #[.int .i64 a0_0, .int .i64 a0_1, .int .i64 a0_2, .int .i64 a0_3, .bool a0_4, .string a0_5] 25 (0, 0)) (by (with_reducible repeat (first | refine blk_drewN ?_ _ | refine blk_drew ?_ | refine blk_alloc ?_ _)); exact BK101.out)) : gb114 ≠ gb101)); clear HO104; clear BK101; clear HB; have HO104 := n0_; have BK101 := n1_; have HB := n2_; have BK114 := n3_; have GW114 := n4_; have GE114 := n5_; have NB101_114 := n6_; have NB114_101 := n7_; clear n0_ n1_ n2_ n3_ n4_ n5_ n6_ n7_; clear hb hbox hg; have hnb17 := NB114_101.out; have hnc17 := NB101_114.out; have hcz18_0 : w16.cell? ⟨gb114, 0, none⟩ = some (.int .i64 0) := (blk_cell BK114.out 0).trans rfl; have hcz18_1 : w16.cell? ⟨gb114, 1, none⟩ = some (.int .i64 0) := (blk_cell BK114.out 1).trans rfl; have hcz18_2 : w16.cell? ⟨gb114, 2, none⟩ = some (.int .i64 0) := (blk_cell BK114.out 2).trans rfl; have hcz18_3 : w16.cell? ⟨gb114, 3, none⟩ = some (.int .i64 0) := (blk_cell BK114.out 3).trans rfl; have hcz18_4 : w16.cell? ⟨gb114, 4, none⟩ = some (.bool false) := (blk_cell BK114.out 4).trans rfl; have hcz18_5 : w16.cell? ⟨gb114, 5, none⟩ = some (.string (⟨#[]⟩ : ByteArray)) := (blk_cell BK114.out 5).trans rfl; have hfz18_0 := blk_frozen BK114.out 0; have hfz18_1 := blk_frozen BK114.out 1; have hfz18_2 := blk_frozen BK114.out 2; have hfz18_3 := blk_frozen BK114.out 3; have hfz18_4 := blk_frozen BK114.out 4; have hfz18_5 := blk_frozen BK114.out 5; have hcz19_0 : w16.cell? ⟨gb101, 0, none⟩ = some (.int .i64 a0_0) := (blk_cell BK101.out 0).trans rfl; have hcz19_1 : w16.cell? ⟨gb101, 1, none⟩ = some (.int .i64 a0_1) := (blk_cell BK101.out 1).trans rfl; have hcz19_2 : w16.cell? ⟨gb101, 2, none⟩ = some (.int .i64 a0_2) := (blk_cell BK101.out 2).trans rfl; have hcz19_3 : w16.cell? ⟨gb101, 3, none⟩ = some (.int .i64 a0_3) := (blk_cell BK101.out 3).trans rfl; have hcz19_4 : w16.cell? ⟨gb101, 4, none⟩ = some (.bool a0_4) := (blk_cell BK101.out 4).trans rfl; have hcz19_5 : w16.cell? ⟨gb101, 5, none⟩ = some (.string a0_5) := (blk_cell BK101.out 5).trans rfl; have hfz19_0 := blk_frozen BK101.out 0; have hfz19_1 := blk_frozen BK101.out 1; have hfz19_2 := blk_frozen BK101.out 2; have hfz19_3 := blk_frozen BK101.out 3; have hfz19_4 := blk_frozen BK101.out 4; have hfz19_5 := blk_frozen BK101.out 5) | ((with_reducible refine gate_callee (f := 25) rfl ?_); refine goesL_ (some 23) rfl rfl Try.func25 (by kernel_rfl) rfl #[.agg #[.int .i64 a0_0, .int .i64 a0_1, .int .i64 a0_2, .int .i64 a0_3, .bool a0_4, .string a0_5]] rfl (by (try simp only [List.map_toArray, List.map_cons, List.map_nil]); first | done | rfl | (simp only [List.length_drop, List.length_take]; rfl)) ?_; (with_reducible refine (ironbarkref02_Binary.calls k a0_0 a0_1 a0_2 a0_3 a0_4 a0_5 t115 t116 t117 t118 t119 t120 t121 _ A5.out).mono ?_); rintro e w20 ⟨rfl, hb⟩; refine ⟨_, rfl, ?_⟩; have n0_ := Aside0.mk (Kd.R_below (by (with_reducible repeat (first | apply Kd.R_alloc | apply Kd.R_drewN | apply Kd.R_drew)); exact (Kd.R_mono (Kd.R_far (p := ⟨gb114, 5, none⟩) (Kd.R_far (p := ⟨gb114, 4, none⟩) (Kd.R_far (p := ⟨gb114, 3, none⟩) (Kd.R_far (p := ⟨gb114, 2, none⟩) (Kd.R_far (p := ⟨gb114, 1, none⟩) (Kd.R_far (p := ⟨gb114, 0, none⟩) (Kd.R_mono HO104.out (fun k_ hk => (⟨hk, hk.2⟩ : _ ∧ k_ ≠ gb114))) (fun _ hk => hk.2) (.int .i64 t107)) (fun _ hk => hk.2) (.int .i64 t108)) (fun _ hk => hk.2) (.int .i64 t109)) (fun _ hk => hk.2) (.int .i64 t110)) (fun _ hk => hk.2) (.bool t111)) (fun _ hk => hk.2) (.string t112)) (fun _ h_ => h_.1))) hb); have n1_ := Aside0.mk (blk_below (g := gb101) (o := .cells #[.int .i64 a0_0, .int .i64 a0_1, .int .i64 a0_2, .int .i64 a0_3, .bool a0_4, .string a0_5] 25 (0, 0)) (by (with_reducible repeat (first | refine blk_drewN ?_ _ | refine blk_drew ?_ | refine blk_alloc ?_ _)); refine blk_far ?_ NB101_114.out _; (with_reducible repeat (first | refine blk_drewN ?_ _ | refine blk_drew ?_ | refine blk_alloc ?_ _)); refine blk_far ?_ NB101_114.out _; (with_reducible repeat (first | refine blk_drewN ?_ _ | refine blk_drew ?_ | refine blk_alloc ?_ _)); refine blk_far ?_ NB101_114.out _; (with_reducible repeat (first | refine blk_drewN ?_ _ | refine blk_drew ?_ | refine blk_alloc ?_ _)); refine blk_far ?_ NB101_114.out _; (with_reducible repeat (first | refine blk_drewN ?_ _ | refine blk_drew ?_ | refine blk_alloc ?_ _)); refine blk_far ?_ NB101_114.out _; (with_reducible repeat (first | refine blk_drewN ?_ _ | refine blk_drew ?_ | refine blk_alloc ?_ _)); refine blk_far ?_ NB101_114.out _; (with_reducible repeat (first | refine blk_drewN ?_ _ | refine blk_drew ?_ | refine blk_alloc ?_ _)); exact BK101.out) hb); have n2_ := Aside0.mk (blk_below (g := gb114) (o := .cells #[.int .i64 t107, .int .i64 t108, .int .i64 t109, .int .i64 t110, .bool t111, .string t112] 25 (0, 0)) (by (with_reducible repeat (first | refine blk_drewN ?_ _ | refine blk_drew ?_ | refine blk_alloc ?_ _)); refine blk_put (cs := #[.int .i64 t107, .int .i64 t108, .int .i64 t109, .int .i64 t110, .bool t111, .string (⟨#[]⟩ : ByteArray)]) ?_ 5 _ rfl; (with_reducible repeat (first | refine blk_drewN ?_ _ | refine blk_drew ?_ | refine blk_alloc ?_ _)); refine blk_put (cs := #[.int .i64 t107, .int .i64 t108, .int .i64 t109, .int .i64 t110, .bool false, .string (⟨#[]⟩ : ByteArray)]) ?_ 4 _ rfl; (with_reducible repeat (first | refine blk_drewN ?_ _ | refine blk_drew ?_ | refine blk_alloc ?_ _)); refine blk_put (cs := #[.int .i64 t107, .int .i64 t108, .int .i64 t109, .int .i64 0, .bool false, .string (⟨#[]⟩ : ByteArray)]) ?_ 3 _ rfl; (with_reducible repeat (first | refine blk_drewN ?_ _ | refine blk_drew ?_ | refine blk_alloc ?_ _)); refine blk_put (cs := #[.int .i64 t107, .int .i64 t108, .int .i64 0, .int .i64 0, .bool false, .string (⟨#[]⟩ : ByteArray)]) ?_ 2 _ rfl; (with_reducible repeat (first | refine blk_drewN ?_ _ | refine blk_drew ?_ | refine blk_alloc ?_ _)); refine blk_put (cs := #[.int .i64 t107, .int .i64 0, .int .i64 0, .int .i64 0, .bool false, .string (⟨#[]⟩ : ByteArray)]) ?_ 1 _ rfl; (with_reducible repeat (first | refine blk_drewN ?_ _ | refine blk_drew ?_ | refine blk_alloc ?_ _)); refine blk_put (cs := #[.int .i64 0, .int .i64 0, .int .i64 0, .int .i64 0, .bool false, .string (⟨#[]⟩ : ByteArray)]) ?_ 0 _ rfl; (with_reducible repeat (first | refine blk_drewN ?_ _ | refine blk_drew ?_ | refine blk_alloc ?_ _)); exact BK114.out) hb); have n3_ := Aside0.mk (below_step (by repeat (first | (with_reducible first | exact HB.out | apply below_alloc | apply pw_below_drewN | apply below_drew1 | refine below_set ?_ GE101.out | refine below_set ?_ GE114.out) | exact HB.out)) hb); clear HO104; clear BK101; clear BK114; clear HB; have HO104 := n0_; have BK101 := n1_; have BK114 := n2_; have HB := n3_; clear n0_ n1_ n2_ n3_; (try clear hb); (try clear hb2); (try clear hk); (try clear hi)) | ((with_reducible refine gate_dst (N := 5) rfl ?_); refine box_event ?hg (N := 5) ?hd (cs := #[.int .i64 0, .int .i64 0, .int .i64 0, .int .i64 0, .bool false, .string (⟨#[]⟩ : ByteArray)]) (t := 25) ?hr ?_; (case hd => rfl); (case hg => rfl); (case hr => first | (go_simp; done) | (go_simp; rfl)); intro gb122 hg w21 hbox hb; have n0_ := Aside0.mk (Kd.R_below (Kd.R_elderB (by (with_reducible repeat (first | apply Kd.R_alloc | apply Kd.R_drewN | apply Kd.R_drew)); exact HO104.out) gb122 (Nat.le_of_eq hg.symm)) hb); have n1_ := Aside0.mk (blk_below (g := gb101) (o := .cells #[.int .i64 a0_0, .int .i64 a0_1, .int .i64 a0_2, .int .i64 a0_3, .bool a0_4, .string a0_5] 25 (0, 0)) (by (with_reducible repeat (first | refine blk_drewN ?_ _ | refine blk_drew ?_ | refine blk_alloc ?_ _)); exact BK101.out) hb); have n2_ := Aside0.mk (blk_below (g := gb114) (o := .cells #[.int .i64 t107, .int .i64 t108, .int .i64 t109, .int .i64 t110, .bool t111, .string t112] 25 (0, 0)) (by (with_reducible repeat (first | refine blk_drewN ?_ _ | refine blk_drew ?_ | refine blk_alloc ?_ _)); exact BK114.out) hb); have n3_ := Aside0.mk (below_step (by repeat (first | (with_reducible first | exact HB.out | apply below_alloc | apply pw_below_drewN | apply below_drew1 | refine below_set ?_ GE101.out | refine below_set ?_ GE114.out) | exact HB.out)) hb); have n4_ := Aside0.mk (hbox); have n5_ := Aside0.mk ((by rw [hg]; exact (below_size (by repeat (first | (with_reducible first | exact HB.out | apply below_alloc | apply pw_below_drewN | apply below_drew1 | refine below_set ?_ GE101.out | refine below_set ?_ GE114.out) | exact HB.out))) : w.heap.size ≤ gb122)); have n6_ := n5_; have n7_ := Aside0.mk ((by rw [hg]; exact Nat.ne_of_lt (blk_lt (g := gb101) (o := .cells #[.int .i64 a0_0, .int .i64 a0_1, .int .i64 a0_2, .int .i64 a0_3, .bool a0_4, .string a0_5] 25 (0, 0)) (by (with_reducible repeat (first | refine blk_drewN ?_ _ | refine blk_drew ?_ | refine blk_alloc ?_ _)); exact BK101.out)) : gb101 ≠ gb122)); have n8_ := Aside0.mk ((by rw [hg]; exact Nat.ne_of_gt (blk_lt (g := gb101) (o := .cells #[.int .i64 a0_0, .int .i64 a0_1, .int .i64 a0_2, .int .i64 a0_3, .bool a0_4, .string a0_5] 25 (0, 0)) (by (with_reducible repeat (first | refine blk_drewN ?_ _ | refine blk_drew ?_ | refine blk_alloc ?_ _)); exact BK101.out)) : gb122 ≠ gb101)); have n9_ := Aside0.mk ((by rw [hg]; exact Nat.ne_of_lt (blk_lt (g := gb114) (o := .cells #[.int .i64 t107, .int .i64 t108, .int .i64 t109, .int .i64 t110, .bool t111, .string t112] 25 (0, 0)) (by (with_reducible repeat (first | refine blk_drewN ?_ _ | refine blk_drew ?_ | refine blk_alloc ?_ _)); exact BK114.out)) : gb114 ≠ gb122)); have n10_ := Aside0.mk ((by rw [hg]; exact Nat.ne_of_gt (blk_lt (g := gb114) (o := .cells #[.int .i64 t107, .int .i64 t108, .int .i64 t109, .int .i64 t110, .bool t111, .string t112] 25 (0, 0)) (by (with_reducible repeat (first | refine blk_drewN ?_ _ | refine blk_drew ?_ | refine blk_alloc ?_ _)); exact BK114.out)) : gb122 ≠ gb114)); clear HO104; clear BK101; clear BK114; clear HB; have HO104 := n0_; have BK101 := n1_; have BK114 := n2_; have HB := n3_; have BK122 := n4_; have GW122 := n5_; have GE122 := n6_; have NB101_122 := n7_; have NB122_101 := n8_; have NB114_122 := n9_; have NB122_114 := n10_; clear n0_ n1_ n2_ n3_ n4_ n5_ n6_ n7_ n8_ n9_ n10_; clear hb hbox hg; have hnb22 := NB122_101.out; have hnc22 := NB101_122.out; have hnb23 := NB122_114.out; have hnc23 := NB114_122.out; have hcz24_0 : w21.cell? ⟨gb122, 0, none⟩ = some (.int .i64 0) := (blk_cell BK122.out 0).trans rfl; have hcz24_1 : w21.cell? ⟨gb122, 1, none⟩ = some (.int .i64 0) := (blk_cell BK122.out 1).trans rfl; have hcz24_2 : w21.cell? ⟨gb122, 2, none⟩ = some (.int .i64 0) := (blk_cell BK122.out 2).trans rfl; have hcz24_3 : w21.cell? ⟨gb122, 3, none⟩ = some (.int .i64 0) := (blk_cell BK122.out 3).trans rfl; have hcz24_4 : w21.cell? ⟨gb122, 4, none⟩ = some (.bool false) := (blk_cell BK122.out 4).trans rfl; have hcz24_5 : w21.cell? ⟨gb122, 5, none⟩ = some (.string (⟨#[]⟩ : ByteArray)) := (blk_cell BK122.out 5).trans rfl; have hfz24_0 := blk_frozen BK122.out 0; have hfz24_1 := blk_frozen BK122.out 1; have hfz24_2 := blk_frozen BK122.out 2; have hfz24_3 := blk_frozen BK122.out 3; have hfz24_4 := blk_frozen BK122.out 4; have hfz24_5 := blk_frozen BK122.out 5; have hcz25_0 : w21.cell? ⟨gb101, 0, none⟩ = some (.int .i64 a0_0) := (blk_cell BK101.out 0).trans rfl; have hcz25_1 : w21.cell? ⟨gb101, 1, none⟩ = some (.int .i64 a0_1) := (blk_cell BK101.out 1).trans rfl; have hcz25_2 : w21.cell? ⟨gb101, 2, none⟩ = some (.int .i64 a0_2) := (blk_cell BK101.out 2).trans rfl; have hcz25_3 : w21.cell? ⟨gb101, 3, none⟩ = some (.int .i64 a0_3) := (blk_cell BK101.out 3).trans rfl; have hcz25_4 : w21.cell? ⟨gb101, 4, none⟩ = some (.bool a0_4) := (blk_cell BK101.out 4).trans rfl; have hcz25_5 : w21.cell? ⟨gb101, 5, none⟩ = some (.string a0_5) := (blk_cell BK101.out 5).trans rfl; have hfz25_0 := blk_frozen BK101.out 0; have hfz25_1 := blk_frozen BK101.out 1; have hfz25_2 := blk_frozen BK101.out 2; have hfz25_3 := blk_frozen BK101.out 3; have hfz25_4 := blk_frozen BK101.out 4; have hfz25_5 := blk_frozen BK101.out 5) | ((with_reducible refine gate_callee (f := 26) rfl ?_); refine goesL_ (some 28) rfl rfl Try.func26 (by kernel_rfl) rfl #[.agg #[.int .i64 a0_0, .int .i64 a0_1, .int .i64 a0_2, .int .i64 a0_3, .bool a0_4, .string a0_5]] rfl (by (try simp only [List.map_toArray, List.map_cons, List.map_nil]); first | done | rfl | (simp only [List.length_drop, List.length_take]; rfl)) ?_; (with_reducible refine (rule_Decimal.calls a0_0 a0_1 a0_2 a0_3 a0_4 a0_5 t123 t124 t125 t126 t127 t128 t129 _ A6.out).mono ?_); rintro e w26 ⟨rfl, hb⟩; refine ⟨_, rfl, ?_⟩; have n0_ := Aside0.mk (Kd.R_below (by (with_reducible repeat (first | apply Kd.R_alloc | apply Kd.R_drewN | apply Kd.R_drew)); exact (Kd.R_mono (Kd.R_far (p := ⟨gb122, 5, none⟩) (Kd.R_far (p := ⟨gb122, 4, none⟩) (Kd.R_far (p := ⟨gb122, 3, none⟩) (Kd.R_far (p := ⟨gb122, 2, none⟩) (Kd.R_far (p := ⟨gb122, 1, none⟩) (Kd.R_far (p := ⟨gb122, 0, none⟩) (Kd.R_mono HO104.out (fun k_ hk => (⟨hk, hk.2⟩ : _ ∧ k_ ≠ gb122))) (fun _ hk => hk.2) (.int .i64 t115)) (fun _ hk => hk.2) (.int .i64 t116)) (fun _ hk => hk.2) (.int .i64 t117)) (fun _ hk => hk.2) (.int .i64 t118)) (fun _ hk => hk.2) (.bool t119)) (fun _ hk => hk.2) (.string t120)) (fun _ h_ => h_.1))) hb); have n1_ := Aside0.mk (blk_below (g := gb101) (o := .cells #[.int .i64 a0_0, .int .i64 a0_1, .int .i64 a0_2, .int .i64 a0_3, .bool a0_4, .string a0_5] 25 (0, 0)) (by (with_reducible repeat (first | refine blk_drewN ?_ _ | refine blk_drew ?_ | refine blk_alloc ?_ _)); refine blk_far ?_ NB101_122.out _; (with_reducible repeat (first | refine blk_drewN ?_ _ | refine blk_drew ?_ | refine blk_alloc ?_ _)); refine blk_far ?_ NB101_122.out _; (with_reducible repeat (first | refine blk_drewN ?_ _ | refine blk_drew ?_ | refine blk_alloc ?_ _)); refine blk_far ?_ NB101_122.out _; (with_reducible repeat (first | refine blk_drewN ?_ _ | refine blk_drew ?_ | refine blk_alloc ?_ _)); refine blk_far ?_ NB101_122.out _; (with_reducible repeat (first | refine blk_drewN ?_ _ | refine blk_drew ?_ | refine blk_alloc ?_ _)); refine blk_far ?_ NB101_122.out _; (with_reducible repeat (first | refine blk_drewN ?_ _ | refine blk_drew ?_ | refine blk_alloc ?_ _)); refine blk_far ?_ NB101_122.out _; (with_reducible repeat (first | refine blk_drewN ?_ _ | refine blk_drew ?_ | refine blk_alloc ?_ _)); exact BK101.out) hb); have n2_ := Aside0.mk (blk_below (g := gb114) (o := .cells #[.int .i64 t107, .int .i64 t108, .int .i64 t109, .int .i64 t110, .bool t111, .string t112] 25 (0, 0)) (by (with_reducible repeat (first | refine blk_drewN ?_ _ | refine blk_drew ?_ | refine blk_alloc ?_ _)); refine blk_far ?_ NB114_122.out _; (with_reducible repeat (first | refine blk_drewN ?_ _ | refine blk_drew ?_ | refine blk_alloc ?_ _)); refine blk_far ?_ NB114_122.out _; (with_reducible repeat (first | refine blk_drewN ?_ _ | refine blk_drew ?_ | refine blk_alloc ?_ _)); refine blk_far ?_ NB114_122.out _; (with_reducible repeat (first | refine blk_drewN ?_ _ | refine blk_drew ?_ | refine blk_alloc ?_ _)); refine blk_far ?_ NB114_122.out _; (with_reducible repeat (first | refine blk_drewN ?_ _ | refine blk_drew ?_ | refine blk_alloc ?_ _)); refine blk_far ?_ NB114_122.out _; (with_reducible repeat (first | refine blk_drewN ?_ _ | refine blk_drew ?_ | refine blk_alloc ?_ _)); refine blk_far ?_ NB114_122.out _; (with_reducible repeat (first | refine blk_drewN ?_ _ | refine blk_drew ?_ | refine blk_alloc ?_ _)); exact BK114.out) hb); have n3_ := Aside0.mk (blk_below (g := gb122) (o := .cells #[.int .i64 t115, .int .i64 t116, .int .i64 t117, .int .i64 t118, .bool t119, .string t120] 25 (0, 0)) (by (with_reducible repeat (first | refine blk_drewN ?_ _ | refine blk_drew ?_ | refine blk_alloc ?_ _)); refine blk_put (cs := #[.int .i64 t115, .int .i64 t116, .int .i64 t117, .int .i64 t118, .bool t119, .string (⟨#[]⟩ : ByteArray)]) ?_ 5 _ rfl; (with_reducible repeat (first | refine blk_drewN ?_ _ | refine blk_drew ?_ | refine blk_alloc ?_ _)); refine blk_put (cs := #[.int .i64 t115, .int .i64 t116, .int .i64 t117, .int .i64 t118, .bool false, .string (⟨#[]⟩ : ByteArray)]) ?_ 4 _ rfl; (with_reducible repeat (first | refine blk_drewN ?_ _ | refine blk_drew ?_ | refine blk_alloc ?_ _)); refine blk_put (cs := #[.int .i64 t115, .int .i64 t116, .int .i64 t117, .int .i64 0, .bool false, .string (⟨#[]⟩ : ByteArray)]) ?_ 3 _ rfl; (with_reducible repeat (first | refine blk_drewN ?_ _ | refine blk_drew ?_ | refine blk_alloc ?_ _)); refine blk_put (cs := #[.int .i64 t115, .int .i64 t116, .int .i64 0, .int .i64 0, .bool false, .string (⟨#[]⟩ : ByteArray)]) ?_ 2 _ rfl; (with_reducible repeat (first | refine blk_drewN ?_ _ | refine blk_drew ?_ | refine blk_alloc ?_ _)); refine blk_put (cs := #[.int .i64 t115, .int .i64 0, .int .i64 0, .int .i64 0, .bool false, .string (⟨#[]⟩ : ByteArray)]) ?_ 1 _ rfl; (with_reducible repeat (first | refine blk_drewN ?_ _ | refine blk_drew ?_ | refine blk_alloc ?_ _)); refine blk_put (cs := #[.int .i64 0, .int .i64 0, .int .i64 0, .int .i64 0, .bool false, .string (⟨#[]⟩ : ByteArray)]) ?_ 0 _ rfl; (with_reducible repeat (first | refine blk_drewN ?_ _ | refine blk_drew ?_ | refine blk_alloc ?_ _)); exact BK122.out) hb); have n4_ := Aside0.mk (below_step (by repeat (first | (with_reducible first | exact HB.out | apply below_alloc | apply pw_below_drewN | apply below_drew1 | refine below_set ?_ GE101.out | refine below_set ?_ GE114.out | refine below_set ?_ GE122.out) | exact HB.out)) hb); clear HO104; clear BK101; clear BK114; clear BK122; clear HB; have HO104 := n0_; have BK101 := n1_; have BK114 := n2_; have BK122 := n3_; have HB := n4_; clear n0_ n1_ n2_ n3_ n4_; (try clear hb); (try clear hb2); (try clear hk); (try clear hi)) | ((with_reducible refine gate_dst (N := 7) rfl ?_); refine box_event ?hg (N := 7) ?hd (cs := #[.int .i64 0, .int .i64 0, .int .i64 0, .int .i64 0, .bool false, .string (⟨#[]⟩ : ByteArray)]) (t := 25) ?hr ?_; (case hd => rfl); (case hg => rfl); (case hr => first | (go_simp; done) | (go_simp; rfl)); intro gb130 hg w27 hbox hb; have n0_ := Aside0.mk (Kd.R_below (Kd.R_elderB (by (with_reducible repeat (first | apply Kd.R_alloc | apply Kd.R_drewN | apply Kd.R_drew)); exact HO104.out) gb130 (Nat.le_of_eq hg.symm)) hb); have n1_ := Aside0.mk (blk_below (g := gb101) (o := .cells #[.int .i64 a0_0, .int .i64 a0_1, .int .i64 a0_2, .int .i64 a0_3, .bool a0_4, .string a0_5] 25 (0, 0)) (by (with_reducible repeat (first | refine blk_drewN ?_ _ | refine blk_drew ?_ | refine blk_alloc ?_ _)); exact BK101.out) hb); have n2_ := Aside0.mk (blk_below (g := gb114) (o := .cells #[.int .i64 t107, .int .i64 t108, .int .i64 t109, .int .i64 t110, .bool t111, .string t112] 25 (0, 0)) (by (with_reducible repeat (first | refine blk_drewN ?_ _ | refine blk_drew ?_ | refine blk_alloc ?_ _)); exact BK114.out) hb); have n3_ := Aside0.mk (blk_below (g := gb122) (o := .cells #[.int .i64 t115, .int .i64 t116, .int .i64 t117, .int .i64 t118, .bool t119, .string t120] 25 (0, 0)) (by (with_reducible repeat (first | refine blk_drewN ?_ _ | refine blk_drew ?_ | refine blk_alloc ?_ _)); exact BK122.out) hb); have n4_ := Aside0.mk (below_step (by repeat (first | (with_reducible first | exact HB.out | apply below_alloc | apply pw_below_drewN | apply below_drew1 | refine below_set ?_ GE101.out | refine below_set ?_ GE114.out | refine below_set ?_ GE122.out) | exact HB.out)) hb); have n5_ := Aside0.mk (hbox); have n6_ := Aside0.mk ((by rw [hg]; exact (below_size (by repeat (first | (with_reducible first | exact HB.out | apply below_alloc | apply pw_below_drewN | apply below_drew1 | refine below_set ?_ GE101.out | refine below_set ?_ GE114.out | refine below_set ?_ GE122.out) | exact HB.out))) : w.heap.size ≤ gb130)); have n7_ := n6_; have n8_ := Aside0.mk ((by rw [hg]; exact Nat.ne_of_lt (blk_lt (g := gb101) (o := .cells #[.int .i64 a0_0, .int .i64 a0_1, .int .i64 a0_2, .int .i64 a0_3, .bool a0_4, .string a0_5] 25 (0, 0)) (by (with_reducible repeat (first | refine blk_drewN ?_ _ | refine blk_drew ?_ | refine blk_alloc ?_ _)); exact BK101.out)) : gb101 ≠ gb130)); have n9_ := Aside0.mk ((by rw [hg]; exact Nat.ne_of_gt (blk_lt (g := gb101) (o := .cells #[.int .i64 a0_0, .int .i64 a0_1, .int .i64 a0_2, .int .i64 a0_3, .bool a0_4, .string a0_5] 25 (0, 0)) (by (with_reducible repeat (first | refine blk_drewN ?_ _ | refine blk_drew ?_ | refine blk_alloc ?_ _)); exact BK101.out)) : gb130 ≠ gb101)); have n10_ := Aside0.mk ((by rw [hg]; exact Nat.ne_of_lt (blk_lt (g := gb114) (o := .cells #[.int .i64 t107, .int .i64 t108, .int .i64 t109, .int .i64 t110, .bool t111, .string t112] 25 (0, 0)) (by (with_reducible repeat (first | refine blk_drewN ?_ _ | refine blk_drew ?_ | refine blk_alloc ?_ _)); exact BK114.out)) : gb114 ≠ gb130)); have n11_ := Aside0.mk ((by rw [hg]; exact Nat.ne_of_gt (blk_lt (g := gb114) (o := .cells #[.int .i64 t107, .int .i64 t108, .int .i64 t109, .int .i64 t110, .bool t111, .string t112] 25 (0, 0)) (by (with_reducible repeat (first | refine blk_drewN ?_ _ | refine blk_drew ?_ | refine blk_alloc ?_ _)); exact BK114.out)) : gb130 ≠ gb114)); have n12_ := Aside0.mk ((by rw [hg]; exact Nat.ne_of_lt (blk_lt (g := gb122) (o := .cells #[.int .i64 t115, .int .i64 t116, .int .i64 t117, .int .i64 t118, .bool t119, .string t120] 25 (0, 0)) (by (with_reducible repeat (first | refine blk_drewN ?_ _ | refine blk_drew ?_ | refine blk_alloc ?_ _)); exact BK122.out)) : gb122 ≠ gb130)); have n13_ := Aside0.mk ((by rw [hg]; exact Nat.ne_of_gt (blk_lt (g := gb122) (o := .cells #[.int .i64 t115, .int .i64 t116, .int .i64 t117, .int .i64 t118, .bool t119, .string t120] 25 (0, 0)) (by (with_reducible repeat (first | refine blk_drewN ?_ _ | refine blk_drew ?_ | refine blk_alloc ?_ _)); exact BK122.out)) : gb130 ≠ gb122)); clear HO104; clear BK101; clear BK114; clear BK122; clear HB; have HO104 := n0_; have BK101 := n1_; have BK114 := n2_; have BK122 := n3_; have HB := n4_; have BK130 := n5_; have GW130 := n6_; have GE130 := n7_; have NB101_130 := n8_; have NB130_101 := n9_; have NB114_130 := n10_; have NB130_114 := n11_; have NB122_130 := n12_; have NB130_122 := n13_; clear n0_ n1_ n2_ n3_ n4_ n5_ n6_ n7_ n8_ n9_ n10_ n11_ n12_ n13_; clear hb hbox hg; have hnb28 := NB130_101.out; have hnc28 := NB101_130.out; have hnb29 := NB130_114.out; have hnc29 := NB114_130.out; have hnb30 := NB130_122.out; have hnc30 := NB122_130.out; have hcz31_0 : w27.cell? ⟨gb130, 0, none⟩ = some (.int .i64 0) := (blk_cell BK130.out 0).trans rfl; have hcz31_1 : w27.cell? ⟨gb130, 1, none⟩ = some (.int .i64 0) := (blk_cell BK130.out 1).trans rfl; have hcz31_2 : w27.cell? ⟨gb130, 2, none⟩ = some (.int .i64 0) := (blk_cell BK130.out 2).trans rfl; have hcz31_3 : w27.cell? ⟨gb130, 3, none⟩ = some (.int .i64 0) := (blk_cell BK130.out 3).trans rfl; have hcz31_4 : w27.cell? ⟨gb130, 4, none⟩ = some (.bool false) := (blk_cell BK130.out 4).trans rfl; have hcz31_5 : w27.cell? ⟨gb130, 5, none⟩ = some (.string (⟨#[]⟩ : ByteArray)) := (blk_cell BK130.out 5).trans rfl; have hfz31_0 := blk_frozen BK130.out 0; have hfz31_1 := blk_frozen BK130.out 1; have hfz31_2 := blk_frozen BK130.out 2; have hfz31_3 := blk_frozen BK130.out 3; have hfz31_4 := blk_frozen BK130.out 4; have hfz31_5 := blk_frozen BK130.out 5; have hcz32_0 : w27.cell? ⟨gb101, 0, none⟩ = some (.int .i64 a0_0) := (blk_cell BK101.out 0).trans rfl; have hcz32_1 : w27.cell? ⟨gb101, 1, none⟩ = some (.int .i64 a0_1) := (blk_cell BK101.out 1).trans rfl; have hcz32_2 : w27.cell? ⟨gb101, 2, none⟩ = some (.int .i64 a0_2) := (blk_cell BK101.out 2).trans rfl; have hcz32_3 : w27.cell? ⟨gb101, 3, none⟩ = some (.int .i64 a0_3) := (blk_cell BK101.out 3).trans rfl; have hcz32_4 : w27.cell? ⟨gb101, 4, none⟩ = some (.bool a0_4) := (blk_cell BK101.out 4).trans rfl; have hcz32_5 : w27.cell? ⟨gb101, 5, none⟩ = some (.string a0_5) := (blk_cell BK101.out 5).trans rfl; have hfz32_0 := blk_frozen BK101.out 0; have hfz32_1 := blk_frozen BK101.out 1; have hfz32_2 := blk_frozen BK101.out 2; have hfz32_3 := blk_frozen BK101.out 3; have hfz32_4 := blk_frozen BK101.out 4; have hfz32_5 := blk_frozen BK101.out 5) | ((with_reducible refine gate_callee (f := 27) rfl ?_); refine goesL_ (some 33) rfl rfl Try.func27 (by kernel_rfl) rfl #[.agg #[.int .i64 a0_0, .int .i64 a0_1, .int .i64 a0_2, .int .i64 a0_3, .bool a0_4, .string a0_5]] rfl (by (try simp only [List.map_toArray, List.map_cons, List.map_nil]); first | done | rfl | (simp only [List.length_drop, List.length_take]; rfl)) ?_; (with_reducible refine (ironbarkref02_Decimal.calls k a0_0 a0_1 a0_2 a0_3 a0_4 a0_5 t131 t132 t133 t134 t135 t136 t137 _ A7.out).mono ?_); rintro e w33 ⟨rfl, hb⟩; refine ⟨_, rfl, ?_⟩; have n0_ := Aside0.mk (Kd.R_below (by (with_reducible repeat (first | apply Kd.R_alloc | apply Kd.R_drewN | apply Kd.R_drew)); exact (Kd.R_mono (Kd.R_far (p := ⟨gb130, 5, none⟩) (Kd.R_far (p := ⟨gb130, 4, none⟩) (Kd.R_far (p := ⟨gb130, 3, none⟩) (Kd.R_far (p := ⟨gb130, 2, none⟩) (Kd.R_far (p := ⟨gb130, 1, none⟩) (Kd.R_far (p := ⟨gb130, 0, none⟩) (Kd.R_mono HO104.out (fun k_ hk => (⟨hk, hk.2⟩ : _ ∧ k_ ≠ gb130))) (fun _ hk => hk.2) (.int .i64 t123)) (fun _ hk => hk.2) (.int .i64 t124)) (fun _ hk => hk.2) (.int .i64 t125)) (fun _ hk => hk.2) (.int .i64 t126)) (fun _ hk => hk.2) (.bool t127)) (fun _ hk => hk.2) (.string t128)) (fun _ h_ => h_.1))) hb); have n1_ := Aside0.mk (blk_below (g := gb101) (o := .cells #[.int .i64 a0_0, .int .i64 a0_1, .int .i64 a0_2, .int .i64 a0_3, .bool a0_4, .string a0_5] 25 (0, 0)) (by (with_reducible repeat (first | refine blk_drewN ?_ _ | refine blk_drew ?_ | refine blk_alloc ?_ _)); refine blk_far ?_ NB101_130.out _; (with_reducible repeat (first | refine blk_drewN ?_ _ | refine blk_drew ?_ | refine blk_alloc ?_ _)); refine blk_far ?_ NB101_130.out _; (with_reducible repeat (first | refine blk_drewN ?_ _ | refine blk_drew ?_ | refine blk_alloc ?_ _)); refine blk_far ?_ NB101_130.out _; (with_reducible repeat (first | refine blk_drewN ?_ _ | refine blk_drew ?_ | refine blk_alloc ?_ _)); refine blk_far ?_ NB101_130.out _; (with_reducible repeat (first | refine blk_drewN ?_ _ | refine blk_drew ?_ | refine blk_alloc ?_ _)); refine blk_far ?_ NB101_130.out _; (with_reducible repeat (first | refine blk_drewN ?_ _ | refine blk_drew ?_ | refine blk_alloc ?_ _)); refine blk_far ?_ NB101_130.out _; (with_reducible repeat (first | refine blk_drewN ?_ _ | refine blk_drew ?_ | refine blk_alloc ?_ _)); exact BK101.out) hb); have n2_ := Aside0.mk (blk_below (g := gb114) (o := .cells #[.int .i64 t107, .int .i64 t108, .int .i64 t109, .int .i64 t110, .bool t111, .string t112] 25 (0, 0)) (by (with_reducible repeat (first | refine blk_drewN ?_ _ | refine blk_drew ?_ | refine blk_alloc ?_ _)); refine blk_far ?_ NB114_130.out _; (with_reducible repeat (first | refine blk_drewN ?_ _ | refine blk_drew ?_ | refine blk_alloc ?_ _)); refine blk_far ?_ NB114_130.out _; (with_reducible repeat (first | refine blk_drewN ?_ _ | refine blk_drew ?_ | refine blk_alloc ?_ _)); refine blk_far ?_ NB114_130.out _; (with_reducible repeat (first | refine blk_drewN ?_ _ | refine blk_drew ?_ | refine blk_alloc ?_ _)); refine blk_far ?_ NB114_130.out _; (with_reducible repeat (first | refine blk_drewN ?_ _ | refine blk_drew ?_ | refine blk_alloc ?_ _)); refine blk_far ?_ NB114_130.out _; (with_reducible repeat (first | refine blk_drewN ?_ _ | refine blk_drew ?_ | refine blk_alloc ?_ _)); refine blk_far ?_ NB114_130.out _; (with_reducible repeat (first | refine blk_drewN ?_ _ | refine blk_drew ?_ | refine blk_alloc ?_ _)); exact BK114.out) hb); have n3_ := Aside0.mk (blk_below (g := gb122) (o := .cells #[.int .i64 t115, .int .i64 t116, .int .i64 t117, .int .i64 t118, .bool t119, .string t120] 25 (0, 0)) (by (with_reducible repeat (first | refine blk_drewN ?_ _ | refine blk_drew ?_ | refine blk_alloc ?_ _)); refine blk_far ?_ NB122_130.out _; (with_reducible repeat (first | refine blk_drewN ?_ _ | refine blk_drew ?_ | refine blk_alloc ?_ _)); refine blk_far ?_ NB122_130.out _; (with_reducible repeat (first | refine blk_drewN ?_ _ | refine blk_drew ?_ | refine blk_alloc ?_ _)); refine blk_far ?_ NB122_130.out _; (with_reducible repeat (first | refine blk_drewN ?_ _ | refine blk_drew ?_ | refine blk_alloc ?_ _)); refine blk_far ?_ NB122_130.out _; (with_reducible repeat (first | refine blk_drewN ?_ _ | refine blk_drew ?_ | refine blk_alloc ?_ _)); refine blk_far ?_ NB122_130.out _; (with_reducible repeat (first | refine blk_drewN ?_ _ | refine blk_drew ?_ | refine blk_alloc ?_ _)); refine blk_far ?_ NB122_130.out _; (with_reducible repeat (first | refine blk_drewN ?_ _ | refine blk_drew ?_ | refine blk_alloc ?_ _)); exact BK122.out) hb); have n4_ := Aside0.mk (blk_below (g := gb130) (o := .cells #[.int .i64 t123, .int .i64 t124, .int .i64 t125, .int .i64 t126, .bool t127, .string t128] 25 (0, 0)) (by (with_reducible repeat (first | refine blk_drewN ?_ _ | refine blk_drew ?_ | refine blk_alloc ?_ _)); refine blk_put (cs := #[.int .i64 t123, .int .i64 t124, .int .i64 t125, .int .i64 t126, .bool t127, .string (⟨#[]⟩ : ByteArray)]) ?_ 5 _ rfl; (with_reducible repeat (first | refine blk_drewN ?_ _ | refine blk_drew ?_ | refine blk_alloc ?_ _)); refine blk_put (cs := #[.int .i64 t123, .int .i64 t124, .int .i64 t125, .int .i64 t126, .bool false, .string (⟨#[]⟩ : ByteArray)]) ?_ 4 _ rfl; (with_reducible repeat (first | refine blk_drewN ?_ _ | refine blk_drew ?_ | refine blk_alloc ?_ _)); refine blk_put (cs := #[.int .i64 t123, .int .i64 t124, .int .i64 t125, .int .i64 0, .bool false, .string (⟨#[]⟩ : ByteArray)]) ?_ 3 _ rfl; (with_reducible repeat (first | refine blk_drewN ?_ _ | refine blk_drew ?_ | refine blk_alloc ?_ _)); refine blk_put (cs := #[.int .i64 t123, .int .i64 t124, .int .i64 0, .int .i64 0, .bool false, .string (⟨#[]⟩ : ByteArray)]) ?_ 2 _ rfl; (with_reducible repeat (first | refine blk_drewN ?_ _ | refine blk_drew ?_ | refine blk_alloc ?_ _)); refine blk_put (cs := #[.int .i64 t123, .int .i64 0, .int .i64 0, .int .i64 0, .bool false, .string (⟨#[]⟩ : ByteArray)]) ?_ 1 _ rfl; (with_reducible repeat (first | refine blk_drewN ?_ _ | refine blk_drew ?_ | refine blk_alloc ?_ _)); refine blk_put (cs := #[.int .i64 0, .int .i64 0, .int .i64 0, .int .i64 0, .bool false, .string (⟨#[]⟩ : ByteArray)]) ?_ 0 _ rfl; (with_reducible repeat (first | refine blk_drewN ?_ _ | refine blk_drew ?_ | refine blk_alloc ?_ _)); exact BK130.out) hb); have n5_ := Aside0.mk (below_step (by repeat (first | (with_reducible first | exact HB.out | apply below_alloc | apply pw_below_drewN | apply below_drew1 | refine below_set ?_ GE101.out | refine below_set ?_ GE114.out | refine below_set ?_ GE122.out | refine below_set ?_ GE130.out) | exact HB.out)) hb); clear HO104; clear BK101; clear BK114; clear BK122; clear BK130; clear HB; have HO104 := n0_; have BK101 := n1_; have BK114 := n2_; have BK122 := n3_; have BK130 := n4_; have HB := n5_; clear n0_ n1_ n2_ n3_ n4_ n5_; (try clear hb); (try clear hb2); (try clear hk); (try clear hi)) | ((with_reducible refine gate_dst (N := 9) rfl ?_); refine box_event ?hg (N := 9) ?hd (cs := #[.int .i64 0, .int .i64 0, .int .i64 0, .int .i64 0, .bool false, .string (⟨#[]⟩ : ByteArray)]) (t := 25) ?hr ?_; (case hd => rfl); (case hg => rfl); (case hr => first | (go_simp; done) | (go_simp; rfl)); intro gb138 hg w34 hbox hb; have n0_ := Aside0.mk (Kd.R_below (Kd.R_elderB (by (with_reducible repeat (first | apply Kd.R_alloc | apply Kd.R_drewN | apply Kd.R_drew)); exact HO104.out) gb138 (Nat.le_of_eq hg.symm)) hb); have n1_ := Aside0.mk (blk_below (g := gb101) (o := .cells #[.int .i64 a0_0, .int .i64 a0_1, .int .i64 a0_2, .int .i64 a0_3, .bool a0_4, .string a0_5] 25 (0, 0)) (by (with_reducible repeat (first | refine blk_drewN ?_ _ | refine blk_drew ?_ | refine blk_alloc ?_ _)); exact BK101.out) hb); have n2_ := Aside0.mk (blk_below (g := gb114) (o := .cells #[.int .i64 t107, .int .i64 t108, .int .i64 t109, .int .i64 t110, .bool t111, .string t112] 25 (0, 0)) (by (with_reducible repeat (first | refine blk_drewN ?_ _ | refine blk_drew ?_ | refine blk_alloc ?_ _)); exact BK114.out) hb); have n3_ := Aside0.mk (blk_below (g := gb122) (o := .cells #[.int .i64 t115, .int .i64 t116, .int .i64 t117, .int .i64 t118, .bool t119, .string t120] 25 (0, 0)) (by (with_reducible repeat (first | refine blk_drewN ?_ _ | refine blk_drew ?_ | refine blk_alloc ?_ _)); exact BK122.out) hb); have n4_ := Aside0.mk (blk_below (g := gb130) (o := .cells #[.int .i64 t123, .int .i64 t124, .int .i64 t125, .int .i64 t126, .bool t127, .string t128] 25 (0, 0)) (by (with_reducible repeat (first | refine blk_drewN ?_ _ | refine blk_drew ?_ | refine blk_alloc ?_ _)); exact BK130.out) hb); have n5_ := Aside0.mk (below_step (by repeat (first | (with_reducible first | exact HB.out | apply below_alloc | apply pw_below_drewN | apply below_drew1 | refine below_set ?_ GE101.out | refine below_set ?_ GE114.out | refine below_set ?_ GE122.out | refine below_set ?_ GE130.out) | exact HB.out)) hb); have n6_ := Aside0.mk (hbox); have n7_ := Aside0.mk ((by rw [hg]; exact (below_size (by repeat (first | (with_reducible first | exact HB.out | apply below_alloc | apply pw_below_drewN | apply below_drew1 | refine below_set ?_ GE101.out | refine below_set ?_ GE114.out | refine below_set ?_ GE122.out | refine below_set ?_ GE130.out) | exact HB.out))) : w.heap.size ≤ gb138)); have n8_ := n7_; have n9_ := Aside0.mk ((by rw [hg]; exact Nat.ne_of_lt (blk_lt (g := gb101) (o := .cells #[.int .i64 a0_0, .int .i64 a0_1, .int .i64 a0_2, .int .i64 a0_3, .bool a0_4, .string a0_5] 25 (0, 0)) (by (with_reducible repeat (first | refine blk_drewN ?_ _ | refine blk_drew ?_ | refine blk_alloc ?_ _)); exact BK101.out)) : gb101 ≠ gb138)); have n10_ := Aside0.mk ((by rw [hg]; exact Nat.ne_of_gt (blk_lt (g := gb101) (o := .cells #[.int .i64 a0_0, .int .i64 a0_1, .int .i64 a0_2, .int .i64 a0_3, .bool a0_4, .string a0_5] 25 (0, 0)) (by (with_reducible repeat (first | refine blk_drewN ?_ _ | refine blk_drew ?_ | refine blk_alloc ?_ _)); exact BK101.out)) : gb138 ≠ gb101)); have n11_ := Aside0.mk ((by rw [hg]; exact Nat.ne_of_lt (blk_lt (g := gb114) (o := .cells #[.int .i64 t107, .int .i64 t108, .int .i64 t109, .int .i64 t110, .bool t111, .string t112] 25 (0, 0)) (by (with_reducible repeat (first | refine blk_drewN ?_ _ | refine blk_drew ?_ | refine blk_alloc ?_ _)); exact BK114.out)) : gb114 ≠ gb138)); have n12_ := Aside0.mk ((by rw [hg]; exact Nat.ne_of_gt (blk_lt (g := gb114) (o := .cells #[.int .i64 t107, .int .i64 t108, .int .i64 t109, .int .i64 t110, .bool t111, .string t112] 25 (0, 0)) (by (with_reducible repeat (first | refine blk_drewN ?_ _ | refine blk_drew ?_ | refine blk_alloc ?_ _)); exact BK114.out)) : gb138 ≠ gb114)); have n13_ := Aside0.mk ((by rw [hg]; exact Nat.ne_of_lt (blk_lt (g := gb122) (o := .cells #[.int .i64 t115, .int .i64 t116, .int .i64 t117, .int .i64 t118, .bool t119, .string t120] 25 (0, 0)) (by (with_reducible repeat (first | refine blk_drewN ?_ _ | refine blk_drew ?_ | refine blk_alloc ?_ _)); exact BK122.out)) : gb122 ≠ gb138)); have n14_ := Aside0.mk ((by rw [hg]; exact Nat.ne_of_gt (blk_lt (g := gb122) (o := .cells #[.int .i64 t115, .int .i64 t116, .int .i64 t117, .int .i64 t118, .bool t119, .string t120] 25 (0, 0)) (by (with_reducible repeat (first | refine blk_drewN ?_ _ | refine blk_drew ?_ | refine blk_alloc ?_ _)); exact BK122.out)) : gb138 ≠ gb122)); have n15_ := Aside0.mk ((by rw [hg]; exact Nat.ne_of_lt (blk_lt (g := gb130) (o := .cells #[.int .i64 t123, .int .i64 t124, .int .i64 t125, .int .i64 t126, .bool t127, .string t128] 25 (0, 0)) (by (with_reducible repeat (first | refine blk_drewN ?_ _ | refine blk_drew ?_ | refine blk_alloc ?_ _)); exact BK130.out)) : gb130 ≠ gb138)); have n16_ := Aside0.mk ((by rw [hg]; exact Nat.ne_of_gt (blk_lt (g := gb130) (o := .cells #[.int .i64 t123, .int .i64 t124, .int .i64 t125, .int .i64 t126, .bool t127, .string t128] 25 (0, 0)) (by (with_reducible repeat (first | refine blk_drewN ?_ _ | refine blk_drew ?_ | refine blk_alloc ?_ _)); exact BK130.out)) : gb138 ≠ gb130)); clear HO104; clear BK101; clear BK114; clear BK122; clear BK130; clear HB; have HO104 := n0_; have BK101 := n1_; have BK114 := n2_; have BK122 := n3_; have BK130 := n4_; have HB := n5_; have BK138 := n6_; have GW138 := n7_; have GE138 := n8_; have NB101_138 := n9_; have NB138_101 := n10_; have NB114_138 := n11_; have NB138_114 := n12_; have NB122_138 := n13_; have NB138_122 := n14_; have NB130_138 := n15_; have NB138_130 := n16_; clear n0_ n1_ n2_ n3_ n4_ n5_ n6_ n7_ n8_ n9_ n10_ n11_ n12_ n13_ n14_ n15_ n16_; clear hb hbox hg; have hnb35 := NB138_101.out; have hnc35 := NB101_138.out; have hnb36 := NB138_114.out; have hnc36 := NB114_138.out; have hnb37 := NB138_122.out; have hnc37 := NB122_138.out; have hnb38 := NB138_130.out; have hnc38 := NB130_138.out; have hcz39_0 : w34.cell? ⟨gb138, 0, none⟩ = some (.int .i64 0) := (blk_cell BK138.out 0).trans rfl; have hcz39_1 : w34.cell? ⟨gb138, 1, none⟩ = some (.int .i64 0) := (blk_cell BK138.out 1).trans rfl; have hcz39_2 : w34.cell? ⟨gb138, 2, none⟩ = some (.int .i64 0) := (blk_cell BK138.out 2).trans rfl; have hcz39_3 : w34.cell? ⟨gb138, 3, none⟩ = some (.int .i64 0) := (blk_cell BK138.out 3).trans rfl; have hcz39_4 : w34.cell? ⟨gb138, 4, none⟩ = some (.bool false) := (blk_cell BK138.out 4).trans rfl; have hcz39_5 : w34.cell? ⟨gb138, 5, none⟩ = some (.string (⟨#[]⟩ : ByteArray)) := (blk_cell BK138.out 5).trans rfl; have hfz39_0 := blk_frozen BK138.out 0; have hfz39_1 := blk_frozen BK138.out 1; have hfz39_2 := blk_frozen BK138.out 2; have hfz39_3 := blk_frozen BK138.out 3; have hfz39_4 := blk_frozen BK138.out 4; have hfz39_5 := blk_frozen BK138.out 5))
  (try simp only [Act.put, List.setIfInBounds_toArray, List.set_cons_zero, List.set_cons_succ])
  go_cut [71] (fun v71 wc => ∃ (kq : Nat) (x71_7 : Bool), v71 = .bool x71_7 ∧ Aside0 (ironbarklaw02_RuleTurns.j0 kq x71_7 a0_0 a0_1 a0_2 a0_3 a0_4 a0_5 = some r) ∧ Aside0 (kq ≤ k) ∧ Aside0 (wc.heap[gb101]? = some (.cells #[.int .i64 a0_0, .int .i64 a0_1, .int .i64 a0_2, .int .i64 a0_3, .bool a0_4, .string a0_5] 25 (0, 0))) ∧ Aside0 (wc.heap[gb114]? = some (.cells #[.int .i64 t107, .int .i64 t108, .int .i64 t109, .int .i64 t110, .bool t111, .string t112] 25 (0, 0))) ∧ Aside0 (wc.heap[gb122]? = some (.cells #[.int .i64 t115, .int .i64 t116, .int .i64 t117, .int .i64 t118, .bool t119, .string t120] 25 (0, 0))) ∧ Aside0 (wc.heap[gb130]? = some (.cells #[.int .i64 t123, .int .i64 t124, .int .i64 t125, .int .i64 t126, .bool t127, .string t128] 25 (0, 0))) ∧ Aside0 (wc.heap[gb138]? = some (.cells #[.int .i64 t131, .int .i64 t132, .int .i64 t133, .int .i64 t134, .bool t135, .string t136] 25 (0, 0))) ∧ Aside0 (Below w.heap.size w wc))
  case first =>
   have H := HC8.out
   clear HC8
   by_cases c40 : (!(t107 == t115) || (!(t108 == t116) || (!(t109 == t117) || (!(t110 == t118) || (!(t111 == t119) || (!(t112.toList == t120.toList))))))) = true
   ·rw [if_pos c40] at H
    have c40b0 : (!(t107 == t115) || (!(t108 == t116) || (!(t109 == t117) || (!(t110 == t118) || (!(t111 == t119) || (!(t112.toList == t120.toList))))))) = true := c40
    clear c40
    (first | rw [c40b0] | (simp only [i64_w, i32_w]; rw [c40b0]) | skip)
    exact absurd (H.trans (congrArg some hrt_.out)) (by first | exact ironbarklaw02_RuleTurns.j0_no _ _ _ _ _ _ _  | exact ironbarklaw02_RuleTurns.j1_no _ _ _ _ _ _ _ )
   ·rw [if_neg c40] at H
    have c40b0 : (!(t107 == t115) || (!(t108 == t116) || (!(t109 == t117) || (!(t110 == t118) || (!(t111 == t119) || (!(t112.toList == t120.toList))))))) = false := by simpa using c40
    clear c40
    (first | rw [c40b0] | (simp only [i64_w, i32_w]; rw [c40b0]) | skip)
    by_cases c50 : t113 = t121
    ·rw [if_pos c50] at H
     have c50b0 : (t113 == t121) = true := beq_iff_eq.mpr c50
     have c50b1 : (t113 != t121) = false := bne_eq_false_iff_eq.mpr c50
     clear c50
     by_cases c51 : (!(t123 == t131) || (!(t124 == t132) || (!(t125 == t133) || (!(t126 == t134) || (!(t127 == t135) || (!(t128.toList == t136.toList))))))) = true
     ·rw [if_pos c51] at H
      have c51b0 : (!(t123 == t131) || (!(t124 == t132) || (!(t125 == t133) || (!(t126 == t134) || (!(t127 == t135) || (!(t128.toList == t136.toList))))))) = true := c51
      clear c51
      exact absurd (H.trans (congrArg some hrt_.out)) (by first | exact ironbarklaw02_RuleTurns.j0_no _ _ _ _ _ _ _  | exact ironbarklaw02_RuleTurns.j1_no _ _ _ _ _ _ _ )
     ·rw [if_neg c51] at H
      have c51b0 : (!(t123 == t131) || (!(t124 == t132) || (!(t125 == t133) || (!(t126 == t134) || (!(t127 == t135) || (!(t128.toList == t136.toList))))))) = false := by simpa using c51
      clear c51
      by_cases c66 : t129 = t137
      ·rw [if_pos c66] at H
       have c66b0 : (t129 == t137) = true := beq_iff_eq.mpr c66
       have c66b1 : (t129 != t137) = false := bne_eq_false_iff_eq.mpr c66
       clear c66
       by_cases c67 : t113 = 0
       ·rw [if_pos c67] at H
        have c67b0 : (t113 == 0) = true := beq_iff_eq.mpr c67
        have c67b1 : (t113 != 0) = false := bne_eq_false_iff_eq.mpr c67
        clear c67
        replace H := Option.bind_eq_some_iff.mp H
        obtain ⟨t139, A680, H⟩ := H
        replace H : (if t139 = true then (if t129 = 0 then ((ironbarkref01_Valid.f k t123 t124 t125 t126 t127 t128).bind fun t140 => (ironbarklaw02_RuleTurns.j0 k (!t140) a0_0 a0_1 a0_2 a0_3 a0_4 a0_5)) else (ironbarklaw02_RuleTurns.j0 k false a0_0 a0_1 a0_2 a0_3 a0_4 a0_5)) else (ironbarklaw02_RuleTurns.j0 k true a0_0 a0_1 a0_2 a0_3 a0_4 a0_5)) = some r := H
        have A68 := Aside0.mk A680
        clear A680
        by_cases c69 : t139 = true
        ·subst c69
         have H1 : (if t129 = 0 then ((ironbarkref01_Valid.f k t123 t124 t125 t126 t127 t128).bind fun t140 => (ironbarklaw02_RuleTurns.j0 k (!t140) a0_0 a0_1 a0_2 a0_3 a0_4 a0_5)) else (ironbarklaw02_RuleTurns.j0 k false a0_0 a0_1 a0_2 a0_3 a0_4 a0_5)) = some r := by rw [if_pos rfl] at H; exact H
         clear H
         have H := H1
         clear H1
         by_cases c70 : t129 = 0
         ·rw [if_pos c70] at H
          have c70b0 : (t129 == 0) = true := beq_iff_eq.mpr c70
          have c70b1 : (t129 != 0) = false := bne_eq_false_iff_eq.mpr c70
          clear c70
          replace H := Option.bind_eq_some_iff.mp H
          obtain ⟨t140, A710, H⟩ := H
          replace H : (ironbarklaw02_RuleTurns.j0 k (!t140) a0_0 a0_1 a0_2 a0_3 a0_4 a0_5) = some r := H
          have A71 := Aside0.mk A710
          clear A710
          have H' := Aside0.mk H
          clear H
          have hnb72 := NB114_101.out
          have hnc72 := NB101_114.out
          have hnb73 := NB114_122.out
          have hnc73 := NB122_114.out
          have hnb74 := NB114_130.out
          have hnc74 := NB130_114.out
          have hnb75 := NB114_138.out
          have hnc75 := NB138_114.out
          have hcz76_0 : w34.cell? ⟨gb114, 0, none⟩ = some (.int .i64 t107) := (blk_cell BK114.out 0).trans rfl
          have hcz76_1 : w34.cell? ⟨gb114, 1, none⟩ = some (.int .i64 t108) := (blk_cell BK114.out 1).trans rfl
          have hcz76_2 : w34.cell? ⟨gb114, 2, none⟩ = some (.int .i64 t109) := (blk_cell BK114.out 2).trans rfl
          have hcz76_3 : w34.cell? ⟨gb114, 3, none⟩ = some (.int .i64 t110) := (blk_cell BK114.out 3).trans rfl
          have hcz76_4 : w34.cell? ⟨gb114, 4, none⟩ = some (.bool t111) := (blk_cell BK114.out 4).trans rfl
          have hcz76_5 : w34.cell? ⟨gb114, 5, none⟩ = some (.string t112) := (blk_cell BK114.out 5).trans rfl
          have hfz76_0 := blk_frozen BK114.out 0
          have hfz76_1 := blk_frozen BK114.out 1
          have hfz76_2 := blk_frozen BK114.out 2
          have hfz76_3 := blk_frozen BK114.out 3
          have hfz76_4 := blk_frozen BK114.out 4
          have hfz76_5 := blk_frozen BK114.out 5
          have hnb77 := NB122_101.out
          have hnc77 := NB101_122.out
          have hnb78 := NB122_130.out
          have hnc78 := NB130_122.out
          have hnb79 := NB122_138.out
          have hnc79 := NB138_122.out
          have hcz80_0 : w34.cell? ⟨gb122, 0, none⟩ = some (.int .i64 t115) := (blk_cell BK122.out 0).trans rfl
          have hcz80_1 : w34.cell? ⟨gb122, 1, none⟩ = some (.int .i64 t116) := (blk_cell BK122.out 1).trans rfl
          have hcz80_2 : w34.cell? ⟨gb122, 2, none⟩ = some (.int .i64 t117) := (blk_cell BK122.out 2).trans rfl
          have hcz80_3 : w34.cell? ⟨gb122, 3, none⟩ = some (.int .i64 t118) := (blk_cell BK122.out 3).trans rfl
          have hcz80_4 : w34.cell? ⟨gb122, 4, none⟩ = some (.bool t119) := (blk_cell BK122.out 4).trans rfl
          have hcz80_5 : w34.cell? ⟨gb122, 5, none⟩ = some (.string t120) := (blk_cell BK122.out 5).trans rfl
          have hfz80_0 := blk_frozen BK122.out 0
          have hfz80_1 := blk_frozen BK122.out 1
          have hfz80_2 := blk_frozen BK122.out 2
          have hfz80_3 := blk_frozen BK122.out 3
          have hfz80_4 := blk_frozen BK122.out 4
          have hfz80_5 := blk_frozen BK122.out 5
          have hnb81 := NB130_101.out
          have hnc81 := NB101_130.out
          have hnb82 := NB130_138.out
          have hnc82 := NB138_130.out
          have hcz83_0 : w34.cell? ⟨gb130, 0, none⟩ = some (.int .i64 t123) := (blk_cell BK130.out 0).trans rfl
          have hcz83_1 : w34.cell? ⟨gb130, 1, none⟩ = some (.int .i64 t124) := (blk_cell BK130.out 1).trans rfl
          have hcz83_2 : w34.cell? ⟨gb130, 2, none⟩ = some (.int .i64 t125) := (blk_cell BK130.out 2).trans rfl
          have hcz83_3 : w34.cell? ⟨gb130, 3, none⟩ = some (.int .i64 t126) := (blk_cell BK130.out 3).trans rfl
          have hcz83_4 : w34.cell? ⟨gb130, 4, none⟩ = some (.bool t127) := (blk_cell BK130.out 4).trans rfl
          have hcz83_5 : w34.cell? ⟨gb130, 5, none⟩ = some (.string t128) := (blk_cell BK130.out 5).trans rfl
          have hfz83_0 := blk_frozen BK130.out 0
          have hfz83_1 := blk_frozen BK130.out 1
          have hfz83_2 := blk_frozen BK130.out 2
          have hfz83_3 := blk_frozen BK130.out 3
          have hfz83_4 := blk_frozen BK130.out 4
          have hfz83_5 := blk_frozen BK130.out 5
          have hnb84 := NB138_101.out
          have hnc84 := NB101_138.out
          have hcz85_0 : w34.cell? ⟨gb138, 0, none⟩ = some (.int .i64 0) := (blk_cell BK138.out 0).trans rfl
          have hcz85_1 : w34.cell? ⟨gb138, 1, none⟩ = some (.int .i64 0) := (blk_cell BK138.out 1).trans rfl
          have hcz85_2 : w34.cell? ⟨gb138, 2, none⟩ = some (.int .i64 0) := (blk_cell BK138.out 2).trans rfl
          have hcz85_3 : w34.cell? ⟨gb138, 3, none⟩ = some (.int .i64 0) := (blk_cell BK138.out 3).trans rfl
          have hcz85_4 : w34.cell? ⟨gb138, 4, none⟩ = some (.bool false) := (blk_cell BK138.out 4).trans rfl
          have hcz85_5 : w34.cell? ⟨gb138, 5, none⟩ = some (.string (⟨#[]⟩ : ByteArray)) := (blk_cell BK138.out 5).trans rfl
          have hfz85_0 := blk_frozen BK138.out 0
          have hfz85_1 := blk_frozen BK138.out 1
          have hfz85_2 := blk_frozen BK138.out 2
          have hfz85_3 := blk_frozen BK138.out 3
          have hfz85_4 := blk_frozen BK138.out 4
          have hfz85_5 := blk_frozen BK138.out 5
          go_wp2_with (first | (go_at_call 20; (with_reducible refine (ironbarkref01_Valid.calls k t107 t108 t109 t110 t111 t112 true _ A68.out).mono ?_); rintro e w86 ⟨rfl, hb⟩; have n0_ := Aside0.mk (Kd.R_below (by (with_reducible repeat (first | apply Kd.R_alloc | apply Kd.R_drewN | apply Kd.R_drew)); exact (Kd.R_mono (Kd.R_far (p := ⟨gb138, 5, none⟩) (Kd.R_far (p := ⟨gb138, 4, none⟩) (Kd.R_far (p := ⟨gb138, 3, none⟩) (Kd.R_far (p := ⟨gb138, 2, none⟩) (Kd.R_far (p := ⟨gb138, 1, none⟩) (Kd.R_far (p := ⟨gb138, 0, none⟩) (Kd.R_mono HO104.out (fun k_ hk => (⟨hk, hk.2⟩ : _ ∧ k_ ≠ gb138))) (fun _ hk => hk.2) (.int .i64 t131)) (fun _ hk => hk.2) (.int .i64 t132)) (fun _ hk => hk.2) (.int .i64 t133)) (fun _ hk => hk.2) (.int .i64 t134)) (fun _ hk => hk.2) (.bool t135)) (fun _ hk => hk.2) (.string t136)) (fun _ h_ => h_.1))) hb); have n1_ := Aside0.mk (blk_below (g := gb101) (o := .cells #[.int .i64 a0_0, .int .i64 a0_1, .int .i64 a0_2, .int .i64 a0_3, .bool a0_4, .string a0_5] 25 (0, 0)) (by (with_reducible repeat (first | refine blk_drewN ?_ _ | refine blk_drew ?_ | refine blk_alloc ?_ _)); refine blk_far ?_ NB101_138.out _; (with_reducible repeat (first | refine blk_drewN ?_ _ | refine blk_drew ?_ | refine blk_alloc ?_ _)); refine blk_far ?_ NB101_138.out _; (with_reducible repeat (first | refine blk_drewN ?_ _ | refine blk_drew ?_ | refine blk_alloc ?_ _)); refine blk_far ?_ NB101_138.out _; (with_reducible repeat (first | refine blk_drewN ?_ _ | refine blk_drew ?_ | refine blk_alloc ?_ _)); refine blk_far ?_ NB101_138.out _; (with_reducible repeat (first | refine blk_drewN ?_ _ | refine blk_drew ?_ | refine blk_alloc ?_ _)); refine blk_far ?_ NB101_138.out _; (with_reducible repeat (first | refine blk_drewN ?_ _ | refine blk_drew ?_ | refine blk_alloc ?_ _)); refine blk_far ?_ NB101_138.out _; (with_reducible repeat (first | refine blk_drewN ?_ _ | refine blk_drew ?_ | refine blk_alloc ?_ _)); exact BK101.out) hb); have n2_ := Aside0.mk (blk_below (g := gb114) (o := .cells #[.int .i64 t107, .int .i64 t108, .int .i64 t109, .int .i64 t110, .bool t111, .string t112] 25 (0, 0)) (by (with_reducible repeat (first | refine blk_drewN ?_ _ | refine blk_drew ?_ | refine blk_alloc ?_ _)); refine blk_far ?_ NB114_138.out _; (with_reducible repeat (first | refine blk_drewN ?_ _ | refine blk_drew ?_ | refine blk_alloc ?_ _)); refine blk_far ?_ NB114_138.out _; (with_reducible repeat (first | refine blk_drewN ?_ _ | refine blk_drew ?_ | refine blk_alloc ?_ _)); refine blk_far ?_ NB114_138.out _; (with_reducible repeat (first | refine blk_drewN ?_ _ | refine blk_drew ?_ | refine blk_alloc ?_ _)); refine blk_far ?_ NB114_138.out _; (with_reducible repeat (first | refine blk_drewN ?_ _ | refine blk_drew ?_ | refine blk_alloc ?_ _)); refine blk_far ?_ NB114_138.out _; (with_reducible repeat (first | refine blk_drewN ?_ _ | refine blk_drew ?_ | refine blk_alloc ?_ _)); refine blk_far ?_ NB114_138.out _; (with_reducible repeat (first | refine blk_drewN ?_ _ | refine blk_drew ?_ | refine blk_alloc ?_ _)); exact BK114.out) hb); have n3_ := Aside0.mk (blk_below (g := gb122) (o := .cells #[.int .i64 t115, .int .i64 t116, .int .i64 t117, .int .i64 t118, .bool t119, .string t120] 25 (0, 0)) (by (with_reducible repeat (first | refine blk_drewN ?_ _ | refine blk_drew ?_ | refine blk_alloc ?_ _)); refine blk_far ?_ NB122_138.out _; (with_reducible repeat (first | refine blk_drewN ?_ _ | refine blk_drew ?_ | refine blk_alloc ?_ _)); refine blk_far ?_ NB122_138.out _; (with_reducible repeat (first | refine blk_drewN ?_ _ | refine blk_drew ?_ | refine blk_alloc ?_ _)); refine blk_far ?_ NB122_138.out _; (with_reducible repeat (first | refine blk_drewN ?_ _ | refine blk_drew ?_ | refine blk_alloc ?_ _)); refine blk_far ?_ NB122_138.out _; (with_reducible repeat (first | refine blk_drewN ?_ _ | refine blk_drew ?_ | refine blk_alloc ?_ _)); refine blk_far ?_ NB122_138.out _; (with_reducible repeat (first | refine blk_drewN ?_ _ | refine blk_drew ?_ | refine blk_alloc ?_ _)); refine blk_far ?_ NB122_138.out _; (with_reducible repeat (first | refine blk_drewN ?_ _ | refine blk_drew ?_ | refine blk_alloc ?_ _)); exact BK122.out) hb); have n4_ := Aside0.mk (blk_below (g := gb130) (o := .cells #[.int .i64 t123, .int .i64 t124, .int .i64 t125, .int .i64 t126, .bool t127, .string t128] 25 (0, 0)) (by (with_reducible repeat (first | refine blk_drewN ?_ _ | refine blk_drew ?_ | refine blk_alloc ?_ _)); refine blk_far ?_ NB130_138.out _; (with_reducible repeat (first | refine blk_drewN ?_ _ | refine blk_drew ?_ | refine blk_alloc ?_ _)); refine blk_far ?_ NB130_138.out _; (with_reducible repeat (first | refine blk_drewN ?_ _ | refine blk_drew ?_ | refine blk_alloc ?_ _)); refine blk_far ?_ NB130_138.out _; (with_reducible repeat (first | refine blk_drewN ?_ _ | refine blk_drew ?_ | refine blk_alloc ?_ _)); refine blk_far ?_ NB130_138.out _; (with_reducible repeat (first | refine blk_drewN ?_ _ | refine blk_drew ?_ | refine blk_alloc ?_ _)); refine blk_far ?_ NB130_138.out _; (with_reducible repeat (first | refine blk_drewN ?_ _ | refine blk_drew ?_ | refine blk_alloc ?_ _)); refine blk_far ?_ NB130_138.out _; (with_reducible repeat (first | refine blk_drewN ?_ _ | refine blk_drew ?_ | refine blk_alloc ?_ _)); exact BK130.out) hb); have n5_ := Aside0.mk (blk_below (g := gb138) (o := .cells #[.int .i64 t131, .int .i64 t132, .int .i64 t133, .int .i64 t134, .bool t135, .string t136] 25 (0, 0)) (by (with_reducible repeat (first | refine blk_drewN ?_ _ | refine blk_drew ?_ | refine blk_alloc ?_ _)); refine blk_put (cs := #[.int .i64 t131, .int .i64 t132, .int .i64 t133, .int .i64 t134, .bool t135, .string (⟨#[]⟩ : ByteArray)]) ?_ 5 _ rfl; (with_reducible repeat (first | refine blk_drewN ?_ _ | refine blk_drew ?_ | refine blk_alloc ?_ _)); refine blk_put (cs := #[.int .i64 t131, .int .i64 t132, .int .i64 t133, .int .i64 t134, .bool false, .string (⟨#[]⟩ : ByteArray)]) ?_ 4 _ rfl; (with_reducible repeat (first | refine blk_drewN ?_ _ | refine blk_drew ?_ | refine blk_alloc ?_ _)); refine blk_put (cs := #[.int .i64 t131, .int .i64 t132, .int .i64 t133, .int .i64 0, .bool false, .string (⟨#[]⟩ : ByteArray)]) ?_ 3 _ rfl; (with_reducible repeat (first | refine blk_drewN ?_ _ | refine blk_drew ?_ | refine blk_alloc ?_ _)); refine blk_put (cs := #[.int .i64 t131, .int .i64 t132, .int .i64 0, .int .i64 0, .bool false, .string (⟨#[]⟩ : ByteArray)]) ?_ 2 _ rfl; (with_reducible repeat (first | refine blk_drewN ?_ _ | refine blk_drew ?_ | refine blk_alloc ?_ _)); refine blk_put (cs := #[.int .i64 t131, .int .i64 0, .int .i64 0, .int .i64 0, .bool false, .string (⟨#[]⟩ : ByteArray)]) ?_ 1 _ rfl; (with_reducible repeat (first | refine blk_drewN ?_ _ | refine blk_drew ?_ | refine blk_alloc ?_ _)); refine blk_put (cs := #[.int .i64 0, .int .i64 0, .int .i64 0, .int .i64 0, .bool false, .string (⟨#[]⟩ : ByteArray)]) ?_ 0 _ rfl; (with_reducible repeat (first | refine blk_drewN ?_ _ | refine blk_drew ?_ | refine blk_alloc ?_ _)); exact BK138.out) hb); have n6_ := Aside0.mk (below_step (by repeat (first | (with_reducible first | exact HB.out | apply below_alloc | apply pw_below_drewN | apply below_drew1 | refine below_set ?_ GE101.out | refine below_set ?_ GE114.out | refine below_set ?_ GE122.out | refine below_set ?_ GE130.out | refine below_set ?_ GE138.out) | exact HB.out)) hb); clear HO104; clear BK101; clear BK114; clear BK122; clear BK130; clear BK138; clear HB; have HO104 := n0_; have BK101 := n1_; have BK114 := n2_; have BK122 := n3_; have BK130 := n4_; have BK138 := n5_; have HB := n6_; clear n0_ n1_ n2_ n3_ n4_ n5_ n6_; (try clear hb); (try clear hb2); (try clear hk); (try clear hi); have hcz87_0 : w86.cell? ⟨gb130, 0, none⟩ = some (.int .i64 t123) := (blk_cell BK130.out 0).trans rfl; have hcz87_1 : w86.cell? ⟨gb130, 1, none⟩ = some (.int .i64 t124) := (blk_cell BK130.out 1).trans rfl; have hcz87_2 : w86.cell? ⟨gb130, 2, none⟩ = some (.int .i64 t125) := (blk_cell BK130.out 2).trans rfl; have hcz87_3 : w86.cell? ⟨gb130, 3, none⟩ = some (.int .i64 t126) := (blk_cell BK130.out 3).trans rfl; have hcz87_4 : w86.cell? ⟨gb130, 4, none⟩ = some (.bool t127) := (blk_cell BK130.out 4).trans rfl; have hcz87_5 : w86.cell? ⟨gb130, 5, none⟩ = some (.string t128) := (blk_cell BK130.out 5).trans rfl; have hfz87_0 := blk_frozen BK130.out 0; have hfz87_1 := blk_frozen BK130.out 1; have hfz87_2 := blk_frozen BK130.out 2; have hfz87_3 := blk_frozen BK130.out 3; have hfz87_4 := blk_frozen BK130.out 4; have hfz87_5 := blk_frozen BK130.out 5) | (go_at_call 20; (with_reducible refine (ironbarkref01_Valid.calls k t123 t124 t125 t126 t127 t128 t140 _ A71.out).mono ?_); rintro e w88 ⟨rfl, hb⟩; have n0_ := Aside0.mk (Kd.R_below (by (with_reducible repeat (first | apply Kd.R_alloc | apply Kd.R_drewN | apply Kd.R_drew)); exact HO104.out) hb); have n1_ := Aside0.mk (blk_below (g := gb101) (o := .cells #[.int .i64 a0_0, .int .i64 a0_1, .int .i64 a0_2, .int .i64 a0_3, .bool a0_4, .string a0_5] 25 (0, 0)) (by (with_reducible repeat (first | refine blk_drewN ?_ _ | refine blk_drew ?_ | refine blk_alloc ?_ _)); exact BK101.out) hb); have n2_ := Aside0.mk (blk_below (g := gb114) (o := .cells #[.int .i64 t107, .int .i64 t108, .int .i64 t109, .int .i64 t110, .bool t111, .string t112] 25 (0, 0)) (by (with_reducible repeat (first | refine blk_drewN ?_ _ | refine blk_drew ?_ | refine blk_alloc ?_ _)); exact BK114.out) hb); have n3_ := Aside0.mk (blk_below (g := gb122) (o := .cells #[.int .i64 t115, .int .i64 t116, .int .i64 t117, .int .i64 t118, .bool t119, .string t120] 25 (0, 0)) (by (with_reducible repeat (first | refine blk_drewN ?_ _ | refine blk_drew ?_ | refine blk_alloc ?_ _)); exact BK122.out) hb); have n4_ := Aside0.mk (blk_below (g := gb130) (o := .cells #[.int .i64 t123, .int .i64 t124, .int .i64 t125, .int .i64 t126, .bool t127, .string t128] 25 (0, 0)) (by (with_reducible repeat (first | refine blk_drewN ?_ _ | refine blk_drew ?_ | refine blk_alloc ?_ _)); exact BK130.out) hb); have n5_ := Aside0.mk (blk_below (g := gb138) (o := .cells #[.int .i64 t131, .int .i64 t132, .int .i64 t133, .int .i64 t134, .bool t135, .string t136] 25 (0, 0)) (by (with_reducible repeat (first | refine blk_drewN ?_ _ | refine blk_drew ?_ | refine blk_alloc ?_ _)); exact BK138.out) hb); have n6_ := Aside0.mk (below_step (by repeat (first | (with_reducible first | exact HB.out | apply below_alloc | apply pw_below_drewN | apply below_drew1 | refine below_set ?_ GE101.out | refine below_set ?_ GE114.out | refine below_set ?_ GE122.out | refine below_set ?_ GE130.out | refine below_set ?_ GE138.out) | exact HB.out)) hb); clear HO104; clear BK101; clear BK114; clear BK122; clear BK130; clear BK138; clear HB; have HO104 := n0_; have BK101 := n1_; have BK114 := n2_; have BK122 := n3_; have BK130 := n4_; have BK138 := n5_; have HB := n6_; clear n0_ n1_ n2_ n3_ n4_ n5_ n6_; (try clear hb); (try clear hb2); (try clear hk); (try clear hi)))
          go_meet
          case rel => exact ⟨_, (!t140), (by first | rfl | (simp; done) | (generalize ByteArray.toList _ = l_; cases l_ <;> rfl) | (simp [*]; done)), H', ⟨by first | omega | exact Nat.le_refl _⟩, ⟨by (with_reducible repeat (first | refine blk_drewN ?_ _ | refine blk_drew ?_ | refine blk_alloc ?_ _)); exact BK101.out⟩, ⟨by (with_reducible repeat (first | refine blk_drewN ?_ _ | refine blk_drew ?_ | refine blk_alloc ?_ _)); exact BK114.out⟩, ⟨by (with_reducible repeat (first | refine blk_drewN ?_ _ | refine blk_drew ?_ | refine blk_alloc ?_ _)); exact BK122.out⟩, ⟨by (with_reducible repeat (first | refine blk_drewN ?_ _ | refine blk_drew ?_ | refine blk_alloc ?_ _)); exact BK130.out⟩, ⟨by (with_reducible repeat (first | refine blk_drewN ?_ _ | refine blk_drew ?_ | refine blk_alloc ?_ _)); exact BK138.out⟩, ⟨by repeat (first | (with_reducible first | exact HB.out | apply below_alloc | apply pw_below_drewN | apply below_drew1 | refine below_set ?_ GE101.out | refine below_set ?_ GE114.out | refine below_set ?_ GE122.out | refine below_set ?_ GE130.out | refine below_set ?_ GE138.out) | exact HB.out)⟩⟩
         ·rw [if_neg c70] at H
          have c70b0 : (t129 == 0) = false := beq_eq_false_iff_ne.mpr c70
          have c70b1 : (t129 != 0) = true := bne_iff_ne.mpr c70
          have H' := Aside0.mk H
          clear H
          have hnb89 := NB114_101.out
          have hnc89 := NB101_114.out
          have hnb90 := NB114_122.out
          have hnc90 := NB122_114.out
          have hnb91 := NB114_130.out
          have hnc91 := NB130_114.out
          have hnb92 := NB114_138.out
          have hnc92 := NB138_114.out
          have hcz93_0 : w34.cell? ⟨gb114, 0, none⟩ = some (.int .i64 t107) := (blk_cell BK114.out 0).trans rfl
          have hcz93_1 : w34.cell? ⟨gb114, 1, none⟩ = some (.int .i64 t108) := (blk_cell BK114.out 1).trans rfl
          have hcz93_2 : w34.cell? ⟨gb114, 2, none⟩ = some (.int .i64 t109) := (blk_cell BK114.out 2).trans rfl
          have hcz93_3 : w34.cell? ⟨gb114, 3, none⟩ = some (.int .i64 t110) := (blk_cell BK114.out 3).trans rfl
          have hcz93_4 : w34.cell? ⟨gb114, 4, none⟩ = some (.bool t111) := (blk_cell BK114.out 4).trans rfl
          have hcz93_5 : w34.cell? ⟨gb114, 5, none⟩ = some (.string t112) := (blk_cell BK114.out 5).trans rfl
          have hfz93_0 := blk_frozen BK114.out 0
          have hfz93_1 := blk_frozen BK114.out 1
          have hfz93_2 := blk_frozen BK114.out 2
          have hfz93_3 := blk_frozen BK114.out 3
          have hfz93_4 := blk_frozen BK114.out 4
          have hfz93_5 := blk_frozen BK114.out 5
          have hnb94 := NB122_101.out
          have hnc94 := NB101_122.out
          have hnb95 := NB122_130.out
          have hnc95 := NB130_122.out
          have hnb96 := NB122_138.out
          have hnc96 := NB138_122.out
          have hcz97_0 : w34.cell? ⟨gb122, 0, none⟩ = some (.int .i64 t115) := (blk_cell BK122.out 0).trans rfl
          have hcz97_1 : w34.cell? ⟨gb122, 1, none⟩ = some (.int .i64 t116) := (blk_cell BK122.out 1).trans rfl
          have hcz97_2 : w34.cell? ⟨gb122, 2, none⟩ = some (.int .i64 t117) := (blk_cell BK122.out 2).trans rfl
          have hcz97_3 : w34.cell? ⟨gb122, 3, none⟩ = some (.int .i64 t118) := (blk_cell BK122.out 3).trans rfl
          have hcz97_4 : w34.cell? ⟨gb122, 4, none⟩ = some (.bool t119) := (blk_cell BK122.out 4).trans rfl
          have hcz97_5 : w34.cell? ⟨gb122, 5, none⟩ = some (.string t120) := (blk_cell BK122.out 5).trans rfl
          have hfz97_0 := blk_frozen BK122.out 0
          have hfz97_1 := blk_frozen BK122.out 1
          have hfz97_2 := blk_frozen BK122.out 2
          have hfz97_3 := blk_frozen BK122.out 3
          have hfz97_4 := blk_frozen BK122.out 4
          have hfz97_5 := blk_frozen BK122.out 5
          have hnb98 := NB130_101.out
          have hnc98 := NB101_130.out
          have hnb99 := NB130_138.out
          have hnc99 := NB138_130.out
          have hcz100_0 : w34.cell? ⟨gb130, 0, none⟩ = some (.int .i64 t123) := (blk_cell BK130.out 0).trans rfl
          have hcz100_1 : w34.cell? ⟨gb130, 1, none⟩ = some (.int .i64 t124) := (blk_cell BK130.out 1).trans rfl
          have hcz100_2 : w34.cell? ⟨gb130, 2, none⟩ = some (.int .i64 t125) := (blk_cell BK130.out 2).trans rfl
          have hcz100_3 : w34.cell? ⟨gb130, 3, none⟩ = some (.int .i64 t126) := (blk_cell BK130.out 3).trans rfl
          have hcz100_4 : w34.cell? ⟨gb130, 4, none⟩ = some (.bool t127) := (blk_cell BK130.out 4).trans rfl
          have hcz100_5 : w34.cell? ⟨gb130, 5, none⟩ = some (.string t128) := (blk_cell BK130.out 5).trans rfl
          have hfz100_0 := blk_frozen BK130.out 0
          have hfz100_1 := blk_frozen BK130.out 1
          have hfz100_2 := blk_frozen BK130.out 2
          have hfz100_3 := blk_frozen BK130.out 3
          have hfz100_4 := blk_frozen BK130.out 4
          have hfz100_5 := blk_frozen BK130.out 5
          have hnb101 := NB138_101.out
          have hnc101 := NB101_138.out
          have hcz102_0 : w34.cell? ⟨gb138, 0, none⟩ = some (.int .i64 0) := (blk_cell BK138.out 0).trans rfl
          have hcz102_1 : w34.cell? ⟨gb138, 1, none⟩ = some (.int .i64 0) := (blk_cell BK138.out 1).trans rfl
          have hcz102_2 : w34.cell? ⟨gb138, 2, none⟩ = some (.int .i64 0) := (blk_cell BK138.out 2).trans rfl
          have hcz102_3 : w34.cell? ⟨gb138, 3, none⟩ = some (.int .i64 0) := (blk_cell BK138.out 3).trans rfl
          have hcz102_4 : w34.cell? ⟨gb138, 4, none⟩ = some (.bool false) := (blk_cell BK138.out 4).trans rfl
          have hcz102_5 : w34.cell? ⟨gb138, 5, none⟩ = some (.string (⟨#[]⟩ : ByteArray)) := (blk_cell BK138.out 5).trans rfl
          have hfz102_0 := blk_frozen BK138.out 0
          have hfz102_1 := blk_frozen BK138.out 1
          have hfz102_2 := blk_frozen BK138.out 2
          have hfz102_3 := blk_frozen BK138.out 3
          have hfz102_4 := blk_frozen BK138.out 4
          have hfz102_5 := blk_frozen BK138.out 5
          go_wp2_with (first | (go_at_call 20; (with_reducible refine (ironbarkref01_Valid.calls k t107 t108 t109 t110 t111 t112 true _ A68.out).mono ?_); rintro e w103 ⟨rfl, hb⟩; have n0_ := Aside0.mk (Kd.R_below (by (with_reducible repeat (first | apply Kd.R_alloc | apply Kd.R_drewN | apply Kd.R_drew)); exact (Kd.R_mono (Kd.R_far (p := ⟨gb138, 5, none⟩) (Kd.R_far (p := ⟨gb138, 4, none⟩) (Kd.R_far (p := ⟨gb138, 3, none⟩) (Kd.R_far (p := ⟨gb138, 2, none⟩) (Kd.R_far (p := ⟨gb138, 1, none⟩) (Kd.R_far (p := ⟨gb138, 0, none⟩) (Kd.R_mono HO104.out (fun k_ hk => (⟨hk, hk.2⟩ : _ ∧ k_ ≠ gb138))) (fun _ hk => hk.2) (.int .i64 t131)) (fun _ hk => hk.2) (.int .i64 t132)) (fun _ hk => hk.2) (.int .i64 t133)) (fun _ hk => hk.2) (.int .i64 t134)) (fun _ hk => hk.2) (.bool t135)) (fun _ hk => hk.2) (.string t136)) (fun _ h_ => h_.1))) hb); have n1_ := Aside0.mk (blk_below (g := gb101) (o := .cells #[.int .i64 a0_0, .int .i64 a0_1, .int .i64 a0_2, .int .i64 a0_3, .bool a0_4, .string a0_5] 25 (0, 0)) (by (with_reducible repeat (first | refine blk_drewN ?_ _ | refine blk_drew ?_ | refine blk_alloc ?_ _)); refine blk_far ?_ NB101_138.out _; (with_reducible repeat (first | refine blk_drewN ?_ _ | refine blk_drew ?_ | refine blk_alloc ?_ _)); refine blk_far ?_ NB101_138.out _; (with_reducible repeat (first | refine blk_drewN ?_ _ | refine blk_drew ?_ | refine blk_alloc ?_ _)); refine blk_far ?_ NB101_138.out _; (with_reducible repeat (first | refine blk_drewN ?_ _ | refine blk_drew ?_ | refine blk_alloc ?_ _)); refine blk_far ?_ NB101_138.out _; (with_reducible repeat (first | refine blk_drewN ?_ _ | refine blk_drew ?_ | refine blk_alloc ?_ _)); refine blk_far ?_ NB101_138.out _; (with_reducible repeat (first | refine blk_drewN ?_ _ | refine blk_drew ?_ | refine blk_alloc ?_ _)); refine blk_far ?_ NB101_138.out _; (with_reducible repeat (first | refine blk_drewN ?_ _ | refine blk_drew ?_ | refine blk_alloc ?_ _)); exact BK101.out) hb); have n2_ := Aside0.mk (blk_below (g := gb114) (o := .cells #[.int .i64 t107, .int .i64 t108, .int .i64 t109, .int .i64 t110, .bool t111, .string t112] 25 (0, 0)) (by (with_reducible repeat (first | refine blk_drewN ?_ _ | refine blk_drew ?_ | refine blk_alloc ?_ _)); refine blk_far ?_ NB114_138.out _; (with_reducible repeat (first | refine blk_drewN ?_ _ | refine blk_drew ?_ | refine blk_alloc ?_ _)); refine blk_far ?_ NB114_138.out _; (with_reducible repeat (first | refine blk_drewN ?_ _ | refine blk_drew ?_ | refine blk_alloc ?_ _)); refine blk_far ?_ NB114_138.out _; (with_reducible repeat (first | refine blk_drewN ?_ _ | refine blk_drew ?_ | refine blk_alloc ?_ _)); refine blk_far ?_ NB114_138.out _; (with_reducible repeat (first | refine blk_drewN ?_ _ | refine blk_drew ?_ | refine blk_alloc ?_ _)); refine blk_far ?_ NB114_138.out _; (with_reducible repeat (first | refine blk_drewN ?_ _ | refine blk_drew ?_ | refine blk_alloc ?_ _)); refine blk_far ?_ NB114_138.out _; (with_reducible repeat (first | refine blk_drewN ?_ _ | refine blk_drew ?_ | refine blk_alloc ?_ _)); exact BK114.out) hb); have n3_ := Aside0.mk (blk_below (g := gb122) (o := .cells #[.int .i64 t115, .int .i64 t116, .int .i64 t117, .int .i64 t118, .bool t119, .string t120] 25 (0, 0)) (by (with_reducible repeat (first | refine blk_drewN ?_ _ | refine blk_drew ?_ | refine blk_alloc ?_ _)); refine blk_far ?_ NB122_138.out _; (with_reducible repeat (first | refine blk_drewN ?_ _ | refine blk_drew ?_ | refine blk_alloc ?_ _)); refine blk_far ?_ NB122_138.out _; (with_reducible repeat (first | refine blk_drewN ?_ _ | refine blk_drew ?_ | refine blk_alloc ?_ _)); refine blk_far ?_ NB122_138.out _; (with_reducible repeat (first | refine blk_drewN ?_ _ | refine blk_drew ?_ | refine blk_alloc ?_ _)); refine blk_far ?_ NB122_138.out _; (with_reducible repeat (first | refine blk_drewN ?_ _ | refine blk_drew ?_ | refine blk_alloc ?_ _)); refine blk_far ?_ NB122_138.out _; (with_reducible repeat (first | refine blk_drewN ?_ _ | refine blk_drew ?_ | refine blk_alloc ?_ _)); refine blk_far ?_ NB122_138.out _; (with_reducible repeat (first | refine blk_drewN ?_ _ | refine blk_drew ?_ | refine blk_alloc ?_ _)); exact BK122.out) hb); have n4_ := Aside0.mk (blk_below (g := gb130) (o := .cells #[.int .i64 t123, .int .i64 t124, .int .i64 t125, .int .i64 t126, .bool t127, .string t128] 25 (0, 0)) (by (with_reducible repeat (first | refine blk_drewN ?_ _ | refine blk_drew ?_ | refine blk_alloc ?_ _)); refine blk_far ?_ NB130_138.out _; (with_reducible repeat (first | refine blk_drewN ?_ _ | refine blk_drew ?_ | refine blk_alloc ?_ _)); refine blk_far ?_ NB130_138.out _; (with_reducible repeat (first | refine blk_drewN ?_ _ | refine blk_drew ?_ | refine blk_alloc ?_ _)); refine blk_far ?_ NB130_138.out _; (with_reducible repeat (first | refine blk_drewN ?_ _ | refine blk_drew ?_ | refine blk_alloc ?_ _)); refine blk_far ?_ NB130_138.out _; (with_reducible repeat (first | refine blk_drewN ?_ _ | refine blk_drew ?_ | refine blk_alloc ?_ _)); refine blk_far ?_ NB130_138.out _; (with_reducible repeat (first | refine blk_drewN ?_ _ | refine blk_drew ?_ | refine blk_alloc ?_ _)); refine blk_far ?_ NB130_138.out _; (with_reducible repeat (first | refine blk_drewN ?_ _ | refine blk_drew ?_ | refine blk_alloc ?_ _)); exact BK130.out) hb); have n5_ := Aside0.mk (blk_below (g := gb138) (o := .cells #[.int .i64 t131, .int .i64 t132, .int .i64 t133, .int .i64 t134, .bool t135, .string t136] 25 (0, 0)) (by (with_reducible repeat (first | refine blk_drewN ?_ _ | refine blk_drew ?_ | refine blk_alloc ?_ _)); refine blk_put (cs := #[.int .i64 t131, .int .i64 t132, .int .i64 t133, .int .i64 t134, .bool t135, .string (⟨#[]⟩ : ByteArray)]) ?_ 5 _ rfl; (with_reducible repeat (first | refine blk_drewN ?_ _ | refine blk_drew ?_ | refine blk_alloc ?_ _)); refine blk_put (cs := #[.int .i64 t131, .int .i64 t132, .int .i64 t133, .int .i64 t134, .bool false, .string (⟨#[]⟩ : ByteArray)]) ?_ 4 _ rfl; (with_reducible repeat (first | refine blk_drewN ?_ _ | refine blk_drew ?_ | refine blk_alloc ?_ _)); refine blk_put (cs := #[.int .i64 t131, .int .i64 t132, .int .i64 t133, .int .i64 0, .bool false, .string (⟨#[]⟩ : ByteArray)]) ?_ 3 _ rfl; (with_reducible repeat (first | refine blk_drewN ?_ _ | refine blk_drew ?_ | refine blk_alloc ?_ _)); refine blk_put (cs := #[.int .i64 t131, .int .i64 t132, .int .i64 0, .int .i64 0, .bool false, .string (⟨#[]⟩ : ByteArray)]) ?_ 2 _ rfl; (with_reducible repeat (first | refine blk_drewN ?_ _ | refine blk_drew ?_ | refine blk_alloc ?_ _)); refine blk_put (cs := #[.int .i64 t131, .int .i64 0, .int .i64 0, .int .i64 0, .bool false, .string (⟨#[]⟩ : ByteArray)]) ?_ 1 _ rfl; (with_reducible repeat (first | refine blk_drewN ?_ _ | refine blk_drew ?_ | refine blk_alloc ?_ _)); refine blk_put (cs := #[.int .i64 0, .int .i64 0, .int .i64 0, .int .i64 0, .bool false, .string (⟨#[]⟩ : ByteArray)]) ?_ 0 _ rfl; (with_reducible repeat (first | refine blk_drewN ?_ _ | refine blk_drew ?_ | refine blk_alloc ?_ _)); exact BK138.out) hb); have n6_ := Aside0.mk (below_step (by repeat (first | (with_reducible first | exact HB.out | apply below_alloc | apply pw_below_drewN | apply below_drew1 | refine below_set ?_ GE101.out | refine below_set ?_ GE114.out | refine below_set ?_ GE122.out | refine below_set ?_ GE130.out | refine below_set ?_ GE138.out) | exact HB.out)) hb); clear HO104; clear BK101; clear BK114; clear BK122; clear BK130; clear BK138; clear HB; have HO104 := n0_; have BK101 := n1_; have BK114 := n2_; have BK122 := n3_; have BK130 := n4_; have BK138 := n5_; have HB := n6_; clear n0_ n1_ n2_ n3_ n4_ n5_ n6_; (try clear hb); (try clear hb2); (try clear hk); (try clear hi)))
          go_meet
          case rel => exact ⟨_, (false), (by first | rfl | (simp; done) | (generalize ByteArray.toList _ = l_; cases l_ <;> rfl) | (simp [*]; done)), H', ⟨by first | omega | exact Nat.le_refl _⟩, ⟨by (with_reducible repeat (first | refine blk_drewN ?_ _ | refine blk_drew ?_ | refine blk_alloc ?_ _)); exact BK101.out⟩, ⟨by (with_reducible repeat (first | refine blk_drewN ?_ _ | refine blk_drew ?_ | refine blk_alloc ?_ _)); exact BK114.out⟩, ⟨by (with_reducible repeat (first | refine blk_drewN ?_ _ | refine blk_drew ?_ | refine blk_alloc ?_ _)); exact BK122.out⟩, ⟨by (with_reducible repeat (first | refine blk_drewN ?_ _ | refine blk_drew ?_ | refine blk_alloc ?_ _)); exact BK130.out⟩, ⟨by (with_reducible repeat (first | refine blk_drewN ?_ _ | refine blk_drew ?_ | refine blk_alloc ?_ _)); exact BK138.out⟩, ⟨by repeat (first | (with_reducible first | exact HB.out | apply below_alloc | apply pw_below_drewN | apply below_drew1 | refine below_set ?_ GE101.out | refine below_set ?_ GE114.out | refine below_set ?_ GE122.out | refine below_set ?_ GE130.out | refine below_set ?_ GE138.out) | exact HB.out)⟩⟩
        ·replace c69 := Bool.eq_false_iff.mpr c69
         subst c69
         have H1 : (ironbarklaw02_RuleTurns.j0 k true a0_0 a0_1 a0_2 a0_3 a0_4 a0_5) = some r := by rw [if_neg (show ¬ (false = true) by decide)] at H; exact H
         clear H
         have H := H1
         clear H1
         exact absurd (H.trans (congrArg some hrt_.out)) (by first | exact ironbarklaw02_RuleTurns.j0_no _ _ _ _ _ _ _  | exact ironbarklaw02_RuleTurns.j1_no _ _ _ _ _ _ _ )
       ·rw [if_neg c67] at H
        have c67b0 : (t113 == 0) = false := beq_eq_false_iff_ne.mpr c67
        have c67b1 : (t113 != 0) = true := bne_iff_ne.mpr c67
        by_cases c119 : t129 = 0
        ·rw [if_pos c119] at H
         have c119b0 : (t129 == 0) = true := beq_iff_eq.mpr c119
         have c119b1 : (t129 != 0) = false := bne_eq_false_iff_eq.mpr c119
         clear c119
         replace H := Option.bind_eq_some_iff.mp H
         obtain ⟨t141, A1200, H⟩ := H
         replace H : (ironbarklaw02_RuleTurns.j0 k (!t141) a0_0 a0_1 a0_2 a0_3 a0_4 a0_5) = some r := H
         have A120 := Aside0.mk A1200
         clear A1200
         have H' := Aside0.mk H
         clear H
         have hnb121 := NB114_101.out
         have hnc121 := NB101_114.out
         have hnb122 := NB114_122.out
         have hnc122 := NB122_114.out
         have hnb123 := NB114_130.out
         have hnc123 := NB130_114.out
         have hnb124 := NB114_138.out
         have hnc124 := NB138_114.out
         have hcz125_0 : w34.cell? ⟨gb114, 0, none⟩ = some (.int .i64 t107) := (blk_cell BK114.out 0).trans rfl
         have hcz125_1 : w34.cell? ⟨gb114, 1, none⟩ = some (.int .i64 t108) := (blk_cell BK114.out 1).trans rfl
         have hcz125_2 : w34.cell? ⟨gb114, 2, none⟩ = some (.int .i64 t109) := (blk_cell BK114.out 2).trans rfl
         have hcz125_3 : w34.cell? ⟨gb114, 3, none⟩ = some (.int .i64 t110) := (blk_cell BK114.out 3).trans rfl
         have hcz125_4 : w34.cell? ⟨gb114, 4, none⟩ = some (.bool t111) := (blk_cell BK114.out 4).trans rfl
         have hcz125_5 : w34.cell? ⟨gb114, 5, none⟩ = some (.string t112) := (blk_cell BK114.out 5).trans rfl
         have hfz125_0 := blk_frozen BK114.out 0
         have hfz125_1 := blk_frozen BK114.out 1
         have hfz125_2 := blk_frozen BK114.out 2
         have hfz125_3 := blk_frozen BK114.out 3
         have hfz125_4 := blk_frozen BK114.out 4
         have hfz125_5 := blk_frozen BK114.out 5
         have hnb126 := NB122_101.out
         have hnc126 := NB101_122.out
         have hnb127 := NB122_130.out
         have hnc127 := NB130_122.out
         have hnb128 := NB122_138.out
         have hnc128 := NB138_122.out
         have hcz129_0 : w34.cell? ⟨gb122, 0, none⟩ = some (.int .i64 t115) := (blk_cell BK122.out 0).trans rfl
         have hcz129_1 : w34.cell? ⟨gb122, 1, none⟩ = some (.int .i64 t116) := (blk_cell BK122.out 1).trans rfl
         have hcz129_2 : w34.cell? ⟨gb122, 2, none⟩ = some (.int .i64 t117) := (blk_cell BK122.out 2).trans rfl
         have hcz129_3 : w34.cell? ⟨gb122, 3, none⟩ = some (.int .i64 t118) := (blk_cell BK122.out 3).trans rfl
         have hcz129_4 : w34.cell? ⟨gb122, 4, none⟩ = some (.bool t119) := (blk_cell BK122.out 4).trans rfl
         have hcz129_5 : w34.cell? ⟨gb122, 5, none⟩ = some (.string t120) := (blk_cell BK122.out 5).trans rfl
         have hfz129_0 := blk_frozen BK122.out 0
         have hfz129_1 := blk_frozen BK122.out 1
         have hfz129_2 := blk_frozen BK122.out 2
         have hfz129_3 := blk_frozen BK122.out 3
         have hfz129_4 := blk_frozen BK122.out 4
         have hfz129_5 := blk_frozen BK122.out 5
         have hnb130 := NB130_101.out
         have hnc130 := NB101_130.out
         have hnb131 := NB130_138.out
         have hnc131 := NB138_130.out
         have hcz132_0 : w34.cell? ⟨gb130, 0, none⟩ = some (.int .i64 t123) := (blk_cell BK130.out 0).trans rfl
         have hcz132_1 : w34.cell? ⟨gb130, 1, none⟩ = some (.int .i64 t124) := (blk_cell BK130.out 1).trans rfl
         have hcz132_2 : w34.cell? ⟨gb130, 2, none⟩ = some (.int .i64 t125) := (blk_cell BK130.out 2).trans rfl
         have hcz132_3 : w34.cell? ⟨gb130, 3, none⟩ = some (.int .i64 t126) := (blk_cell BK130.out 3).trans rfl
         have hcz132_4 : w34.cell? ⟨gb130, 4, none⟩ = some (.bool t127) := (blk_cell BK130.out 4).trans rfl
         have hcz132_5 : w34.cell? ⟨gb130, 5, none⟩ = some (.string t128) := (blk_cell BK130.out 5).trans rfl
         have hfz132_0 := blk_frozen BK130.out 0
         have hfz132_1 := blk_frozen BK130.out 1
         have hfz132_2 := blk_frozen BK130.out 2
         have hfz132_3 := blk_frozen BK130.out 3
         have hfz132_4 := blk_frozen BK130.out 4
         have hfz132_5 := blk_frozen BK130.out 5
         have hnb133 := NB138_101.out
         have hnc133 := NB101_138.out
         have hcz134_0 : w34.cell? ⟨gb138, 0, none⟩ = some (.int .i64 0) := (blk_cell BK138.out 0).trans rfl
         have hcz134_1 : w34.cell? ⟨gb138, 1, none⟩ = some (.int .i64 0) := (blk_cell BK138.out 1).trans rfl
         have hcz134_2 : w34.cell? ⟨gb138, 2, none⟩ = some (.int .i64 0) := (blk_cell BK138.out 2).trans rfl
         have hcz134_3 : w34.cell? ⟨gb138, 3, none⟩ = some (.int .i64 0) := (blk_cell BK138.out 3).trans rfl
         have hcz134_4 : w34.cell? ⟨gb138, 4, none⟩ = some (.bool false) := (blk_cell BK138.out 4).trans rfl
         have hcz134_5 : w34.cell? ⟨gb138, 5, none⟩ = some (.string (⟨#[]⟩ : ByteArray)) := (blk_cell BK138.out 5).trans rfl
         have hfz134_0 := blk_frozen BK138.out 0
         have hfz134_1 := blk_frozen BK138.out 1
         have hfz134_2 := blk_frozen BK138.out 2
         have hfz134_3 := blk_frozen BK138.out 3
         have hfz134_4 := blk_frozen BK138.out 4
         have hfz134_5 := blk_frozen BK138.out 5
         go_wp2_with (first | (go_at_call 20; (with_reducible refine (ironbarkref01_Valid.calls k t123 t124 t125 t126 t127 t128 t141 _ A120.out).mono ?_); rintro e w135 ⟨rfl, hb⟩; have n0_ := Aside0.mk (Kd.R_below (by (with_reducible repeat (first | apply Kd.R_alloc | apply Kd.R_drewN | apply Kd.R_drew)); exact (Kd.R_mono (Kd.R_far (p := ⟨gb138, 5, none⟩) (Kd.R_far (p := ⟨gb138, 4, none⟩) (Kd.R_far (p := ⟨gb138, 3, none⟩) (Kd.R_far (p := ⟨gb138, 2, none⟩) (Kd.R_far (p := ⟨gb138, 1, none⟩) (Kd.R_far (p := ⟨gb138, 0, none⟩) (Kd.R_mono HO104.out (fun k_ hk => (⟨hk, hk.2⟩ : _ ∧ k_ ≠ gb138))) (fun _ hk => hk.2) (.int .i64 t131)) (fun _ hk => hk.2) (.int .i64 t132)) (fun _ hk => hk.2) (.int .i64 t133)) (fun _ hk => hk.2) (.int .i64 t134)) (fun _ hk => hk.2) (.bool t135)) (fun _ hk => hk.2) (.string t136)) (fun _ h_ => h_.1))) hb); have n1_ := Aside0.mk (blk_below (g := gb101) (o := .cells #[.int .i64 a0_0, .int .i64 a0_1, .int .i64 a0_2, .int .i64 a0_3, .bool a0_4, .string a0_5] 25 (0, 0)) (by (with_reducible repeat (first | refine blk_drewN ?_ _ | refine blk_drew ?_ | refine blk_alloc ?_ _)); refine blk_far ?_ NB101_138.out _; (with_reducible repeat (first | refine blk_drewN ?_ _ | refine blk_drew ?_ | refine blk_alloc ?_ _)); refine blk_far ?_ NB101_138.out _; (with_reducible repeat (first | refine blk_drewN ?_ _ | refine blk_drew ?_ | refine blk_alloc ?_ _)); refine blk_far ?_ NB101_138.out _; (with_reducible repeat (first | refine blk_drewN ?_ _ | refine blk_drew ?_ | refine blk_alloc ?_ _)); refine blk_far ?_ NB101_138.out _; (with_reducible repeat (first | refine blk_drewN ?_ _ | refine blk_drew ?_ | refine blk_alloc ?_ _)); refine blk_far ?_ NB101_138.out _; (with_reducible repeat (first | refine blk_drewN ?_ _ | refine blk_drew ?_ | refine blk_alloc ?_ _)); refine blk_far ?_ NB101_138.out _; (with_reducible repeat (first | refine blk_drewN ?_ _ | refine blk_drew ?_ | refine blk_alloc ?_ _)); exact BK101.out) hb); have n2_ := Aside0.mk (blk_below (g := gb114) (o := .cells #[.int .i64 t107, .int .i64 t108, .int .i64 t109, .int .i64 t110, .bool t111, .string t112] 25 (0, 0)) (by (with_reducible repeat (first | refine blk_drewN ?_ _ | refine blk_drew ?_ | refine blk_alloc ?_ _)); refine blk_far ?_ NB114_138.out _; (with_reducible repeat (first | refine blk_drewN ?_ _ | refine blk_drew ?_ | refine blk_alloc ?_ _)); refine blk_far ?_ NB114_138.out _; (with_reducible repeat (first | refine blk_drewN ?_ _ | refine blk_drew ?_ | refine blk_alloc ?_ _)); refine blk_far ?_ NB114_138.out _; (with_reducible repeat (first | refine blk_drewN ?_ _ | refine blk_drew ?_ | refine blk_alloc ?_ _)); refine blk_far ?_ NB114_138.out _; (with_reducible repeat (first | refine blk_drewN ?_ _ | refine blk_drew ?_ | refine blk_alloc ?_ _)); refine blk_far ?_ NB114_138.out _; (with_reducible repeat (first | refine blk_drewN ?_ _ | refine blk_drew ?_ | refine blk_alloc ?_ _)); refine blk_far ?_ NB114_138.out _; (with_reducible repeat (first | refine blk_drewN ?_ _ | refine blk_drew ?_ | refine blk_alloc ?_ _)); exact BK114.out) hb); have n3_ := Aside0.mk (blk_below (g := gb122) (o := .cells #[.int .i64 t115, .int .i64 t116, .int .i64 t117, .int .i64 t118, .bool t119, .string t120] 25 (0, 0)) (by (with_reducible repeat (first | refine blk_drewN ?_ _ | refine blk_drew ?_ | refine blk_alloc ?_ _)); refine blk_far ?_ NB122_138.out _; (with_reducible repeat (first | refine blk_drewN ?_ _ | refine blk_drew ?_ | refine blk_alloc ?_ _)); refine blk_far ?_ NB122_138.out _; (with_reducible repeat (first | refine blk_drewN ?_ _ | refine blk_drew ?_ | refine blk_alloc ?_ _)); refine blk_far ?_ NB122_138.out _; (with_reducible repeat (first | refine blk_drewN ?_ _ | refine blk_drew ?_ | refine blk_alloc ?_ _)); refine blk_far ?_ NB122_138.out _; (with_reducible repeat (first | refine blk_drewN ?_ _ | refine blk_drew ?_ | refine blk_alloc ?_ _)); refine blk_far ?_ NB122_138.out _; (with_reducible repeat (first | refine blk_drewN ?_ _ | refine blk_drew ?_ | refine blk_alloc ?_ _)); refine blk_far ?_ NB122_138.out _; (with_reducible repeat (first | refine blk_drewN ?_ _ | refine blk_drew ?_ | refine blk_alloc ?_ _)); exact BK122.out) hb); have n4_ := Aside0.mk (blk_below (g := gb130) (o := .cells #[.int .i64 t123, .int .i64 t124, .int .i64 t125, .int .i64 t126, .bool t127, .string t128] 25 (0, 0)) (by (with_reducible repeat (first | refine blk_drewN ?_ _ | refine blk_drew ?_ | refine blk_alloc ?_ _)); refine blk_far ?_ NB130_138.out _; (with_reducible repeat (first | refine blk_drewN ?_ _ | refine blk_drew ?_ | refine blk_alloc ?_ _)); refine blk_far ?_ NB130_138.out _; (with_reducible repeat (first | refine blk_drewN ?_ _ | refine blk_drew ?_ | refine blk_alloc ?_ _)); refine blk_far ?_ NB130_138.out _; (with_reducible repeat (first | refine blk_drewN ?_ _ | refine blk_drew ?_ | refine blk_alloc ?_ _)); refine blk_far ?_ NB130_138.out _; (with_reducible repeat (first | refine blk_drewN ?_ _ | refine blk_drew ?_ | refine blk_alloc ?_ _)); refine blk_far ?_ NB130_138.out _; (with_reducible repeat (first | refine blk_drewN ?_ _ | refine blk_drew ?_ | refine blk_alloc ?_ _)); refine blk_far ?_ NB130_138.out _; (with_reducible repeat (first | refine blk_drewN ?_ _ | refine blk_drew ?_ | refine blk_alloc ?_ _)); exact BK130.out) hb); have n5_ := Aside0.mk (blk_below (g := gb138) (o := .cells #[.int .i64 t131, .int .i64 t132, .int .i64 t133, .int .i64 t134, .bool t135, .string t136] 25 (0, 0)) (by (with_reducible repeat (first | refine blk_drewN ?_ _ | refine blk_drew ?_ | refine blk_alloc ?_ _)); refine blk_put (cs := #[.int .i64 t131, .int .i64 t132, .int .i64 t133, .int .i64 t134, .bool t135, .string (⟨#[]⟩ : ByteArray)]) ?_ 5 _ rfl; (with_reducible repeat (first | refine blk_drewN ?_ _ | refine blk_drew ?_ | refine blk_alloc ?_ _)); refine blk_put (cs := #[.int .i64 t131, .int .i64 t132, .int .i64 t133, .int .i64 t134, .bool false, .string (⟨#[]⟩ : ByteArray)]) ?_ 4 _ rfl; (with_reducible repeat (first | refine blk_drewN ?_ _ | refine blk_drew ?_ | refine blk_alloc ?_ _)); refine blk_put (cs := #[.int .i64 t131, .int .i64 t132, .int .i64 t133, .int .i64 0, .bool false, .string (⟨#[]⟩ : ByteArray)]) ?_ 3 _ rfl; (with_reducible repeat (first | refine blk_drewN ?_ _ | refine blk_drew ?_ | refine blk_alloc ?_ _)); refine blk_put (cs := #[.int .i64 t131, .int .i64 t132, .int .i64 0, .int .i64 0, .bool false, .string (⟨#[]⟩ : ByteArray)]) ?_ 2 _ rfl; (with_reducible repeat (first | refine blk_drewN ?_ _ | refine blk_drew ?_ | refine blk_alloc ?_ _)); refine blk_put (cs := #[.int .i64 t131, .int .i64 0, .int .i64 0, .int .i64 0, .bool false, .string (⟨#[]⟩ : ByteArray)]) ?_ 1 _ rfl; (with_reducible repeat (first | refine blk_drewN ?_ _ | refine blk_drew ?_ | refine blk_alloc ?_ _)); refine blk_put (cs := #[.int .i64 0, .int .i64 0, .int .i64 0, .int .i64 0, .bool false, .string (⟨#[]⟩ : ByteArray)]) ?_ 0 _ rfl; (with_reducible repeat (first | refine blk_drewN ?_ _ | refine blk_drew ?_ | refine blk_alloc ?_ _)); exact BK138.out) hb); have n6_ := Aside0.mk (below_step (by repeat (first | (with_reducible first | exact HB.out | apply below_alloc | apply pw_below_drewN | apply below_drew1 | refine below_set ?_ GE101.out | refine below_set ?_ GE114.out | refine below_set ?_ GE122.out | refine below_set ?_ GE130.out | refine below_set ?_ GE138.out) | exact HB.out)) hb); clear HO104; clear BK101; clear BK114; clear BK122; clear BK130; clear BK138; clear HB; have HO104 := n0_; have BK101 := n1_; have BK114 := n2_; have BK122 := n3_; have BK130 := n4_; have BK138 := n5_; have HB := n6_; clear n0_ n1_ n2_ n3_ n4_ n5_ n6_; (try clear hb); (try clear hb2); (try clear hk); (try clear hi)))
         go_meet
         case rel => exact ⟨_, (!t141), (by first | rfl | (simp; done) | (generalize ByteArray.toList _ = l_; cases l_ <;> rfl) | (simp [*]; done)), H', ⟨by first | omega | exact Nat.le_refl _⟩, ⟨by (with_reducible repeat (first | refine blk_drewN ?_ _ | refine blk_drew ?_ | refine blk_alloc ?_ _)); exact BK101.out⟩, ⟨by (with_reducible repeat (first | refine blk_drewN ?_ _ | refine blk_drew ?_ | refine blk_alloc ?_ _)); exact BK114.out⟩, ⟨by (with_reducible repeat (first | refine blk_drewN ?_ _ | refine blk_drew ?_ | refine blk_alloc ?_ _)); exact BK122.out⟩, ⟨by (with_reducible repeat (first | refine blk_drewN ?_ _ | refine blk_drew ?_ | refine blk_alloc ?_ _)); exact BK130.out⟩, ⟨by (with_reducible repeat (first | refine blk_drewN ?_ _ | refine blk_drew ?_ | refine blk_alloc ?_ _)); exact BK138.out⟩, ⟨by repeat (first | (with_reducible first | exact HB.out | apply below_alloc | apply pw_below_drewN | apply below_drew1 | refine below_set ?_ GE101.out | refine below_set ?_ GE114.out | refine below_set ?_ GE122.out | refine below_set ?_ GE130.out | refine below_set ?_ GE138.out) | exact HB.out)⟩⟩
        ·rw [if_neg c119] at H
         have c119b0 : (t129 == 0) = false := beq_eq_false_iff_ne.mpr c119
         have c119b1 : (t129 != 0) = true := bne_iff_ne.mpr c119
         have H' := Aside0.mk H
         clear H
         have hnb136 := NB114_101.out
         have hnc136 := NB101_114.out
         have hnb137 := NB114_122.out
         have hnc137 := NB122_114.out
         have hnb138 := NB114_130.out
         have hnc138 := NB130_114.out
         have hnb139 := NB114_138.out
         have hnc139 := NB138_114.out
         have hcz140_0 : w34.cell? ⟨gb114, 0, none⟩ = some (.int .i64 t107) := (blk_cell BK114.out 0).trans rfl
         have hcz140_1 : w34.cell? ⟨gb114, 1, none⟩ = some (.int .i64 t108) := (blk_cell BK114.out 1).trans rfl
         have hcz140_2 : w34.cell? ⟨gb114, 2, none⟩ = some (.int .i64 t109) := (blk_cell BK114.out 2).trans rfl
         have hcz140_3 : w34.cell? ⟨gb114, 3, none⟩ = some (.int .i64 t110) := (blk_cell BK114.out 3).trans rfl
         have hcz140_4 : w34.cell? ⟨gb114, 4, none⟩ = some (.bool t111) := (blk_cell BK114.out 4).trans rfl
         have hcz140_5 : w34.cell? ⟨gb114, 5, none⟩ = some (.string t112) := (blk_cell BK114.out 5).trans rfl
         have hfz140_0 := blk_frozen BK114.out 0
         have hfz140_1 := blk_frozen BK114.out 1
         have hfz140_2 := blk_frozen BK114.out 2
         have hfz140_3 := blk_frozen BK114.out 3
         have hfz140_4 := blk_frozen BK114.out 4
         have hfz140_5 := blk_frozen BK114.out 5
         have hnb141 := NB122_101.out
         have hnc141 := NB101_122.out
         have hnb142 := NB122_130.out
         have hnc142 := NB130_122.out
         have hnb143 := NB122_138.out
         have hnc143 := NB138_122.out
         have hcz144_0 : w34.cell? ⟨gb122, 0, none⟩ = some (.int .i64 t115) := (blk_cell BK122.out 0).trans rfl
         have hcz144_1 : w34.cell? ⟨gb122, 1, none⟩ = some (.int .i64 t116) := (blk_cell BK122.out 1).trans rfl
         have hcz144_2 : w34.cell? ⟨gb122, 2, none⟩ = some (.int .i64 t117) := (blk_cell BK122.out 2).trans rfl
         have hcz144_3 : w34.cell? ⟨gb122, 3, none⟩ = some (.int .i64 t118) := (blk_cell BK122.out 3).trans rfl
         have hcz144_4 : w34.cell? ⟨gb122, 4, none⟩ = some (.bool t119) := (blk_cell BK122.out 4).trans rfl
         have hcz144_5 : w34.cell? ⟨gb122, 5, none⟩ = some (.string t120) := (blk_cell BK122.out 5).trans rfl
         have hfz144_0 := blk_frozen BK122.out 0
         have hfz144_1 := blk_frozen BK122.out 1
         have hfz144_2 := blk_frozen BK122.out 2
         have hfz144_3 := blk_frozen BK122.out 3
         have hfz144_4 := blk_frozen BK122.out 4
         have hfz144_5 := blk_frozen BK122.out 5
         have hnb145 := NB130_101.out
         have hnc145 := NB101_130.out
         have hnb146 := NB130_138.out
         have hnc146 := NB138_130.out
         have hcz147_0 : w34.cell? ⟨gb130, 0, none⟩ = some (.int .i64 t123) := (blk_cell BK130.out 0).trans rfl
         have hcz147_1 : w34.cell? ⟨gb130, 1, none⟩ = some (.int .i64 t124) := (blk_cell BK130.out 1).trans rfl
         have hcz147_2 : w34.cell? ⟨gb130, 2, none⟩ = some (.int .i64 t125) := (blk_cell BK130.out 2).trans rfl
         have hcz147_3 : w34.cell? ⟨gb130, 3, none⟩ = some (.int .i64 t126) := (blk_cell BK130.out 3).trans rfl
         have hcz147_4 : w34.cell? ⟨gb130, 4, none⟩ = some (.bool t127) := (blk_cell BK130.out 4).trans rfl
         have hcz147_5 : w34.cell? ⟨gb130, 5, none⟩ = some (.string t128) := (blk_cell BK130.out 5).trans rfl
         have hfz147_0 := blk_frozen BK130.out 0
         have hfz147_1 := blk_frozen BK130.out 1
         have hfz147_2 := blk_frozen BK130.out 2
         have hfz147_3 := blk_frozen BK130.out 3
         have hfz147_4 := blk_frozen BK130.out 4
         have hfz147_5 := blk_frozen BK130.out 5
         have hnb148 := NB138_101.out
         have hnc148 := NB101_138.out
         have hcz149_0 : w34.cell? ⟨gb138, 0, none⟩ = some (.int .i64 0) := (blk_cell BK138.out 0).trans rfl
         have hcz149_1 : w34.cell? ⟨gb138, 1, none⟩ = some (.int .i64 0) := (blk_cell BK138.out 1).trans rfl
         have hcz149_2 : w34.cell? ⟨gb138, 2, none⟩ = some (.int .i64 0) := (blk_cell BK138.out 2).trans rfl
         have hcz149_3 : w34.cell? ⟨gb138, 3, none⟩ = some (.int .i64 0) := (blk_cell BK138.out 3).trans rfl
         have hcz149_4 : w34.cell? ⟨gb138, 4, none⟩ = some (.bool false) := (blk_cell BK138.out 4).trans rfl
         have hcz149_5 : w34.cell? ⟨gb138, 5, none⟩ = some (.string (⟨#[]⟩ : ByteArray)) := (blk_cell BK138.out 5).trans rfl
         have hfz149_0 := blk_frozen BK138.out 0
         have hfz149_1 := blk_frozen BK138.out 1
         have hfz149_2 := blk_frozen BK138.out 2
         have hfz149_3 := blk_frozen BK138.out 3
         have hfz149_4 := blk_frozen BK138.out 4
         have hfz149_5 := blk_frozen BK138.out 5
         go_wp2
         go_meet
         case rel => exact ⟨_, (false), (by first | rfl | (simp; done) | (generalize ByteArray.toList _ = l_; cases l_ <;> rfl) | (simp [*]; done)), H', ⟨by first | omega | exact Nat.le_refl _⟩, ⟨by (with_reducible repeat (first | refine blk_drewN ?_ _ | refine blk_drew ?_ | refine blk_alloc ?_ _)); refine blk_far ?_ NB101_138.out _; (with_reducible repeat (first | refine blk_drewN ?_ _ | refine blk_drew ?_ | refine blk_alloc ?_ _)); refine blk_far ?_ NB101_138.out _; (with_reducible repeat (first | refine blk_drewN ?_ _ | refine blk_drew ?_ | refine blk_alloc ?_ _)); refine blk_far ?_ NB101_138.out _; (with_reducible repeat (first | refine blk_drewN ?_ _ | refine blk_drew ?_ | refine blk_alloc ?_ _)); refine blk_far ?_ NB101_138.out _; (with_reducible repeat (first | refine blk_drewN ?_ _ | refine blk_drew ?_ | refine blk_alloc ?_ _)); refine blk_far ?_ NB101_138.out _; (with_reducible repeat (first | refine blk_drewN ?_ _ | refine blk_drew ?_ | refine blk_alloc ?_ _)); refine blk_far ?_ NB101_138.out _; (with_reducible repeat (first | refine blk_drewN ?_ _ | refine blk_drew ?_ | refine blk_alloc ?_ _)); exact BK101.out⟩, ⟨by (with_reducible repeat (first | refine blk_drewN ?_ _ | refine blk_drew ?_ | refine blk_alloc ?_ _)); refine blk_far ?_ NB114_138.out _; (with_reducible repeat (first | refine blk_drewN ?_ _ | refine blk_drew ?_ | refine blk_alloc ?_ _)); refine blk_far ?_ NB114_138.out _; (with_reducible repeat (first | refine blk_drewN ?_ _ | refine blk_drew ?_ | refine blk_alloc ?_ _)); refine blk_far ?_ NB114_138.out _; (with_reducible repeat (first | refine blk_drewN ?_ _ | refine blk_drew ?_ | refine blk_alloc ?_ _)); refine blk_far ?_ NB114_138.out _; (with_reducible repeat (first | refine blk_drewN ?_ _ | refine blk_drew ?_ | refine blk_alloc ?_ _)); refine blk_far ?_ NB114_138.out _; (with_reducible repeat (first | refine blk_drewN ?_ _ | refine blk_drew ?_ | refine blk_alloc ?_ _)); refine blk_far ?_ NB114_138.out _; (with_reducible repeat (first | refine blk_drewN ?_ _ | refine blk_drew ?_ | refine blk_alloc ?_ _)); exact BK114.out⟩, ⟨by (with_reducible repeat (first | refine blk_drewN ?_ _ | refine blk_drew ?_ | refine blk_alloc ?_ _)); refine blk_far ?_ NB122_138.out _; (with_reducible repeat (first | refine blk_drewN ?_ _ | refine blk_drew ?_ | refine blk_alloc ?_ _)); refine blk_far ?_ NB122_138.out _; (with_reducible repeat (first | refine blk_drewN ?_ _ | refine blk_drew ?_ | refine blk_alloc ?_ _)); refine blk_far ?_ NB122_138.out _; (with_reducible repeat (first | refine blk_drewN ?_ _ | refine blk_drew ?_ | refine blk_alloc ?_ _)); refine blk_far ?_ NB122_138.out _; (with_reducible repeat (first | refine blk_drewN ?_ _ | refine blk_drew ?_ | refine blk_alloc ?_ _)); refine blk_far ?_ NB122_138.out _; (with_reducible repeat (first | refine blk_drewN ?_ _ | refine blk_drew ?_ | refine blk_alloc ?_ _)); refine blk_far ?_ NB122_138.out _; (with_reducible repeat (first | refine blk_drewN ?_ _ | refine blk_drew ?_ | refine blk_alloc ?_ _)); exact BK122.out⟩, ⟨by (with_reducible repeat (first | refine blk_drewN ?_ _ | refine blk_drew ?_ | refine blk_alloc ?_ _)); refine blk_far ?_ NB130_138.out _; (with_reducible repeat (first | refine blk_drewN ?_ _ | refine blk_drew ?_ | refine blk_alloc ?_ _)); refine blk_far ?_ NB130_138.out _; (with_reducible repeat (first | refine blk_drewN ?_ _ | refine blk_drew ?_ | refine blk_alloc ?_ _)); refine blk_far ?_ NB130_138.out _; (with_reducible repeat (first | refine blk_drewN ?_ _ | refine blk_drew ?_ | refine blk_alloc ?_ _)); refine blk_far ?_ NB130_138.out _; (with_reducible repeat (first | refine blk_drewN ?_ _ | refine blk_drew ?_ | refine blk_alloc ?_ _)); refine blk_far ?_ NB130_138.out _; (with_reducible repeat (first | refine blk_drewN ?_ _ | refine blk_drew ?_ | refine blk_alloc ?_ _)); refine blk_far ?_ NB130_138.out _; (with_reducible repeat (first | refine blk_drewN ?_ _ | refine blk_drew ?_ | refine blk_alloc ?_ _)); exact BK130.out⟩, ⟨by (with_reducible repeat (first | refine blk_drewN ?_ _ | refine blk_drew ?_ | refine blk_alloc ?_ _)); refine blk_put (cs := #[.int .i64 t131, .int .i64 t132, .int .i64 t133, .int .i64 t134, .bool t135, .string (⟨#[]⟩ : ByteArray)]) ?_ 5 _ rfl; (with_reducible repeat (first | refine blk_drewN ?_ _ | refine blk_drew ?_ | refine blk_alloc ?_ _)); refine blk_put (cs := #[.int .i64 t131, .int .i64 t132, .int .i64 t133, .int .i64 t134, .bool false, .string (⟨#[]⟩ : ByteArray)]) ?_ 4 _ rfl; (with_reducible repeat (first | refine blk_drewN ?_ _ | refine blk_drew ?_ | refine blk_alloc ?_ _)); refine blk_put (cs := #[.int .i64 t131, .int .i64 t132, .int .i64 t133, .int .i64 0, .bool false, .string (⟨#[]⟩ : ByteArray)]) ?_ 3 _ rfl; (with_reducible repeat (first | refine blk_drewN ?_ _ | refine blk_drew ?_ | refine blk_alloc ?_ _)); refine blk_put (cs := #[.int .i64 t131, .int .i64 t132, .int .i64 0, .int .i64 0, .bool false, .string (⟨#[]⟩ : ByteArray)]) ?_ 2 _ rfl; (with_reducible repeat (first | refine blk_drewN ?_ _ | refine blk_drew ?_ | refine blk_alloc ?_ _)); refine blk_put (cs := #[.int .i64 t131, .int .i64 0, .int .i64 0, .int .i64 0, .bool false, .string (⟨#[]⟩ : ByteArray)]) ?_ 1 _ rfl; (with_reducible repeat (first | refine blk_drewN ?_ _ | refine blk_drew ?_ | refine blk_alloc ?_ _)); refine blk_put (cs := #[.int .i64 0, .int .i64 0, .int .i64 0, .int .i64 0, .bool false, .string (⟨#[]⟩ : ByteArray)]) ?_ 0 _ rfl; (with_reducible repeat (first | refine blk_drewN ?_ _ | refine blk_drew ?_ | refine blk_alloc ?_ _)); exact BK138.out⟩, ⟨by repeat (first | (with_reducible first | exact HB.out | apply below_alloc | apply pw_below_drewN | apply below_drew1 | refine below_set ?_ GE101.out | refine below_set ?_ GE114.out | refine below_set ?_ GE122.out | refine below_set ?_ GE130.out | refine below_set ?_ GE138.out) | exact HB.out)⟩⟩
      ·rw [if_neg c66] at H
       have c66b0 : (t129 == t137) = false := beq_eq_false_iff_ne.mpr c66
       have c66b1 : (t129 != t137) = true := bne_iff_ne.mpr c66
       exact absurd (H.trans (congrArg some hrt_.out)) (by first | exact ironbarklaw02_RuleTurns.j0_no _ _ _ _ _ _ _  | exact ironbarklaw02_RuleTurns.j1_no _ _ _ _ _ _ _ )
    ·rw [if_neg c50] at H
     have c50b0 : (t113 == t121) = false := beq_eq_false_iff_ne.mpr c50
     have c50b1 : (t113 != t121) = true := bne_iff_ne.mpr c50
     exact absurd (H.trans (congrArg some hrt_.out)) (by first | exact ironbarklaw02_RuleTurns.j0_no _ _ _ _ _ _ _  | exact ironbarklaw02_RuleTurns.j1_no _ _ _ _ _ _ _ )
  case rest =>
   clear HC8
   try clear c1
   try clear p2
   try clear c5
   try clear c6
   try clear c7
   try clear c8
   try clear c9
   try clear c10
   try clear c11
   try clear c12
   try clear c13
   try clear c14
   try clear c15
   try clear c16
   try clear c17
   try clear c50
   try clear c50b0
   try clear c50b1
   try clear c51
   try clear c51b0
   try clear c57
   try clear c58
   try clear c59
   try clear c61
   try clear c62
   try clear c64
   try clear c66
   try clear c66b0
   try clear c66b1
   try clear c67
   try clear c67b0
   try clear c67b1
   try clear c69
   try clear c70
   try clear c70b0
   try clear c70b1
   try clear c72
   try clear c73
   try clear c74
   try clear c75
   try clear c77
   try clear c78
   try clear c79
   try clear c81
   try clear c82
   try clear c84
   try clear c89
   try clear c90
   try clear c91
   try clear c92
   try clear c94
   try clear c95
   try clear c96
   try clear c98
   try clear c99
   try clear c101
   try clear c104
   try clear c105
   try clear c106
   try clear c107
   try clear c109
   try clear c110
   try clear c111
   try clear c113
   try clear c114
   try clear c116
   try clear c119
   try clear c119b0
   try clear c119b1
   try clear c121
   try clear c122
   try clear c123
   try clear c124
   try clear c126
   try clear c127
   try clear c128
   try clear c130
   try clear c131
   try clear c133
   try clear c136
   try clear c137
   try clear c138
   try clear c139
   try clear c141
   try clear c142
   try clear c143
   try clear c145
   try clear c146
   try clear c148
   try clear c150
   try clear c151
   try clear c152
   try clear c153
   try clear c155
   try clear c156
   try clear c157
   try clear c159
   try clear c160
   try clear c162
   try clear c164
   try clear c165
   try clear c166
   try clear c167
   try clear c169
   try clear c170
   try clear c171
   try clear hcz100_0
   try clear hcz100_1
   try clear hcz100_2
   try clear hcz100_3
   try clear hcz100_4
   try clear hcz100_5
   try clear hcz102_0
   try clear hcz102_1
   try clear hcz102_2
   try clear hcz102_3
   try clear hcz102_4
   try clear hcz102_5
   try clear hcz108_0
   try clear hcz108_1
   try clear hcz108_2
   try clear hcz108_3
   try clear hcz108_4
   try clear hcz108_5
   try clear hcz112_0
   try clear hcz112_1
   try clear hcz112_2
   try clear hcz112_3
   try clear hcz112_4
   try clear hcz112_5
   try clear hcz115_0
   try clear hcz115_1
   try clear hcz115_2
   try clear hcz115_3
   try clear hcz115_4
   try clear hcz115_5
   try clear hcz117_0
   try clear hcz117_1
   try clear hcz117_2
   try clear hcz117_3
   try clear hcz117_4
   try clear hcz117_5
   try clear hcz125_0
   try clear hcz125_1
   try clear hcz125_2
   try clear hcz125_3
   try clear hcz125_4
   try clear hcz125_5
   try clear hcz129_0
   try clear hcz129_1
   try clear hcz129_2
   try clear hcz129_3
   try clear hcz129_4
   try clear hcz129_5
   try clear hcz132_0
   try clear hcz132_1
   try clear hcz132_2
   try clear hcz132_3
   try clear hcz132_4
   try clear hcz132_5
   try clear hcz134_0
   try clear hcz134_1
   try clear hcz134_2
   try clear hcz134_3
   try clear hcz134_4
   try clear hcz134_5
   try clear hcz140_0
   try clear hcz140_1
   try clear hcz140_2
   try clear hcz140_3
   try clear hcz140_4
   try clear hcz140_5
   try clear hcz144_0
   try clear hcz144_1
   try clear hcz144_2
   try clear hcz144_3
   try clear hcz144_4
   try clear hcz144_5
   try clear hcz147_0
   try clear hcz147_1
   try clear hcz147_2
   try clear hcz147_3
   try clear hcz147_4
   try clear hcz147_5
   try clear hcz149_0
   try clear hcz149_1
   try clear hcz149_2
   try clear hcz149_3
   try clear hcz149_4
   try clear hcz149_5
   try clear hcz154_0
   try clear hcz154_1
   try clear hcz154_2
   try clear hcz154_3
   try clear hcz154_4
   try clear hcz154_5
   try clear hcz158_0
   try clear hcz158_1
   try clear hcz158_2
   try clear hcz158_3
   try clear hcz158_4
   try clear hcz158_5
   try clear hcz161_0
   try clear hcz161_1
   try clear hcz161_2
   try clear hcz161_3
   try clear hcz161_4
   try clear hcz161_5
   try clear hcz163_0
   try clear hcz163_1
   try clear hcz163_2
   try clear hcz163_3
   try clear hcz163_4
   try clear hcz163_5
   try clear hcz168_0
   try clear hcz168_1
   try clear hcz168_2
   try clear hcz168_3
   try clear hcz168_4
   try clear hcz168_5
   try clear hcz172_0
   try clear hcz172_1
   try clear hcz172_2
   try clear hcz172_3
   try clear hcz172_4
   try clear hcz172_5
   try clear hcz60_0
   try clear hcz60_1
   try clear hcz60_2
   try clear hcz60_3
   try clear hcz60_4
   try clear hcz60_5
   try clear hcz63_0
   try clear hcz63_1
   try clear hcz63_2
   try clear hcz63_3
   try clear hcz63_4
   try clear hcz63_5
   try clear hcz65_0
   try clear hcz65_1
   try clear hcz65_2
   try clear hcz65_3
   try clear hcz65_4
   try clear hcz65_5
   try clear hcz76_0
   try clear hcz76_1
   try clear hcz76_2
   try clear hcz76_3
   try clear hcz76_4
   try clear hcz76_5
   try clear hcz80_0
   try clear hcz80_1
   try clear hcz80_2
   try clear hcz80_3
   try clear hcz80_4
   try clear hcz80_5
   try clear hcz83_0
   try clear hcz83_1
   try clear hcz83_2
   try clear hcz83_3
   try clear hcz83_4
   try clear hcz83_5
   try clear hcz85_0
   try clear hcz85_1
   try clear hcz85_2
   try clear hcz85_3
   try clear hcz85_4
   try clear hcz85_5
   try clear hcz87_0
   try clear hcz87_1
   try clear hcz87_2
   try clear hcz87_3
   try clear hcz87_4
   try clear hcz87_5
   try clear hcz93_0
   try clear hcz93_1
   try clear hcz93_2
   try clear hcz93_3
   try clear hcz93_4
   try clear hcz93_5
   try clear hcz97_0
   try clear hcz97_1
   try clear hcz97_2
   try clear hcz97_3
   try clear hcz97_4
   try clear hcz97_5
   try clear hfz100_0
   try clear hfz100_1
   try clear hfz100_2
   try clear hfz100_3
   try clear hfz100_4
   try clear hfz100_5
   try clear hfz102_0
   try clear hfz102_1
   try clear hfz102_2
   try clear hfz102_3
   try clear hfz102_4
   try clear hfz102_5
   try clear hfz108_0
   try clear hfz108_1
   try clear hfz108_2
   try clear hfz108_3
   try clear hfz108_4
   try clear hfz108_5
   try clear hfz112_0
   try clear hfz112_1
   try clear hfz112_2
   try clear hfz112_3
   try clear hfz112_4
   try clear hfz112_5
   try clear hfz115_0
   try clear hfz115_1
   try clear hfz115_2
   try clear hfz115_3
   try clear hfz115_4
   try clear hfz115_5
   try clear hfz117_0
   try clear hfz117_1
   try clear hfz117_2
   try clear hfz117_3
   try clear hfz117_4
   try clear hfz117_5
   try clear hfz125_0
   try clear hfz125_1
   try clear hfz125_2
   try clear hfz125_3
   try clear hfz125_4
   try clear hfz125_5
   try clear hfz129_0
   try clear hfz129_1
   try clear hfz129_2
   try clear hfz129_3
   try clear hfz129_4
   try clear hfz129_5
   try clear hfz132_0
   try clear hfz132_1
   try clear hfz132_2
   try clear hfz132_3
   try clear hfz132_4
   try clear hfz132_5
   try clear hfz134_0
   try clear hfz134_1
   try clear hfz134_2
   try clear hfz134_3
   try clear hfz134_4
   try clear hfz134_5
   try clear hfz140_0
   try clear hfz140_1
   try clear hfz140_2
   try clear hfz140_3
   try clear hfz140_4
   try clear hfz140_5
   try clear hfz144_0
   try clear hfz144_1
   try clear hfz144_2
   try clear hfz144_3
   try clear hfz144_4
   try clear hfz144_5
   try clear hfz147_0
   try clear hfz147_1
   try clear hfz147_2
   try clear hfz147_3
   try clear hfz147_4
   try clear hfz147_5
   try clear hfz149_0
   try clear hfz149_1
   try clear hfz149_2
   try clear hfz149_3
   try clear hfz149_4
   try clear hfz149_5
   try clear hfz154_0
   try clear hfz154_1
   try clear hfz154_2
   try clear hfz154_3
   try clear hfz154_4
   try clear hfz154_5
   try clear hfz158_0
   try clear hfz158_1
   try clear hfz158_2
   try clear hfz158_3
   try clear hfz158_4
   try clear hfz158_5
   try clear hfz161_0
   try clear hfz161_1
   try clear hfz161_2
   try clear hfz161_3
   try clear hfz161_4
   try clear hfz161_5
   try clear hfz163_0
   try clear hfz163_1
   try clear hfz163_2
   try clear hfz163_3
   try clear hfz163_4
   try clear hfz163_5
   try clear hfz168_0
   try clear hfz168_1
   try clear hfz168_2
   try clear hfz168_3
   try clear hfz168_4
   try clear hfz168_5
   try clear hfz172_0
   try clear hfz172_1
   try clear hfz172_2
   try clear hfz172_3
   try clear hfz172_4
   try clear hfz172_5
   try clear hfz56_5
   try clear hfz60_0
   try clear hfz60_1
   try clear hfz60_2
   try clear hfz60_3
   try clear hfz60_4
   try clear hfz60_5
   try clear hfz63_0
   try clear hfz63_1
   try clear hfz63_2
   try clear hfz63_3
   try clear hfz63_4
   try clear hfz63_5
   try clear hfz65_0
   try clear hfz65_1
   try clear hfz65_2
   try clear hfz65_3
   try clear hfz65_4
   try clear hfz65_5
   try clear hfz76_0
   try clear hfz76_1
   try clear hfz76_2
   try clear hfz76_3
   try clear hfz76_4
   try clear hfz76_5
   try clear hfz80_0
   try clear hfz80_1
   try clear hfz80_2
   try clear hfz80_3
   try clear hfz80_4
   try clear hfz80_5
   try clear hfz83_0
   try clear hfz83_1
   try clear hfz83_2
   try clear hfz83_3
   try clear hfz83_4
   try clear hfz83_5
   try clear hfz85_0
   try clear hfz85_1
   try clear hfz85_2
   try clear hfz85_3
   try clear hfz85_4
   try clear hfz85_5
   try clear hfz87_0
   try clear hfz87_1
   try clear hfz87_2
   try clear hfz87_3
   try clear hfz87_4
   try clear hfz87_5
   try clear hfz93_0
   try clear hfz93_1
   try clear hfz93_2
   try clear hfz93_3
   try clear hfz93_4
   try clear hfz93_5
   try clear hfz97_0
   try clear hfz97_1
   try clear hfz97_2
   try clear hfz97_3
   try clear hfz97_4
   try clear hfz97_5
   obtain ⟨kq, x71_7, rfl, HA, HJ7, BK101, BK114, BK122, BK130, BK138, HB⟩ := hcut
   cases kq with
   | zero => exact absurd HA.out (by simp [ironbarklaw02_RuleTurns.j0])
   | succ kj7 =>
    have H := HA.out
    clear HA
    simp only [ironbarklaw02_RuleTurns.j0] at H
    by_cases c173 : x71_7 = true
    ·subst c173
     have H1 : (some false) = some r := by rw [if_pos rfl] at H; exact H
     clear H
     have H := H1
     clear H1
     exact absurd ((Option.some.inj H).trans hrt_.out) (by decide)
    ·replace c173 := Bool.eq_false_iff.mpr c173
     subst c173
     have H1 : ((rule_Float.f a0_0 a0_1 a0_2 a0_3 a0_4 a0_5).bind fun bt142 => ((ironbarkref02_Float.f kj7 a0_0 a0_1 a0_2 a0_3 a0_4 a0_5).bind fun bt149 => ((rule_Number.f a0_0 a0_1 a0_2 a0_3 a0_4 a0_5).bind fun bt156 => ((ironbarkref02_Number.f kj7 a0_0 a0_1 a0_2 a0_3 a0_4 a0_5).bind fun bt163 => (if (!(bt142.1 == bt149.1) || (!(bt142.2.1 == bt149.2.1) || (!(bt142.2.2.1 == bt149.2.2.1) || (!(bt142.2.2.2.1 == bt149.2.2.2.1) || (!(bt142.2.2.2.2.1 == bt149.2.2.2.2.1) || (!(bt142.2.2.2.2.2.1.toList == bt149.2.2.2.2.2.1.toList))))))) = true then (ironbarklaw02_RuleTurns.j1 kj7 true a0_0 a0_1 a0_2 a0_3 a0_4 a0_5) else (if bt142.2.2.2.2.2.2 = bt149.2.2.2.2.2.2 then (if (!(bt156.1 == bt163.1) || (!(bt156.2.1 == bt163.2.1) || (!(bt156.2.2.1 == bt163.2.2.1) || (!(bt156.2.2.2.1 == bt163.2.2.2.1) || (!(bt156.2.2.2.2.1 == bt163.2.2.2.2.1) || (!(bt156.2.2.2.2.2.1.toList == bt163.2.2.2.2.2.1.toList))))))) = true then (ironbarklaw02_RuleTurns.j1 kj7 true a0_0 a0_1 a0_2 a0_3 a0_4 a0_5) else (if bt156.2.2.2.2.2.2 = bt163.2.2.2.2.2.2 then (if bt142.2.2.2.2.2.2 = 0 then ((ironbarkref01_Valid.f kj7 bt142.1 bt142.2.1 bt142.2.2.1 bt142.2.2.2.1 bt142.2.2.2.2.1 bt142.2.2.2.2.2.1).bind fun t170 => (if t170 = true then (if bt156.2.2.2.2.2.2 = 0 then ((ironbarkref01_Valid.f kj7 bt156.1 bt156.2.1 bt156.2.2.1 bt156.2.2.2.1 bt156.2.2.2.2.1 bt156.2.2.2.2.2.1).bind fun t171 => (ironbarklaw02_RuleTurns.j1 kj7 (!t171) a0_0 a0_1 a0_2 a0_3 a0_4 a0_5)) else (ironbarklaw02_RuleTurns.j1 kj7 false a0_0 a0_1 a0_2 a0_3 a0_4 a0_5)) else (ironbarklaw02_RuleTurns.j1 kj7 true a0_0 a0_1 a0_2 a0_3 a0_4 a0_5))) else (if bt156.2.2.2.2.2.2 = 0 then ((ironbarkref01_Valid.f kj7 bt156.1 bt156.2.1 bt156.2.2.1 bt156.2.2.2.1 bt156.2.2.2.2.1 bt156.2.2.2.2.2.1).bind fun t172 => (ironbarklaw02_RuleTurns.j1 kj7 (!t172) a0_0 a0_1 a0_2 a0_3 a0_4 a0_5)) else (ironbarklaw02_RuleTurns.j1 kj7 false a0_0 a0_1 a0_2 a0_3 a0_4 a0_5))) else (ironbarklaw02_RuleTurns.j1 kj7 true a0_0 a0_1 a0_2 a0_3 a0_4 a0_5))) else (ironbarklaw02_RuleTurns.j1 kj7 true a0_0 a0_1 a0_2 a0_3 a0_4 a0_5))))))) = some r := by rw [if_neg (show ¬ (false = true) by decide)] at H; exact H
     clear H
     have H := H1
     clear H1
     replace H := Option.bind_eq_some_iff.mp H
     obtain ⟨⟨t142, t143, t144, t145, t146, t147, t148⟩, A1740, H⟩ := H
     replace H : ((ironbarkref02_Float.f kj7 a0_0 a0_1 a0_2 a0_3 a0_4 a0_5).bind fun bt149 => ((rule_Number.f a0_0 a0_1 a0_2 a0_3 a0_4 a0_5).bind fun bt156 => ((ironbarkref02_Number.f kj7 a0_0 a0_1 a0_2 a0_3 a0_4 a0_5).bind fun bt163 => (if (!(t142 == bt149.1) || (!(t143 == bt149.2.1) || (!(t144 == bt149.2.2.1) || (!(t145 == bt149.2.2.2.1) || (!(t146 == bt149.2.2.2.2.1) || (!(t147.toList == bt149.2.2.2.2.2.1.toList))))))) = true then (ironbarklaw02_RuleTurns.j1 kj7 true a0_0 a0_1 a0_2 a0_3 a0_4 a0_5) else (if t148 = bt149.2.2.2.2.2.2 then (if (!(bt156.1 == bt163.1) || (!(bt156.2.1 == bt163.2.1) || (!(bt156.2.2.1 == bt163.2.2.1) || (!(bt156.2.2.2.1 == bt163.2.2.2.1) || (!(bt156.2.2.2.2.1 == bt163.2.2.2.2.1) || (!(bt156.2.2.2.2.2.1.toList == bt163.2.2.2.2.2.1.toList))))))) = true then (ironbarklaw02_RuleTurns.j1 kj7 true a0_0 a0_1 a0_2 a0_3 a0_4 a0_5) else (if bt156.2.2.2.2.2.2 = bt163.2.2.2.2.2.2 then (if t148 = 0 then ((ironbarkref01_Valid.f kj7 t142 t143 t144 t145 t146 t147).bind fun t170 => (if t170 = true then (if bt156.2.2.2.2.2.2 = 0 then ((ironbarkref01_Valid.f kj7 bt156.1 bt156.2.1 bt156.2.2.1 bt156.2.2.2.1 bt156.2.2.2.2.1 bt156.2.2.2.2.2.1).bind fun t171 => (ironbarklaw02_RuleTurns.j1 kj7 (!t171) a0_0 a0_1 a0_2 a0_3 a0_4 a0_5)) else (ironbarklaw02_RuleTurns.j1 kj7 false a0_0 a0_1 a0_2 a0_3 a0_4 a0_5)) else (ironbarklaw02_RuleTurns.j1 kj7 true a0_0 a0_1 a0_2 a0_3 a0_4 a0_5))) else (if bt156.2.2.2.2.2.2 = 0 then ((ironbarkref01_Valid.f kj7 bt156.1 bt156.2.1 bt156.2.2.1 bt156.2.2.2.1 bt156.2.2.2.2.1 bt156.2.2.2.2.2.1).bind fun t172 => (ironbarklaw02_RuleTurns.j1 kj7 (!t172) a0_0 a0_1 a0_2 a0_3 a0_4 a0_5)) else (ironbarklaw02_RuleTurns.j1 kj7 false a0_0 a0_1 a0_2 a0_3 a0_4 a0_5))) else (ironbarklaw02_RuleTurns.j1 kj7 true a0_0 a0_1 a0_2 a0_3 a0_4 a0_5))) else (ironbarklaw02_RuleTurns.j1 kj7 true a0_0 a0_1 a0_2 a0_3 a0_4 a0_5)))))) = some r := H
     have A174 := Aside0.mk A1740
     clear A1740
     replace H := Option.bind_eq_some_iff.mp H
     obtain ⟨⟨t149, t150, t151, t152, t153, t154, t155⟩, A1750, H⟩ := H
     replace H : ((rule_Number.f a0_0 a0_1 a0_2 a0_3 a0_4 a0_5).bind fun bt156 => ((ironbarkref02_Number.f kj7 a0_0 a0_1 a0_2 a0_3 a0_4 a0_5).bind fun bt163 => (if (!(t142 == t149) || (!(t143 == t150) || (!(t144 == t151) || (!(t145 == t152) || (!(t146 == t153) || (!(t147.toList == t154.toList))))))) = true then (ironbarklaw02_RuleTurns.j1 kj7 true a0_0 a0_1 a0_2 a0_3 a0_4 a0_5) else (if t148 = t155 then (if (!(bt156.1 == bt163.1) || (!(bt156.2.1 == bt163.2.1) || (!(bt156.2.2.1 == bt163.2.2.1) || (!(bt156.2.2.2.1 == bt163.2.2.2.1) || (!(bt156.2.2.2.2.1 == bt163.2.2.2.2.1) || (!(bt156.2.2.2.2.2.1.toList == bt163.2.2.2.2.2.1.toList))))))) = true then (ironbarklaw02_RuleTurns.j1 kj7 true a0_0 a0_1 a0_2 a0_3 a0_4 a0_5) else (if bt156.2.2.2.2.2.2 = bt163.2.2.2.2.2.2 then (if t148 = 0 then ((ironbarkref01_Valid.f kj7 t142 t143 t144 t145 t146 t147).bind fun t170 => (if t170 = true then (if bt156.2.2.2.2.2.2 = 0 then ((ironbarkref01_Valid.f kj7 bt156.1 bt156.2.1 bt156.2.2.1 bt156.2.2.2.1 bt156.2.2.2.2.1 bt156.2.2.2.2.2.1).bind fun t171 => (ironbarklaw02_RuleTurns.j1 kj7 (!t171) a0_0 a0_1 a0_2 a0_3 a0_4 a0_5)) else (ironbarklaw02_RuleTurns.j1 kj7 false a0_0 a0_1 a0_2 a0_3 a0_4 a0_5)) else (ironbarklaw02_RuleTurns.j1 kj7 true a0_0 a0_1 a0_2 a0_3 a0_4 a0_5))) else (if bt156.2.2.2.2.2.2 = 0 then ((ironbarkref01_Valid.f kj7 bt156.1 bt156.2.1 bt156.2.2.1 bt156.2.2.2.1 bt156.2.2.2.2.1 bt156.2.2.2.2.2.1).bind fun t172 => (ironbarklaw02_RuleTurns.j1 kj7 (!t172) a0_0 a0_1 a0_2 a0_3 a0_4 a0_5)) else (ironbarklaw02_RuleTurns.j1 kj7 false a0_0 a0_1 a0_2 a0_3 a0_4 a0_5))) else (ironbarklaw02_RuleTurns.j1 kj7 true a0_0 a0_1 a0_2 a0_3 a0_4 a0_5))) else (ironbarklaw02_RuleTurns.j1 kj7 true a0_0 a0_1 a0_2 a0_3 a0_4 a0_5))))) = some r := H
     have A175 := Aside0.mk A1750
     clear A1750
     replace H := Option.bind_eq_some_iff.mp H
     obtain ⟨⟨t156, t157, t158, t159, t160, t161, t162⟩, A1760, H⟩ := H
     replace H : ((ironbarkref02_Number.f kj7 a0_0 a0_1 a0_2 a0_3 a0_4 a0_5).bind fun bt163 => (if (!(t142 == t149) || (!(t143 == t150) || (!(t144 == t151) || (!(t145 == t152) || (!(t146 == t153) || (!(t147.toList == t154.toList))))))) = true then (ironbarklaw02_RuleTurns.j1 kj7 true a0_0 a0_1 a0_2 a0_3 a0_4 a0_5) else (if t148 = t155 then (if (!(t156 == bt163.1) || (!(t157 == bt163.2.1) || (!(t158 == bt163.2.2.1) || (!(t159 == bt163.2.2.2.1) || (!(t160 == bt163.2.2.2.2.1) || (!(t161.toList == bt163.2.2.2.2.2.1.toList))))))) = true then (ironbarklaw02_RuleTurns.j1 kj7 true a0_0 a0_1 a0_2 a0_3 a0_4 a0_5) else (if t162 = bt163.2.2.2.2.2.2 then (if t148 = 0 then ((ironbarkref01_Valid.f kj7 t142 t143 t144 t145 t146 t147).bind fun t170 => (if t170 = true then (if t162 = 0 then ((ironbarkref01_Valid.f kj7 t156 t157 t158 t159 t160 t161).bind fun t171 => (ironbarklaw02_RuleTurns.j1 kj7 (!t171) a0_0 a0_1 a0_2 a0_3 a0_4 a0_5)) else (ironbarklaw02_RuleTurns.j1 kj7 false a0_0 a0_1 a0_2 a0_3 a0_4 a0_5)) else (ironbarklaw02_RuleTurns.j1 kj7 true a0_0 a0_1 a0_2 a0_3 a0_4 a0_5))) else (if t162 = 0 then ((ironbarkref01_Valid.f kj7 t156 t157 t158 t159 t160 t161).bind fun t172 => (ironbarklaw02_RuleTurns.j1 kj7 (!t172) a0_0 a0_1 a0_2 a0_3 a0_4 a0_5)) else (ironbarklaw02_RuleTurns.j1 kj7 false a0_0 a0_1 a0_2 a0_3 a0_4 a0_5))) else (ironbarklaw02_RuleTurns.j1 kj7 true a0_0 a0_1 a0_2 a0_3 a0_4 a0_5))) else (ironbarklaw02_RuleTurns.j1 kj7 true a0_0 a0_1 a0_2 a0_3 a0_4 a0_5)))) = some r := H
     have A176 := Aside0.mk A1760
     clear A1760
     replace H := Option.bind_eq_some_iff.mp H
     obtain ⟨⟨t163, t164, t165, t166, t167, t168, t169⟩, A1770, H⟩ := H
     replace H : (if (!(t142 == t149) || (!(t143 == t150) || (!(t144 == t151) || (!(t145 == t152) || (!(t146 == t153) || (!(t147.toList == t154.toList))))))) = true then (ironbarklaw02_RuleTurns.j1 kj7 true a0_0 a0_1 a0_2 a0_3 a0_4 a0_5) else (if t148 = t155 then (if (!(t156 == t163) || (!(t157 == t164) || (!(t158 == t165) || (!(t159 == t166) || (!(t160 == t167) || (!(t161.toList == t168.toList))))))) = true then (ironbarklaw02_RuleTurns.j1 kj7 true a0_0 a0_1 a0_2 a0_3 a0_4 a0_5) else (if t162 = t169 then (if t148 = 0 then ((ironbarkref01_Valid.f kj7 t142 t143 t144 t145 t146 t147).bind fun t170 => (if t170 = true then (if t162 = 0 then ((ironbarkref01_Valid.f kj7 t156 t157 t158 t159 t160 t161).bind fun t171 => (ironbarklaw02_RuleTurns.j1 kj7 (!t171) a0_0 a0_1 a0_2 a0_3 a0_4 a0_5)) else (ironbarklaw02_RuleTurns.j1 kj7 false a0_0 a0_1 a0_2 a0_3 a0_4 a0_5)) else (ironbarklaw02_RuleTurns.j1 kj7 true a0_0 a0_1 a0_2 a0_3 a0_4 a0_5))) else (if t162 = 0 then ((ironbarkref01_Valid.f kj7 t156 t157 t158 t159 t160 t161).bind fun t172 => (ironbarklaw02_RuleTurns.j1 kj7 (!t172) a0_0 a0_1 a0_2 a0_3 a0_4 a0_5)) else (ironbarklaw02_RuleTurns.j1 kj7 false a0_0 a0_1 a0_2 a0_3 a0_4 a0_5))) else (ironbarklaw02_RuleTurns.j1 kj7 true a0_0 a0_1 a0_2 a0_3 a0_4 a0_5))) else (ironbarklaw02_RuleTurns.j1 kj7 true a0_0 a0_1 a0_2 a0_3 a0_4 a0_5))) = some r := H
     have A177 := Aside0.mk A1770
     clear A1770
     have HC178 := Aside0.mk H
     clear H
     have hnb179 := NB101_114.out
     have hnc179 := NB114_101.out
     have hnb180 := NB101_122.out
     have hnc180 := NB122_101.out
     have hnb181 := NB101_130.out
     have hnc181 := NB130_101.out
     have hnb182 := NB101_138.out
     have hnc182 := NB138_101.out
     have hcz183_0 : wc.cell? ⟨gb101, 0, none⟩ = some (.int .i64 a0_0) := (blk_cell BK101.out 0).trans rfl
     have hcz183_1 : wc.cell? ⟨gb101, 1, none⟩ = some (.int .i64 a0_1) := (blk_cell BK101.out 1).trans rfl
     have hcz183_2 : wc.cell? ⟨gb101, 2, none⟩ = some (.int .i64 a0_2) := (blk_cell BK101.out 2).trans rfl
     have hcz183_3 : wc.cell? ⟨gb101, 3, none⟩ = some (.int .i64 a0_3) := (blk_cell BK101.out 3).trans rfl
     have hcz183_4 : wc.cell? ⟨gb101, 4, none⟩ = some (.bool a0_4) := (blk_cell BK101.out 4).trans rfl
     have hcz183_5 : wc.cell? ⟨gb101, 5, none⟩ = some (.string a0_5) := (blk_cell BK101.out 5).trans rfl
     have hfz183_0 := blk_frozen BK101.out 0
     have hfz183_1 := blk_frozen BK101.out 1
     have hfz183_2 := blk_frozen BK101.out 2
     have hfz183_3 := blk_frozen BK101.out 3
     have hfz183_4 := blk_frozen BK101.out 4
     have hfz183_5 := blk_frozen BK101.out 5
     go_upto_region 13 with (first | ((with_reducible refine gate_callee (f := 28) rfl ?_); refine goesL_ (some 74) rfl rfl Try.func28 (by kernel_rfl) rfl #[.agg #[.int .i64 a0_0, .int .i64 a0_1, .int .i64 a0_2, .int .i64 a0_3, .bool a0_4, .string a0_5]] rfl (by (try simp only [List.map_toArray, List.map_cons, List.map_nil]); first | done | rfl | (simp only [List.length_drop, List.length_take]; rfl)) ?_; (with_reducible refine (rule_Float.calls a0_0 a0_1 a0_2 a0_3 a0_4 a0_5 t142 t143 t144 t145 t146 t147 t148 _ A174.out).mono ?_); rintro e w184 ⟨rfl, hb⟩; refine ⟨_, rfl, ?_⟩; have n0_ := Aside0.mk (blk_below (g := gb101) (o := .cells #[.int .i64 a0_0, .int .i64 a0_1, .int .i64 a0_2, .int .i64 a0_3, .bool a0_4, .string a0_5] 25 (0, 0)) (by (with_reducible repeat (first | refine blk_drewN ?_ _ | refine blk_drew ?_ | refine blk_alloc ?_ _)); exact BK101.out) hb); have n1_ := Aside0.mk (blk_below (g := gb114) (o := .cells #[.int .i64 t107, .int .i64 t108, .int .i64 t109, .int .i64 t110, .bool t111, .string t112] 25 (0, 0)) (by (with_reducible repeat (first | refine blk_drewN ?_ _ | refine blk_drew ?_ | refine blk_alloc ?_ _)); exact BK114.out) hb); have n2_ := Aside0.mk (blk_below (g := gb122) (o := .cells #[.int .i64 t115, .int .i64 t116, .int .i64 t117, .int .i64 t118, .bool t119, .string t120] 25 (0, 0)) (by (with_reducible repeat (first | refine blk_drewN ?_ _ | refine blk_drew ?_ | refine blk_alloc ?_ _)); exact BK122.out) hb); have n3_ := Aside0.mk (blk_below (g := gb130) (o := .cells #[.int .i64 t123, .int .i64 t124, .int .i64 t125, .int .i64 t126, .bool t127, .string t128] 25 (0, 0)) (by (with_reducible repeat (first | refine blk_drewN ?_ _ | refine blk_drew ?_ | refine blk_alloc ?_ _)); exact BK130.out) hb); have n4_ := Aside0.mk (blk_below (g := gb138) (o := .cells #[.int .i64 t131, .int .i64 t132, .int .i64 t133, .int .i64 t134, .bool t135, .string t136] 25 (0, 0)) (by (with_reducible repeat (first | refine blk_drewN ?_ _ | refine blk_drew ?_ | refine blk_alloc ?_ _)); exact BK138.out) hb); have n5_ := Aside0.mk (below_step (by repeat (first | (with_reducible first | exact HB.out | apply below_alloc | apply pw_below_drewN | apply below_drew1 | refine below_set ?_ GE101.out | refine below_set ?_ GE114.out | refine below_set ?_ GE122.out | refine below_set ?_ GE130.out | refine below_set ?_ GE138.out) | exact HB.out)) hb); clear BK101; clear BK114; clear BK122; clear BK130; clear BK138; clear HB; have BK101 := n0_; have BK114 := n1_; have BK122 := n2_; have BK130 := n3_; have BK138 := n4_; have HB := n5_; clear n0_ n1_ n2_ n3_ n4_ n5_; (try clear hb); (try clear hb2); (try clear hk); (try clear hi); have hnb185 := NB114_122.out; have hnc185 := NB122_114.out; have hnb186 := NB114_130.out; have hnc186 := NB130_114.out; have hnb187 := NB114_138.out; have hnc187 := NB138_114.out; have hcz188_0 : w184.cell? ⟨gb114, 0, none⟩ = some (.int .i64 t107) := (blk_cell BK114.out 0).trans rfl; have hcz188_1 : w184.cell? ⟨gb114, 1, none⟩ = some (.int .i64 t108) := (blk_cell BK114.out 1).trans rfl; have hcz188_2 : w184.cell? ⟨gb114, 2, none⟩ = some (.int .i64 t109) := (blk_cell BK114.out 2).trans rfl; have hcz188_3 : w184.cell? ⟨gb114, 3, none⟩ = some (.int .i64 t110) := (blk_cell BK114.out 3).trans rfl; have hcz188_4 : w184.cell? ⟨gb114, 4, none⟩ = some (.bool t111) := (blk_cell BK114.out 4).trans rfl; have hcz188_5 : w184.cell? ⟨gb114, 5, none⟩ = some (.string t112) := (blk_cell BK114.out 5).trans rfl; have hfz188_0 := blk_frozen BK114.out 0; have hfz188_1 := blk_frozen BK114.out 1; have hfz188_2 := blk_frozen BK114.out 2; have hfz188_3 := blk_frozen BK114.out 3; have hfz188_4 := blk_frozen BK114.out 4; have hfz188_5 := blk_frozen BK114.out 5; have hcz189_0 : w184.cell? ⟨gb101, 0, none⟩ = some (.int .i64 a0_0) := (blk_cell BK101.out 0).trans rfl; have hcz189_1 : w184.cell? ⟨gb101, 1, none⟩ = some (.int .i64 a0_1) := (blk_cell BK101.out 1).trans rfl; have hcz189_2 : w184.cell? ⟨gb101, 2, none⟩ = some (.int .i64 a0_2) := (blk_cell BK101.out 2).trans rfl; have hcz189_3 : w184.cell? ⟨gb101, 3, none⟩ = some (.int .i64 a0_3) := (blk_cell BK101.out 3).trans rfl; have hcz189_4 : w184.cell? ⟨gb101, 4, none⟩ = some (.bool a0_4) := (blk_cell BK101.out 4).trans rfl; have hcz189_5 : w184.cell? ⟨gb101, 5, none⟩ = some (.string a0_5) := (blk_cell BK101.out 5).trans rfl; have hfz189_0 := blk_frozen BK101.out 0; have hfz189_1 := blk_frozen BK101.out 1; have hfz189_2 := blk_frozen BK101.out 2; have hfz189_3 := blk_frozen BK101.out 3; have hfz189_4 := blk_frozen BK101.out 4; have hfz189_5 := blk_frozen BK101.out 5) | ((with_reducible refine gate_callee (f := 29) rfl ?_); refine goesL_ (some 79) rfl rfl Try.func29 (by kernel_rfl) rfl #[.agg #[.int .i64 a0_0, .int .i64 a0_1, .int .i64 a0_2, .int .i64 a0_3, .bool a0_4, .string a0_5]] rfl (by (try simp only [List.map_toArray, List.map_cons, List.map_nil]); first | done | rfl | (simp only [List.length_drop, List.length_take]; rfl)) ?_; (with_reducible refine (ironbarkref02_Float.calls kj7 a0_0 a0_1 a0_2 a0_3 a0_4 a0_5 t149 t150 t151 t152 t153 t154 t155 _ A175.out).mono ?_); rintro e w190 ⟨rfl, hb⟩; refine ⟨_, rfl, ?_⟩; have n0_ := Aside0.mk (blk_below (g := gb101) (o := .cells #[.int .i64 a0_0, .int .i64 a0_1, .int .i64 a0_2, .int .i64 a0_3, .bool a0_4, .string a0_5] 25 (0, 0)) (by (with_reducible repeat (first | refine blk_drewN ?_ _ | refine blk_drew ?_ | refine blk_alloc ?_ _)); refine blk_far ?_ NB101_114.out _; (with_reducible repeat (first | refine blk_drewN ?_ _ | refine blk_drew ?_ | refine blk_alloc ?_ _)); refine blk_far ?_ NB101_114.out _; (with_reducible repeat (first | refine blk_drewN ?_ _ | refine blk_drew ?_ | refine blk_alloc ?_ _)); refine blk_far ?_ NB101_114.out _; (with_reducible repeat (first | refine blk_drewN ?_ _ | refine blk_drew ?_ | refine blk_alloc ?_ _)); refine blk_far ?_ NB101_114.out _; (with_reducible repeat (first | refine blk_drewN ?_ _ | refine blk_drew ?_ | refine blk_alloc ?_ _)); refine blk_far ?_ NB101_114.out _; (with_reducible repeat (first | refine blk_drewN ?_ _ | refine blk_drew ?_ | refine blk_alloc ?_ _)); refine blk_far ?_ NB101_114.out _; (with_reducible repeat (first | refine blk_drewN ?_ _ | refine blk_drew ?_ | refine blk_alloc ?_ _)); exact BK101.out) hb); have n1_ := Aside0.mk (blk_below (g := gb114) (o := .cells #[.int .i64 t142, .int .i64 t143, .int .i64 t144, .int .i64 t145, .bool t146, .string t147] 25 (0, 0)) (by (with_reducible repeat (first | refine blk_drewN ?_ _ | refine blk_drew ?_ | refine blk_alloc ?_ _)); refine blk_put (cs := #[.int .i64 t142, .int .i64 t143, .int .i64 t144, .int .i64 t145, .bool t146, .string t112]) ?_ 5 _ rfl; (with_reducible repeat (first | refine blk_drewN ?_ _ | refine blk_drew ?_ | refine blk_alloc ?_ _)); refine blk_put (cs := #[.int .i64 t142, .int .i64 t143, .int .i64 t144, .int .i64 t145, .bool t111, .string t112]) ?_ 4 _ rfl; (with_reducible repeat (first | refine blk_drewN ?_ _ | refine blk_drew ?_ | refine blk_alloc ?_ _)); refine blk_put (cs := #[.int .i64 t142, .int .i64 t143, .int .i64 t144, .int .i64 t110, .bool t111, .string t112]) ?_ 3 _ rfl; (with_reducible repeat (first | refine blk_drewN ?_ _ | refine blk_drew ?_ | refine blk_alloc ?_ _)); refine blk_put (cs := #[.int .i64 t142, .int .i64 t143, .int .i64 t109, .int .i64 t110, .bool t111, .string t112]) ?_ 2 _ rfl; (with_reducible repeat (first | refine blk_drewN ?_ _ | refine blk_drew ?_ | refine blk_alloc ?_ _)); refine blk_put (cs := #[.int .i64 t142, .int .i64 t108, .int .i64 t109, .int .i64 t110, .bool t111, .string t112]) ?_ 1 _ rfl; (with_reducible repeat (first | refine blk_drewN ?_ _ | refine blk_drew ?_ | refine blk_alloc ?_ _)); refine blk_put (cs := #[.int .i64 t107, .int .i64 t108, .int .i64 t109, .int .i64 t110, .bool t111, .string t112]) ?_ 0 _ rfl; (with_reducible repeat (first | refine blk_drewN ?_ _ | refine blk_drew ?_ | refine blk_alloc ?_ _)); exact BK114.out) hb); have n2_ := Aside0.mk (blk_below (g := gb122) (o := .cells #[.int .i64 t115, .int .i64 t116, .int .i64 t117, .int .i64 t118, .bool t119, .string t120] 25 (0, 0)) (by (with_reducible repeat (first | refine blk_drewN ?_ _ | refine blk_drew ?_ | refine blk_alloc ?_ _)); refine blk_far ?_ NB122_114.out _; (with_reducible repeat (first | refine blk_drewN ?_ _ | refine blk_drew ?_ | refine blk_alloc ?_ _)); refine blk_far ?_ NB122_114.out _; (with_reducible repeat (first | refine blk_drewN ?_ _ | refine blk_drew ?_ | refine blk_alloc ?_ _)); refine blk_far ?_ NB122_114.out _; (with_reducible repeat (first | refine blk_drewN ?_ _ | refine blk_drew ?_ | refine blk_alloc ?_ _)); refine blk_far ?_ NB122_114.out _; (with_reducible repeat (first | refine blk_drewN ?_ _ | refine blk_drew ?_ | refine blk_alloc ?_ _)); refine blk_far ?_ NB122_114.out _; (with_reducible repeat (first | refine blk_drewN ?_ _ | refine blk_drew ?_ | refine blk_alloc ?_ _)); refine blk_far ?_ NB122_114.out _; (with_reducible repeat (first | refine blk_drewN ?_ _ | refine blk_drew ?_ | refine blk_alloc ?_ _)); exact BK122.out) hb); have n3_ := Aside0.mk (blk_below (g := gb130) (o := .cells #[.int .i64 t123, .int .i64 t124, .int .i64 t125, .int .i64 t126, .bool t127, .string t128] 25 (0, 0)) (by (with_reducible repeat (first | refine blk_drewN ?_ _ | refine blk_drew ?_ | refine blk_alloc ?_ _)); refine blk_far ?_ NB130_114.out _; (with_reducible repeat (first | refine blk_drewN ?_ _ | refine blk_drew ?_ | refine blk_alloc ?_ _)); refine blk_far ?_ NB130_114.out _; (with_reducible repeat (first | refine blk_drewN ?_ _ | refine blk_drew ?_ | refine blk_alloc ?_ _)); refine blk_far ?_ NB130_114.out _; (with_reducible repeat (first | refine blk_drewN ?_ _ | refine blk_drew ?_ | refine blk_alloc ?_ _)); refine blk_far ?_ NB130_114.out _; (with_reducible repeat (first | refine blk_drewN ?_ _ | refine blk_drew ?_ | refine blk_alloc ?_ _)); refine blk_far ?_ NB130_114.out _; (with_reducible repeat (first | refine blk_drewN ?_ _ | refine blk_drew ?_ | refine blk_alloc ?_ _)); refine blk_far ?_ NB130_114.out _; (with_reducible repeat (first | refine blk_drewN ?_ _ | refine blk_drew ?_ | refine blk_alloc ?_ _)); exact BK130.out) hb); have n4_ := Aside0.mk (blk_below (g := gb138) (o := .cells #[.int .i64 t131, .int .i64 t132, .int .i64 t133, .int .i64 t134, .bool t135, .string t136] 25 (0, 0)) (by (with_reducible repeat (first | refine blk_drewN ?_ _ | refine blk_drew ?_ | refine blk_alloc ?_ _)); refine blk_far ?_ NB138_114.out _; (with_reducible repeat (first | refine blk_drewN ?_ _ | refine blk_drew ?_ | refine blk_alloc ?_ _)); refine blk_far ?_ NB138_114.out _; (with_reducible repeat (first | refine blk_drewN ?_ _ | refine blk_drew ?_ | refine blk_alloc ?_ _)); refine blk_far ?_ NB138_114.out _; (with_reducible repeat (first | refine blk_drewN ?_ _ | refine blk_drew ?_ | refine blk_alloc ?_ _)); refine blk_far ?_ NB138_114.out _; (with_reducible repeat (first | refine blk_drewN ?_ _ | refine blk_drew ?_ | refine blk_alloc ?_ _)); refine blk_far ?_ NB138_114.out _; (with_reducible repeat (first | refine blk_drewN ?_ _ | refine blk_drew ?_ | refine blk_alloc ?_ _)); refine blk_far ?_ NB138_114.out _; (with_reducible repeat (first | refine blk_drewN ?_ _ | refine blk_drew ?_ | refine blk_alloc ?_ _)); exact BK138.out) hb); have n5_ := Aside0.mk (below_step (by repeat (first | (with_reducible first | exact HB.out | apply below_alloc | apply pw_below_drewN | apply below_drew1 | refine below_set ?_ GE101.out | refine below_set ?_ GE114.out | refine below_set ?_ GE122.out | refine below_set ?_ GE130.out | refine below_set ?_ GE138.out) | exact HB.out)) hb); clear BK101; clear BK114; clear BK122; clear BK130; clear BK138; clear HB; have BK101 := n0_; have BK114 := n1_; have BK122 := n2_; have BK130 := n3_; have BK138 := n4_; have HB := n5_; clear n0_ n1_ n2_ n3_ n4_ n5_; (try clear hb); (try clear hb2); (try clear hk); (try clear hi); have hnb191 := NB122_130.out; have hnc191 := NB130_122.out; have hnb192 := NB122_138.out; have hnc192 := NB138_122.out; have hcz193_0 : w190.cell? ⟨gb122, 0, none⟩ = some (.int .i64 t115) := (blk_cell BK122.out 0).trans rfl; have hcz193_1 : w190.cell? ⟨gb122, 1, none⟩ = some (.int .i64 t116) := (blk_cell BK122.out 1).trans rfl; have hcz193_2 : w190.cell? ⟨gb122, 2, none⟩ = some (.int .i64 t117) := (blk_cell BK122.out 2).trans rfl; have hcz193_3 : w190.cell? ⟨gb122, 3, none⟩ = some (.int .i64 t118) := (blk_cell BK122.out 3).trans rfl; have hcz193_4 : w190.cell? ⟨gb122, 4, none⟩ = some (.bool t119) := (blk_cell BK122.out 4).trans rfl; have hcz193_5 : w190.cell? ⟨gb122, 5, none⟩ = some (.string t120) := (blk_cell BK122.out 5).trans rfl; have hfz193_0 := blk_frozen BK122.out 0; have hfz193_1 := blk_frozen BK122.out 1; have hfz193_2 := blk_frozen BK122.out 2; have hfz193_3 := blk_frozen BK122.out 3; have hfz193_4 := blk_frozen BK122.out 4; have hfz193_5 := blk_frozen BK122.out 5; have hcz194_0 : w190.cell? ⟨gb101, 0, none⟩ = some (.int .i64 a0_0) := (blk_cell BK101.out 0).trans rfl; have hcz194_1 : w190.cell? ⟨gb101, 1, none⟩ = some (.int .i64 a0_1) := (blk_cell BK101.out 1).trans rfl; have hcz194_2 : w190.cell? ⟨gb101, 2, none⟩ = some (.int .i64 a0_2) := (blk_cell BK101.out 2).trans rfl; have hcz194_3 : w190.cell? ⟨gb101, 3, none⟩ = some (.int .i64 a0_3) := (blk_cell BK101.out 3).trans rfl; have hcz194_4 : w190.cell? ⟨gb101, 4, none⟩ = some (.bool a0_4) := (blk_cell BK101.out 4).trans rfl; have hcz194_5 : w190.cell? ⟨gb101, 5, none⟩ = some (.string a0_5) := (blk_cell BK101.out 5).trans rfl; have hfz194_0 := blk_frozen BK101.out 0; have hfz194_1 := blk_frozen BK101.out 1; have hfz194_2 := blk_frozen BK101.out 2; have hfz194_3 := blk_frozen BK101.out 3; have hfz194_4 := blk_frozen BK101.out 4; have hfz194_5 := blk_frozen BK101.out 5) | ((with_reducible refine gate_callee (f := 30) rfl ?_); refine goesL_ (some 84) rfl rfl Try.func30 (by kernel_rfl) rfl #[.agg #[.int .i64 a0_0, .int .i64 a0_1, .int .i64 a0_2, .int .i64 a0_3, .bool a0_4, .string a0_5]] rfl (by (try simp only [List.map_toArray, List.map_cons, List.map_nil]); first | done | rfl | (simp only [List.length_drop, List.length_take]; rfl)) ?_; (with_reducible refine (rule_Number.calls a0_0 a0_1 a0_2 a0_3 a0_4 a0_5 t156 t157 t158 t159 t160 t161 t162 _ A176.out).mono ?_); rintro e w195 ⟨rfl, hb⟩; refine ⟨_, rfl, ?_⟩; have n0_ := Aside0.mk (blk_below (g := gb101) (o := .cells #[.int .i64 a0_0, .int .i64 a0_1, .int .i64 a0_2, .int .i64 a0_3, .bool a0_4, .string a0_5] 25 (0, 0)) (by (with_reducible repeat (first | refine blk_drewN ?_ _ | refine blk_drew ?_ | refine blk_alloc ?_ _)); refine blk_far ?_ NB101_122.out _; (with_reducible repeat (first | refine blk_drewN ?_ _ | refine blk_drew ?_ | refine blk_alloc ?_ _)); refine blk_far ?_ NB101_122.out _; (with_reducible repeat (first | refine blk_drewN ?_ _ | refine blk_drew ?_ | refine blk_alloc ?_ _)); refine blk_far ?_ NB101_122.out _; (with_reducible repeat (first | refine blk_drewN ?_ _ | refine blk_drew ?_ | refine blk_alloc ?_ _)); refine blk_far ?_ NB101_122.out _; (with_reducible repeat (first | refine blk_drewN ?_ _ | refine blk_drew ?_ | refine blk_alloc ?_ _)); refine blk_far ?_ NB101_122.out _; (with_reducible repeat (first | refine blk_drewN ?_ _ | refine blk_drew ?_ | refine blk_alloc ?_ _)); refine blk_far ?_ NB101_122.out _; (with_reducible repeat (first | refine blk_drewN ?_ _ | refine blk_drew ?_ | refine blk_alloc ?_ _)); exact BK101.out) hb); have n1_ := Aside0.mk (blk_below (g := gb114) (o := .cells #[.int .i64 t142, .int .i64 t143, .int .i64 t144, .int .i64 t145, .bool t146, .string t147] 25 (0, 0)) (by (with_reducible repeat (first | refine blk_drewN ?_ _ | refine blk_drew ?_ | refine blk_alloc ?_ _)); refine blk_far ?_ NB114_122.out _; (with_reducible repeat (first | refine blk_drewN ?_ _ | refine blk_drew ?_ | refine blk_alloc ?_ _)); refine blk_far ?_ NB114_122.out _; (with_reducible repeat (first | refine blk_drewN ?_ _ | refine blk_drew ?_ | refine blk_alloc ?_ _)); refine blk_far ?_ NB114_122.out _; (with_reducible repeat (first | refine blk_drewN ?_ _ | refine blk_drew ?_ | refine blk_alloc ?_ _)); refine blk_far ?_ NB114_122.out _; (with_reducible repeat (first | refine blk_drewN ?_ _ | refine blk_drew ?_ | refine blk_alloc ?_ _)); refine blk_far ?_ NB114_122.out _; (with_reducible repeat (first | refine blk_drewN ?_ _ | refine blk_drew ?_ | refine blk_alloc ?_ _)); refine blk_far ?_ NB114_122.out _; (with_reducible repeat (first | refine blk_drewN ?_ _ | refine blk_drew ?_ | refine blk_alloc ?_ _)); exact BK114.out) hb); have n2_ := Aside0.mk (blk_below (g := gb122) (o := .cells #[.int .i64 t149, .int .i64 t150, .int .i64 t151, .int .i64 t152, .bool t153, .string t154] 25 (0, 0)) (by (with_reducible repeat (first | refine blk_drewN ?_ _ | refine blk_drew ?_ | refine blk_alloc ?_ _)); refine blk_put (cs := #[.int .i64 t149, .int .i64 t150, .int .i64 t151, .int .i64 t152, .bool t153, .string t120]) ?_ 5 _ rfl; (with_reducible repeat (first | refine blk_drewN ?_ _ | refine blk_drew ?_ | refine blk_alloc ?_ _)); refine blk_put (cs := #[.int .i64 t149, .int .i64 t150, .int .i64 t151, .int .i64 t152, .bool t119, .string t120]) ?_ 4 _ rfl; (with_reducible repeat (first | refine blk_drewN ?_ _ | refine blk_drew ?_ | refine blk_alloc ?_ _)); refine blk_put (cs := #[.int .i64 t149, .int .i64 t150, .int .i64 t151, .int .i64 t118, .bool t119, .string t120]) ?_ 3 _ rfl; (with_reducible repeat (first | refine blk_drewN ?_ _ | refine blk_drew ?_ | refine blk_alloc ?_ _)); refine blk_put (cs := #[.int .i64 t149, .int .i64 t150, .int .i64 t117, .int .i64 t118, .bool t119, .string t120]) ?_ 2 _ rfl; (with_reducible repeat (first | refine blk_drewN ?_ _ | refine blk_drew ?_ | refine blk_alloc ?_ _)); refine blk_put (cs := #[.int .i64 t149, .int .i64 t116, .int .i64 t117, .int .i64 t118, .bool t119, .string t120]) ?_ 1 _ rfl; (with_reducible repeat (first | refine blk_drewN ?_ _ | refine blk_drew ?_ | refine blk_alloc ?_ _)); refine blk_put (cs := #[.int .i64 t115, .int .i64 t116, .int .i64 t117, .int .i64 t118, .bool t119, .string t120]) ?_ 0 _ rfl; (with_reducible repeat (first | refine blk_drewN ?_ _ | refine blk_drew ?_ | refine blk_alloc ?_ _)); exact BK122.out) hb); have n3_ := Aside0.mk (blk_below (g := gb130) (o := .cells #[.int .i64 t123, .int .i64 t124, .int .i64 t125, .int .i64 t126, .bool t127, .string t128] 25 (0, 0)) (by (with_reducible repeat (first | refine blk_drewN ?_ _ | refine blk_drew ?_ | refine blk_alloc ?_ _)); refine blk_far ?_ NB130_122.out _; (with_reducible repeat (first | refine blk_drewN ?_ _ | refine blk_drew ?_ | refine blk_alloc ?_ _)); refine blk_far ?_ NB130_122.out _; (with_reducible repeat (first | refine blk_drewN ?_ _ | refine blk_drew ?_ | refine blk_alloc ?_ _)); refine blk_far ?_ NB130_122.out _; (with_reducible repeat (first | refine blk_drewN ?_ _ | refine blk_drew ?_ | refine blk_alloc ?_ _)); refine blk_far ?_ NB130_122.out _; (with_reducible repeat (first | refine blk_drewN ?_ _ | refine blk_drew ?_ | refine blk_alloc ?_ _)); refine blk_far ?_ NB130_122.out _; (with_reducible repeat (first | refine blk_drewN ?_ _ | refine blk_drew ?_ | refine blk_alloc ?_ _)); refine blk_far ?_ NB130_122.out _; (with_reducible repeat (first | refine blk_drewN ?_ _ | refine blk_drew ?_ | refine blk_alloc ?_ _)); exact BK130.out) hb); have n4_ := Aside0.mk (blk_below (g := gb138) (o := .cells #[.int .i64 t131, .int .i64 t132, .int .i64 t133, .int .i64 t134, .bool t135, .string t136] 25 (0, 0)) (by (with_reducible repeat (first | refine blk_drewN ?_ _ | refine blk_drew ?_ | refine blk_alloc ?_ _)); refine blk_far ?_ NB138_122.out _; (with_reducible repeat (first | refine blk_drewN ?_ _ | refine blk_drew ?_ | refine blk_alloc ?_ _)); refine blk_far ?_ NB138_122.out _; (with_reducible repeat (first | refine blk_drewN ?_ _ | refine blk_drew ?_ | refine blk_alloc ?_ _)); refine blk_far ?_ NB138_122.out _; (with_reducible repeat (first | refine blk_drewN ?_ _ | refine blk_drew ?_ | refine blk_alloc ?_ _)); refine blk_far ?_ NB138_122.out _; (with_reducible repeat (first | refine blk_drewN ?_ _ | refine blk_drew ?_ | refine blk_alloc ?_ _)); refine blk_far ?_ NB138_122.out _; (with_reducible repeat (first | refine blk_drewN ?_ _ | refine blk_drew ?_ | refine blk_alloc ?_ _)); refine blk_far ?_ NB138_122.out _; (with_reducible repeat (first | refine blk_drewN ?_ _ | refine blk_drew ?_ | refine blk_alloc ?_ _)); exact BK138.out) hb); have n5_ := Aside0.mk (below_step (by repeat (first | (with_reducible first | exact HB.out | apply below_alloc | apply pw_below_drewN | apply below_drew1 | refine below_set ?_ GE101.out | refine below_set ?_ GE114.out | refine below_set ?_ GE122.out | refine below_set ?_ GE130.out | refine below_set ?_ GE138.out) | exact HB.out)) hb); clear BK101; clear BK114; clear BK122; clear BK130; clear BK138; clear HB; have BK101 := n0_; have BK114 := n1_; have BK122 := n2_; have BK130 := n3_; have BK138 := n4_; have HB := n5_; clear n0_ n1_ n2_ n3_ n4_ n5_; (try clear hb); (try clear hb2); (try clear hk); (try clear hi); have hnb196 := NB130_138.out; have hnc196 := NB138_130.out; have hcz197_0 : w195.cell? ⟨gb130, 0, none⟩ = some (.int .i64 t123) := (blk_cell BK130.out 0).trans rfl; have hcz197_1 : w195.cell? ⟨gb130, 1, none⟩ = some (.int .i64 t124) := (blk_cell BK130.out 1).trans rfl; have hcz197_2 : w195.cell? ⟨gb130, 2, none⟩ = some (.int .i64 t125) := (blk_cell BK130.out 2).trans rfl; have hcz197_3 : w195.cell? ⟨gb130, 3, none⟩ = some (.int .i64 t126) := (blk_cell BK130.out 3).trans rfl; have hcz197_4 : w195.cell? ⟨gb130, 4, none⟩ = some (.bool t127) := (blk_cell BK130.out 4).trans rfl; have hcz197_5 : w195.cell? ⟨gb130, 5, none⟩ = some (.string t128) := (blk_cell BK130.out 5).trans rfl; have hfz197_0 := blk_frozen BK130.out 0; have hfz197_1 := blk_frozen BK130.out 1; have hfz197_2 := blk_frozen BK130.out 2; have hfz197_3 := blk_frozen BK130.out 3; have hfz197_4 := blk_frozen BK130.out 4; have hfz197_5 := blk_frozen BK130.out 5; have hcz198_0 : w195.cell? ⟨gb101, 0, none⟩ = some (.int .i64 a0_0) := (blk_cell BK101.out 0).trans rfl; have hcz198_1 : w195.cell? ⟨gb101, 1, none⟩ = some (.int .i64 a0_1) := (blk_cell BK101.out 1).trans rfl; have hcz198_2 : w195.cell? ⟨gb101, 2, none⟩ = some (.int .i64 a0_2) := (blk_cell BK101.out 2).trans rfl; have hcz198_3 : w195.cell? ⟨gb101, 3, none⟩ = some (.int .i64 a0_3) := (blk_cell BK101.out 3).trans rfl; have hcz198_4 : w195.cell? ⟨gb101, 4, none⟩ = some (.bool a0_4) := (blk_cell BK101.out 4).trans rfl; have hcz198_5 : w195.cell? ⟨gb101, 5, none⟩ = some (.string a0_5) := (blk_cell BK101.out 5).trans rfl; have hfz198_0 := blk_frozen BK101.out 0; have hfz198_1 := blk_frozen BK101.out 1; have hfz198_2 := blk_frozen BK101.out 2; have hfz198_3 := blk_frozen BK101.out 3; have hfz198_4 := blk_frozen BK101.out 4; have hfz198_5 := blk_frozen BK101.out 5) | ((with_reducible refine gate_callee (f := 31) rfl ?_); refine goesL_ (some 89) rfl rfl Try.func31 (by kernel_rfl) rfl #[.agg #[.int .i64 a0_0, .int .i64 a0_1, .int .i64 a0_2, .int .i64 a0_3, .bool a0_4, .string a0_5]] rfl (by (try simp only [List.map_toArray, List.map_cons, List.map_nil]); first | done | rfl | (simp only [List.length_drop, List.length_take]; rfl)) ?_; (with_reducible refine (ironbarkref02_Number.calls kj7 a0_0 a0_1 a0_2 a0_3 a0_4 a0_5 t163 t164 t165 t166 t167 t168 t169 _ A177.out).mono ?_); rintro e w199 ⟨rfl, hb⟩; refine ⟨_, rfl, ?_⟩; have n0_ := Aside0.mk (blk_below (g := gb101) (o := .cells #[.int .i64 a0_0, .int .i64 a0_1, .int .i64 a0_2, .int .i64 a0_3, .bool a0_4, .string a0_5] 25 (0, 0)) (by (with_reducible repeat (first | refine blk_drewN ?_ _ | refine blk_drew ?_ | refine blk_alloc ?_ _)); refine blk_far ?_ NB101_130.out _; (with_reducible repeat (first | refine blk_drewN ?_ _ | refine blk_drew ?_ | refine blk_alloc ?_ _)); refine blk_far ?_ NB101_130.out _; (with_reducible repeat (first | refine blk_drewN ?_ _ | refine blk_drew ?_ | refine blk_alloc ?_ _)); refine blk_far ?_ NB101_130.out _; (with_reducible repeat (first | refine blk_drewN ?_ _ | refine blk_drew ?_ | refine blk_alloc ?_ _)); refine blk_far ?_ NB101_130.out _; (with_reducible repeat (first | refine blk_drewN ?_ _ | refine blk_drew ?_ | refine blk_alloc ?_ _)); refine blk_far ?_ NB101_130.out _; (with_reducible repeat (first | refine blk_drewN ?_ _ | refine blk_drew ?_ | refine blk_alloc ?_ _)); refine blk_far ?_ NB101_130.out _; (with_reducible repeat (first | refine blk_drewN ?_ _ | refine blk_drew ?_ | refine blk_alloc ?_ _)); exact BK101.out) hb); have n1_ := Aside0.mk (blk_below (g := gb114) (o := .cells #[.int .i64 t142, .int .i64 t143, .int .i64 t144, .int .i64 t145, .bool t146, .string t147] 25 (0, 0)) (by (with_reducible repeat (first | refine blk_drewN ?_ _ | refine blk_drew ?_ | refine blk_alloc ?_ _)); refine blk_far ?_ NB114_130.out _; (with_reducible repeat (first | refine blk_drewN ?_ _ | refine blk_drew ?_ | refine blk_alloc ?_ _)); refine blk_far ?_ NB114_130.out _; (with_reducible repeat (first | refine blk_drewN ?_ _ | refine blk_drew ?_ | refine blk_alloc ?_ _)); refine blk_far ?_ NB114_130.out _; (with_reducible repeat (first | refine blk_drewN ?_ _ | refine blk_drew ?_ | refine blk_alloc ?_ _)); refine blk_far ?_ NB114_130.out _; (with_reducible repeat (first | refine blk_drewN ?_ _ | refine blk_drew ?_ | refine blk_alloc ?_ _)); refine blk_far ?_ NB114_130.out _; (with_reducible repeat (first | refine blk_drewN ?_ _ | refine blk_drew ?_ | refine blk_alloc ?_ _)); refine blk_far ?_ NB114_130.out _; (with_reducible repeat (first | refine blk_drewN ?_ _ | refine blk_drew ?_ | refine blk_alloc ?_ _)); exact BK114.out) hb); have n2_ := Aside0.mk (blk_below (g := gb122) (o := .cells #[.int .i64 t149, .int .i64 t150, .int .i64 t151, .int .i64 t152, .bool t153, .string t154] 25 (0, 0)) (by (with_reducible repeat (first | refine blk_drewN ?_ _ | refine blk_drew ?_ | refine blk_alloc ?_ _)); refine blk_far ?_ NB122_130.out _; (with_reducible repeat (first | refine blk_drewN ?_ _ | refine blk_drew ?_ | refine blk_alloc ?_ _)); refine blk_far ?_ NB122_130.out _; (with_reducible repeat (first | refine blk_drewN ?_ _ | refine blk_drew ?_ | refine blk_alloc ?_ _)); refine blk_far ?_ NB122_130.out _; (with_reducible repeat (first | refine blk_drewN ?_ _ | refine blk_drew ?_ | refine blk_alloc ?_ _)); refine blk_far ?_ NB122_130.out _; (with_reducible repeat (first | refine blk_drewN ?_ _ | refine blk_drew ?_ | refine blk_alloc ?_ _)); refine blk_far ?_ NB122_130.out _; (with_reducible repeat (first | refine blk_drewN ?_ _ | refine blk_drew ?_ | refine blk_alloc ?_ _)); refine blk_far ?_ NB122_130.out _; (with_reducible repeat (first | refine blk_drewN ?_ _ | refine blk_drew ?_ | refine blk_alloc ?_ _)); exact BK122.out) hb); have n3_ := Aside0.mk (blk_below (g := gb130) (o := .cells #[.int .i64 t156, .int .i64 t157, .int .i64 t158, .int .i64 t159, .bool t160, .string t161] 25 (0, 0)) (by (with_reducible repeat (first | refine blk_drewN ?_ _ | refine blk_drew ?_ | refine blk_alloc ?_ _)); refine blk_put (cs := #[.int .i64 t156, .int .i64 t157, .int .i64 t158, .int .i64 t159, .bool t160, .string t128]) ?_ 5 _ rfl; (with_reducible repeat (first | refine blk_drewN ?_ _ | refine blk_drew ?_ | refine blk_alloc ?_ _)); refine blk_put (cs := #[.int .i64 t156, .int .i64 t157, .int .i64 t158, .int .i64 t159, .bool t127, .string t128]) ?_ 4 _ rfl; (with_reducible repeat (first | refine blk_drewN ?_ _ | refine blk_drew ?_ | refine blk_alloc ?_ _)); refine blk_put (cs := #[.int .i64 t156, .int .i64 t157, .int .i64 t158, .int .i64 t126, .bool t127, .string t128]) ?_ 3 _ rfl; (with_reducible repeat (first | refine blk_drewN ?_ _ | refine blk_drew ?_ | refine blk_alloc ?_ _)); refine blk_put (cs := #[.int .i64 t156, .int .i64 t157, .int .i64 t125, .int .i64 t126, .bool t127, .string t128]) ?_ 2 _ rfl; (with_reducible repeat (first | refine blk_drewN ?_ _ | refine blk_drew ?_ | refine blk_alloc ?_ _)); refine blk_put (cs := #[.int .i64 t156, .int .i64 t124, .int .i64 t125, .int .i64 t126, .bool t127, .string t128]) ?_ 1 _ rfl; (with_reducible repeat (first | refine blk_drewN ?_ _ | refine blk_drew ?_ | refine blk_alloc ?_ _)); refine blk_put (cs := #[.int .i64 t123, .int .i64 t124, .int .i64 t125, .int .i64 t126, .bool t127, .string t128]) ?_ 0 _ rfl; (with_reducible repeat (first | refine blk_drewN ?_ _ | refine blk_drew ?_ | refine blk_alloc ?_ _)); exact BK130.out) hb); have n4_ := Aside0.mk (blk_below (g := gb138) (o := .cells #[.int .i64 t131, .int .i64 t132, .int .i64 t133, .int .i64 t134, .bool t135, .string t136] 25 (0, 0)) (by (with_reducible repeat (first | refine blk_drewN ?_ _ | refine blk_drew ?_ | refine blk_alloc ?_ _)); refine blk_far ?_ NB138_130.out _; (with_reducible repeat (first | refine blk_drewN ?_ _ | refine blk_drew ?_ | refine blk_alloc ?_ _)); refine blk_far ?_ NB138_130.out _; (with_reducible repeat (first | refine blk_drewN ?_ _ | refine blk_drew ?_ | refine blk_alloc ?_ _)); refine blk_far ?_ NB138_130.out _; (with_reducible repeat (first | refine blk_drewN ?_ _ | refine blk_drew ?_ | refine blk_alloc ?_ _)); refine blk_far ?_ NB138_130.out _; (with_reducible repeat (first | refine blk_drewN ?_ _ | refine blk_drew ?_ | refine blk_alloc ?_ _)); refine blk_far ?_ NB138_130.out _; (with_reducible repeat (first | refine blk_drewN ?_ _ | refine blk_drew ?_ | refine blk_alloc ?_ _)); refine blk_far ?_ NB138_130.out _; (with_reducible repeat (first | refine blk_drewN ?_ _ | refine blk_drew ?_ | refine blk_alloc ?_ _)); exact BK138.out) hb); have n5_ := Aside0.mk (below_step (by repeat (first | (with_reducible first | exact HB.out | apply below_alloc | apply pw_below_drewN | apply below_drew1 | refine below_set ?_ GE101.out | refine below_set ?_ GE114.out | refine below_set ?_ GE122.out | refine below_set ?_ GE130.out | refine below_set ?_ GE138.out) | exact HB.out)) hb); clear BK101; clear BK114; clear BK122; clear BK130; clear BK138; clear HB; have BK101 := n0_; have BK114 := n1_; have BK122 := n2_; have BK130 := n3_; have BK138 := n4_; have HB := n5_; clear n0_ n1_ n2_ n3_ n4_ n5_; (try clear hb); (try clear hb2); (try clear hk); (try clear hi); have hcz200_0 : w199.cell? ⟨gb138, 0, none⟩ = some (.int .i64 t131) := (blk_cell BK138.out 0).trans rfl; have hcz200_1 : w199.cell? ⟨gb138, 1, none⟩ = some (.int .i64 t132) := (blk_cell BK138.out 1).trans rfl; have hcz200_2 : w199.cell? ⟨gb138, 2, none⟩ = some (.int .i64 t133) := (blk_cell BK138.out 2).trans rfl; have hcz200_3 : w199.cell? ⟨gb138, 3, none⟩ = some (.int .i64 t134) := (blk_cell BK138.out 3).trans rfl; have hcz200_4 : w199.cell? ⟨gb138, 4, none⟩ = some (.bool t135) := (blk_cell BK138.out 4).trans rfl; have hcz200_5 : w199.cell? ⟨gb138, 5, none⟩ = some (.string t136) := (blk_cell BK138.out 5).trans rfl; have hfz200_0 := blk_frozen BK138.out 0; have hfz200_1 := blk_frozen BK138.out 1; have hfz200_2 := blk_frozen BK138.out 2; have hfz200_3 := blk_frozen BK138.out 3; have hfz200_4 := blk_frozen BK138.out 4; have hfz200_5 := blk_frozen BK138.out 5))
     (try simp only [Act.put, List.setIfInBounds_toArray, List.set_cons_zero, List.set_cons_succ])
     go_cut [127] (fun v127 wc => ∃ (kq : Nat) (x127_177 : Bool), v127 = .bool x127_177 ∧ Aside0 (ironbarklaw02_RuleTurns.j1 kq x127_177 a0_0 a0_1 a0_2 a0_3 a0_4 a0_5 = some r) ∧ Aside0 (kq ≤ kj7) ∧ Aside0 (wc.heap[gb101]? = some (.cells #[.int .i64 a0_0, .int .i64 a0_1, .int .i64 a0_2, .int .i64 a0_3, .bool a0_4, .string a0_5] 25 (0, 0))) ∧ Aside0 (wc.heap[gb114]? = some (.cells #[.int .i64 t142, .int .i64 t143, .int .i64 t144, .int .i64 t145, .bool t146, .string t147] 25 (0, 0))) ∧ Aside0 (wc.heap[gb122]? = some (.cells #[.int .i64 t149, .int .i64 t150, .int .i64 t151, .int .i64 t152, .bool t153, .string t154] 25 (0, 0))) ∧ Aside0 (wc.heap[gb130]? = some (.cells #[.int .i64 t156, .int .i64 t157, .int .i64 t158, .int .i64 t159, .bool t160, .string t161] 25 (0, 0))) ∧ Aside0 (wc.heap[gb138]? = some (.cells #[.int .i64 t163, .int .i64 t164, .int .i64 t165, .int .i64 t166, .bool t167, .string t168] 25 (0, 0))) ∧ Aside0 (Below w.heap.size w wc))
     case first =>
      have H := HC178.out
      clear HC178
      by_cases c201 : (!(t142 == t149) || (!(t143 == t150) || (!(t144 == t151) || (!(t145 == t152) || (!(t146 == t153) || (!(t147.toList == t154.toList))))))) = true
      ·rw [if_pos c201] at H
       have c201b0 : (!(t142 == t149) || (!(t143 == t150) || (!(t144 == t151) || (!(t145 == t152) || (!(t146 == t153) || (!(t147.toList == t154.toList))))))) = true := c201
       clear c201
       (first | rw [c201b0] | (simp only [i64_w, i32_w]; rw [c201b0]) | skip)
       exact absurd (H.trans (congrArg some hrt_.out)) (by first | exact ironbarklaw02_RuleTurns.j0_no _ _ _ _ _ _ _  | exact ironbarklaw02_RuleTurns.j1_no _ _ _ _ _ _ _ )
      ·rw [if_neg c201] at H
       have c201b0 : (!(t142 == t149) || (!(t143 == t150) || (!(t144 == t151) || (!(t145 == t152) || (!(t146 == t153) || (!(t147.toList == t154.toList))))))) = false := by simpa using c201
       clear c201
       (first | rw [c201b0] | (simp only [i64_w, i32_w]; rw [c201b0]) | skip)
       by_cases c211 : t148 = t155
       ·rw [if_pos c211] at H
        have c211b0 : (t148 == t155) = true := beq_iff_eq.mpr c211
        have c211b1 : (t148 != t155) = false := bne_eq_false_iff_eq.mpr c211
        clear c211
        by_cases c212 : (!(t156 == t163) || (!(t157 == t164) || (!(t158 == t165) || (!(t159 == t166) || (!(t160 == t167) || (!(t161.toList == t168.toList))))))) = true
        ·rw [if_pos c212] at H
         have c212b0 : (!(t156 == t163) || (!(t157 == t164) || (!(t158 == t165) || (!(t159 == t166) || (!(t160 == t167) || (!(t161.toList == t168.toList))))))) = true := c212
         clear c212
         exact absurd (H.trans (congrArg some hrt_.out)) (by first | exact ironbarklaw02_RuleTurns.j0_no _ _ _ _ _ _ _  | exact ironbarklaw02_RuleTurns.j1_no _ _ _ _ _ _ _ )
        ·rw [if_neg c212] at H
         have c212b0 : (!(t156 == t163) || (!(t157 == t164) || (!(t158 == t165) || (!(t159 == t166) || (!(t160 == t167) || (!(t161.toList == t168.toList))))))) = false := by simpa using c212
         clear c212
         by_cases c227 : t162 = t169
         ·rw [if_pos c227] at H
          have c227b0 : (t162 == t169) = true := beq_iff_eq.mpr c227
          have c227b1 : (t162 != t169) = false := bne_eq_false_iff_eq.mpr c227
          clear c227
          by_cases c228 : t148 = 0
          ·rw [if_pos c228] at H
           have c228b0 : (t148 == 0) = true := beq_iff_eq.mpr c228
           have c228b1 : (t148 != 0) = false := bne_eq_false_iff_eq.mpr c228
           clear c228
           replace H := Option.bind_eq_some_iff.mp H
           obtain ⟨t170, A2290, H⟩ := H
           replace H : (if t170 = true then (if t162 = 0 then ((ironbarkref01_Valid.f kj7 t156 t157 t158 t159 t160 t161).bind fun t171 => (ironbarklaw02_RuleTurns.j1 kj7 (!t171) a0_0 a0_1 a0_2 a0_3 a0_4 a0_5)) else (ironbarklaw02_RuleTurns.j1 kj7 false a0_0 a0_1 a0_2 a0_3 a0_4 a0_5)) else (ironbarklaw02_RuleTurns.j1 kj7 true a0_0 a0_1 a0_2 a0_3 a0_4 a0_5)) = some r := H
           have A229 := Aside0.mk A2290
           clear A2290
           by_cases c230 : t170 = true
           ·subst c230
            have H1 : (if t162 = 0 then ((ironbarkref01_Valid.f kj7 t156 t157 t158 t159 t160 t161).bind fun t171 => (ironbarklaw02_RuleTurns.j1 kj7 (!t171) a0_0 a0_1 a0_2 a0_3 a0_4 a0_5)) else (ironbarklaw02_RuleTurns.j1 kj7 false a0_0 a0_1 a0_2 a0_3 a0_4 a0_5)) = some r := by rw [if_pos rfl] at H; exact H
            clear H
            have H := H1
            clear H1
            by_cases c231 : t162 = 0
            ·rw [if_pos c231] at H
             have c231b0 : (t162 == 0) = true := beq_iff_eq.mpr c231
             have c231b1 : (t162 != 0) = false := bne_eq_false_iff_eq.mpr c231
             clear c231
             replace H := Option.bind_eq_some_iff.mp H
             obtain ⟨t171, A2320, H⟩ := H
             replace H : (ironbarklaw02_RuleTurns.j1 kj7 (!t171) a0_0 a0_1 a0_2 a0_3 a0_4 a0_5) = some r := H
             have A232 := Aside0.mk A2320
             clear A2320
             have H' := Aside0.mk H
             clear H
             have hnb233 := NB114_101.out
             have hnc233 := NB101_114.out
             have hnb234 := NB114_122.out
             have hnc234 := NB122_114.out
             have hnb235 := NB114_130.out
             have hnc235 := NB130_114.out
             have hnb236 := NB114_138.out
             have hnc236 := NB138_114.out
             have hcz237_0 : w199.cell? ⟨gb114, 0, none⟩ = some (.int .i64 t142) := (blk_cell BK114.out 0).trans rfl
             have hcz237_1 : w199.cell? ⟨gb114, 1, none⟩ = some (.int .i64 t143) := (blk_cell BK114.out 1).trans rfl
             have hcz237_2 : w199.cell? ⟨gb114, 2, none⟩ = some (.int .i64 t144) := (blk_cell BK114.out 2).trans rfl
             have hcz237_3 : w199.cell? ⟨gb114, 3, none⟩ = some (.int .i64 t145) := (blk_cell BK114.out 3).trans rfl
             have hcz237_4 : w199.cell? ⟨gb114, 4, none⟩ = some (.bool t146) := (blk_cell BK114.out 4).trans rfl
             have hcz237_5 : w199.cell? ⟨gb114, 5, none⟩ = some (.string t147) := (blk_cell BK114.out 5).trans rfl
             have hfz237_0 := blk_frozen BK114.out 0
             have hfz237_1 := blk_frozen BK114.out 1
             have hfz237_2 := blk_frozen BK114.out 2
             have hfz237_3 := blk_frozen BK114.out 3
             have hfz237_4 := blk_frozen BK114.out 4
             have hfz237_5 := blk_frozen BK114.out 5
             have hnb238 := NB122_101.out
             have hnc238 := NB101_122.out
             have hnb239 := NB122_130.out
             have hnc239 := NB130_122.out
             have hnb240 := NB122_138.out
             have hnc240 := NB138_122.out
             have hcz241_0 : w199.cell? ⟨gb122, 0, none⟩ = some (.int .i64 t149) := (blk_cell BK122.out 0).trans rfl
             have hcz241_1 : w199.cell? ⟨gb122, 1, none⟩ = some (.int .i64 t150) := (blk_cell BK122.out 1).trans rfl
             have hcz241_2 : w199.cell? ⟨gb122, 2, none⟩ = some (.int .i64 t151) := (blk_cell BK122.out 2).trans rfl
             have hcz241_3 : w199.cell? ⟨gb122, 3, none⟩ = some (.int .i64 t152) := (blk_cell BK122.out 3).trans rfl
             have hcz241_4 : w199.cell? ⟨gb122, 4, none⟩ = some (.bool t153) := (blk_cell BK122.out 4).trans rfl
             have hcz241_5 : w199.cell? ⟨gb122, 5, none⟩ = some (.string t154) := (blk_cell BK122.out 5).trans rfl
             have hfz241_0 := blk_frozen BK122.out 0
             have hfz241_1 := blk_frozen BK122.out 1
             have hfz241_2 := blk_frozen BK122.out 2
             have hfz241_3 := blk_frozen BK122.out 3
             have hfz241_4 := blk_frozen BK122.out 4
             have hfz241_5 := blk_frozen BK122.out 5
             have hnb242 := NB130_101.out
             have hnc242 := NB101_130.out
             have hnb243 := NB130_138.out
             have hnc243 := NB138_130.out
             have hcz244_0 : w199.cell? ⟨gb130, 0, none⟩ = some (.int .i64 t156) := (blk_cell BK130.out 0).trans rfl
             have hcz244_1 : w199.cell? ⟨gb130, 1, none⟩ = some (.int .i64 t157) := (blk_cell BK130.out 1).trans rfl
             have hcz244_2 : w199.cell? ⟨gb130, 2, none⟩ = some (.int .i64 t158) := (blk_cell BK130.out 2).trans rfl
             have hcz244_3 : w199.cell? ⟨gb130, 3, none⟩ = some (.int .i64 t159) := (blk_cell BK130.out 3).trans rfl
             have hcz244_4 : w199.cell? ⟨gb130, 4, none⟩ = some (.bool t160) := (blk_cell BK130.out 4).trans rfl
             have hcz244_5 : w199.cell? ⟨gb130, 5, none⟩ = some (.string t161) := (blk_cell BK130.out 5).trans rfl
             have hfz244_0 := blk_frozen BK130.out 0
             have hfz244_1 := blk_frozen BK130.out 1
             have hfz244_2 := blk_frozen BK130.out 2
             have hfz244_3 := blk_frozen BK130.out 3
             have hfz244_4 := blk_frozen BK130.out 4
             have hfz244_5 := blk_frozen BK130.out 5
             have hnb245 := NB138_101.out
             have hnc245 := NB101_138.out
             have hcz246_0 : w199.cell? ⟨gb138, 0, none⟩ = some (.int .i64 t131) := (blk_cell BK138.out 0).trans rfl
             have hcz246_1 : w199.cell? ⟨gb138, 1, none⟩ = some (.int .i64 t132) := (blk_cell BK138.out 1).trans rfl
             have hcz246_2 : w199.cell? ⟨gb138, 2, none⟩ = some (.int .i64 t133) := (blk_cell BK138.out 2).trans rfl
             have hcz246_3 : w199.cell? ⟨gb138, 3, none⟩ = some (.int .i64 t134) := (blk_cell BK138.out 3).trans rfl
             have hcz246_4 : w199.cell? ⟨gb138, 4, none⟩ = some (.bool t135) := (blk_cell BK138.out 4).trans rfl
             have hcz246_5 : w199.cell? ⟨gb138, 5, none⟩ = some (.string t136) := (blk_cell BK138.out 5).trans rfl
             have hfz246_0 := blk_frozen BK138.out 0
             have hfz246_1 := blk_frozen BK138.out 1
             have hfz246_2 := blk_frozen BK138.out 2
             have hfz246_3 := blk_frozen BK138.out 3
             have hfz246_4 := blk_frozen BK138.out 4
             have hfz246_5 := blk_frozen BK138.out 5
             go_wp2_with (first | (go_at_call 20; (with_reducible refine (ironbarkref01_Valid.calls kj7 t142 t143 t144 t145 t146 t147 true _ A229.out).mono ?_); rintro e w247 ⟨rfl, hb⟩; have n0_ := Aside0.mk (blk_below (g := gb101) (o := .cells #[.int .i64 a0_0, .int .i64 a0_1, .int .i64 a0_2, .int .i64 a0_3, .bool a0_4, .string a0_5] 25 (0, 0)) (by (with_reducible repeat (first | refine blk_drewN ?_ _ | refine blk_drew ?_ | refine blk_alloc ?_ _)); refine blk_far ?_ NB101_138.out _; (with_reducible repeat (first | refine blk_drewN ?_ _ | refine blk_drew ?_ | refine blk_alloc ?_ _)); refine blk_far ?_ NB101_138.out _; (with_reducible repeat (first | refine blk_drewN ?_ _ | refine blk_drew ?_ | refine blk_alloc ?_ _)); refine blk_far ?_ NB101_138.out _; (with_reducible repeat (first | refine blk_drewN ?_ _ | refine blk_drew ?_ | refine blk_alloc ?_ _)); refine blk_far ?_ NB101_138.out _; (with_reducible repeat (first | refine blk_drewN ?_ _ | refine blk_drew ?_ | refine blk_alloc ?_ _)); refine blk_far ?_ NB101_138.out _; (with_reducible repeat (first | refine blk_drewN ?_ _ | refine blk_drew ?_ | refine blk_alloc ?_ _)); refine blk_far ?_ NB101_138.out _; (with_reducible repeat (first | refine blk_drewN ?_ _ | refine blk_drew ?_ | refine blk_alloc ?_ _)); exact BK101.out) hb); have n1_ := Aside0.mk (blk_below (g := gb114) (o := .cells #[.int .i64 t142, .int .i64 t143, .int .i64 t144, .int .i64 t145, .bool t146, .string t147] 25 (0, 0)) (by (with_reducible repeat (first | refine blk_drewN ?_ _ | refine blk_drew ?_ | refine blk_alloc ?_ _)); refine blk_far ?_ NB114_138.out _; (with_reducible repeat (first | refine blk_drewN ?_ _ | refine blk_drew ?_ | refine blk_alloc ?_ _)); refine blk_far ?_ NB114_138.out _; (with_reducible repeat (first | refine blk_drewN ?_ _ | refine blk_drew ?_ | refine blk_alloc ?_ _)); refine blk_far ?_ NB114_138.out _; (with_reducible repeat (first | refine blk_drewN ?_ _ | refine blk_drew ?_ | refine blk_alloc ?_ _)); refine blk_far ?_ NB114_138.out _; (with_reducible repeat (first | refine blk_drewN ?_ _ | refine blk_drew ?_ | refine blk_alloc ?_ _)); refine blk_far ?_ NB114_138.out _; (with_reducible repeat (first | refine blk_drewN ?_ _ | refine blk_drew ?_ | refine blk_alloc ?_ _)); refine blk_far ?_ NB114_138.out _; (with_reducible repeat (first | refine blk_drewN ?_ _ | refine blk_drew ?_ | refine blk_alloc ?_ _)); exact BK114.out) hb); have n2_ := Aside0.mk (blk_below (g := gb122) (o := .cells #[.int .i64 t149, .int .i64 t150, .int .i64 t151, .int .i64 t152, .bool t153, .string t154] 25 (0, 0)) (by (with_reducible repeat (first | refine blk_drewN ?_ _ | refine blk_drew ?_ | refine blk_alloc ?_ _)); refine blk_far ?_ NB122_138.out _; (with_reducible repeat (first | refine blk_drewN ?_ _ | refine blk_drew ?_ | refine blk_alloc ?_ _)); refine blk_far ?_ NB122_138.out _; (with_reducible repeat (first | refine blk_drewN ?_ _ | refine blk_drew ?_ | refine blk_alloc ?_ _)); refine blk_far ?_ NB122_138.out _; (with_reducible repeat (first | refine blk_drewN ?_ _ | refine blk_drew ?_ | refine blk_alloc ?_ _)); refine blk_far ?_ NB122_138.out _; (with_reducible repeat (first | refine blk_drewN ?_ _ | refine blk_drew ?_ | refine blk_alloc ?_ _)); refine blk_far ?_ NB122_138.out _; (with_reducible repeat (first | refine blk_drewN ?_ _ | refine blk_drew ?_ | refine blk_alloc ?_ _)); refine blk_far ?_ NB122_138.out _; (with_reducible repeat (first | refine blk_drewN ?_ _ | refine blk_drew ?_ | refine blk_alloc ?_ _)); exact BK122.out) hb); have n3_ := Aside0.mk (blk_below (g := gb130) (o := .cells #[.int .i64 t156, .int .i64 t157, .int .i64 t158, .int .i64 t159, .bool t160, .string t161] 25 (0, 0)) (by (with_reducible repeat (first | refine blk_drewN ?_ _ | refine blk_drew ?_ | refine blk_alloc ?_ _)); refine blk_far ?_ NB130_138.out _; (with_reducible repeat (first | refine blk_drewN ?_ _ | refine blk_drew ?_ | refine blk_alloc ?_ _)); refine blk_far ?_ NB130_138.out _; (with_reducible repeat (first | refine blk_drewN ?_ _ | refine blk_drew ?_ | refine blk_alloc ?_ _)); refine blk_far ?_ NB130_138.out _; (with_reducible repeat (first | refine blk_drewN ?_ _ | refine blk_drew ?_ | refine blk_alloc ?_ _)); refine blk_far ?_ NB130_138.out _; (with_reducible repeat (first | refine blk_drewN ?_ _ | refine blk_drew ?_ | refine blk_alloc ?_ _)); refine blk_far ?_ NB130_138.out _; (with_reducible repeat (first | refine blk_drewN ?_ _ | refine blk_drew ?_ | refine blk_alloc ?_ _)); refine blk_far ?_ NB130_138.out _; (with_reducible repeat (first | refine blk_drewN ?_ _ | refine blk_drew ?_ | refine blk_alloc ?_ _)); exact BK130.out) hb); have n4_ := Aside0.mk (blk_below (g := gb138) (o := .cells #[.int .i64 t163, .int .i64 t164, .int .i64 t165, .int .i64 t166, .bool t167, .string t168] 25 (0, 0)) (by (with_reducible repeat (first | refine blk_drewN ?_ _ | refine blk_drew ?_ | refine blk_alloc ?_ _)); refine blk_put (cs := #[.int .i64 t163, .int .i64 t164, .int .i64 t165, .int .i64 t166, .bool t167, .string t136]) ?_ 5 _ rfl; (with_reducible repeat (first | refine blk_drewN ?_ _ | refine blk_drew ?_ | refine blk_alloc ?_ _)); refine blk_put (cs := #[.int .i64 t163, .int .i64 t164, .int .i64 t165, .int .i64 t166, .bool t135, .string t136]) ?_ 4 _ rfl; (with_reducible repeat (first | refine blk_drewN ?_ _ | refine blk_drew ?_ | refine blk_alloc ?_ _)); refine blk_put (cs := #[.int .i64 t163, .int .i64 t164, .int .i64 t165, .int .i64 t134, .bool t135, .string t136]) ?_ 3 _ rfl; (with_reducible repeat (first | refine blk_drewN ?_ _ | refine blk_drew ?_ | refine blk_alloc ?_ _)); refine blk_put (cs := #[.int .i64 t163, .int .i64 t164, .int .i64 t133, .int .i64 t134, .bool t135, .string t136]) ?_ 2 _ rfl; (with_reducible repeat (first | refine blk_drewN ?_ _ | refine blk_drew ?_ | refine blk_alloc ?_ _)); refine blk_put (cs := #[.int .i64 t163, .int .i64 t132, .int .i64 t133, .int .i64 t134, .bool t135, .string t136]) ?_ 1 _ rfl; (with_reducible repeat (first | refine blk_drewN ?_ _ | refine blk_drew ?_ | refine blk_alloc ?_ _)); refine blk_put (cs := #[.int .i64 t131, .int .i64 t132, .int .i64 t133, .int .i64 t134, .bool t135, .string t136]) ?_ 0 _ rfl; (with_reducible repeat (first | refine blk_drewN ?_ _ | refine blk_drew ?_ | refine blk_alloc ?_ _)); exact BK138.out) hb); have n5_ := Aside0.mk (below_step (by repeat (first | (with_reducible first | exact HB.out | apply below_alloc | apply pw_below_drewN | apply below_drew1 | refine below_set ?_ GE101.out | refine below_set ?_ GE114.out | refine below_set ?_ GE122.out | refine below_set ?_ GE130.out | refine below_set ?_ GE138.out) | exact HB.out)) hb); clear BK101; clear BK114; clear BK122; clear BK130; clear BK138; clear HB; have BK101 := n0_; have BK114 := n1_; have BK122 := n2_; have BK130 := n3_; have BK138 := n4_; have HB := n5_; clear n0_ n1_ n2_ n3_ n4_ n5_; (try clear hb); (try clear hb2); (try clear hk); (try clear hi); have hcz248_0 : w247.cell? ⟨gb130, 0, none⟩ = some (.int .i64 t156) := (blk_cell BK130.out 0).trans rfl; have hcz248_1 : w247.cell? ⟨gb130, 1, none⟩ = some (.int .i64 t157) := (blk_cell BK130.out 1).trans rfl; have hcz248_2 : w247.cell? ⟨gb130, 2, none⟩ = some (.int .i64 t158) := (blk_cell BK130.out 2).trans rfl; have hcz248_3 : w247.cell? ⟨gb130, 3, none⟩ = some (.int .i64 t159) := (blk_cell BK130.out 3).trans rfl; have hcz248_4 : w247.cell? ⟨gb130, 4, none⟩ = some (.bool t160) := (blk_cell BK130.out 4).trans rfl; have hcz248_5 : w247.cell? ⟨gb130, 5, none⟩ = some (.string t161) := (blk_cell BK130.out 5).trans rfl; have hfz248_0 := blk_frozen BK130.out 0; have hfz248_1 := blk_frozen BK130.out 1; have hfz248_2 := blk_frozen BK130.out 2; have hfz248_3 := blk_frozen BK130.out 3; have hfz248_4 := blk_frozen BK130.out 4; have hfz248_5 := blk_frozen BK130.out 5) | (go_at_call 20; (with_reducible refine (ironbarkref01_Valid.calls kj7 t156 t157 t158 t159 t160 t161 t171 _ A232.out).mono ?_); rintro e w249 ⟨rfl, hb⟩; have n0_ := Aside0.mk (blk_below (g := gb101) (o := .cells #[.int .i64 a0_0, .int .i64 a0_1, .int .i64 a0_2, .int .i64 a0_3, .bool a0_4, .string a0_5] 25 (0, 0)) (by (with_reducible repeat (first | refine blk_drewN ?_ _ | refine blk_drew ?_ | refine blk_alloc ?_ _)); exact BK101.out) hb); have n1_ := Aside0.mk (blk_below (g := gb114) (o := .cells #[.int .i64 t142, .int .i64 t143, .int .i64 t144, .int .i64 t145, .bool t146, .string t147] 25 (0, 0)) (by (with_reducible repeat (first | refine blk_drewN ?_ _ | refine blk_drew ?_ | refine blk_alloc ?_ _)); exact BK114.out) hb); have n2_ := Aside0.mk (blk_below (g := gb122) (o := .cells #[.int .i64 t149, .int .i64 t150, .int .i64 t151, .int .i64 t152, .bool t153, .string t154] 25 (0, 0)) (by (with_reducible repeat (first | refine blk_drewN ?_ _ | refine blk_drew ?_ | refine blk_alloc ?_ _)); exact BK122.out) hb); have n3_ := Aside0.mk (blk_below (g := gb130) (o := .cells #[.int .i64 t156, .int .i64 t157, .int .i64 t158, .int .i64 t159, .bool t160, .string t161] 25 (0, 0)) (by (with_reducible repeat (first | refine blk_drewN ?_ _ | refine blk_drew ?_ | refine blk_alloc ?_ _)); exact BK130.out) hb); have n4_ := Aside0.mk (blk_below (g := gb138) (o := .cells #[.int .i64 t163, .int .i64 t164, .int .i64 t165, .int .i64 t166, .bool t167, .string t168] 25 (0, 0)) (by (with_reducible repeat (first | refine blk_drewN ?_ _ | refine blk_drew ?_ | refine blk_alloc ?_ _)); exact BK138.out) hb); have n5_ := Aside0.mk (below_step (by repeat (first | (with_reducible first | exact HB.out | apply below_alloc | apply pw_below_drewN | apply below_drew1 | refine below_set ?_ GE101.out | refine below_set ?_ GE114.out | refine below_set ?_ GE122.out | refine below_set ?_ GE130.out | refine below_set ?_ GE138.out) | exact HB.out)) hb); clear BK101; clear BK114; clear BK122; clear BK130; clear BK138; clear HB; have BK101 := n0_; have BK114 := n1_; have BK122 := n2_; have BK130 := n3_; have BK138 := n4_; have HB := n5_; clear n0_ n1_ n2_ n3_ n4_ n5_; (try clear hb); (try clear hb2); (try clear hk); (try clear hi)))
             go_meet
             case rel => exact ⟨_, (!t171), (by first | rfl | (simp; done) | (generalize ByteArray.toList _ = l_; cases l_ <;> rfl) | (simp [*]; done)), H', ⟨by have := HJ7.out; first | omega | exact Nat.le_refl _⟩, ⟨by (with_reducible repeat (first | refine blk_drewN ?_ _ | refine blk_drew ?_ | refine blk_alloc ?_ _)); exact BK101.out⟩, ⟨by (with_reducible repeat (first | refine blk_drewN ?_ _ | refine blk_drew ?_ | refine blk_alloc ?_ _)); exact BK114.out⟩, ⟨by (with_reducible repeat (first | refine blk_drewN ?_ _ | refine blk_drew ?_ | refine blk_alloc ?_ _)); exact BK122.out⟩, ⟨by (with_reducible repeat (first | refine blk_drewN ?_ _ | refine blk_drew ?_ | refine blk_alloc ?_ _)); exact BK130.out⟩, ⟨by (with_reducible repeat (first | refine blk_drewN ?_ _ | refine blk_drew ?_ | refine blk_alloc ?_ _)); exact BK138.out⟩, ⟨by repeat (first | (with_reducible first | exact HB.out | apply below_alloc | apply pw_below_drewN | apply below_drew1 | refine below_set ?_ GE101.out | refine below_set ?_ GE114.out | refine below_set ?_ GE122.out | refine below_set ?_ GE130.out | refine below_set ?_ GE138.out) | exact HB.out)⟩⟩
            ·rw [if_neg c231] at H
             have c231b0 : (t162 == 0) = false := beq_eq_false_iff_ne.mpr c231
             have c231b1 : (t162 != 0) = true := bne_iff_ne.mpr c231
             have H' := Aside0.mk H
             clear H
             have hnb250 := NB114_101.out
             have hnc250 := NB101_114.out
             have hnb251 := NB114_122.out
             have hnc251 := NB122_114.out
             have hnb252 := NB114_130.out
             have hnc252 := NB130_114.out
             have hnb253 := NB114_138.out
             have hnc253 := NB138_114.out
             have hcz254_0 : w199.cell? ⟨gb114, 0, none⟩ = some (.int .i64 t142) := (blk_cell BK114.out 0).trans rfl
             have hcz254_1 : w199.cell? ⟨gb114, 1, none⟩ = some (.int .i64 t143) := (blk_cell BK114.out 1).trans rfl
             have hcz254_2 : w199.cell? ⟨gb114, 2, none⟩ = some (.int .i64 t144) := (blk_cell BK114.out 2).trans rfl
             have hcz254_3 : w199.cell? ⟨gb114, 3, none⟩ = some (.int .i64 t145) := (blk_cell BK114.out 3).trans rfl
             have hcz254_4 : w199.cell? ⟨gb114, 4, none⟩ = some (.bool t146) := (blk_cell BK114.out 4).trans rfl
             have hcz254_5 : w199.cell? ⟨gb114, 5, none⟩ = some (.string t147) := (blk_cell BK114.out 5).trans rfl
             have hfz254_0 := blk_frozen BK114.out 0
             have hfz254_1 := blk_frozen BK114.out 1
             have hfz254_2 := blk_frozen BK114.out 2
             have hfz254_3 := blk_frozen BK114.out 3
             have hfz254_4 := blk_frozen BK114.out 4
             have hfz254_5 := blk_frozen BK114.out 5
             have hnb255 := NB122_101.out
             have hnc255 := NB101_122.out
             have hnb256 := NB122_130.out
             have hnc256 := NB130_122.out
             have hnb257 := NB122_138.out
             have hnc257 := NB138_122.out
             have hcz258_0 : w199.cell? ⟨gb122, 0, none⟩ = some (.int .i64 t149) := (blk_cell BK122.out 0).trans rfl
             have hcz258_1 : w199.cell? ⟨gb122, 1, none⟩ = some (.int .i64 t150) := (blk_cell BK122.out 1).trans rfl
             have hcz258_2 : w199.cell? ⟨gb122, 2, none⟩ = some (.int .i64 t151) := (blk_cell BK122.out 2).trans rfl
             have hcz258_3 : w199.cell? ⟨gb122, 3, none⟩ = some (.int .i64 t152) := (blk_cell BK122.out 3).trans rfl
             have hcz258_4 : w199.cell? ⟨gb122, 4, none⟩ = some (.bool t153) := (blk_cell BK122.out 4).trans rfl
             have hcz258_5 : w199.cell? ⟨gb122, 5, none⟩ = some (.string t154) := (blk_cell BK122.out 5).trans rfl
             have hfz258_0 := blk_frozen BK122.out 0
             have hfz258_1 := blk_frozen BK122.out 1
             have hfz258_2 := blk_frozen BK122.out 2
             have hfz258_3 := blk_frozen BK122.out 3
             have hfz258_4 := blk_frozen BK122.out 4
             have hfz258_5 := blk_frozen BK122.out 5
             have hnb259 := NB130_101.out
             have hnc259 := NB101_130.out
             have hnb260 := NB130_138.out
             have hnc260 := NB138_130.out
             have hcz261_0 : w199.cell? ⟨gb130, 0, none⟩ = some (.int .i64 t156) := (blk_cell BK130.out 0).trans rfl
             have hcz261_1 : w199.cell? ⟨gb130, 1, none⟩ = some (.int .i64 t157) := (blk_cell BK130.out 1).trans rfl
             have hcz261_2 : w199.cell? ⟨gb130, 2, none⟩ = some (.int .i64 t158) := (blk_cell BK130.out 2).trans rfl
             have hcz261_3 : w199.cell? ⟨gb130, 3, none⟩ = some (.int .i64 t159) := (blk_cell BK130.out 3).trans rfl
             have hcz261_4 : w199.cell? ⟨gb130, 4, none⟩ = some (.bool t160) := (blk_cell BK130.out 4).trans rfl
             have hcz261_5 : w199.cell? ⟨gb130, 5, none⟩ = some (.string t161) := (blk_cell BK130.out 5).trans rfl
             have hfz261_0 := blk_frozen BK130.out 0
             have hfz261_1 := blk_frozen BK130.out 1
             have hfz261_2 := blk_frozen BK130.out 2
             have hfz261_3 := blk_frozen BK130.out 3
             have hfz261_4 := blk_frozen BK130.out 4
             have hfz261_5 := blk_frozen BK130.out 5
             have hnb262 := NB138_101.out
             have hnc262 := NB101_138.out
             have hcz263_0 : w199.cell? ⟨gb138, 0, none⟩ = some (.int .i64 t131) := (blk_cell BK138.out 0).trans rfl
             have hcz263_1 : w199.cell? ⟨gb138, 1, none⟩ = some (.int .i64 t132) := (blk_cell BK138.out 1).trans rfl
             have hcz263_2 : w199.cell? ⟨gb138, 2, none⟩ = some (.int .i64 t133) := (blk_cell BK138.out 2).trans rfl
             have hcz263_3 : w199.cell? ⟨gb138, 3, none⟩ = some (.int .i64 t134) := (blk_cell BK138.out 3).trans rfl
             have hcz263_4 : w199.cell? ⟨gb138, 4, none⟩ = some (.bool t135) := (blk_cell BK138.out 4).trans rfl
             have hcz263_5 : w199.cell? ⟨gb138, 5, none⟩ = some (.string t136) := (blk_cell BK138.out 5).trans rfl
             have hfz263_0 := blk_frozen BK138.out 0
             have hfz263_1 := blk_frozen BK138.out 1
             have hfz263_2 := blk_frozen BK138.out 2
             have hfz263_3 := blk_frozen BK138.out 3
             have hfz263_4 := blk_frozen BK138.out 4
             have hfz263_5 := blk_frozen BK138.out 5
             go_wp2_with (first | (go_at_call 20; (with_reducible refine (ironbarkref01_Valid.calls kj7 t142 t143 t144 t145 t146 t147 true _ A229.out).mono ?_); rintro e w264 ⟨rfl, hb⟩; have n0_ := Aside0.mk (blk_below (g := gb101) (o := .cells #[.int .i64 a0_0, .int .i64 a0_1, .int .i64 a0_2, .int .i64 a0_3, .bool a0_4, .string a0_5] 25 (0, 0)) (by (with_reducible repeat (first | refine blk_drewN ?_ _ | refine blk_drew ?_ | refine blk_alloc ?_ _)); refine blk_far ?_ NB101_138.out _; (with_reducible repeat (first | refine blk_drewN ?_ _ | refine blk_drew ?_ | refine blk_alloc ?_ _)); refine blk_far ?_ NB101_138.out _; (with_reducible repeat (first | refine blk_drewN ?_ _ | refine blk_drew ?_ | refine blk_alloc ?_ _)); refine blk_far ?_ NB101_138.out _; (with_reducible repeat (first | refine blk_drewN ?_ _ | refine blk_drew ?_ | refine blk_alloc ?_ _)); refine blk_far ?_ NB101_138.out _; (with_reducible repeat (first | refine blk_drewN ?_ _ | refine blk_drew ?_ | refine blk_alloc ?_ _)); refine blk_far ?_ NB101_138.out _; (with_reducible repeat (first | refine blk_drewN ?_ _ | refine blk_drew ?_ | refine blk_alloc ?_ _)); refine blk_far ?_ NB101_138.out _; (with_reducible repeat (first | refine blk_drewN ?_ _ | refine blk_drew ?_ | refine blk_alloc ?_ _)); exact BK101.out) hb); have n1_ := Aside0.mk (blk_below (g := gb114) (o := .cells #[.int .i64 t142, .int .i64 t143, .int .i64 t144, .int .i64 t145, .bool t146, .string t147] 25 (0, 0)) (by (with_reducible repeat (first | refine blk_drewN ?_ _ | refine blk_drew ?_ | refine blk_alloc ?_ _)); refine blk_far ?_ NB114_138.out _; (with_reducible repeat (first | refine blk_drewN ?_ _ | refine blk_drew ?_ | refine blk_alloc ?_ _)); refine blk_far ?_ NB114_138.out _; (with_reducible repeat (first | refine blk_drewN ?_ _ | refine blk_drew ?_ | refine blk_alloc ?_ _)); refine blk_far ?_ NB114_138.out _; (with_reducible repeat (first | refine blk_drewN ?_ _ | refine blk_drew ?_ | refine blk_alloc ?_ _)); refine blk_far ?_ NB114_138.out _; (with_reducible repeat (first | refine blk_drewN ?_ _ | refine blk_drew ?_ | refine blk_alloc ?_ _)); refine blk_far ?_ NB114_138.out _; (with_reducible repeat (first | refine blk_drewN ?_ _ | refine blk_drew ?_ | refine blk_alloc ?_ _)); refine blk_far ?_ NB114_138.out _; (with_reducible repeat (first | refine blk_drewN ?_ _ | refine blk_drew ?_ | refine blk_alloc ?_ _)); exact BK114.out) hb); have n2_ := Aside0.mk (blk_below (g := gb122) (o := .cells #[.int .i64 t149, .int .i64 t150, .int .i64 t151, .int .i64 t152, .bool t153, .string t154] 25 (0, 0)) (by (with_reducible repeat (first | refine blk_drewN ?_ _ | refine blk_drew ?_ | refine blk_alloc ?_ _)); refine blk_far ?_ NB122_138.out _; (with_reducible repeat (first | refine blk_drewN ?_ _ | refine blk_drew ?_ | refine blk_alloc ?_ _)); refine blk_far ?_ NB122_138.out _; (with_reducible repeat (first | refine blk_drewN ?_ _ | refine blk_drew ?_ | refine blk_alloc ?_ _)); refine blk_far ?_ NB122_138.out _; (with_reducible repeat (first | refine blk_drewN ?_ _ | refine blk_drew ?_ | refine blk_alloc ?_ _)); refine blk_far ?_ NB122_138.out _; (with_reducible repeat (first | refine blk_drewN ?_ _ | refine blk_drew ?_ | refine blk_alloc ?_ _)); refine blk_far ?_ NB122_138.out _; (with_reducible repeat (first | refine blk_drewN ?_ _ | refine blk_drew ?_ | refine blk_alloc ?_ _)); refine blk_far ?_ NB122_138.out _; (with_reducible repeat (first | refine blk_drewN ?_ _ | refine blk_drew ?_ | refine blk_alloc ?_ _)); exact BK122.out) hb); have n3_ := Aside0.mk (blk_below (g := gb130) (o := .cells #[.int .i64 t156, .int .i64 t157, .int .i64 t158, .int .i64 t159, .bool t160, .string t161] 25 (0, 0)) (by (with_reducible repeat (first | refine blk_drewN ?_ _ | refine blk_drew ?_ | refine blk_alloc ?_ _)); refine blk_far ?_ NB130_138.out _; (with_reducible repeat (first | refine blk_drewN ?_ _ | refine blk_drew ?_ | refine blk_alloc ?_ _)); refine blk_far ?_ NB130_138.out _; (with_reducible repeat (first | refine blk_drewN ?_ _ | refine blk_drew ?_ | refine blk_alloc ?_ _)); refine blk_far ?_ NB130_138.out _; (with_reducible repeat (first | refine blk_drewN ?_ _ | refine blk_drew ?_ | refine blk_alloc ?_ _)); refine blk_far ?_ NB130_138.out _; (with_reducible repeat (first | refine blk_drewN ?_ _ | refine blk_drew ?_ | refine blk_alloc ?_ _)); refine blk_far ?_ NB130_138.out _; (with_reducible repeat (first | refine blk_drewN ?_ _ | refine blk_drew ?_ | refine blk_alloc ?_ _)); refine blk_far ?_ NB130_138.out _; (with_reducible repeat (first | refine blk_drewN ?_ _ | refine blk_drew ?_ | refine blk_alloc ?_ _)); exact BK130.out) hb); have n4_ := Aside0.mk (blk_below (g := gb138) (o := .cells #[.int .i64 t163, .int .i64 t164, .int .i64 t165, .int .i64 t166, .bool t167, .string t168] 25 (0, 0)) (by (with_reducible repeat (first | refine blk_drewN ?_ _ | refine blk_drew ?_ | refine blk_alloc ?_ _)); refine blk_put (cs := #[.int .i64 t163, .int .i64 t164, .int .i64 t165, .int .i64 t166, .bool t167, .string t136]) ?_ 5 _ rfl; (with_reducible repeat (first | refine blk_drewN ?_ _ | refine blk_drew ?_ | refine blk_alloc ?_ _)); refine blk_put (cs := #[.int .i64 t163, .int .i64 t164, .int .i64 t165, .int .i64 t166, .bool t135, .string t136]) ?_ 4 _ rfl; (with_reducible repeat (first | refine blk_drewN ?_ _ | refine blk_drew ?_ | refine blk_alloc ?_ _)); refine blk_put (cs := #[.int .i64 t163, .int .i64 t164, .int .i64 t165, .int .i64 t134, .bool t135, .string t136]) ?_ 3 _ rfl; (with_reducible repeat (first | refine blk_drewN ?_ _ | refine blk_drew ?_ | refine blk_alloc ?_ _)); refine blk_put (cs := #[.int .i64 t163, .int .i64 t164, .int .i64 t133, .int .i64 t134, .bool t135, .string t136]) ?_ 2 _ rfl; (with_reducible repeat (first | refine blk_drewN ?_ _ | refine blk_drew ?_ | refine blk_alloc ?_ _)); refine blk_put (cs := #[.int .i64 t163, .int .i64 t132, .int .i64 t133, .int .i64 t134, .bool t135, .string t136]) ?_ 1 _ rfl; (with_reducible repeat (first | refine blk_drewN ?_ _ | refine blk_drew ?_ | refine blk_alloc ?_ _)); refine blk_put (cs := #[.int .i64 t131, .int .i64 t132, .int .i64 t133, .int .i64 t134, .bool t135, .string t136]) ?_ 0 _ rfl; (with_reducible repeat (first | refine blk_drewN ?_ _ | refine blk_drew ?_ | refine blk_alloc ?_ _)); exact BK138.out) hb); have n5_ := Aside0.mk (below_step (by repeat (first | (with_reducible first | exact HB.out | apply below_alloc | apply pw_below_drewN | apply below_drew1 | refine below_set ?_ GE101.out | refine below_set ?_ GE114.out | refine below_set ?_ GE122.out | refine below_set ?_ GE130.out | refine below_set ?_ GE138.out) | exact HB.out)) hb); clear BK101; clear BK114; clear BK122; clear BK130; clear BK138; clear HB; have BK101 := n0_; have BK114 := n1_; have BK122 := n2_; have BK130 := n3_; have BK138 := n4_; have HB := n5_; clear n0_ n1_ n2_ n3_ n4_ n5_; (try clear hb); (try clear hb2); (try clear hk); (try clear hi)))
             go_meet
             case rel => exact ⟨_, (false), (by first | rfl | (simp; done) | (generalize ByteArray.toList _ = l_; cases l_ <;> rfl) | (simp [*]; done)), H', ⟨by have := HJ7.out; first | omega | exact Nat.le_refl _⟩, ⟨by (with_reducible repeat (first | refine blk_drewN ?_ _ | refine blk_drew ?_ | refine blk_alloc ?_ _)); exact BK101.out⟩, ⟨by (with_reducible repeat (first | refine blk_drewN ?_ _ | refine blk_drew ?_ | refine blk_alloc ?_ _)); exact BK114.out⟩, ⟨by (with_reducible repeat (first | refine blk_drewN ?_ _ | refine blk_drew ?_ | refine blk_alloc ?_ _)); exact BK122.out⟩, ⟨by (with_reducible repeat (first | refine blk_drewN ?_ _ | refine blk_drew ?_ | refine blk_alloc ?_ _)); exact BK130.out⟩, ⟨by (with_reducible repeat (first | refine blk_drewN ?_ _ | refine blk_drew ?_ | refine blk_alloc ?_ _)); exact BK138.out⟩, ⟨by repeat (first | (with_reducible first | exact HB.out | apply below_alloc | apply pw_below_drewN | apply below_drew1 | refine below_set ?_ GE101.out | refine below_set ?_ GE114.out | refine below_set ?_ GE122.out | refine below_set ?_ GE130.out | refine below_set ?_ GE138.out) | exact HB.out)⟩⟩
           ·replace c230 := Bool.eq_false_iff.mpr c230
            subst c230
            have H1 : (ironbarklaw02_RuleTurns.j1 kj7 true a0_0 a0_1 a0_2 a0_3 a0_4 a0_5) = some r := by rw [if_neg (show ¬ (false = true) by decide)] at H; exact H
            clear H
            have H := H1
            clear H1
            exact absurd (H.trans (congrArg some hrt_.out)) (by first | exact ironbarklaw02_RuleTurns.j0_no _ _ _ _ _ _ _  | exact ironbarklaw02_RuleTurns.j1_no _ _ _ _ _ _ _ )
          ·rw [if_neg c228] at H
           have c228b0 : (t148 == 0) = false := beq_eq_false_iff_ne.mpr c228
           have c228b1 : (t148 != 0) = true := bne_iff_ne.mpr c228
           by_cases c280 : t162 = 0
           ·rw [if_pos c280] at H
            have c280b0 : (t162 == 0) = true := beq_iff_eq.mpr c280
            have c280b1 : (t162 != 0) = false := bne_eq_false_iff_eq.mpr c280
            clear c280
            replace H := Option.bind_eq_some_iff.mp H
            obtain ⟨t172, A2810, H⟩ := H
            replace H : (ironbarklaw02_RuleTurns.j1 kj7 (!t172) a0_0 a0_1 a0_2 a0_3 a0_4 a0_5) = some r := H
            have A281 := Aside0.mk A2810
            clear A2810
            have H' := Aside0.mk H
            clear H
            have hnb282 := NB114_101.out
            have hnc282 := NB101_114.out
            have hnb283 := NB114_122.out
            have hnc283 := NB122_114.out
            have hnb284 := NB114_130.out
            have hnc284 := NB130_114.out
            have hnb285 := NB114_138.out
            have hnc285 := NB138_114.out
            have hcz286_0 : w199.cell? ⟨gb114, 0, none⟩ = some (.int .i64 t142) := (blk_cell BK114.out 0).trans rfl
            have hcz286_1 : w199.cell? ⟨gb114, 1, none⟩ = some (.int .i64 t143) := (blk_cell BK114.out 1).trans rfl
            have hcz286_2 : w199.cell? ⟨gb114, 2, none⟩ = some (.int .i64 t144) := (blk_cell BK114.out 2).trans rfl
            have hcz286_3 : w199.cell? ⟨gb114, 3, none⟩ = some (.int .i64 t145) := (blk_cell BK114.out 3).trans rfl
            have hcz286_4 : w199.cell? ⟨gb114, 4, none⟩ = some (.bool t146) := (blk_cell BK114.out 4).trans rfl
            have hcz286_5 : w199.cell? ⟨gb114, 5, none⟩ = some (.string t147) := (blk_cell BK114.out 5).trans rfl
            have hfz286_0 := blk_frozen BK114.out 0
            have hfz286_1 := blk_frozen BK114.out 1
            have hfz286_2 := blk_frozen BK114.out 2
            have hfz286_3 := blk_frozen BK114.out 3
            have hfz286_4 := blk_frozen BK114.out 4
            have hfz286_5 := blk_frozen BK114.out 5
            have hnb287 := NB122_101.out
            have hnc287 := NB101_122.out
            have hnb288 := NB122_130.out
            have hnc288 := NB130_122.out
            have hnb289 := NB122_138.out
            have hnc289 := NB138_122.out
            have hcz290_0 : w199.cell? ⟨gb122, 0, none⟩ = some (.int .i64 t149) := (blk_cell BK122.out 0).trans rfl
            have hcz290_1 : w199.cell? ⟨gb122, 1, none⟩ = some (.int .i64 t150) := (blk_cell BK122.out 1).trans rfl
            have hcz290_2 : w199.cell? ⟨gb122, 2, none⟩ = some (.int .i64 t151) := (blk_cell BK122.out 2).trans rfl
            have hcz290_3 : w199.cell? ⟨gb122, 3, none⟩ = some (.int .i64 t152) := (blk_cell BK122.out 3).trans rfl
            have hcz290_4 : w199.cell? ⟨gb122, 4, none⟩ = some (.bool t153) := (blk_cell BK122.out 4).trans rfl
            have hcz290_5 : w199.cell? ⟨gb122, 5, none⟩ = some (.string t154) := (blk_cell BK122.out 5).trans rfl
            have hfz290_0 := blk_frozen BK122.out 0
            have hfz290_1 := blk_frozen BK122.out 1
            have hfz290_2 := blk_frozen BK122.out 2
            have hfz290_3 := blk_frozen BK122.out 3
            have hfz290_4 := blk_frozen BK122.out 4
            have hfz290_5 := blk_frozen BK122.out 5
            have hnb291 := NB130_101.out
            have hnc291 := NB101_130.out
            have hnb292 := NB130_138.out
            have hnc292 := NB138_130.out
            have hcz293_0 : w199.cell? ⟨gb130, 0, none⟩ = some (.int .i64 t156) := (blk_cell BK130.out 0).trans rfl
            have hcz293_1 : w199.cell? ⟨gb130, 1, none⟩ = some (.int .i64 t157) := (blk_cell BK130.out 1).trans rfl
            have hcz293_2 : w199.cell? ⟨gb130, 2, none⟩ = some (.int .i64 t158) := (blk_cell BK130.out 2).trans rfl
            have hcz293_3 : w199.cell? ⟨gb130, 3, none⟩ = some (.int .i64 t159) := (blk_cell BK130.out 3).trans rfl
            have hcz293_4 : w199.cell? ⟨gb130, 4, none⟩ = some (.bool t160) := (blk_cell BK130.out 4).trans rfl
            have hcz293_5 : w199.cell? ⟨gb130, 5, none⟩ = some (.string t161) := (blk_cell BK130.out 5).trans rfl
            have hfz293_0 := blk_frozen BK130.out 0
            have hfz293_1 := blk_frozen BK130.out 1
            have hfz293_2 := blk_frozen BK130.out 2
            have hfz293_3 := blk_frozen BK130.out 3
            have hfz293_4 := blk_frozen BK130.out 4
            have hfz293_5 := blk_frozen BK130.out 5
            have hnb294 := NB138_101.out
            have hnc294 := NB101_138.out
            have hcz295_0 : w199.cell? ⟨gb138, 0, none⟩ = some (.int .i64 t131) := (blk_cell BK138.out 0).trans rfl
            have hcz295_1 : w199.cell? ⟨gb138, 1, none⟩ = some (.int .i64 t132) := (blk_cell BK138.out 1).trans rfl
            have hcz295_2 : w199.cell? ⟨gb138, 2, none⟩ = some (.int .i64 t133) := (blk_cell BK138.out 2).trans rfl
            have hcz295_3 : w199.cell? ⟨gb138, 3, none⟩ = some (.int .i64 t134) := (blk_cell BK138.out 3).trans rfl
            have hcz295_4 : w199.cell? ⟨gb138, 4, none⟩ = some (.bool t135) := (blk_cell BK138.out 4).trans rfl
            have hcz295_5 : w199.cell? ⟨gb138, 5, none⟩ = some (.string t136) := (blk_cell BK138.out 5).trans rfl
            have hfz295_0 := blk_frozen BK138.out 0
            have hfz295_1 := blk_frozen BK138.out 1
            have hfz295_2 := blk_frozen BK138.out 2
            have hfz295_3 := blk_frozen BK138.out 3
            have hfz295_4 := blk_frozen BK138.out 4
            have hfz295_5 := blk_frozen BK138.out 5
            go_wp2_with (first | (go_at_call 20; (with_reducible refine (ironbarkref01_Valid.calls kj7 t156 t157 t158 t159 t160 t161 t172 _ A281.out).mono ?_); rintro e w296 ⟨rfl, hb⟩; have n0_ := Aside0.mk (blk_below (g := gb101) (o := .cells #[.int .i64 a0_0, .int .i64 a0_1, .int .i64 a0_2, .int .i64 a0_3, .bool a0_4, .string a0_5] 25 (0, 0)) (by (with_reducible repeat (first | refine blk_drewN ?_ _ | refine blk_drew ?_ | refine blk_alloc ?_ _)); refine blk_far ?_ NB101_138.out _; (with_reducible repeat (first | refine blk_drewN ?_ _ | refine blk_drew ?_ | refine blk_alloc ?_ _)); refine blk_far ?_ NB101_138.out _; (with_reducible repeat (first | refine blk_drewN ?_ _ | refine blk_drew ?_ | refine blk_alloc ?_ _)); refine blk_far ?_ NB101_138.out _; (with_reducible repeat (first | refine blk_drewN ?_ _ | refine blk_drew ?_ | refine blk_alloc ?_ _)); refine blk_far ?_ NB101_138.out _; (with_reducible repeat (first | refine blk_drewN ?_ _ | refine blk_drew ?_ | refine blk_alloc ?_ _)); refine blk_far ?_ NB101_138.out _; (with_reducible repeat (first | refine blk_drewN ?_ _ | refine blk_drew ?_ | refine blk_alloc ?_ _)); refine blk_far ?_ NB101_138.out _; (with_reducible repeat (first | refine blk_drewN ?_ _ | refine blk_drew ?_ | refine blk_alloc ?_ _)); exact BK101.out) hb); have n1_ := Aside0.mk (blk_below (g := gb114) (o := .cells #[.int .i64 t142, .int .i64 t143, .int .i64 t144, .int .i64 t145, .bool t146, .string t147] 25 (0, 0)) (by (with_reducible repeat (first | refine blk_drewN ?_ _ | refine blk_drew ?_ | refine blk_alloc ?_ _)); refine blk_far ?_ NB114_138.out _; (with_reducible repeat (first | refine blk_drewN ?_ _ | refine blk_drew ?_ | refine blk_alloc ?_ _)); refine blk_far ?_ NB114_138.out _; (with_reducible repeat (first | refine blk_drewN ?_ _ | refine blk_drew ?_ | refine blk_alloc ?_ _)); refine blk_far ?_ NB114_138.out _; (with_reducible repeat (first | refine blk_drewN ?_ _ | refine blk_drew ?_ | refine blk_alloc ?_ _)); refine blk_far ?_ NB114_138.out _; (with_reducible repeat (first | refine blk_drewN ?_ _ | refine blk_drew ?_ | refine blk_alloc ?_ _)); refine blk_far ?_ NB114_138.out _; (with_reducible repeat (first | refine blk_drewN ?_ _ | refine blk_drew ?_ | refine blk_alloc ?_ _)); refine blk_far ?_ NB114_138.out _; (with_reducible repeat (first | refine blk_drewN ?_ _ | refine blk_drew ?_ | refine blk_alloc ?_ _)); exact BK114.out) hb); have n2_ := Aside0.mk (blk_below (g := gb122) (o := .cells #[.int .i64 t149, .int .i64 t150, .int .i64 t151, .int .i64 t152, .bool t153, .string t154] 25 (0, 0)) (by (with_reducible repeat (first | refine blk_drewN ?_ _ | refine blk_drew ?_ | refine blk_alloc ?_ _)); refine blk_far ?_ NB122_138.out _; (with_reducible repeat (first | refine blk_drewN ?_ _ | refine blk_drew ?_ | refine blk_alloc ?_ _)); refine blk_far ?_ NB122_138.out _; (with_reducible repeat (first | refine blk_drewN ?_ _ | refine blk_drew ?_ | refine blk_alloc ?_ _)); refine blk_far ?_ NB122_138.out _; (with_reducible repeat (first | refine blk_drewN ?_ _ | refine blk_drew ?_ | refine blk_alloc ?_ _)); refine blk_far ?_ NB122_138.out _; (with_reducible repeat (first | refine blk_drewN ?_ _ | refine blk_drew ?_ | refine blk_alloc ?_ _)); refine blk_far ?_ NB122_138.out _; (with_reducible repeat (first | refine blk_drewN ?_ _ | refine blk_drew ?_ | refine blk_alloc ?_ _)); refine blk_far ?_ NB122_138.out _; (with_reducible repeat (first | refine blk_drewN ?_ _ | refine blk_drew ?_ | refine blk_alloc ?_ _)); exact BK122.out) hb); have n3_ := Aside0.mk (blk_below (g := gb130) (o := .cells #[.int .i64 t156, .int .i64 t157, .int .i64 t158, .int .i64 t159, .bool t160, .string t161] 25 (0, 0)) (by (with_reducible repeat (first | refine blk_drewN ?_ _ | refine blk_drew ?_ | refine blk_alloc ?_ _)); refine blk_far ?_ NB130_138.out _; (with_reducible repeat (first | refine blk_drewN ?_ _ | refine blk_drew ?_ | refine blk_alloc ?_ _)); refine blk_far ?_ NB130_138.out _; (with_reducible repeat (first | refine blk_drewN ?_ _ | refine blk_drew ?_ | refine blk_alloc ?_ _)); refine blk_far ?_ NB130_138.out _; (with_reducible repeat (first | refine blk_drewN ?_ _ | refine blk_drew ?_ | refine blk_alloc ?_ _)); refine blk_far ?_ NB130_138.out _; (with_reducible repeat (first | refine blk_drewN ?_ _ | refine blk_drew ?_ | refine blk_alloc ?_ _)); refine blk_far ?_ NB130_138.out _; (with_reducible repeat (first | refine blk_drewN ?_ _ | refine blk_drew ?_ | refine blk_alloc ?_ _)); refine blk_far ?_ NB130_138.out _; (with_reducible repeat (first | refine blk_drewN ?_ _ | refine blk_drew ?_ | refine blk_alloc ?_ _)); exact BK130.out) hb); have n4_ := Aside0.mk (blk_below (g := gb138) (o := .cells #[.int .i64 t163, .int .i64 t164, .int .i64 t165, .int .i64 t166, .bool t167, .string t168] 25 (0, 0)) (by (with_reducible repeat (first | refine blk_drewN ?_ _ | refine blk_drew ?_ | refine blk_alloc ?_ _)); refine blk_put (cs := #[.int .i64 t163, .int .i64 t164, .int .i64 t165, .int .i64 t166, .bool t167, .string t136]) ?_ 5 _ rfl; (with_reducible repeat (first | refine blk_drewN ?_ _ | refine blk_drew ?_ | refine blk_alloc ?_ _)); refine blk_put (cs := #[.int .i64 t163, .int .i64 t164, .int .i64 t165, .int .i64 t166, .bool t135, .string t136]) ?_ 4 _ rfl; (with_reducible repeat (first | refine blk_drewN ?_ _ | refine blk_drew ?_ | refine blk_alloc ?_ _)); refine blk_put (cs := #[.int .i64 t163, .int .i64 t164, .int .i64 t165, .int .i64 t134, .bool t135, .string t136]) ?_ 3 _ rfl; (with_reducible repeat (first | refine blk_drewN ?_ _ | refine blk_drew ?_ | refine blk_alloc ?_ _)); refine blk_put (cs := #[.int .i64 t163, .int .i64 t164, .int .i64 t133, .int .i64 t134, .bool t135, .string t136]) ?_ 2 _ rfl; (with_reducible repeat (first | refine blk_drewN ?_ _ | refine blk_drew ?_ | refine blk_alloc ?_ _)); refine blk_put (cs := #[.int .i64 t163, .int .i64 t132, .int .i64 t133, .int .i64 t134, .bool t135, .string t136]) ?_ 1 _ rfl; (with_reducible repeat (first | refine blk_drewN ?_ _ | refine blk_drew ?_ | refine blk_alloc ?_ _)); refine blk_put (cs := #[.int .i64 t131, .int .i64 t132, .int .i64 t133, .int .i64 t134, .bool t135, .string t136]) ?_ 0 _ rfl; (with_reducible repeat (first | refine blk_drewN ?_ _ | refine blk_drew ?_ | refine blk_alloc ?_ _)); exact BK138.out) hb); have n5_ := Aside0.mk (below_step (by repeat (first | (with_reducible first | exact HB.out | apply below_alloc | apply pw_below_drewN | apply below_drew1 | refine below_set ?_ GE101.out | refine below_set ?_ GE114.out | refine below_set ?_ GE122.out | refine below_set ?_ GE130.out | refine below_set ?_ GE138.out) | exact HB.out)) hb); clear BK101; clear BK114; clear BK122; clear BK130; clear BK138; clear HB; have BK101 := n0_; have BK114 := n1_; have BK122 := n2_; have BK130 := n3_; have BK138 := n4_; have HB := n5_; clear n0_ n1_ n2_ n3_ n4_ n5_; (try clear hb); (try clear hb2); (try clear hk); (try clear hi)))
            go_meet
            case rel => exact ⟨_, (!t172), (by first | rfl | (simp; done) | (generalize ByteArray.toList _ = l_; cases l_ <;> rfl) | (simp [*]; done)), H', ⟨by have := HJ7.out; first | omega | exact Nat.le_refl _⟩, ⟨by (with_reducible repeat (first | refine blk_drewN ?_ _ | refine blk_drew ?_ | refine blk_alloc ?_ _)); exact BK101.out⟩, ⟨by (with_reducible repeat (first | refine blk_drewN ?_ _ | refine blk_drew ?_ | refine blk_alloc ?_ _)); exact BK114.out⟩, ⟨by (with_reducible repeat (first | refine blk_drewN ?_ _ | refine blk_drew ?_ | refine blk_alloc ?_ _)); exact BK122.out⟩, ⟨by (with_reducible repeat (first | refine blk_drewN ?_ _ | refine blk_drew ?_ | refine blk_alloc ?_ _)); exact BK130.out⟩, ⟨by (with_reducible repeat (first | refine blk_drewN ?_ _ | refine blk_drew ?_ | refine blk_alloc ?_ _)); exact BK138.out⟩, ⟨by repeat (first | (with_reducible first | exact HB.out | apply below_alloc | apply pw_below_drewN | apply below_drew1 | refine below_set ?_ GE101.out | refine below_set ?_ GE114.out | refine below_set ?_ GE122.out | refine below_set ?_ GE130.out | refine below_set ?_ GE138.out) | exact HB.out)⟩⟩
           ·rw [if_neg c280] at H
            have c280b0 : (t162 == 0) = false := beq_eq_false_iff_ne.mpr c280
            have c280b1 : (t162 != 0) = true := bne_iff_ne.mpr c280
            have H' := Aside0.mk H
            clear H
            have hnb297 := NB114_101.out
            have hnc297 := NB101_114.out
            have hnb298 := NB114_122.out
            have hnc298 := NB122_114.out
            have hnb299 := NB114_130.out
            have hnc299 := NB130_114.out
            have hnb300 := NB114_138.out
            have hnc300 := NB138_114.out
            have hcz301_0 : w199.cell? ⟨gb114, 0, none⟩ = some (.int .i64 t142) := (blk_cell BK114.out 0).trans rfl
            have hcz301_1 : w199.cell? ⟨gb114, 1, none⟩ = some (.int .i64 t143) := (blk_cell BK114.out 1).trans rfl
            have hcz301_2 : w199.cell? ⟨gb114, 2, none⟩ = some (.int .i64 t144) := (blk_cell BK114.out 2).trans rfl
            have hcz301_3 : w199.cell? ⟨gb114, 3, none⟩ = some (.int .i64 t145) := (blk_cell BK114.out 3).trans rfl
            have hcz301_4 : w199.cell? ⟨gb114, 4, none⟩ = some (.bool t146) := (blk_cell BK114.out 4).trans rfl
            have hcz301_5 : w199.cell? ⟨gb114, 5, none⟩ = some (.string t147) := (blk_cell BK114.out 5).trans rfl
            have hfz301_0 := blk_frozen BK114.out 0
            have hfz301_1 := blk_frozen BK114.out 1
            have hfz301_2 := blk_frozen BK114.out 2
            have hfz301_3 := blk_frozen BK114.out 3
            have hfz301_4 := blk_frozen BK114.out 4
            have hfz301_5 := blk_frozen BK114.out 5
            have hnb302 := NB122_101.out
            have hnc302 := NB101_122.out
            have hnb303 := NB122_130.out
            have hnc303 := NB130_122.out
            have hnb304 := NB122_138.out
            have hnc304 := NB138_122.out
            have hcz305_0 : w199.cell? ⟨gb122, 0, none⟩ = some (.int .i64 t149) := (blk_cell BK122.out 0).trans rfl
            have hcz305_1 : w199.cell? ⟨gb122, 1, none⟩ = some (.int .i64 t150) := (blk_cell BK122.out 1).trans rfl
            have hcz305_2 : w199.cell? ⟨gb122, 2, none⟩ = some (.int .i64 t151) := (blk_cell BK122.out 2).trans rfl
            have hcz305_3 : w199.cell? ⟨gb122, 3, none⟩ = some (.int .i64 t152) := (blk_cell BK122.out 3).trans rfl
            have hcz305_4 : w199.cell? ⟨gb122, 4, none⟩ = some (.bool t153) := (blk_cell BK122.out 4).trans rfl
            have hcz305_5 : w199.cell? ⟨gb122, 5, none⟩ = some (.string t154) := (blk_cell BK122.out 5).trans rfl
            have hfz305_0 := blk_frozen BK122.out 0
            have hfz305_1 := blk_frozen BK122.out 1
            have hfz305_2 := blk_frozen BK122.out 2
            have hfz305_3 := blk_frozen BK122.out 3
            have hfz305_4 := blk_frozen BK122.out 4
            have hfz305_5 := blk_frozen BK122.out 5
            have hnb306 := NB130_101.out
            have hnc306 := NB101_130.out
            have hnb307 := NB130_138.out
            have hnc307 := NB138_130.out
            have hcz308_0 : w199.cell? ⟨gb130, 0, none⟩ = some (.int .i64 t156) := (blk_cell BK130.out 0).trans rfl
            have hcz308_1 : w199.cell? ⟨gb130, 1, none⟩ = some (.int .i64 t157) := (blk_cell BK130.out 1).trans rfl
            have hcz308_2 : w199.cell? ⟨gb130, 2, none⟩ = some (.int .i64 t158) := (blk_cell BK130.out 2).trans rfl
            have hcz308_3 : w199.cell? ⟨gb130, 3, none⟩ = some (.int .i64 t159) := (blk_cell BK130.out 3).trans rfl
            have hcz308_4 : w199.cell? ⟨gb130, 4, none⟩ = some (.bool t160) := (blk_cell BK130.out 4).trans rfl
            have hcz308_5 : w199.cell? ⟨gb130, 5, none⟩ = some (.string t161) := (blk_cell BK130.out 5).trans rfl
            have hfz308_0 := blk_frozen BK130.out 0
            have hfz308_1 := blk_frozen BK130.out 1
            have hfz308_2 := blk_frozen BK130.out 2
            have hfz308_3 := blk_frozen BK130.out 3
            have hfz308_4 := blk_frozen BK130.out 4
            have hfz308_5 := blk_frozen BK130.out 5
            have hnb309 := NB138_101.out
            have hnc309 := NB101_138.out
            have hcz310_0 : w199.cell? ⟨gb138, 0, none⟩ = some (.int .i64 t131) := (blk_cell BK138.out 0).trans rfl
            have hcz310_1 : w199.cell? ⟨gb138, 1, none⟩ = some (.int .i64 t132) := (blk_cell BK138.out 1).trans rfl
            have hcz310_2 : w199.cell? ⟨gb138, 2, none⟩ = some (.int .i64 t133) := (blk_cell BK138.out 2).trans rfl
            have hcz310_3 : w199.cell? ⟨gb138, 3, none⟩ = some (.int .i64 t134) := (blk_cell BK138.out 3).trans rfl
            have hcz310_4 : w199.cell? ⟨gb138, 4, none⟩ = some (.bool t135) := (blk_cell BK138.out 4).trans rfl
            have hcz310_5 : w199.cell? ⟨gb138, 5, none⟩ = some (.string t136) := (blk_cell BK138.out 5).trans rfl
            have hfz310_0 := blk_frozen BK138.out 0
            have hfz310_1 := blk_frozen BK138.out 1
            have hfz310_2 := blk_frozen BK138.out 2
            have hfz310_3 := blk_frozen BK138.out 3
            have hfz310_4 := blk_frozen BK138.out 4
            have hfz310_5 := blk_frozen BK138.out 5
            go_wp2
            go_meet
            case rel => exact ⟨_, (false), (by first | rfl | (simp; done) | (generalize ByteArray.toList _ = l_; cases l_ <;> rfl) | (simp [*]; done)), H', ⟨by have := HJ7.out; first | omega | exact Nat.le_refl _⟩, ⟨by (with_reducible repeat (first | refine blk_drewN ?_ _ | refine blk_drew ?_ | refine blk_alloc ?_ _)); refine blk_far ?_ NB101_138.out _; (with_reducible repeat (first | refine blk_drewN ?_ _ | refine blk_drew ?_ | refine blk_alloc ?_ _)); refine blk_far ?_ NB101_138.out _; (with_reducible repeat (first | refine blk_drewN ?_ _ | refine blk_drew ?_ | refine blk_alloc ?_ _)); refine blk_far ?_ NB101_138.out _; (with_reducible repeat (first | refine blk_drewN ?_ _ | refine blk_drew ?_ | refine blk_alloc ?_ _)); refine blk_far ?_ NB101_138.out _; (with_reducible repeat (first | refine blk_drewN ?_ _ | refine blk_drew ?_ | refine blk_alloc ?_ _)); refine blk_far ?_ NB101_138.out _; (with_reducible repeat (first | refine blk_drewN ?_ _ | refine blk_drew ?_ | refine blk_alloc ?_ _)); refine blk_far ?_ NB101_138.out _; (with_reducible repeat (first | refine blk_drewN ?_ _ | refine blk_drew ?_ | refine blk_alloc ?_ _)); exact BK101.out⟩, ⟨by (with_reducible repeat (first | refine blk_drewN ?_ _ | refine blk_drew ?_ | refine blk_alloc ?_ _)); refine blk_far ?_ NB114_138.out _; (with_reducible repeat (first | refine blk_drewN ?_ _ | refine blk_drew ?_ | refine blk_alloc ?_ _)); refine blk_far ?_ NB114_138.out _; (with_reducible repeat (first | refine blk_drewN ?_ _ | refine blk_drew ?_ | refine blk_alloc ?_ _)); refine blk_far ?_ NB114_138.out _; (with_reducible repeat (first | refine blk_drewN ?_ _ | refine blk_drew ?_ | refine blk_alloc ?_ _)); refine blk_far ?_ NB114_138.out _; (with_reducible repeat (first | refine blk_drewN ?_ _ | refine blk_drew ?_ | refine blk_alloc ?_ _)); refine blk_far ?_ NB114_138.out _; (with_reducible repeat (first | refine blk_drewN ?_ _ | refine blk_drew ?_ | refine blk_alloc ?_ _)); refine blk_far ?_ NB114_138.out _; (with_reducible repeat (first | refine blk_drewN ?_ _ | refine blk_drew ?_ | refine blk_alloc ?_ _)); exact BK114.out⟩, ⟨by (with_reducible repeat (first | refine blk_drewN ?_ _ | refine blk_drew ?_ | refine blk_alloc ?_ _)); refine blk_far ?_ NB122_138.out _; (with_reducible repeat (first | refine blk_drewN ?_ _ | refine blk_drew ?_ | refine blk_alloc ?_ _)); refine blk_far ?_ NB122_138.out _; (with_reducible repeat (first | refine blk_drewN ?_ _ | refine blk_drew ?_ | refine blk_alloc ?_ _)); refine blk_far ?_ NB122_138.out _; (with_reducible repeat (first | refine blk_drewN ?_ _ | refine blk_drew ?_ | refine blk_alloc ?_ _)); refine blk_far ?_ NB122_138.out _; (with_reducible repeat (first | refine blk_drewN ?_ _ | refine blk_drew ?_ | refine blk_alloc ?_ _)); refine blk_far ?_ NB122_138.out _; (with_reducible repeat (first | refine blk_drewN ?_ _ | refine blk_drew ?_ | refine blk_alloc ?_ _)); refine blk_far ?_ NB122_138.out _; (with_reducible repeat (first | refine blk_drewN ?_ _ | refine blk_drew ?_ | refine blk_alloc ?_ _)); exact BK122.out⟩, ⟨by (with_reducible repeat (first | refine blk_drewN ?_ _ | refine blk_drew ?_ | refine blk_alloc ?_ _)); refine blk_far ?_ NB130_138.out _; (with_reducible repeat (first | refine blk_drewN ?_ _ | refine blk_drew ?_ | refine blk_alloc ?_ _)); refine blk_far ?_ NB130_138.out _; (with_reducible repeat (first | refine blk_drewN ?_ _ | refine blk_drew ?_ | refine blk_alloc ?_ _)); refine blk_far ?_ NB130_138.out _; (with_reducible repeat (first | refine blk_drewN ?_ _ | refine blk_drew ?_ | refine blk_alloc ?_ _)); refine blk_far ?_ NB130_138.out _; (with_reducible repeat (first | refine blk_drewN ?_ _ | refine blk_drew ?_ | refine blk_alloc ?_ _)); refine blk_far ?_ NB130_138.out _; (with_reducible repeat (first | refine blk_drewN ?_ _ | refine blk_drew ?_ | refine blk_alloc ?_ _)); refine blk_far ?_ NB130_138.out _; (with_reducible repeat (first | refine blk_drewN ?_ _ | refine blk_drew ?_ | refine blk_alloc ?_ _)); exact BK130.out⟩, ⟨by (with_reducible repeat (first | refine blk_drewN ?_ _ | refine blk_drew ?_ | refine blk_alloc ?_ _)); refine blk_put (cs := #[.int .i64 t163, .int .i64 t164, .int .i64 t165, .int .i64 t166, .bool t167, .string t136]) ?_ 5 _ rfl; (with_reducible repeat (first | refine blk_drewN ?_ _ | refine blk_drew ?_ | refine blk_alloc ?_ _)); refine blk_put (cs := #[.int .i64 t163, .int .i64 t164, .int .i64 t165, .int .i64 t166, .bool t135, .string t136]) ?_ 4 _ rfl; (with_reducible repeat (first | refine blk_drewN ?_ _ | refine blk_drew ?_ | refine blk_alloc ?_ _)); refine blk_put (cs := #[.int .i64 t163, .int .i64 t164, .int .i64 t165, .int .i64 t134, .bool t135, .string t136]) ?_ 3 _ rfl; (with_reducible repeat (first | refine blk_drewN ?_ _ | refine blk_drew ?_ | refine blk_alloc ?_ _)); refine blk_put (cs := #[.int .i64 t163, .int .i64 t164, .int .i64 t133, .int .i64 t134, .bool t135, .string t136]) ?_ 2 _ rfl; (with_reducible repeat (first | refine blk_drewN ?_ _ | refine blk_drew ?_ | refine blk_alloc ?_ _)); refine blk_put (cs := #[.int .i64 t163, .int .i64 t132, .int .i64 t133, .int .i64 t134, .bool t135, .string t136]) ?_ 1 _ rfl; (with_reducible repeat (first | refine blk_drewN ?_ _ | refine blk_drew ?_ | refine blk_alloc ?_ _)); refine blk_put (cs := #[.int .i64 t131, .int .i64 t132, .int .i64 t133, .int .i64 t134, .bool t135, .string t136]) ?_ 0 _ rfl; (with_reducible repeat (first | refine blk_drewN ?_ _ | refine blk_drew ?_ | refine blk_alloc ?_ _)); exact BK138.out⟩, ⟨by repeat (first | (with_reducible first | exact HB.out | apply below_alloc | apply pw_below_drewN | apply below_drew1 | refine below_set ?_ GE101.out | refine below_set ?_ GE114.out | refine below_set ?_ GE122.out | refine below_set ?_ GE130.out | refine below_set ?_ GE138.out) | exact HB.out)⟩⟩
         ·rw [if_neg c227] at H
          have c227b0 : (t162 == t169) = false := beq_eq_false_iff_ne.mpr c227
          have c227b1 : (t162 != t169) = true := bne_iff_ne.mpr c227
          exact absurd (H.trans (congrArg some hrt_.out)) (by first | exact ironbarklaw02_RuleTurns.j0_no _ _ _ _ _ _ _  | exact ironbarklaw02_RuleTurns.j1_no _ _ _ _ _ _ _ )
       ·rw [if_neg c211] at H
        have c211b0 : (t148 == t155) = false := beq_eq_false_iff_ne.mpr c211
        have c211b1 : (t148 != t155) = true := bne_iff_ne.mpr c211
        exact absurd (H.trans (congrArg some hrt_.out)) (by first | exact ironbarklaw02_RuleTurns.j0_no _ _ _ _ _ _ _  | exact ironbarklaw02_RuleTurns.j1_no _ _ _ _ _ _ _ )
     case rest =>
      clear HC178
      try clear c2
      try clear p2
      try clear c3
      try clear c21
      try clear c22
      try clear c23
      try clear c24
      try clear c25
      try clear c26
      try clear c27
      try clear c28
      try clear c29
      try clear c30
      try clear c31
      try clear c32
      try clear c33
      try clear c211
      try clear c211b0
      try clear c211b1
      try clear c212
      try clear c212b0
      try clear c218
      try clear c219
      try clear c220
      try clear c222
      try clear c223
      try clear c225
      try clear c227
      try clear c227b0
      try clear c227b1
      try clear c228
      try clear c228b0
      try clear c228b1
      try clear c230
      try clear c231
      try clear c231b0
      try clear c231b1
      try clear c233
      try clear c234
      try clear c235
      try clear c236
      try clear c238
      try clear c239
      try clear c240
      try clear c242
      try clear c243
      try clear c245
      try clear c250
      try clear c251
      try clear c252
      try clear c253
      try clear c255
      try clear c256
      try clear c257
      try clear c259
      try clear c260
      try clear c262
      try clear c265
      try clear c266
      try clear c267
      try clear c268
      try clear c270
      try clear c271
      try clear c272
      try clear c274
      try clear c275
      try clear c277
      try clear c280
      try clear c280b0
      try clear c280b1
      try clear c282
      try clear c283
      try clear c284
      try clear c285
      try clear c287
      try clear c288
      try clear c289
      try clear c291
      try clear c292
      try clear c294
      try clear c297
      try clear c298
      try clear c299
      try clear c300
      try clear c302
      try clear c303
      try clear c304
      try clear c306
      try clear c307
      try clear c309
      try clear c311
      try clear c312
      try clear c313
      try clear c314
      try clear c316
      try clear c317
      try clear c318
      try clear c320
      try clear c321
      try clear c323
      try clear c325
      try clear c326
      try clear c327
      try clear c328
      try clear c330
      try clear c331
      try clear c332
      try clear hcz221_0
      try clear hcz221_1
      try clear hcz221_2
      try clear hcz221_3
      try clear hcz221_4
      try clear hcz221_5
      try clear hcz224_0
      try clear hcz224_1
      try clear hcz224_2
      try clear hcz224_3
      try clear hcz224_4
      try clear hcz224_5
      try clear hcz226_0
      try clear hcz226_1
      try clear hcz226_2
      try clear hcz226_3
      try clear hcz226_4
      try clear hcz226_5
      try clear hcz237_0
      try clear hcz237_1
      try clear hcz237_2
      try clear hcz237_3
      try clear hcz237_4
      try clear hcz237_5
      try clear hcz241_0
      try clear hcz241_1
      try clear hcz241_2
      try clear hcz241_3
      try clear hcz241_4
      try clear hcz241_5
      try clear hcz244_0
      try clear hcz244_1
      try clear hcz244_2
      try clear hcz244_3
      try clear hcz244_4
      try clear hcz244_5
      try clear hcz246_0
      try clear hcz246_1
      try clear hcz246_2
      try clear hcz246_3
      try clear hcz246_4
      try clear hcz246_5
      try clear hcz248_0
      try clear hcz248_1
      try clear hcz248_2
      try clear hcz248_3
      try clear hcz248_4
      try clear hcz248_5
      try clear hcz254_0
      try clear hcz254_1
      try clear hcz254_2
      try clear hcz254_3
      try clear hcz254_4
      try clear hcz254_5
      try clear hcz258_0
      try clear hcz258_1
      try clear hcz258_2
      try clear hcz258_3
      try clear hcz258_4
      try clear hcz258_5
      try clear hcz261_0
      try clear hcz261_1
      try clear hcz261_2
      try clear hcz261_3
      try clear hcz261_4
      try clear hcz261_5
      try clear hcz263_0
      try clear hcz263_1
      try clear hcz263_2
      try clear hcz263_3
      try clear hcz263_4
      try clear hcz263_5
      try clear hcz269_0
      try clear hcz269_1
      try clear hcz269_2
      try clear hcz269_3
      try clear hcz269_4
      try clear hcz269_5
      try clear hcz273_0
      try clear hcz273_1
      try clear hcz273_2
      try clear hcz273_3
      try clear hcz273_4
      try clear hcz273_5
      try clear hcz276_0
      try clear hcz276_1
      try clear hcz276_2
      try clear hcz276_3
      try clear hcz276_4
      try clear hcz276_5
      try clear hcz278_0
      try clear hcz278_1
      try clear hcz278_2
      try clear hcz278_3
      try clear hcz278_4
      try clear hcz278_5
      try clear hcz286_0
      try clear hcz286_1
      try clear hcz286_2
      try clear hcz286_3
      try clear hcz286_4
      try clear hcz286_5
      try clear hcz290_0
      try clear hcz290_1
      try clear hcz290_2
      try clear hcz290_3
      try clear hcz290_4
      try clear hcz290_5
      try clear hcz293_0
      try clear hcz293_1
      try clear hcz293_2
      try clear hcz293_3
      try clear hcz293_4
      try clear hcz293_5
      try clear hcz295_0
      try clear hcz295_1
      try clear hcz295_2
      try clear hcz295_3
      try clear hcz295_4
      try clear hcz295_5
      try clear hcz301_0
      try clear hcz301_1
      try clear hcz301_2
      try clear hcz301_3
      try clear hcz301_4
      try clear hcz301_5
      try clear hcz305_0
      try clear hcz305_1
      try clear hcz305_2
      try clear hcz305_3
      try clear hcz305_4
      try clear hcz305_5
      try clear hcz308_0
      try clear hcz308_1
      try clear hcz308_2
      try clear hcz308_3
      try clear hcz308_4
      try clear hcz308_5
      try clear hcz310_0
      try clear hcz310_1
      try clear hcz310_2
      try clear hcz310_3
      try clear hcz310_4
      try clear hcz310_5
      try clear hcz315_0
      try clear hcz315_1
      try clear hcz315_2
      try clear hcz315_3
      try clear hcz315_4
      try clear hcz315_5
      try clear hcz319_0
      try clear hcz319_1
      try clear hcz319_2
      try clear hcz319_3
      try clear hcz319_4
      try clear hcz319_5
      try clear hcz322_0
      try clear hcz322_1
      try clear hcz322_2
      try clear hcz322_3
      try clear hcz322_4
      try clear hcz322_5
      try clear hcz324_0
      try clear hcz324_1
      try clear hcz324_2
      try clear hcz324_3
      try clear hcz324_4
      try clear hcz324_5
      try clear hcz329_0
      try clear hcz329_1
      try clear hcz329_2
      try clear hcz329_3
      try clear hcz329_4
      try clear hcz329_5
      try clear hcz333_0
      try clear hcz333_1
      try clear hcz333_2
      try clear hcz333_3
      try clear hcz333_4
      try clear hcz333_5
      try clear hfz217_5
      try clear hfz221_0
      try clear hfz221_1
      try clear hfz221_2
      try clear hfz221_3
      try clear hfz221_4
      try clear hfz221_5
      try clear hfz224_0
      try clear hfz224_1
      try clear hfz224_2
      try clear hfz224_3
      try clear hfz224_4
      try clear hfz224_5
      try clear hfz226_0
      try clear hfz226_1
      try clear hfz226_2
      try clear hfz226_3
      try clear hfz226_4
      try clear hfz226_5
      try clear hfz237_0
      try clear hfz237_1
      try clear hfz237_2
      try clear hfz237_3
      try clear hfz237_4
      try clear hfz237_5
      try clear hfz241_0
      try clear hfz241_1
      try clear hfz241_2
      try clear hfz241_3
      try clear hfz241_4
      try clear hfz241_5
      try clear hfz244_0
      try clear hfz244_1
      try clear hfz244_2
      try clear hfz244_3
      try clear hfz244_4
      try clear hfz244_5
      try clear hfz246_0
      try clear hfz246_1
      try clear hfz246_2
      try clear hfz246_3
      try clear hfz246_4
      try clear hfz246_5
      try clear hfz248_0
      try clear hfz248_1
      try clear hfz248_2
      try clear hfz248_3
      try clear hfz248_4
      try clear hfz248_5
      try clear hfz254_0
      try clear hfz254_1
      try clear hfz254_2
      try clear hfz254_3
      try clear hfz254_4
      try clear hfz254_5
      try clear hfz258_0
      try clear hfz258_1
      try clear hfz258_2
      try clear hfz258_3
      try clear hfz258_4
      try clear hfz258_5
      try clear hfz261_0
      try clear hfz261_1
      try clear hfz261_2
      try clear hfz261_3
      try clear hfz261_4
      try clear hfz261_5
      try clear hfz263_0
      try clear hfz263_1
      try clear hfz263_2
      try clear hfz263_3
      try clear hfz263_4
      try clear hfz263_5
      try clear hfz269_0
      try clear hfz269_1
      try clear hfz269_2
      try clear hfz269_3
      try clear hfz269_4
      try clear hfz269_5
      try clear hfz273_0
      try clear hfz273_1
      try clear hfz273_2
      try clear hfz273_3
      try clear hfz273_4
      try clear hfz273_5
      try clear hfz276_0
      try clear hfz276_1
      try clear hfz276_2
      try clear hfz276_3
      try clear hfz276_4
      try clear hfz276_5
      try clear hfz278_0
      try clear hfz278_1
      try clear hfz278_2
      try clear hfz278_3
      try clear hfz278_4
      try clear hfz278_5
      try clear hfz286_0
      try clear hfz286_1
      try clear hfz286_2
      try clear hfz286_3
      try clear hfz286_4
      try clear hfz286_5
      try clear hfz290_0
      try clear hfz290_1
      try clear hfz290_2
      try clear hfz290_3
      try clear hfz290_4
      try clear hfz290_5
      try clear hfz293_0
      try clear hfz293_1
      try clear hfz293_2
      try clear hfz293_3
      try clear hfz293_4
      try clear hfz293_5
      try clear hfz295_0
      try clear hfz295_1
      try clear hfz295_2
      try clear hfz295_3
      try clear hfz295_4
      try clear hfz295_5
      try clear hfz301_0
      try clear hfz301_1
      try clear hfz301_2
      try clear hfz301_3
      try clear hfz301_4
      try clear hfz301_5
      try clear hfz305_0
      try clear hfz305_1
      try clear hfz305_2
      try clear hfz305_3
      try clear hfz305_4
      try clear hfz305_5
      try clear hfz308_0
      try clear hfz308_1
      try clear hfz308_2
      try clear hfz308_3
      try clear hfz308_4
      try clear hfz308_5
      try clear hfz310_0
      try clear hfz310_1
      try clear hfz310_2
      try clear hfz310_3
      try clear hfz310_4
      try clear hfz310_5
      try clear hfz315_0
      try clear hfz315_1
      try clear hfz315_2
      try clear hfz315_3
      try clear hfz315_4
      try clear hfz315_5
      try clear hfz319_0
      try clear hfz319_1
      try clear hfz319_2
      try clear hfz319_3
      try clear hfz319_4
      try clear hfz319_5
      try clear hfz322_0
      try clear hfz322_1
      try clear hfz322_2
      try clear hfz322_3
      try clear hfz322_4
      try clear hfz322_5
      try clear hfz324_0
      try clear hfz324_1
      try clear hfz324_2
      try clear hfz324_3
      try clear hfz324_4
      try clear hfz324_5
      try clear hfz329_0
      try clear hfz329_1
      try clear hfz329_2
      try clear hfz329_3
      try clear hfz329_4
      try clear hfz329_5
      try clear hfz333_0
      try clear hfz333_1
      try clear hfz333_2
      try clear hfz333_3
      try clear hfz333_4
      try clear hfz333_5
      obtain ⟨kq, x127_177, rfl, HA, HJ177, BK101, BK114, BK122, BK130, BK138, HB⟩ := hcut
      cases kq with
      | zero => exact absurd HA.out (by simp [ironbarklaw02_RuleTurns.j1])
      | succ kj177 =>
       have H := HA.out
       clear HA
       simp only [ironbarklaw02_RuleTurns.j1] at H
       by_cases c334 : x127_177 = true
       ·subst c334
        have H1 : (some false) = some r := by rw [if_pos rfl] at H; exact H
        clear H
        have H := H1
        clear H1
        exact absurd ((Option.some.inj H).trans hrt_.out) (by decide)
       ·replace c334 := Bool.eq_false_iff.mpr c334
        subst c334
        have H1 : ((rule_Negated.f a0_0 a0_1 a0_2 a0_3 a0_4 a0_5).bind fun bt173 => ((ironbarkref02_Negated.f kj177 a0_0 a0_1 a0_2 a0_3 a0_4 a0_5).bind fun bt180 => (if (bt173.1 == bt180.1 && (bt173.2.1 == bt180.2.1 && (bt173.2.2.1 == bt180.2.2.1 && (bt173.2.2.2.1 == bt180.2.2.2.1 && (bt173.2.2.2.2.1 == bt180.2.2.2.2.1 && (bt173.2.2.2.2.2.1.toList == bt180.2.2.2.2.2.1.toList)))))) = true then (if bt173.2.2.2.2.2.2 = bt180.2.2.2.2.2.2 then ((ironbarklaw02_awake.f kj177).bind fun t187 => (some t187)) else (some false)) else (some false)))) = some r := by rw [if_neg (show ¬ (false = true) by decide)] at H; exact H
        clear H
        have H := H1
        clear H1
        replace H := Option.bind_eq_some_iff.mp H
        obtain ⟨⟨t173, t174, t175, t176, t177, t178, t179⟩, A3350, H⟩ := H
        replace H : ((ironbarkref02_Negated.f kj177 a0_0 a0_1 a0_2 a0_3 a0_4 a0_5).bind fun bt180 => (if (t173 == bt180.1 && (t174 == bt180.2.1 && (t175 == bt180.2.2.1 && (t176 == bt180.2.2.2.1 && (t177 == bt180.2.2.2.2.1 && (t178.toList == bt180.2.2.2.2.2.1.toList)))))) = true then (if t179 = bt180.2.2.2.2.2.2 then ((ironbarklaw02_awake.f kj177).bind fun t187 => (some t187)) else (some false)) else (some false))) = some r := H
        have A335 := Aside0.mk A3350
        clear A3350
        replace H := Option.bind_eq_some_iff.mp H
        obtain ⟨⟨t180, t181, t182, t183, t184, t185, t186⟩, A3360, H⟩ := H
        replace H : (if (t173 == t180 && (t174 == t181 && (t175 == t182 && (t176 == t183 && (t177 == t184 && (t178.toList == t185.toList)))))) = true then (if t179 = t186 then ((ironbarklaw02_awake.f kj177).bind fun t187 => (some t187)) else (some false)) else (some false)) = some r := H
        have A336 := Aside0.mk A3360
        clear A3360
        by_cases c337 : (t173 == t180 && (t174 == t181 && (t175 == t182 && (t176 == t183 && (t177 == t184 && (t178.toList == t185.toList)))))) = true
        ·rw [if_pos c337] at H
         have c337b0 : (t173 == t180 && (t174 == t181 && (t175 == t182 && (t176 == t183 && (t177 == t184 && (t178.toList == t185.toList)))))) = true := c337
         (try (have c337b1 : decide (t173 = t180 && (t174 == t181 && (t175 == t182 && (t176 == t183 && (t177 == t184 && (t178.toList == t185.toList)))))) = true := by simpa using c337))
         (try (have c337b2 : (t173 == t180 && (t174 == t181 && (t175 == t182 && (t176 == t183 && (t177 == t184 && (t178.toList == t185.toList)))))) = true := by simpa using c337))
         clear c337
         by_cases c338 : t179 = t186
         ·rw [if_pos c338] at H
          have c338b0 : (t179 == t186) = true := beq_iff_eq.mpr c338
          have c338b1 : (t179 != t186) = false := bne_eq_false_iff_eq.mpr c338
          clear c338
          replace H := Option.bind_eq_some_iff.mp H
          obtain ⟨t187, A3390, H⟩ := H
          replace H : (some t187) = some r := H
          have A339 := Aside0.mk A3390
          clear A3390
          obtain rfl := Option.some.inj H
          have hnb340 := NB101_114.out
          have hnc340 := NB114_101.out
          have hnb341 := NB101_122.out
          have hnc341 := NB122_101.out
          have hnb342 := NB101_130.out
          have hnc342 := NB130_101.out
          have hnb343 := NB101_138.out
          have hnc343 := NB138_101.out
          have hcz344_0 : wc.cell? ⟨gb101, 0, none⟩ = some (.int .i64 a0_0) := (blk_cell BK101.out 0).trans rfl
          have hcz344_1 : wc.cell? ⟨gb101, 1, none⟩ = some (.int .i64 a0_1) := (blk_cell BK101.out 1).trans rfl
          have hcz344_2 : wc.cell? ⟨gb101, 2, none⟩ = some (.int .i64 a0_2) := (blk_cell BK101.out 2).trans rfl
          have hcz344_3 : wc.cell? ⟨gb101, 3, none⟩ = some (.int .i64 a0_3) := (blk_cell BK101.out 3).trans rfl
          have hcz344_4 : wc.cell? ⟨gb101, 4, none⟩ = some (.bool a0_4) := (blk_cell BK101.out 4).trans rfl
          have hcz344_5 : wc.cell? ⟨gb101, 5, none⟩ = some (.string a0_5) := (blk_cell BK101.out 5).trans rfl
          have hfz344_0 := blk_frozen BK101.out 0
          have hfz344_1 := blk_frozen BK101.out 1
          have hfz344_2 := blk_frozen BK101.out 2
          have hfz344_3 := blk_frozen BK101.out 3
          have hfz344_4 := blk_frozen BK101.out 4
          have hfz344_5 := blk_frozen BK101.out 5
          go_wp2_with (first | ((with_reducible refine gate_callee (f := 32) rfl ?_); refine goesL_ (some 130) rfl rfl Try.func32 (by kernel_rfl) rfl #[.agg #[.int .i64 a0_0, .int .i64 a0_1, .int .i64 a0_2, .int .i64 a0_3, .bool a0_4, .string a0_5]] rfl (by (try simp only [List.map_toArray, List.map_cons, List.map_nil]); first | done | rfl | (simp only [List.length_drop, List.length_take]; rfl)) ?_; (with_reducible refine (rule_Negated.calls a0_0 a0_1 a0_2 a0_3 a0_4 a0_5 t173 t174 t175 t176 t177 t178 t179 _ A335.out).mono ?_); rintro e w345 ⟨rfl, hb⟩; refine ⟨_, rfl, ?_⟩; have n0_ := Aside0.mk (blk_below (g := gb101) (o := .cells #[.int .i64 a0_0, .int .i64 a0_1, .int .i64 a0_2, .int .i64 a0_3, .bool a0_4, .string a0_5] 25 (0, 0)) (by (with_reducible repeat (first | refine blk_drewN ?_ _ | refine blk_drew ?_ | refine blk_alloc ?_ _)); exact BK101.out) hb); have n1_ := Aside0.mk (blk_below (g := gb114) (o := .cells #[.int .i64 t142, .int .i64 t143, .int .i64 t144, .int .i64 t145, .bool t146, .string t147] 25 (0, 0)) (by (with_reducible repeat (first | refine blk_drewN ?_ _ | refine blk_drew ?_ | refine blk_alloc ?_ _)); exact BK114.out) hb); have n2_ := Aside0.mk (blk_below (g := gb122) (o := .cells #[.int .i64 t149, .int .i64 t150, .int .i64 t151, .int .i64 t152, .bool t153, .string t154] 25 (0, 0)) (by (with_reducible repeat (first | refine blk_drewN ?_ _ | refine blk_drew ?_ | refine blk_alloc ?_ _)); exact BK122.out) hb); have n3_ := Aside0.mk (blk_below (g := gb130) (o := .cells #[.int .i64 t156, .int .i64 t157, .int .i64 t158, .int .i64 t159, .bool t160, .string t161] 25 (0, 0)) (by (with_reducible repeat (first | refine blk_drewN ?_ _ | refine blk_drew ?_ | refine blk_alloc ?_ _)); exact BK130.out) hb); have n4_ := Aside0.mk (blk_below (g := gb138) (o := .cells #[.int .i64 t163, .int .i64 t164, .int .i64 t165, .int .i64 t166, .bool t167, .string t168] 25 (0, 0)) (by (with_reducible repeat (first | refine blk_drewN ?_ _ | refine blk_drew ?_ | refine blk_alloc ?_ _)); exact BK138.out) hb); have n5_ := Aside0.mk (below_step (by repeat (first | (with_reducible first | exact HB.out | apply below_alloc | apply pw_below_drewN | apply below_drew1 | refine below_set ?_ GE101.out | refine below_set ?_ GE114.out | refine below_set ?_ GE122.out | refine below_set ?_ GE130.out | refine below_set ?_ GE138.out) | exact HB.out)) hb); clear BK101; clear BK114; clear BK122; clear BK130; clear BK138; clear HB; have BK101 := n0_; have BK114 := n1_; have BK122 := n2_; have BK130 := n3_; have BK138 := n4_; have HB := n5_; clear n0_ n1_ n2_ n3_ n4_ n5_; (try clear hb); (try clear hb2); (try clear hk); (try clear hi); have hnb346 := NB114_122.out; have hnc346 := NB122_114.out; have hnb347 := NB114_130.out; have hnc347 := NB130_114.out; have hnb348 := NB114_138.out; have hnc348 := NB138_114.out; have hcz349_0 : w345.cell? ⟨gb114, 0, none⟩ = some (.int .i64 t142) := (blk_cell BK114.out 0).trans rfl; have hcz349_1 : w345.cell? ⟨gb114, 1, none⟩ = some (.int .i64 t143) := (blk_cell BK114.out 1).trans rfl; have hcz349_2 : w345.cell? ⟨gb114, 2, none⟩ = some (.int .i64 t144) := (blk_cell BK114.out 2).trans rfl; have hcz349_3 : w345.cell? ⟨gb114, 3, none⟩ = some (.int .i64 t145) := (blk_cell BK114.out 3).trans rfl; have hcz349_4 : w345.cell? ⟨gb114, 4, none⟩ = some (.bool t146) := (blk_cell BK114.out 4).trans rfl; have hcz349_5 : w345.cell? ⟨gb114, 5, none⟩ = some (.string t147) := (blk_cell BK114.out 5).trans rfl; have hfz349_0 := blk_frozen BK114.out 0; have hfz349_1 := blk_frozen BK114.out 1; have hfz349_2 := blk_frozen BK114.out 2; have hfz349_3 := blk_frozen BK114.out 3; have hfz349_4 := blk_frozen BK114.out 4; have hfz349_5 := blk_frozen BK114.out 5; have hcz350_0 : w345.cell? ⟨gb101, 0, none⟩ = some (.int .i64 a0_0) := (blk_cell BK101.out 0).trans rfl; have hcz350_1 : w345.cell? ⟨gb101, 1, none⟩ = some (.int .i64 a0_1) := (blk_cell BK101.out 1).trans rfl; have hcz350_2 : w345.cell? ⟨gb101, 2, none⟩ = some (.int .i64 a0_2) := (blk_cell BK101.out 2).trans rfl; have hcz350_3 : w345.cell? ⟨gb101, 3, none⟩ = some (.int .i64 a0_3) := (blk_cell BK101.out 3).trans rfl; have hcz350_4 : w345.cell? ⟨gb101, 4, none⟩ = some (.bool a0_4) := (blk_cell BK101.out 4).trans rfl; have hcz350_5 : w345.cell? ⟨gb101, 5, none⟩ = some (.string a0_5) := (blk_cell BK101.out 5).trans rfl; have hfz350_0 := blk_frozen BK101.out 0; have hfz350_1 := blk_frozen BK101.out 1; have hfz350_2 := blk_frozen BK101.out 2; have hfz350_3 := blk_frozen BK101.out 3; have hfz350_4 := blk_frozen BK101.out 4; have hfz350_5 := blk_frozen BK101.out 5) | ((with_reducible refine gate_callee (f := 33) rfl ?_); refine goesL_ (some 135) rfl rfl Try.func33 (by kernel_rfl) rfl #[.agg #[.int .i64 a0_0, .int .i64 a0_1, .int .i64 a0_2, .int .i64 a0_3, .bool a0_4, .string a0_5]] rfl (by (try simp only [List.map_toArray, List.map_cons, List.map_nil]); first | done | rfl | (simp only [List.length_drop, List.length_take]; rfl)) ?_; (with_reducible refine (ironbarkref02_Negated.calls kj177 a0_0 a0_1 a0_2 a0_3 a0_4 a0_5 t180 t181 t182 t183 t184 t185 t186 _ A336.out).mono ?_); rintro e w351 ⟨rfl, hb⟩; refine ⟨_, rfl, ?_⟩; have n0_ := Aside0.mk (blk_below (g := gb101) (o := .cells #[.int .i64 a0_0, .int .i64 a0_1, .int .i64 a0_2, .int .i64 a0_3, .bool a0_4, .string a0_5] 25 (0, 0)) (by (with_reducible repeat (first | refine blk_drewN ?_ _ | refine blk_drew ?_ | refine blk_alloc ?_ _)); refine blk_far ?_ NB101_114.out _; (with_reducible repeat (first | refine blk_drewN ?_ _ | refine blk_drew ?_ | refine blk_alloc ?_ _)); refine blk_far ?_ NB101_114.out _; (with_reducible repeat (first | refine blk_drewN ?_ _ | refine blk_drew ?_ | refine blk_alloc ?_ _)); refine blk_far ?_ NB101_114.out _; (with_reducible repeat (first | refine blk_drewN ?_ _ | refine blk_drew ?_ | refine blk_alloc ?_ _)); refine blk_far ?_ NB101_114.out _; (with_reducible repeat (first | refine blk_drewN ?_ _ | refine blk_drew ?_ | refine blk_alloc ?_ _)); refine blk_far ?_ NB101_114.out _; (with_reducible repeat (first | refine blk_drewN ?_ _ | refine blk_drew ?_ | refine blk_alloc ?_ _)); refine blk_far ?_ NB101_114.out _; (with_reducible repeat (first | refine blk_drewN ?_ _ | refine blk_drew ?_ | refine blk_alloc ?_ _)); exact BK101.out) hb); have n1_ := Aside0.mk (blk_below (g := gb114) (o := .cells #[.int .i64 t173, .int .i64 t174, .int .i64 t175, .int .i64 t176, .bool t177, .string t178] 25 (0, 0)) (by (with_reducible repeat (first | refine blk_drewN ?_ _ | refine blk_drew ?_ | refine blk_alloc ?_ _)); refine blk_put (cs := #[.int .i64 t173, .int .i64 t174, .int .i64 t175, .int .i64 t176, .bool t177, .string t147]) ?_ 5 _ rfl; (with_reducible repeat (first | refine blk_drewN ?_ _ | refine blk_drew ?_ | refine blk_alloc ?_ _)); refine blk_put (cs := #[.int .i64 t173, .int .i64 t174, .int .i64 t175, .int .i64 t176, .bool t146, .string t147]) ?_ 4 _ rfl; (with_reducible repeat (first | refine blk_drewN ?_ _ | refine blk_drew ?_ | refine blk_alloc ?_ _)); refine blk_put (cs := #[.int .i64 t173, .int .i64 t174, .int .i64 t175, .int .i64 t145, .bool t146, .string t147]) ?_ 3 _ rfl; (with_reducible repeat (first | refine blk_drewN ?_ _ | refine blk_drew ?_ | refine blk_alloc ?_ _)); refine blk_put (cs := #[.int .i64 t173, .int .i64 t174, .int .i64 t144, .int .i64 t145, .bool t146, .string t147]) ?_ 2 _ rfl; (with_reducible repeat (first | refine blk_drewN ?_ _ | refine blk_drew ?_ | refine blk_alloc ?_ _)); refine blk_put (cs := #[.int .i64 t173, .int .i64 t143, .int .i64 t144, .int .i64 t145, .bool t146, .string t147]) ?_ 1 _ rfl; (with_reducible repeat (first | refine blk_drewN ?_ _ | refine blk_drew ?_ | refine blk_alloc ?_ _)); refine blk_put (cs := #[.int .i64 t142, .int .i64 t143, .int .i64 t144, .int .i64 t145, .bool t146, .string t147]) ?_ 0 _ rfl; (with_reducible repeat (first | refine blk_drewN ?_ _ | refine blk_drew ?_ | refine blk_alloc ?_ _)); exact BK114.out) hb); have n2_ := Aside0.mk (blk_below (g := gb122) (o := .cells #[.int .i64 t149, .int .i64 t150, .int .i64 t151, .int .i64 t152, .bool t153, .string t154] 25 (0, 0)) (by (with_reducible repeat (first | refine blk_drewN ?_ _ | refine blk_drew ?_ | refine blk_alloc ?_ _)); refine blk_far ?_ NB122_114.out _; (with_reducible repeat (first | refine blk_drewN ?_ _ | refine blk_drew ?_ | refine blk_alloc ?_ _)); refine blk_far ?_ NB122_114.out _; (with_reducible repeat (first | refine blk_drewN ?_ _ | refine blk_drew ?_ | refine blk_alloc ?_ _)); refine blk_far ?_ NB122_114.out _; (with_reducible repeat (first | refine blk_drewN ?_ _ | refine blk_drew ?_ | refine blk_alloc ?_ _)); refine blk_far ?_ NB122_114.out _; (with_reducible repeat (first | refine blk_drewN ?_ _ | refine blk_drew ?_ | refine blk_alloc ?_ _)); refine blk_far ?_ NB122_114.out _; (with_reducible repeat (first | refine blk_drewN ?_ _ | refine blk_drew ?_ | refine blk_alloc ?_ _)); refine blk_far ?_ NB122_114.out _; (with_reducible repeat (first | refine blk_drewN ?_ _ | refine blk_drew ?_ | refine blk_alloc ?_ _)); exact BK122.out) hb); have n3_ := Aside0.mk (blk_below (g := gb130) (o := .cells #[.int .i64 t156, .int .i64 t157, .int .i64 t158, .int .i64 t159, .bool t160, .string t161] 25 (0, 0)) (by (with_reducible repeat (first | refine blk_drewN ?_ _ | refine blk_drew ?_ | refine blk_alloc ?_ _)); refine blk_far ?_ NB130_114.out _; (with_reducible repeat (first | refine blk_drewN ?_ _ | refine blk_drew ?_ | refine blk_alloc ?_ _)); refine blk_far ?_ NB130_114.out _; (with_reducible repeat (first | refine blk_drewN ?_ _ | refine blk_drew ?_ | refine blk_alloc ?_ _)); refine blk_far ?_ NB130_114.out _; (with_reducible repeat (first | refine blk_drewN ?_ _ | refine blk_drew ?_ | refine blk_alloc ?_ _)); refine blk_far ?_ NB130_114.out _; (with_reducible repeat (first | refine blk_drewN ?_ _ | refine blk_drew ?_ | refine blk_alloc ?_ _)); refine blk_far ?_ NB130_114.out _; (with_reducible repeat (first | refine blk_drewN ?_ _ | refine blk_drew ?_ | refine blk_alloc ?_ _)); refine blk_far ?_ NB130_114.out _; (with_reducible repeat (first | refine blk_drewN ?_ _ | refine blk_drew ?_ | refine blk_alloc ?_ _)); exact BK130.out) hb); have n4_ := Aside0.mk (blk_below (g := gb138) (o := .cells #[.int .i64 t163, .int .i64 t164, .int .i64 t165, .int .i64 t166, .bool t167, .string t168] 25 (0, 0)) (by (with_reducible repeat (first | refine blk_drewN ?_ _ | refine blk_drew ?_ | refine blk_alloc ?_ _)); refine blk_far ?_ NB138_114.out _; (with_reducible repeat (first | refine blk_drewN ?_ _ | refine blk_drew ?_ | refine blk_alloc ?_ _)); refine blk_far ?_ NB138_114.out _; (with_reducible repeat (first | refine blk_drewN ?_ _ | refine blk_drew ?_ | refine blk_alloc ?_ _)); refine blk_far ?_ NB138_114.out _; (with_reducible repeat (first | refine blk_drewN ?_ _ | refine blk_drew ?_ | refine blk_alloc ?_ _)); refine blk_far ?_ NB138_114.out _; (with_reducible repeat (first | refine blk_drewN ?_ _ | refine blk_drew ?_ | refine blk_alloc ?_ _)); refine blk_far ?_ NB138_114.out _; (with_reducible repeat (first | refine blk_drewN ?_ _ | refine blk_drew ?_ | refine blk_alloc ?_ _)); refine blk_far ?_ NB138_114.out _; (with_reducible repeat (first | refine blk_drewN ?_ _ | refine blk_drew ?_ | refine blk_alloc ?_ _)); exact BK138.out) hb); have n5_ := Aside0.mk (below_step (by repeat (first | (with_reducible first | exact HB.out | apply below_alloc | apply pw_below_drewN | apply below_drew1 | refine below_set ?_ GE101.out | refine below_set ?_ GE114.out | refine below_set ?_ GE122.out | refine below_set ?_ GE130.out | refine below_set ?_ GE138.out) | exact HB.out)) hb); clear BK101; clear BK114; clear BK122; clear BK130; clear BK138; clear HB; have BK101 := n0_; have BK114 := n1_; have BK122 := n2_; have BK130 := n3_; have BK138 := n4_; have HB := n5_; clear n0_ n1_ n2_ n3_ n4_ n5_; (try clear hb); (try clear hb2); (try clear hk); (try clear hi); have hnb352 := NB122_130.out; have hnc352 := NB130_122.out; have hnb353 := NB122_138.out; have hnc353 := NB138_122.out; have hcz354_0 : w351.cell? ⟨gb122, 0, none⟩ = some (.int .i64 t149) := (blk_cell BK122.out 0).trans rfl; have hcz354_1 : w351.cell? ⟨gb122, 1, none⟩ = some (.int .i64 t150) := (blk_cell BK122.out 1).trans rfl; have hcz354_2 : w351.cell? ⟨gb122, 2, none⟩ = some (.int .i64 t151) := (blk_cell BK122.out 2).trans rfl; have hcz354_3 : w351.cell? ⟨gb122, 3, none⟩ = some (.int .i64 t152) := (blk_cell BK122.out 3).trans rfl; have hcz354_4 : w351.cell? ⟨gb122, 4, none⟩ = some (.bool t153) := (blk_cell BK122.out 4).trans rfl; have hcz354_5 : w351.cell? ⟨gb122, 5, none⟩ = some (.string t154) := (blk_cell BK122.out 5).trans rfl; have hfz354_0 := blk_frozen BK122.out 0; have hfz354_1 := blk_frozen BK122.out 1; have hfz354_2 := blk_frozen BK122.out 2; have hfz354_3 := blk_frozen BK122.out 3; have hfz354_4 := blk_frozen BK122.out 4; have hfz354_5 := blk_frozen BK122.out 5; have hcz355_0 : w351.cell? ⟨gb114, 0, none⟩ = some (.int .i64 t173) := (blk_cell BK114.out 0).trans rfl; have hcz355_1 : w351.cell? ⟨gb114, 1, none⟩ = some (.int .i64 t174) := (blk_cell BK114.out 1).trans rfl; have hcz355_2 : w351.cell? ⟨gb114, 2, none⟩ = some (.int .i64 t175) := (blk_cell BK114.out 2).trans rfl; have hcz355_3 : w351.cell? ⟨gb114, 3, none⟩ = some (.int .i64 t176) := (blk_cell BK114.out 3).trans rfl; have hcz355_4 : w351.cell? ⟨gb114, 4, none⟩ = some (.bool t177) := (blk_cell BK114.out 4).trans rfl; have hcz355_5 : w351.cell? ⟨gb114, 5, none⟩ = some (.string t178) := (blk_cell BK114.out 5).trans rfl; have hfz355_0 := blk_frozen BK114.out 0; have hfz355_1 := blk_frozen BK114.out 1; have hfz355_2 := blk_frozen BK114.out 2; have hfz355_3 := blk_frozen BK114.out 3; have hfz355_4 := blk_frozen BK114.out 4; have hfz355_5 := blk_frozen BK114.out 5) | (go_at_call 8; (with_reducible refine (ironbarklaw02_awake.calls kj177  t187 _ A339.out).mono ?_); rintro e w356 ⟨rfl, hb⟩; have n0_ := Aside0.mk (blk_below (g := gb101) (o := .cells #[.int .i64 a0_0, .int .i64 a0_1, .int .i64 a0_2, .int .i64 a0_3, .bool a0_4, .string a0_5] 25 (0, 0)) (by (with_reducible repeat (first | refine blk_drewN ?_ _ | refine blk_drew ?_ | refine blk_alloc ?_ _)); refine blk_far ?_ NB101_122.out _; (with_reducible repeat (first | refine blk_drewN ?_ _ | refine blk_drew ?_ | refine blk_alloc ?_ _)); refine blk_far ?_ NB101_122.out _; (with_reducible repeat (first | refine blk_drewN ?_ _ | refine blk_drew ?_ | refine blk_alloc ?_ _)); refine blk_far ?_ NB101_122.out _; (with_reducible repeat (first | refine blk_drewN ?_ _ | refine blk_drew ?_ | refine blk_alloc ?_ _)); refine blk_far ?_ NB101_122.out _; (with_reducible repeat (first | refine blk_drewN ?_ _ | refine blk_drew ?_ | refine blk_alloc ?_ _)); refine blk_far ?_ NB101_122.out _; (with_reducible repeat (first | refine blk_drewN ?_ _ | refine blk_drew ?_ | refine blk_alloc ?_ _)); refine blk_far ?_ NB101_122.out _; (with_reducible repeat (first | refine blk_drewN ?_ _ | refine blk_drew ?_ | refine blk_alloc ?_ _)); exact BK101.out) hb); have n1_ := Aside0.mk (blk_below (g := gb114) (o := .cells #[.int .i64 t173, .int .i64 t174, .int .i64 t175, .int .i64 t176, .bool t177, .string t178] 25 (0, 0)) (by (with_reducible repeat (first | refine blk_drewN ?_ _ | refine blk_drew ?_ | refine blk_alloc ?_ _)); refine blk_far ?_ NB114_122.out _; (with_reducible repeat (first | refine blk_drewN ?_ _ | refine blk_drew ?_ | refine blk_alloc ?_ _)); refine blk_far ?_ NB114_122.out _; (with_reducible repeat (first | refine blk_drewN ?_ _ | refine blk_drew ?_ | refine blk_alloc ?_ _)); refine blk_far ?_ NB114_122.out _; (with_reducible repeat (first | refine blk_drewN ?_ _ | refine blk_drew ?_ | refine blk_alloc ?_ _)); refine blk_far ?_ NB114_122.out _; (with_reducible repeat (first | refine blk_drewN ?_ _ | refine blk_drew ?_ | refine blk_alloc ?_ _)); refine blk_far ?_ NB114_122.out _; (with_reducible repeat (first | refine blk_drewN ?_ _ | refine blk_drew ?_ | refine blk_alloc ?_ _)); refine blk_far ?_ NB114_122.out _; (with_reducible repeat (first | refine blk_drewN ?_ _ | refine blk_drew ?_ | refine blk_alloc ?_ _)); exact BK114.out) hb); have n2_ := Aside0.mk (blk_below (g := gb122) (o := .cells #[.int .i64 t180, .int .i64 t181, .int .i64 t182, .int .i64 t183, .bool t184, .string t185] 25 (0, 0)) (by (with_reducible repeat (first | refine blk_drewN ?_ _ | refine blk_drew ?_ | refine blk_alloc ?_ _)); refine blk_put (cs := #[.int .i64 t180, .int .i64 t181, .int .i64 t182, .int .i64 t183, .bool t184, .string t154]) ?_ 5 _ rfl; (with_reducible repeat (first | refine blk_drewN ?_ _ | refine blk_drew ?_ | refine blk_alloc ?_ _)); refine blk_put (cs := #[.int .i64 t180, .int .i64 t181, .int .i64 t182, .int .i64 t183, .bool t153, .string t154]) ?_ 4 _ rfl; (with_reducible repeat (first | refine blk_drewN ?_ _ | refine blk_drew ?_ | refine blk_alloc ?_ _)); refine blk_put (cs := #[.int .i64 t180, .int .i64 t181, .int .i64 t182, .int .i64 t152, .bool t153, .string t154]) ?_ 3 _ rfl; (with_reducible repeat (first | refine blk_drewN ?_ _ | refine blk_drew ?_ | refine blk_alloc ?_ _)); refine blk_put (cs := #[.int .i64 t180, .int .i64 t181, .int .i64 t151, .int .i64 t152, .bool t153, .string t154]) ?_ 2 _ rfl; (with_reducible repeat (first | refine blk_drewN ?_ _ | refine blk_drew ?_ | refine blk_alloc ?_ _)); refine blk_put (cs := #[.int .i64 t180, .int .i64 t150, .int .i64 t151, .int .i64 t152, .bool t153, .string t154]) ?_ 1 _ rfl; (with_reducible repeat (first | refine blk_drewN ?_ _ | refine blk_drew ?_ | refine blk_alloc ?_ _)); refine blk_put (cs := #[.int .i64 t149, .int .i64 t150, .int .i64 t151, .int .i64 t152, .bool t153, .string t154]) ?_ 0 _ rfl; (with_reducible repeat (first | refine blk_drewN ?_ _ | refine blk_drew ?_ | refine blk_alloc ?_ _)); exact BK122.out) hb); have n3_ := Aside0.mk (blk_below (g := gb130) (o := .cells #[.int .i64 t156, .int .i64 t157, .int .i64 t158, .int .i64 t159, .bool t160, .string t161] 25 (0, 0)) (by (with_reducible repeat (first | refine blk_drewN ?_ _ | refine blk_drew ?_ | refine blk_alloc ?_ _)); refine blk_far ?_ NB130_122.out _; (with_reducible repeat (first | refine blk_drewN ?_ _ | refine blk_drew ?_ | refine blk_alloc ?_ _)); refine blk_far ?_ NB130_122.out _; (with_reducible repeat (first | refine blk_drewN ?_ _ | refine blk_drew ?_ | refine blk_alloc ?_ _)); refine blk_far ?_ NB130_122.out _; (with_reducible repeat (first | refine blk_drewN ?_ _ | refine blk_drew ?_ | refine blk_alloc ?_ _)); refine blk_far ?_ NB130_122.out _; (with_reducible repeat (first | refine blk_drewN ?_ _ | refine blk_drew ?_ | refine blk_alloc ?_ _)); refine blk_far ?_ NB130_122.out _; (with_reducible repeat (first | refine blk_drewN ?_ _ | refine blk_drew ?_ | refine blk_alloc ?_ _)); refine blk_far ?_ NB130_122.out _; (with_reducible repeat (first | refine blk_drewN ?_ _ | refine blk_drew ?_ | refine blk_alloc ?_ _)); exact BK130.out) hb); have n4_ := Aside0.mk (blk_below (g := gb138) (o := .cells #[.int .i64 t163, .int .i64 t164, .int .i64 t165, .int .i64 t166, .bool t167, .string t168] 25 (0, 0)) (by (with_reducible repeat (first | refine blk_drewN ?_ _ | refine blk_drew ?_ | refine blk_alloc ?_ _)); refine blk_far ?_ NB138_122.out _; (with_reducible repeat (first | refine blk_drewN ?_ _ | refine blk_drew ?_ | refine blk_alloc ?_ _)); refine blk_far ?_ NB138_122.out _; (with_reducible repeat (first | refine blk_drewN ?_ _ | refine blk_drew ?_ | refine blk_alloc ?_ _)); refine blk_far ?_ NB138_122.out _; (with_reducible repeat (first | refine blk_drewN ?_ _ | refine blk_drew ?_ | refine blk_alloc ?_ _)); refine blk_far ?_ NB138_122.out _; (with_reducible repeat (first | refine blk_drewN ?_ _ | refine blk_drew ?_ | refine blk_alloc ?_ _)); refine blk_far ?_ NB138_122.out _; (with_reducible repeat (first | refine blk_drewN ?_ _ | refine blk_drew ?_ | refine blk_alloc ?_ _)); refine blk_far ?_ NB138_122.out _; (with_reducible repeat (first | refine blk_drewN ?_ _ | refine blk_drew ?_ | refine blk_alloc ?_ _)); exact BK138.out) hb); have n5_ := Aside0.mk (below_step (by repeat (first | (with_reducible first | exact HB.out | apply below_alloc | apply pw_below_drewN | apply below_drew1 | refine below_set ?_ GE101.out | refine below_set ?_ GE114.out | refine below_set ?_ GE122.out | refine below_set ?_ GE130.out | refine below_set ?_ GE138.out) | exact HB.out)) hb); clear BK101; clear BK114; clear BK122; clear BK130; clear BK138; clear HB; have BK101 := n0_; have BK114 := n1_; have BK122 := n2_; have BK130 := n3_; have BK138 := n4_; have HB := n5_; clear n0_ n1_ n2_ n3_ n4_ n5_; (try clear hb); (try clear hb2); (try clear hk); (try clear hi)))
          go_ret
          exact ⟨by first | rfl | (simp [errW_none, errW_some] <;> rfl) | (simp [*, errW_none, errW_some] <;> rfl), by repeat (first | (with_reducible first | exact HB.out | apply below_alloc | apply pw_below_drewN | apply below_drew1 | refine below_set ?_ GE101.out | refine below_set ?_ GE114.out | refine below_set ?_ GE122.out | refine below_set ?_ GE130.out | refine below_set ?_ GE138.out) | exact HB.out)⟩
         ·rw [if_neg c338] at H
          have c338b0 : (t179 == t186) = false := beq_eq_false_iff_ne.mpr c338
          have c338b1 : (t179 != t186) = true := bne_iff_ne.mpr c338
          exact absurd ((Option.some.inj H).trans hrt_.out) (by decide)
        ·rw [if_neg c337] at H
         have c337b0 : (t173 == t180 && (t174 == t181 && (t175 == t182 && (t176 == t183 && (t177 == t184 && (t178.toList == t185.toList)))))) = false := by simpa using c337
         (try (have c337b1 : decide (t173 = t180 && (t174 == t181 && (t175 == t182 && (t176 == t183 && (t177 == t184 && (t178.toList == t185.toList)))))) = false := by simpa using c337))
         (try (have c337b2 : (t173 == t180 && (t174 == t181 && (t175 == t182 && (t176 == t183 && (t177 == t184 && (t178.toList == t185.toList)))))) = false := by simpa using c337))
         (try (have c337b3 : ¬ (t173 = t180 && (t174 == t181 && (t175 == t182 && (t176 == t183 && (t177 == t184 && (t178.toList == t185.toList)))))) := by simpa using c337))
         clear c337
         exact absurd ((Option.some.inj H).trans hrt_.out) (by decide)
 ·replace c3 := Bool.eq_false_iff.mpr c3
  subst c3
  have H1 : ((ironbarklaw02_awake.f k).bind fun t106 => (some t106)) = some r := by rw [if_neg (show ¬ (false = true) by decide)] at H; exact H
  clear H
  have H := H1
  clear H1
  replace H := Option.bind_eq_some_iff.mp H
  obtain ⟨t106, A3570, H⟩ := H
  replace H : (some t106) = some r := H
  have A357 := Aside0.mk A3570
  clear A3570
  obtain rfl := Option.some.inj H
  go_enter Try.func6, Try.ntmps6
  go_wp2_with (first | ((with_reducible refine gate_dst (N := 1) rfl ?_); refine box_event ?hg (N := 1) ?hd (cs := #[.int .i64 a0_0, .int .i64 a0_1, .int .i64 a0_2, .int .i64 a0_3, .bool a0_4, .string a0_5]) (t := 25) ?hr ?_; (case hd => rfl); (case hg => rfl); (case hr => first | (go_simp; done) | (go_simp; rfl)); intro gb101 hg w358 hbox hb; have n0_ := Aside0.mk (below_step (by repeat (first | (with_reducible first | exact HB.out | apply below_alloc | apply pw_below_drewN | apply below_drew1) | exact HB.out)) hb); have n1_ := Aside0.mk (hbox); have n2_ := Aside0.mk ((by rw [hg]; exact (below_size (by repeat (first | (with_reducible first | exact HB.out | apply below_alloc | apply pw_below_drewN | apply below_drew1) | exact HB.out))) : w.heap.size ≤ gb101)); have n3_ := n2_; clear HB; have HB := n0_; have BK101 := n1_; have GW101 := n2_; have GE101 := n3_; clear n0_ n1_ n2_ n3_; clear hb hbox hg; have hcz359_0 : w358.cell? ⟨gb101, 0, none⟩ = some (.int .i64 a0_0) := (blk_cell BK101.out 0).trans rfl; have hcz359_1 : w358.cell? ⟨gb101, 1, none⟩ = some (.int .i64 a0_1) := (blk_cell BK101.out 1).trans rfl; have hcz359_2 : w358.cell? ⟨gb101, 2, none⟩ = some (.int .i64 a0_2) := (blk_cell BK101.out 2).trans rfl; have hcz359_3 : w358.cell? ⟨gb101, 3, none⟩ = some (.int .i64 a0_3) := (blk_cell BK101.out 3).trans rfl; have hcz359_4 : w358.cell? ⟨gb101, 4, none⟩ = some (.bool a0_4) := (blk_cell BK101.out 4).trans rfl; have hcz359_5 : w358.cell? ⟨gb101, 5, none⟩ = some (.string a0_5) := (blk_cell BK101.out 5).trans rfl; have hfz359_0 := blk_frozen BK101.out 0; have hfz359_1 := blk_frozen BK101.out 1; have hfz359_2 := blk_frozen BK101.out 2; have hfz359_3 := blk_frozen BK101.out 3; have hfz359_4 := blk_frozen BK101.out 4; have hfz359_5 := blk_frozen BK101.out 5) | ((with_reducible refine gate_dst (N := 12) rfl ?_); refine Kd.R_lit k25 _ 25 ?hg (N := 12) ?hd (xs := ([(⟨a0_0, a0_1, a0_2, a0_3, a0_4, a0_5⟩ : S25)] : List (S25))) (inner := [.int .i64 a0_0, .int .i64 a0_1, .int .i64 a0_2, .int .i64 a0_3, .bool a0_4, .string a0_5]) (ok := fun _ => True) (okp := fun _ => True) ?hr ?hp (fun _ hk => hk) trivial (Below.refl _ _) (Nat.le_refl _) (by simp) ?_; (case hd => rfl); (case hg => rfl); (case hr => first | (go_simp; done) | (go_simp; rfl)); (case hp => exact (Reps.c6 (show Kd.M k25 _ _ _ (⟨a0_0, a0_1, a0_2, a0_3, a0_4, a0_5⟩ : S25) [.int .i64 a0_0, .int .i64 a0_1, .int .i64 a0_2, .int .i64 a0_3, .bool a0_4, .string a0_5] from (k25_mkM _ _ _ (⟨a0_0, a0_1, a0_2, a0_3, a0_4, a0_5⟩ : S25) )) (Reps.none _ _))); intro v103 w360 ho361 hb hg_ hnew_; clear hg_ hnew_; (first | rw [← Ny102.out] at ho361 | (simp only [Int.reduceToNat] at ho361; rw [← Ny102.out] at ho361)); have n0_ := Aside0.mk (Kd.R_lower (Kd.R_newB ho361 (g := gb101) (o := .cells #[.int .i64 a0_0, .int .i64 a0_1, .int .i64 a0_2, .int .i64 a0_3, .bool a0_4, .string a0_5] 25 (0, 0)) (by (with_reducible repeat (first | refine blk_drewN ?_ _ | refine blk_drew ?_ | refine blk_alloc ?_ _)); exact BK101.out)) (below_size (by repeat (first | (with_reducible first | exact HB.out | apply below_alloc | apply pw_below_drewN | apply below_drew1 | refine below_set ?_ GE101.out) | exact HB.out)))); have n1_ := Aside0.mk (blk_below (g := gb101) (o := .cells #[.int .i64 a0_0, .int .i64 a0_1, .int .i64 a0_2, .int .i64 a0_3, .bool a0_4, .string a0_5] 25 (0, 0)) (by (with_reducible repeat (first | refine blk_drewN ?_ _ | refine blk_drew ?_ | refine blk_alloc ?_ _)); exact BK101.out) hb); have n2_ := Aside0.mk (below_step (by repeat (first | (with_reducible first | exact HB.out | apply below_alloc | apply pw_below_drewN | apply below_drew1 | refine below_set ?_ GE101.out) | exact HB.out)) hb); clear BK101; clear HB; have HO104 := n0_; have BK101 := n1_; have HB := n2_; clear n0_ n1_ n2_; clear hb ho361; obtain ⟨Ao362, co362, eo362⟩ := Kd.R_slice HO104.out; subst eo362) | ((with_reducible refine gate_callee (f := 16) rfl ?_); refine goesL_ (some 13) rfl rfl Try.func16 (by kernel_rfl) rfl #[.slice Ao362 y102.length co362] rfl (by (try simp only [List.map_toArray, List.map_cons, List.map_nil]); first | done | rfl | (simp only [List.length_drop, List.length_take]; rfl)) ?_; (with_reducible refine (ironbarklaw02_light.calls k _ _ y102 false _ ?side1 ?side2 A2.out).mono ?_); (case side1 => repeat (first | exact (Kd.R_reads' HO104.out).2.2 | (with_reducible refine Kd.C_alloc ?_ _) | (with_reducible refine Kd.C_drewN ?_ _) | (with_reducible refine Kd.C_drew ?_))); (case side2 => exact (Kd.R_reads' HO104.out).2.1); rintro e w' ⟨rfl, ⟨nd, rfl⟩⟩; refine ⟨_, rfl, ?_⟩) | ((with_reducible refine gate_callee (f := 8) rfl ?_); refine goesL_ (some 15) rfl rfl Try.func8 (by kernel_rfl) rfl #[] rfl (by (try simp only [List.map_toArray, List.map_cons, List.map_nil]); first | done | rfl | (simp only [List.length_drop, List.length_take]; rfl)) ?_; (with_reducible refine (ironbarklaw02_awake.calls k  t106 _ A357.out).mono ?_); rintro e w363 ⟨rfl, hb⟩; refine ⟨_, rfl, ?_⟩; have n0_ := Aside0.mk (Kd.R_below (by (with_reducible repeat (first | apply Kd.R_alloc | apply Kd.R_drewN | apply Kd.R_drew)); exact HO104.out) hb); have n1_ := Aside0.mk (blk_below (g := gb101) (o := .cells #[.int .i64 a0_0, .int .i64 a0_1, .int .i64 a0_2, .int .i64 a0_3, .bool a0_4, .string a0_5] 25 (0, 0)) (by (with_reducible repeat (first | refine blk_drewN ?_ _ | refine blk_drew ?_ | refine blk_alloc ?_ _)); exact BK101.out) hb); have n2_ := Aside0.mk (below_step (by repeat (first | (with_reducible first | exact HB.out | apply below_alloc | apply pw_below_drewN | apply below_drew1 | refine below_set ?_ GE101.out) | exact HB.out)) hb); clear HO104; clear BK101; clear HB; have HO104 := n0_; have BK101 := n1_; have HB := n2_; clear n0_ n1_ n2_; (try clear hb); (try clear hb2); (try clear hk); (try clear hi)))
  go_ret
  exact ⟨by first | rfl | (simp [errW_none, errW_some] <;> rfl) | (simp [*, errW_none, errW_some] <;> rfl), by repeat (first | (with_reducible first | exact HB.out | apply below_alloc | apply pw_below_drewN | apply below_drew1 | refine below_set ?_ GE101.out) | exact HB.out)⟩
end Go.Proofs.Ytemlbikangbomaa.P
