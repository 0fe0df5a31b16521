/-
  No cell of these rows narrows 'for every input' (looked for: loops, veiled, ifaces, maps, wideKeys, modest, calm, conditions, laid).
  DERIVED. THE GIVEN ROWS OF THIS SEAT. 4 by the template 'for every input the law returns true; each argument reads behind the call as it read before'; 0 by the template 'total and deterministic' (their statements: YtemlbikangbomaaTotals.lean).
  GIVEN WITH THE SEED: the statements are not yours to turn. If you find one false, say at which input.
  Laid BY PROGRAM, IN A SANDBOX (cutbox-rows.mjs): the forced cells as the released guide's own fill.sh prints them over the translation 4305703d3d7454c0… (all of the seat's roots in one cut). By AI agents, Wed Nov 11 2026. No macro, syntax, notation, axiom, sorry.
-/
import Derived.Test.YtemlbikangbomaaChecked
import GoSem.Claim
import GoSem.ClaimJoined
import GoSem.ClaimMapViews
import Derived.JoinedTies
import Derived.KernelRfl
namespace Go.Proofs.Ytemlbikangbomaa
/- THE CELL 'sum', in the pinned program and in every row, IS THE sha256 OF THE DUMP (.gsa) THAT YtemlbikangbomaaProg.lean LOADS. Nothing in Lean hashes anything: it is a label: what it is worth is what the hold of that sum in a sandbox is worth. -/
noncomputable def Try.pinned : Pinned := { name := "ytemlbikangbomaa", sum := "4305703d3d7454c060cdcc6baba63a9c12bef87cc5ab2832f671c1421c651106", checked := Try.checked }
namespace Rows
def none {H : Type} : Left H := { results := [], args := [] }

/-- 'ironbarklaw02.RuleRoom': WHATEVER THE INPUT: true; the input reads as it did. -/
def ruleRoomSpec : ChangeSpec := { name := "ruleRoom", fn := fun _ => fun
  | [d1, d2, d3, d4] => { results := [.lit (.bool true)], args := [d1, d2, d3, d4] }
  | _ => none }
def ruleRoomRow : OpenClaim := { program := "ytemlbikangbomaa", sum := "4305703d3d7454c060cdcc6baba63a9c12bef87cc5ab2832f671c1421c651106", func := "ironbark/ironbarklaw02.RuleRoom", spec := "ruleRoom", unfollowed := true, recurses := true, apart := false }
def RuleRoomSaid : Prop := ruleRoomRow.holds Try.pinned (OpenSpec.ofChange ruleRoomSpec)

/-- ITS FALSE NEIGHBOUR: 'it returns false'. Refute it at one input. -/
def ruleRoomWrong : ChangeSpec := { name := "ruleRoom", fn := fun _ => fun
  | [d1, d2, d3, d4] => { results := [.lit (.bool false)], args := [d1, d2, d3, d4] }
  | _ => none }
def RuleRoomWrongFalsely : Prop := ruleRoomRow.holds Try.pinned (OpenSpec.ofChange ruleRoomWrong)

/-- 'ironbarklaw02.RuleResult': WHATEVER THE INPUT: true; the input reads as it did. -/
def ruleResultSpec : ChangeSpec := { name := "ruleResult", fn := fun _ => fun
  | [d1, d2, d3] => { results := [.lit (.bool true)], args := [d1, d2, d3] }
  | _ => none }
def ruleResultRow : OpenClaim := { program := "ytemlbikangbomaa", sum := "4305703d3d7454c060cdcc6baba63a9c12bef87cc5ab2832f671c1421c651106", func := "ironbark/ironbarklaw02.RuleResult", spec := "ruleResult", unfollowed := true, recurses := true, apart := false }
def RuleResultSaid : Prop := ruleResultRow.holds Try.pinned (OpenSpec.ofChange ruleResultSpec)

/-- ITS FALSE NEIGHBOUR: 'it returns false'. Refute it at one input. -/
def ruleResultWrong : ChangeSpec := { name := "ruleResult", fn := fun _ => fun
  | [d1, d2, d3] => { results := [.lit (.bool false)], args := [d1, d2, d3] }
  | _ => none }
def RuleResultWrongFalsely : Prop := ruleResultRow.holds Try.pinned (OpenSpec.ofChange ruleResultWrong)

/-- 'ironbarklaw02.RuleCommon': WHATEVER THE INPUT: true; the input reads as it did. -/
def ruleCommonSpec : ChangeSpec := { name := "ruleCommon", fn := fun _ => fun
  | [d] => { results := [.lit (.bool true)], args := [d] }
  | _ => none }
def ruleCommonRow : OpenClaim := { program := "ytemlbikangbomaa", sum := "4305703d3d7454c060cdcc6baba63a9c12bef87cc5ab2832f671c1421c651106", func := "ironbark/ironbarklaw02.RuleCommon", spec := "ruleCommon", unfollowed := true, recurses := true, apart := false }
def RuleCommonSaid : Prop := ruleCommonRow.holds Try.pinned (OpenSpec.ofChange ruleCommonSpec)

/-- ITS FALSE NEIGHBOUR: 'it returns false'. Refute it at one input. -/
def ruleCommonWrong : ChangeSpec := { name := "ruleCommon", fn := fun _ => fun
  | [d] => { results := [.lit (.bool false)], args := [d] }
  | _ => none }
def RuleCommonWrongFalsely : Prop := ruleCommonRow.holds Try.pinned (OpenSpec.ofChange ruleCommonWrong)

/-- 'ironbarklaw02.RuleTurns': WHATEVER THE INPUT: true; the input reads as it did. -/
def ruleTurnsSpec : ChangeSpec := { name := "ruleTurns", fn := fun _ => fun
  | [d] => { results := [.lit (.bool true)], args := [d] }
  | _ => none }
def ruleTurnsRow : OpenClaim := { program := "ytemlbikangbomaa", sum := "4305703d3d7454c060cdcc6baba63a9c12bef87cc5ab2832f671c1421c651106", func := "ironbark/ironbarklaw02.RuleTurns", spec := "ruleTurns", unfollowed := true, recurses := true, apart := false }
def RuleTurnsSaid : Prop := ruleTurnsRow.holds Try.pinned (OpenSpec.ofChange ruleTurnsSpec)

/-- ITS FALSE NEIGHBOUR: 'it returns false'. Refute it at one input. -/
def ruleTurnsWrong : ChangeSpec := { name := "ruleTurns", fn := fun _ => fun
  | [d] => { results := [.lit (.bool false)], args := [d] }
  | _ => none }
def RuleTurnsWrongFalsely : Prop := ruleTurnsRow.holds Try.pinned (OpenSpec.ofChange ruleTurnsWrong)

/- THE SECOND FORM. 'bulk': how many values and letters a reading holds, each counted each time it is reached (what is shared counts as often as it is met; a slice's spare places count too). A statement '..UptoSaid' is the law's where the arguments, and the package variables that the reading takes, are together of bulk at most 1048576: NARROWER than '..Said'. Prove '..Said' where nothing that the law and all that it calls make is longer than what came in: it says more and counts as full. Else prove '..UptoSaid'. A law counts once. -/
mutual
def uptoBulk {H : Type} : DataW H → Nat
  | .lit (.string bytes) => bytes.length + 1
  | .lit _ => 1
  | .nil => 1
  | .ptr d => uptoBulk d + 1
  | .slice elems spare => uptoBulkAll elems + uptoBulkAll spare + 1
  | .agg parts => uptoBulkAll parts + 1
  | .iface _ d => uptoBulk d + 1
  | .map entries => uptoBulkEntries entries + 1
  | .held _ => 1
def uptoBulkAll {H : Type} : List (DataW H) → Nat
  | [] => 0
  | d :: r => uptoBulk d + uptoBulkAll r
def uptoBulkEntries {H : Type} : List (Lit × DataW H) → Nat
  | [] => 0
  | x :: r => uptoBulkEntry x + uptoBulkEntries r
def uptoBulkEntry {H : Type} : Lit × DataW H → Nat
  | (.string bytes, d) => bytes.length + uptoBulk d + 1
  | (_, d) => uptoBulk d + 1
 end
def uptoSmall : (H : Type) → List (DataW H) → Bool := fun _ ds => decide (uptoBulkAll ds ≤ 1048576)
def OpenSpec.upto (s : _root_.Go.ChangeSpec) : _root_.Go.OpenSpec := { _root_.Go.OpenSpec.ofChange s with cond := some uptoSmall }

/-- 'ironbarklaw02.RuleRoom', WHERE WHAT IT READS IS OF BULK AT MOST 1048576: true; the input reads as it did. -/
def ruleRoomUptoRow : OpenClaim := { program := "ytemlbikangbomaa", sum := "4305703d3d7454c060cdcc6baba63a9c12bef87cc5ab2832f671c1421c651106", func := "ironbark/ironbarklaw02.RuleRoom", spec := "ruleRoom", unfollowed := true, recurses := true, apart := false, narrowed := true }
def RuleRoomUptoSaid : Prop := ruleRoomUptoRow.holds Try.pinned (OpenSpec.upto ruleRoomSpec)

/-- 'ironbarklaw02.RuleResult', WHERE WHAT IT READS IS OF BULK AT MOST 1048576: true; the input reads as it did. -/
def ruleResultUptoRow : OpenClaim := { program := "ytemlbikangbomaa", sum := "4305703d3d7454c060cdcc6baba63a9c12bef87cc5ab2832f671c1421c651106", func := "ironbark/ironbarklaw02.RuleResult", spec := "ruleResult", unfollowed := true, recurses := true, apart := false, narrowed := true }
def RuleResultUptoSaid : Prop := ruleResultUptoRow.holds Try.pinned (OpenSpec.upto ruleResultSpec)

/-- 'ironbarklaw02.RuleCommon', WHERE WHAT IT READS IS OF BULK AT MOST 1048576: true; the input reads as it did. -/
def ruleCommonUptoRow : OpenClaim := { program := "ytemlbikangbomaa", sum := "4305703d3d7454c060cdcc6baba63a9c12bef87cc5ab2832f671c1421c651106", func := "ironbark/ironbarklaw02.RuleCommon", spec := "ruleCommon", unfollowed := true, recurses := true, apart := false, narrowed := true }
def RuleCommonUptoSaid : Prop := ruleCommonUptoRow.holds Try.pinned (OpenSpec.upto ruleCommonSpec)

/-- 'ironbarklaw02.RuleTurns', WHERE WHAT IT READS IS OF BULK AT MOST 1048576: true; the input reads as it did. -/
def ruleTurnsUptoRow : OpenClaim := { program := "ytemlbikangbomaa", sum := "4305703d3d7454c060cdcc6baba63a9c12bef87cc5ab2832f671c1421c651106", func := "ironbark/ironbarklaw02.RuleTurns", spec := "ruleTurns", unfollowed := true, recurses := true, apart := false, narrowed := true }
def RuleTurnsUptoSaid : Prop := ruleTurnsUptoRow.holds Try.pinned (OpenSpec.upto ruleTurnsSpec)

end Rows
end Go.Proofs.Ytemlbikangbomaa
