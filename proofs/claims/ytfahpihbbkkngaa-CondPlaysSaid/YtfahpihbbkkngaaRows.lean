/-
  No cell of these rows narrows 'for every input' (looked for: loops, veiled, ifaces, maps, wideKeys, modest, calm, conditions, laid).
  DERIVED. THE GIVEN ROWS OF THIS SEAT. 7 by the template 'for every input the law returns true; each argument reads behind the call as it read before'; 0 by the template 'total and deterministic' (their statements: YtfahpihbbkkngaaTotals.lean).
  GIVEN WITH THE SEED: the statements are not yours to turn. If you find one false, say at which input.
  Laid BY PROGRAM, IN A SANDBOX (cutbox-rows.mjs): the forced cells as the released guide's own fill.sh prints them over the translation fd849f911fe76b7e… (all of the seat's roots in one cut). By AI agents, Wed Nov 11 2026. No macro, syntax, notation, axiom, sorry.
-/
import Derived.Test.YtfahpihbbkkngaaChecked
import GoSem.Claim
import GoSem.ClaimJoined
import GoSem.ClaimMapViews
import Derived.JoinedTies
import Derived.KernelRfl
namespace Go.Proofs.Ytfahpihbbkkngaa
/- THE CELL 'sum', in the pinned program and in every row, IS THE sha256 OF THE DUMP (.gsa) THAT YtfahpihbbkkngaaProg.lean LOADS. Nothing in Lean hashes anything: it is a label: what it is worth is what the hold of that sum in a sandbox is worth. -/
noncomputable def Try.pinned : Pinned := { name := "ytfahpihbbkkngaa", sum := "fd849f911fe76b7edaea37ddc0ca38f613d16e81ce1757fb68a8b70f6978b950", checked := Try.checked }
namespace Rows
def none {H : Type} : Left H := { results := [], args := [] }

/-- 'ironbarklaw20.CondBelow': WHATEVER THE INPUT: true; the input reads as it did. -/
def condBelowSpec : ChangeSpec := { name := "condBelow", fn := fun _ => fun
  | [d1, d2] => { results := [.lit (.bool true)], args := [d1, d2] }
  | _ => none }
def condBelowRow : OpenClaim := { program := "ytfahpihbbkkngaa", sum := "fd849f911fe76b7edaea37ddc0ca38f613d16e81ce1757fb68a8b70f6978b950", func := "ironbark/ironbarklaw20.CondBelow", spec := "condBelow", unfollowed := true, recurses := true, apart := false }
def CondBelowSaid : Prop := condBelowRow.holds Try.pinned (OpenSpec.ofChange condBelowSpec)

/-- ITS FALSE NEIGHBOUR: 'it returns false'. Refute it at one input. -/
def condBelowWrong : ChangeSpec := { name := "condBelow", fn := fun _ => fun
  | [d1, d2] => { results := [.lit (.bool false)], args := [d1, d2] }
  | _ => none }
def CondBelowWrongFalsely : Prop := condBelowRow.holds Try.pinned (OpenSpec.ofChange condBelowWrong)

/-- 'ironbarklaw20.CondActs': WHATEVER THE INPUT: true; the input reads as it did. -/
def condActsSpec : ChangeSpec := { name := "condActs", fn := fun _ => fun
  | [d1, d2, d3, d4] => { results := [.lit (.bool true)], args := [d1, d2, d3, d4] }
  | _ => none }
def condActsRow : OpenClaim := { program := "ytfahpihbbkkngaa", sum := "fd849f911fe76b7edaea37ddc0ca38f613d16e81ce1757fb68a8b70f6978b950", func := "ironbark/ironbarklaw20.CondActs", spec := "condActs", unfollowed := true, recurses := true, apart := false }
def CondActsSaid : Prop := condActsRow.holds Try.pinned (OpenSpec.ofChange condActsSpec)

/-- ITS FALSE NEIGHBOUR: 'it returns false'. Refute it at one input. -/
def condActsWrong : ChangeSpec := { name := "condActs", fn := fun _ => fun
  | [d1, d2, d3, d4] => { results := [.lit (.bool false)], args := [d1, d2, d3, d4] }
  | _ => none }
def CondActsWrongFalsely : Prop := condActsRow.holds Try.pinned (OpenSpec.ofChange condActsWrong)

/-- 'ironbarklaw20.CondInfo': WHATEVER THE INPUT: true; the input reads as it did. -/
def condInfoSpec : ChangeSpec := { name := "condInfo", fn := fun _ => fun
  | [d1, d2] => { results := [.lit (.bool true)], args := [d1, d2] }
  | _ => none }
def condInfoRow : OpenClaim := { program := "ytfahpihbbkkngaa", sum := "fd849f911fe76b7edaea37ddc0ca38f613d16e81ce1757fb68a8b70f6978b950", func := "ironbark/ironbarklaw20.CondInfo", spec := "condInfo", unfollowed := true, recurses := true, apart := false }
def CondInfoSaid : Prop := condInfoRow.holds Try.pinned (OpenSpec.ofChange condInfoSpec)

/-- ITS FALSE NEIGHBOUR: 'it returns false'. Refute it at one input. -/
def condInfoWrong : ChangeSpec := { name := "condInfo", fn := fun _ => fun
  | [d1, d2] => { results := [.lit (.bool false)], args := [d1, d2] }
  | _ => none }
def CondInfoWrongFalsely : Prop := condInfoRow.holds Try.pinned (OpenSpec.ofChange condInfoWrong)

/-- 'ironbarklaw20.CondApplies': WHATEVER THE INPUT: true; the input reads as it did. -/
def condAppliesSpec : ChangeSpec := { name := "condApplies", fn := fun _ => fun
  | [d1, d2, d3] => { results := [.lit (.bool true)], args := [d1, d2, d3] }
  | _ => none }
def condAppliesRow : OpenClaim := { program := "ytfahpihbbkkngaa", sum := "fd849f911fe76b7edaea37ddc0ca38f613d16e81ce1757fb68a8b70f6978b950", func := "ironbark/ironbarklaw20.CondApplies", spec := "condApplies", unfollowed := true, recurses := true, apart := false }
def CondAppliesSaid : Prop := condAppliesRow.holds Try.pinned (OpenSpec.ofChange condAppliesSpec)

/-- ITS FALSE NEIGHBOUR: 'it returns false'. Refute it at one input. -/
def condAppliesWrong : ChangeSpec := { name := "condApplies", fn := fun _ => fun
  | [d1, d2, d3] => { results := [.lit (.bool false)], args := [d1, d2, d3] }
  | _ => none }
def CondAppliesWrongFalsely : Prop := condAppliesRow.holds Try.pinned (OpenSpec.ofChange condAppliesWrong)

/-- 'ironbarklaw20.CondPopped': WHATEVER THE INPUT: true; the input reads as it did. -/
def condPoppedSpec : ChangeSpec := { name := "condPopped", fn := fun _ => fun
  | [d1, d2] => { results := [.lit (.bool true)], args := [d1, d2] }
  | _ => none }
def condPoppedRow : OpenClaim := { program := "ytfahpihbbkkngaa", sum := "fd849f911fe76b7edaea37ddc0ca38f613d16e81ce1757fb68a8b70f6978b950", func := "ironbark/ironbarklaw20.CondPopped", spec := "condPopped", unfollowed := true, recurses := true, apart := false }
def CondPoppedSaid : Prop := condPoppedRow.holds Try.pinned (OpenSpec.ofChange condPoppedSpec)

/-- ITS FALSE NEIGHBOUR: 'it returns false'. Refute it at one input. -/
def condPoppedWrong : ChangeSpec := { name := "condPopped", fn := fun _ => fun
  | [d1, d2] => { results := [.lit (.bool false)], args := [d1, d2] }
  | _ => none }
def CondPoppedWrongFalsely : Prop := condPoppedRow.holds Try.pinned (OpenSpec.ofChange condPoppedWrong)

/-- 'ironbarklaw20.CondPlays': WHATEVER THE INPUT: true; the input reads as it did. -/
def condPlaysSpec : ChangeSpec := { name := "condPlays", fn := fun _ => fun
  | [d] => { results := [.lit (.bool true)], args := [d] }
  | _ => none }
def condPlaysRow : OpenClaim := { program := "ytfahpihbbkkngaa", sum := "fd849f911fe76b7edaea37ddc0ca38f613d16e81ce1757fb68a8b70f6978b950", func := "ironbark/ironbarklaw20.CondPlays", spec := "condPlays", unfollowed := true, recurses := true, apart := false }
def CondPlaysSaid : Prop := condPlaysRow.holds Try.pinned (OpenSpec.ofChange condPlaysSpec)

/-- ITS FALSE NEIGHBOUR: 'it returns false'. Refute it at one input. -/
def condPlaysWrong : ChangeSpec := { name := "condPlays", fn := fun _ => fun
  | [d] => { results := [.lit (.bool false)], args := [d] }
  | _ => none }
def CondPlaysWrongFalsely : Prop := condPlaysRow.holds Try.pinned (OpenSpec.ofChange condPlaysWrong)

/-- 'ironbarklaw20.CondNothing': WHATEVER THE INPUT: true; the input reads as it did. -/
def condNothingSpec : ChangeSpec := { name := "condNothing", fn := fun _ => fun
  | [d1, d2] => { results := [.lit (.bool true)], args := [d1, d2] }
  | _ => none }
def condNothingRow : OpenClaim := { program := "ytfahpihbbkkngaa", sum := "fd849f911fe76b7edaea37ddc0ca38f613d16e81ce1757fb68a8b70f6978b950", func := "ironbark/ironbarklaw20.CondNothing", spec := "condNothing", unfollowed := true, recurses := true, apart := false }
def CondNothingSaid : Prop := condNothingRow.holds Try.pinned (OpenSpec.ofChange condNothingSpec)

/-- ITS FALSE NEIGHBOUR: 'it returns false'. Refute it at one input. -/
def condNothingWrong : ChangeSpec := { name := "condNothing", fn := fun _ => fun
  | [d1, d2] => { results := [.lit (.bool false)], args := [d1, d2] }
  | _ => none }
def CondNothingWrongFalsely : Prop := condNothingRow.holds Try.pinned (OpenSpec.ofChange condNothingWrong)

/- THE SECOND FORM. 'bulk': how many values and letters a reading holds, each counted each time it is reached (what is shared counts as often as it is met; a slice's spare places count too). A statement '..UptoSaid' is the law's where the arguments, and the package variables that the reading takes, are together of bulk at most 1048576: NARROWER than '..Said'. Prove '..Said' where nothing that the law and all that it calls make is longer than what came in: it says more and counts as full. Else prove '..UptoSaid'. A law counts once. -/
mutual
def uptoBulk {H : Type} : DataW H → Nat
  | .lit (.string bytes) => bytes.length + 1
  | .lit _ => 1
  | .nil => 1
  | .ptr d => uptoBulk d + 1
  | .slice elems spare => uptoBulkAll elems + uptoBulkAll spare + 1
  | .agg parts => uptoBulkAll parts + 1
  | .iface _ d => uptoBulk d + 1
  | .map entries => uptoBulkEntries entries + 1
  | .held _ => 1
def uptoBulkAll {H : Type} : List (DataW H) → Nat
  | [] => 0
  | d :: r => uptoBulk d + uptoBulkAll r
def uptoBulkEntries {H : Type} : List (Lit × DataW H) → Nat
  | [] => 0
  | x :: r => uptoBulkEntry x + uptoBulkEntries r
def uptoBulkEntry {H : Type} : Lit × DataW H → Nat
  | (.string bytes, d) => bytes.length + uptoBulk d + 1
  | (_, d) => uptoBulk d + 1
 end
def uptoSmall : (H : Type) → List (DataW H) → Bool := fun _ ds => decide (uptoBulkAll ds ≤ 1048576)
def OpenSpec.upto (s : _root_.Go.ChangeSpec) : _root_.Go.OpenSpec := { _root_.Go.OpenSpec.ofChange s with cond := some uptoSmall }

/-- 'ironbarklaw20.CondBelow', WHERE WHAT IT READS IS OF BULK AT MOST 1048576: true; the input reads as it did. -/
def condBelowUptoRow : OpenClaim := { program := "ytfahpihbbkkngaa", sum := "fd849f911fe76b7edaea37ddc0ca38f613d16e81ce1757fb68a8b70f6978b950", func := "ironbark/ironbarklaw20.CondBelow", spec := "condBelow", unfollowed := true, recurses := true, apart := false, narrowed := true }
def CondBelowUptoSaid : Prop := condBelowUptoRow.holds Try.pinned (OpenSpec.upto condBelowSpec)

/-- 'ironbarklaw20.CondActs', WHERE WHAT IT READS IS OF BULK AT MOST 1048576: true; the input reads as it did. -/
def condActsUptoRow : OpenClaim := { program := "ytfahpihbbkkngaa", sum := "fd849f911fe76b7edaea37ddc0ca38f613d16e81ce1757fb68a8b70f6978b950", func := "ironbark/ironbarklaw20.CondActs", spec := "condActs", unfollowed := true, recurses := true, apart := false, narrowed := true }
def CondActsUptoSaid : Prop := condActsUptoRow.holds Try.pinned (OpenSpec.upto condActsSpec)

/-- 'ironbarklaw20.CondInfo', WHERE WHAT IT READS IS OF BULK AT MOST 1048576: true; the input reads as it did. -/
def condInfoUptoRow : OpenClaim := { program := "ytfahpihbbkkngaa", sum := "fd849f911fe76b7edaea37ddc0ca38f613d16e81ce1757fb68a8b70f6978b950", func := "ironbark/ironbarklaw20.CondInfo", spec := "condInfo", unfollowed := true, recurses := true, apart := false, narrowed := true }
def CondInfoUptoSaid : Prop := condInfoUptoRow.holds Try.pinned (OpenSpec.upto condInfoSpec)

/-- 'ironbarklaw20.CondApplies', WHERE WHAT IT READS IS OF BULK AT MOST 1048576: true; the input reads as it did. -/
def condAppliesUptoRow : OpenClaim := { program := "ytfahpihbbkkngaa", sum := "fd849f911fe76b7edaea37ddc0ca38f613d16e81ce1757fb68a8b70f6978b950", func := "ironbark/ironbarklaw20.CondApplies", spec := "condApplies", unfollowed := true, recurses := true, apart := false, narrowed := true }
def CondAppliesUptoSaid : Prop := condAppliesUptoRow.holds Try.pinned (OpenSpec.upto condAppliesSpec)

/-- 'ironbarklaw20.CondPopped', WHERE WHAT IT READS IS OF BULK AT MOST 1048576: true; the input reads as it did. -/
def condPoppedUptoRow : OpenClaim := { program := "ytfahpihbbkkngaa", sum := "fd849f911fe76b7edaea37ddc0ca38f613d16e81ce1757fb68a8b70f6978b950", func := "ironbark/ironbarklaw20.CondPopped", spec := "condPopped", unfollowed := true, recurses := true, apart := false, narrowed := true }
def CondPoppedUptoSaid : Prop := condPoppedUptoRow.holds Try.pinned (OpenSpec.upto condPoppedSpec)

/-- 'ironbarklaw20.CondPlays', WHERE WHAT IT READS IS OF BULK AT MOST 1048576: true; the input reads as it did. -/
def condPlaysUptoRow : OpenClaim := { program := "ytfahpihbbkkngaa", sum := "fd849f911fe76b7edaea37ddc0ca38f613d16e81ce1757fb68a8b70f6978b950", func := "ironbark/ironbarklaw20.CondPlays", spec := "condPlays", unfollowed := true, recurses := true, apart := false, narrowed := true }
def CondPlaysUptoSaid : Prop := condPlaysUptoRow.holds Try.pinned (OpenSpec.upto condPlaysSpec)

/-- 'ironbarklaw20.CondNothing', WHERE WHAT IT READS IS OF BULK AT MOST 1048576: true; the input reads as it did. -/
def condNothingUptoRow : OpenClaim := { program := "ytfahpihbbkkngaa", sum := "fd849f911fe76b7edaea37ddc0ca38f613d16e81ce1757fb68a8b70f6978b950", func := "ironbark/ironbarklaw20.CondNothing", spec := "condNothing", unfollowed := true, recurses := true, apart := false, narrowed := true }
def CondNothingUptoSaid : Prop := condNothingUptoRow.holds Try.pinned (OpenSpec.upto condNothingSpec)

end Rows
end Go.Proofs.Ytfahpihbbkkngaa
