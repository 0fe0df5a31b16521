/-
  No cell of these rows narrows 'for every input' (looked for: loops, veiled, ifaces, maps, wideKeys, modest, calm, conditions, laid).
  DERIVED. THE GIVEN ROWS OF THIS SEAT. 5 by the template 'for every input the law returns true; each argument reads behind the call as it read before'; 0 by the template 'total and deterministic' (their statements: YtnelblndidciiaaTotals.lean).
  GIVEN WITH THE SEED: the statements are not yours to turn. If you find one false, say at which input.
  Laid BY PROGRAM, IN A SANDBOX (cutbox-rows.mjs): the forced cells as the released guide's own fill.sh prints them over the translation 3c5686beb3304242… (all of the seat's roots in one cut). By AI agents, Wed Nov 11 2026. No macro, syntax, notation, axiom, sorry.
-/
import Derived.Test.YtnelblndidciiaaChecked
import GoSem.Claim
import GoSem.ClaimJoined
import GoSem.ClaimMapViews
import Derived.JoinedTies
import Derived.KernelRfl
namespace Go.Proofs.Ytnelblndidciiaa
/- THE CELL 'sum', in the pinned program and in every row, IS THE sha256 OF THE DUMP (.gsa) THAT YtnelblndidciiaaProg.lean LOADS. Nothing in Lean hashes anything: it is a label: what it is worth is what the hold of that sum in a sandbox is worth. -/
noncomputable def Try.pinned : Pinned := { name := "ytnelblndidciiaa", sum := "3c5686beb330424278ca106b482a42e9d6dbd8de9b1c80281942f2246589decd", checked := Try.checked }
namespace Rows
def none {H : Type} : Left H := { results := [], args := [] }

/-- 'ironbarklaw05.BitsOrders': WHATEVER THE INPUT: true; the input reads as it did. -/
def bitsOrdersSpec : ChangeSpec := { name := "bitsOrders", fn := fun _ => fun
  | [d1, d2, d3] => { results := [.lit (.bool true)], args := [d1, d2, d3] }
  | _ => none }
def bitsOrdersRow : OpenClaim := { program := "ytnelblndidciiaa", sum := "3c5686beb330424278ca106b482a42e9d6dbd8de9b1c80281942f2246589decd", func := "ironbark/ironbarklaw05.BitsOrders", spec := "bitsOrders", unfollowed := true, recurses := true, apart := false }
def BitsOrdersSaid : Prop := bitsOrdersRow.holds Try.pinned (OpenSpec.ofChange bitsOrdersSpec)

/-- ITS FALSE NEIGHBOUR: 'it returns false'. Refute it at one input. -/
def bitsOrdersWrong : ChangeSpec := { name := "bitsOrders", fn := fun _ => fun
  | [d1, d2, d3] => { results := [.lit (.bool false)], args := [d1, d2, d3] }
  | _ => none }
def BitsOrdersWrongFalsely : Prop := bitsOrdersRow.holds Try.pinned (OpenSpec.ofChange bitsOrdersWrong)

/-- 'ironbarklaw05.BitsFinds': WHATEVER THE INPUT: true; the input reads as it did. -/
def bitsFindsSpec : ChangeSpec := { name := "bitsFinds", fn := fun _ => fun
  | [d1, d2] => { results := [.lit (.bool true)], args := [d1, d2] }
  | _ => none }
def bitsFindsRow : OpenClaim := { program := "ytnelblndidciiaa", sum := "3c5686beb330424278ca106b482a42e9d6dbd8de9b1c80281942f2246589decd", func := "ironbark/ironbarklaw05.BitsFinds", spec := "bitsFinds", inPlace := ["internal/bytealg.IndexByteString"], unfollowed := true, recurses := true, apart := false }
def BitsFindsSaid : Prop := bitsFindsRow.holds Try.pinned (OpenSpec.ofChange bitsFindsSpec)

/-- ITS FALSE NEIGHBOUR: 'it returns false'. Refute it at one input. -/
def bitsFindsWrong : ChangeSpec := { name := "bitsFinds", fn := fun _ => fun
  | [d1, d2] => { results := [.lit (.bool false)], args := [d1, d2] }
  | _ => none }
def BitsFindsWrongFalsely : Prop := bitsFindsRow.holds Try.pinned (OpenSpec.ofChange bitsFindsWrong)

/-- 'ironbarklaw05.BitsBools': WHATEVER THE INPUT: true; the input reads as it did. -/
def bitsBoolsSpec : ChangeSpec := { name := "bitsBools", fn := fun _ => fun
  | [d1, d2, d3] => { results := [.lit (.bool true)], args := [d1, d2, d3] }
  | _ => none }
def bitsBoolsRow : OpenClaim := { program := "ytnelblndidciiaa", sum := "3c5686beb330424278ca106b482a42e9d6dbd8de9b1c80281942f2246589decd", func := "ironbark/ironbarklaw05.BitsBools", spec := "bitsBools", unfollowed := true, recurses := true, apart := false }
def BitsBoolsSaid : Prop := bitsBoolsRow.holds Try.pinned (OpenSpec.ofChange bitsBoolsSpec)

/-- ITS FALSE NEIGHBOUR: 'it returns false'. Refute it at one input. -/
def bitsBoolsWrong : ChangeSpec := { name := "bitsBools", fn := fun _ => fun
  | [d1, d2, d3] => { results := [.lit (.bool false)], args := [d1, d2, d3] }
  | _ => none }
def BitsBoolsWrongFalsely : Prop := bitsBoolsRow.holds Try.pinned (OpenSpec.ofChange bitsBoolsWrong)

/-- 'ironbarklaw05.BitsParts': WHATEVER THE INPUT: true; the input reads as it did. -/
def bitsPartsSpec : ChangeSpec := { name := "bitsParts", fn := fun _ => fun
  | [d1, d2, d3, d4] => { results := [.lit (.bool true)], args := [d1, d2, d3, d4] }
  | _ => none }
def bitsPartsRow : OpenClaim := { program := "ytnelblndidciiaa", sum := "3c5686beb330424278ca106b482a42e9d6dbd8de9b1c80281942f2246589decd", func := "ironbark/ironbarklaw05.BitsParts", spec := "bitsParts", inPlace := ["internal/abi.NoEscape", "internal/bytealg.MakeNoZero"], unfollowed := true, recurses := true, apart := false }
def BitsPartsSaid : Prop := bitsPartsRow.holds Try.pinned (OpenSpec.ofChange bitsPartsSpec)

/-- ITS FALSE NEIGHBOUR: 'it returns false'. Refute it at one input. -/
def bitsPartsWrong : ChangeSpec := { name := "bitsParts", fn := fun _ => fun
  | [d1, d2, d3, d4] => { results := [.lit (.bool false)], args := [d1, d2, d3, d4] }
  | _ => none }
def BitsPartsWrongFalsely : Prop := bitsPartsRow.holds Try.pinned (OpenSpec.ofChange bitsPartsWrong)

/-- 'ironbarklaw05.BitsMakes': WHATEVER THE INPUT: true; the input reads as it did. -/
def bitsMakesSpec : ChangeSpec := { name := "bitsMakes", fn := fun _ => fun
  | [d1, d2, d3, d4] => { results := [.lit (.bool true)], args := [d1, d2, d3, d4] }
  | _ => none }
def bitsMakesRow : OpenClaim := { program := "ytnelblndidciiaa", sum := "3c5686beb330424278ca106b482a42e9d6dbd8de9b1c80281942f2246589decd", func := "ironbark/ironbarklaw05.BitsMakes", spec := "bitsMakes", inPlace := ["internal/bytealg.IndexByteString", "internal/abi.NoEscape", "internal/bytealg.MakeNoZero"], unfollowed := true, recurses := true, apart := false }
def BitsMakesSaid : Prop := bitsMakesRow.holds Try.pinned (OpenSpec.ofChange bitsMakesSpec)

/-- ITS FALSE NEIGHBOUR: 'it returns false'. Refute it at one input. -/
def bitsMakesWrong : ChangeSpec := { name := "bitsMakes", fn := fun _ => fun
  | [d1, d2, d3, d4] => { results := [.lit (.bool false)], args := [d1, d2, d3, d4] }
  | _ => none }
def BitsMakesWrongFalsely : Prop := bitsMakesRow.holds Try.pinned (OpenSpec.ofChange bitsMakesWrong)

/- THE SECOND FORM. 'bulk': how many values and letters a reading holds, each counted each time it is reached (what is shared counts as often as it is met; a slice's spare places count too). A statement '..UptoSaid' is the law's where the arguments, and the package variables that the reading takes, are together of bulk at most 1048576: NARROWER than '..Said'. Prove '..Said' where nothing that the law and all that it calls make is longer than what came in: it says more and counts as full. Else prove '..UptoSaid'. A law counts once. -/
mutual
def uptoBulk {H : Type} : DataW H → Nat
  | .lit (.string bytes) => bytes.length + 1
  | .lit _ => 1
  | .nil => 1
  | .ptr d => uptoBulk d + 1
  | .slice elems spare => uptoBulkAll elems + uptoBulkAll spare + 1
  | .agg parts => uptoBulkAll parts + 1
  | .iface _ d => uptoBulk d + 1
  | .map entries => uptoBulkEntries entries + 1
  | .held _ => 1
def uptoBulkAll {H : Type} : List (DataW H) → Nat
  | [] => 0
  | d :: r => uptoBulk d + uptoBulkAll r
def uptoBulkEntries {H : Type} : List (Lit × DataW H) → Nat
  | [] => 0
  | x :: r => uptoBulkEntry x + uptoBulkEntries r
def uptoBulkEntry {H : Type} : Lit × DataW H → Nat
  | (.string bytes, d) => bytes.length + uptoBulk d + 1
  | (_, d) => uptoBulk d + 1
 end
def uptoSmall : (H : Type) → List (DataW H) → Bool := fun _ ds => decide (uptoBulkAll ds ≤ 1048576)
def OpenSpec.upto (s : _root_.Go.ChangeSpec) : _root_.Go.OpenSpec := { _root_.Go.OpenSpec.ofChange s with cond := some uptoSmall }

/-- 'ironbarklaw05.BitsOrders', WHERE WHAT IT READS IS OF BULK AT MOST 1048576: true; the input reads as it did. -/
def bitsOrdersUptoRow : OpenClaim := { program := "ytnelblndidciiaa", sum := "3c5686beb330424278ca106b482a42e9d6dbd8de9b1c80281942f2246589decd", func := "ironbark/ironbarklaw05.BitsOrders", spec := "bitsOrders", unfollowed := true, recurses := true, apart := false, narrowed := true }
def BitsOrdersUptoSaid : Prop := bitsOrdersUptoRow.holds Try.pinned (OpenSpec.upto bitsOrdersSpec)

/-- 'ironbarklaw05.BitsFinds', WHERE WHAT IT READS IS OF BULK AT MOST 1048576: true; the input reads as it did. -/
def bitsFindsUptoRow : OpenClaim := { program := "ytnelblndidciiaa", sum := "3c5686beb330424278ca106b482a42e9d6dbd8de9b1c80281942f2246589decd", func := "ironbark/ironbarklaw05.BitsFinds", spec := "bitsFinds", inPlace := ["internal/bytealg.IndexByteString"], unfollowed := true, recurses := true, apart := false, narrowed := true }
def BitsFindsUptoSaid : Prop := bitsFindsUptoRow.holds Try.pinned (OpenSpec.upto bitsFindsSpec)

/-- 'ironbarklaw05.BitsBools', WHERE WHAT IT READS IS OF BULK AT MOST 1048576: true; the input reads as it did. -/
def bitsBoolsUptoRow : OpenClaim := { program := "ytnelblndidciiaa", sum := "3c5686beb330424278ca106b482a42e9d6dbd8de9b1c80281942f2246589decd", func := "ironbark/ironbarklaw05.BitsBools", spec := "bitsBools", unfollowed := true, recurses := true, apart := false, narrowed := true }
def BitsBoolsUptoSaid : Prop := bitsBoolsUptoRow.holds Try.pinned (OpenSpec.upto bitsBoolsSpec)

/-- 'ironbarklaw05.BitsParts', WHERE WHAT IT READS IS OF BULK AT MOST 1048576: true; the input reads as it did. -/
def bitsPartsUptoRow : OpenClaim := { program := "ytnelblndidciiaa", sum := "3c5686beb330424278ca106b482a42e9d6dbd8de9b1c80281942f2246589decd", func := "ironbark/ironbarklaw05.BitsParts", spec := "bitsParts", inPlace := ["internal/abi.NoEscape", "internal/bytealg.MakeNoZero"], unfollowed := true, recurses := true, apart := false, narrowed := true }
def BitsPartsUptoSaid : Prop := bitsPartsUptoRow.holds Try.pinned (OpenSpec.upto bitsPartsSpec)

/-- 'ironbarklaw05.BitsMakes', WHERE WHAT IT READS IS OF BULK AT MOST 1048576: true; the input reads as it did. -/
def bitsMakesUptoRow : OpenClaim := { program := "ytnelblndidciiaa", sum := "3c5686beb330424278ca106b482a42e9d6dbd8de9b1c80281942f2246589decd", func := "ironbark/ironbarklaw05.BitsMakes", spec := "bitsMakes", inPlace := ["internal/bytealg.IndexByteString", "internal/abi.NoEscape", "internal/bytealg.MakeNoZero"], unfollowed := true, recurses := true, apart := false, narrowed := true }
def BitsMakesUptoSaid : Prop := bitsMakesUptoRow.holds Try.pinned (OpenSpec.upto bitsMakesSpec)

end Rows
end Go.Proofs.Ytnelblndidciiaa
