/-
  No cell of these rows narrows 'for every input' (looked for: loops, veiled, ifaces, maps, wideKeys, modest, calm, conditions, laid).
  DERIVED. THE GIVEN ROWS OF THIS SEAT. 10 by the template 'for every input the law returns true; each argument reads behind the call as it read before'; 0 by the template 'total and deterministic' (their statements: YtibedadmogadhaaTotals.lean).
  GIVEN WITH THE SEED: the statements are not yours to turn. If you find one false, say at which input.
  Laid BY PROGRAM, IN A SANDBOX (cutbox-rows.mjs): the forced cells as the released guide's own fill.sh prints them over the translation 1373c8b53a7970f3… (all of the seat's roots in one cut). By AI agents, Wed Nov 11 2026. No macro, syntax, notation, axiom, sorry.
-/
import Derived.Test.YtibedadmogadhaaChecked
import GoSem.Claim
import GoSem.ClaimJoined
import GoSem.ClaimMapViews
import Derived.JoinedTies
import Derived.KernelRfl
namespace Go.Proofs.Ytibedadmogadhaa
/- THE CELL 'sum', in the pinned program and in every row, IS THE sha256 OF THE DUMP (.gsa) THAT YtibedadmogadhaaProg.lean LOADS. Nothing in Lean hashes anything: it is a label: what it is worth is what the hold of that sum in a sandbox is worth. -/
noncomputable def Try.pinned : Pinned := { name := "ytibedadmogadhaa", sum := "1373c8b53a7970f382ae03b8579f1f53b3eb49d5815620cd21e7d17a953ccfae", checked := Try.checked }
namespace Rows
def none {H : Type} : Left H := { results := [], args := [] }

/-- 'laws.FnNacksFindAll': WHATEVER THE INPUT: true; the input reads as it did. -/
def fnNacksFindAllSpec : ChangeSpec := { name := "fnNacksFindAll", fn := fun _ => fun
  | [d] => { results := [.lit (.bool true)], args := [d] }
  | _ => none }
def fnNacksFindAllRow : OpenClaim := { program := "ytibedadmogadhaa", sum := "1373c8b53a7970f382ae03b8579f1f53b3eb49d5815620cd21e7d17a953ccfae", func := "loop.example/mediarelay/laws.FnNacksFindAll", spec := "fnNacksFindAll", apart := false }
def FnNacksFindAllSaid : Prop := fnNacksFindAllRow.holds Try.pinned (OpenSpec.ofChange fnNacksFindAllSpec)

/-- ITS FALSE NEIGHBOUR: 'it returns false'. Refute it at one input. -/
def fnNacksFindAllWrong : ChangeSpec := { name := "fnNacksFindAll", fn := fun _ => fun
  | [d] => { results := [.lit (.bool false)], args := [d] }
  | _ => none }
def FnNacksFindAllWrongFalsely : Prop := fnNacksFindAllRow.holds Try.pinned (OpenSpec.ofChange fnNacksFindAllWrong)

/-- 'laws.FnExactNacksFind': WHATEVER THE INPUT: true; the input reads as it did. -/
def fnExactNacksFindSpec : ChangeSpec := { name := "fnExactNacksFind", fn := fun _ => fun
  | [d1, d2] => { results := [.lit (.bool true)], args := [d1, d2] }
  | _ => none }
def fnExactNacksFindRow : OpenClaim := { program := "ytibedadmogadhaa", sum := "1373c8b53a7970f382ae03b8579f1f53b3eb49d5815620cd21e7d17a953ccfae", func := "loop.example/mediarelay/laws.FnExactNacksFind", spec := "fnExactNacksFind", apart := false }
def FnExactNacksFindSaid : Prop := fnExactNacksFindRow.holds Try.pinned (OpenSpec.ofChange fnExactNacksFindSpec)

/-- ITS FALSE NEIGHBOUR: 'it returns false'. Refute it at one input. -/
def fnExactNacksFindWrong : ChangeSpec := { name := "fnExactNacksFind", fn := fun _ => fun
  | [d1, d2] => { results := [.lit (.bool false)], args := [d1, d2] }
  | _ => none }
def FnExactNacksFindWrongFalsely : Prop := fnExactNacksFindRow.holds Try.pinned (OpenSpec.ofChange fnExactNacksFindWrong)

/-- 'laws.FnNacksFew': WHATEVER THE INPUT: true; the input reads as it did. -/
def fnNacksFewSpec : ChangeSpec := { name := "fnNacksFew", fn := fun _ => fun
  | [d] => { results := [.lit (.bool true)], args := [d] }
  | _ => none }
def fnNacksFewRow : OpenClaim := { program := "ytibedadmogadhaa", sum := "1373c8b53a7970f382ae03b8579f1f53b3eb49d5815620cd21e7d17a953ccfae", func := "loop.example/mediarelay/laws.FnNacksFew", spec := "fnNacksFew", apart := false }
def FnNacksFewSaid : Prop := fnNacksFewRow.holds Try.pinned (OpenSpec.ofChange fnNacksFewSpec)

/-- ITS FALSE NEIGHBOUR: 'it returns false'. Refute it at one input. -/
def fnNacksFewWrong : ChangeSpec := { name := "fnNacksFew", fn := fun _ => fun
  | [d] => { results := [.lit (.bool false)], args := [d] }
  | _ => none }
def FnNacksFewWrongFalsely : Prop := fnNacksFewRow.holds Try.pinned (OpenSpec.ofChange fnNacksFewWrong)

/-- 'laws.FnNacksFindMissing': WHATEVER THE INPUT: true; the input reads as it did. -/
def fnNacksFindMissingSpec : ChangeSpec := { name := "fnNacksFindMissing", fn := fun _ => fun
  | [d] => { results := [.lit (.bool true)], args := [d] }
  | _ => none }
def fnNacksFindMissingRow : OpenClaim := { program := "ytibedadmogadhaa", sum := "1373c8b53a7970f382ae03b8579f1f53b3eb49d5815620cd21e7d17a953ccfae", func := "loop.example/mediarelay/laws.FnNacksFindMissing", spec := "fnNacksFindMissing", apart := false }
def FnNacksFindMissingSaid : Prop := fnNacksFindMissingRow.holds Try.pinned (OpenSpec.ofChange fnNacksFindMissingSpec)

/-- ITS FALSE NEIGHBOUR: 'it returns false'. Refute it at one input. -/
def fnNacksFindMissingWrong : ChangeSpec := { name := "fnNacksFindMissing", fn := fun _ => fun
  | [d] => { results := [.lit (.bool false)], args := [d] }
  | _ => none }
def FnNacksFindMissingWrongFalsely : Prop := fnNacksFindMissingRow.holds Try.pinned (OpenSpec.ofChange fnNacksFindMissingWrong)

/-- 'laws.FnNacksMore': WHATEVER THE INPUT: true; the input reads as it did. -/
def fnNacksMoreSpec : ChangeSpec := { name := "fnNacksMore", fn := fun _ => fun
  | [d] => { results := [.lit (.bool true)], args := [d] }
  | _ => none }
def fnNacksMoreRow : OpenClaim := { program := "ytibedadmogadhaa", sum := "1373c8b53a7970f382ae03b8579f1f53b3eb49d5815620cd21e7d17a953ccfae", func := "loop.example/mediarelay/laws.FnNacksMore", spec := "fnNacksMore", apart := false }
def FnNacksMoreSaid : Prop := fnNacksMoreRow.holds Try.pinned (OpenSpec.ofChange fnNacksMoreSpec)

/-- ITS FALSE NEIGHBOUR: 'it returns false'. Refute it at one input. -/
def fnNacksMoreWrong : ChangeSpec := { name := "fnNacksMore", fn := fun _ => fun
  | [d] => { results := [.lit (.bool false)], args := [d] }
  | _ => none }
def FnNacksMoreWrongFalsely : Prop := fnNacksMoreRow.holds Try.pinned (OpenSpec.ofChange fnNacksMoreWrong)

/-- 'laws.FnExactNacksOf': WHATEVER THE INPUT: true; the input reads as it did. -/
def fnExactNacksOfSpec : ChangeSpec := { name := "fnExactNacksOf", fn := fun _ => fun
  | [d] => { results := [.lit (.bool true)], args := [d] }
  | _ => none }
def fnExactNacksOfRow : OpenClaim := { program := "ytibedadmogadhaa", sum := "1373c8b53a7970f382ae03b8579f1f53b3eb49d5815620cd21e7d17a953ccfae", func := "loop.example/mediarelay/laws.FnExactNacksOf", spec := "fnExactNacksOf", apart := false }
def FnExactNacksOfSaid : Prop := fnExactNacksOfRow.holds Try.pinned (OpenSpec.ofChange fnExactNacksOfSpec)

/-- ITS FALSE NEIGHBOUR: 'it returns false'. Refute it at one input. -/
def fnExactNacksOfWrong : ChangeSpec := { name := "fnExactNacksOf", fn := fun _ => fun
  | [d] => { results := [.lit (.bool false)], args := [d] }
  | _ => none }
def FnExactNacksOfWrongFalsely : Prop := fnExactNacksOfRow.holds Try.pinned (OpenSpec.ofChange fnExactNacksOfWrong)

/-- 'laws.FnNacks': WHATEVER THE INPUT: true; the input reads as it did. -/
def fnNacksSpec : ChangeSpec := { name := "fnNacks", fn := fun _ => fun
  | [d] => { results := [.lit (.bool true)], args := [d] }
  | _ => none }
def fnNacksRow : OpenClaim := { program := "ytibedadmogadhaa", sum := "1373c8b53a7970f382ae03b8579f1f53b3eb49d5815620cd21e7d17a953ccfae", func := "loop.example/mediarelay/laws.FnNacks", spec := "fnNacks", apart := false }
def FnNacksSaid : Prop := fnNacksRow.holds Try.pinned (OpenSpec.ofChange fnNacksSpec)

/-- ITS FALSE NEIGHBOUR: 'it returns false'. Refute it at one input. -/
def fnNacksWrong : ChangeSpec := { name := "fnNacks", fn := fun _ => fun
  | [d] => { results := [.lit (.bool false)], args := [d] }
  | _ => none }
def FnNacksWrongFalsely : Prop := fnNacksRow.holds Try.pinned (OpenSpec.ofChange fnNacksWrong)

/-- 'laws.FnExactNacksList': WHATEVER THE INPUT: true; the input reads as it did. -/
def fnExactNacksListSpec : ChangeSpec := { name := "fnExactNacksList", fn := fun _ => fun
  | [d] => { results := [.lit (.bool true)], args := [d] }
  | _ => none }
def fnExactNacksListRow : OpenClaim := { program := "ytibedadmogadhaa", sum := "1373c8b53a7970f382ae03b8579f1f53b3eb49d5815620cd21e7d17a953ccfae", func := "loop.example/mediarelay/laws.FnExactNacksList", spec := "fnExactNacksList", apart := false }
def FnExactNacksListSaid : Prop := fnExactNacksListRow.holds Try.pinned (OpenSpec.ofChange fnExactNacksListSpec)

/-- ITS FALSE NEIGHBOUR: 'it returns false'. Refute it at one input. -/
def fnExactNacksListWrong : ChangeSpec := { name := "fnExactNacksList", fn := fun _ => fun
  | [d] => { results := [.lit (.bool false)], args := [d] }
  | _ => none }
def FnExactNacksListWrongFalsely : Prop := fnExactNacksListRow.holds Try.pinned (OpenSpec.ofChange fnExactNacksListWrong)

/-- 'laws.FnNacksList': WHATEVER THE INPUT: true; the input reads as it did. -/
def fnNacksListSpec : ChangeSpec := { name := "fnNacksList", fn := fun _ => fun
  | [d] => { results := [.lit (.bool true)], args := [d] }
  | _ => none }
def fnNacksListRow : OpenClaim := { program := "ytibedadmogadhaa", sum := "1373c8b53a7970f382ae03b8579f1f53b3eb49d5815620cd21e7d17a953ccfae", func := "loop.example/mediarelay/laws.FnNacksList", spec := "fnNacksList", apart := false }
def FnNacksListSaid : Prop := fnNacksListRow.holds Try.pinned (OpenSpec.ofChange fnNacksListSpec)

/-- ITS FALSE NEIGHBOUR: 'it returns false'. Refute it at one input. -/
def fnNacksListWrong : ChangeSpec := { name := "fnNacksList", fn := fun _ => fun
  | [d] => { results := [.lit (.bool false)], args := [d] }
  | _ => none }
def FnNacksListWrongFalsely : Prop := fnNacksListRow.holds Try.pinned (OpenSpec.ofChange fnNacksListWrong)

/-- 'laws.FnNacksFind': WHATEVER THE INPUT: true; the input reads as it did. -/
def fnNacksFindSpec : ChangeSpec := { name := "fnNacksFind", fn := fun _ => fun
  | [d] => { results := [.lit (.bool true)], args := [d] }
  | _ => none }
def fnNacksFindRow : OpenClaim := { program := "ytibedadmogadhaa", sum := "1373c8b53a7970f382ae03b8579f1f53b3eb49d5815620cd21e7d17a953ccfae", func := "loop.example/mediarelay/laws.FnNacksFind", spec := "fnNacksFind", apart := false }
def FnNacksFindSaid : Prop := fnNacksFindRow.holds Try.pinned (OpenSpec.ofChange fnNacksFindSpec)

/-- ITS FALSE NEIGHBOUR: 'it returns false'. Refute it at one input. -/
def fnNacksFindWrong : ChangeSpec := { name := "fnNacksFind", fn := fun _ => fun
  | [d] => { results := [.lit (.bool false)], args := [d] }
  | _ => none }
def FnNacksFindWrongFalsely : Prop := fnNacksFindRow.holds Try.pinned (OpenSpec.ofChange fnNacksFindWrong)

/- THE SECOND FORM. 'bulk': how many values and letters a reading holds, each counted each time it is reached (what is shared counts as often as it is met; a slice's spare places count too). A statement '..UptoSaid' is the law's where the arguments, and the package variables that the reading takes, are together of bulk at most 1048576: NARROWER than '..Said'. Prove '..Said' where nothing that the law and all that it calls make is longer than what came in: it says more and counts as full. Else prove '..UptoSaid'. A law counts once. -/
mutual
def uptoBulk {H : Type} : DataW H → Nat
  | .lit (.string bytes) => bytes.length + 1
  | .lit _ => 1
  | .nil => 1
  | .ptr d => uptoBulk d + 1
  | .slice elems spare => uptoBulkAll elems + uptoBulkAll spare + 1
  | .agg parts => uptoBulkAll parts + 1
  | .iface _ d => uptoBulk d + 1
  | .map entries => uptoBulkEntries entries + 1
  | .held _ => 1
def uptoBulkAll {H : Type} : List (DataW H) → Nat
  | [] => 0
  | d :: r => uptoBulk d + uptoBulkAll r
def uptoBulkEntries {H : Type} : List (Lit × DataW H) → Nat
  | [] => 0
  | x :: r => uptoBulkEntry x + uptoBulkEntries r
def uptoBulkEntry {H : Type} : Lit × DataW H → Nat
  | (.string bytes, d) => bytes.length + uptoBulk d + 1
  | (_, d) => uptoBulk d + 1
 end
def uptoSmall : (H : Type) → List (DataW H) → Bool := fun _ ds => decide (uptoBulkAll ds ≤ 1048576)
def OpenSpec.upto (s : _root_.Go.ChangeSpec) : _root_.Go.OpenSpec := { _root_.Go.OpenSpec.ofChange s with cond := some uptoSmall }

/-- 'laws.FnNacksFindAll', WHERE WHAT IT READS IS OF BULK AT MOST 1048576: true; the input reads as it did. -/
def fnNacksFindAllUptoRow : OpenClaim := { program := "ytibedadmogadhaa", sum := "1373c8b53a7970f382ae03b8579f1f53b3eb49d5815620cd21e7d17a953ccfae", func := "loop.example/mediarelay/laws.FnNacksFindAll", spec := "fnNacksFindAll", apart := false, narrowed := true }
def FnNacksFindAllUptoSaid : Prop := fnNacksFindAllUptoRow.holds Try.pinned (OpenSpec.upto fnNacksFindAllSpec)

/-- 'laws.FnExactNacksFind', WHERE WHAT IT READS IS OF BULK AT MOST 1048576: true; the input reads as it did. -/
def fnExactNacksFindUptoRow : OpenClaim := { program := "ytibedadmogadhaa", sum := "1373c8b53a7970f382ae03b8579f1f53b3eb49d5815620cd21e7d17a953ccfae", func := "loop.example/mediarelay/laws.FnExactNacksFind", spec := "fnExactNacksFind", apart := false, narrowed := true }
def FnExactNacksFindUptoSaid : Prop := fnExactNacksFindUptoRow.holds Try.pinned (OpenSpec.upto fnExactNacksFindSpec)

/-- 'laws.FnNacksFew', WHERE WHAT IT READS IS OF BULK AT MOST 1048576: true; the input reads as it did. -/
def fnNacksFewUptoRow : OpenClaim := { program := "ytibedadmogadhaa", sum := "1373c8b53a7970f382ae03b8579f1f53b3eb49d5815620cd21e7d17a953ccfae", func := "loop.example/mediarelay/laws.FnNacksFew", spec := "fnNacksFew", apart := false, narrowed := true }
def FnNacksFewUptoSaid : Prop := fnNacksFewUptoRow.holds Try.pinned (OpenSpec.upto fnNacksFewSpec)

/-- 'laws.FnNacksFindMissing', WHERE WHAT IT READS IS OF BULK AT MOST 1048576: true; the input reads as it did. -/
def fnNacksFindMissingUptoRow : OpenClaim := { program := "ytibedadmogadhaa", sum := "1373c8b53a7970f382ae03b8579f1f53b3eb49d5815620cd21e7d17a953ccfae", func := "loop.example/mediarelay/laws.FnNacksFindMissing", spec := "fnNacksFindMissing", apart := false, narrowed := true }
def FnNacksFindMissingUptoSaid : Prop := fnNacksFindMissingUptoRow.holds Try.pinned (OpenSpec.upto fnNacksFindMissingSpec)

/-- 'laws.FnNacksMore', WHERE WHAT IT READS IS OF BULK AT MOST 1048576: true; the input reads as it did. -/
def fnNacksMoreUptoRow : OpenClaim := { program := "ytibedadmogadhaa", sum := "1373c8b53a7970f382ae03b8579f1f53b3eb49d5815620cd21e7d17a953ccfae", func := "loop.example/mediarelay/laws.FnNacksMore", spec := "fnNacksMore", apart := false, narrowed := true }
def FnNacksMoreUptoSaid : Prop := fnNacksMoreUptoRow.holds Try.pinned (OpenSpec.upto fnNacksMoreSpec)

/-- 'laws.FnExactNacksOf', WHERE WHAT IT READS IS OF BULK AT MOST 1048576: true; the input reads as it did. -/
def fnExactNacksOfUptoRow : OpenClaim := { program := "ytibedadmogadhaa", sum := "1373c8b53a7970f382ae03b8579f1f53b3eb49d5815620cd21e7d17a953ccfae", func := "loop.example/mediarelay/laws.FnExactNacksOf", spec := "fnExactNacksOf", apart := false, narrowed := true }
def FnExactNacksOfUptoSaid : Prop := fnExactNacksOfUptoRow.holds Try.pinned (OpenSpec.upto fnExactNacksOfSpec)

/-- 'laws.FnNacks', WHERE WHAT IT READS IS OF BULK AT MOST 1048576: true; the input reads as it did. -/
def fnNacksUptoRow : OpenClaim := { program := "ytibedadmogadhaa", sum := "1373c8b53a7970f382ae03b8579f1f53b3eb49d5815620cd21e7d17a953ccfae", func := "loop.example/mediarelay/laws.FnNacks", spec := "fnNacks", apart := false, narrowed := true }
def FnNacksUptoSaid : Prop := fnNacksUptoRow.holds Try.pinned (OpenSpec.upto fnNacksSpec)

/-- 'laws.FnExactNacksList', WHERE WHAT IT READS IS OF BULK AT MOST 1048576: true; the input reads as it did. -/
def fnExactNacksListUptoRow : OpenClaim := { program := "ytibedadmogadhaa", sum := "1373c8b53a7970f382ae03b8579f1f53b3eb49d5815620cd21e7d17a953ccfae", func := "loop.example/mediarelay/laws.FnExactNacksList", spec := "fnExactNacksList", apart := false, narrowed := true }
def FnExactNacksListUptoSaid : Prop := fnExactNacksListUptoRow.holds Try.pinned (OpenSpec.upto fnExactNacksListSpec)

/-- 'laws.FnNacksList', WHERE WHAT IT READS IS OF BULK AT MOST 1048576: true; the input reads as it did. -/
def fnNacksListUptoRow : OpenClaim := { program := "ytibedadmogadhaa", sum := "1373c8b53a7970f382ae03b8579f1f53b3eb49d5815620cd21e7d17a953ccfae", func := "loop.example/mediarelay/laws.FnNacksList", spec := "fnNacksList", apart := false, narrowed := true }
def FnNacksListUptoSaid : Prop := fnNacksListUptoRow.holds Try.pinned (OpenSpec.upto fnNacksListSpec)

/-- 'laws.FnNacksFind', WHERE WHAT IT READS IS OF BULK AT MOST 1048576: true; the input reads as it did. -/
def fnNacksFindUptoRow : OpenClaim := { program := "ytibedadmogadhaa", sum := "1373c8b53a7970f382ae03b8579f1f53b3eb49d5815620cd21e7d17a953ccfae", func := "loop.example/mediarelay/laws.FnNacksFind", spec := "fnNacksFind", apart := false, narrowed := true }
def FnNacksFindUptoSaid : Prop := fnNacksFindUptoRow.holds Try.pinned (OpenSpec.upto fnNacksFindSpec)

end Rows
end Go.Proofs.Ytibedadmogadhaa
