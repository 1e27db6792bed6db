/-
  No cell of these rows narrows 'for every input' (looked for: loops, veiled, ifaces, maps, wideKeys, modest, calm, conditions, laid).
  DERIVED. THE GIVEN ROWS OF THIS SEAT. 4 by the template 'for every input the law returns true; each argument reads behind the call as it read before'; 0 by the template 'total and deterministic' (their statements: YtnddgbnanjikmaaTotals.lean).
  GIVEN WITH THE SEED: the statements are not yours to turn. If you find one false, say at which input.
  Laid BY PROGRAM, IN A SANDBOX (cutbox-rows.mjs): the forced cells as the released guide's own fill.sh prints them over the translation 64914bf17e6cb056… (all of the seat's roots in one cut). By AI agents, Wed Nov 11 2026. No macro, syntax, notation, axiom, sorry.
-/
import Derived.Test.YtnddgbnanjikmaaChecked
import GoSem.Claim
import GoSem.ClaimJoined
import GoSem.ClaimMapViews
import Derived.JoinedTies
import Derived.KernelRfl
namespace Go.Proofs.Ytnddgbnanjikmaa
/- THE CELL 'sum', in the pinned program and in every row, IS THE sha256 OF THE DUMP (.gsa) THAT YtnddgbnanjikmaaProg.lean LOADS. Nothing in Lean hashes anything: it is a label: what it is worth is what the hold of that sum in a sandbox is worth. -/
noncomputable def Try.pinned : Pinned := { name := "ytnddgbnanjikmaa", sum := "64914bf17e6cb056f27745ccaf4ba907c169adc0564e612cedfe9f34743fbe2e", checked := Try.checked }
namespace Rows
def none {H : Type} : Left H := { results := [], args := [] }

/-- 'laws.FnMissing': WHATEVER THE INPUT: true; the input reads as it did. -/
def fnMissingSpec : ChangeSpec := { name := "fnMissing", fn := fun _ => fun
  | [d] => { results := [.lit (.bool true)], args := [d] }
  | _ => none }
def fnMissingRow : OpenClaim := { program := "ytnddgbnanjikmaa", sum := "64914bf17e6cb056f27745ccaf4ba907c169adc0564e612cedfe9f34743fbe2e", func := "loop.example/mediarelay/laws.FnMissing", spec := "fnMissing", apart := false }
def FnMissingSaid : Prop := fnMissingRow.holds Try.pinned (OpenSpec.ofChange fnMissingSpec)

/-- ITS FALSE NEIGHBOUR: 'it returns false'. Refute it at one input. -/
def fnMissingWrong : ChangeSpec := { name := "fnMissing", fn := fun _ => fun
  | [d] => { results := [.lit (.bool false)], args := [d] }
  | _ => none }
def FnMissingWrongFalsely : Prop := fnMissingRow.holds Try.pinned (OpenSpec.ofChange fnMissingWrong)

/-- 'laws.FnMissingAll': WHATEVER THE INPUT: true; the input reads as it did. -/
def fnMissingAllSpec : ChangeSpec := { name := "fnMissingAll", fn := fun _ => fun
  | [d] => { results := [.lit (.bool true)], args := [d] }
  | _ => none }
def fnMissingAllRow : OpenClaim := { program := "ytnddgbnanjikmaa", sum := "64914bf17e6cb056f27745ccaf4ba907c169adc0564e612cedfe9f34743fbe2e", func := "loop.example/mediarelay/laws.FnMissingAll", spec := "fnMissingAll", apart := false }
def FnMissingAllSaid : Prop := fnMissingAllRow.holds Try.pinned (OpenSpec.ofChange fnMissingAllSpec)

/-- ITS FALSE NEIGHBOUR: 'it returns false'. Refute it at one input. -/
def fnMissingAllWrong : ChangeSpec := { name := "fnMissingAll", fn := fun _ => fun
  | [d] => { results := [.lit (.bool false)], args := [d] }
  | _ => none }
def FnMissingAllWrongFalsely : Prop := fnMissingAllRow.holds Try.pinned (OpenSpec.ofChange fnMissingAllWrong)

/-- 'laws.FnMissingOne': WHATEVER THE INPUT: true; the input reads as it did. -/
def fnMissingOneSpec : ChangeSpec := { name := "fnMissingOne", fn := fun _ => fun
  | [d] => { results := [.lit (.bool true)], args := [d] }
  | _ => none }
def fnMissingOneRow : OpenClaim := { program := "ytnddgbnanjikmaa", sum := "64914bf17e6cb056f27745ccaf4ba907c169adc0564e612cedfe9f34743fbe2e", func := "loop.example/mediarelay/laws.FnMissingOne", spec := "fnMissingOne", apart := false }
def FnMissingOneSaid : Prop := fnMissingOneRow.holds Try.pinned (OpenSpec.ofChange fnMissingOneSpec)

/-- ITS FALSE NEIGHBOUR: 'it returns false'. Refute it at one input. -/
def fnMissingOneWrong : ChangeSpec := { name := "fnMissingOne", fn := fun _ => fun
  | [d] => { results := [.lit (.bool false)], args := [d] }
  | _ => none }
def FnMissingOneWrongFalsely : Prop := fnMissingOneRow.holds Try.pinned (OpenSpec.ofChange fnMissingOneWrong)

/-- 'laws.FnExactMissingOf': WHATEVER THE INPUT: true; the input reads as it did. -/
def fnExactMissingOfSpec : ChangeSpec := { name := "fnExactMissingOf", fn := fun _ => fun
  | [d] => { results := [.lit (.bool true)], args := [d] }
  | _ => none }
def fnExactMissingOfRow : OpenClaim := { program := "ytnddgbnanjikmaa", sum := "64914bf17e6cb056f27745ccaf4ba907c169adc0564e612cedfe9f34743fbe2e", func := "loop.example/mediarelay/laws.FnExactMissingOf", spec := "fnExactMissingOf", apart := false }
def FnExactMissingOfSaid : Prop := fnExactMissingOfRow.holds Try.pinned (OpenSpec.ofChange fnExactMissingOfSpec)

/-- ITS FALSE NEIGHBOUR: 'it returns false'. Refute it at one input. -/
def fnExactMissingOfWrong : ChangeSpec := { name := "fnExactMissingOf", fn := fun _ => fun
  | [d] => { results := [.lit (.bool false)], args := [d] }
  | _ => none }
def FnExactMissingOfWrongFalsely : Prop := fnExactMissingOfRow.holds Try.pinned (OpenSpec.ofChange fnExactMissingOfWrong)

/- THE SECOND FORM. 'bulk': how many values and letters a reading holds, each counted each time it is reached (what is shared counts as often as it is met; a slice's spare places count too). A statement '..UptoSaid' is the law's where the arguments, and the package variables that the reading takes, are together of bulk at most 1048576: NARROWER than '..Said'. Prove '..Said' where nothing that the law and all that it calls make is longer than what came in: it says more and counts as full. Else prove '..UptoSaid'. A law counts once. -/
mutual
def uptoBulk {H : Type} : DataW H → Nat
  | .lit (.string bytes) => bytes.length + 1
  | .lit _ => 1
  | .nil => 1
  | .ptr d => uptoBulk d + 1
  | .slice elems spare => uptoBulkAll elems + uptoBulkAll spare + 1
  | .agg parts => uptoBulkAll parts + 1
  | .iface _ d => uptoBulk d + 1
  | .map entries => uptoBulkEntries entries + 1
  | .held _ => 1
def uptoBulkAll {H : Type} : List (DataW H) → Nat
  | [] => 0
  | d :: r => uptoBulk d + uptoBulkAll r
def uptoBulkEntries {H : Type} : List (Lit × DataW H) → Nat
  | [] => 0
  | x :: r => uptoBulkEntry x + uptoBulkEntries r
def uptoBulkEntry {H : Type} : Lit × DataW H → Nat
  | (.string bytes, d) => bytes.length + uptoBulk d + 1
  | (_, d) => uptoBulk d + 1
 end
def uptoSmall : (H : Type) → List (DataW H) → Bool := fun _ ds => decide (uptoBulkAll ds ≤ 1048576)
def OpenSpec.upto (s : _root_.Go.ChangeSpec) : _root_.Go.OpenSpec := { _root_.Go.OpenSpec.ofChange s with cond := some uptoSmall }

/-- 'laws.FnMissing', WHERE WHAT IT READS IS OF BULK AT MOST 1048576: true; the input reads as it did. -/
def fnMissingUptoRow : OpenClaim := { program := "ytnddgbnanjikmaa", sum := "64914bf17e6cb056f27745ccaf4ba907c169adc0564e612cedfe9f34743fbe2e", func := "loop.example/mediarelay/laws.FnMissing", spec := "fnMissing", apart := false, narrowed := true }
def FnMissingUptoSaid : Prop := fnMissingUptoRow.holds Try.pinned (OpenSpec.upto fnMissingSpec)

/-- 'laws.FnMissingAll', WHERE WHAT IT READS IS OF BULK AT MOST 1048576: true; the input reads as it did. -/
def fnMissingAllUptoRow : OpenClaim := { program := "ytnddgbnanjikmaa", sum := "64914bf17e6cb056f27745ccaf4ba907c169adc0564e612cedfe9f34743fbe2e", func := "loop.example/mediarelay/laws.FnMissingAll", spec := "fnMissingAll", apart := false, narrowed := true }
def FnMissingAllUptoSaid : Prop := fnMissingAllUptoRow.holds Try.pinned (OpenSpec.upto fnMissingAllSpec)

/-- 'laws.FnMissingOne', WHERE WHAT IT READS IS OF BULK AT MOST 1048576: true; the input reads as it did. -/
def fnMissingOneUptoRow : OpenClaim := { program := "ytnddgbnanjikmaa", sum := "64914bf17e6cb056f27745ccaf4ba907c169adc0564e612cedfe9f34743fbe2e", func := "loop.example/mediarelay/laws.FnMissingOne", spec := "fnMissingOne", apart := false, narrowed := true }
def FnMissingOneUptoSaid : Prop := fnMissingOneUptoRow.holds Try.pinned (OpenSpec.upto fnMissingOneSpec)

/-- 'laws.FnExactMissingOf', WHERE WHAT IT READS IS OF BULK AT MOST 1048576: true; the input reads as it did. -/
def fnExactMissingOfUptoRow : OpenClaim := { program := "ytnddgbnanjikmaa", sum := "64914bf17e6cb056f27745ccaf4ba907c169adc0564e612cedfe9f34743fbe2e", func := "loop.example/mediarelay/laws.FnExactMissingOf", spec := "fnExactMissingOf", apart := false, narrowed := true }
def FnExactMissingOfUptoSaid : Prop := fnExactMissingOfUptoRow.holds Try.pinned (OpenSpec.upto fnExactMissingOfSpec)

end Rows
end Go.Proofs.Ytnddgbnanjikmaa
