/-
  No cell of these rows narrows 'for every input' (looked for: loops, veiled, ifaces, maps, wideKeys, modest, calm, conditions, laid).
  DERIVED. THE GIVEN ROWS OF THIS SEAT. 10 by the template 'for every input the law returns true; each argument reads behind the call as it read before'; 0 by the template 'total and deterministic' (their statements: YtppomcgkmjnpmaaTotals.lean).
  GIVEN WITH THE SEED: the statements are not yours to turn. If you find one false, say at which input.
  Laid BY PROGRAM, IN A SANDBOX (cutbox-rows.mjs): the forced cells as the released guide's own fill.sh prints them over the translation 6d821097c04cac73… (all of the seat's roots in one cut). By AI agents, Wed Nov 11 2026. No macro, syntax, notation, axiom, sorry.
-/
import Derived.Test.YtppomcgkmjnpmaaChecked
import GoSem.Claim
import GoSem.ClaimJoined
import GoSem.ClaimMapViews
import Derived.JoinedTies
import Derived.KernelRfl
namespace Go.Proofs.Ytppomcgkmjnpmaa
/- THE CELL 'sum', in the pinned program and in every row, IS THE sha256 OF THE DUMP (.gsa) THAT YtppomcgkmjnpmaaProg.lean LOADS. Nothing in Lean hashes anything: it is a label: what it is worth is what the hold of that sum in a sandbox is worth. -/
noncomputable def Try.pinned : Pinned := { name := "ytppomcgkmjnpmaa", sum := "6d821097c04cac735055afb62aa252503659c4271b9a303648f9037033d3c805", checked := Try.checked }
namespace Rows
def none {H : Type} : Left H := { results := [], args := [] }

/-- 'laws.FnParityLength': WHATEVER THE INPUT: true; the input reads as it did. -/
def fnParityLengthSpec : ChangeSpec := { name := "fnParityLength", fn := fun _ => fun
  | [d] => { results := [.lit (.bool true)], args := [d] }
  | _ => none }
def fnParityLengthRow : OpenClaim := { program := "ytppomcgkmjnpmaa", sum := "6d821097c04cac735055afb62aa252503659c4271b9a303648f9037033d3c805", func := "loop.example/mediarelay/laws.FnParityLength", spec := "fnParityLength", apart := false }
def FnParityLengthSaid : Prop := fnParityLengthRow.holds Try.pinned (OpenSpec.ofChange fnParityLengthSpec)

/-- ITS FALSE NEIGHBOUR: 'it returns false'. Refute it at one input. -/
def fnParityLengthWrong : ChangeSpec := { name := "fnParityLength", fn := fun _ => fun
  | [d] => { results := [.lit (.bool false)], args := [d] }
  | _ => none }
def FnParityLengthWrongFalsely : Prop := fnParityLengthRow.holds Try.pinned (OpenSpec.ofChange fnParityLengthWrong)

/-- 'laws.FnParityOne': WHATEVER THE INPUT: true; the input reads as it did. -/
def fnParityOneSpec : ChangeSpec := { name := "fnParityOne", fn := fun _ => fun
  | [d] => { results := [.lit (.bool true)], args := [d] }
  | _ => none }
def fnParityOneRow : OpenClaim := { program := "ytppomcgkmjnpmaa", sum := "6d821097c04cac735055afb62aa252503659c4271b9a303648f9037033d3c805", func := "loop.example/mediarelay/laws.FnParityOne", spec := "fnParityOne", apart := false }
def FnParityOneSaid : Prop := fnParityOneRow.holds Try.pinned (OpenSpec.ofChange fnParityOneSpec)

/-- ITS FALSE NEIGHBOUR: 'it returns false'. Refute it at one input. -/
def fnParityOneWrong : ChangeSpec := { name := "fnParityOne", fn := fun _ => fun
  | [d] => { results := [.lit (.bool false)], args := [d] }
  | _ => none }
def FnParityOneWrongFalsely : Prop := fnParityOneRow.holds Try.pinned (OpenSpec.ofChange fnParityOneWrong)

/-- 'laws.FnParityOrder': WHATEVER THE INPUT: true; the input reads as it did. -/
def fnParityOrderSpec : ChangeSpec := { name := "fnParityOrder", fn := fun _ => fun
  | [d] => { results := [.lit (.bool true)], args := [d] }
  | _ => none }
def fnParityOrderRow : OpenClaim := { program := "ytppomcgkmjnpmaa", sum := "6d821097c04cac735055afb62aa252503659c4271b9a303648f9037033d3c805", func := "loop.example/mediarelay/laws.FnParityOrder", spec := "fnParityOrder", apart := false }
def FnParityOrderSaid : Prop := fnParityOrderRow.holds Try.pinned (OpenSpec.ofChange fnParityOrderSpec)

/-- ITS FALSE NEIGHBOUR: 'it returns false'. Refute it at one input. -/
def fnParityOrderWrong : ChangeSpec := { name := "fnParityOrder", fn := fun _ => fun
  | [d] => { results := [.lit (.bool false)], args := [d] }
  | _ => none }
def FnParityOrderWrongFalsely : Prop := fnParityOrderRow.holds Try.pinned (OpenSpec.ofChange fnParityOrderWrong)

/-- 'laws.FnParity': WHATEVER THE INPUT: true; the input reads as it did. -/
def fnParitySpec : ChangeSpec := { name := "fnParity", fn := fun _ => fun
  | [d1, d2] => { results := [.lit (.bool true)], args := [d1, d2] }
  | _ => none }
def fnParityRow : OpenClaim := { program := "ytppomcgkmjnpmaa", sum := "6d821097c04cac735055afb62aa252503659c4271b9a303648f9037033d3c805", func := "loop.example/mediarelay/laws.FnParity", spec := "fnParity", apart := false }
def FnParitySaid : Prop := fnParityRow.holds Try.pinned (OpenSpec.ofChange fnParitySpec)

/-- ITS FALSE NEIGHBOUR: 'it returns false'. Refute it at one input. -/
def fnParityWrong : ChangeSpec := { name := "fnParity", fn := fun _ => fun
  | [d1, d2] => { results := [.lit (.bool false)], args := [d1, d2] }
  | _ => none }
def FnParityWrongFalsely : Prop := fnParityRow.holds Try.pinned (OpenSpec.ofChange fnParityWrong)

/-- 'laws.FnParityDamage': WHATEVER THE INPUT: true; the input reads as it did. -/
def fnParityDamageSpec : ChangeSpec := { name := "fnParityDamage", fn := fun _ => fun
  | [d1, d2] => { results := [.lit (.bool true)], args := [d1, d2] }
  | _ => none }
def fnParityDamageRow : OpenClaim := { program := "ytppomcgkmjnpmaa", sum := "6d821097c04cac735055afb62aa252503659c4271b9a303648f9037033d3c805", func := "loop.example/mediarelay/laws.FnParityDamage", spec := "fnParityDamage", apart := false }
def FnParityDamageSaid : Prop := fnParityDamageRow.holds Try.pinned (OpenSpec.ofChange fnParityDamageSpec)

/-- ITS FALSE NEIGHBOUR: 'it returns false'. Refute it at one input. -/
def fnParityDamageWrong : ChangeSpec := { name := "fnParityDamage", fn := fun _ => fun
  | [d1, d2] => { results := [.lit (.bool false)], args := [d1, d2] }
  | _ => none }
def FnParityDamageWrongFalsely : Prop := fnParityDamageRow.holds Try.pinned (OpenSpec.ofChange fnParityDamageWrong)

/-- 'laws.FnExactParityOf': WHATEVER THE INPUT: true; the input reads as it did. -/
def fnExactParityOfSpec : ChangeSpec := { name := "fnExactParityOf", fn := fun _ => fun
  | [d] => { results := [.lit (.bool true)], args := [d] }
  | _ => none }
def fnExactParityOfRow : OpenClaim := { program := "ytppomcgkmjnpmaa", sum := "6d821097c04cac735055afb62aa252503659c4271b9a303648f9037033d3c805", func := "loop.example/mediarelay/laws.FnExactParityOf", spec := "fnExactParityOf", apart := false }
def FnExactParityOfSaid : Prop := fnExactParityOfRow.holds Try.pinned (OpenSpec.ofChange fnExactParityOfSpec)

/-- ITS FALSE NEIGHBOUR: 'it returns false'. Refute it at one input. -/
def fnExactParityOfWrong : ChangeSpec := { name := "fnExactParityOf", fn := fun _ => fun
  | [d] => { results := [.lit (.bool false)], args := [d] }
  | _ => none }
def FnExactParityOfWrongFalsely : Prop := fnExactParityOfRow.holds Try.pinned (OpenSpec.ofChange fnExactParityOfWrong)

/-- 'laws.FnExactParityFits': WHATEVER THE INPUT: true; the input reads as it did. -/
def fnExactParityFitsSpec : ChangeSpec := { name := "fnExactParityFits", fn := fun _ => fun
  | [d1, d2] => { results := [.lit (.bool true)], args := [d1, d2] }
  | _ => none }
def fnExactParityFitsRow : OpenClaim := { program := "ytppomcgkmjnpmaa", sum := "6d821097c04cac735055afb62aa252503659c4271b9a303648f9037033d3c805", func := "loop.example/mediarelay/laws.FnExactParityFits", spec := "fnExactParityFits", apart := false }
def FnExactParityFitsSaid : Prop := fnExactParityFitsRow.holds Try.pinned (OpenSpec.ofChange fnExactParityFitsSpec)

/-- ITS FALSE NEIGHBOUR: 'it returns false'. Refute it at one input. -/
def fnExactParityFitsWrong : ChangeSpec := { name := "fnExactParityFits", fn := fun _ => fun
  | [d1, d2] => { results := [.lit (.bool false)], args := [d1, d2] }
  | _ => none }
def FnExactParityFitsWrongFalsely : Prop := fnExactParityFitsRow.holds Try.pinned (OpenSpec.ofChange fnExactParityFitsWrong)

/-- 'laws.FnParityFits': WHATEVER THE INPUT: true; the input reads as it did. -/
def fnParityFitsSpec : ChangeSpec := { name := "fnParityFits", fn := fun _ => fun
  | [d] => { results := [.lit (.bool true)], args := [d] }
  | _ => none }
def fnParityFitsRow : OpenClaim := { program := "ytppomcgkmjnpmaa", sum := "6d821097c04cac735055afb62aa252503659c4271b9a303648f9037033d3c805", func := "loop.example/mediarelay/laws.FnParityFits", spec := "fnParityFits", apart := false }
def FnParityFitsSaid : Prop := fnParityFitsRow.holds Try.pinned (OpenSpec.ofChange fnParityFitsSpec)

/-- ITS FALSE NEIGHBOUR: 'it returns false'. Refute it at one input. -/
def fnParityFitsWrong : ChangeSpec := { name := "fnParityFits", fn := fun _ => fun
  | [d] => { results := [.lit (.bool false)], args := [d] }
  | _ => none }
def FnParityFitsWrongFalsely : Prop := fnParityFitsRow.holds Try.pinned (OpenSpec.ofChange fnParityFitsWrong)

/-- 'laws.FnExactParityFix': WHATEVER THE INPUT: true; the input reads as it did. -/
def fnExactParityFixSpec : ChangeSpec := { name := "fnExactParityFix", fn := fun _ => fun
  | [d1, d2] => { results := [.lit (.bool true)], args := [d1, d2] }
  | _ => none }
def fnExactParityFixRow : OpenClaim := { program := "ytppomcgkmjnpmaa", sum := "6d821097c04cac735055afb62aa252503659c4271b9a303648f9037033d3c805", func := "loop.example/mediarelay/laws.FnExactParityFix", spec := "fnExactParityFix", apart := false }
def FnExactParityFixSaid : Prop := fnExactParityFixRow.holds Try.pinned (OpenSpec.ofChange fnExactParityFixSpec)

/-- ITS FALSE NEIGHBOUR: 'it returns false'. Refute it at one input. -/
def fnExactParityFixWrong : ChangeSpec := { name := "fnExactParityFix", fn := fun _ => fun
  | [d1, d2] => { results := [.lit (.bool false)], args := [d1, d2] }
  | _ => none }
def FnExactParityFixWrongFalsely : Prop := fnExactParityFixRow.holds Try.pinned (OpenSpec.ofChange fnExactParityFixWrong)

/-- 'laws.FnParityFix': WHATEVER THE INPUT: true; the input reads as it did. -/
def fnParityFixSpec : ChangeSpec := { name := "fnParityFix", fn := fun _ => fun
  | [d] => { results := [.lit (.bool true)], args := [d] }
  | _ => none }
def fnParityFixRow : OpenClaim := { program := "ytppomcgkmjnpmaa", sum := "6d821097c04cac735055afb62aa252503659c4271b9a303648f9037033d3c805", func := "loop.example/mediarelay/laws.FnParityFix", spec := "fnParityFix", apart := false }
def FnParityFixSaid : Prop := fnParityFixRow.holds Try.pinned (OpenSpec.ofChange fnParityFixSpec)

/-- ITS FALSE NEIGHBOUR: 'it returns false'. Refute it at one input. -/
def fnParityFixWrong : ChangeSpec := { name := "fnParityFix", fn := fun _ => fun
  | [d] => { results := [.lit (.bool false)], args := [d] }
  | _ => none }
def FnParityFixWrongFalsely : Prop := fnParityFixRow.holds Try.pinned (OpenSpec.ofChange fnParityFixWrong)

/- THE SECOND FORM. 'bulk': how many values and letters a reading holds, each counted each time it is reached (what is shared counts as often as it is met; a slice's spare places count too). A statement '..UptoSaid' is the law's where the arguments, and the package variables that the reading takes, are together of bulk at most 1048576: NARROWER than '..Said'. Prove '..Said' where nothing that the law and all that it calls make is longer than what came in: it says more and counts as full. Else prove '..UptoSaid'. A law counts once. -/
mutual
def uptoBulk {H : Type} : DataW H → Nat
  | .lit (.string bytes) => bytes.length + 1
  | .lit _ => 1
  | .nil => 1
  | .ptr d => uptoBulk d + 1
  | .slice elems spare => uptoBulkAll elems + uptoBulkAll spare + 1
  | .agg parts => uptoBulkAll parts + 1
  | .iface _ d => uptoBulk d + 1
  | .map entries => uptoBulkEntries entries + 1
  | .held _ => 1
def uptoBulkAll {H : Type} : List (DataW H) → Nat
  | [] => 0
  | d :: r => uptoBulk d + uptoBulkAll r
def uptoBulkEntries {H : Type} : List (Lit × DataW H) → Nat
  | [] => 0
  | x :: r => uptoBulkEntry x + uptoBulkEntries r
def uptoBulkEntry {H : Type} : Lit × DataW H → Nat
  | (.string bytes, d) => bytes.length + uptoBulk d + 1
  | (_, d) => uptoBulk d + 1
 end
def uptoSmall : (H : Type) → List (DataW H) → Bool := fun _ ds => decide (uptoBulkAll ds ≤ 1048576)
def OpenSpec.upto (s : _root_.Go.ChangeSpec) : _root_.Go.OpenSpec := { _root_.Go.OpenSpec.ofChange s with cond := some uptoSmall }

/-- 'laws.FnParityLength', WHERE WHAT IT READS IS OF BULK AT MOST 1048576: true; the input reads as it did. -/
def fnParityLengthUptoRow : OpenClaim := { program := "ytppomcgkmjnpmaa", sum := "6d821097c04cac735055afb62aa252503659c4271b9a303648f9037033d3c805", func := "loop.example/mediarelay/laws.FnParityLength", spec := "fnParityLength", apart := false, narrowed := true }
def FnParityLengthUptoSaid : Prop := fnParityLengthUptoRow.holds Try.pinned (OpenSpec.upto fnParityLengthSpec)

/-- 'laws.FnParityOne', WHERE WHAT IT READS IS OF BULK AT MOST 1048576: true; the input reads as it did. -/
def fnParityOneUptoRow : OpenClaim := { program := "ytppomcgkmjnpmaa", sum := "6d821097c04cac735055afb62aa252503659c4271b9a303648f9037033d3c805", func := "loop.example/mediarelay/laws.FnParityOne", spec := "fnParityOne", apart := false, narrowed := true }
def FnParityOneUptoSaid : Prop := fnParityOneUptoRow.holds Try.pinned (OpenSpec.upto fnParityOneSpec)

/-- 'laws.FnParityOrder', WHERE WHAT IT READS IS OF BULK AT MOST 1048576: true; the input reads as it did. -/
def fnParityOrderUptoRow : OpenClaim := { program := "ytppomcgkmjnpmaa", sum := "6d821097c04cac735055afb62aa252503659c4271b9a303648f9037033d3c805", func := "loop.example/mediarelay/laws.FnParityOrder", spec := "fnParityOrder", apart := false, narrowed := true }
def FnParityOrderUptoSaid : Prop := fnParityOrderUptoRow.holds Try.pinned (OpenSpec.upto fnParityOrderSpec)

/-- 'laws.FnParity', WHERE WHAT IT READS IS OF BULK AT MOST 1048576: true; the input reads as it did. -/
def fnParityUptoRow : OpenClaim := { program := "ytppomcgkmjnpmaa", sum := "6d821097c04cac735055afb62aa252503659c4271b9a303648f9037033d3c805", func := "loop.example/mediarelay/laws.FnParity", spec := "fnParity", apart := false, narrowed := true }
def FnParityUptoSaid : Prop := fnParityUptoRow.holds Try.pinned (OpenSpec.upto fnParitySpec)

/-- 'laws.FnParityDamage', WHERE WHAT IT READS IS OF BULK AT MOST 1048576: true; the input reads as it did. -/
def fnParityDamageUptoRow : OpenClaim := { program := "ytppomcgkmjnpmaa", sum := "6d821097c04cac735055afb62aa252503659c4271b9a303648f9037033d3c805", func := "loop.example/mediarelay/laws.FnParityDamage", spec := "fnParityDamage", apart := false, narrowed := true }
def FnParityDamageUptoSaid : Prop := fnParityDamageUptoRow.holds Try.pinned (OpenSpec.upto fnParityDamageSpec)

/-- 'laws.FnExactParityOf', WHERE WHAT IT READS IS OF BULK AT MOST 1048576: true; the input reads as it did. -/
def fnExactParityOfUptoRow : OpenClaim := { program := "ytppomcgkmjnpmaa", sum := "6d821097c04cac735055afb62aa252503659c4271b9a303648f9037033d3c805", func := "loop.example/mediarelay/laws.FnExactParityOf", spec := "fnExactParityOf", apart := false, narrowed := true }
def FnExactParityOfUptoSaid : Prop := fnExactParityOfUptoRow.holds Try.pinned (OpenSpec.upto fnExactParityOfSpec)

/-- 'laws.FnExactParityFits', WHERE WHAT IT READS IS OF BULK AT MOST 1048576: true; the input reads as it did. -/
def fnExactParityFitsUptoRow : OpenClaim := { program := "ytppomcgkmjnpmaa", sum := "6d821097c04cac735055afb62aa252503659c4271b9a303648f9037033d3c805", func := "loop.example/mediarelay/laws.FnExactParityFits", spec := "fnExactParityFits", apart := false, narrowed := true }
def FnExactParityFitsUptoSaid : Prop := fnExactParityFitsUptoRow.holds Try.pinned (OpenSpec.upto fnExactParityFitsSpec)

/-- 'laws.FnParityFits', WHERE WHAT IT READS IS OF BULK AT MOST 1048576: true; the input reads as it did. -/
def fnParityFitsUptoRow : OpenClaim := { program := "ytppomcgkmjnpmaa", sum := "6d821097c04cac735055afb62aa252503659c4271b9a303648f9037033d3c805", func := "loop.example/mediarelay/laws.FnParityFits", spec := "fnParityFits", apart := false, narrowed := true }
def FnParityFitsUptoSaid : Prop := fnParityFitsUptoRow.holds Try.pinned (OpenSpec.upto fnParityFitsSpec)

/-- 'laws.FnExactParityFix', WHERE WHAT IT READS IS OF BULK AT MOST 1048576: true; the input reads as it did. -/
def fnExactParityFixUptoRow : OpenClaim := { program := "ytppomcgkmjnpmaa", sum := "6d821097c04cac735055afb62aa252503659c4271b9a303648f9037033d3c805", func := "loop.example/mediarelay/laws.FnExactParityFix", spec := "fnExactParityFix", apart := false, narrowed := true }
def FnExactParityFixUptoSaid : Prop := fnExactParityFixUptoRow.holds Try.pinned (OpenSpec.upto fnExactParityFixSpec)

/-- 'laws.FnParityFix', WHERE WHAT IT READS IS OF BULK AT MOST 1048576: true; the input reads as it did. -/
def fnParityFixUptoRow : OpenClaim := { program := "ytppomcgkmjnpmaa", sum := "6d821097c04cac735055afb62aa252503659c4271b9a303648f9037033d3c805", func := "loop.example/mediarelay/laws.FnParityFix", spec := "fnParityFix", apart := false, narrowed := true }
def FnParityFixUptoSaid : Prop := fnParityFixUptoRow.holds Try.pinned (OpenSpec.upto fnParityFixSpec)

end Rows
end Go.Proofs.Ytppomcgkmjnpmaa
