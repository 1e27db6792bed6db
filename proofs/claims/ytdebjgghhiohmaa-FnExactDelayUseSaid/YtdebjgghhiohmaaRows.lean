/-
  No cell of these rows narrows 'for every input' (looked for: loops, veiled, ifaces, maps, wideKeys, modest, calm, conditions, laid).
  DERIVED. THE GIVEN ROWS OF THIS SEAT. 5 by the template 'for every input the law returns true; each argument reads behind the call as it read before'; 0 by the template 'total and deterministic' (their statements: YtdebjgghhiohmaaTotals.lean).
  GIVEN WITH THE SEED: the statements are not yours to turn. If you find one false, say at which input.
  Laid BY PROGRAM, IN A SANDBOX (cutbox-rows.mjs): the forced cells as the released guide's own fill.sh prints them over the translation 909bb6c6448e7f2d… (all of the seat's roots in one cut). By AI agents, Wed Nov 11 2026. No macro, syntax, notation, axiom, sorry.
-/
import Derived.Test.YtdebjgghhiohmaaChecked
import GoSem.Claim
import GoSem.ClaimJoined
import GoSem.ClaimMapViews
import Derived.JoinedTies
import Derived.KernelRfl
namespace Go.Proofs.Ytdebjgghhiohmaa
/- THE CELL 'sum', in the pinned program and in every row, IS THE sha256 OF THE DUMP (.gsa) THAT YtdebjgghhiohmaaProg.lean LOADS. Nothing in Lean hashes anything: it is a label: what it is worth is what the hold of that sum in a sandbox is worth. -/
noncomputable def Try.pinned : Pinned := { name := "ytdebjgghhiohmaa", sum := "909bb6c6448e7f2d211301d524f9a4fe06565437a1cb9c7bbd993399f5dedea2", checked := Try.checked }
namespace Rows
def none {H : Type} : Left H := { results := [], args := [] }

/-- 'laws.FnExactEstimateValid': WHATEVER THE INPUT: true; the input reads as it did. -/
def fnExactEstimateValidSpec : ChangeSpec := { name := "fnExactEstimateValid", fn := fun _ => fun
  | [d] => { results := [.lit (.bool true)], args := [d] }
  | _ => none }
def fnExactEstimateValidRow : OpenClaim := { program := "ytdebjgghhiohmaa", sum := "909bb6c6448e7f2d211301d524f9a4fe06565437a1cb9c7bbd993399f5dedea2", func := "loop.example/mediarelay/laws.FnExactEstimateValid", spec := "fnExactEstimateValid", apart := false }
def FnExactEstimateValidSaid : Prop := fnExactEstimateValidRow.holds Try.pinned (OpenSpec.ofChange fnExactEstimateValidSpec)

/-- ITS FALSE NEIGHBOUR: 'it returns false'. Refute it at one input. -/
def fnExactEstimateValidWrong : ChangeSpec := { name := "fnExactEstimateValid", fn := fun _ => fun
  | [d] => { results := [.lit (.bool false)], args := [d] }
  | _ => none }
def FnExactEstimateValidWrongFalsely : Prop := fnExactEstimateValidRow.holds Try.pinned (OpenSpec.ofChange fnExactEstimateValidWrong)

/-- 'laws.FnEstimatePart': WHATEVER THE INPUT: true; the input reads as it did. -/
def fnEstimatePartSpec : ChangeSpec := { name := "fnEstimatePart", fn := fun _ => fun
  | [d] => { results := [.lit (.bool true)], args := [d] }
  | _ => none }
def fnEstimatePartRow : OpenClaim := { program := "ytdebjgghhiohmaa", sum := "909bb6c6448e7f2d211301d524f9a4fe06565437a1cb9c7bbd993399f5dedea2", func := "loop.example/mediarelay/laws.FnEstimatePart", spec := "fnEstimatePart", apart := false }
def FnEstimatePartSaid : Prop := fnEstimatePartRow.holds Try.pinned (OpenSpec.ofChange fnEstimatePartSpec)

/-- ITS FALSE NEIGHBOUR: 'it returns false'. Refute it at one input. -/
def fnEstimatePartWrong : ChangeSpec := { name := "fnEstimatePart", fn := fun _ => fun
  | [d] => { results := [.lit (.bool false)], args := [d] }
  | _ => none }
def FnEstimatePartWrongFalsely : Prop := fnEstimatePartRow.holds Try.pinned (OpenSpec.ofChange fnEstimatePartWrong)

/-- 'laws.FnExactDelayUse': WHATEVER THE INPUT: true; the input reads as it did. -/
def fnExactDelayUseSpec : ChangeSpec := { name := "fnExactDelayUse", fn := fun _ => fun
  | [d1, d2] => { results := [.lit (.bool true)], args := [d1, d2] }
  | _ => none }
def fnExactDelayUseRow : OpenClaim := { program := "ytdebjgghhiohmaa", sum := "909bb6c6448e7f2d211301d524f9a4fe06565437a1cb9c7bbd993399f5dedea2", func := "loop.example/mediarelay/laws.FnExactDelayUse", spec := "fnExactDelayUse", apart := false }
def FnExactDelayUseSaid : Prop := fnExactDelayUseRow.holds Try.pinned (OpenSpec.ofChange fnExactDelayUseSpec)

/-- ITS FALSE NEIGHBOUR: 'it returns false'. Refute it at one input. -/
def fnExactDelayUseWrong : ChangeSpec := { name := "fnExactDelayUse", fn := fun _ => fun
  | [d1, d2] => { results := [.lit (.bool false)], args := [d1, d2] }
  | _ => none }
def FnExactDelayUseWrongFalsely : Prop := fnExactDelayUseRow.holds Try.pinned (OpenSpec.ofChange fnExactDelayUseWrong)

/-- 'laws.FnUse': WHATEVER THE INPUT: true; the input reads as it did. -/
def fnUseSpec : ChangeSpec := { name := "fnUse", fn := fun _ => fun
  | [d] => { results := [.lit (.bool true)], args := [d] }
  | _ => none }
def fnUseRow : OpenClaim := { program := "ytdebjgghhiohmaa", sum := "909bb6c6448e7f2d211301d524f9a4fe06565437a1cb9c7bbd993399f5dedea2", func := "loop.example/mediarelay/laws.FnUse", spec := "fnUse", apart := false }
def FnUseSaid : Prop := fnUseRow.holds Try.pinned (OpenSpec.ofChange fnUseSpec)

/-- ITS FALSE NEIGHBOUR: 'it returns false'. Refute it at one input. -/
def fnUseWrong : ChangeSpec := { name := "fnUse", fn := fun _ => fun
  | [d] => { results := [.lit (.bool false)], args := [d] }
  | _ => none }
def FnUseWrongFalsely : Prop := fnUseRow.holds Try.pinned (OpenSpec.ofChange fnUseWrong)

/-- 'laws.FnUseShift': WHATEVER THE INPUT: true; the input reads as it did. -/
def fnUseShiftSpec : ChangeSpec := { name := "fnUseShift", fn := fun _ => fun
  | [d] => { results := [.lit (.bool true)], args := [d] }
  | _ => none }
def fnUseShiftRow : OpenClaim := { program := "ytdebjgghhiohmaa", sum := "909bb6c6448e7f2d211301d524f9a4fe06565437a1cb9c7bbd993399f5dedea2", func := "loop.example/mediarelay/laws.FnUseShift", spec := "fnUseShift", apart := false }
def FnUseShiftSaid : Prop := fnUseShiftRow.holds Try.pinned (OpenSpec.ofChange fnUseShiftSpec)

/-- ITS FALSE NEIGHBOUR: 'it returns false'. Refute it at one input. -/
def fnUseShiftWrong : ChangeSpec := { name := "fnUseShift", fn := fun _ => fun
  | [d] => { results := [.lit (.bool false)], args := [d] }
  | _ => none }
def FnUseShiftWrongFalsely : Prop := fnUseShiftRow.holds Try.pinned (OpenSpec.ofChange fnUseShiftWrong)

/- THE SECOND FORM. 'bulk': how many values and letters a reading holds, each counted each time it is reached (what is shared counts as often as it is met; a slice's spare places count too). A statement '..UptoSaid' is the law's where the arguments, and the package variables that the reading takes, are together of bulk at most 1048576: NARROWER than '..Said'. Prove '..Said' where nothing that the law and all that it calls make is longer than what came in: it says more and counts as full. Else prove '..UptoSaid'. A law counts once. -/
mutual
def uptoBulk {H : Type} : DataW H → Nat
  | .lit (.string bytes) => bytes.length + 1
  | .lit _ => 1
  | .nil => 1
  | .ptr d => uptoBulk d + 1
  | .slice elems spare => uptoBulkAll elems + uptoBulkAll spare + 1
  | .agg parts => uptoBulkAll parts + 1
  | .iface _ d => uptoBulk d + 1
  | .map entries => uptoBulkEntries entries + 1
  | .held _ => 1
def uptoBulkAll {H : Type} : List (DataW H) → Nat
  | [] => 0
  | d :: r => uptoBulk d + uptoBulkAll r
def uptoBulkEntries {H : Type} : List (Lit × DataW H) → Nat
  | [] => 0
  | x :: r => uptoBulkEntry x + uptoBulkEntries r
def uptoBulkEntry {H : Type} : Lit × DataW H → Nat
  | (.string bytes, d) => bytes.length + uptoBulk d + 1
  | (_, d) => uptoBulk d + 1
 end
def uptoSmall : (H : Type) → List (DataW H) → Bool := fun _ ds => decide (uptoBulkAll ds ≤ 1048576)
def OpenSpec.upto (s : _root_.Go.ChangeSpec) : _root_.Go.OpenSpec := { _root_.Go.OpenSpec.ofChange s with cond := some uptoSmall }

/-- 'laws.FnExactEstimateValid', WHERE WHAT IT READS IS OF BULK AT MOST 1048576: true; the input reads as it did. -/
def fnExactEstimateValidUptoRow : OpenClaim := { program := "ytdebjgghhiohmaa", sum := "909bb6c6448e7f2d211301d524f9a4fe06565437a1cb9c7bbd993399f5dedea2", func := "loop.example/mediarelay/laws.FnExactEstimateValid", spec := "fnExactEstimateValid", apart := false, narrowed := true }
def FnExactEstimateValidUptoSaid : Prop := fnExactEstimateValidUptoRow.holds Try.pinned (OpenSpec.upto fnExactEstimateValidSpec)

/-- 'laws.FnEstimatePart', WHERE WHAT IT READS IS OF BULK AT MOST 1048576: true; the input reads as it did. -/
def fnEstimatePartUptoRow : OpenClaim := { program := "ytdebjgghhiohmaa", sum := "909bb6c6448e7f2d211301d524f9a4fe06565437a1cb9c7bbd993399f5dedea2", func := "loop.example/mediarelay/laws.FnEstimatePart", spec := "fnEstimatePart", apart := false, narrowed := true }
def FnEstimatePartUptoSaid : Prop := fnEstimatePartUptoRow.holds Try.pinned (OpenSpec.upto fnEstimatePartSpec)

/-- 'laws.FnExactDelayUse', WHERE WHAT IT READS IS OF BULK AT MOST 1048576: true; the input reads as it did. -/
def fnExactDelayUseUptoRow : OpenClaim := { program := "ytdebjgghhiohmaa", sum := "909bb6c6448e7f2d211301d524f9a4fe06565437a1cb9c7bbd993399f5dedea2", func := "loop.example/mediarelay/laws.FnExactDelayUse", spec := "fnExactDelayUse", apart := false, narrowed := true }
def FnExactDelayUseUptoSaid : Prop := fnExactDelayUseUptoRow.holds Try.pinned (OpenSpec.upto fnExactDelayUseSpec)

/-- 'laws.FnUse', WHERE WHAT IT READS IS OF BULK AT MOST 1048576: true; the input reads as it did. -/
def fnUseUptoRow : OpenClaim := { program := "ytdebjgghhiohmaa", sum := "909bb6c6448e7f2d211301d524f9a4fe06565437a1cb9c7bbd993399f5dedea2", func := "loop.example/mediarelay/laws.FnUse", spec := "fnUse", apart := false, narrowed := true }
def FnUseUptoSaid : Prop := fnUseUptoRow.holds Try.pinned (OpenSpec.upto fnUseSpec)

/-- 'laws.FnUseShift', WHERE WHAT IT READS IS OF BULK AT MOST 1048576: true; the input reads as it did. -/
def fnUseShiftUptoRow : OpenClaim := { program := "ytdebjgghhiohmaa", sum := "909bb6c6448e7f2d211301d524f9a4fe06565437a1cb9c7bbd993399f5dedea2", func := "loop.example/mediarelay/laws.FnUseShift", spec := "fnUseShift", apart := false, narrowed := true }
def FnUseShiftUptoSaid : Prop := fnUseShiftUptoRow.holds Try.pinned (OpenSpec.upto fnUseShiftSpec)

end Rows
end Go.Proofs.Ytdebjgghhiohmaa
