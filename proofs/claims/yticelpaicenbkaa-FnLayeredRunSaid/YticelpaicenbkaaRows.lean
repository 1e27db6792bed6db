/-
  No cell of these rows narrows 'for every input' (looked for: loops, veiled, ifaces, maps, wideKeys, modest, calm, conditions, laid).
  DERIVED. THE GIVEN ROWS OF THIS SEAT. 12 by the template 'for every input the law returns true; each argument reads behind the call as it read before'; 0 by the template 'total and deterministic' (their statements: YticelpaicenbkaaTotals.lean).
  GIVEN WITH THE SEED: the statements are not yours to turn. If you find one false, say at which input.
  Laid BY PROGRAM, IN A SANDBOX (cutbox-rows.mjs): the forced cells as the released guide's own fill.sh prints them over the translation 0c1f0870c87130a3… (all of the seat's roots in one cut). By AI agents, Wed Nov 11 2026. No macro, syntax, notation, axiom, sorry.
-/
import Derived.Test.YticelpaicenbkaaChecked
import GoSem.Claim
import GoSem.ClaimJoined
import GoSem.ClaimMapViews
import Derived.JoinedTies
import Derived.KernelRfl
namespace Go.Proofs.Yticelpaicenbkaa
/- THE CELL 'sum', in the pinned program and in every row, IS THE sha256 OF THE DUMP (.gsa) THAT YticelpaicenbkaaProg.lean LOADS. Nothing in Lean hashes anything: it is a label: what it is worth is what the hold of that sum in a sandbox is worth. -/
noncomputable def Try.pinned : Pinned := { name := "yticelpaicenbkaa", sum := "0c1f0870c87130a351d54973b1c3c74cabea33910a2a5451c249006fc5828cd0", checked := Try.checked }
namespace Rows
def none {H : Type} : Left H := { results := [], args := [] }

/-- 'laws.FnExactLayeredValid': WHATEVER THE INPUT: true; the input reads as it did. -/
def fnExactLayeredValidSpec : ChangeSpec := { name := "fnExactLayeredValid", fn := fun _ => fun
  | [d] => { results := [.lit (.bool true)], args := [d] }
  | _ => none }
def fnExactLayeredValidRow : OpenClaim := { program := "yticelpaicenbkaa", sum := "0c1f0870c87130a351d54973b1c3c74cabea33910a2a5451c249006fc5828cd0", func := "loop.example/mediarelay/laws.FnExactLayeredValid", spec := "fnExactLayeredValid", apart := false }
def FnExactLayeredValidSaid : Prop := fnExactLayeredValidRow.holds Try.pinned (OpenSpec.ofChange fnExactLayeredValidSpec)

/-- ITS FALSE NEIGHBOUR: 'it returns false'. Refute it at one input. -/
def fnExactLayeredValidWrong : ChangeSpec := { name := "fnExactLayeredValid", fn := fun _ => fun
  | [d] => { results := [.lit (.bool false)], args := [d] }
  | _ => none }
def FnExactLayeredValidWrongFalsely : Prop := fnExactLayeredValidRow.holds Try.pinned (OpenSpec.ofChange fnExactLayeredValidWrong)

/-- 'laws.FnExactLayeredAsks': WHATEVER THE INPUT: true; the input reads as it did. -/
def fnExactLayeredAsksSpec : ChangeSpec := { name := "fnExactLayeredAsks", fn := fun _ => fun
  | [d] => { results := [.lit (.bool true)], args := [d] }
  | _ => none }
def fnExactLayeredAsksRow : OpenClaim := { program := "yticelpaicenbkaa", sum := "0c1f0870c87130a351d54973b1c3c74cabea33910a2a5451c249006fc5828cd0", func := "loop.example/mediarelay/laws.FnExactLayeredAsks", spec := "fnExactLayeredAsks", apart := false }
def FnExactLayeredAsksSaid : Prop := fnExactLayeredAsksRow.holds Try.pinned (OpenSpec.ofChange fnExactLayeredAsksSpec)

/-- ITS FALSE NEIGHBOUR: 'it returns false'. Refute it at one input. -/
def fnExactLayeredAsksWrong : ChangeSpec := { name := "fnExactLayeredAsks", fn := fun _ => fun
  | [d] => { results := [.lit (.bool false)], args := [d] }
  | _ => none }
def FnExactLayeredAsksWrongFalsely : Prop := fnExactLayeredAsksRow.holds Try.pinned (OpenSpec.ofChange fnExactLayeredAsksWrong)

/-- 'laws.FnLayeredPart': WHATEVER THE INPUT: true; the input reads as it did. -/
def fnLayeredPartSpec : ChangeSpec := { name := "fnLayeredPart", fn := fun _ => fun
  | [d] => { results := [.lit (.bool true)], args := [d] }
  | _ => none }
def fnLayeredPartRow : OpenClaim := { program := "yticelpaicenbkaa", sum := "0c1f0870c87130a351d54973b1c3c74cabea33910a2a5451c249006fc5828cd0", func := "loop.example/mediarelay/laws.FnLayeredPart", spec := "fnLayeredPart", apart := false }
def FnLayeredPartSaid : Prop := fnLayeredPartRow.holds Try.pinned (OpenSpec.ofChange fnLayeredPartSpec)

/-- ITS FALSE NEIGHBOUR: 'it returns false'. Refute it at one input. -/
def fnLayeredPartWrong : ChangeSpec := { name := "fnLayeredPart", fn := fun _ => fun
  | [d] => { results := [.lit (.bool false)], args := [d] }
  | _ => none }
def FnLayeredPartWrongFalsely : Prop := fnLayeredPartRow.holds Try.pinned (OpenSpec.ofChange fnLayeredPartWrong)

/-- 'laws.FnLayeredAsks': WHATEVER THE INPUT: true; the input reads as it did. -/
def fnLayeredAsksSpec : ChangeSpec := { name := "fnLayeredAsks", fn := fun _ => fun
  | [d] => { results := [.lit (.bool true)], args := [d] }
  | _ => none }
def fnLayeredAsksRow : OpenClaim := { program := "yticelpaicenbkaa", sum := "0c1f0870c87130a351d54973b1c3c74cabea33910a2a5451c249006fc5828cd0", func := "loop.example/mediarelay/laws.FnLayeredAsks", spec := "fnLayeredAsks", apart := false }
def FnLayeredAsksSaid : Prop := fnLayeredAsksRow.holds Try.pinned (OpenSpec.ofChange fnLayeredAsksSpec)

/-- ITS FALSE NEIGHBOUR: 'it returns false'. Refute it at one input. -/
def fnLayeredAsksWrong : ChangeSpec := { name := "fnLayeredAsks", fn := fun _ => fun
  | [d] => { results := [.lit (.bool false)], args := [d] }
  | _ => none }
def FnLayeredAsksWrongFalsely : Prop := fnLayeredAsksRow.holds Try.pinned (OpenSpec.ofChange fnLayeredAsksWrong)

/-- 'laws.FnExactLayeredStep': WHATEVER THE INPUT: true; the input reads as it did. -/
def fnExactLayeredStepSpec : ChangeSpec := { name := "fnExactLayeredStep", fn := fun _ => fun
  | [d1, d2] => { results := [.lit (.bool true)], args := [d1, d2] }
  | _ => none }
def fnExactLayeredStepRow : OpenClaim := { program := "yticelpaicenbkaa", sum := "0c1f0870c87130a351d54973b1c3c74cabea33910a2a5451c249006fc5828cd0", func := "loop.example/mediarelay/laws.FnExactLayeredStep", spec := "fnExactLayeredStep", apart := false }
def FnExactLayeredStepSaid : Prop := fnExactLayeredStepRow.holds Try.pinned (OpenSpec.ofChange fnExactLayeredStepSpec)

/-- ITS FALSE NEIGHBOUR: 'it returns false'. Refute it at one input. -/
def fnExactLayeredStepWrong : ChangeSpec := { name := "fnExactLayeredStep", fn := fun _ => fun
  | [d1, d2] => { results := [.lit (.bool false)], args := [d1, d2] }
  | _ => none }
def FnExactLayeredStepWrongFalsely : Prop := fnExactLayeredStepRow.holds Try.pinned (OpenSpec.ofChange fnExactLayeredStepWrong)

/-- 'laws.FnLayeredForward': WHATEVER THE INPUT: true; the input reads as it did. -/
def fnLayeredForwardSpec : ChangeSpec := { name := "fnLayeredForward", fn := fun _ => fun
  | [d] => { results := [.lit (.bool true)], args := [d] }
  | _ => none }
def fnLayeredForwardRow : OpenClaim := { program := "yticelpaicenbkaa", sum := "0c1f0870c87130a351d54973b1c3c74cabea33910a2a5451c249006fc5828cd0", func := "loop.example/mediarelay/laws.FnLayeredForward", spec := "fnLayeredForward", apart := false }
def FnLayeredForwardSaid : Prop := fnLayeredForwardRow.holds Try.pinned (OpenSpec.ofChange fnLayeredForwardSpec)

/-- ITS FALSE NEIGHBOUR: 'it returns false'. Refute it at one input. -/
def fnLayeredForwardWrong : ChangeSpec := { name := "fnLayeredForward", fn := fun _ => fun
  | [d] => { results := [.lit (.bool false)], args := [d] }
  | _ => none }
def FnLayeredForwardWrongFalsely : Prop := fnLayeredForwardRow.holds Try.pinned (OpenSpec.ofChange fnLayeredForwardWrong)

/-- 'laws.FnLayeredKey': WHATEVER THE INPUT: true; the input reads as it did. -/
def fnLayeredKeySpec : ChangeSpec := { name := "fnLayeredKey", fn := fun _ => fun
  | [d] => { results := [.lit (.bool true)], args := [d] }
  | _ => none }
def fnLayeredKeyRow : OpenClaim := { program := "yticelpaicenbkaa", sum := "0c1f0870c87130a351d54973b1c3c74cabea33910a2a5451c249006fc5828cd0", func := "loop.example/mediarelay/laws.FnLayeredKey", spec := "fnLayeredKey", apart := false }
def FnLayeredKeySaid : Prop := fnLayeredKeyRow.holds Try.pinned (OpenSpec.ofChange fnLayeredKeySpec)

/-- ITS FALSE NEIGHBOUR: 'it returns false'. Refute it at one input. -/
def fnLayeredKeyWrong : ChangeSpec := { name := "fnLayeredKey", fn := fun _ => fun
  | [d] => { results := [.lit (.bool false)], args := [d] }
  | _ => none }
def FnLayeredKeyWrongFalsely : Prop := fnLayeredKeyRow.holds Try.pinned (OpenSpec.ofChange fnLayeredKeyWrong)

/-- 'laws.FnLayeredTwice': WHATEVER THE INPUT: true; the input reads as it did. -/
def fnLayeredTwiceSpec : ChangeSpec := { name := "fnLayeredTwice", fn := fun _ => fun
  | [d] => { results := [.lit (.bool true)], args := [d] }
  | _ => none }
def fnLayeredTwiceRow : OpenClaim := { program := "yticelpaicenbkaa", sum := "0c1f0870c87130a351d54973b1c3c74cabea33910a2a5451c249006fc5828cd0", func := "loop.example/mediarelay/laws.FnLayeredTwice", spec := "fnLayeredTwice", apart := false }
def FnLayeredTwiceSaid : Prop := fnLayeredTwiceRow.holds Try.pinned (OpenSpec.ofChange fnLayeredTwiceSpec)

/-- ITS FALSE NEIGHBOUR: 'it returns false'. Refute it at one input. -/
def fnLayeredTwiceWrong : ChangeSpec := { name := "fnLayeredTwice", fn := fun _ => fun
  | [d] => { results := [.lit (.bool false)], args := [d] }
  | _ => none }
def FnLayeredTwiceWrongFalsely : Prop := fnLayeredTwiceRow.holds Try.pinned (OpenSpec.ofChange fnLayeredTwiceWrong)

/-- 'laws.FnLayeredChange': WHATEVER THE INPUT: true; the input reads as it did. -/
def fnLayeredChangeSpec : ChangeSpec := { name := "fnLayeredChange", fn := fun _ => fun
  | [d] => { results := [.lit (.bool true)], args := [d] }
  | _ => none }
def fnLayeredChangeRow : OpenClaim := { program := "yticelpaicenbkaa", sum := "0c1f0870c87130a351d54973b1c3c74cabea33910a2a5451c249006fc5828cd0", func := "loop.example/mediarelay/laws.FnLayeredChange", spec := "fnLayeredChange", unfollowed := true, recurses := true, apart := false }
def FnLayeredChangeSaid : Prop := fnLayeredChangeRow.holds Try.pinned (OpenSpec.ofChange fnLayeredChangeSpec)

/-- ITS FALSE NEIGHBOUR: 'it returns false'. Refute it at one input. -/
def fnLayeredChangeWrong : ChangeSpec := { name := "fnLayeredChange", fn := fun _ => fun
  | [d] => { results := [.lit (.bool false)], args := [d] }
  | _ => none }
def FnLayeredChangeWrongFalsely : Prop := fnLayeredChangeRow.holds Try.pinned (OpenSpec.ofChange fnLayeredChangeWrong)

/-- 'laws.FnLayeredTwoLayers': WHATEVER THE INPUT: true; the input reads as it did. -/
def fnLayeredTwoLayersSpec : ChangeSpec := { name := "fnLayeredTwoLayers", fn := fun _ => fun
  | [d] => { results := [.lit (.bool true)], args := [d] }
  | _ => none }
def fnLayeredTwoLayersRow : OpenClaim := { program := "yticelpaicenbkaa", sum := "0c1f0870c87130a351d54973b1c3c74cabea33910a2a5451c249006fc5828cd0", func := "loop.example/mediarelay/laws.FnLayeredTwoLayers", spec := "fnLayeredTwoLayers", unfollowed := true, recurses := true, apart := false }
def FnLayeredTwoLayersSaid : Prop := fnLayeredTwoLayersRow.holds Try.pinned (OpenSpec.ofChange fnLayeredTwoLayersSpec)

/-- ITS FALSE NEIGHBOUR: 'it returns false'. Refute it at one input. -/
def fnLayeredTwoLayersWrong : ChangeSpec := { name := "fnLayeredTwoLayers", fn := fun _ => fun
  | [d] => { results := [.lit (.bool false)], args := [d] }
  | _ => none }
def FnLayeredTwoLayersWrongFalsely : Prop := fnLayeredTwoLayersRow.holds Try.pinned (OpenSpec.ofChange fnLayeredTwoLayersWrong)

/-- 'laws.FnLayeredRun': WHATEVER THE INPUT: true; the input reads as it did. -/
def fnLayeredRunSpec : ChangeSpec := { name := "fnLayeredRun", fn := fun _ => fun
  | [d] => { results := [.lit (.bool true)], args := [d] }
  | _ => none }
def fnLayeredRunRow : OpenClaim := { program := "yticelpaicenbkaa", sum := "0c1f0870c87130a351d54973b1c3c74cabea33910a2a5451c249006fc5828cd0", func := "loop.example/mediarelay/laws.FnLayeredRun", spec := "fnLayeredRun", unfollowed := true, recurses := true, apart := false }
def FnLayeredRunSaid : Prop := fnLayeredRunRow.holds Try.pinned (OpenSpec.ofChange fnLayeredRunSpec)

/-- ITS FALSE NEIGHBOUR: 'it returns false'. Refute it at one input. -/
def fnLayeredRunWrong : ChangeSpec := { name := "fnLayeredRun", fn := fun _ => fun
  | [d] => { results := [.lit (.bool false)], args := [d] }
  | _ => none }
def FnLayeredRunWrongFalsely : Prop := fnLayeredRunRow.holds Try.pinned (OpenSpec.ofChange fnLayeredRunWrong)

/-- 'laws.FnExactLayeredRun': WHATEVER THE INPUT: true; the input reads as it did. -/
def fnExactLayeredRunSpec : ChangeSpec := { name := "fnExactLayeredRun", fn := fun _ => fun
  | [d1, d2] => { results := [.lit (.bool true)], args := [d1, d2] }
  | _ => none }
def fnExactLayeredRunRow : OpenClaim := { program := "yticelpaicenbkaa", sum := "0c1f0870c87130a351d54973b1c3c74cabea33910a2a5451c249006fc5828cd0", func := "loop.example/mediarelay/laws.FnExactLayeredRun", spec := "fnExactLayeredRun", unfollowed := true, recurses := true, apart := false }
def FnExactLayeredRunSaid : Prop := fnExactLayeredRunRow.holds Try.pinned (OpenSpec.ofChange fnExactLayeredRunSpec)

/-- ITS FALSE NEIGHBOUR: 'it returns false'. Refute it at one input. -/
def fnExactLayeredRunWrong : ChangeSpec := { name := "fnExactLayeredRun", fn := fun _ => fun
  | [d1, d2] => { results := [.lit (.bool false)], args := [d1, d2] }
  | _ => none }
def FnExactLayeredRunWrongFalsely : Prop := fnExactLayeredRunRow.holds Try.pinned (OpenSpec.ofChange fnExactLayeredRunWrong)

/- THE SECOND FORM. 'bulk': how many values and letters a reading holds, each counted each time it is reached (what is shared counts as often as it is met; a slice's spare places count too). A statement '..UptoSaid' is the law's where the arguments, and the package variables that the reading takes, are together of bulk at most 1048576: NARROWER than '..Said'. Prove '..Said' where nothing that the law and all that it calls make is longer than what came in: it says more and counts as full. Else prove '..UptoSaid'. A law counts once. -/
mutual
def uptoBulk {H : Type} : DataW H → Nat
  | .lit (.string bytes) => bytes.length + 1
  | .lit _ => 1
  | .nil => 1
  | .ptr d => uptoBulk d + 1
  | .slice elems spare => uptoBulkAll elems + uptoBulkAll spare + 1
  | .agg parts => uptoBulkAll parts + 1
  | .iface _ d => uptoBulk d + 1
  | .map entries => uptoBulkEntries entries + 1
  | .held _ => 1
def uptoBulkAll {H : Type} : List (DataW H) → Nat
  | [] => 0
  | d :: r => uptoBulk d + uptoBulkAll r
def uptoBulkEntries {H : Type} : List (Lit × DataW H) → Nat
  | [] => 0
  | x :: r => uptoBulkEntry x + uptoBulkEntries r
def uptoBulkEntry {H : Type} : Lit × DataW H → Nat
  | (.string bytes, d) => bytes.length + uptoBulk d + 1
  | (_, d) => uptoBulk d + 1
 end
def uptoSmall : (H : Type) → List (DataW H) → Bool := fun _ ds => decide (uptoBulkAll ds ≤ 1048576)
def OpenSpec.upto (s : _root_.Go.ChangeSpec) : _root_.Go.OpenSpec := { _root_.Go.OpenSpec.ofChange s with cond := some uptoSmall }

/-- 'laws.FnExactLayeredValid', WHERE WHAT IT READS IS OF BULK AT MOST 1048576: true; the input reads as it did. -/
def fnExactLayeredValidUptoRow : OpenClaim := { program := "yticelpaicenbkaa", sum := "0c1f0870c87130a351d54973b1c3c74cabea33910a2a5451c249006fc5828cd0", func := "loop.example/mediarelay/laws.FnExactLayeredValid", spec := "fnExactLayeredValid", apart := false, narrowed := true }
def FnExactLayeredValidUptoSaid : Prop := fnExactLayeredValidUptoRow.holds Try.pinned (OpenSpec.upto fnExactLayeredValidSpec)

/-- 'laws.FnExactLayeredAsks', WHERE WHAT IT READS IS OF BULK AT MOST 1048576: true; the input reads as it did. -/
def fnExactLayeredAsksUptoRow : OpenClaim := { program := "yticelpaicenbkaa", sum := "0c1f0870c87130a351d54973b1c3c74cabea33910a2a5451c249006fc5828cd0", func := "loop.example/mediarelay/laws.FnExactLayeredAsks", spec := "fnExactLayeredAsks", apart := false, narrowed := true }
def FnExactLayeredAsksUptoSaid : Prop := fnExactLayeredAsksUptoRow.holds Try.pinned (OpenSpec.upto fnExactLayeredAsksSpec)

/-- 'laws.FnLayeredPart', WHERE WHAT IT READS IS OF BULK AT MOST 1048576: true; the input reads as it did. -/
def fnLayeredPartUptoRow : OpenClaim := { program := "yticelpaicenbkaa", sum := "0c1f0870c87130a351d54973b1c3c74cabea33910a2a5451c249006fc5828cd0", func := "loop.example/mediarelay/laws.FnLayeredPart", spec := "fnLayeredPart", apart := false, narrowed := true }
def FnLayeredPartUptoSaid : Prop := fnLayeredPartUptoRow.holds Try.pinned (OpenSpec.upto fnLayeredPartSpec)

/-- 'laws.FnLayeredAsks', WHERE WHAT IT READS IS OF BULK AT MOST 1048576: true; the input reads as it did. -/
def fnLayeredAsksUptoRow : OpenClaim := { program := "yticelpaicenbkaa", sum := "0c1f0870c87130a351d54973b1c3c74cabea33910a2a5451c249006fc5828cd0", func := "loop.example/mediarelay/laws.FnLayeredAsks", spec := "fnLayeredAsks", apart := false, narrowed := true }
def FnLayeredAsksUptoSaid : Prop := fnLayeredAsksUptoRow.holds Try.pinned (OpenSpec.upto fnLayeredAsksSpec)

/-- 'laws.FnExactLayeredStep', WHERE WHAT IT READS IS OF BULK AT MOST 1048576: true; the input reads as it did. -/
def fnExactLayeredStepUptoRow : OpenClaim := { program := "yticelpaicenbkaa", sum := "0c1f0870c87130a351d54973b1c3c74cabea33910a2a5451c249006fc5828cd0", func := "loop.example/mediarelay/laws.FnExactLayeredStep", spec := "fnExactLayeredStep", apart := false, narrowed := true }
def FnExactLayeredStepUptoSaid : Prop := fnExactLayeredStepUptoRow.holds Try.pinned (OpenSpec.upto fnExactLayeredStepSpec)

/-- 'laws.FnLayeredForward', WHERE WHAT IT READS IS OF BULK AT MOST 1048576: true; the input reads as it did. -/
def fnLayeredForwardUptoRow : OpenClaim := { program := "yticelpaicenbkaa", sum := "0c1f0870c87130a351d54973b1c3c74cabea33910a2a5451c249006fc5828cd0", func := "loop.example/mediarelay/laws.FnLayeredForward", spec := "fnLayeredForward", apart := false, narrowed := true }
def FnLayeredForwardUptoSaid : Prop := fnLayeredForwardUptoRow.holds Try.pinned (OpenSpec.upto fnLayeredForwardSpec)

/-- 'laws.FnLayeredKey', WHERE WHAT IT READS IS OF BULK AT MOST 1048576: true; the input reads as it did. -/
def fnLayeredKeyUptoRow : OpenClaim := { program := "yticelpaicenbkaa", sum := "0c1f0870c87130a351d54973b1c3c74cabea33910a2a5451c249006fc5828cd0", func := "loop.example/mediarelay/laws.FnLayeredKey", spec := "fnLayeredKey", apart := false, narrowed := true }
def FnLayeredKeyUptoSaid : Prop := fnLayeredKeyUptoRow.holds Try.pinned (OpenSpec.upto fnLayeredKeySpec)

/-- 'laws.FnLayeredTwice', WHERE WHAT IT READS IS OF BULK AT MOST 1048576: true; the input reads as it did. -/
def fnLayeredTwiceUptoRow : OpenClaim := { program := "yticelpaicenbkaa", sum := "0c1f0870c87130a351d54973b1c3c74cabea33910a2a5451c249006fc5828cd0", func := "loop.example/mediarelay/laws.FnLayeredTwice", spec := "fnLayeredTwice", apart := false, narrowed := true }
def FnLayeredTwiceUptoSaid : Prop := fnLayeredTwiceUptoRow.holds Try.pinned (OpenSpec.upto fnLayeredTwiceSpec)

/-- 'laws.FnLayeredChange', WHERE WHAT IT READS IS OF BULK AT MOST 1048576: true; the input reads as it did. -/
def fnLayeredChangeUptoRow : OpenClaim := { program := "yticelpaicenbkaa", sum := "0c1f0870c87130a351d54973b1c3c74cabea33910a2a5451c249006fc5828cd0", func := "loop.example/mediarelay/laws.FnLayeredChange", spec := "fnLayeredChange", unfollowed := true, recurses := true, apart := false, narrowed := true }
def FnLayeredChangeUptoSaid : Prop := fnLayeredChangeUptoRow.holds Try.pinned (OpenSpec.upto fnLayeredChangeSpec)

/-- 'laws.FnLayeredTwoLayers', WHERE WHAT IT READS IS OF BULK AT MOST 1048576: true; the input reads as it did. -/
def fnLayeredTwoLayersUptoRow : OpenClaim := { program := "yticelpaicenbkaa", sum := "0c1f0870c87130a351d54973b1c3c74cabea33910a2a5451c249006fc5828cd0", func := "loop.example/mediarelay/laws.FnLayeredTwoLayers", spec := "fnLayeredTwoLayers", unfollowed := true, recurses := true, apart := false, narrowed := true }
def FnLayeredTwoLayersUptoSaid : Prop := fnLayeredTwoLayersUptoRow.holds Try.pinned (OpenSpec.upto fnLayeredTwoLayersSpec)

/-- 'laws.FnLayeredRun', WHERE WHAT IT READS IS OF BULK AT MOST 1048576: true; the input reads as it did. -/
def fnLayeredRunUptoRow : OpenClaim := { program := "yticelpaicenbkaa", sum := "0c1f0870c87130a351d54973b1c3c74cabea33910a2a5451c249006fc5828cd0", func := "loop.example/mediarelay/laws.FnLayeredRun", spec := "fnLayeredRun", unfollowed := true, recurses := true, apart := false, narrowed := true }
def FnLayeredRunUptoSaid : Prop := fnLayeredRunUptoRow.holds Try.pinned (OpenSpec.upto fnLayeredRunSpec)

/-- 'laws.FnExactLayeredRun', WHERE WHAT IT READS IS OF BULK AT MOST 1048576: true; the input reads as it did. -/
def fnExactLayeredRunUptoRow : OpenClaim := { program := "yticelpaicenbkaa", sum := "0c1f0870c87130a351d54973b1c3c74cabea33910a2a5451c249006fc5828cd0", func := "loop.example/mediarelay/laws.FnExactLayeredRun", spec := "fnExactLayeredRun", unfollowed := true, recurses := true, apart := false, narrowed := true }
def FnExactLayeredRunUptoSaid : Prop := fnExactLayeredRunUptoRow.holds Try.pinned (OpenSpec.upto fnExactLayeredRunSpec)

end Rows
end Go.Proofs.Yticelpaicenbkaa
