/-
  No cell of these rows narrows 'for every input' (looked for: loops, veiled, ifaces, maps, wideKeys, modest, calm, conditions, laid).
  DERIVED. THE GIVEN ROWS OF THIS SEAT. 7 by the template 'for every input the law returns true; each argument reads behind the call as it read before'; 0 by the template 'total and deterministic' (their statements: YtjbengphioankaaTotals.lean).
  GIVEN WITH THE SEED: the statements are not yours to turn. If you find one false, say at which input.
  Laid BY PROGRAM, IN A SANDBOX (cutbox-rows.mjs): the forced cells as the released guide's own fill.sh prints them over the translation 0d32bd932f788d59… (all of the seat's roots in one cut). By AI agents, Wed Nov 11 2026. No macro, syntax, notation, axiom, sorry.
-/
import Derived.Test.YtjbengphioankaaChecked
import GoSem.Claim
import GoSem.ClaimJoined
import GoSem.ClaimMapViews
import Derived.JoinedTies
import Derived.KernelRfl
namespace Go.Proofs.Ytjbengphioankaa
/- THE CELL 'sum', in the pinned program and in every row, IS THE sha256 OF THE DUMP (.gsa) THAT YtjbengphioankaaProg.lean LOADS. Nothing in Lean hashes anything: it is a label: what it is worth is what the hold of that sum in a sandbox is worth. -/
noncomputable def Try.pinned : Pinned := { name := "ytjbengphioankaa", sum := "0d32bd932f788d59c55c2f0f043e48e1ae31e2dfc2208f37f54a2c3448a9fca4", checked := Try.checked }
namespace Rows
def none {H : Type} : Left H := { results := [], args := [] }

/-- 'laws.FnPacerPart': WHATEVER THE INPUT: true; the input reads as it did. -/
def fnPacerPartSpec : ChangeSpec := { name := "fnPacerPart", fn := fun _ => fun
  | [d1, d2] => { results := [.lit (.bool true)], args := [d1, d2] }
  | _ => none }
def fnPacerPartRow : OpenClaim := { program := "ytjbengphioankaa", sum := "0d32bd932f788d59c55c2f0f043e48e1ae31e2dfc2208f37f54a2c3448a9fca4", func := "loop.example/mediarelay/laws.FnPacerPart", spec := "fnPacerPart", apart := false }
def FnPacerPartSaid : Prop := fnPacerPartRow.holds Try.pinned (OpenSpec.ofChange fnPacerPartSpec)

/-- ITS FALSE NEIGHBOUR: 'it returns false'. Refute it at one input. -/
def fnPacerPartWrong : ChangeSpec := { name := "fnPacerPart", fn := fun _ => fun
  | [d1, d2] => { results := [.lit (.bool false)], args := [d1, d2] }
  | _ => none }
def FnPacerPartWrongFalsely : Prop := fnPacerPartRow.holds Try.pinned (OpenSpec.ofChange fnPacerPartWrong)

/-- 'laws.FnExactPacerValid': WHATEVER THE INPUT: true; the input reads as it did. -/
def fnExactPacerValidSpec : ChangeSpec := { name := "fnExactPacerValid", fn := fun _ => fun
  | [d] => { results := [.lit (.bool true)], args := [d] }
  | _ => none }
def fnExactPacerValidRow : OpenClaim := { program := "ytjbengphioankaa", sum := "0d32bd932f788d59c55c2f0f043e48e1ae31e2dfc2208f37f54a2c3448a9fca4", func := "loop.example/mediarelay/laws.FnExactPacerValid", spec := "fnExactPacerValid", apart := false }
def FnExactPacerValidSaid : Prop := fnExactPacerValidRow.holds Try.pinned (OpenSpec.ofChange fnExactPacerValidSpec)

/-- ITS FALSE NEIGHBOUR: 'it returns false'. Refute it at one input. -/
def fnExactPacerValidWrong : ChangeSpec := { name := "fnExactPacerValid", fn := fun _ => fun
  | [d] => { results := [.lit (.bool false)], args := [d] }
  | _ => none }
def FnExactPacerValidWrongFalsely : Prop := fnExactPacerValidRow.holds Try.pinned (OpenSpec.ofChange fnExactPacerValidWrong)

/-- 'laws.FnHoldPart': WHATEVER THE INPUT: true; the input reads as it did. -/
def fnHoldPartSpec : ChangeSpec := { name := "fnHoldPart", fn := fun _ => fun
  | [d1, d2] => { results := [.lit (.bool true)], args := [d1, d2] }
  | _ => none }
def fnHoldPartRow : OpenClaim := { program := "ytjbengphioankaa", sum := "0d32bd932f788d59c55c2f0f043e48e1ae31e2dfc2208f37f54a2c3448a9fca4", func := "loop.example/mediarelay/laws.FnHoldPart", spec := "fnHoldPart", apart := false }
def FnHoldPartSaid : Prop := fnHoldPartRow.holds Try.pinned (OpenSpec.ofChange fnHoldPartSpec)

/-- ITS FALSE NEIGHBOUR: 'it returns false'. Refute it at one input. -/
def fnHoldPartWrong : ChangeSpec := { name := "fnHoldPart", fn := fun _ => fun
  | [d1, d2] => { results := [.lit (.bool false)], args := [d1, d2] }
  | _ => none }
def FnHoldPartWrongFalsely : Prop := fnHoldPartRow.holds Try.pinned (OpenSpec.ofChange fnHoldPartWrong)

/-- 'laws.FnHoldTimeNone': WHATEVER THE INPUT: true; the input reads as it did. -/
def fnHoldTimeNoneSpec : ChangeSpec := { name := "fnHoldTimeNone", fn := fun _ => fun
  | [d] => { results := [.lit (.bool true)], args := [d] }
  | _ => none }
def fnHoldTimeNoneRow : OpenClaim := { program := "ytjbengphioankaa", sum := "0d32bd932f788d59c55c2f0f043e48e1ae31e2dfc2208f37f54a2c3448a9fca4", func := "loop.example/mediarelay/laws.FnHoldTimeNone", spec := "fnHoldTimeNone", apart := false }
def FnHoldTimeNoneSaid : Prop := fnHoldTimeNoneRow.holds Try.pinned (OpenSpec.ofChange fnHoldTimeNoneSpec)

/-- ITS FALSE NEIGHBOUR: 'it returns false'. Refute it at one input. -/
def fnHoldTimeNoneWrong : ChangeSpec := { name := "fnHoldTimeNone", fn := fun _ => fun
  | [d] => { results := [.lit (.bool false)], args := [d] }
  | _ => none }
def FnHoldTimeNoneWrongFalsely : Prop := fnHoldTimeNoneRow.holds Try.pinned (OpenSpec.ofChange fnHoldTimeNoneWrong)

/-- 'laws.FnExactRoomValid': WHATEVER THE INPUT: true; the input reads as it did. -/
def fnExactRoomValidSpec : ChangeSpec := { name := "fnExactRoomValid", fn := fun _ => fun
  | [d] => { results := [.lit (.bool true)], args := [d] }
  | _ => none }
def fnExactRoomValidRow : OpenClaim := { program := "ytjbengphioankaa", sum := "0d32bd932f788d59c55c2f0f043e48e1ae31e2dfc2208f37f54a2c3448a9fca4", func := "loop.example/mediarelay/laws.FnExactRoomValid", spec := "fnExactRoomValid", apart := false }
def FnExactRoomValidSaid : Prop := fnExactRoomValidRow.holds Try.pinned (OpenSpec.ofChange fnExactRoomValidSpec)

/-- ITS FALSE NEIGHBOUR: 'it returns false'. Refute it at one input. -/
def fnExactRoomValidWrong : ChangeSpec := { name := "fnExactRoomValid", fn := fun _ => fun
  | [d] => { results := [.lit (.bool false)], args := [d] }
  | _ => none }
def FnExactRoomValidWrongFalsely : Prop := fnExactRoomValidRow.holds Try.pinned (OpenSpec.ofChange fnExactRoomValidWrong)

/-- 'laws.FnExactBufferValid': WHATEVER THE INPUT: true; the input reads as it did. -/
def fnExactBufferValidSpec : ChangeSpec := { name := "fnExactBufferValid", fn := fun _ => fun
  | [d] => { results := [.lit (.bool true)], args := [d] }
  | _ => none }
def fnExactBufferValidRow : OpenClaim := { program := "ytjbengphioankaa", sum := "0d32bd932f788d59c55c2f0f043e48e1ae31e2dfc2208f37f54a2c3448a9fca4", func := "loop.example/mediarelay/laws.FnExactBufferValid", spec := "fnExactBufferValid", apart := false }
def FnExactBufferValidSaid : Prop := fnExactBufferValidRow.holds Try.pinned (OpenSpec.ofChange fnExactBufferValidSpec)

/-- ITS FALSE NEIGHBOUR: 'it returns false'. Refute it at one input. -/
def fnExactBufferValidWrong : ChangeSpec := { name := "fnExactBufferValid", fn := fun _ => fun
  | [d] => { results := [.lit (.bool false)], args := [d] }
  | _ => none }
def FnExactBufferValidWrongFalsely : Prop := fnExactBufferValidRow.holds Try.pinned (OpenSpec.ofChange fnExactBufferValidWrong)

/-- 'laws.FnExactBufferTime': WHATEVER THE INPUT: true; the input reads as it did. -/
def fnExactBufferTimeSpec : ChangeSpec := { name := "fnExactBufferTime", fn := fun _ => fun
  | [d] => { results := [.lit (.bool true)], args := [d] }
  | _ => none }
def fnExactBufferTimeRow : OpenClaim := { program := "ytjbengphioankaa", sum := "0d32bd932f788d59c55c2f0f043e48e1ae31e2dfc2208f37f54a2c3448a9fca4", func := "loop.example/mediarelay/laws.FnExactBufferTime", spec := "fnExactBufferTime", apart := false }
def FnExactBufferTimeSaid : Prop := fnExactBufferTimeRow.holds Try.pinned (OpenSpec.ofChange fnExactBufferTimeSpec)

/-- ITS FALSE NEIGHBOUR: 'it returns false'. Refute it at one input. -/
def fnExactBufferTimeWrong : ChangeSpec := { name := "fnExactBufferTime", fn := fun _ => fun
  | [d] => { results := [.lit (.bool false)], args := [d] }
  | _ => none }
def FnExactBufferTimeWrongFalsely : Prop := fnExactBufferTimeRow.holds Try.pinned (OpenSpec.ofChange fnExactBufferTimeWrong)

/- THE SECOND FORM. 'bulk': how many values and letters a reading holds, each counted each time it is reached (what is shared counts as often as it is met; a slice's spare places count too). A statement '..UptoSaid' is the law's where the arguments, and the package variables that the reading takes, are together of bulk at most 1048576: NARROWER than '..Said'. Prove '..Said' where nothing that the law and all that it calls make is longer than what came in: it says more and counts as full. Else prove '..UptoSaid'. A law counts once. -/
mutual
def uptoBulk {H : Type} : DataW H → Nat
  | .lit (.string bytes) => bytes.length + 1
  | .lit _ => 1
  | .nil => 1
  | .ptr d => uptoBulk d + 1
  | .slice elems spare => uptoBulkAll elems + uptoBulkAll spare + 1
  | .agg parts => uptoBulkAll parts + 1
  | .iface _ d => uptoBulk d + 1
  | .map entries => uptoBulkEntries entries + 1
  | .held _ => 1
def uptoBulkAll {H : Type} : List (DataW H) → Nat
  | [] => 0
  | d :: r => uptoBulk d + uptoBulkAll r
def uptoBulkEntries {H : Type} : List (Lit × DataW H) → Nat
  | [] => 0
  | x :: r => uptoBulkEntry x + uptoBulkEntries r
def uptoBulkEntry {H : Type} : Lit × DataW H → Nat
  | (.string bytes, d) => bytes.length + uptoBulk d + 1
  | (_, d) => uptoBulk d + 1
 end
def uptoSmall : (H : Type) → List (DataW H) → Bool := fun _ ds => decide (uptoBulkAll ds ≤ 1048576)
def OpenSpec.upto (s : _root_.Go.ChangeSpec) : _root_.Go.OpenSpec := { _root_.Go.OpenSpec.ofChange s with cond := some uptoSmall }

/-- 'laws.FnPacerPart', WHERE WHAT IT READS IS OF BULK AT MOST 1048576: true; the input reads as it did. -/
def fnPacerPartUptoRow : OpenClaim := { program := "ytjbengphioankaa", sum := "0d32bd932f788d59c55c2f0f043e48e1ae31e2dfc2208f37f54a2c3448a9fca4", func := "loop.example/mediarelay/laws.FnPacerPart", spec := "fnPacerPart", apart := false, narrowed := true }
def FnPacerPartUptoSaid : Prop := fnPacerPartUptoRow.holds Try.pinned (OpenSpec.upto fnPacerPartSpec)

/-- 'laws.FnExactPacerValid', WHERE WHAT IT READS IS OF BULK AT MOST 1048576: true; the input reads as it did. -/
def fnExactPacerValidUptoRow : OpenClaim := { program := "ytjbengphioankaa", sum := "0d32bd932f788d59c55c2f0f043e48e1ae31e2dfc2208f37f54a2c3448a9fca4", func := "loop.example/mediarelay/laws.FnExactPacerValid", spec := "fnExactPacerValid", apart := false, narrowed := true }
def FnExactPacerValidUptoSaid : Prop := fnExactPacerValidUptoRow.holds Try.pinned (OpenSpec.upto fnExactPacerValidSpec)

/-- 'laws.FnHoldPart', WHERE WHAT IT READS IS OF BULK AT MOST 1048576: true; the input reads as it did. -/
def fnHoldPartUptoRow : OpenClaim := { program := "ytjbengphioankaa", sum := "0d32bd932f788d59c55c2f0f043e48e1ae31e2dfc2208f37f54a2c3448a9fca4", func := "loop.example/mediarelay/laws.FnHoldPart", spec := "fnHoldPart", apart := false, narrowed := true }
def FnHoldPartUptoSaid : Prop := fnHoldPartUptoRow.holds Try.pinned (OpenSpec.upto fnHoldPartSpec)

/-- 'laws.FnHoldTimeNone', WHERE WHAT IT READS IS OF BULK AT MOST 1048576: true; the input reads as it did. -/
def fnHoldTimeNoneUptoRow : OpenClaim := { program := "ytjbengphioankaa", sum := "0d32bd932f788d59c55c2f0f043e48e1ae31e2dfc2208f37f54a2c3448a9fca4", func := "loop.example/mediarelay/laws.FnHoldTimeNone", spec := "fnHoldTimeNone", apart := false, narrowed := true }
def FnHoldTimeNoneUptoSaid : Prop := fnHoldTimeNoneUptoRow.holds Try.pinned (OpenSpec.upto fnHoldTimeNoneSpec)

/-- 'laws.FnExactRoomValid', WHERE WHAT IT READS IS OF BULK AT MOST 1048576: true; the input reads as it did. -/
def fnExactRoomValidUptoRow : OpenClaim := { program := "ytjbengphioankaa", sum := "0d32bd932f788d59c55c2f0f043e48e1ae31e2dfc2208f37f54a2c3448a9fca4", func := "loop.example/mediarelay/laws.FnExactRoomValid", spec := "fnExactRoomValid", apart := false, narrowed := true }
def FnExactRoomValidUptoSaid : Prop := fnExactRoomValidUptoRow.holds Try.pinned (OpenSpec.upto fnExactRoomValidSpec)

/-- 'laws.FnExactBufferValid', WHERE WHAT IT READS IS OF BULK AT MOST 1048576: true; the input reads as it did. -/
def fnExactBufferValidUptoRow : OpenClaim := { program := "ytjbengphioankaa", sum := "0d32bd932f788d59c55c2f0f043e48e1ae31e2dfc2208f37f54a2c3448a9fca4", func := "loop.example/mediarelay/laws.FnExactBufferValid", spec := "fnExactBufferValid", apart := false, narrowed := true }
def FnExactBufferValidUptoSaid : Prop := fnExactBufferValidUptoRow.holds Try.pinned (OpenSpec.upto fnExactBufferValidSpec)

/-- 'laws.FnExactBufferTime', WHERE WHAT IT READS IS OF BULK AT MOST 1048576: true; the input reads as it did. -/
def fnExactBufferTimeUptoRow : OpenClaim := { program := "ytjbengphioankaa", sum := "0d32bd932f788d59c55c2f0f043e48e1ae31e2dfc2208f37f54a2c3448a9fca4", func := "loop.example/mediarelay/laws.FnExactBufferTime", spec := "fnExactBufferTime", apart := false, narrowed := true }
def FnExactBufferTimeUptoSaid : Prop := fnExactBufferTimeUptoRow.holds Try.pinned (OpenSpec.upto fnExactBufferTimeSpec)

end Rows
end Go.Proofs.Ytjbengphioankaa
