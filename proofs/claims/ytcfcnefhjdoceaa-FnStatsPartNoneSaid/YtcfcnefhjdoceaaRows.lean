/-
  No cell of these rows narrows 'for every input' (looked for: loops, veiled, ifaces, maps, wideKeys, modest, calm, conditions, laid).
  DERIVED. THE GIVEN ROWS OF THIS SEAT. 8 by the template 'for every input the law returns true; each argument reads behind the call as it read before'; 0 by the template 'total and deterministic' (their statements: YtcfcnefhjdoceaaTotals.lean).
  GIVEN WITH THE SEED: the statements are not yours to turn. If you find one false, say at which input.
  Laid BY PROGRAM, IN A SANDBOX (cutbox-rows.mjs): the forced cells as the released guide's own fill.sh prints them over the translation 1031fa0749222419… (all of the seat's roots in one cut). By AI agents, Wed Nov 11 2026. No macro, syntax, notation, axiom, sorry.
-/
import Derived.Test.YtcfcnefhjdoceaaChecked
import GoSem.Claim
import GoSem.ClaimJoined
import GoSem.ClaimMapViews
import Derived.JoinedTies
import Derived.KernelRfl
namespace Go.Proofs.Ytcfcnefhjdoceaa
/- THE CELL 'sum', in the pinned program and in every row, IS THE sha256 OF THE DUMP (.gsa) THAT YtcfcnefhjdoceaaProg.lean LOADS. Nothing in Lean hashes anything: it is a label: what it is worth is what the hold of that sum in a sandbox is worth. -/
noncomputable def Try.pinned : Pinned := { name := "ytcfcnefhjdoceaa", sum := "1031fa07492224193614ca426d80d9f424822bd3e4b243afa4ca842d5ad2fbbd", checked := Try.checked }
namespace Rows
def none {H : Type} : Left H := { results := [], args := [] }

/-- 'laws.FnExactStatsValid': WHATEVER THE INPUT: true; the input reads as it did. -/
def fnExactStatsValidSpec : ChangeSpec := { name := "fnExactStatsValid", fn := fun _ => fun
  | [d] => { results := [.lit (.bool true)], args := [d] }
  | _ => none }
def fnExactStatsValidRow : OpenClaim := { program := "ytcfcnefhjdoceaa", sum := "1031fa07492224193614ca426d80d9f424822bd3e4b243afa4ca842d5ad2fbbd", func := "loop.example/mediarelay/laws.FnExactStatsValid", spec := "fnExactStatsValid", apart := false }
def FnExactStatsValidSaid : Prop := fnExactStatsValidRow.holds Try.pinned (OpenSpec.ofChange fnExactStatsValidSpec)

/-- ITS FALSE NEIGHBOUR: 'it returns false'. Refute it at one input. -/
def fnExactStatsValidWrong : ChangeSpec := { name := "fnExactStatsValid", fn := fun _ => fun
  | [d] => { results := [.lit (.bool false)], args := [d] }
  | _ => none }
def FnExactStatsValidWrongFalsely : Prop := fnExactStatsValidRow.holds Try.pinned (OpenSpec.ofChange fnExactStatsValidWrong)

/-- 'laws.FnExactStatsLost': WHATEVER THE INPUT: true; the input reads as it did. -/
def fnExactStatsLostSpec : ChangeSpec := { name := "fnExactStatsLost", fn := fun _ => fun
  | [d] => { results := [.lit (.bool true)], args := [d] }
  | _ => none }
def fnExactStatsLostRow : OpenClaim := { program := "ytcfcnefhjdoceaa", sum := "1031fa07492224193614ca426d80d9f424822bd3e4b243afa4ca842d5ad2fbbd", func := "loop.example/mediarelay/laws.FnExactStatsLost", spec := "fnExactStatsLost", apart := false }
def FnExactStatsLostSaid : Prop := fnExactStatsLostRow.holds Try.pinned (OpenSpec.ofChange fnExactStatsLostSpec)

/-- ITS FALSE NEIGHBOUR: 'it returns false'. Refute it at one input. -/
def fnExactStatsLostWrong : ChangeSpec := { name := "fnExactStatsLost", fn := fun _ => fun
  | [d] => { results := [.lit (.bool false)], args := [d] }
  | _ => none }
def FnExactStatsLostWrongFalsely : Prop := fnExactStatsLostRow.holds Try.pinned (OpenSpec.ofChange fnExactStatsLostWrong)

/-- 'laws.FnExactStatsPart': WHATEVER THE INPUT: true; the input reads as it did. -/
def fnExactStatsPartSpec : ChangeSpec := { name := "fnExactStatsPart", fn := fun _ => fun
  | [d1, d2] => { results := [.lit (.bool true)], args := [d1, d2] }
  | _ => none }
def fnExactStatsPartRow : OpenClaim := { program := "ytcfcnefhjdoceaa", sum := "1031fa07492224193614ca426d80d9f424822bd3e4b243afa4ca842d5ad2fbbd", func := "loop.example/mediarelay/laws.FnExactStatsPart", spec := "fnExactStatsPart", apart := false }
def FnExactStatsPartSaid : Prop := fnExactStatsPartRow.holds Try.pinned (OpenSpec.ofChange fnExactStatsPartSpec)

/-- ITS FALSE NEIGHBOUR: 'it returns false'. Refute it at one input. -/
def fnExactStatsPartWrong : ChangeSpec := { name := "fnExactStatsPart", fn := fun _ => fun
  | [d1, d2] => { results := [.lit (.bool false)], args := [d1, d2] }
  | _ => none }
def FnExactStatsPartWrongFalsely : Prop := fnExactStatsPartRow.holds Try.pinned (OpenSpec.ofChange fnExactStatsPartWrong)

/-- 'laws.FnStatsHavePart': WHATEVER THE INPUT: true; the input reads as it did. -/
def fnStatsHavePartSpec : ChangeSpec := { name := "fnStatsHavePart", fn := fun _ => fun
  | [d] => { results := [.lit (.bool true)], args := [d] }
  | _ => none }
def fnStatsHavePartRow : OpenClaim := { program := "ytcfcnefhjdoceaa", sum := "1031fa07492224193614ca426d80d9f424822bd3e4b243afa4ca842d5ad2fbbd", func := "loop.example/mediarelay/laws.FnStatsHavePart", spec := "fnStatsHavePart", apart := false }
def FnStatsHavePartSaid : Prop := fnStatsHavePartRow.holds Try.pinned (OpenSpec.ofChange fnStatsHavePartSpec)

/-- ITS FALSE NEIGHBOUR: 'it returns false'. Refute it at one input. -/
def fnStatsHavePartWrong : ChangeSpec := { name := "fnStatsHavePart", fn := fun _ => fun
  | [d] => { results := [.lit (.bool false)], args := [d] }
  | _ => none }
def FnStatsHavePartWrongFalsely : Prop := fnStatsHavePartRow.holds Try.pinned (OpenSpec.ofChange fnStatsHavePartWrong)

/-- 'laws.FnStatsLost': WHATEVER THE INPUT: true; the input reads as it did. -/
def fnStatsLostSpec : ChangeSpec := { name := "fnStatsLost", fn := fun _ => fun
  | [d] => { results := [.lit (.bool true)], args := [d] }
  | _ => none }
def fnStatsLostRow : OpenClaim := { program := "ytcfcnefhjdoceaa", sum := "1031fa07492224193614ca426d80d9f424822bd3e4b243afa4ca842d5ad2fbbd", func := "loop.example/mediarelay/laws.FnStatsLost", spec := "fnStatsLost", apart := false }
def FnStatsLostSaid : Prop := fnStatsLostRow.holds Try.pinned (OpenSpec.ofChange fnStatsLostSpec)

/-- ITS FALSE NEIGHBOUR: 'it returns false'. Refute it at one input. -/
def fnStatsLostWrong : ChangeSpec := { name := "fnStatsLost", fn := fun _ => fun
  | [d] => { results := [.lit (.bool false)], args := [d] }
  | _ => none }
def FnStatsLostWrongFalsely : Prop := fnStatsLostRow.holds Try.pinned (OpenSpec.ofChange fnStatsLostWrong)

/-- 'laws.FnStatsPart': WHATEVER THE INPUT: true; the input reads as it did. -/
def fnStatsPartSpec : ChangeSpec := { name := "fnStatsPart", fn := fun _ => fun
  | [d] => { results := [.lit (.bool true)], args := [d] }
  | _ => none }
def fnStatsPartRow : OpenClaim := { program := "ytcfcnefhjdoceaa", sum := "1031fa07492224193614ca426d80d9f424822bd3e4b243afa4ca842d5ad2fbbd", func := "loop.example/mediarelay/laws.FnStatsPart", spec := "fnStatsPart", apart := false }
def FnStatsPartSaid : Prop := fnStatsPartRow.holds Try.pinned (OpenSpec.ofChange fnStatsPartSpec)

/-- ITS FALSE NEIGHBOUR: 'it returns false'. Refute it at one input. -/
def fnStatsPartWrong : ChangeSpec := { name := "fnStatsPart", fn := fun _ => fun
  | [d] => { results := [.lit (.bool false)], args := [d] }
  | _ => none }
def FnStatsPartWrongFalsely : Prop := fnStatsPartRow.holds Try.pinned (OpenSpec.ofChange fnStatsPartWrong)

/-- 'laws.FnStatsPartLost': WHATEVER THE INPUT: true; the input reads as it did. -/
def fnStatsPartLostSpec : ChangeSpec := { name := "fnStatsPartLost", fn := fun _ => fun
  | [d] => { results := [.lit (.bool true)], args := [d] }
  | _ => none }
def fnStatsPartLostRow : OpenClaim := { program := "ytcfcnefhjdoceaa", sum := "1031fa07492224193614ca426d80d9f424822bd3e4b243afa4ca842d5ad2fbbd", func := "loop.example/mediarelay/laws.FnStatsPartLost", spec := "fnStatsPartLost", apart := false }
def FnStatsPartLostSaid : Prop := fnStatsPartLostRow.holds Try.pinned (OpenSpec.ofChange fnStatsPartLostSpec)

/-- ITS FALSE NEIGHBOUR: 'it returns false'. Refute it at one input. -/
def fnStatsPartLostWrong : ChangeSpec := { name := "fnStatsPartLost", fn := fun _ => fun
  | [d] => { results := [.lit (.bool false)], args := [d] }
  | _ => none }
def FnStatsPartLostWrongFalsely : Prop := fnStatsPartLostRow.holds Try.pinned (OpenSpec.ofChange fnStatsPartLostWrong)

/-- 'laws.FnStatsPartNone': WHATEVER THE INPUT: true; the input reads as it did. -/
def fnStatsPartNoneSpec : ChangeSpec := { name := "fnStatsPartNone", fn := fun _ => fun
  | [d] => { results := [.lit (.bool true)], args := [d] }
  | _ => none }
def fnStatsPartNoneRow : OpenClaim := { program := "ytcfcnefhjdoceaa", sum := "1031fa07492224193614ca426d80d9f424822bd3e4b243afa4ca842d5ad2fbbd", func := "loop.example/mediarelay/laws.FnStatsPartNone", spec := "fnStatsPartNone", apart := false }
def FnStatsPartNoneSaid : Prop := fnStatsPartNoneRow.holds Try.pinned (OpenSpec.ofChange fnStatsPartNoneSpec)

/-- ITS FALSE NEIGHBOUR: 'it returns false'. Refute it at one input. -/
def fnStatsPartNoneWrong : ChangeSpec := { name := "fnStatsPartNone", fn := fun _ => fun
  | [d] => { results := [.lit (.bool false)], args := [d] }
  | _ => none }
def FnStatsPartNoneWrongFalsely : Prop := fnStatsPartNoneRow.holds Try.pinned (OpenSpec.ofChange fnStatsPartNoneWrong)

/- THE SECOND FORM. 'bulk': how many values and letters a reading holds, each counted each time it is reached (what is shared counts as often as it is met; a slice's spare places count too). A statement '..UptoSaid' is the law's where the arguments, and the package variables that the reading takes, are together of bulk at most 1048576: NARROWER than '..Said'. Prove '..Said' where nothing that the law and all that it calls make is longer than what came in: it says more and counts as full. Else prove '..UptoSaid'. A law counts once. -/
mutual
def uptoBulk {H : Type} : DataW H → Nat
  | .lit (.string bytes) => bytes.length + 1
  | .lit _ => 1
  | .nil => 1
  | .ptr d => uptoBulk d + 1
  | .slice elems spare => uptoBulkAll elems + uptoBulkAll spare + 1
  | .agg parts => uptoBulkAll parts + 1
  | .iface _ d => uptoBulk d + 1
  | .map entries => uptoBulkEntries entries + 1
  | .held _ => 1
def uptoBulkAll {H : Type} : List (DataW H) → Nat
  | [] => 0
  | d :: r => uptoBulk d + uptoBulkAll r
def uptoBulkEntries {H : Type} : List (Lit × DataW H) → Nat
  | [] => 0
  | x :: r => uptoBulkEntry x + uptoBulkEntries r
def uptoBulkEntry {H : Type} : Lit × DataW H → Nat
  | (.string bytes, d) => bytes.length + uptoBulk d + 1
  | (_, d) => uptoBulk d + 1
 end
def uptoSmall : (H : Type) → List (DataW H) → Bool := fun _ ds => decide (uptoBulkAll ds ≤ 1048576)
def OpenSpec.upto (s : _root_.Go.ChangeSpec) : _root_.Go.OpenSpec := { _root_.Go.OpenSpec.ofChange s with cond := some uptoSmall }

/-- 'laws.FnExactStatsValid', WHERE WHAT IT READS IS OF BULK AT MOST 1048576: true; the input reads as it did. -/
def fnExactStatsValidUptoRow : OpenClaim := { program := "ytcfcnefhjdoceaa", sum := "1031fa07492224193614ca426d80d9f424822bd3e4b243afa4ca842d5ad2fbbd", func := "loop.example/mediarelay/laws.FnExactStatsValid", spec := "fnExactStatsValid", apart := false, narrowed := true }
def FnExactStatsValidUptoSaid : Prop := fnExactStatsValidUptoRow.holds Try.pinned (OpenSpec.upto fnExactStatsValidSpec)

/-- 'laws.FnExactStatsLost', WHERE WHAT IT READS IS OF BULK AT MOST 1048576: true; the input reads as it did. -/
def fnExactStatsLostUptoRow : OpenClaim := { program := "ytcfcnefhjdoceaa", sum := "1031fa07492224193614ca426d80d9f424822bd3e4b243afa4ca842d5ad2fbbd", func := "loop.example/mediarelay/laws.FnExactStatsLost", spec := "fnExactStatsLost", apart := false, narrowed := true }
def FnExactStatsLostUptoSaid : Prop := fnExactStatsLostUptoRow.holds Try.pinned (OpenSpec.upto fnExactStatsLostSpec)

/-- 'laws.FnExactStatsPart', WHERE WHAT IT READS IS OF BULK AT MOST 1048576: true; the input reads as it did. -/
def fnExactStatsPartUptoRow : OpenClaim := { program := "ytcfcnefhjdoceaa", sum := "1031fa07492224193614ca426d80d9f424822bd3e4b243afa4ca842d5ad2fbbd", func := "loop.example/mediarelay/laws.FnExactStatsPart", spec := "fnExactStatsPart", apart := false, narrowed := true }
def FnExactStatsPartUptoSaid : Prop := fnExactStatsPartUptoRow.holds Try.pinned (OpenSpec.upto fnExactStatsPartSpec)

/-- 'laws.FnStatsHavePart', WHERE WHAT IT READS IS OF BULK AT MOST 1048576: true; the input reads as it did. -/
def fnStatsHavePartUptoRow : OpenClaim := { program := "ytcfcnefhjdoceaa", sum := "1031fa07492224193614ca426d80d9f424822bd3e4b243afa4ca842d5ad2fbbd", func := "loop.example/mediarelay/laws.FnStatsHavePart", spec := "fnStatsHavePart", apart := false, narrowed := true }
def FnStatsHavePartUptoSaid : Prop := fnStatsHavePartUptoRow.holds Try.pinned (OpenSpec.upto fnStatsHavePartSpec)

/-- 'laws.FnStatsLost', WHERE WHAT IT READS IS OF BULK AT MOST 1048576: true; the input reads as it did. -/
def fnStatsLostUptoRow : OpenClaim := { program := "ytcfcnefhjdoceaa", sum := "1031fa07492224193614ca426d80d9f424822bd3e4b243afa4ca842d5ad2fbbd", func := "loop.example/mediarelay/laws.FnStatsLost", spec := "fnStatsLost", apart := false, narrowed := true }
def FnStatsLostUptoSaid : Prop := fnStatsLostUptoRow.holds Try.pinned (OpenSpec.upto fnStatsLostSpec)

/-- 'laws.FnStatsPart', WHERE WHAT IT READS IS OF BULK AT MOST 1048576: true; the input reads as it did. -/
def fnStatsPartUptoRow : OpenClaim := { program := "ytcfcnefhjdoceaa", sum := "1031fa07492224193614ca426d80d9f424822bd3e4b243afa4ca842d5ad2fbbd", func := "loop.example/mediarelay/laws.FnStatsPart", spec := "fnStatsPart", apart := false, narrowed := true }
def FnStatsPartUptoSaid : Prop := fnStatsPartUptoRow.holds Try.pinned (OpenSpec.upto fnStatsPartSpec)

/-- 'laws.FnStatsPartLost', WHERE WHAT IT READS IS OF BULK AT MOST 1048576: true; the input reads as it did. -/
def fnStatsPartLostUptoRow : OpenClaim := { program := "ytcfcnefhjdoceaa", sum := "1031fa07492224193614ca426d80d9f424822bd3e4b243afa4ca842d5ad2fbbd", func := "loop.example/mediarelay/laws.FnStatsPartLost", spec := "fnStatsPartLost", apart := false, narrowed := true }
def FnStatsPartLostUptoSaid : Prop := fnStatsPartLostUptoRow.holds Try.pinned (OpenSpec.upto fnStatsPartLostSpec)

/-- 'laws.FnStatsPartNone', WHERE WHAT IT READS IS OF BULK AT MOST 1048576: true; the input reads as it did. -/
def fnStatsPartNoneUptoRow : OpenClaim := { program := "ytcfcnefhjdoceaa", sum := "1031fa07492224193614ca426d80d9f424822bd3e4b243afa4ca842d5ad2fbbd", func := "loop.example/mediarelay/laws.FnStatsPartNone", spec := "fnStatsPartNone", apart := false, narrowed := true }
def FnStatsPartNoneUptoSaid : Prop := fnStatsPartNoneUptoRow.holds Try.pinned (OpenSpec.upto fnStatsPartNoneSpec)

end Rows
end Go.Proofs.Ytcfcnefhjdoceaa
