/-
  NARROWER THAN 'FOR EVERY INPUT', by the rows' own cells (each row's printed sentence says how): FnExactEstimateLoss: ifaces, laid · FnEstimateLess: ifaces, laid · FnEstimateLoss: ifaces, laid · FnEstimateMore: ifaces, laid · FnExactEstimateNext: ifaces, laid · FnNextOver: ifaces, laid · FnNext: ifaces, laid.
  DERIVED. THE GIVEN ROWS OF THIS SEAT. 7 by the template 'for every input the law returns true; each argument reads behind the call as it read before'; 0 by the template 'total and deterministic' (their statements: YtdebjgghhiohmaaDoorTotals.lean).
  GIVEN WITH THE SEED: the statements are not yours to turn. If you find one false, say at which input.
  Laid BY PROGRAM, IN A SANDBOX (cutbox-rows.mjs): the forced cells as the released guide's own fill.sh prints them over the translation ef634878de350f60… (all of the seat's roots in one cut). By AI agents, Wed Nov 11 2026. No macro, syntax, notation, axiom, sorry.
-/
import Derived.Test.YtdebjgghhiohmaaDoorChecked
import GoSem.Claim
import GoSem.ClaimJoined
import GoSem.ClaimMapViews
import Derived.JoinedTies
import Derived.KernelRfl
namespace Go.Proofs.YtdebjgghhiohmaaDoor
/- THE CELL 'sum', in the pinned program and in every row, IS THE sha256 OF THE DUMP (.gsa) THAT YtdebjgghhiohmaaDoorProg.lean LOADS. Nothing in Lean hashes anything: it is a label: what it is worth is what the hold of that sum in a sandbox is worth. -/
noncomputable def Tryd.pinned : Pinned := { name := "ytdebjgghhiohmaadoor", sum := "ef634878de350f6068406ec273fcbd5d611ca1d36c07332521c7dfecb6464bee", checked := Tryd.checked }
namespace Rows
def none {H : Type} : Left H := { results := [], args := [] }

/- WHAT THE LISTED PACKAGE-LEVEL VARIABLES READ AS WHEN THE CALL BEGINS. Each datum BY PROGRAM (the guide's laid-datum.mjs) off the statement by which the dump's own 'gosem.cut.vars' lays the variable. In a bare row this is a premise. The card (YtdebjgghhiohmaaDoorCards.lean) ties it to the program's text. -/
def laid_loop_example_mediarelay_impl_errEstimate {H : Type} : DataW H := .iface "*errors.errorString" (.ptr (.agg [.lit (.string [105, 110, 118, 97, 108, 105, 100, 32, 101, 115, 116, 105, 109, 97, 116, 101])]))

/-- 'laws.FnExactEstimateLoss': WHATEVER THE INPUT: true; the input reads as it did. -/
def fnExactEstimateLossSpec : ChangeSpec := { name := "fnExactEstimateLoss", vars := ["loop.example/mediarelay/impl.errEstimate"], fn := fun _ => fun
  | [d1, d2, g1] => { results := [.lit (.bool true)], args := [d1, d2], vars := [g1] }
  | _ => none }
def fnExactEstimateLossRow : OpenClaim := { program := "ytdebjgghhiohmaadoor", sum := "ef634878de350f6068406ec273fcbd5d611ca1d36c07332521c7dfecb6464bee", func := "loop.example/mediarelay/laws.FnExactEstimateLoss", spec := "fnExactEstimateLoss", inPlace := ["internal/reflectlite.TypeOf"], unfollowed := true, recurses := true, named := ["loop.example/mediarelay/impl.errEstimate"], ifaces := true, apart := false, laid := [("loop.example/mediarelay/impl.errEstimate", laid_loop_example_mediarelay_impl_errEstimate)] }
def FnExactEstimateLossSaid : Prop := fnExactEstimateLossRow.holds Tryd.pinned (OpenSpec.ofChange fnExactEstimateLossSpec)

/-- ITS FALSE NEIGHBOUR: 'it returns false'. Refute it at one input. -/
def fnExactEstimateLossWrong : ChangeSpec := { name := "fnExactEstimateLoss", vars := ["loop.example/mediarelay/impl.errEstimate"], fn := fun _ => fun
  | [d1, d2, g1] => { results := [.lit (.bool false)], args := [d1, d2], vars := [g1] }
  | _ => none }
def FnExactEstimateLossWrongFalsely : Prop := fnExactEstimateLossRow.holds Tryd.pinned (OpenSpec.ofChange fnExactEstimateLossWrong)

/-- 'laws.FnEstimateLess': WHATEVER THE INPUT: true; the input reads as it did. -/
def fnEstimateLessSpec : ChangeSpec := { name := "fnEstimateLess", vars := ["loop.example/mediarelay/impl.errEstimate"], fn := fun _ => fun
  | [d, g1] => { results := [.lit (.bool true)], args := [d], vars := [g1] }
  | _ => none }
def fnEstimateLessRow : OpenClaim := { program := "ytdebjgghhiohmaadoor", sum := "ef634878de350f6068406ec273fcbd5d611ca1d36c07332521c7dfecb6464bee", func := "loop.example/mediarelay/laws.FnEstimateLess", spec := "fnEstimateLess", inPlace := ["internal/reflectlite.TypeOf"], unfollowed := true, recurses := true, named := ["loop.example/mediarelay/impl.errEstimate"], ifaces := true, apart := false, laid := [("loop.example/mediarelay/impl.errEstimate", laid_loop_example_mediarelay_impl_errEstimate)] }
def FnEstimateLessSaid : Prop := fnEstimateLessRow.holds Tryd.pinned (OpenSpec.ofChange fnEstimateLessSpec)

/-- ITS FALSE NEIGHBOUR: 'it returns false'. Refute it at one input. -/
def fnEstimateLessWrong : ChangeSpec := { name := "fnEstimateLess", vars := ["loop.example/mediarelay/impl.errEstimate"], fn := fun _ => fun
  | [d, g1] => { results := [.lit (.bool false)], args := [d], vars := [g1] }
  | _ => none }
def FnEstimateLessWrongFalsely : Prop := fnEstimateLessRow.holds Tryd.pinned (OpenSpec.ofChange fnEstimateLessWrong)

/-- 'laws.FnEstimateLoss': WHATEVER THE INPUT: true; the input reads as it did. -/
def fnEstimateLossSpec : ChangeSpec := { name := "fnEstimateLoss", vars := ["loop.example/mediarelay/impl.errEstimate"], fn := fun _ => fun
  | [d, g1] => { results := [.lit (.bool true)], args := [d], vars := [g1] }
  | _ => none }
def fnEstimateLossRow : OpenClaim := { program := "ytdebjgghhiohmaadoor", sum := "ef634878de350f6068406ec273fcbd5d611ca1d36c07332521c7dfecb6464bee", func := "loop.example/mediarelay/laws.FnEstimateLoss", spec := "fnEstimateLoss", inPlace := ["internal/reflectlite.TypeOf"], unfollowed := true, recurses := true, named := ["loop.example/mediarelay/impl.errEstimate"], ifaces := true, apart := false, laid := [("loop.example/mediarelay/impl.errEstimate", laid_loop_example_mediarelay_impl_errEstimate)] }
def FnEstimateLossSaid : Prop := fnEstimateLossRow.holds Tryd.pinned (OpenSpec.ofChange fnEstimateLossSpec)

/-- ITS FALSE NEIGHBOUR: 'it returns false'. Refute it at one input. -/
def fnEstimateLossWrong : ChangeSpec := { name := "fnEstimateLoss", vars := ["loop.example/mediarelay/impl.errEstimate"], fn := fun _ => fun
  | [d, g1] => { results := [.lit (.bool false)], args := [d], vars := [g1] }
  | _ => none }
def FnEstimateLossWrongFalsely : Prop := fnEstimateLossRow.holds Tryd.pinned (OpenSpec.ofChange fnEstimateLossWrong)

/-- 'laws.FnEstimateMore': WHATEVER THE INPUT: true; the input reads as it did. -/
def fnEstimateMoreSpec : ChangeSpec := { name := "fnEstimateMore", vars := ["loop.example/mediarelay/impl.errEstimate"], fn := fun _ => fun
  | [d, g1] => { results := [.lit (.bool true)], args := [d], vars := [g1] }
  | _ => none }
def fnEstimateMoreRow : OpenClaim := { program := "ytdebjgghhiohmaadoor", sum := "ef634878de350f6068406ec273fcbd5d611ca1d36c07332521c7dfecb6464bee", func := "loop.example/mediarelay/laws.FnEstimateMore", spec := "fnEstimateMore", inPlace := ["internal/reflectlite.TypeOf"], unfollowed := true, recurses := true, named := ["loop.example/mediarelay/impl.errEstimate"], ifaces := true, apart := false, laid := [("loop.example/mediarelay/impl.errEstimate", laid_loop_example_mediarelay_impl_errEstimate)] }
def FnEstimateMoreSaid : Prop := fnEstimateMoreRow.holds Tryd.pinned (OpenSpec.ofChange fnEstimateMoreSpec)

/-- ITS FALSE NEIGHBOUR: 'it returns false'. Refute it at one input. -/
def fnEstimateMoreWrong : ChangeSpec := { name := "fnEstimateMore", vars := ["loop.example/mediarelay/impl.errEstimate"], fn := fun _ => fun
  | [d, g1] => { results := [.lit (.bool false)], args := [d], vars := [g1] }
  | _ => none }
def FnEstimateMoreWrongFalsely : Prop := fnEstimateMoreRow.holds Tryd.pinned (OpenSpec.ofChange fnEstimateMoreWrong)

/-- 'laws.FnExactEstimateNext': WHATEVER THE INPUT: true; the input reads as it did. -/
def fnExactEstimateNextSpec : ChangeSpec := { name := "fnExactEstimateNext", vars := ["loop.example/mediarelay/impl.errEstimate"], fn := fun _ => fun
  | [d1, d2, d3, g1] => { results := [.lit (.bool true)], args := [d1, d2, d3], vars := [g1] }
  | _ => none }
def fnExactEstimateNextRow : OpenClaim := { program := "ytdebjgghhiohmaadoor", sum := "ef634878de350f6068406ec273fcbd5d611ca1d36c07332521c7dfecb6464bee", func := "loop.example/mediarelay/laws.FnExactEstimateNext", spec := "fnExactEstimateNext", inPlace := ["internal/reflectlite.TypeOf"], unfollowed := true, recurses := true, named := ["loop.example/mediarelay/impl.errEstimate"], ifaces := true, apart := false, laid := [("loop.example/mediarelay/impl.errEstimate", laid_loop_example_mediarelay_impl_errEstimate)] }
def FnExactEstimateNextSaid : Prop := fnExactEstimateNextRow.holds Tryd.pinned (OpenSpec.ofChange fnExactEstimateNextSpec)

/-- ITS FALSE NEIGHBOUR: 'it returns false'. Refute it at one input. -/
def fnExactEstimateNextWrong : ChangeSpec := { name := "fnExactEstimateNext", vars := ["loop.example/mediarelay/impl.errEstimate"], fn := fun _ => fun
  | [d1, d2, d3, g1] => { results := [.lit (.bool false)], args := [d1, d2, d3], vars := [g1] }
  | _ => none }
def FnExactEstimateNextWrongFalsely : Prop := fnExactEstimateNextRow.holds Tryd.pinned (OpenSpec.ofChange fnExactEstimateNextWrong)

/-- 'laws.FnNextOver': WHATEVER THE INPUT: true; the input reads as it did. -/
def fnNextOverSpec : ChangeSpec := { name := "fnNextOver", vars := ["loop.example/mediarelay/impl.errEstimate"], fn := fun _ => fun
  | [d, g1] => { results := [.lit (.bool true)], args := [d], vars := [g1] }
  | _ => none }
def fnNextOverRow : OpenClaim := { program := "ytdebjgghhiohmaadoor", sum := "ef634878de350f6068406ec273fcbd5d611ca1d36c07332521c7dfecb6464bee", func := "loop.example/mediarelay/laws.FnNextOver", spec := "fnNextOver", inPlace := ["internal/reflectlite.TypeOf"], unfollowed := true, recurses := true, named := ["loop.example/mediarelay/impl.errEstimate"], ifaces := true, apart := false, laid := [("loop.example/mediarelay/impl.errEstimate", laid_loop_example_mediarelay_impl_errEstimate)] }
def FnNextOverSaid : Prop := fnNextOverRow.holds Tryd.pinned (OpenSpec.ofChange fnNextOverSpec)

/-- ITS FALSE NEIGHBOUR: 'it returns false'. Refute it at one input. -/
def fnNextOverWrong : ChangeSpec := { name := "fnNextOver", vars := ["loop.example/mediarelay/impl.errEstimate"], fn := fun _ => fun
  | [d, g1] => { results := [.lit (.bool false)], args := [d], vars := [g1] }
  | _ => none }
def FnNextOverWrongFalsely : Prop := fnNextOverRow.holds Tryd.pinned (OpenSpec.ofChange fnNextOverWrong)

/-- 'laws.FnNext': WHATEVER THE INPUT: true; the input reads as it did. -/
def fnNextSpec : ChangeSpec := { name := "fnNext", vars := ["loop.example/mediarelay/impl.errEstimate"], fn := fun _ => fun
  | [d, g1] => { results := [.lit (.bool true)], args := [d], vars := [g1] }
  | _ => none }
def fnNextRow : OpenClaim := { program := "ytdebjgghhiohmaadoor", sum := "ef634878de350f6068406ec273fcbd5d611ca1d36c07332521c7dfecb6464bee", func := "loop.example/mediarelay/laws.FnNext", spec := "fnNext", inPlace := ["internal/reflectlite.TypeOf"], unfollowed := true, recurses := true, named := ["loop.example/mediarelay/impl.errEstimate"], ifaces := true, apart := false, laid := [("loop.example/mediarelay/impl.errEstimate", laid_loop_example_mediarelay_impl_errEstimate)] }
def FnNextSaid : Prop := fnNextRow.holds Tryd.pinned (OpenSpec.ofChange fnNextSpec)

/-- ITS FALSE NEIGHBOUR: 'it returns false'. Refute it at one input. -/
def fnNextWrong : ChangeSpec := { name := "fnNext", vars := ["loop.example/mediarelay/impl.errEstimate"], fn := fun _ => fun
  | [d, g1] => { results := [.lit (.bool false)], args := [d], vars := [g1] }
  | _ => none }
def FnNextWrongFalsely : Prop := fnNextRow.holds Tryd.pinned (OpenSpec.ofChange fnNextWrong)

/- THE SECOND FORM. 'bulk': how many values and letters a reading holds, each counted each time it is reached (what is shared counts as often as it is met; a slice's spare places count too). A statement '..UptoSaid' is the law's where the arguments, and the package variables that the reading takes, are together of bulk at most 1048576: NARROWER than '..Said'. Prove '..Said' where nothing that the law and all that it calls make is longer than what came in: it says more and counts as full. Else prove '..UptoSaid'. A law counts once. -/
mutual
def uptoBulk {H : Type} : DataW H → Nat
  | .lit (.string bytes) => bytes.length + 1
  | .lit _ => 1
  | .nil => 1
  | .ptr d => uptoBulk d + 1
  | .slice elems spare => uptoBulkAll elems + uptoBulkAll spare + 1
  | .agg parts => uptoBulkAll parts + 1
  | .iface _ d => uptoBulk d + 1
  | .map entries => uptoBulkEntries entries + 1
  | .held _ => 1
def uptoBulkAll {H : Type} : List (DataW H) → Nat
  | [] => 0
  | d :: r => uptoBulk d + uptoBulkAll r
def uptoBulkEntries {H : Type} : List (Lit × DataW H) → Nat
  | [] => 0
  | x :: r => uptoBulkEntry x + uptoBulkEntries r
def uptoBulkEntry {H : Type} : Lit × DataW H → Nat
  | (.string bytes, d) => bytes.length + uptoBulk d + 1
  | (_, d) => uptoBulk d + 1
 end
def uptoSmall : (H : Type) → List (DataW H) → Bool := fun _ ds => decide (uptoBulkAll ds ≤ 1048576)
def OpenSpec.upto (s : _root_.Go.ChangeSpec) : _root_.Go.OpenSpec := { _root_.Go.OpenSpec.ofChange s with cond := some uptoSmall }

/-- 'laws.FnExactEstimateLoss', WHERE WHAT IT READS IS OF BULK AT MOST 1048576: true; the input reads as it did. -/
def fnExactEstimateLossUptoRow : OpenClaim := { program := "ytdebjgghhiohmaadoor", sum := "ef634878de350f6068406ec273fcbd5d611ca1d36c07332521c7dfecb6464bee", func := "loop.example/mediarelay/laws.FnExactEstimateLoss", spec := "fnExactEstimateLoss", inPlace := ["internal/reflectlite.TypeOf"], unfollowed := true, recurses := true, named := ["loop.example/mediarelay/impl.errEstimate"], ifaces := true, apart := false, laid := [("loop.example/mediarelay/impl.errEstimate", laid_loop_example_mediarelay_impl_errEstimate)], narrowed := true }
def FnExactEstimateLossUptoSaid : Prop := fnExactEstimateLossUptoRow.holds Tryd.pinned (OpenSpec.upto fnExactEstimateLossSpec)

/-- 'laws.FnEstimateLess', WHERE WHAT IT READS IS OF BULK AT MOST 1048576: true; the input reads as it did. -/
def fnEstimateLessUptoRow : OpenClaim := { program := "ytdebjgghhiohmaadoor", sum := "ef634878de350f6068406ec273fcbd5d611ca1d36c07332521c7dfecb6464bee", func := "loop.example/mediarelay/laws.FnEstimateLess", spec := "fnEstimateLess", inPlace := ["internal/reflectlite.TypeOf"], unfollowed := true, recurses := true, named := ["loop.example/mediarelay/impl.errEstimate"], ifaces := true, apart := false, laid := [("loop.example/mediarelay/impl.errEstimate", laid_loop_example_mediarelay_impl_errEstimate)], narrowed := true }
def FnEstimateLessUptoSaid : Prop := fnEstimateLessUptoRow.holds Tryd.pinned (OpenSpec.upto fnEstimateLessSpec)

/-- 'laws.FnEstimateLoss', WHERE WHAT IT READS IS OF BULK AT MOST 1048576: true; the input reads as it did. -/
def fnEstimateLossUptoRow : OpenClaim := { program := "ytdebjgghhiohmaadoor", sum := "ef634878de350f6068406ec273fcbd5d611ca1d36c07332521c7dfecb6464bee", func := "loop.example/mediarelay/laws.FnEstimateLoss", spec := "fnEstimateLoss", inPlace := ["internal/reflectlite.TypeOf"], unfollowed := true, recurses := true, named := ["loop.example/mediarelay/impl.errEstimate"], ifaces := true, apart := false, laid := [("loop.example/mediarelay/impl.errEstimate", laid_loop_example_mediarelay_impl_errEstimate)], narrowed := true }
def FnEstimateLossUptoSaid : Prop := fnEstimateLossUptoRow.holds Tryd.pinned (OpenSpec.upto fnEstimateLossSpec)

/-- 'laws.FnEstimateMore', WHERE WHAT IT READS IS OF BULK AT MOST 1048576: true; the input reads as it did. -/
def fnEstimateMoreUptoRow : OpenClaim := { program := "ytdebjgghhiohmaadoor", sum := "ef634878de350f6068406ec273fcbd5d611ca1d36c07332521c7dfecb6464bee", func := "loop.example/mediarelay/laws.FnEstimateMore", spec := "fnEstimateMore", inPlace := ["internal/reflectlite.TypeOf"], unfollowed := true, recurses := true, named := ["loop.example/mediarelay/impl.errEstimate"], ifaces := true, apart := false, laid := [("loop.example/mediarelay/impl.errEstimate", laid_loop_example_mediarelay_impl_errEstimate)], narrowed := true }
def FnEstimateMoreUptoSaid : Prop := fnEstimateMoreUptoRow.holds Tryd.pinned (OpenSpec.upto fnEstimateMoreSpec)

/-- 'laws.FnExactEstimateNext', WHERE WHAT IT READS IS OF BULK AT MOST 1048576: true; the input reads as it did. -/
def fnExactEstimateNextUptoRow : OpenClaim := { program := "ytdebjgghhiohmaadoor", sum := "ef634878de350f6068406ec273fcbd5d611ca1d36c07332521c7dfecb6464bee", func := "loop.example/mediarelay/laws.FnExactEstimateNext", spec := "fnExactEstimateNext", inPlace := ["internal/reflectlite.TypeOf"], unfollowed := true, recurses := true, named := ["loop.example/mediarelay/impl.errEstimate"], ifaces := true, apart := false, laid := [("loop.example/mediarelay/impl.errEstimate", laid_loop_example_mediarelay_impl_errEstimate)], narrowed := true }
def FnExactEstimateNextUptoSaid : Prop := fnExactEstimateNextUptoRow.holds Tryd.pinned (OpenSpec.upto fnExactEstimateNextSpec)

/-- 'laws.FnNextOver', WHERE WHAT IT READS IS OF BULK AT MOST 1048576: true; the input reads as it did. -/
def fnNextOverUptoRow : OpenClaim := { program := "ytdebjgghhiohmaadoor", sum := "ef634878de350f6068406ec273fcbd5d611ca1d36c07332521c7dfecb6464bee", func := "loop.example/mediarelay/laws.FnNextOver", spec := "fnNextOver", inPlace := ["internal/reflectlite.TypeOf"], unfollowed := true, recurses := true, named := ["loop.example/mediarelay/impl.errEstimate"], ifaces := true, apart := false, laid := [("loop.example/mediarelay/impl.errEstimate", laid_loop_example_mediarelay_impl_errEstimate)], narrowed := true }
def FnNextOverUptoSaid : Prop := fnNextOverUptoRow.holds Tryd.pinned (OpenSpec.upto fnNextOverSpec)

/-- 'laws.FnNext', WHERE WHAT IT READS IS OF BULK AT MOST 1048576: true; the input reads as it did. -/
def fnNextUptoRow : OpenClaim := { program := "ytdebjgghhiohmaadoor", sum := "ef634878de350f6068406ec273fcbd5d611ca1d36c07332521c7dfecb6464bee", func := "loop.example/mediarelay/laws.FnNext", spec := "fnNext", inPlace := ["internal/reflectlite.TypeOf"], unfollowed := true, recurses := true, named := ["loop.example/mediarelay/impl.errEstimate"], ifaces := true, apart := false, laid := [("loop.example/mediarelay/impl.errEstimate", laid_loop_example_mediarelay_impl_errEstimate)], narrowed := true }
def FnNextUptoSaid : Prop := fnNextUptoRow.holds Tryd.pinned (OpenSpec.upto fnNextSpec)

end Rows
end Go.Proofs.YtdebjgghhiohmaaDoor
