/-
  DERIVED. GIVEN WITH THE SEED: THE CARDS: each row of YtdebjgghhiohmaaDoorRows.lean that lists a variable, with what it lists TIED to the program's text (the seventh form; the later family's looks); each row that meets fmt, with fmt's text TOLD by the authors' own Lean function (tested against real Go, not proved from fmt's source: count such statements apart). THE CARD IS WHAT COUNTS. Prove the row's statement (the work); the ties are given (YtdebjgghhiohmaaDoorTie.lean); close each card by the builder's one call (the guide's Derived/Test/ToyasCard.lean, 'card_holds'). Laid BY PROGRAM, IN A SANDBOX (cutbox-door.mjs). By AI agents, Wed Nov 11 2026. No macro, syntax, notation, axiom, sorry.
-/
import Derived.Test.YtdebjgghhiohmaaDoorRows
import GoSem.ClaimSeven
namespace Go.Proofs.YtdebjgghhiohmaaDoor
namespace Rows

/-- THE TIED CARD OF 'laws.FnExactEstimateLoss'. -/
def fnExactEstimateLossCard : Claim7 := { stood := { row := fnExactEstimateLossRow, standIns := [], harness := (true, "a809585f881caa4c1b7a7efffa86c682fdd0d35718efdf5a7f62a53f2592e9d8"), looks := true }, kinds := [], alts := [], laidByText := true, laidKinds := [.sentinel], laidTests := true, laidLooks := .later }
def FnExactEstimateLossCardSaid : Prop := Claim7.holds Tryd.pinned (.plain (OpenSpec.ofChange fnExactEstimateLossSpec)) fnExactEstimateLossCard

/-- THE TIED CARD OF 'laws.FnEstimateLess'. -/
def fnEstimateLessCard : Claim7 := { stood := { row := fnEstimateLessRow, standIns := [], harness := (true, "a809585f881caa4c1b7a7efffa86c682fdd0d35718efdf5a7f62a53f2592e9d8"), looks := true }, kinds := [], alts := [], laidByText := true, laidKinds := [.sentinel], laidTests := true, laidLooks := .later }
def FnEstimateLessCardSaid : Prop := Claim7.holds Tryd.pinned (.plain (OpenSpec.ofChange fnEstimateLessSpec)) fnEstimateLessCard

/-- THE TIED CARD OF 'laws.FnEstimateLoss'. -/
def fnEstimateLossCard : Claim7 := { stood := { row := fnEstimateLossRow, standIns := [], harness := (true, "a809585f881caa4c1b7a7efffa86c682fdd0d35718efdf5a7f62a53f2592e9d8"), looks := true }, kinds := [], alts := [], laidByText := true, laidKinds := [.sentinel], laidTests := true, laidLooks := .later }
def FnEstimateLossCardSaid : Prop := Claim7.holds Tryd.pinned (.plain (OpenSpec.ofChange fnEstimateLossSpec)) fnEstimateLossCard

/-- THE TIED CARD OF 'laws.FnEstimateMore'. -/
def fnEstimateMoreCard : Claim7 := { stood := { row := fnEstimateMoreRow, standIns := [], harness := (true, "a809585f881caa4c1b7a7efffa86c682fdd0d35718efdf5a7f62a53f2592e9d8"), looks := true }, kinds := [], alts := [], laidByText := true, laidKinds := [.sentinel], laidTests := true, laidLooks := .later }
def FnEstimateMoreCardSaid : Prop := Claim7.holds Tryd.pinned (.plain (OpenSpec.ofChange fnEstimateMoreSpec)) fnEstimateMoreCard

/-- THE TIED CARD OF 'laws.FnExactEstimateNext'. -/
def fnExactEstimateNextCard : Claim7 := { stood := { row := fnExactEstimateNextRow, standIns := [], harness := (true, "a809585f881caa4c1b7a7efffa86c682fdd0d35718efdf5a7f62a53f2592e9d8"), looks := true }, kinds := [], alts := [], laidByText := true, laidKinds := [.sentinel], laidTests := true, laidLooks := .later }
def FnExactEstimateNextCardSaid : Prop := Claim7.holds Tryd.pinned (.plain (OpenSpec.ofChange fnExactEstimateNextSpec)) fnExactEstimateNextCard

/-- THE TIED CARD OF 'laws.FnNextOver'. -/
def fnNextOverCard : Claim7 := { stood := { row := fnNextOverRow, standIns := [], harness := (true, "a809585f881caa4c1b7a7efffa86c682fdd0d35718efdf5a7f62a53f2592e9d8"), looks := true }, kinds := [], alts := [], laidByText := true, laidKinds := [.sentinel], laidTests := true, laidLooks := .later }
def FnNextOverCardSaid : Prop := Claim7.holds Tryd.pinned (.plain (OpenSpec.ofChange fnNextOverSpec)) fnNextOverCard

/-- THE TIED CARD OF 'laws.FnNext'. -/
def fnNextCard : Claim7 := { stood := { row := fnNextRow, standIns := [], harness := (true, "a809585f881caa4c1b7a7efffa86c682fdd0d35718efdf5a7f62a53f2592e9d8"), looks := true }, kinds := [], alts := [], laidByText := true, laidKinds := [.sentinel], laidTests := true, laidLooks := .later }
def FnNextCardSaid : Prop := Claim7.holds Tryd.pinned (.plain (OpenSpec.ofChange fnNextSpec)) fnNextCard

/-- THE SECOND FORM's CARD OF 'laws.FnExactEstimateLoss'. -/
def fnExactEstimateLossUptoCard : Claim7 := { stood := { row := fnExactEstimateLossUptoRow, standIns := [], harness := (true, "a809585f881caa4c1b7a7efffa86c682fdd0d35718efdf5a7f62a53f2592e9d8"), looks := true }, kinds := [], alts := [], laidByText := true, laidKinds := [.sentinel], laidTests := true, laidLooks := .later }
def FnExactEstimateLossUptoCardSaid : Prop := Claim7.holds Tryd.pinned (.plain (OpenSpec.upto fnExactEstimateLossSpec)) fnExactEstimateLossUptoCard

/-- THE SECOND FORM's CARD OF 'laws.FnEstimateLess'. -/
def fnEstimateLessUptoCard : Claim7 := { stood := { row := fnEstimateLessUptoRow, standIns := [], harness := (true, "a809585f881caa4c1b7a7efffa86c682fdd0d35718efdf5a7f62a53f2592e9d8"), looks := true }, kinds := [], alts := [], laidByText := true, laidKinds := [.sentinel], laidTests := true, laidLooks := .later }
def FnEstimateLessUptoCardSaid : Prop := Claim7.holds Tryd.pinned (.plain (OpenSpec.upto fnEstimateLessSpec)) fnEstimateLessUptoCard

/-- THE SECOND FORM's CARD OF 'laws.FnEstimateLoss'. -/
def fnEstimateLossUptoCard : Claim7 := { stood := { row := fnEstimateLossUptoRow, standIns := [], harness := (true, "a809585f881caa4c1b7a7efffa86c682fdd0d35718efdf5a7f62a53f2592e9d8"), looks := true }, kinds := [], alts := [], laidByText := true, laidKinds := [.sentinel], laidTests := true, laidLooks := .later }
def FnEstimateLossUptoCardSaid : Prop := Claim7.holds Tryd.pinned (.plain (OpenSpec.upto fnEstimateLossSpec)) fnEstimateLossUptoCard

/-- THE SECOND FORM's CARD OF 'laws.FnEstimateMore'. -/
def fnEstimateMoreUptoCard : Claim7 := { stood := { row := fnEstimateMoreUptoRow, standIns := [], harness := (true, "a809585f881caa4c1b7a7efffa86c682fdd0d35718efdf5a7f62a53f2592e9d8"), looks := true }, kinds := [], alts := [], laidByText := true, laidKinds := [.sentinel], laidTests := true, laidLooks := .later }
def FnEstimateMoreUptoCardSaid : Prop := Claim7.holds Tryd.pinned (.plain (OpenSpec.upto fnEstimateMoreSpec)) fnEstimateMoreUptoCard

/-- THE SECOND FORM's CARD OF 'laws.FnExactEstimateNext'. -/
def fnExactEstimateNextUptoCard : Claim7 := { stood := { row := fnExactEstimateNextUptoRow, standIns := [], harness := (true, "a809585f881caa4c1b7a7efffa86c682fdd0d35718efdf5a7f62a53f2592e9d8"), looks := true }, kinds := [], alts := [], laidByText := true, laidKinds := [.sentinel], laidTests := true, laidLooks := .later }
def FnExactEstimateNextUptoCardSaid : Prop := Claim7.holds Tryd.pinned (.plain (OpenSpec.upto fnExactEstimateNextSpec)) fnExactEstimateNextUptoCard

/-- THE SECOND FORM's CARD OF 'laws.FnNextOver'. -/
def fnNextOverUptoCard : Claim7 := { stood := { row := fnNextOverUptoRow, standIns := [], harness := (true, "a809585f881caa4c1b7a7efffa86c682fdd0d35718efdf5a7f62a53f2592e9d8"), looks := true }, kinds := [], alts := [], laidByText := true, laidKinds := [.sentinel], laidTests := true, laidLooks := .later }
def FnNextOverUptoCardSaid : Prop := Claim7.holds Tryd.pinned (.plain (OpenSpec.upto fnNextOverSpec)) fnNextOverUptoCard

/-- THE SECOND FORM's CARD OF 'laws.FnNext'. -/
def fnNextUptoCard : Claim7 := { stood := { row := fnNextUptoRow, standIns := [], harness := (true, "a809585f881caa4c1b7a7efffa86c682fdd0d35718efdf5a7f62a53f2592e9d8"), looks := true }, kinds := [], alts := [], laidByText := true, laidKinds := [.sentinel], laidTests := true, laidLooks := .later }
def FnNextUptoCardSaid : Prop := Claim7.holds Tryd.pinned (.plain (OpenSpec.upto fnNextSpec)) fnNextUptoCard
end Rows
end Go.Proofs.YtdebjgghhiohmaaDoor
