/- Slices of ints that a law copies and compares: toIntS, eqIntS. -/
import Derived.Test.YticelpaicenbkaaI
import Derived.Deep.OwnRows
namespace Go.Proofs.Yticelpaicenbkaa
open Go.ChangeShapes Go.WideShapes Go.ChangeAt Go.RowKit

theorem intInfo : (Try.prog.info? 3).map (fun i => (i.zero, i.size, i.bytes)) = some (some (.int .i64 0), 1, 8) := by kernel_rfl
/-- A copy: a new row that holds the elements. -/
def Copied (zs : List Int) (w : World) (e : Ending) (w' : World) : Prop :=
  ∃ g, e = .returned (.slice (some ⟨g, 0, none⟩) zs.length zs.length) ∧ w.heap.size ≤ g ∧ w'.rowIs g 3 zs.length (fun i => .int .i64 (zs.getD i 0)) ∧ Below w.heap.size w w'
theorem ints_of_row {w : World} {g : Nat} {zs : List Int} (h : w.rowIs g 3 zs.length (fun i => .int .i64 (zs.getD i 0))) : IntsAt w (some ⟨g, 0, none⟩) zs :=
  .inr ⟨g, 0, rfl, h.lt, fun i hi => by simpa using h.cell hi⟩
end Go.Proofs.Yticelpaicenbkaa
