/- Slices of ints that grow, are marked, are compared. -/
import Derived.Test.YtjbengphioankaaI2
import Derived.Test.YtjbengphioankaaRC
namespace Go.Proofs.Ytjbengphioankaa
open Go.ChangeShapes Go.WideShapes Go.ChangeAt Go.RowKit

theorem elemI : ElemOf Try.prog 76 3 1 8 := elemOf Try.underlying76 intInfo rfl (by omega) (by omega)
theorem own_ints {w : World} {g n cap : Nat} {zs : List Int} (h : Own w 3 1 g n cap (zs.map (Value.int .i64))) : IntsAt w (some ⟨g, 0, none⟩) zs := by
  have hl := h.len
  simp at hl
  refine .inr ⟨g, 0, rfl, h.lt, fun i hi => ?_⟩
  have := h.cell (j := i) (by omega)
  rw [show 0 + i = i by omega, this]
  simp [List.getElem?_eq_getElem hi]
def marksI (s : Int) (n : Nat) : List Int := (List.range n).map fun k => s + (k : Nat)
end Go.Proofs.Ytjbengphioankaa
