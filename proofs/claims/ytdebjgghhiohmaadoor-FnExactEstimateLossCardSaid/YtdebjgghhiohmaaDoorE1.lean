/- The contract of EstimateValid, of the program and of the reference, and the walk of the exact law on it. -/
import Derived.Test.YtdebjgghhiohmaaDoorProg
import Derived.Test.YtdebjgghhiohmaaDoorB
namespace Go.Proofs.YtdebjgghhiohmaaDoor
open Go.ChangeShapes Go.WideShapes Go.ChangeAt Go.RowKit

def estB (r l h : Int) : Bool := decide (1 ≤ l ∧ l ≤ r ∧ r ≤ h ∧ h ≤ 999999)
theorem specEstimateValid (r l h : Int) (w : World) : Calls Tryd.prog 19 #[.agg #[.int .i64 r, .int .i64 l, .int .i64 h]] w (RetB (estB r l h) w) := by
  go_enter Tryd.func19, Tryd.ntmps19
  go_wp2
  all_goals
    go_ret
    refine retB_mk (by unfold estB; rw [Bool.eq_iff_iff]; simp; try omega) ?_
    (repeat' (first | (with_reducible exact Below.refl _ _) | (with_reducible assumption) | (with_reducible refine Below.alloc ?_ ?_ _) | (with_reducible refine Below.setCell ?_ ?_ _) | (with_reducible refine Below.drew ?_) | (with_reducible refine below_drewN' ?_ _) | (with_reducible refine below_step (by assumption) ?_ ?_) | (with_reducible refine below_gstep (by assumption) ?_ ?_ ?_) | (with_reducible exact Below.size (by assumption)) | omega | (simp; done) | (simp; omega)))
theorem implEstimateValid (r l h : Int) (w : World) : Calls Tryd.prog 15 #[.agg #[.int .i64 r, .int .i64 l, .int .i64 h]] w (RetB (estB r l h) w) := by
  go_enter Tryd.func15, Tryd.ntmps15
  go_wp2
  all_goals
    go_ret
    refine retB_mk (by unfold estB; rw [Bool.eq_iff_iff]; simp; try omega) ?_
    (repeat' (first | (with_reducible exact Below.refl _ _) | (with_reducible assumption) | (with_reducible refine Below.alloc ?_ ?_ _) | (with_reducible refine Below.setCell ?_ ?_ _) | (with_reducible refine Below.drew ?_) | (with_reducible refine below_drewN' ?_ _) | (with_reducible refine below_step (by assumption) ?_ ?_) | (with_reducible refine below_gstep (by assumption) ?_ ?_ ?_) | (with_reducible exact Below.size (by assumption)) | omega | (simp; done) | (simp; omega)))
theorem toEstimate (r l h : Int) (w : World) : Calls Tryd.prog 11 #[.agg #[.int .i64 r, .int .i64 l, .int .i64 h]] w (RetV (.agg #[.int .i64 r, .int .i64 l, .int .i64 h]) w) := by
  go_enter Tryd.func11, Tryd.ntmps11
  go_wp2
  go_returns
  refine ⟨rfl, ?_⟩
  (repeat' (first | (with_reducible exact Below.refl _ _) | (with_reducible assumption) | (with_reducible refine Below.alloc ?_ ?_ _) | (with_reducible refine Below.setCell ?_ ?_ _) | (with_reducible refine Below.drew ?_) | (with_reducible refine below_drewN' ?_ _) | (with_reducible refine below_step (by assumption) ?_ ?_) | (with_reducible refine below_gstep (by assumption) ?_ ?_ ?_) | (with_reducible exact Below.size (by assumption)) | omega | (simp; done) | (simp; omega)))
theorem open_estimate {H : Type} {enc : TypeId × Value → H} (W : World) (base : Nat) (v : Value) (d : DataW H) (p : List MemPlace) (o : Value.okWide Tryd.prog W .any base 23 v) (h : DataW.Trod enc Tryd.prog W 0 (fun _ => true) true 23 v d p) :
    ∃ a b c : Int, v = .agg #[.int .i64 a, .int .i64 b, .int .i64 c] := by
  obtain ⟨l, rfl, hl, hf⟩ := open_cells Tryd.underlying23 (by kernel_rfl) (by kernel_rfl) o h
  obtain ⟨c0, c1, c2, rfl⟩ := len3 (by simpa using hl)
  obtain ⟨a0, rfl, _⟩ := int_cell Tryd.underlying3 (hf 0 _ _ rfl rfl)
  obtain ⟨a1, rfl, _⟩ := int_cell Tryd.underlying3 (hf 1 _ _ rfl rfl)
  obtain ⟨a2, rfl, _⟩ := int_cell Tryd.underlying3 (hf 2 _ _ rfl rfl)
  exact ⟨_, _, _, rfl⟩
end Go.Proofs.YtdebjgghhiohmaaDoor
