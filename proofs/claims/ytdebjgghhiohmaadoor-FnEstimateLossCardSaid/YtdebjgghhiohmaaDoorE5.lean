/- Contracts of withRate and behindLoss of the program. -/
import Derived.Test.YtdebjgghhiohmaaDoorE4
import Derived.Test.YtdebjgghhiohmaaDoorER
namespace Go.Proofs.YtdebjgghhiohmaaDoor
open Go.ChangeShapes Go.WideShapes Go.ChangeAt Go.RowKit

set_option maxHeartbeats 1000000 in
theorem implWith (r l h x : Int) (hlh : l ≤ h) (w : World) : Calls Tryd.prog 30 #[.agg #[.int .i64 r, .int .i64 l, .int .i64 h], .int .i64 x] w (RetV (.agg #[.int .i64 (clampN l h x), .int .i64 l, .int .i64 h]) w) := by
  obtain ⟨N, hN⟩ : ∃ N, clampN l h x = N := ⟨_, rfl⟩
  have hN2 : (x < l ∧ N = l) ∨ (l ≤ x ∧ h < x ∧ N = h) ∨ (l ≤ x ∧ x ≤ h ∧ N = x) := by
    rw [← hN]
    unfold clampN
    repeat' split
    all_goals omega
  rw [hN]
  clear hN
  rcases hN2 with ⟨c1, rfl⟩ | ⟨c1, c2, rfl⟩ | ⟨c1, c2, rfl⟩
  all_goals
    go_enter Tryd.func30, Tryd.ntmps30
    go_wp2_with fail
    trace "A"
    go_wp2
    refine bodyPost_ret (by first | (simp (maxDischargeDepth := 3) [results, Tryd.results30, go_sem, *]; done) | (simp (maxDischargeDepth := 3) [results, Tryd.results30, go_sem, *]; rfl) | (simp (maxDischargeDepth := 7) [results, Tryd.results30, go_sem, *]; done) | (simp (maxDischargeDepth := 7) [results, Tryd.results30, go_sem, *]; rfl)) rfl ?_
    refine retV_mk rfl ?_
    (repeat' (first | (with_reducible exact Below.refl _ _) | (with_reducible assumption) | (with_reducible refine Below.alloc ?_ ?_ _) | (with_reducible refine Below.setCell ?_ ?_ _) | (with_reducible refine Below.drew ?_) | (with_reducible refine below_drewN' ?_ _) | (with_reducible refine below_step (by assumption) ?_ ?_) | (with_reducible refine below_gstep (by assumption) ?_ ?_ ?_) | (with_reducible exact Below.size (by assumption)) | omega | (simp; done) | (simp; omega)))
end Go.Proofs.YtdebjgghhiohmaaDoor
