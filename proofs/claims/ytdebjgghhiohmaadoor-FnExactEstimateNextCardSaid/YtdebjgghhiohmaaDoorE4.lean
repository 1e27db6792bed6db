/- Contracts on an estimate for a missing part and for delays, of the reference. -/
import Derived.Test.YtdebjgghhiohmaaDoorE1
import Derived.Deep.RegionHeld3
namespace Go.Proofs.YtdebjgghhiohmaaDoor
open Go.ChangeShapes Go.WideShapes Go.ChangeAt Go.RowKit

def clampN (l h x : Int) : Int := if h < (if x < l then l else x) then h else (if x < l then l else x)
def lossN (r p : Int) : Int := if 26 ≤ p then r - r * p / 512 else if p < 5 then r + r / 20 + 1 else r
theorem estB_bd {r l h : Int} (hv : estB r l h = true) : 1 ≤ l ∧ l ≤ r ∧ r ≤ h ∧ h ≤ 999999 := of_decide_eq_true hv
theorem mul_bd {r p : Int} (h1 : 1 ≤ r) (h2 : r ≤ 999999) (h3 : 0 ≤ p) (h4 : p ≤ 256) : 0 ≤ r * p ∧ r * p ≤ 255999744 := by
  refine ⟨Int.mul_nonneg (by omega) h3, ?_⟩
  calc r * p ≤ 999999 * 256 := Int.mul_le_mul h2 h4 h3 (by omega)
    _ = 255999744 := by omega
theorem clamp_eq (l h x : Int) (hlh : l ≤ h) : (if (if x < h then x else h) > l then (if x < h then x else h) else l) = clampN l h x := by
  unfold clampN
  repeat' split
  all_goals omega
set_option maxHeartbeats 1000000 in
theorem specWith (r l h x : Int) (hlh : l ≤ h) (w : World) : Calls Tryd.prog 21 #[.agg #[.int .i64 r, .int .i64 l, .int .i64 h], .int .i64 x] w (RetV (.agg #[.int .i64 (clampN l h x), .int .i64 l, .int .i64 h]) w) := by
  obtain ⟨N, hN⟩ : ∃ N, clampN l h x = N := ⟨_, rfl⟩
  have hN2 : (x < h ∧ l < x ∧ N = x) ∨ (x < h ∧ x ≤ l ∧ N = l) ∨ (h ≤ x ∧ l < h ∧ N = h) ∨ (h ≤ x ∧ h ≤ l ∧ N = l) := by
    rw [← hN, ← clamp_eq l h x hlh]
    by_cases a : x < h
    · rw [if_pos a]
      by_cases b : x > l
      · rw [if_pos b]; omega
      · rw [if_neg b]; omega
    · rw [if_neg a]
      by_cases b : h > l
      · rw [if_pos b]; omega
      · rw [if_neg b]; omega
  rw [hN]
  clear hN
  rcases hN2 with ⟨c1, c2, rfl⟩ | ⟨c1, c2, rfl⟩ | ⟨c1, c2, rfl⟩ | ⟨c1, c2, rfl⟩
  all_goals
    go_enter Tryd.func21, Tryd.ntmps21
    go_wp2
    refine bodyPost_ret (by first | (simp (maxDischargeDepth := 3) [results, Tryd.results21, go_sem, *]; done) | (simp (maxDischargeDepth := 3) [results, Tryd.results21, go_sem, *]; rfl) | (simp (maxDischargeDepth := 7) [results, Tryd.results21, go_sem, *]; done) | (simp (maxDischargeDepth := 7) [results, Tryd.results21, go_sem, *]; rfl)) rfl ?_
    refine retV_mk rfl ?_
    (repeat' (first | (with_reducible exact Below.refl _ _) | (with_reducible assumption) | (with_reducible refine Below.alloc ?_ ?_ _) | (with_reducible refine Below.setCell ?_ ?_ _) | (with_reducible refine Below.drew ?_) | (with_reducible refine below_drewN' ?_ _) | (with_reducible refine below_step (by assumption) ?_ ?_) | (with_reducible refine below_gstep (by assumption) ?_ ?_ ?_) | (with_reducible exact Below.size (by assumption)) | omega | (simp; done) | (simp; omega)))
theorem specLossN (r p : Int) (h1 : 1 ≤ r) (h2 : r ≤ 999999) (h3 : 0 ≤ p) (h4 : p ≤ 256) (w : World) : Calls Tryd.prog 22 #[.int .i64 r, .int .i64 p] w (RetV (.int .i64 (lossN r p)) w) := by
  obtain ⟨m1, m2⟩ := mul_bd h1 h2 h3 h4
  unfold lossN
  by_cases c1 : 26 ≤ p
  · rw [if_pos c1]
    go_enter Tryd.func22, Tryd.ntmps22
    go_wp2
    go_ret
    refine retV_mk rfl ?_
    (repeat' (first | (with_reducible exact Below.refl _ _) | (with_reducible assumption) | (with_reducible refine Below.alloc ?_ ?_ _) | (with_reducible refine Below.setCell ?_ ?_ _) | (with_reducible refine Below.drew ?_) | (with_reducible refine below_drewN' ?_ _) | (with_reducible refine below_step (by assumption) ?_ ?_) | (with_reducible refine below_gstep (by assumption) ?_ ?_ ?_) | (with_reducible exact Below.size (by assumption)) | omega | (simp; done) | (simp; omega)))
  · rw [if_neg c1]
    by_cases c2 : p < 5
    · rw [if_pos c2]
      go_enter Tryd.func22, Tryd.ntmps22
      go_wp2
      go_ret
      refine retV_mk rfl ?_
      (repeat' (first | (with_reducible exact Below.refl _ _) | (with_reducible assumption) | (with_reducible refine Below.alloc ?_ ?_ _) | (with_reducible refine Below.setCell ?_ ?_ _) | (with_reducible refine Below.drew ?_) | (with_reducible refine below_drewN' ?_ _) | (with_reducible refine below_step (by assumption) ?_ ?_) | (with_reducible refine below_gstep (by assumption) ?_ ?_ ?_) | (with_reducible exact Below.size (by assumption)) | omega | (simp; done) | (simp; omega)))
    · rw [if_neg c2]
      go_enter Tryd.func22, Tryd.ntmps22
      go_wp2
      go_ret
      refine retV_mk rfl ?_
      (repeat' (first | (with_reducible exact Below.refl _ _) | (with_reducible assumption) | (with_reducible refine Below.alloc ?_ ?_ _) | (with_reducible refine Below.setCell ?_ ?_ _) | (with_reducible refine Below.drew ?_) | (with_reducible refine below_drewN' ?_ _) | (with_reducible refine below_step (by assumption) ?_ ?_) | (with_reducible refine below_gstep (by assumption) ?_ ?_ ?_) | (with_reducible exact Below.size (by assumption)) | omega | (simp; done) | (simp; omega)))
end Go.Proofs.YtdebjgghhiohmaaDoor
