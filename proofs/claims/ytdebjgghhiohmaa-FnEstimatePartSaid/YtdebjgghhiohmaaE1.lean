/- The contract of EstimateValid, of the program and of the reference, and the walk of the exact law on it. -/
import Derived.Test.YtdebjgghhiohmaaProg
import Derived.Test.YtdebjgghhiohmaaB
namespace Go.Proofs.Ytdebjgghhiohmaa
open Go.ChangeShapes Go.WideShapes Go.ChangeAt Go.RowKit

def estB (r l h : Int) : Bool := decide (1 ≤ l ∧ l ≤ r ∧ r ≤ h ∧ h ≤ 999999)
theorem specEstimateValid (r l h : Int) (w : World) : Calls Try.prog 8 #[.agg #[.int .i64 r, .int .i64 l, .int .i64 h]] w (RetB (estB r l h) w) := by
  go_enter Try.func8, Try.ntmps8
  go_wp2
  all_goals
    go_ret
    refine retB_mk (by unfold estB; rw [Bool.eq_iff_iff]; simp; try omega) ?_
    (repeat' (first | (with_reducible exact Below.refl _ _) | (with_reducible refine Below.alloc ?_ ?_ _) | (with_reducible refine Below.setCell ?_ ?_ _) | (with_reducible refine Below.drew ?_) | (with_reducible refine below_step (by assumption) ?_ ?_) | (with_reducible refine below_gstep (by assumption) ?_ ?_ ?_) | omega | (simp; done) | (simp; omega)))
theorem implEstimateValid (r l h : Int) (w : World) : Calls Try.prog 10 #[.agg #[.int .i64 r, .int .i64 l, .int .i64 h]] w (RetB (estB r l h) w) := by
  go_enter Try.func10, Try.ntmps10
  go_wp2
  all_goals
    go_ret
    refine retB_mk (by unfold estB; rw [Bool.eq_iff_iff]; simp; try omega) ?_
    (repeat' (first | (with_reducible exact Below.refl _ _) | (with_reducible refine Below.alloc ?_ ?_ _) | (with_reducible refine Below.setCell ?_ ?_ _) | (with_reducible refine Below.drew ?_) | (with_reducible refine below_step (by assumption) ?_ ?_) | (with_reducible refine below_gstep (by assumption) ?_ ?_ ?_) | omega | (simp; done) | (simp; omega)))
theorem toEstimate (r l h : Int) (w : World) : Calls Try.prog 9 #[.agg #[.int .i64 r, .int .i64 l, .int .i64 h]] w (RetV (.agg #[.int .i64 r, .int .i64 l, .int .i64 h]) w) := by
  go_enter Try.func9, Try.ntmps9
  go_wp2
  go_returns
  refine ⟨rfl, ?_⟩
  (repeat' (first | (with_reducible exact Below.refl _ _) | (with_reducible refine Below.alloc ?_ ?_ _) | (with_reducible refine Below.setCell ?_ ?_ _) | (with_reducible refine Below.drew ?_) | (with_reducible refine below_step (by assumption) ?_ ?_) | (with_reducible refine below_gstep (by assumption) ?_ ?_ ?_) | omega | (simp; done) | (simp; omega)))
theorem open_estimate {H : Type} {enc : TypeId × Value → H} (W : World) (base : Nat) (v : Value) (d : DataW H) (p : List MemPlace) (o : Value.okWide Try.prog W .any base 23 v) (h : DataW.Trod enc Try.prog W 0 (fun _ => true) true 23 v d p) :
    ∃ a b c : Int, v = .agg #[.int .i64 a, .int .i64 b, .int .i64 c] := by
  obtain ⟨l, rfl, hl, hf⟩ := open_cells Try.underlying23 (by kernel_rfl) (by kernel_rfl) o h
  obtain ⟨c0, c1, c2, rfl⟩ := len3 (by simpa using hl)
  obtain ⟨a0, rfl, _⟩ := int_cell Try.underlying3 (hf 0 _ _ rfl rfl)
  obtain ⟨a1, rfl, _⟩ := int_cell Try.underlying3 (hf 1 _ _ rfl rfl)
  obtain ⟨a2, rfl, _⟩ := int_cell Try.underlying3 (hf 2 _ _ rfl rfl)
  exact ⟨_, _, _, rfl⟩
theorem walk_fnExactEstimateValid {H : Type} {enc : TypeId × Value → H} (W : World) (base : Nat) (v : Value) (d : DataW H) (p : List MemPlace) (o : Value.okWide Try.prog W .any base 23 v) (h : DataW.Trod enc Try.prog W 0 (fun _ => true) true 23 v d p) :
    Calls Try.prog 3 #[v] W (RetB true W) := by
  obtain ⟨a, b, c, rfl⟩ := open_estimate W base v d p o h
  clear o h
  go_enter Try.func3, Try.ntmps3
  go_wp2_with (first
    | (go_at_call 9; refine (toEstimate _ _ _ _).mono ?_; rintro e w1 ⟨rfl, hb⟩; obtain ⟨hc, hf⟩ := bkeep hb (W.heap.size) (by first | omega | (simp; done) | (simp; omega)); have hz : W.heap.size + 1 ≤ w1.heap.size := Nat.le_trans (by first | omega | (simp; done) | (simp; omega)) hb.size)
    | (go_at_call 8; refine (specEstimateValid _ _ _ _).mono ?_; rintro e w1 ⟨rfl, hb⟩; obtain ⟨hc, hf⟩ := bkeep hb (W.heap.size) (by first | omega | (simp; done) | (simp; omega)); have hz : W.heap.size + 1 ≤ w1.heap.size := Nat.le_trans (by first | omega | (simp; done) | (simp; omega)) hb.size)
    | (go_at_call 10; refine (implEstimateValid _ _ _ _).mono ?_; rintro e w1 ⟨rfl, hb⟩; obtain ⟨hc, hf⟩ := bkeep hb (W.heap.size) (by first | omega | (simp; done) | (simp; omega)); have hz : W.heap.size + 1 ≤ w1.heap.size := Nat.le_trans (by first | omega | (simp; done) | (simp; omega)) hb.size))
  go_ret
  refine ⟨rfl, ?_⟩
  (repeat' (first | (with_reducible exact Below.refl _ _) | (with_reducible refine Below.alloc ?_ ?_ _) | (with_reducible refine Below.setCell ?_ ?_ _) | (with_reducible refine Below.drew ?_) | (with_reducible refine below_step (by assumption) ?_ ?_) | (with_reducible refine below_gstep (by assumption) ?_ ?_ ?_) | omega | (simp; done) | (simp; omega)))
end Go.Proofs.Ytdebjgghhiohmaa
