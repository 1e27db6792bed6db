/- Contracts of the functions on stats, of the program and of the reference, and the walks of the exact laws on them. -/
import Derived.Test.YtcfcnefhjdoceaaProg
import Derived.Test.YtcfcnefhjdoceaaB
namespace Go.Proofs.Ytcfcnefhjdoceaa
open Go.ChangeShapes Go.WideShapes Go.ChangeAt Go.RowKit

def statsB (f m g d t : Int) : Bool := decide (0 ≤ f ∧ f ≤ m ∧ m ≤ 999999 ∧ 1 ≤ g ∧ g ≤ 999999 ∧ 0 ≤ d ∧ d ≤ 3199968 ∧ -99999 ≤ t ∧ t ≤ 99999)
theorem statsB_bd {f m g d t : Int} (h : statsB f m g d t = true) : 0 ≤ f ∧ f ≤ m ∧ m ≤ 999999 ∧ 1 ≤ g ∧ g ≤ 999999 ∧ 0 ≤ d ∧ d ≤ 3199968 ∧ -99999 ≤ t ∧ t ≤ 99999 := of_decide_eq_true h

set_option maxHeartbeats 1000000 in
theorem specStatsValid (f m g d t : Int) (w : World) : Calls Try.prog 11 #[.agg #[.int .i64 f, .int .i64 m, .int .i64 g, .int .i64 d, .int .i64 t]] w (RetB (statsB f m g d t) w) := by
  go_enter Try.func11, Try.ntmps11
  go_wp2
  all_goals
    go_ret
    refine retB_mk (by unfold statsB; rw [Bool.eq_iff_iff]; (try simp at *); first | done | omega) ?_
    (repeat' (first | (with_reducible exact Below.refl _ _) | (with_reducible assumption) | (with_reducible refine Below.alloc ?_ ?_ _) | (with_reducible refine Below.setCell ?_ ?_ _) | (with_reducible refine Below.drew ?_) | (with_reducible refine below_step (by assumption) ?_ ?_) | (with_reducible refine below_gstep (by assumption) ?_ ?_ ?_) | omega | (simp; done) | (simp; omega)))
set_option maxHeartbeats 1000000 in
theorem implStatsValid (f m g d t : Int) (w : World) : Calls Try.prog 13 #[.agg #[.int .i64 f, .int .i64 m, .int .i64 g, .int .i64 d, .int .i64 t]] w (RetB (statsB f m g d t) w) := by
  go_enter Try.func13, Try.ntmps13
  go_wp2
  all_goals
    go_ret
    refine retB_mk (by unfold statsB; rw [Bool.eq_iff_iff]; (try simp at *); first | done | omega) ?_
    (repeat' (first | (with_reducible exact Below.refl _ _) | (with_reducible assumption) | (with_reducible refine Below.alloc ?_ ?_ _) | (with_reducible refine Below.setCell ?_ ?_ _) | (with_reducible refine Below.drew ?_) | (with_reducible refine below_step (by assumption) ?_ ?_) | (with_reducible refine below_gstep (by assumption) ?_ ?_ ?_) | omega | (simp; done) | (simp; omega)))
theorem toStats (f m g d t : Int) (w : World) : Calls Try.prog 12 #[.agg #[.int .i64 f, .int .i64 m, .int .i64 g, .int .i64 d, .int .i64 t]] w (RetV (.agg #[.int .i64 f, .int .i64 m, .int .i64 g, .int .i64 d, .int .i64 t]) w) := by
  go_enter Try.func12, Try.ntmps12
  go_wp2
  go_returns
  refine ⟨rfl, ?_⟩
  (repeat' (first | (with_reducible exact Below.refl _ _) | (with_reducible assumption) | (with_reducible refine Below.alloc ?_ ?_ _) | (with_reducible refine Below.setCell ?_ ?_ _) | (with_reducible refine Below.drew ?_) | (with_reducible refine below_step (by assumption) ?_ ?_) | (with_reducible refine below_gstep (by assumption) ?_ ?_ ?_) | omega | (simp; done) | (simp; omega)))

/-- What is missing: the result of StatsLost, whatever the stats. -/
def lostN (f m g d t : Int) : Int := if statsB f m g d t = true then m - f + 1 - g else 0
theorem specStatsLost (f m g d t : Int) (w : World) : Calls Try.prog 14 #[.agg #[.int .i64 f, .int .i64 m, .int .i64 g, .int .i64 d, .int .i64 t]] w (RetV (.int .i64 (lostN f m g d t)) w) := by
  by_cases hv : statsB f m g d t = true
  · have e : lostN f m g d t = m - f + 1 - g := if_pos hv
    rw [e]
    obtain ⟨h1, h2, h3, h4, h5, _⟩ := statsB_bd hv
    clear e
    go_enter Try.func14, Try.ntmps14
    go_wp2_with (first | (go_at_call 11; refine (specStatsValid _ _ _ _ _ _).mono ?_; rintro e w1 ⟨rfl, hb⟩; obtain ⟨hc, hf⟩ := bkeep hb (w.heap.size) (by first | omega | (simp; done) | (simp; omega)); have hz : w.heap.size + 1 ≤ w1.heap.size := Nat.le_trans (by first | omega | (simp; done) | (simp; omega)) hb.size))
    go_ret
    refine retV_mk rfl ?_
    (repeat' (first | (with_reducible exact Below.refl _ _) | (with_reducible assumption) | (with_reducible refine Below.alloc ?_ ?_ _) | (with_reducible refine Below.setCell ?_ ?_ _) | (with_reducible refine Below.drew ?_) | (with_reducible refine below_step (by assumption) ?_ ?_) | (with_reducible refine below_gstep (by assumption) ?_ ?_ ?_) | omega | (simp; done) | (simp; omega)))
  · have e : lostN f m g d t = 0 := if_neg hv
    rw [e]
    have hv' : statsB f m g d t = false := by simpa using hv
    clear e hv
    go_enter Try.func14, Try.ntmps14
    go_wp2_with (first | (go_at_call 11; refine (specStatsValid _ _ _ _ _ _).mono ?_; rintro e w1 ⟨rfl, hb⟩; obtain ⟨hc, hf⟩ := bkeep hb (w.heap.size) (by first | omega | (simp; done) | (simp; omega)); have hz : w.heap.size + 1 ≤ w1.heap.size := Nat.le_trans (by first | omega | (simp; done) | (simp; omega)) hb.size))
    go_ret
    refine retV_mk rfl ?_
    (repeat' (first | (with_reducible exact Below.refl _ _) | (with_reducible assumption) | (with_reducible refine Below.alloc ?_ ?_ _) | (with_reducible refine Below.setCell ?_ ?_ _) | (with_reducible refine Below.drew ?_) | (with_reducible refine below_step (by assumption) ?_ ?_) | (with_reducible refine below_gstep (by assumption) ?_ ?_ ?_) | omega | (simp; done) | (simp; omega)))
theorem implStatsLost (f m g d t : Int) (w : World) : Calls Try.prog 15 #[.agg #[.int .i64 f, .int .i64 m, .int .i64 g, .int .i64 d, .int .i64 t]] w (RetV (.int .i64 (lostN f m g d t)) w) := by
  by_cases hv : statsB f m g d t = true
  · have e : lostN f m g d t = m - f + 1 - g := if_pos hv
    rw [e]
    obtain ⟨h1, h2, h3, h4, h5, _⟩ := statsB_bd hv
    clear e
    go_enter Try.func15, Try.ntmps15
    go_wp2_with (first | (go_at_call 13; refine (implStatsValid _ _ _ _ _ _).mono ?_; rintro e w1 ⟨rfl, hb⟩; obtain ⟨hc, hf⟩ := bkeep hb (w.heap.size) (by first | omega | (simp; done) | (simp; omega)); have hz : w.heap.size + 1 ≤ w1.heap.size := Nat.le_trans (by first | omega | (simp; done) | (simp; omega)) hb.size))
    go_ret
    refine retV_mk rfl ?_
    (repeat' (first | (with_reducible exact Below.refl _ _) | (with_reducible assumption) | (with_reducible refine Below.alloc ?_ ?_ _) | (with_reducible refine Below.setCell ?_ ?_ _) | (with_reducible refine Below.drew ?_) | (with_reducible refine below_step (by assumption) ?_ ?_) | (with_reducible refine below_gstep (by assumption) ?_ ?_ ?_) | omega | (simp; done) | (simp; omega)))
  · have e : lostN f m g d t = 0 := if_neg hv
    rw [e]
    have hv' : statsB f m g d t = false := by simpa using hv
    clear e hv
    go_enter Try.func15, Try.ntmps15
    go_wp2_with (first | (go_at_call 13; refine (implStatsValid _ _ _ _ _ _).mono ?_; rintro e w1 ⟨rfl, hb⟩; obtain ⟨hc, hf⟩ := bkeep hb (w.heap.size) (by first | omega | (simp; done) | (simp; omega)); have hz : w.heap.size + 1 ≤ w1.heap.size := Nat.le_trans (by first | omega | (simp; done) | (simp; omega)) hb.size))
    go_ret
    refine retV_mk rfl ?_
    (repeat' (first | (with_reducible exact Below.refl _ _) | (with_reducible assumption) | (with_reducible refine Below.alloc ?_ ?_ _) | (with_reducible refine Below.setCell ?_ ?_ _) | (with_reducible refine Below.drew ?_) | (with_reducible refine below_step (by assumption) ?_ ?_) | (with_reducible refine below_gstep (by assumption) ?_ ?_ ?_) | omega | (simp; done) | (simp; omega)))

theorem open_stats {H : Type} {enc : TypeId × Value → H} (W : World) (base : Nat) (v : Value) (d : DataW H) (p : List MemPlace) (o : Value.okWide Try.prog W .any base 23 v) (h : DataW.Trod enc Try.prog W 0 (fun _ => true) true 23 v d p) :
    ∃ f m g d t : Int, v = .agg #[.int .i64 f, .int .i64 m, .int .i64 g, .int .i64 d, .int .i64 t] := by
  obtain ⟨l, rfl, hl, hf⟩ := open_cells Try.underlying23 (by kernel_rfl) (by kernel_rfl) o h
  obtain ⟨c0, c1, c2, c3, c4, rfl⟩ := len5 (by simpa using hl)
  obtain ⟨a0, rfl, _⟩ := int_cell Try.underlying3 (hf 0 _ _ rfl rfl)
  obtain ⟨a1, rfl, _⟩ := int_cell Try.underlying3 (hf 1 _ _ rfl rfl)
  obtain ⟨a2, rfl, _⟩ := int_cell Try.underlying3 (hf 2 _ _ rfl rfl)
  obtain ⟨a3, rfl, _⟩ := int_cell Try.underlying3 (hf 3 _ _ rfl rfl)
  obtain ⟨a4, rfl, _⟩ := int_cell Try.underlying3 (hf 4 _ _ rfl rfl)
  exact ⟨_, _, _, _, _, rfl⟩
theorem walk_fnExactStatsValid {H : Type} {enc : TypeId × Value → H} (W : World) (base : Nat) (v : Value) (d : DataW H) (p : List MemPlace) (o : Value.okWide Try.prog W .any base 23 v) (h : DataW.Trod enc Try.prog W 0 (fun _ => true) true 23 v d p) :
    Calls Try.prog 3 #[v] W (RetB true W) := by
  obtain ⟨f, m, g, d', t, rfl⟩ := open_stats W base v d p o h
  clear o h
  go_enter Try.func3, Try.ntmps3
  go_wp2_with (first
    | (go_at_call 12; refine (toStats _ _ _ _ _ _).mono ?_; rintro e w1 ⟨rfl, hb⟩; obtain ⟨hc, hf⟩ := bkeep hb (W.heap.size) (by first | omega | (simp; done) | (simp; omega)); have hz : W.heap.size + 1 ≤ w1.heap.size := Nat.le_trans (by first | omega | (simp; done) | (simp; omega)) hb.size)
    | (go_at_call 11; refine (specStatsValid _ _ _ _ _ _).mono ?_; rintro e w1 ⟨rfl, hb⟩; obtain ⟨hc, hf⟩ := bkeep hb (W.heap.size) (by first | omega | (simp; done) | (simp; omega)); have hz : W.heap.size + 1 ≤ w1.heap.size := Nat.le_trans (by first | omega | (simp; done) | (simp; omega)) hb.size)
    | (go_at_call 13; refine (implStatsValid _ _ _ _ _ _).mono ?_; rintro e w1 ⟨rfl, hb⟩; obtain ⟨hc, hf⟩ := bkeep hb (W.heap.size) (by first | omega | (simp; done) | (simp; omega)); have hz : W.heap.size + 1 ≤ w1.heap.size := Nat.le_trans (by first | omega | (simp; done) | (simp; omega)) hb.size))
  go_ret
  refine ⟨rfl, ?_⟩
  (repeat' (first | (with_reducible exact Below.refl _ _) | (with_reducible assumption) | (with_reducible refine Below.alloc ?_ ?_ _) | (with_reducible refine Below.setCell ?_ ?_ _) | (with_reducible refine Below.drew ?_) | (with_reducible refine below_step (by assumption) ?_ ?_) | (with_reducible refine below_gstep (by assumption) ?_ ?_ ?_) | omega | (simp; done) | (simp; omega)))
theorem walk_fnExactStatsLost {H : Type} {enc : TypeId × Value → H} (W : World) (base : Nat) (v : Value) (d : DataW H) (p : List MemPlace) (o : Value.okWide Try.prog W .any base 23 v) (h : DataW.Trod enc Try.prog W 0 (fun _ => true) true 23 v d p) :
    Calls Try.prog 4 #[v] W (RetB true W) := by
  obtain ⟨f, m, g, d', t, rfl⟩ := open_stats W base v d p o h
  clear o h
  go_enter Try.func4, Try.ntmps4
  go_wp2_with (first
    | (go_at_call 12; refine (toStats _ _ _ _ _ _).mono ?_; rintro e w1 ⟨rfl, hb⟩; obtain ⟨hc, hf⟩ := bkeep hb (W.heap.size) (by first | omega | (simp; done) | (simp; omega)); have hz : W.heap.size + 1 ≤ w1.heap.size := Nat.le_trans (by first | omega | (simp; done) | (simp; omega)) hb.size)
    | (go_at_call 14; refine (specStatsLost _ _ _ _ _ _).mono ?_; rintro e w1 ⟨rfl, hb⟩; obtain ⟨hc, hf⟩ := bkeep hb (W.heap.size) (by first | omega | (simp; done) | (simp; omega)); have hz : W.heap.size + 1 ≤ w1.heap.size := Nat.le_trans (by first | omega | (simp; done) | (simp; omega)) hb.size)
    | (go_at_call 15; refine (implStatsLost _ _ _ _ _ _).mono ?_; rintro e w1 ⟨rfl, hb⟩; obtain ⟨hc, hf⟩ := bkeep hb (W.heap.size) (by first | omega | (simp; done) | (simp; omega)); have hz : W.heap.size + 1 ≤ w1.heap.size := Nat.le_trans (by first | omega | (simp; done) | (simp; omega)) hb.size))
  go_ret
  refine ⟨rfl, ?_⟩
  (repeat' (first | (with_reducible exact Below.refl _ _) | (with_reducible assumption) | (with_reducible refine Below.alloc ?_ ?_ _) | (with_reducible refine Below.setCell ?_ ?_ _) | (with_reducible refine Below.drew ?_) | (with_reducible refine below_step (by assumption) ?_ ?_) | (with_reducible refine below_gstep (by assumption) ?_ ?_ ?_) | omega | (simp; done) | (simp; omega)))
end Go.Proofs.Ytcfcnefhjdoceaa
