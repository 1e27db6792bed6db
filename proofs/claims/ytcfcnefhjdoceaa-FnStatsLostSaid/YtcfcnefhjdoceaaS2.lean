/- The contract of StatsPart, of the program and of the reference, and the walk of the exact law on it. -/
import Derived.Test.YtcfcnefhjdoceaaS1
import Derived.Deep.RegionHeld3
namespace Go.Proofs.Ytcfcnefhjdoceaa
open Go.ChangeShapes Go.WideShapes Go.ChangeAt Go.RowKit

/-- The result of StatsPart, whatever the stats. -/
def partR (f0 m0 g0 d0 t0 f m g d t r : Int) : Prop :=
  (statsB f0 m0 g0 d0 t0 = false ∧ r = -1) ∨ (statsB f0 m0 g0 d0 t0 = true ∧ statsB f m g d t = false ∧ r = -1) ∨
  (statsB f0 m0 g0 d0 t0 = true ∧ statsB f m g d t = true ∧ ((f ≠ f0 ∨ m < m0 ∨ g < g0) ∧ r = -1 ∨
    f = f0 ∧ m0 ≤ m ∧ g0 ≤ g ∧ (m - g - m0 + g0 ≤ 0 ∧ r = 0 ∨ 0 < m - g - m0 + g0 ∧ 0 < m - m0 ∧ r = 256 * (m - g - m0 + g0) / (m - m0))))
theorem partR_some (f0 m0 g0 d0 t0 f m g d t : Int) : ∃ r, partR f0 m0 g0 d0 t0 f m g d t r := by
  by_cases h1 : statsB f0 m0 g0 d0 t0 = true
  · by_cases h2 : statsB f m g d t = true
    · by_cases h3 : f ≠ f0 ∨ m < m0 ∨ g < g0
      · exact ⟨_, .inr (.inr ⟨h1, h2, .inl ⟨h3, rfl⟩⟩)⟩
      · by_cases h4 : m - g - m0 + g0 ≤ 0
        · exact ⟨_, .inr (.inr ⟨h1, h2, .inr ⟨by omega, by omega, by omega, .inl ⟨h4, rfl⟩⟩⟩)⟩
        · exact ⟨_, .inr (.inr ⟨h1, h2, .inr ⟨by omega, by omega, by omega, .inr ⟨by omega, by omega, rfl⟩⟩⟩)⟩
    · exact ⟨_, .inr (.inl ⟨h1, by simpa using h2, rfl⟩)⟩
  · exact ⟨_, .inl ⟨by simpa using h1, rfl⟩⟩
theorem lostN_eq {f m g d t : Int} (h : statsB f m g d t = true) : lostN f m g d t = m - f + 1 - g := if_pos h
theorem lostS (f m g d t : Int) (h : statsB f m g d t = true) (w : World) : Calls Try.prog 14 #[.agg #[.int .i64 f, .int .i64 m, .int .i64 g, .int .i64 d, .int .i64 t]] w (RetV (.int .i64 (m - f + 1 - g)) w) := by
  have := specStatsLost f m g d t w
  rwa [lostN_eq h] at this
theorem lostI (f m g d t : Int) (h : statsB f m g d t = true) (w : World) : Calls Try.prog 15 #[.agg #[.int .i64 f, .int .i64 m, .int .i64 g, .int .i64 d, .int .i64 t]] w (RetV (.int .i64 (m - f + 1 - g)) w) := by
  have := implStatsLost f m g d t w
  rwa [lostN_eq h] at this
set_option maxHeartbeats 1000000 in
theorem specStatsPart (f0 m0 g0 d0 t0 f m g d t r : Int) (w : World) (h : partR f0 m0 g0 d0 t0 f m g d t r) :
    Calls Try.prog 16 #[.agg #[.int .i64 f0, .int .i64 m0, .int .i64 g0, .int .i64 d0, .int .i64 t0], .agg #[.int .i64 f, .int .i64 m, .int .i64 g, .int .i64 d, .int .i64 t]] w (RetV (.int .i64 r) w) := by
  rcases h with ⟨h1, rfl⟩ | ⟨h1, h2, rfl⟩ | ⟨h1, h2, ⟨h3, rfl⟩ | ⟨rfl, h4, h5, ⟨h6, rfl⟩ | ⟨h6, h7, rfl⟩⟩⟩
  · go_enter Try.func16, Try.ntmps16
    go_wp2_with (first | (go_at_call 11; refine (specStatsValid _ _ _ _ _ _).mono ?_; rintro e w1 ⟨rfl, hb⟩; obtain ⟨hc, hf⟩ := bkeep hb (w.heap.size) (by first | omega | (simp; done) | (simp; omega)); obtain ⟨hc, hf⟩ := bkeep hb (w.heap.size + 1) (by first | omega | (simp; done) | (simp; omega)); have hz : w.heap.size + 2 ≤ w1.heap.size := Nat.le_trans (by first | omega | (simp; done) | (simp; omega)) hb.size))
    go_ret
    refine retV_mk rfl ?_
    (repeat' (first | (with_reducible exact Below.refl _ _) | (with_reducible assumption) | (with_reducible refine Below.alloc ?_ ?_ _) | (with_reducible refine Below.setCell ?_ ?_ _) | (with_reducible refine Below.drew ?_) | (with_reducible refine below_step (by assumption) ?_ ?_) | (with_reducible refine below_gstep (by assumption) ?_ ?_ ?_) | omega | (simp; done) | (simp; omega)))
  · go_enter Try.func16, Try.ntmps16
    go_wp2_with (first | (go_at_call 11; refine (specStatsValid _ _ _ _ _ _).mono ?_; rintro e w1 ⟨rfl, hb⟩; obtain ⟨hc, hf⟩ := bkeep hb (w.heap.size) (by first | omega | (simp; done) | (simp; omega)); obtain ⟨hc, hf⟩ := bkeep hb (w.heap.size + 1) (by first | omega | (simp; done) | (simp; omega)); have hz : w.heap.size + 2 ≤ w1.heap.size := Nat.le_trans (by first | omega | (simp; done) | (simp; omega)) hb.size))
    go_ret
    refine retV_mk rfl ?_
    (repeat' (first | (with_reducible exact Below.refl _ _) | (with_reducible assumption) | (with_reducible refine Below.alloc ?_ ?_ _) | (with_reducible refine Below.setCell ?_ ?_ _) | (with_reducible refine Below.drew ?_) | (with_reducible refine below_step (by assumption) ?_ ?_) | (with_reducible refine below_gstep (by assumption) ?_ ?_ ?_) | omega | (simp; done) | (simp; omega)))
  · obtain ⟨a1, a2, a3, a4, a5, _⟩ := statsB_bd h1
    obtain ⟨b1, b2, b3, b4, b5, _⟩ := statsB_bd h2
    go_enter Try.func16, Try.ntmps16
    go_wp2_with (first | (go_at_call 11; refine (specStatsValid _ _ _ _ _ _).mono ?_; rintro e w1 ⟨rfl, hb⟩; obtain ⟨hc, hf⟩ := bkeep hb (w.heap.size) (by first | omega | (simp; done) | (simp; omega)); obtain ⟨hc, hf⟩ := bkeep hb (w.heap.size + 1) (by first | omega | (simp; done) | (simp; omega)); have hz : w.heap.size + 2 ≤ w1.heap.size := Nat.le_trans (by first | omega | (simp; done) | (simp; omega)) hb.size))
    all_goals
      go_ret
      refine retV_mk rfl ?_
      (repeat' (first | (with_reducible exact Below.refl _ _) | (with_reducible assumption) | (with_reducible refine Below.alloc ?_ ?_ _) | (with_reducible refine Below.setCell ?_ ?_ _) | (with_reducible refine Below.drew ?_) | (with_reducible refine below_step (by assumption) ?_ ?_) | (with_reducible refine below_gstep (by assumption) ?_ ?_ ?_) | omega | (simp; done) | (simp; omega)))
  · obtain ⟨a1, a2, a3, a4, a5, _⟩ := statsB_bd h1
    obtain ⟨b1, b2, b3, b4, b5, _⟩ := statsB_bd h2
    go_enter Try.func16, Try.ntmps16
    go_wp2_with (first | (go_at_call 11; refine (specStatsValid _ _ _ _ _ _).mono ?_; rintro e w1 ⟨rfl, hb⟩; obtain ⟨hc, hf⟩ := bkeep hb (w.heap.size) (by first | omega | (simp; done) | (simp; omega)); obtain ⟨hc, hf⟩ := bkeep hb (w.heap.size + 1) (by first | omega | (simp; done) | (simp; omega)); have hz : w.heap.size + 2 ≤ w1.heap.size := Nat.le_trans (by first | omega | (simp; done) | (simp; omega)) hb.size))
    go_region_held3 (fun w' => w'.cell? ⟨w.heap.size, 0, none⟩ = some (.int .i64 f) ∧ w'.cell? ⟨w.heap.size, 1, none⟩ = some (.int .i64 m0) ∧ w'.cell? ⟨w.heap.size, 2, none⟩ = some (.int .i64 g0) ∧ w'.cell? ⟨w.heap.size, 3, none⟩ = some (.int .i64 d0) ∧ w'.cell? ⟨w.heap.size, 4, none⟩ = some (.int .i64 t0) ∧ w'.cell? ⟨w.heap.size + 1, 0, none⟩ = some (.int .i64 f) ∧ w'.cell? ⟨w.heap.size + 1, 1, none⟩ = some (.int .i64 m) ∧ w'.cell? ⟨w.heap.size + 1, 2, none⟩ = some (.int .i64 g) ∧ w'.cell? ⟨w.heap.size + 1, 3, none⟩ = some (.int .i64 d) ∧ w'.cell? ⟨w.heap.size + 1, 4, none⟩ = some (.int .i64 t)) (go_keep) (first | (go_at_call 14; refine (lostS _ _ _ _ _ (by assumption) _).mono ?_; rintro e w1 ⟨rfl, hb⟩; obtain ⟨hc, hf⟩ := bkeep hb (w.heap.size) (by first | omega | (simp; done) | (simp; omega)); obtain ⟨hc, hf⟩ := bkeep hb (w.heap.size + 1) (by first | omega | (simp; done) | (simp; omega)); have hz : w.heap.size + 2 ≤ w1.heap.size := Nat.le_trans (by first | omega | (simp; done) | (simp; omega)) hb.size))
    go_wp2
    all_goals
      go_ret
      refine retV_mk rfl ?_
      (repeat' (first | (with_reducible exact Below.refl _ _) | (with_reducible assumption) | (with_reducible refine Below.alloc ?_ ?_ _) | (with_reducible refine Below.setCell ?_ ?_ _) | (with_reducible refine Below.drew ?_) | (with_reducible refine below_step (by assumption) ?_ ?_) | (with_reducible refine below_gstep (by assumption) ?_ ?_ ?_) | omega | (simp; done) | (simp; omega)))
  · obtain ⟨a1, a2, a3, a4, a5, _⟩ := statsB_bd h1
    obtain ⟨b1, b2, b3, b4, b5, _⟩ := statsB_bd h2
    have hs0 : (m - m0 == 0) = false := by simp; omega
    go_enter Try.func16, Try.ntmps16
    go_wp2_with (first | (go_at_call 11; refine (specStatsValid _ _ _ _ _ _).mono ?_; rintro e w1 ⟨rfl, hb⟩; obtain ⟨hc, hf⟩ := bkeep hb (w.heap.size) (by first | omega | (simp; done) | (simp; omega)); obtain ⟨hc, hf⟩ := bkeep hb (w.heap.size + 1) (by first | omega | (simp; done) | (simp; omega)); have hz : w.heap.size + 2 ≤ w1.heap.size := Nat.le_trans (by first | omega | (simp; done) | (simp; omega)) hb.size))
    go_region_held3 (fun w' => w'.cell? ⟨w.heap.size, 0, none⟩ = some (.int .i64 f) ∧ w'.cell? ⟨w.heap.size, 1, none⟩ = some (.int .i64 m0) ∧ w'.cell? ⟨w.heap.size, 2, none⟩ = some (.int .i64 g0) ∧ w'.cell? ⟨w.heap.size, 3, none⟩ = some (.int .i64 d0) ∧ w'.cell? ⟨w.heap.size, 4, none⟩ = some (.int .i64 t0) ∧ w'.cell? ⟨w.heap.size + 1, 0, none⟩ = some (.int .i64 f) ∧ w'.cell? ⟨w.heap.size + 1, 1, none⟩ = some (.int .i64 m) ∧ w'.cell? ⟨w.heap.size + 1, 2, none⟩ = some (.int .i64 g) ∧ w'.cell? ⟨w.heap.size + 1, 3, none⟩ = some (.int .i64 d) ∧ w'.cell? ⟨w.heap.size + 1, 4, none⟩ = some (.int .i64 t)) (go_keep) (first | (go_at_call 14; refine (lostS _ _ _ _ _ (by assumption) _).mono ?_; rintro e w1 ⟨rfl, hb⟩; obtain ⟨hc, hf⟩ := bkeep hb (w.heap.size) (by first | omega | (simp; done) | (simp; omega)); obtain ⟨hc, hf⟩ := bkeep hb (w.heap.size + 1) (by first | omega | (simp; done) | (simp; omega)); have hz : w.heap.size + 2 ≤ w1.heap.size := Nat.le_trans (by first | omega | (simp; done) | (simp; omega)) hb.size))
    go_wp2
    go_ret
    refine retV_mk (congrArg (fun x => Value.int .i64 (256 * x / (m - m0))) (by omega)) ?_
    (repeat' (first | (with_reducible exact Below.refl _ _) | (with_reducible assumption) | (with_reducible refine Below.alloc ?_ ?_ _) | (with_reducible refine Below.setCell ?_ ?_ _) | (with_reducible refine Below.drew ?_) | (with_reducible refine below_step (by assumption) ?_ ?_) | (with_reducible refine below_gstep (by assumption) ?_ ?_ ?_) | omega | (simp; done) | (simp; omega)))
set_option maxHeartbeats 1000000 in
theorem implStatsPart (f0 m0 g0 d0 t0 f m g d t r : Int) (w : World) (h : partR f0 m0 g0 d0 t0 f m g d t r) :
    Calls Try.prog 17 #[.agg #[.int .i64 f0, .int .i64 m0, .int .i64 g0, .int .i64 d0, .int .i64 t0], .agg #[.int .i64 f, .int .i64 m, .int .i64 g, .int .i64 d, .int .i64 t]] w (RetV (.int .i64 r) w) := by
  rcases h with ⟨h1, rfl⟩ | ⟨h1, h2, rfl⟩ | ⟨h1, h2, ⟨h3, rfl⟩ | ⟨rfl, h4, h5, ⟨h6, rfl⟩ | ⟨h6, h7, rfl⟩⟩⟩
  · go_enter Try.func17, Try.ntmps17
    go_wp2_with (first | (go_at_call 13; refine (implStatsValid _ _ _ _ _ _).mono ?_; rintro e w1 ⟨rfl, hb⟩; obtain ⟨hc, hf⟩ := bkeep hb (w.heap.size) (by first | omega | (simp; done) | (simp; omega)); obtain ⟨hc, hf⟩ := bkeep hb (w.heap.size + 1) (by first | omega | (simp; done) | (simp; omega)); have hz : w.heap.size + 2 ≤ w1.heap.size := Nat.le_trans (by first | omega | (simp; done) | (simp; omega)) hb.size))
    go_ret
    refine retV_mk rfl ?_
    (repeat' (first | (with_reducible exact Below.refl _ _) | (with_reducible assumption) | (with_reducible refine Below.alloc ?_ ?_ _) | (with_reducible refine Below.setCell ?_ ?_ _) | (with_reducible refine Below.drew ?_) | (with_reducible refine below_step (by assumption) ?_ ?_) | (with_reducible refine below_gstep (by assumption) ?_ ?_ ?_) | omega | (simp; done) | (simp; omega)))
  · go_enter Try.func17, Try.ntmps17
    go_wp2_with (first | (go_at_call 13; refine (implStatsValid _ _ _ _ _ _).mono ?_; rintro e w1 ⟨rfl, hb⟩; obtain ⟨hc, hf⟩ := bkeep hb (w.heap.size) (by first | omega | (simp; done) | (simp; omega)); obtain ⟨hc, hf⟩ := bkeep hb (w.heap.size + 1) (by first | omega | (simp; done) | (simp; omega)); have hz : w.heap.size + 2 ≤ w1.heap.size := Nat.le_trans (by first | omega | (simp; done) | (simp; omega)) hb.size))
    go_ret
    refine retV_mk rfl ?_
    (repeat' (first | (with_reducible exact Below.refl _ _) | (with_reducible assumption) | (with_reducible refine Below.alloc ?_ ?_ _) | (with_reducible refine Below.setCell ?_ ?_ _) | (with_reducible refine Below.drew ?_) | (with_reducible refine below_step (by assumption) ?_ ?_) | (with_reducible refine below_gstep (by assumption) ?_ ?_ ?_) | omega | (simp; done) | (simp; omega)))
  · obtain ⟨a1, a2, a3, a4, a5, _⟩ := statsB_bd h1
    obtain ⟨b1, b2, b3, b4, b5, _⟩ := statsB_bd h2
    go_enter Try.func17, Try.ntmps17
    go_wp2_with (first | (go_at_call 13; refine (implStatsValid _ _ _ _ _ _).mono ?_; rintro e w1 ⟨rfl, hb⟩; obtain ⟨hc, hf⟩ := bkeep hb (w.heap.size) (by first | omega | (simp; done) | (simp; omega)); obtain ⟨hc, hf⟩ := bkeep hb (w.heap.size + 1) (by first | omega | (simp; done) | (simp; omega)); have hz : w.heap.size + 2 ≤ w1.heap.size := Nat.le_trans (by first | omega | (simp; done) | (simp; omega)) hb.size))
    all_goals
      go_ret
      refine retV_mk rfl ?_
      (repeat' (first | (with_reducible exact Below.refl _ _) | (with_reducible assumption) | (with_reducible refine Below.alloc ?_ ?_ _) | (with_reducible refine Below.setCell ?_ ?_ _) | (with_reducible refine Below.drew ?_) | (with_reducible refine below_step (by assumption) ?_ ?_) | (with_reducible refine below_gstep (by assumption) ?_ ?_ ?_) | omega | (simp; done) | (simp; omega)))
  · obtain ⟨a1, a2, a3, a4, a5, _⟩ := statsB_bd h1
    obtain ⟨b1, b2, b3, b4, b5, _⟩ := statsB_bd h2
    go_enter Try.func17, Try.ntmps17
    go_wp2_with (first | (go_at_call 13; refine (implStatsValid _ _ _ _ _ _).mono ?_; rintro e w1 ⟨rfl, hb⟩; obtain ⟨hc, hf⟩ := bkeep hb (w.heap.size) (by first | omega | (simp; done) | (simp; omega)); obtain ⟨hc, hf⟩ := bkeep hb (w.heap.size + 1) (by first | omega | (simp; done) | (simp; omega)); have hz : w.heap.size + 2 ≤ w1.heap.size := Nat.le_trans (by first | omega | (simp; done) | (simp; omega)) hb.size))
    go_region_held3 (fun w' => w'.cell? ⟨w.heap.size, 0, none⟩ = some (.int .i64 f) ∧ w'.cell? ⟨w.heap.size, 1, none⟩ = some (.int .i64 m0) ∧ w'.cell? ⟨w.heap.size, 2, none⟩ = some (.int .i64 g0) ∧ w'.cell? ⟨w.heap.size, 3, none⟩ = some (.int .i64 d0) ∧ w'.cell? ⟨w.heap.size, 4, none⟩ = some (.int .i64 t0) ∧ w'.cell? ⟨w.heap.size + 1, 0, none⟩ = some (.int .i64 f) ∧ w'.cell? ⟨w.heap.size + 1, 1, none⟩ = some (.int .i64 m) ∧ w'.cell? ⟨w.heap.size + 1, 2, none⟩ = some (.int .i64 g) ∧ w'.cell? ⟨w.heap.size + 1, 3, none⟩ = some (.int .i64 d) ∧ w'.cell? ⟨w.heap.size + 1, 4, none⟩ = some (.int .i64 t)) (go_keep) (first | (go_at_call 15; refine (lostI _ _ _ _ _ (by assumption) _).mono ?_; rintro e w1 ⟨rfl, hb⟩; obtain ⟨hc, hf⟩ := bkeep hb (w.heap.size) (by first | omega | (simp; done) | (simp; omega)); obtain ⟨hc, hf⟩ := bkeep hb (w.heap.size + 1) (by first | omega | (simp; done) | (simp; omega)); have hz : w.heap.size + 2 ≤ w1.heap.size := Nat.le_trans (by first | omega | (simp; done) | (simp; omega)) hb.size))
    go_wp2
    all_goals
      go_ret
      refine retV_mk rfl ?_
      (repeat' (first | (with_reducible exact Below.refl _ _) | (with_reducible assumption) | (with_reducible refine Below.alloc ?_ ?_ _) | (with_reducible refine Below.setCell ?_ ?_ _) | (with_reducible refine Below.drew ?_) | (with_reducible refine below_step (by assumption) ?_ ?_) | (with_reducible refine below_gstep (by assumption) ?_ ?_ ?_) | omega | (simp; done) | (simp; omega)))
  · obtain ⟨a1, a2, a3, a4, a5, _⟩ := statsB_bd h1
    obtain ⟨b1, b2, b3, b4, b5, _⟩ := statsB_bd h2
    have hs0 : (m - m0 == 0) = false := by simp; omega
    go_enter Try.func17, Try.ntmps17
    go_wp2_with (first | (go_at_call 13; refine (implStatsValid _ _ _ _ _ _).mono ?_; rintro e w1 ⟨rfl, hb⟩; obtain ⟨hc, hf⟩ := bkeep hb (w.heap.size) (by first | omega | (simp; done) | (simp; omega)); obtain ⟨hc, hf⟩ := bkeep hb (w.heap.size + 1) (by first | omega | (simp; done) | (simp; omega)); have hz : w.heap.size + 2 ≤ w1.heap.size := Nat.le_trans (by first | omega | (simp; done) | (simp; omega)) hb.size))
    go_region_held3 (fun w' => w'.cell? ⟨w.heap.size, 0, none⟩ = some (.int .i64 f) ∧ w'.cell? ⟨w.heap.size, 1, none⟩ = some (.int .i64 m0) ∧ w'.cell? ⟨w.heap.size, 2, none⟩ = some (.int .i64 g0) ∧ w'.cell? ⟨w.heap.size, 3, none⟩ = some (.int .i64 d0) ∧ w'.cell? ⟨w.heap.size, 4, none⟩ = some (.int .i64 t0) ∧ w'.cell? ⟨w.heap.size + 1, 0, none⟩ = some (.int .i64 f) ∧ w'.cell? ⟨w.heap.size + 1, 1, none⟩ = some (.int .i64 m) ∧ w'.cell? ⟨w.heap.size + 1, 2, none⟩ = some (.int .i64 g) ∧ w'.cell? ⟨w.heap.size + 1, 3, none⟩ = some (.int .i64 d) ∧ w'.cell? ⟨w.heap.size + 1, 4, none⟩ = some (.int .i64 t)) (go_keep) (first | (go_at_call 15; refine (lostI _ _ _ _ _ (by assumption) _).mono ?_; rintro e w1 ⟨rfl, hb⟩; obtain ⟨hc, hf⟩ := bkeep hb (w.heap.size) (by first | omega | (simp; done) | (simp; omega)); obtain ⟨hc, hf⟩ := bkeep hb (w.heap.size + 1) (by first | omega | (simp; done) | (simp; omega)); have hz : w.heap.size + 2 ≤ w1.heap.size := Nat.le_trans (by first | omega | (simp; done) | (simp; omega)) hb.size))
    go_wp2
    go_ret
    refine retV_mk (congrArg (fun x => Value.int .i64 (256 * x / (m - m0))) (by omega)) ?_
    (repeat' (first | (with_reducible exact Below.refl _ _) | (with_reducible assumption) | (with_reducible refine Below.alloc ?_ ?_ _) | (with_reducible refine Below.setCell ?_ ?_ _) | (with_reducible refine Below.drew ?_) | (with_reducible refine below_step (by assumption) ?_ ?_) | (with_reducible refine below_gstep (by assumption) ?_ ?_ ?_) | omega | (simp; done) | (simp; omega)))
theorem walk_fnExactStatsPart {H : Type} {enc : TypeId × Value → H} (W : World) (base : Nat) (v : Value) (d : DataW H) (p : List MemPlace) (v1 : Value) (d1 : DataW H) (p1 : List MemPlace) (o : Value.okWide Try.prog W .any base 23 v) (h : DataW.Trod enc Try.prog W 0 (fun _ => true) true 23 v d p)
    (o1 : Value.okWide Try.prog W .any base 23 v1) (h1 : DataW.Trod enc Try.prog W 0 (fun _ => true) true 23 v1 d1 p1) :
    Calls Try.prog 5 #[v, v1] W (RetB true W) := by
  obtain ⟨f0, m0, g0, d0, t0, rfl⟩ := open_stats W base v d p o h
  obtain ⟨f, m, g, d', t, rfl⟩ := open_stats W base v1 d1 p1 o1 h1
  clear o h o1 h1
  obtain ⟨r, hr⟩ := partR_some f0 m0 g0 d0 t0 f m g d' t
  have Hr := hide hr
  clear hr
  go_enter Try.func5, Try.ntmps5
  go_wp2_with (fail)
  go_region_held3 (fun w' => w'.cell? ⟨W.heap.size, 0, none⟩ = some (.int .i64 f0) ∧ w'.cell? ⟨W.heap.size, 1, none⟩ = some (.int .i64 m0) ∧ w'.cell? ⟨W.heap.size, 2, none⟩ = some (.int .i64 g0) ∧ w'.cell? ⟨W.heap.size, 3, none⟩ = some (.int .i64 d0) ∧ w'.cell? ⟨W.heap.size, 4, none⟩ = some (.int .i64 t0) ∧ w'.cell? ⟨W.heap.size + 1, 0, none⟩ = some (.int .i64 f) ∧ w'.cell? ⟨W.heap.size + 1, 1, none⟩ = some (.int .i64 m) ∧ w'.cell? ⟨W.heap.size + 1, 2, none⟩ = some (.int .i64 g) ∧ w'.cell? ⟨W.heap.size + 1, 3, none⟩ = some (.int .i64 d') ∧ w'.cell? ⟨W.heap.size + 1, 4, none⟩ = some (.int .i64 t)) (go_keep) (first | (go_at_call 12; refine (toStats _ _ _ _ _ _).mono ?_; rintro e w1 ⟨rfl, hb⟩; obtain ⟨hc, hf⟩ := bkeep hb (W.heap.size) (by first | omega | (simp; done) | (simp; omega)); obtain ⟨hc, hf⟩ := bkeep hb (W.heap.size + 1) (by first | omega | (simp; done) | (simp; omega)); have hz : W.heap.size + 2 ≤ w1.heap.size := Nat.le_trans (by first | omega | (simp; done) | (simp; omega)) hb.size) | (go_at_call 16; refine (specStatsPart _ _ _ _ _ _ _ _ _ _ r _ Hr.out).mono ?_; rintro e w1 ⟨rfl, hb⟩; obtain ⟨hc, hf⟩ := bkeep hb (W.heap.size) (by first | omega | (simp; done) | (simp; omega)); obtain ⟨hc, hf⟩ := bkeep hb (W.heap.size + 1) (by first | omega | (simp; done) | (simp; omega)); have hz : W.heap.size + 2 ≤ w1.heap.size := Nat.le_trans (by first | omega | (simp; done) | (simp; omega)) hb.size))
  go_wp2_with (fail)
  go_region_held3 (fun w' => w'.cell? ⟨W.heap.size, 0, none⟩ = some (.int .i64 f0) ∧ w'.cell? ⟨W.heap.size, 1, none⟩ = some (.int .i64 m0) ∧ w'.cell? ⟨W.heap.size, 2, none⟩ = some (.int .i64 g0) ∧ w'.cell? ⟨W.heap.size, 3, none⟩ = some (.int .i64 d0) ∧ w'.cell? ⟨W.heap.size, 4, none⟩ = some (.int .i64 t0) ∧ w'.cell? ⟨W.heap.size + 1, 0, none⟩ = some (.int .i64 f) ∧ w'.cell? ⟨W.heap.size + 1, 1, none⟩ = some (.int .i64 m) ∧ w'.cell? ⟨W.heap.size + 1, 2, none⟩ = some (.int .i64 g) ∧ w'.cell? ⟨W.heap.size + 1, 3, none⟩ = some (.int .i64 d') ∧ w'.cell? ⟨W.heap.size + 1, 4, none⟩ = some (.int .i64 t)) (go_keep) (first | (go_at_call 12; refine (toStats _ _ _ _ _ _).mono ?_; rintro e w1 ⟨rfl, hb⟩; obtain ⟨hc, hf⟩ := bkeep hb (W.heap.size) (by first | omega | (simp; done) | (simp; omega)); obtain ⟨hc, hf⟩ := bkeep hb (W.heap.size + 1) (by first | omega | (simp; done) | (simp; omega)); have hz : W.heap.size + 2 ≤ w1.heap.size := Nat.le_trans (by first | omega | (simp; done) | (simp; omega)) hb.size) | (go_at_call 17; refine (implStatsPart _ _ _ _ _ _ _ _ _ _ r _ Hr.out).mono ?_; rintro e w1 ⟨rfl, hb⟩; obtain ⟨hc, hf⟩ := bkeep hb (W.heap.size) (by first | omega | (simp; done) | (simp; omega)); obtain ⟨hc, hf⟩ := bkeep hb (W.heap.size + 1) (by first | omega | (simp; done) | (simp; omega)); have hz : W.heap.size + 2 ≤ w1.heap.size := Nat.le_trans (by first | omega | (simp; done) | (simp; omega)) hb.size))
  go_wp2_with (fail)
  go_ret
  refine ⟨rfl, ?_⟩
  (repeat' (first | (with_reducible exact Below.refl _ _) | (with_reducible assumption) | (with_reducible refine Below.alloc ?_ ?_ _) | (with_reducible refine Below.setCell ?_ ?_ _) | (with_reducible refine Below.drew ?_) | (with_reducible refine below_step (by assumption) ?_ ?_) | (with_reducible refine below_gstep (by assumption) ?_ ?_ ?_) | omega | (simp; done) | (simp; omega)))
end Go.Proofs.Ytcfcnefhjdoceaa
