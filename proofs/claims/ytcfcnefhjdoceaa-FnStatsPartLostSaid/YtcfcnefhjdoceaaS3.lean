/- Contracts of what draws stats from a code. -/
import Derived.Test.YtcfcnefhjdoceaaS1
import Derived.Test.YtcfcnefhjdoceaaD0
import Derived.Deep.RegionHeld3
import Derived.Deep.DeepCutAuto
namespace Go.Proofs.Ytcfcnefhjdoceaa
open Go.ChangeShapes Go.WideShapes Go.ChangeAt Go.RowKit

def IsStats (v : Value) : Prop := ∃ f m g d t : Int, v = .agg #[.int .i64 f, .int .i64 m, .int .i64 g, .int .i64 d, .int .i64 t]
def IsPut (v : Value) : Prop := ∃ (f m g d t : Int) (b : Bool), v = .tuple #[.agg #[.int .i64 f, .int .i64 m, .int .i64 g, .int .i64 d, .int .i64 t], .bool b]
def okB (a b c : Int) : Bool := decide ((0 ≤ a ∧ a ≤ 999999) ∧ (0 ≤ b ∧ b ≤ 99999) ∧ (0 ≤ c ∧ c ≤ 99999))
theorem okB_bd {a b c : Int} (h : okB a b c = true) : (0 ≤ a ∧ a ≤ 999999) ∧ (0 ≤ b ∧ b ≤ 99999) ∧ (0 ≤ c ∧ c ≤ 99999) := of_decide_eq_true h
theorem ret_boolS {a b : Bool} (h : a = b) : Ending.returned (.bool a) = .returned (.bool b) := by rw [h]
theorem l14Ok_any (a b c : Int) (w : World) : Calls Try.prog 28 #[.int .i64 a, .int .i64 b, .int .i64 c] w fun e w' => e = .returned (.bool (okB a b c)) ∧ w = w' := by
  go_enter Try.func28, Try.ntmps28
  go_wp2
  all_goals
    go_ret
    refine ⟨ret_boolS (by unfold okB; rw [Bool.eq_iff_iff]; (try simp at *); first | done | omega), rfl⟩
theorem statsNew_some (a b c : Int) (w : World) : Calls Try.prog 27 #[.int .i64 a, .int .i64 b, .int .i64 c] w (Drawn IsPut w) := by
  by_cases h : okB a b c = true
  · obtain ⟨⟨h1, h2⟩, ⟨h3, h4⟩, h5, h6⟩ := okB_bd h
    go_enter Try.func27, Try.ntmps27
    go_wp2_with (first | (go_at_call 28; refine (l14Ok_any _ _ _ _).mono ?_; rintro e w' ⟨rfl, rfl⟩))
    refine bodyPost_ret (by first | (simp (maxDischargeDepth := 3) [results, Try.results27, go_sem, *]; done) | (simp (maxDischargeDepth := 3) [results, Try.results27, go_sem, *]; rfl) | (simp (maxDischargeDepth := 7) [results, Try.results27, go_sem, *]; done) | (simp (maxDischargeDepth := 7) [results, Try.results27, go_sem, *]; rfl)) rfl ?_
    refine drawn_mk ⟨_, _, _, _, _, _, rfl⟩ ?_
    (repeat' (first | (with_reducible exact Below.refl _ _) | (with_reducible assumption) | (with_reducible refine Below.alloc ?_ ?_ _) | (with_reducible refine Below.setCell ?_ ?_ _) | (with_reducible refine Below.drew ?_) | (with_reducible refine below_step (by assumption) ?_ ?_) | (with_reducible refine below_gstep (by assumption) ?_ ?_ ?_) | omega | (simp; done) | (simp; omega)))
  · have h' : okB a b c = false := by simpa using h
    clear h
    go_enter Try.func27, Try.ntmps27
    go_wp2_with (first | (go_at_call 28; refine (l14Ok_any _ _ _ _).mono ?_; rintro e w' ⟨rfl, rfl⟩))
    refine bodyPost_ret (by first | (simp (maxDischargeDepth := 3) [results, Try.results27, go_sem, *]; done) | (simp (maxDischargeDepth := 3) [results, Try.results27, go_sem, *]; rfl) | (simp (maxDischargeDepth := 7) [results, Try.results27, go_sem, *]; done) | (simp (maxDischargeDepth := 7) [results, Try.results27, go_sem, *]; rfl)) rfl ?_
    refine drawn_mk ⟨_, _, _, _, _, _, rfl⟩ ?_
    (repeat' (first | (with_reducible exact Below.refl _ _) | (with_reducible assumption) | (with_reducible refine Below.alloc ?_ ?_ _) | (with_reducible refine Below.setCell ?_ ?_ _) | (with_reducible refine Below.drew ?_) | (with_reducible refine below_step (by assumption) ?_ ?_) | (with_reducible refine below_gstep (by assumption) ?_ ?_ ?_) | omega | (simp; done) | (simp; omega)))
theorem statsPut_no (f m g d t a b c : Int) (w : World) (h : statsB f m g d t = false ∨ statsB f m g d t = true ∧ okB a b c = false ∨ statsB f m g d t = true ∧ okB a b c = true ∧ a < f) :
    Calls Try.prog 26 #[.agg #[.int .i64 f, .int .i64 m, .int .i64 g, .int .i64 d, .int .i64 t], .int .i64 a, .int .i64 b, .int .i64 c] w (Drawn IsPut w) := by
  rcases h with h | ⟨h1, h2⟩ | ⟨h1, h2, h3⟩
  all_goals
    go_enter Try.func26, Try.ntmps26
    go_wp2_with (first | (go_at_call 28; refine (l14Ok_any _ _ _ _).mono ?_; rintro e w' ⟨rfl, rfl⟩) | (go_at_call 11; refine (specStatsValid _ _ _ _ _ _).mono ?_; rintro e w1 ⟨rfl, hb⟩; obtain ⟨hc, hf⟩ := bkeep hb (w.heap.size) (by first | omega | (simp; done) | (simp; omega)); obtain ⟨hc, hf⟩ := bkeep hb (w.heap.size + 1) (by first | omega | (simp; done) | (simp; omega)); have hz : w.heap.size + 2 ≤ w1.heap.size := Nat.le_trans (by first | omega | (simp; done) | (simp; omega)) hb.size))
    refine bodyPost_ret (by first | (simp (maxDischargeDepth := 3) [results, Try.results26, go_sem, *]; done) | (simp (maxDischargeDepth := 3) [results, Try.results26, go_sem, *]; rfl) | (simp (maxDischargeDepth := 7) [results, Try.results26, go_sem, *]; done) | (simp (maxDischargeDepth := 7) [results, Try.results26, go_sem, *]; rfl)) rfl ?_
    refine drawn_mk ⟨_, _, _, _, _, _, rfl⟩ ?_
    (repeat' (first | (with_reducible exact Below.refl _ _) | (with_reducible assumption) | (with_reducible refine Below.alloc ?_ ?_ _) | (with_reducible refine Below.setCell ?_ ?_ _) | (with_reducible refine Below.drew ?_) | (with_reducible refine below_step (by assumption) ?_ ?_) | (with_reducible refine below_gstep (by assumption) ?_ ?_ ?_) | omega | (simp; done) | (simp; omega)))
set_option maxHeartbeats 1000000 in
theorem statsPut_yes (f m g d t a b c : Int) (w : World) (h1 : statsB f m g d t = true) (h2 : okB a b c = true) (h3 : f ≤ a) :
    Calls Try.prog 26 #[.agg #[.int .i64 f, .int .i64 m, .int .i64 g, .int .i64 d, .int .i64 t], .int .i64 a, .int .i64 b, .int .i64 c] w (Drawn IsPut w) := by
  obtain ⟨⟨k1, k2⟩, ⟨k3, k4⟩, k5, k6⟩ := okB_bd h2
  obtain ⟨q1, q2, q3, q4, q5, q6, q7, q8, q9⟩ := statsB_bd h1
  have n3 : ¬ a < f := by omega
  by_cases x1 : m < a <;> by_cases x2 : c - b - t < t - (c - b)
  all_goals
    go_enter Try.func26, Try.ntmps26
    go_wp2_with fail
    refine (specStatsValid _ _ _ _ _ _).mono ?_
    rintro e w1 ⟨rfl, hb1⟩
    have hz1 := hb1.size
    (try simp at hz1)
    obtain ⟨hc, hf⟩ := bkeep hb1 (w.heap.size) (by first | omega | (simp; done) | (simp; omega))
    have hlt : w.heap.size < w1.heap.size := by omega
    have hle : w.heap.size ≤ w1.heap.size := by omega
    obtain ⟨hc, hf⟩ := bkeep hb1 (w.heap.size + 1) (by first | omega | (simp; done) | (simp; omega))
    have hlt : w.heap.size + 1 < w1.heap.size := by omega
    have hle : w.heap.size + 1 ≤ w1.heap.size := by omega
    go_wp2_with fail
    refine (l14Ok_any _ _ _ _).mono ?_
    rintro e w' ⟨rfl, rfl⟩
    have nx1 : ¬ w.heap.size = w1.heap.size := by omega
    have nx2 : ¬ w.heap.size + 1 = w1.heap.size := by omega
    go_upto_region 6 with (fail)
    refine rebase (fun wx => (∃ f' m' g' d' t' : Int, ∀ o, wx.cell? ⟨w1.heap.size, o, none⟩ = #[Value.int .i64 f', .int .i64 m', .int .i64 g', .int .i64 d', .int .i64 t'][o]?) ∧ (∀ o, wx.cell? ⟨w.heap.size + 1, o, none⟩ = #[Value.int .i64 0, .int .i64 0, .int .i64 0, .int .i64 0, .int .i64 0][o]?) ∧ (∀ o, wx.frozen? ⟨w.heap.size + 1, o, none⟩ = false) ∧ w1.heap.size < wx.heap.size ∧ Below w.heap.size w wx) ?_ ?_
    · refine ⟨⟨_, _, _, _, _, fun o => row_cells _ _ _ o⟩, fun o => by simp [go_sem, *], fun o => by simp [go_sem, *], by simp, ?_⟩
      (repeat' (first | (with_reducible exact Below.refl _ _) | (with_reducible assumption) | (with_reducible refine Below.alloc ?_ ?_ _) | (with_reducible refine Below.setCell ?_ ?_ _) | (with_reducible refine Below.drew ?_) | (with_reducible refine below_step (by assumption) ?_ ?_) | (with_reducible refine below_gstep (by assumption) ?_ ?_ ?_) | omega | (simp; done) | (simp; omega)))
    rintro w2 ⟨⟨f2, m2, g2, d2, t2, e1⟩, e2, e3, e4, hb2⟩
    have ny1 : w.heap.size + 1 < w2.heap.size := by omega
    clear hc hf
    go_wp2_with fail
    refine (specStatsValid _ _ _ _ _ _).mono ?_
    rintro e w3 ⟨rfl, hb3⟩
    have hz3 := hb3.size
    (try simp at hz3)
    have e1' : ∀ o, w3.cell? ⟨w1.heap.size, o, none⟩ = #[Value.int .i64 f2, .int .i64 m2, .int .i64 g2, .int .i64 d2, .int .i64 t2][o]? := fun o => ((bkeep hb3 _ e4).1 o).trans (e1 o)
    have e2' : ∀ o, w3.cell? ⟨w.heap.size + 1, o, none⟩ = #[Value.int .i64 0, .int .i64 0, .int .i64 0, .int .i64 0, .int .i64 0][o]? := fun o => ((bkeep hb3 _ ny1).1 o).trans (e2 o)
    have e3' : ∀ o, w3.frozen? ⟨w.heap.size + 1, o, none⟩ = false := fun o => ((bkeep hb3 _ ny1).2 o).trans (e3 o)
    clear e1 e2 e3
    generalize statsB f2 m2 g2 d2 t2 = B
    cases B
    all_goals
      go_wp2_with fail
      refine bodyPost_ret (by first | (simp (maxDischargeDepth := 3) [results, Try.results26, go_sem, *]; done) | (simp (maxDischargeDepth := 3) [results, Try.results26, go_sem, *]; rfl) | (simp (maxDischargeDepth := 7) [results, Try.results26, go_sem, *]; done) | (simp (maxDischargeDepth := 7) [results, Try.results26, go_sem, *]; rfl)) rfl ?_
      refine drawn_mk ⟨_, _, _, _, _, _, rfl⟩ ?_
      (repeat' (first | (with_reducible exact Below.refl _ _) | (with_reducible assumption) | (with_reducible refine Below.alloc ?_ ?_ _) | (with_reducible refine Below.setCell ?_ ?_ _) | (with_reducible refine Below.drew ?_) | (with_reducible refine below_step (by assumption) ?_ ?_) | (with_reducible refine below_gstep (by assumption) ?_ ?_ ?_) | omega | (simp; done) | (simp; omega)))
end Go.Proofs.Ytcfcnefhjdoceaa
