/- Contracts of EstimateLoss of the reference; of EstimateNext, of both. -/
import Derived.Test.YtdebjgghhiohmaaDoorE6
namespace Go.Proofs.YtdebjgghhiohmaaDoor
open Go.ChangeShapes Go.WideShapes Go.ChangeAt Go.RowKit

theorem ret_boolE {a b : Bool} (h : a = b) : Ending.returned (.bool a) = .returned (.bool b) := by rw [h]
theorem l6In_e (n a b : Int) (w : World) : Calls Tryd.prog 20 #[.int .i64 n, .int .i64 a, .int .i64 b] w fun e w' => e = .returned (.bool (decide (a ≤ n ∧ n ≤ b))) ∧ w = w' := by
  go_enter Tryd.func20, Tryd.ntmps20
  go_wp2
  all_goals
    go_ret
    refine ⟨ret_boolE (by rw [Bool.eq_iff_iff]; simp; try omega), rfl⟩
set_option maxHeartbeats 1000000 in
theorem specLoss (r l h p N L H : Int) (B : Bool) (w : World) (hd : lossV r l h p N L H B) :
    Calls Tryd.prog 10 #[.agg #[.int .i64 r, .int .i64 l, .int .i64 h], .int .i64 p] w (RetV (.tuple #[.agg #[.int .i64 N, .int .i64 L, .int .i64 H], .bool B]) w) := by
  rcases hd with ⟨h1, h2, h3, hN, rfl, rfl, rfl⟩ | ⟨h1, rfl, rfl, rfl, rfl⟩
  · have HN := hide hN
    have d1 : decide (0 ≤ p ∧ p ≤ 256) = true := decide_eq_true ⟨h2, h3⟩
    obtain ⟨k1, k2, k3, k4⟩ := estB_bd h1
    have j1 := hide (specLossN r p (by omega) (by omega) h2 h3)
    have j2 := hide (specWith r L H (lossN r p) (by omega))
    obtain ⟨Q, hQ⟩ : ∃ Q, lossN r p = Q := ⟨_, rfl⟩
    rw [hQ] at HN j1 j2
    clear hN hQ
    go_enter Tryd.func10, Tryd.ntmps10
    go_wp2_with fail
    refine (specEstimateValid _ _ _ _).mono ?_
    rintro e w1 ⟨rfl, hb⟩
    have rX : Row w1 (w.heap.size) _ := Row.below (by (repeat' (first | (with_reducible assumption) | (with_reducible exact Row.new _ _ _) | (with_reducible exact Row.new1 _ _ _ _) | (with_reducible exact Row.new2 _ _ _ _ _) | (with_reducible exact Row.new2' _ _ _ _ _) | ((with_reducible apply Row.mk) <;> (with_reducible assumption)) | (with_reducible apply Row.alloc) | (with_reducible apply Row.set) | (with_reducible apply Row.far) | (with_reducible apply Row.drew) | (with_reducible apply Row.drewN) | omega | (simp; done) | (simp; omega)))) hb
    have rZ : Row w1 (w.heap.size + 1) _ := Row.below (by (repeat' (first | (with_reducible assumption) | (with_reducible exact Row.new _ _ _) | (with_reducible exact Row.new1 _ _ _ _) | (with_reducible exact Row.new2 _ _ _ _ _) | (with_reducible exact Row.new2' _ _ _ _ _) | ((with_reducible apply Row.mk) <;> (with_reducible assumption)) | (with_reducible apply Row.alloc) | (with_reducible apply Row.set) | (with_reducible apply Row.far) | (with_reducible apply Row.drew) | (with_reducible apply Row.drewN) | omega | (simp; done) | (simp; omega)))) hb
    (try clear cX fX lX)
    (try clear cZ fZ lZ)
    obtain ⟨cX, fX, lX⟩ := rX
    obtain ⟨cZ, fZ, lZ⟩ := rZ
    have hG : Below w.heap.size w w1 := by (repeat' (first | (with_reducible exact Below.refl _ _) | (with_reducible assumption) | (with_reducible refine Below.alloc ?_ ?_ _) | (with_reducible refine Below.setCell ?_ ?_ _) | (with_reducible refine Below.drew ?_) | (with_reducible refine below_drewN' ?_ _) | (with_reducible refine below_step (by assumption) ?_ ?_) | (with_reducible refine below_gstep (by assumption) ?_ ?_ ?_) | (with_reducible exact Below.size (by assumption)) | omega | (simp; done) | (simp; omega)))
    clear hb
    go_wp2_with fail
    refine (l6In_e _ _ _ _).mono ?_
    rintro e w2 ⟨rfl, rfl⟩
    go_upto_region 3 with (fail)
    go_region_held3 (fun w' => ∀ o, w'.cell? ⟨w.heap.size, o, none⟩ = #[Value.int .i64 r, .int .i64 L, .int .i64 H][o]?) (first | (with_reducible assumption) | (intro o; simp [go_sem, *]; done) | go_keep) (first | (go_at_call 22; (with_reducible refine (j1.out _).mono ?_); rintro e w4 ⟨rfl, hb4⟩; have rX : Row w4 (w.heap.size) _ := Row.below (by (repeat' (first | (with_reducible assumption) | (with_reducible exact Row.new _ _ _) | (with_reducible exact Row.new1 _ _ _ _) | (with_reducible exact Row.new2 _ _ _ _ _) | (with_reducible exact Row.new2' _ _ _ _ _) | ((with_reducible apply Row.mk) <;> (with_reducible assumption)) | (with_reducible apply Row.alloc) | (with_reducible apply Row.set) | (with_reducible apply Row.far) | (with_reducible apply Row.drew) | (with_reducible apply Row.drewN) | omega | (simp; done) | (simp; omega)))) hb4; have rZ : Row w4 (w.heap.size + 1) _ := Row.below (by (repeat' (first | (with_reducible assumption) | (with_reducible exact Row.new _ _ _) | (with_reducible exact Row.new1 _ _ _ _) | (with_reducible exact Row.new2 _ _ _ _ _) | (with_reducible exact Row.new2' _ _ _ _ _) | ((with_reducible apply Row.mk) <;> (with_reducible assumption)) | (with_reducible apply Row.alloc) | (with_reducible apply Row.set) | (with_reducible apply Row.far) | (with_reducible apply Row.drew) | (with_reducible apply Row.drewN) | omega | (simp; done) | (simp; omega)))) hb4; have hG4 : Below w.heap.size w w4 := (by (repeat' (first | (with_reducible exact Below.refl _ _) | (with_reducible assumption) | (with_reducible refine Below.alloc ?_ ?_ _) | (with_reducible refine Below.setCell ?_ ?_ _) | (with_reducible refine Below.drew ?_) | (with_reducible refine below_drewN' ?_ _) | (with_reducible refine below_step (by assumption) ?_ ?_) | (with_reducible refine below_gstep (by assumption) ?_ ?_ ?_) | (with_reducible exact Below.size (by assumption)) | omega | (simp; done) | (simp; omega)))); obtain ⟨cX, fX, lX⟩ := rX; obtain ⟨cZ, fZ, lZ⟩ := rZ) | (go_at_call 21; (with_reducible refine (j2.out _).mono ?_); rintro e w5 ⟨rfl, hb5⟩; have rX : Row w5 (w.heap.size) _ := Row.below (by (repeat' (first | (with_reducible assumption) | (with_reducible exact Row.new _ _ _) | (with_reducible exact Row.new1 _ _ _ _) | (with_reducible exact Row.new2 _ _ _ _ _) | (with_reducible exact Row.new2' _ _ _ _ _) | ((with_reducible apply Row.mk) <;> (with_reducible assumption)) | (with_reducible apply Row.alloc) | (with_reducible apply Row.set) | (with_reducible apply Row.far) | (with_reducible apply Row.drew) | (with_reducible apply Row.drewN) | omega | (simp; done) | (simp; omega)))) hb5; have rZ : Row w5 (w.heap.size + 1) _ := Row.below (by (repeat' (first | (with_reducible assumption) | (with_reducible exact Row.new _ _ _) | (with_reducible exact Row.new1 _ _ _ _) | (with_reducible exact Row.new2 _ _ _ _ _) | (with_reducible exact Row.new2' _ _ _ _ _) | ((with_reducible apply Row.mk) <;> (with_reducible assumption)) | (with_reducible apply Row.alloc) | (with_reducible apply Row.set) | (with_reducible apply Row.far) | (with_reducible apply Row.drew) | (with_reducible apply Row.drewN) | omega | (simp; done) | (simp; omega)))) hb5; have hG5 : Below w.heap.size w w5 := (by (repeat' (first | (with_reducible exact Below.refl _ _) | (with_reducible assumption) | (with_reducible refine Below.alloc ?_ ?_ _) | (with_reducible refine Below.setCell ?_ ?_ _) | (with_reducible refine Below.drew ?_) | (with_reducible refine below_drewN' ?_ _) | (with_reducible refine below_step (by assumption) ?_ ?_) | (with_reducible refine below_gstep (by assumption) ?_ ?_ ?_) | (with_reducible exact Below.size (by assumption)) | omega | (simp; done) | (simp; omega)))); obtain ⟨cX, fX, lX⟩ := rX; obtain ⟨cZ, fZ, lZ⟩ := rZ))
    all_goals
      rw [← HN.out]
      go_wp2
      refine bodyPost_ret (by first | (simp (maxDischargeDepth := 3) [results, Tryd.results10, go_sem, *]; done) | (simp (maxDischargeDepth := 3) [results, Tryd.results10, go_sem, *]; rfl) | (simp (maxDischargeDepth := 7) [results, Tryd.results10, go_sem, *]; done) | (simp (maxDischargeDepth := 7) [results, Tryd.results10, go_sem, *]; rfl)) rfl ?_
      refine retV_mk rfl ?_
      (repeat' (first | (with_reducible exact Below.refl _ _) | (with_reducible assumption) | (with_reducible refine Below.alloc ?_ ?_ _) | (with_reducible refine Below.setCell ?_ ?_ _) | (with_reducible refine Below.drew ?_) | (with_reducible refine below_drewN' ?_ _) | (with_reducible refine below_step (by assumption) ?_ ?_) | (with_reducible refine below_gstep (by assumption) ?_ ?_ ?_) | (with_reducible exact Below.size (by assumption)) | omega | (simp; done) | (simp; omega)))
  · have e : decide (0 ≤ p ∧ p ≤ 256) = false ∨ estB r l h = false := by
      rcases h1 with h1 | ⟨h1, h2⟩
      · exact .inr h1
      · exact .inl (decide_eq_false (by omega))
    clear h1
    go_enter Tryd.func10, Tryd.ntmps10
    go_wp2_with fail
    refine (specEstimateValid _ _ _ _).mono ?_
    rintro e w1 ⟨rfl, hb⟩
    have rX : Row w1 (w.heap.size) _ := Row.below (by (repeat' (first | (with_reducible assumption) | (with_reducible exact Row.new _ _ _) | (with_reducible exact Row.new1 _ _ _ _) | (with_reducible exact Row.new2 _ _ _ _ _) | (with_reducible exact Row.new2' _ _ _ _ _) | ((with_reducible apply Row.mk) <;> (with_reducible assumption)) | (with_reducible apply Row.alloc) | (with_reducible apply Row.set) | (with_reducible apply Row.far) | (with_reducible apply Row.drew) | (with_reducible apply Row.drewN) | omega | (simp; done) | (simp; omega)))) hb
    have rZ : Row w1 (w.heap.size + 1) _ := Row.below (by (repeat' (first | (with_reducible assumption) | (with_reducible exact Row.new _ _ _) | (with_reducible exact Row.new1 _ _ _ _) | (with_reducible exact Row.new2 _ _ _ _ _) | (with_reducible exact Row.new2' _ _ _ _ _) | ((with_reducible apply Row.mk) <;> (with_reducible assumption)) | (with_reducible apply Row.alloc) | (with_reducible apply Row.set) | (with_reducible apply Row.far) | (with_reducible apply Row.drew) | (with_reducible apply Row.drewN) | omega | (simp; done) | (simp; omega)))) hb
    (try clear cX fX lX)
    (try clear cZ fZ lZ)
    obtain ⟨cX, fX, lX⟩ := rX
    obtain ⟨cZ, fZ, lZ⟩ := rZ
    have hG : Below w.heap.size w w1 := by (repeat' (first | (with_reducible exact Below.refl _ _) | (with_reducible assumption) | (with_reducible refine Below.alloc ?_ ?_ _) | (with_reducible refine Below.setCell ?_ ?_ _) | (with_reducible refine Below.drew ?_) | (with_reducible refine below_drewN' ?_ _) | (with_reducible refine below_step (by assumption) ?_ ?_) | (with_reducible refine below_gstep (by assumption) ?_ ?_ ?_) | (with_reducible exact Below.size (by assumption)) | omega | (simp; done) | (simp; omega)))
    clear hb
    obtain ⟨E, hE⟩ : ∃ E, estB r l h = E := ⟨_, rfl⟩
    rw [hE] at e ⊢
    clear hE
    cases E
    · clear e
      go_wp2
      refine bodyPost_ret (by first | (simp (maxDischargeDepth := 3) [results, Tryd.results10, go_sem, *]; done) | (simp (maxDischargeDepth := 3) [results, Tryd.results10, go_sem, *]; rfl) | (simp (maxDischargeDepth := 7) [results, Tryd.results10, go_sem, *]; done) | (simp (maxDischargeDepth := 7) [results, Tryd.results10, go_sem, *]; rfl)) rfl ?_
      refine retV_mk rfl ?_
      (repeat' (first | (with_reducible exact Below.refl _ _) | (with_reducible assumption) | (with_reducible refine Below.alloc ?_ ?_ _) | (with_reducible refine Below.setCell ?_ ?_ _) | (with_reducible refine Below.drew ?_) | (with_reducible refine below_drewN' ?_ _) | (with_reducible refine below_step (by assumption) ?_ ?_) | (with_reducible refine below_gstep (by assumption) ?_ ?_ ?_) | (with_reducible exact Below.size (by assumption)) | omega | (simp; done) | (simp; omega)))
    · have e' : decide (0 ≤ p ∧ p ≤ 256) = false := by simpa using e
      clear e
      go_wp2_with fail
      refine (l6In_e _ _ _ _).mono ?_
      rintro e w2 ⟨rfl, rfl⟩
      go_wp2
      refine bodyPost_ret (by first | (simp (maxDischargeDepth := 3) [results, Tryd.results10, go_sem, *]; done) | (simp (maxDischargeDepth := 3) [results, Tryd.results10, go_sem, *]; rfl) | (simp (maxDischargeDepth := 7) [results, Tryd.results10, go_sem, *]; done) | (simp (maxDischargeDepth := 7) [results, Tryd.results10, go_sem, *]; rfl)) rfl ?_
      refine retV_mk rfl ?_
      (repeat' (first | (with_reducible exact Below.refl _ _) | (with_reducible assumption) | (with_reducible refine Below.alloc ?_ ?_ _) | (with_reducible refine Below.setCell ?_ ?_ _) | (with_reducible refine Below.drew ?_) | (with_reducible refine below_drewN' ?_ _) | (with_reducible refine below_step (by assumption) ?_ ?_) | (with_reducible refine below_gstep (by assumption) ?_ ?_ ?_) | (with_reducible exact Below.size (by assumption)) | omega | (simp; done) | (simp; omega)))
def nextN (r l h p u : Int) : Int :=
  if u = 0 then clampN l h (lossN r p) else if u = 1 then clampN l h (if r - r / 6 < clampN l h (lossN r p) then r - r / 6 else clampN l h (lossN r p)) else clampN l h (if r < clampN l h (lossN r p) then r else clampN l h (lossN r p))
/-- The result for a missing part and a use, whatever the arguments. -/
def nextV (r l h p u N L H : Int) (B : Bool) : Prop :=
  (estB r l h = true ∧ 0 ≤ p ∧ p ≤ 256 ∧ 0 ≤ u ∧ u ≤ 2 ∧ N = nextN r l h p u ∧ L = l ∧ H = h ∧ B = true) ∨ ((estB r l h = false ∨ estB r l h = true ∧ (p < 0 ∨ 256 < p)) ∧ N = 0 ∧ L = 0 ∧ H = 0 ∧ B = false) ∨ (estB r l h = true ∧ 0 ≤ p ∧ p ≤ 256 ∧ (u < 0 ∨ 2 < u) ∧ N = 0 ∧ L = 0 ∧ H = 0 ∧ B = false)
theorem nextV_some (r l h p u : Int) : ∃ N L H B, nextV r l h p u N L H B := by
  by_cases h1 : estB r l h = true
  · by_cases h2 : 0 ≤ p ∧ p ≤ 256
    · by_cases h3 : 0 ≤ u ∧ u ≤ 2
      · exact ⟨_, _, _, _, .inl ⟨h1, h2.1, h2.2, h3.1, h3.2, rfl, rfl, rfl, rfl⟩⟩
      · exact ⟨_, _, _, _, .inr (.inr ⟨h1, h2.1, h2.2, by omega, rfl, rfl, rfl, rfl⟩)⟩
    · exact ⟨_, _, _, _, .inr (.inl ⟨.inr ⟨h1, by omega⟩, rfl, rfl, rfl, rfl⟩)⟩
  · exact ⟨_, _, _, _, .inr (.inl ⟨.inl (by simpa using h1), rfl, rfl, rfl, rfl⟩)⟩
theorem clamp_bd {l h x : Int} (hlh : l ≤ h) : l ≤ clampN l h x ∧ clampN l h x ≤ h := by
  unfold clampN
  repeat' split
  all_goals omega
end Go.Proofs.YtdebjgghhiohmaaDoor
