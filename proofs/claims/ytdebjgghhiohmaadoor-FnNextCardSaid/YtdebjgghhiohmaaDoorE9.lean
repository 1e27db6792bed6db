/- EstimateNext of the reference; what DrawEstimateLoss and DrawEstimateNext draw from a code. -/
import Derived.Test.YtdebjgghhiohmaaDoorE8
import Derived.Test.YtdebjgghhiohmaaDoorDE1
namespace Go.Proofs.YtdebjgghhiohmaaDoor
open Go.ChangeShapes Go.WideShapes Go.ChangeAt Go.RowKit

set_option maxHeartbeats 1000000 in
theorem specNext (r l h p u N L H : Int) (B : Bool) (w : World) (hd : nextV r l h p u N L H B) :
    Calls Tryd.prog 16 #[.agg #[.int .i64 r, .int .i64 l, .int .i64 h], .int .i64 p, .int .i64 u] w (RetV (.tuple #[.agg #[.int .i64 N, .int .i64 L, .int .i64 H], .bool B]) w) := by
  rcases hd with ⟨h1, h2, h3, h4, h5, hN, rfl, rfl, rfl⟩ | ⟨h1, rfl, rfl, rfl, rfl⟩ | ⟨h1, h2, h3, h4, rfl, rfl, rfl, rfl⟩
  · have d1 : decide (0 ≤ u ∧ u ≤ 2) = true := decide_eq_true ⟨h4, h5⟩
    obtain ⟨k1, k2, k3, k4⟩ := estB_bd h1
    obtain ⟨q1, q2⟩ := clamp_bd (l := L) (h := H) (x := lossN r p) (by omega)
    obtain ⟨M, hM⟩ : ∃ M, clampN L H (lossN r p) = M := ⟨_, rfl⟩
    have j := hide (fun w => specLoss r L H p M L H true w (.inl ⟨h1, h2, h3, hM.symm, rfl, rfl, rfl⟩))
    rw [hM] at q1 q2
    rcases (show u = 0 ∨ u = 1 ∨ u = 2 from by omega) with rfl | rfl | rfl
    · have e : N = M := hN.trans hM
      subst e
      clear hN hM
      go_enter Tryd.func16, Tryd.ntmps16
      go_wp2_with fail
      refine (j.out _).mono ?_
      rintro e w1 ⟨rfl, hb⟩
      have rZ : Row w1 (w.heap.size + 1) _ := Row.below (by (repeat' (first | (with_reducible assumption) | (with_reducible exact Row.new _ _ _) | (with_reducible exact Row.new1 _ _ _ _) | (with_reducible exact Row.new2 _ _ _ _ _) | (with_reducible exact Row.new2' _ _ _ _ _) | ((with_reducible apply Row.mk) <;> (with_reducible assumption)) | (with_reducible apply Row.alloc) | (with_reducible apply Row.set) | (with_reducible apply Row.far) | (with_reducible apply Row.drew) | (with_reducible apply Row.drewN) | omega | (simp; done) | (simp; omega)))) hb
      (try clear cZ fZ lZ)
      obtain ⟨cZ, fZ, lZ⟩ := rZ
      have nz2 : ¬ w1.heap.size = w.heap.size + 1 := by omega
      have nz3 : ¬ w.heap.size + 1 = w1.heap.size := by omega
      have hG : Below w.heap.size w w1 := by (repeat' (first | (with_reducible exact Below.refl _ _) | (with_reducible assumption) | (with_reducible refine Below.alloc ?_ ?_ _) | (with_reducible refine Below.setCell ?_ ?_ _) | (with_reducible refine Below.drew ?_) | (with_reducible refine below_drewN' ?_ _) | (with_reducible refine below_step (by assumption) ?_ ?_) | (with_reducible refine below_gstep (by assumption) ?_ ?_ ?_) | (with_reducible exact Below.size (by assumption)) | omega | (simp; done) | (simp; omega)))
      clear hb
      go_wp2_with fail
      refine (l6In_e _ _ _ _).mono ?_
      rintro e w2 ⟨rfl, rfl⟩
      go_wp2
      refine bodyPost_ret (by first | (simp (maxDischargeDepth := 3) [results, Tryd.results16, go_sem, *]; done) | (simp (maxDischargeDepth := 3) [results, Tryd.results16, go_sem, *]; rfl) | (simp (maxDischargeDepth := 7) [results, Tryd.results16, go_sem, *]; done) | (simp (maxDischargeDepth := 7) [results, Tryd.results16, go_sem, *]; rfl)) rfl ?_
      refine retV_mk rfl ?_
      (repeat' (first | (with_reducible exact Below.refl _ _) | (with_reducible assumption) | (with_reducible refine Below.alloc ?_ ?_ _) | (with_reducible refine Below.setCell ?_ ?_ _) | (with_reducible refine Below.drew ?_) | (with_reducible refine below_drewN' ?_ _) | (with_reducible refine below_step (by assumption) ?_ ?_) | (with_reducible refine below_gstep (by assumption) ?_ ?_ ?_) | (with_reducible exact Below.size (by assumption)) | omega | (simp; done) | (simp; omega)))
    · rw [next_1, hM] at hN
      clear hM
      by_cases c : r - r / 6 < M
      all_goals
        first | rw [if_pos c] at hN | rw [if_neg c] at hN
        have HN := hide hN
        clear hN
        go_enter Tryd.func16, Tryd.ntmps16
        go_wp2_with fail
        refine (j.out _).mono ?_
        rintro e w1 ⟨rfl, hb⟩
        have rX : Row w1 (w.heap.size) _ := Row.below (by (repeat' (first | (with_reducible assumption) | (with_reducible exact Row.new _ _ _) | (with_reducible exact Row.new1 _ _ _ _) | (with_reducible exact Row.new2 _ _ _ _ _) | (with_reducible exact Row.new2' _ _ _ _ _) | ((with_reducible apply Row.mk) <;> (with_reducible assumption)) | (with_reducible apply Row.alloc) | (with_reducible apply Row.set) | (with_reducible apply Row.far) | (with_reducible apply Row.drew) | (with_reducible apply Row.drewN) | omega | (simp; done) | (simp; omega)))) hb
        have rZ : Row w1 (w.heap.size + 1) _ := Row.below (by (repeat' (first | (with_reducible assumption) | (with_reducible exact Row.new _ _ _) | (with_reducible exact Row.new1 _ _ _ _) | (with_reducible exact Row.new2 _ _ _ _ _) | (with_reducible exact Row.new2' _ _ _ _ _) | ((with_reducible apply Row.mk) <;> (with_reducible assumption)) | (with_reducible apply Row.alloc) | (with_reducible apply Row.set) | (with_reducible apply Row.far) | (with_reducible apply Row.drew) | (with_reducible apply Row.drewN) | omega | (simp; done) | (simp; omega)))) hb
        (try clear cX fX lX)
        (try clear cZ fZ lZ)
        obtain ⟨cX, fX, lX⟩ := rX
        obtain ⟨cZ, fZ, lZ⟩ := rZ
        have nz2 : ¬ w1.heap.size = w.heap.size + 1 := by omega
        have nz3 : ¬ w.heap.size + 1 = w1.heap.size := by omega
        have hG : Below w.heap.size w w1 := by (repeat' (first | (with_reducible exact Below.refl _ _) | (with_reducible assumption) | (with_reducible refine Below.alloc ?_ ?_ _) | (with_reducible refine Below.setCell ?_ ?_ _) | (with_reducible refine Below.drew ?_) | (with_reducible refine below_drewN' ?_ _) | (with_reducible refine below_step (by assumption) ?_ ?_) | (with_reducible refine below_gstep (by assumption) ?_ ?_ ?_) | (with_reducible exact Below.size (by assumption)) | omega | (simp; done) | (simp; omega)))
        clear hb
        go_wp2_with fail
        refine (l6In_e _ _ _ _).mono ?_
        rintro e w2 ⟨rfl, rfl⟩
        go_wp2_with fail
        refine (specWith r L H _ (by omega) _).mono ?_
        rintro e w2 ⟨rfl, hb⟩
        have rZ : Row w2 (w.heap.size + 1) _ := Row.below (by (repeat' (first | (with_reducible assumption) | (with_reducible exact Row.new _ _ _) | (with_reducible exact Row.new1 _ _ _ _) | (with_reducible exact Row.new2 _ _ _ _ _) | (with_reducible exact Row.new2' _ _ _ _ _) | ((with_reducible apply Row.mk) <;> (with_reducible assumption)) | (with_reducible apply Row.alloc) | (with_reducible apply Row.set) | (with_reducible apply Row.far) | (with_reducible apply Row.drew) | (with_reducible apply Row.drewN) | omega | (simp; done) | (simp; omega)))) hb
        (try clear cZ fZ lZ)
        obtain ⟨cZ, fZ, lZ⟩ := rZ
        have hG2 : Below w.heap.size w w2 := by (repeat' (first | (with_reducible exact Below.refl _ _) | (with_reducible assumption) | (with_reducible refine Below.alloc ?_ ?_ _) | (with_reducible refine Below.setCell ?_ ?_ _) | (with_reducible refine Below.drew ?_) | (with_reducible refine below_drewN' ?_ _) | (with_reducible refine below_step (by assumption) ?_ ?_) | (with_reducible refine below_gstep (by assumption) ?_ ?_ ?_) | (with_reducible exact Below.size (by assumption)) | omega | (simp; done) | (simp; omega)))
        clear hb hG
        rw [← HN.out]
        go_wp2
        refine bodyPost_ret (by first | (simp (maxDischargeDepth := 3) [results, Tryd.results16, go_sem, *]; done) | (simp (maxDischargeDepth := 3) [results, Tryd.results16, go_sem, *]; rfl) | (simp (maxDischargeDepth := 7) [results, Tryd.results16, go_sem, *]; done) | (simp (maxDischargeDepth := 7) [results, Tryd.results16, go_sem, *]; rfl)) rfl ?_
        refine retV_mk rfl ?_
        (repeat' (first | (with_reducible exact Below.refl _ _) | (with_reducible assumption) | (with_reducible refine Below.alloc ?_ ?_ _) | (with_reducible refine Below.setCell ?_ ?_ _) | (with_reducible refine Below.drew ?_) | (with_reducible refine below_drewN' ?_ _) | (with_reducible refine below_step (by assumption) ?_ ?_) | (with_reducible refine below_gstep (by assumption) ?_ ?_ ?_) | (with_reducible exact Below.size (by assumption)) | omega | (simp; done) | (simp; omega)))
    · rw [next_2, hM] at hN
      clear hM
      by_cases c : r < M
      all_goals
        first | rw [if_pos c] at hN | rw [if_neg c] at hN
        have HN := hide hN
        clear hN
        go_enter Tryd.func16, Tryd.ntmps16
        go_wp2_with fail
        refine (j.out _).mono ?_
        rintro e w1 ⟨rfl, hb⟩
        have rX : Row w1 (w.heap.size) _ := Row.below (by (repeat' (first | (with_reducible assumption) | (with_reducible exact Row.new _ _ _) | (with_reducible exact Row.new1 _ _ _ _) | (with_reducible exact Row.new2 _ _ _ _ _) | (with_reducible exact Row.new2' _ _ _ _ _) | ((with_reducible apply Row.mk) <;> (with_reducible assumption)) | (with_reducible apply Row.alloc) | (with_reducible apply Row.set) | (with_reducible apply Row.far) | (with_reducible apply Row.drew) | (with_reducible apply Row.drewN) | omega | (simp; done) | (simp; omega)))) hb
        have rZ : Row w1 (w.heap.size + 1) _ := Row.below (by (repeat' (first | (with_reducible assumption) | (with_reducible exact Row.new _ _ _) | (with_reducible exact Row.new1 _ _ _ _) | (with_reducible exact Row.new2 _ _ _ _ _) | (with_reducible exact Row.new2' _ _ _ _ _) | ((with_reducible apply Row.mk) <;> (with_reducible assumption)) | (with_reducible apply Row.alloc) | (with_reducible apply Row.set) | (with_reducible apply Row.far) | (with_reducible apply Row.drew) | (with_reducible apply Row.drewN) | omega | (simp; done) | (simp; omega)))) hb
        (try clear cX fX lX)
        (try clear cZ fZ lZ)
        obtain ⟨cX, fX, lX⟩ := rX
        obtain ⟨cZ, fZ, lZ⟩ := rZ
        have nz2 : ¬ w1.heap.size = w.heap.size + 1 := by omega
        have nz3 : ¬ w.heap.size + 1 = w1.heap.size := by omega
        have hG : Below w.heap.size w w1 := by (repeat' (first | (with_reducible exact Below.refl _ _) | (with_reducible assumption) | (with_reducible refine Below.alloc ?_ ?_ _) | (with_reducible refine Below.setCell ?_ ?_ _) | (with_reducible refine Below.drew ?_) | (with_reducible refine below_drewN' ?_ _) | (with_reducible refine below_step (by assumption) ?_ ?_) | (with_reducible refine below_gstep (by assumption) ?_ ?_ ?_) | (with_reducible exact Below.size (by assumption)) | omega | (simp; done) | (simp; omega)))
        clear hb
        go_wp2_with fail
        refine (l6In_e _ _ _ _).mono ?_
        rintro e w2 ⟨rfl, rfl⟩
        go_wp2_with fail
        refine (specWith r L H _ (by omega) _).mono ?_
        rintro e w2 ⟨rfl, hb⟩
        have rZ : Row w2 (w.heap.size + 1) _ := Row.below (by (repeat' (first | (with_reducible assumption) | (with_reducible exact Row.new _ _ _) | (with_reducible exact Row.new1 _ _ _ _) | (with_reducible exact Row.new2 _ _ _ _ _) | (with_reducible exact Row.new2' _ _ _ _ _) | ((with_reducible apply Row.mk) <;> (with_reducible assumption)) | (with_reducible apply Row.alloc) | (with_reducible apply Row.set) | (with_reducible apply Row.far) | (with_reducible apply Row.drew) | (with_reducible apply Row.drewN) | omega | (simp; done) | (simp; omega)))) hb
        (try clear cZ fZ lZ)
        obtain ⟨cZ, fZ, lZ⟩ := rZ
        have hG2 : Below w.heap.size w w2 := by (repeat' (first | (with_reducible exact Below.refl _ _) | (with_reducible assumption) | (with_reducible refine Below.alloc ?_ ?_ _) | (with_reducible refine Below.setCell ?_ ?_ _) | (with_reducible refine Below.drew ?_) | (with_reducible refine below_drewN' ?_ _) | (with_reducible refine below_step (by assumption) ?_ ?_) | (with_reducible refine below_gstep (by assumption) ?_ ?_ ?_) | (with_reducible exact Below.size (by assumption)) | omega | (simp; done) | (simp; omega)))
        clear hb hG
        rw [← HN.out]
        go_wp2
        refine bodyPost_ret (by first | (simp (maxDischargeDepth := 3) [results, Tryd.results16, go_sem, *]; done) | (simp (maxDischargeDepth := 3) [results, Tryd.results16, go_sem, *]; rfl) | (simp (maxDischargeDepth := 7) [results, Tryd.results16, go_sem, *]; done) | (simp (maxDischargeDepth := 7) [results, Tryd.results16, go_sem, *]; rfl)) rfl ?_
        refine retV_mk rfl ?_
        (repeat' (first | (with_reducible exact Below.refl _ _) | (with_reducible assumption) | (with_reducible refine Below.alloc ?_ ?_ _) | (with_reducible refine Below.setCell ?_ ?_ _) | (with_reducible refine Below.drew ?_) | (with_reducible refine below_drewN' ?_ _) | (with_reducible refine below_step (by assumption) ?_ ?_) | (with_reducible refine below_gstep (by assumption) ?_ ?_ ?_) | (with_reducible exact Below.size (by assumption)) | omega | (simp; done) | (simp; omega)))
  · have j := hide (fun w => specLoss r l h p 0 0 0 false w (.inr ⟨h1, rfl, rfl, rfl, rfl⟩))
    clear h1
    go_enter Tryd.func16, Tryd.ntmps16
    go_wp2_with fail
    refine (j.out _).mono ?_
    rintro e w1 ⟨rfl, hb⟩
    have rZ : Row w1 (w.heap.size + 1) _ := Row.below (by (repeat' (first | (with_reducible assumption) | (with_reducible exact Row.new _ _ _) | (with_reducible exact Row.new1 _ _ _ _) | (with_reducible exact Row.new2 _ _ _ _ _) | (with_reducible exact Row.new2' _ _ _ _ _) | ((with_reducible apply Row.mk) <;> (with_reducible assumption)) | (with_reducible apply Row.alloc) | (with_reducible apply Row.set) | (with_reducible apply Row.far) | (with_reducible apply Row.drew) | (with_reducible apply Row.drewN) | omega | (simp; done) | (simp; omega)))) hb
    (try clear cZ fZ lZ)
    obtain ⟨cZ, fZ, lZ⟩ := rZ
    have hG : Below w.heap.size w w1 := by (repeat' (first | (with_reducible exact Below.refl _ _) | (with_reducible assumption) | (with_reducible refine Below.alloc ?_ ?_ _) | (with_reducible refine Below.setCell ?_ ?_ _) | (with_reducible refine Below.drew ?_) | (with_reducible refine below_drewN' ?_ _) | (with_reducible refine below_step (by assumption) ?_ ?_) | (with_reducible refine below_gstep (by assumption) ?_ ?_ ?_) | (with_reducible exact Below.size (by assumption)) | omega | (simp; done) | (simp; omega)))
    clear hb
    go_wp2
    refine bodyPost_ret (by first | (simp (maxDischargeDepth := 3) [results, Tryd.results16, go_sem, *]; done) | (simp (maxDischargeDepth := 3) [results, Tryd.results16, go_sem, *]; rfl) | (simp (maxDischargeDepth := 7) [results, Tryd.results16, go_sem, *]; done) | (simp (maxDischargeDepth := 7) [results, Tryd.results16, go_sem, *]; rfl)) rfl ?_
    refine retV_mk rfl ?_
    (repeat' (first | (with_reducible exact Below.refl _ _) | (with_reducible assumption) | (with_reducible refine Below.alloc ?_ ?_ _) | (with_reducible refine Below.setCell ?_ ?_ _) | (with_reducible refine Below.drew ?_) | (with_reducible refine below_drewN' ?_ _) | (with_reducible refine below_step (by assumption) ?_ ?_) | (with_reducible refine below_gstep (by assumption) ?_ ?_ ?_) | (with_reducible exact Below.size (by assumption)) | omega | (simp; done) | (simp; omega)))
  · have d1 : decide (0 ≤ u ∧ u ≤ 2) = false := decide_eq_false (by omega)
    have j := hide (fun w => specLoss r l h p _ l h true w (.inl ⟨h1, h2, h3, rfl, rfl, rfl, rfl⟩))
    generalize clampN l h (lossN r p) = M at j
    go_enter Tryd.func16, Tryd.ntmps16
    go_wp2_with fail
    refine (j.out _).mono ?_
    rintro e w1 ⟨rfl, hb⟩
    have rZ : Row w1 (w.heap.size + 1) _ := Row.below (by (repeat' (first | (with_reducible assumption) | (with_reducible exact Row.new _ _ _) | (with_reducible exact Row.new1 _ _ _ _) | (with_reducible exact Row.new2 _ _ _ _ _) | (with_reducible exact Row.new2' _ _ _ _ _) | ((with_reducible apply Row.mk) <;> (with_reducible assumption)) | (with_reducible apply Row.alloc) | (with_reducible apply Row.set) | (with_reducible apply Row.far) | (with_reducible apply Row.drew) | (with_reducible apply Row.drewN) | omega | (simp; done) | (simp; omega)))) hb
    (try clear cZ fZ lZ)
    obtain ⟨cZ, fZ, lZ⟩ := rZ
    have nz2 : ¬ w1.heap.size = w.heap.size + 1 := by omega
    have nz3 : ¬ w.heap.size + 1 = w1.heap.size := by omega
    have hG : Below w.heap.size w w1 := by (repeat' (first | (with_reducible exact Below.refl _ _) | (with_reducible assumption) | (with_reducible refine Below.alloc ?_ ?_ _) | (with_reducible refine Below.setCell ?_ ?_ _) | (with_reducible refine Below.drew ?_) | (with_reducible refine below_drewN' ?_ _) | (with_reducible refine below_step (by assumption) ?_ ?_) | (with_reducible refine below_gstep (by assumption) ?_ ?_ ?_) | (with_reducible exact Below.size (by assumption)) | omega | (simp; done) | (simp; omega)))
    clear hb
    go_wp2_with fail
    refine (l6In_e _ _ _ _).mono ?_
    rintro e w2 ⟨rfl, rfl⟩
    go_wp2
    refine bodyPost_ret (by first | (simp (maxDischargeDepth := 3) [results, Tryd.results16, go_sem, *]; done) | (simp (maxDischargeDepth := 3) [results, Tryd.results16, go_sem, *]; rfl) | (simp (maxDischargeDepth := 7) [results, Tryd.results16, go_sem, *]; done) | (simp (maxDischargeDepth := 7) [results, Tryd.results16, go_sem, *]; rfl)) rfl ?_
    refine retV_mk rfl ?_
    (repeat' (first | (with_reducible exact Below.refl _ _) | (with_reducible assumption) | (with_reducible refine Below.alloc ?_ ?_ _) | (with_reducible refine Below.setCell ?_ ?_ _) | (with_reducible refine Below.drew ?_) | (with_reducible refine below_drewN' ?_ _) | (with_reducible refine below_step (by assumption) ?_ ?_) | (with_reducible refine below_gstep (by assumption) ?_ ?_ ?_) | (with_reducible exact Below.size (by assumption)) | omega | (simp; done) | (simp; omega)))

/-! ### Draws -/
def IsInt (v : Value) : Prop := ∃ a : Int, v = .int .i64 a
set_option maxHeartbeats 1000000 in
theorem l92Part_any (B R P : Nat) (w : World) (hr : Rd w B R P) (hP : P ≤ 900000) :
    Calls Tryd.prog 27 #[.pointer (some ⟨R, 0, none⟩)] w (Drew B R (P + 2) IsInt w) := by
  have lR := hr.lt
  go_enter Tryd.func27, Tryd.ntmps27
  go_wp2_with fail
  refine (pick_any B R P _ _ hr (by omega) (by omega) (by omega)).mono ?_
  rintro e w1 ⟨x, rfl, hx0, hx1, hs1, hr1, hg1⟩
  have lR1 := hr1.lt
  clear hs1
  rcases (show x = 0 ∨ x = 1 ∨ x = 2 ∨ 2 < x from by omega) with rfl | rfl | rfl | hx
  · go_wp2_with fail
    refine (pick_from (N := 8) hr1 ?_ ?_ ?_ ?_).mono ?_
    · (repeat' (first | (with_reducible exact RExt.refl _ _) | (with_reducible refine RExt.alloc ?_ _) | (with_reducible refine RExt.setCell ?_ ?_ _) | (with_reducible refine RExt.drew ?_) | (with_reducible refine RExt.drewN ?_ _) | (with_reducible refine RExt.below ?_ (by assumption)) | omega | (simp; done) | (simp; omega)))
    · omega
    · omega
    · omega
    rintro e w2 ⟨z, rfl, hz0, hz1, hs2, hr2, hg2⟩
    have rX : Row w2 (w1.heap.size) _ := Row.grown (by (repeat' (first | (with_reducible assumption) | (with_reducible exact Row.new _ _ _) | (with_reducible exact Row.new1 _ _ _ _) | (with_reducible exact Row.new2 _ _ _ _ _) | (with_reducible exact Row.new2' _ _ _ _ _) | ((with_reducible apply Row.mk) <;> (with_reducible assumption)) | (with_reducible apply Row.alloc) | (with_reducible apply Row.set) | (with_reducible apply Row.far) | (with_reducible apply Row.drew) | (with_reducible apply Row.drewN) | omega | (simp; done) | (simp; omega)))) hg2 (by omega)
    (try clear cX fX lX)
    obtain ⟨cX, fX, lX⟩ := rX
    have hG : w.grownBy w2 (some R) := by (repeat' (first | (with_reducible exact World.grownBy.refl _ _) | (with_reducible assumption) | (with_reducible refine grown_alloc ?_ _) | (with_reducible refine grown_setCell ?_ ?_ _) | (with_reducible refine grown_drew ?_) | (with_reducible refine grown_drewN ?_ _) | (with_reducible refine grown_step (by assumption) ?_) | (with_reducible refine grown_below ?_ (by assumption)) | (left; rfl) | (right; omega) | (right; simp; done) | (right; simp; omega)))
    clear hs2
    rcases (show z = 0 ∨ z = 1 ∨ z = 2 ∨ z = 3 ∨ z = 4 ∨ z = 5 ∨ z = 6 ∨ z = 7 from by omega) with rfl | rfl | rfl | rfl | rfl | rfl | rfl | rfl
    all_goals
      go_wp2
      go_ret
      exact drew_mk ⟨_, rfl⟩ (hr2.more (by omega)) hG
  · go_wp2_with fail
    refine (pick_any B R _ _ _ hr1 (by omega) (by omega) (by omega)).mono ?_
    rintro e w2 ⟨z, rfl, hz0, hz1, hs2, hr2, hg2⟩
    go_wp2
    go_ret
    exact drew_mk ⟨_, rfl⟩ (hr2.more (by omega)) (grown_trans hg1 hg2)
  · go_wp2_with fail
    refine (pick_any B R _ _ _ hr1 (by omega) (by omega) (by omega)).mono ?_
    rintro e w2 ⟨z, rfl, hz0, hz1, hs2, hr2, hg2⟩
    go_wp2
    go_ret
    exact drew_mk ⟨_, rfl⟩ (hr2.more (by omega)) (grown_trans hg1 hg2)
  · go_wp2_with fail
    refine (pick_any B R _ _ _ hr1 (by omega) (by omega) (by omega)).mono ?_
    rintro e w2 ⟨z, rfl, hz0, hz1, hs2, hr2, hg2⟩
    go_wp2
    go_ret
    exact drew_mk ⟨_, rfl⟩ (hr2.more (by omega)) (grown_trans hg1 hg2)
def IsLoss (v : Value) : Prop := ∃ r l h p : Int, v = .tuple #[.agg #[.int .i64 r, .int .i64 l, .int .i64 h], .int .i64 p]
def IsNext (v : Value) : Prop := ∃ r l h p u : Int, v = .tuple #[.agg #[.int .i64 r, .int .i64 l, .int .i64 h], .int .i64 p, .int .i64 u]
set_option maxHeartbeats 1000000 in
theorem drawEstimateLoss (B : Nat) (A : Option Addr) (n c : Nat) (w : World) (hcode : Code w B A n) (hn : n ≤ c) (hm : c ≤ 9223372036854775807) (hB : B ≤ w.heap.size) :
    Calls Tryd.prog 14 #[.slice A n c] w (Drawn IsLoss w) := by
  have Hcode := hide hcode
  clear hcode
  go_enter Tryd.func14, Tryd.ntmps14
  go_wp2_with fail
  refine (l6Open_any B A n c _ (Hcode.out.alloc _) hn hm (by simp; omega)).mono ?_
  rintro e w1 ⟨R, rfl, hR, hr, hb1⟩
  simp at hR
  have rZ : Row w1 (w.heap.size) _ := Row.below (by (repeat' (first | (with_reducible assumption) | (with_reducible exact Row.new _ _ _) | (with_reducible exact Row.new1 _ _ _ _) | (with_reducible exact Row.new2 _ _ _ _ _) | (with_reducible exact Row.new2' _ _ _ _ _) | ((with_reducible apply Row.mk) <;> (with_reducible assumption)) | (with_reducible apply Row.alloc) | (with_reducible apply Row.set) | (with_reducible apply Row.far) | (with_reducible apply Row.drew) | (with_reducible apply Row.drewN) | omega | (simp; done) | (simp; omega)))) hb1
  (try clear cZ fZ lZ)
  obtain ⟨cZ, fZ, lZ⟩ := rZ
  have hG1 : Below w.heap.size w w1 := by (repeat' (first | (with_reducible exact Below.refl _ _) | (with_reducible assumption) | (with_reducible refine Below.alloc ?_ ?_ _) | (with_reducible refine Below.setCell ?_ ?_ _) | (with_reducible refine Below.drew ?_) | (with_reducible refine below_drewN' ?_ _) | (with_reducible refine below_step (by assumption) ?_ ?_) | (with_reducible refine below_gstep (by assumption) ?_ ?_ ?_) | (with_reducible exact Below.size (by assumption)) | omega | (simp; done) | (simp; omega)))
  have lR := hr.lt
  clear hb1 Hcode
  go_wp2_with fail
  refine (l92Estimate_any B R 0 _ hr (by omega)).mono ?_
  rintro e w2 ⟨v, rfl, ⟨r, l, h, rfl⟩, hr2, hg2⟩
  have rZ : Row w2 (w.heap.size) _ := Row.grown (by (repeat' (first | (with_reducible assumption) | (with_reducible exact Row.new _ _ _) | (with_reducible exact Row.new1 _ _ _ _) | (with_reducible exact Row.new2 _ _ _ _ _) | (with_reducible exact Row.new2' _ _ _ _ _) | ((with_reducible apply Row.mk) <;> (with_reducible assumption)) | (with_reducible apply Row.alloc) | (with_reducible apply Row.set) | (with_reducible apply Row.far) | (with_reducible apply Row.drew) | (with_reducible apply Row.drewN) | omega | (simp; done) | (simp; omega)))) hg2 (by omega)
  (try clear cZ fZ lZ)
  obtain ⟨cZ, fZ, lZ⟩ := rZ
  have hG2 : Below w.heap.size w w2 := by (repeat' (first | (with_reducible exact Below.refl _ _) | (with_reducible assumption) | (with_reducible refine Below.alloc ?_ ?_ _) | (with_reducible refine Below.setCell ?_ ?_ _) | (with_reducible refine Below.drew ?_) | (with_reducible refine below_drewN' ?_ _) | (with_reducible refine below_step (by assumption) ?_ ?_) | (with_reducible refine below_gstep (by assumption) ?_ ?_ ?_) | (with_reducible exact Below.size (by assumption)) | omega | (simp; done) | (simp; omega)))
  have lR2 := hr2.lt
  clear hG1 hg2 hr
  have nz : ¬ w2.heap.size = w.heap.size := by omega
  have nz2 : ¬ w.heap.size = w2.heap.size := by omega
  go_upto_region 3 with (fail)
  go_region_held3 (fun w' => ∀ o, w'.cell? ⟨w2.heap.size, o, none⟩ = #[Value.int .i64 r, .int .i64 l, .int .i64 h][o]?) (first | (with_reducible assumption) | (intro o; simp [go_sem, *]; done) | go_keep) (first | (go_at_call 27; refine (l92Part_any B R 4 _ ((hr2.alloc _).drew) (by omega)).mono ?_; rintro e w3 ⟨v, rfl, ⟨p, rfl⟩, hr3, hg3⟩; have rX : Row w3 w2.heap.size _ := Row.grown (by (repeat' (first | (with_reducible assumption) | (with_reducible exact Row.new _ _ _) | (with_reducible exact Row.new1 _ _ _ _) | (with_reducible exact Row.new2 _ _ _ _ _) | (with_reducible exact Row.new2' _ _ _ _ _) | ((with_reducible apply Row.mk) <;> (with_reducible assumption)) | (with_reducible apply Row.alloc) | (with_reducible apply Row.set) | (with_reducible apply Row.far) | (with_reducible apply Row.drew) | (with_reducible apply Row.drewN) | omega | (simp; done) | (simp; omega)))) hg3 (by omega); have rZ : Row w3 w.heap.size _ := Row.grown (by (repeat' (first | (with_reducible assumption) | (with_reducible exact Row.new _ _ _) | (with_reducible exact Row.new1 _ _ _ _) | (with_reducible exact Row.new2 _ _ _ _ _) | (with_reducible exact Row.new2' _ _ _ _ _) | ((with_reducible apply Row.mk) <;> (with_reducible assumption)) | (with_reducible apply Row.alloc) | (with_reducible apply Row.set) | (with_reducible apply Row.far) | (with_reducible apply Row.drew) | (with_reducible apply Row.drewN) | omega | (simp; done) | (simp; omega)))) hg3 (by omega); have hG3 : Below w.heap.size w w3 := (by (repeat' (first | (with_reducible exact Below.refl _ _) | (with_reducible assumption) | (with_reducible refine Below.alloc ?_ ?_ _) | (with_reducible refine Below.setCell ?_ ?_ _) | (with_reducible refine Below.drew ?_) | (with_reducible refine below_drewN' ?_ _) | (with_reducible refine below_step (by assumption) ?_ ?_) | (with_reducible refine below_gstep (by assumption) ?_ ?_ ?_) | (with_reducible exact Below.size (by assumption)) | omega | (simp; done) | (simp; omega)))); obtain ⟨cX, fX, lX⟩ := rX; obtain ⟨cZ, fZ, lZ⟩ := rZ))
  all_goals
    go_wp2
    refine bodyPost_ret (by first | (simp (maxDischargeDepth := 3) [results, Tryd.results14, go_sem, *]; done) | (simp (maxDischargeDepth := 3) [results, Tryd.results14, go_sem, *]; rfl) | (simp (maxDischargeDepth := 7) [results, Tryd.results14, go_sem, *]; done) | (simp (maxDischargeDepth := 7) [results, Tryd.results14, go_sem, *]; rfl)) rfl ?_
    refine drawn_mk ⟨_, _, _, _, rfl⟩ ?_
    (repeat' (first | (with_reducible exact Below.refl _ _) | (with_reducible assumption) | (with_reducible refine Below.alloc ?_ ?_ _) | (with_reducible refine Below.setCell ?_ ?_ _) | (with_reducible refine Below.drew ?_) | (with_reducible refine below_drewN' ?_ _) | (with_reducible refine below_step (by assumption) ?_ ?_) | (with_reducible refine below_gstep (by assumption) ?_ ?_ ?_) | (with_reducible exact Below.size (by assumption)) | omega | (simp; done) | (simp; omega)))
set_option maxHeartbeats 1000000 in
theorem drawEstimateNext (B : Nat) (A : Option Addr) (n c : Nat) (w : World) (hcode : Code w B A n) (hn : n ≤ c) (hm : c ≤ 9223372036854775807) (hB : B ≤ w.heap.size) :
    Calls Tryd.prog 18 #[.slice A n c] w (Drawn IsNext w) := by
  have Hcode := hide hcode
  clear hcode
  go_enter Tryd.func18, Tryd.ntmps18
  go_wp2_with fail
  refine (l6Open_any B A n c _ (Hcode.out.alloc _) hn hm (by simp; omega)).mono ?_
  rintro e w1 ⟨R, rfl, hR, hr, hb1⟩
  simp at hR
  have rZ : Row w1 (w.heap.size) _ := Row.below (by (repeat' (first | (with_reducible assumption) | (with_reducible exact Row.new _ _ _) | (with_reducible exact Row.new1 _ _ _ _) | (with_reducible exact Row.new2 _ _ _ _ _) | (with_reducible exact Row.new2' _ _ _ _ _) | ((with_reducible apply Row.mk) <;> (with_reducible assumption)) | (with_reducible apply Row.alloc) | (with_reducible apply Row.set) | (with_reducible apply Row.far) | (with_reducible apply Row.drew) | (with_reducible apply Row.drewN) | omega | (simp; done) | (simp; omega)))) hb1
  (try clear cZ fZ lZ)
  obtain ⟨cZ, fZ, lZ⟩ := rZ
  have hG1 : Below w.heap.size w w1 := by (repeat' (first | (with_reducible exact Below.refl _ _) | (with_reducible assumption) | (with_reducible refine Below.alloc ?_ ?_ _) | (with_reducible refine Below.setCell ?_ ?_ _) | (with_reducible refine Below.drew ?_) | (with_reducible refine below_drewN' ?_ _) | (with_reducible refine below_step (by assumption) ?_ ?_) | (with_reducible refine below_gstep (by assumption) ?_ ?_ ?_) | (with_reducible exact Below.size (by assumption)) | omega | (simp; done) | (simp; omega)))
  have lR := hr.lt
  clear hb1 Hcode
  go_wp2_with fail
  refine (l92Estimate_any B R 0 _ hr (by omega)).mono ?_
  rintro e w2 ⟨v, rfl, ⟨r, l, h, rfl⟩, hr2, hg2⟩
  have rZ : Row w2 (w.heap.size) _ := Row.grown (by (repeat' (first | (with_reducible assumption) | (with_reducible exact Row.new _ _ _) | (with_reducible exact Row.new1 _ _ _ _) | (with_reducible exact Row.new2 _ _ _ _ _) | (with_reducible exact Row.new2' _ _ _ _ _) | ((with_reducible apply Row.mk) <;> (with_reducible assumption)) | (with_reducible apply Row.alloc) | (with_reducible apply Row.set) | (with_reducible apply Row.far) | (with_reducible apply Row.drew) | (with_reducible apply Row.drewN) | omega | (simp; done) | (simp; omega)))) hg2 (by omega)
  (try clear cZ fZ lZ)
  obtain ⟨cZ, fZ, lZ⟩ := rZ
  have hG2 : Below w.heap.size w w2 := by (repeat' (first | (with_reducible exact Below.refl _ _) | (with_reducible assumption) | (with_reducible refine Below.alloc ?_ ?_ _) | (with_reducible refine Below.setCell ?_ ?_ _) | (with_reducible refine Below.drew ?_) | (with_reducible refine below_drewN' ?_ _) | (with_reducible refine below_step (by assumption) ?_ ?_) | (with_reducible refine below_gstep (by assumption) ?_ ?_ ?_) | (with_reducible exact Below.size (by assumption)) | omega | (simp; done) | (simp; omega)))
  have lR2 := hr2.lt
  clear hG1 hg2 hr
  have nz : ¬ w2.heap.size = w.heap.size := by omega
  have nz2 : ¬ w.heap.size = w2.heap.size := by omega
  go_wp2_with fail
  refine (l92Part_any B R 4 _ (hr2.alloc _) (by omega)).mono ?_
  rintro e w3 ⟨v, rfl, ⟨p, rfl⟩, hr3, hg3⟩
  have rZ : Row w3 (w.heap.size) _ := Row.grown (by (repeat' (first | (with_reducible assumption) | (with_reducible exact Row.new _ _ _) | (with_reducible exact Row.new1 _ _ _ _) | (with_reducible exact Row.new2 _ _ _ _ _) | (with_reducible exact Row.new2' _ _ _ _ _) | ((with_reducible apply Row.mk) <;> (with_reducible assumption)) | (with_reducible apply Row.alloc) | (with_reducible apply Row.set) | (with_reducible apply Row.far) | (with_reducible apply Row.drew) | (with_reducible apply Row.drewN) | omega | (simp; done) | (simp; omega)))) hg3 (by omega)
  have rX : Row w3 (w2.heap.size) _ := Row.grown (by (repeat' (first | (with_reducible assumption) | (with_reducible exact Row.new _ _ _) | (with_reducible exact Row.new1 _ _ _ _) | (with_reducible exact Row.new2 _ _ _ _ _) | (with_reducible exact Row.new2' _ _ _ _ _) | ((with_reducible apply Row.mk) <;> (with_reducible assumption)) | (with_reducible apply Row.alloc) | (with_reducible apply Row.set) | (with_reducible apply Row.far) | (with_reducible apply Row.drew) | (with_reducible apply Row.drewN) | omega | (simp; done) | (simp; omega)))) hg3 (by omega)
  (try clear cZ fZ lZ)
  (try clear cX fX lX)
  obtain ⟨cZ, fZ, lZ⟩ := rZ
  obtain ⟨cX, fX, lX⟩ := rX
  have hG3 : Below w.heap.size w w3 := by (repeat' (first | (with_reducible exact Below.refl _ _) | (with_reducible assumption) | (with_reducible refine Below.alloc ?_ ?_ _) | (with_reducible refine Below.setCell ?_ ?_ _) | (with_reducible refine Below.drew ?_) | (with_reducible refine below_drewN' ?_ _) | (with_reducible refine below_step (by assumption) ?_ ?_) | (with_reducible refine below_gstep (by assumption) ?_ ?_ ?_) | (with_reducible exact Below.size (by assumption)) | omega | (simp; done) | (simp; omega)))
  clear hG2 hg3 hr2
  go_upto_region 4 with (fail)
  go_region_held3 (fun w' => ∀ o, w'.cell? ⟨w2.heap.size, o, none⟩ = #[Value.int .i64 r, .int .i64 l, .int .i64 h][o]?) (first | (with_reducible assumption) | (intro o; simp [go_sem, *]; done) | go_keep) (first | (go_at_call 29; (with_reducible refine (pick_any B R 6 3 _ (hr3.drew) (by omega) (by omega) (by omega)).mono ?_); rintro e w4 ⟨x, rfl, hx0, hx1, hs4, hr4, hg4⟩; have rX : Row w4 w2.heap.size _ := Row.grown (by (repeat' (first | (with_reducible assumption) | (with_reducible exact Row.new _ _ _) | (with_reducible exact Row.new1 _ _ _ _) | (with_reducible exact Row.new2 _ _ _ _ _) | (with_reducible exact Row.new2' _ _ _ _ _) | ((with_reducible apply Row.mk) <;> (with_reducible assumption)) | (with_reducible apply Row.alloc) | (with_reducible apply Row.set) | (with_reducible apply Row.far) | (with_reducible apply Row.drew) | (with_reducible apply Row.drewN) | omega | (simp; done) | (simp; omega)))) hg4 (by omega); have rZ : Row w4 w.heap.size _ := Row.grown (by (repeat' (first | (with_reducible assumption) | (with_reducible exact Row.new _ _ _) | (with_reducible exact Row.new1 _ _ _ _) | (with_reducible exact Row.new2 _ _ _ _ _) | (with_reducible exact Row.new2' _ _ _ _ _) | ((with_reducible apply Row.mk) <;> (with_reducible assumption)) | (with_reducible apply Row.alloc) | (with_reducible apply Row.set) | (with_reducible apply Row.far) | (with_reducible apply Row.drew) | (with_reducible apply Row.drewN) | omega | (simp; done) | (simp; omega)))) hg4 (by omega); have hG4 : Below w.heap.size w w4 := (by (repeat' (first | (with_reducible exact Below.refl _ _) | (with_reducible assumption) | (with_reducible refine Below.alloc ?_ ?_ _) | (with_reducible refine Below.setCell ?_ ?_ _) | (with_reducible refine Below.drew ?_) | (with_reducible refine below_drewN' ?_ _) | (with_reducible refine below_step (by assumption) ?_ ?_) | (with_reducible refine below_gstep (by assumption) ?_ ?_ ?_) | (with_reducible exact Below.size (by assumption)) | omega | (simp; done) | (simp; omega)))); clear hs4; obtain ⟨cX, fX, lX⟩ := rX; obtain ⟨cZ, fZ, lZ⟩ := rZ) | (go_at_call 29; (with_reducible refine (pick_any B R 7 20 _ hr4 (by omega) (by omega) (by omega)).mono ?_); rintro e w5 ⟨y, rfl, hy0, hy1, hs5, hr5, hg5⟩; have rX : Row w5 w2.heap.size _ := Row.grown (by (repeat' (first | (with_reducible assumption) | (with_reducible exact Row.new _ _ _) | (with_reducible exact Row.new1 _ _ _ _) | (with_reducible exact Row.new2 _ _ _ _ _) | (with_reducible exact Row.new2' _ _ _ _ _) | ((with_reducible apply Row.mk) <;> (with_reducible assumption)) | (with_reducible apply Row.alloc) | (with_reducible apply Row.set) | (with_reducible apply Row.far) | (with_reducible apply Row.drew) | (with_reducible apply Row.drewN) | omega | (simp; done) | (simp; omega)))) hg5 (by omega); have rZ : Row w5 w.heap.size _ := Row.grown (by (repeat' (first | (with_reducible assumption) | (with_reducible exact Row.new _ _ _) | (with_reducible exact Row.new1 _ _ _ _) | (with_reducible exact Row.new2 _ _ _ _ _) | (with_reducible exact Row.new2' _ _ _ _ _) | ((with_reducible apply Row.mk) <;> (with_reducible assumption)) | (with_reducible apply Row.alloc) | (with_reducible apply Row.set) | (with_reducible apply Row.far) | (with_reducible apply Row.drew) | (with_reducible apply Row.drewN) | omega | (simp; done) | (simp; omega)))) hg5 (by omega); have hG5 : Below w.heap.size w w5 := (by (repeat' (first | (with_reducible exact Below.refl _ _) | (with_reducible assumption) | (with_reducible refine Below.alloc ?_ ?_ _) | (with_reducible refine Below.setCell ?_ ?_ _) | (with_reducible refine Below.drew ?_) | (with_reducible refine below_drewN' ?_ _) | (with_reducible refine below_step (by assumption) ?_ ?_) | (with_reducible refine below_gstep (by assumption) ?_ ?_ ?_) | (with_reducible exact Below.size (by assumption)) | omega | (simp; done) | (simp; omega)))); clear hs5; obtain ⟨cX, fX, lX⟩ := rX; obtain ⟨cZ, fZ, lZ⟩ := rZ))
  all_goals
    go_wp2
    refine bodyPost_ret (by first | (simp (maxDischargeDepth := 3) [results, Tryd.results18, go_sem, *]; done) | (simp (maxDischargeDepth := 3) [results, Tryd.results18, go_sem, *]; rfl) | (simp (maxDischargeDepth := 7) [results, Tryd.results18, go_sem, *]; done) | (simp (maxDischargeDepth := 7) [results, Tryd.results18, go_sem, *]; rfl)) rfl ?_
    refine drawn_mk ⟨_, _, _, _, _, rfl⟩ ?_
    (repeat' (first | (with_reducible exact Below.refl _ _) | (with_reducible assumption) | (with_reducible refine Below.alloc ?_ ?_ _) | (with_reducible refine Below.setCell ?_ ?_ _) | (with_reducible refine Below.drew ?_) | (with_reducible refine below_drewN' ?_ _) | (with_reducible refine below_step (by assumption) ?_ ?_) | (with_reducible refine below_gstep (by assumption) ?_ ?_ ?_) | (with_reducible exact Below.size (by assumption)) | omega | (simp; done) | (simp; omega)))
end Go.Proofs.YtdebjgghhiohmaaDoor
