/- Contracts of EstimateNext of the program. -/
import Derived.Test.YtdebjgghhiohmaaDoorE7
namespace Go.Proofs.YtdebjgghhiohmaaDoor
open Go.ChangeShapes Go.WideShapes Go.ChangeAt Go.RowKit

set_option maxHeartbeats 1000000 in
theorem behindBoth_bad (r l h p u : Int) (a : Addr) (w : World) (hv : Sen w a) (hbad : (estB r l h = false ∨ estB r l h = true ∧ (p < 0 ∨ 256 < p)) ∨ (estB r l h = true ∧ 0 ≤ p ∧ p ≤ 256 ∧ (u < 0 ∨ 2 < u))) :
    Calls Tryd.prog 28 #[.agg #[.int .i64 r, .int .i64 l, .int .i64 h], .int .i64 p, .int .i64 u] w (RetV (.tuple #[.agg #[.int .i64 0, .int .i64 0, .int .i64 0], .iface 73 (.pointer (some a))]) w) := by
  have hv' := hv
  obtain ⟨cV, lV⟩ := hv'
  have nz : ¬ w.heap.size = 0 := by omega
  have hnn := neq_nil
  have hn0 := nil_nil
  rcases hbad with h1 | ⟨h1, h2, h3, h4⟩
  · have H1 := hide h1
    clear h1
    go_enter Tryd.func28, Tryd.ntmps28
    go_wp2_with fail
    refine (behindLoss_bad _ _ _ _ a _ ((hv.alloc _).alloc _) H1.out).mono ?_
    rintro e w1 ⟨rfl, hb⟩
    have rZ : Row w1 (w.heap.size + 1) _ := Row.below (by (repeat' (first | (with_reducible assumption) | (with_reducible exact Row.new _ _ _) | (with_reducible exact Row.new1 _ _ _ _) | (with_reducible exact Row.new2 _ _ _ _ _) | (with_reducible exact Row.new2' _ _ _ _ _) | ((with_reducible apply Row.mk) <;> (with_reducible assumption)) | (with_reducible apply Row.alloc) | (with_reducible apply Row.set) | (with_reducible apply Row.far) | (with_reducible apply Row.drew) | (with_reducible apply Row.drewN) | omega | (simp; done) | (simp; omega)))) hb
    (try clear cZ fZ lZ)
    obtain ⟨cZ, fZ, lZ⟩ := rZ
    have hG : Below w.heap.size w w1 := by (repeat' (first | (with_reducible exact Below.refl _ _) | (with_reducible assumption) | (with_reducible refine Below.alloc ?_ ?_ _) | (with_reducible refine Below.setCell ?_ ?_ _) | (with_reducible refine Below.drew ?_) | (with_reducible refine below_drewN' ?_ _) | (with_reducible refine below_step (by assumption) ?_ ?_) | (with_reducible refine below_gstep (by assumption) ?_ ?_ ?_) | (with_reducible exact Below.size (by assumption)) | omega | (simp; done) | (simp; omega)))
    clear hb cV
    go_wp2
    refine bodyPost_ret (by first | (simp (maxDischargeDepth := 3) [results, Tryd.results28, go_sem, *]; done) | (simp (maxDischargeDepth := 3) [results, Tryd.results28, go_sem, *]; rfl) | (simp (maxDischargeDepth := 7) [results, Tryd.results28, go_sem, *]; done) | (simp (maxDischargeDepth := 7) [results, Tryd.results28, go_sem, *]; rfl)) rfl ?_
    refine retV_mk rfl ?_
    (repeat' (first | (with_reducible exact Below.refl _ _) | (with_reducible assumption) | (with_reducible refine Below.alloc ?_ ?_ _) | (with_reducible refine Below.setCell ?_ ?_ _) | (with_reducible refine Below.drew ?_) | (with_reducible refine below_drewN' ?_ _) | (with_reducible refine below_step (by assumption) ?_ ?_) | (with_reducible refine below_gstep (by assumption) ?_ ?_ ?_) | (with_reducible exact Below.size (by assumption)) | omega | (simp; done) | (simp; omega)))
  · rcases h4 with h4 | h4
    all_goals
      go_enter Tryd.func28, Tryd.ntmps28
      go_wp2_with fail
      refine (behindLoss_good _ _ _ _ _ _ h1 h2 h3 rfl).mono ?_
      rintro e w1 ⟨rfl, hb⟩
      have cV1 : w1.cell? ⟨0, 0, none⟩ = some (.iface 73 (.pointer (some a))) := ((hb.cell (p := ⟨0, 0, none⟩) (by simp)).trans (by simp [go_sem, *]))
      have rZ : Row w1 (w.heap.size + 1) _ := Row.below (by (repeat' (first | (with_reducible assumption) | (with_reducible exact Row.new _ _ _) | (with_reducible exact Row.new1 _ _ _ _) | (with_reducible exact Row.new2 _ _ _ _ _) | (with_reducible exact Row.new2' _ _ _ _ _) | ((with_reducible apply Row.mk) <;> (with_reducible assumption)) | (with_reducible apply Row.alloc) | (with_reducible apply Row.set) | (with_reducible apply Row.far) | (with_reducible apply Row.drew) | (with_reducible apply Row.drewN) | omega | (simp; done) | (simp; omega)))) hb
      (try clear cZ fZ lZ)
      obtain ⟨cZ, fZ, lZ⟩ := rZ
      have lV1 : 0 < w1.heap.size := by omega
      have nz1 : ¬ w1.heap.size = 0 := by omega
      have nz2 : ¬ w1.heap.size = w.heap.size + 1 := by omega
      have nz3 : ¬ w.heap.size + 1 = w1.heap.size := by omega
      have hG : Below w.heap.size w w1 := by (repeat' (first | (with_reducible exact Below.refl _ _) | (with_reducible assumption) | (with_reducible refine Below.alloc ?_ ?_ _) | (with_reducible refine Below.setCell ?_ ?_ _) | (with_reducible refine Below.drew ?_) | (with_reducible refine below_drewN' ?_ _) | (with_reducible refine below_step (by assumption) ?_ ?_) | (with_reducible refine below_gstep (by assumption) ?_ ?_ ?_) | (with_reducible exact Below.size (by assumption)) | omega | (simp; done) | (simp; omega)))
      clear hb cV
      generalize clampN l h (lossN r p) = N
      go_wp2_with fail
      go_region
      go_wp2
      refine bodyPost_ret (by first | (simp (maxDischargeDepth := 3) [results, Tryd.results28, go_sem, *]; done) | (simp (maxDischargeDepth := 3) [results, Tryd.results28, go_sem, *]; rfl) | (simp (maxDischargeDepth := 7) [results, Tryd.results28, go_sem, *]; done) | (simp (maxDischargeDepth := 7) [results, Tryd.results28, go_sem, *]; rfl)) rfl ?_
      refine retV_mk rfl ?_
      (repeat' (first | (with_reducible exact Below.refl _ _) | (with_reducible assumption) | (with_reducible refine Below.alloc ?_ ?_ _) | (with_reducible refine Below.setCell ?_ ?_ _) | (with_reducible refine Below.drew ?_) | (with_reducible refine below_drewN' ?_ _) | (with_reducible refine below_step (by assumption) ?_ ?_) | (with_reducible refine below_gstep (by assumption) ?_ ?_ ?_) | (with_reducible exact Below.size (by assumption)) | omega | (simp; done) | (simp; omega)))
theorem next_1 (r l h p : Int) : nextN r l h p 1 = clampN l h (if r - r / 6 < clampN l h (lossN r p) then r - r / 6 else clampN l h (lossN r p)) := rfl
theorem next_2 (r l h p : Int) : nextN r l h p 2 = clampN l h (if r < clampN l h (lossN r p) then r else clampN l h (lossN r p)) := rfl
set_option maxHeartbeats 1000000 in
theorem behindBoth_good (r l h p u N : Int) (w : World) (h1 : estB r l h = true) (h2 : 0 ≤ p) (h3 : p ≤ 256) (h4 : 0 ≤ u) (h5 : u ≤ 2) (hN : N = nextN r l h p u) :
    Calls Tryd.prog 28 #[.agg #[.int .i64 r, .int .i64 l, .int .i64 h], .int .i64 p, .int .i64 u] w (RetV (.tuple #[.agg #[.int .i64 N, .int .i64 l, .int .i64 h], .nilIface]) w) := by
  have hn0 := nil_nil
  obtain ⟨k1, k2, k3, k4⟩ := estB_bd h1
  obtain ⟨q1, q2⟩ := clamp_bd (l := l) (h := h) (x := lossN r p) (by omega)
  obtain ⟨M, hM⟩ : ∃ M, clampN l h (lossN r p) = M := ⟨_, rfl⟩
  rw [hM] at q1 q2
  have j := hide (fun w => behindLoss_good r l h p M w h1 h2 h3 hM.symm)
  rcases (show u = 0 ∨ u = 1 ∨ u = 2 from by omega) with rfl | rfl | rfl
  · have e : N = M := hN.trans hM
    subst e
    clear hN hM
    go_enter Tryd.func28, Tryd.ntmps28
    go_wp2_with fail
    refine (j.out _).mono ?_
    rintro e w1 ⟨rfl, hb⟩
    have rZ : Row w1 (w.heap.size + 1) _ := Row.below (by (repeat' (first | (with_reducible assumption) | (with_reducible exact Row.new _ _ _) | (with_reducible exact Row.new1 _ _ _ _) | (with_reducible exact Row.new2 _ _ _ _ _) | (with_reducible exact Row.new2' _ _ _ _ _) | ((with_reducible apply Row.mk) <;> (with_reducible assumption)) | (with_reducible apply Row.alloc) | (with_reducible apply Row.set) | (with_reducible apply Row.far) | (with_reducible apply Row.drew) | (with_reducible apply Row.drewN) | omega | (simp; done) | (simp; omega)))) hb
    (try clear cZ fZ lZ)
    obtain ⟨cZ, fZ, lZ⟩ := rZ
    have nz2 : ¬ w1.heap.size = w.heap.size + 1 := by omega
    have nz3 : ¬ w.heap.size + 1 = w1.heap.size := by omega
    have hG : Below w.heap.size w w1 := by (repeat' (first | (with_reducible exact Below.refl _ _) | (with_reducible assumption) | (with_reducible refine Below.alloc ?_ ?_ _) | (with_reducible refine Below.setCell ?_ ?_ _) | (with_reducible refine Below.drew ?_) | (with_reducible refine below_drewN' ?_ _) | (with_reducible refine below_step (by assumption) ?_ ?_) | (with_reducible refine below_gstep (by assumption) ?_ ?_ ?_) | (with_reducible exact Below.size (by assumption)) | omega | (simp; done) | (simp; omega)))
    clear hb
    go_wp2
    refine bodyPost_ret (by first | (simp (maxDischargeDepth := 3) [results, Tryd.results28, go_sem, *]; done) | (simp (maxDischargeDepth := 3) [results, Tryd.results28, go_sem, *]; rfl) | (simp (maxDischargeDepth := 7) [results, Tryd.results28, go_sem, *]; done) | (simp (maxDischargeDepth := 7) [results, Tryd.results28, go_sem, *]; rfl)) rfl ?_
    refine retV_mk rfl ?_
    (repeat' (first | (with_reducible exact Below.refl _ _) | (with_reducible assumption) | (with_reducible refine Below.alloc ?_ ?_ _) | (with_reducible refine Below.setCell ?_ ?_ _) | (with_reducible refine Below.drew ?_) | (with_reducible refine below_drewN' ?_ _) | (with_reducible refine below_step (by assumption) ?_ ?_) | (with_reducible refine below_gstep (by assumption) ?_ ?_ ?_) | (with_reducible exact Below.size (by assumption)) | omega | (simp; done) | (simp; omega)))
  · rw [next_1, hM] at hN
    clear hM
    by_cases c : r - r / 6 < M
    all_goals
      first | rw [if_pos c] at hN | rw [if_neg c] at hN
      have HN := hide hN
      clear hN
      go_enter Tryd.func28, Tryd.ntmps28
      go_wp2_with fail
      refine (j.out _).mono ?_
      rintro e w1 ⟨rfl, hb⟩
      have rX : Row w1 (w.heap.size) _ := Row.below (by (repeat' (first | (with_reducible assumption) | (with_reducible exact Row.new _ _ _) | (with_reducible exact Row.new1 _ _ _ _) | (with_reducible exact Row.new2 _ _ _ _ _) | (with_reducible exact Row.new2' _ _ _ _ _) | ((with_reducible apply Row.mk) <;> (with_reducible assumption)) | (with_reducible apply Row.alloc) | (with_reducible apply Row.set) | (with_reducible apply Row.far) | (with_reducible apply Row.drew) | (with_reducible apply Row.drewN) | omega | (simp; done) | (simp; omega)))) hb
      have rZ : Row w1 (w.heap.size + 1) _ := Row.below (by (repeat' (first | (with_reducible assumption) | (with_reducible exact Row.new _ _ _) | (with_reducible exact Row.new1 _ _ _ _) | (with_reducible exact Row.new2 _ _ _ _ _) | (with_reducible exact Row.new2' _ _ _ _ _) | ((with_reducible apply Row.mk) <;> (with_reducible assumption)) | (with_reducible apply Row.alloc) | (with_reducible apply Row.set) | (with_reducible apply Row.far) | (with_reducible apply Row.drew) | (with_reducible apply Row.drewN) | omega | (simp; done) | (simp; omega)))) hb
      (try clear cX fX lX)
      (try clear cZ fZ lZ)
      obtain ⟨cX, fX, lX⟩ := rX
      obtain ⟨cZ, fZ, lZ⟩ := rZ
      have nz2 : ¬ w1.heap.size = w.heap.size + 1 := by omega
      have nz3 : ¬ w.heap.size + 1 = w1.heap.size := by omega
      have hG : Below w.heap.size w w1 := by (repeat' (first | (with_reducible exact Below.refl _ _) | (with_reducible assumption) | (with_reducible refine Below.alloc ?_ ?_ _) | (with_reducible refine Below.setCell ?_ ?_ _) | (with_reducible refine Below.drew ?_) | (with_reducible refine below_drewN' ?_ _) | (with_reducible refine below_step (by assumption) ?_ ?_) | (with_reducible refine below_gstep (by assumption) ?_ ?_ ?_) | (with_reducible exact Below.size (by assumption)) | omega | (simp; done) | (simp; omega)))
      clear hb
      go_wp2_with fail
      refine (implWith r l h _ (by omega) _).mono ?_
      rintro e w2 ⟨rfl, hb⟩
      have rZ : Row w2 (w.heap.size + 1) _ := Row.below (by (repeat' (first | (with_reducible assumption) | (with_reducible exact Row.new _ _ _) | (with_reducible exact Row.new1 _ _ _ _) | (with_reducible exact Row.new2 _ _ _ _ _) | (with_reducible exact Row.new2' _ _ _ _ _) | ((with_reducible apply Row.mk) <;> (with_reducible assumption)) | (with_reducible apply Row.alloc) | (with_reducible apply Row.set) | (with_reducible apply Row.far) | (with_reducible apply Row.drew) | (with_reducible apply Row.drewN) | omega | (simp; done) | (simp; omega)))) hb
      (try clear cZ fZ lZ)
      obtain ⟨cZ, fZ, lZ⟩ := rZ
      have hG2 : Below w.heap.size w w2 := by (repeat' (first | (with_reducible exact Below.refl _ _) | (with_reducible assumption) | (with_reducible refine Below.alloc ?_ ?_ _) | (with_reducible refine Below.setCell ?_ ?_ _) | (with_reducible refine Below.drew ?_) | (with_reducible refine below_drewN' ?_ _) | (with_reducible refine below_step (by assumption) ?_ ?_) | (with_reducible refine below_gstep (by assumption) ?_ ?_ ?_) | (with_reducible exact Below.size (by assumption)) | omega | (simp; done) | (simp; omega)))
      clear hb hG
      rw [← HN.out]
      go_wp2
      refine bodyPost_ret (by first | (simp (maxDischargeDepth := 3) [results, Tryd.results28, go_sem, *]; done) | (simp (maxDischargeDepth := 3) [results, Tryd.results28, go_sem, *]; rfl) | (simp (maxDischargeDepth := 7) [results, Tryd.results28, go_sem, *]; done) | (simp (maxDischargeDepth := 7) [results, Tryd.results28, go_sem, *]; rfl)) rfl ?_
      refine retV_mk rfl ?_
      (repeat' (first | (with_reducible exact Below.refl _ _) | (with_reducible assumption) | (with_reducible refine Below.alloc ?_ ?_ _) | (with_reducible refine Below.setCell ?_ ?_ _) | (with_reducible refine Below.drew ?_) | (with_reducible refine below_drewN' ?_ _) | (with_reducible refine below_step (by assumption) ?_ ?_) | (with_reducible refine below_gstep (by assumption) ?_ ?_ ?_) | (with_reducible exact Below.size (by assumption)) | omega | (simp; done) | (simp; omega)))
  · rw [next_2, hM] at hN
    clear hM
    by_cases c : r < M
    all_goals
      first | rw [if_pos c] at hN | rw [if_neg c] at hN
      have HN := hide hN
      clear hN
      go_enter Tryd.func28, Tryd.ntmps28
      go_wp2_with fail
      refine (j.out _).mono ?_
      rintro e w1 ⟨rfl, hb⟩
      have rX : Row w1 (w.heap.size) _ := Row.below (by (repeat' (first | (with_reducible assumption) | (with_reducible exact Row.new _ _ _) | (with_reducible exact Row.new1 _ _ _ _) | (with_reducible exact Row.new2 _ _ _ _ _) | (with_reducible exact Row.new2' _ _ _ _ _) | ((with_reducible apply Row.mk) <;> (with_reducible assumption)) | (with_reducible apply Row.alloc) | (with_reducible apply Row.set) | (with_reducible apply Row.far) | (with_reducible apply Row.drew) | (with_reducible apply Row.drewN) | omega | (simp; done) | (simp; omega)))) hb
      have rZ : Row w1 (w.heap.size + 1) _ := Row.below (by (repeat' (first | (with_reducible assumption) | (with_reducible exact Row.new _ _ _) | (with_reducible exact Row.new1 _ _ _ _) | (with_reducible exact Row.new2 _ _ _ _ _) | (with_reducible exact Row.new2' _ _ _ _ _) | ((with_reducible apply Row.mk) <;> (with_reducible assumption)) | (with_reducible apply Row.alloc) | (with_reducible apply Row.set) | (with_reducible apply Row.far) | (with_reducible apply Row.drew) | (with_reducible apply Row.drewN) | omega | (simp; done) | (simp; omega)))) hb
      (try clear cX fX lX)
      (try clear cZ fZ lZ)
      obtain ⟨cX, fX, lX⟩ := rX
      obtain ⟨cZ, fZ, lZ⟩ := rZ
      have nz2 : ¬ w1.heap.size = w.heap.size + 1 := by omega
      have nz3 : ¬ w.heap.size + 1 = w1.heap.size := by omega
      have hG : Below w.heap.size w w1 := by (repeat' (first | (with_reducible exact Below.refl _ _) | (with_reducible assumption) | (with_reducible refine Below.alloc ?_ ?_ _) | (with_reducible refine Below.setCell ?_ ?_ _) | (with_reducible refine Below.drew ?_) | (with_reducible refine below_drewN' ?_ _) | (with_reducible refine below_step (by assumption) ?_ ?_) | (with_reducible refine below_gstep (by assumption) ?_ ?_ ?_) | (with_reducible exact Below.size (by assumption)) | omega | (simp; done) | (simp; omega)))
      clear hb
      go_wp2_with fail
      refine (implWith r l h _ (by omega) _).mono ?_
      rintro e w2 ⟨rfl, hb⟩
      have rZ : Row w2 (w.heap.size + 1) _ := Row.below (by (repeat' (first | (with_reducible assumption) | (with_reducible exact Row.new _ _ _) | (with_reducible exact Row.new1 _ _ _ _) | (with_reducible exact Row.new2 _ _ _ _ _) | (with_reducible exact Row.new2' _ _ _ _ _) | ((with_reducible apply Row.mk) <;> (with_reducible assumption)) | (with_reducible apply Row.alloc) | (with_reducible apply Row.set) | (with_reducible apply Row.far) | (with_reducible apply Row.drew) | (with_reducible apply Row.drewN) | omega | (simp; done) | (simp; omega)))) hb
      (try clear cZ fZ lZ)
      obtain ⟨cZ, fZ, lZ⟩ := rZ
      have hG2 : Below w.heap.size w w2 := by (repeat' (first | (with_reducible exact Below.refl _ _) | (with_reducible assumption) | (with_reducible refine Below.alloc ?_ ?_ _) | (with_reducible refine Below.setCell ?_ ?_ _) | (with_reducible refine Below.drew ?_) | (with_reducible refine below_drewN' ?_ _) | (with_reducible refine below_step (by assumption) ?_ ?_) | (with_reducible refine below_gstep (by assumption) ?_ ?_ ?_) | (with_reducible exact Below.size (by assumption)) | omega | (simp; done) | (simp; omega)))
      clear hb hG
      rw [← HN.out]
      go_wp2
      refine bodyPost_ret (by first | (simp (maxDischargeDepth := 3) [results, Tryd.results28, go_sem, *]; done) | (simp (maxDischargeDepth := 3) [results, Tryd.results28, go_sem, *]; rfl) | (simp (maxDischargeDepth := 7) [results, Tryd.results28, go_sem, *]; done) | (simp (maxDischargeDepth := 7) [results, Tryd.results28, go_sem, *]; rfl)) rfl ?_
      refine retV_mk rfl ?_
      (repeat' (first | (with_reducible exact Below.refl _ _) | (with_reducible assumption) | (with_reducible refine Below.alloc ?_ ?_ _) | (with_reducible refine Below.setCell ?_ ?_ _) | (with_reducible refine Below.drew ?_) | (with_reducible refine below_drewN' ?_ _) | (with_reducible refine below_step (by assumption) ?_ ?_) | (with_reducible refine below_gstep (by assumption) ?_ ?_ ?_) | (with_reducible exact Below.size (by assumption)) | omega | (simp; done) | (simp; omega)))
set_option maxHeartbeats 1000000 in
theorem implNext (r l h p u N L H : Int) (B : Bool) (a : Addr) (w : World) (hv : Sen w a) (hd : nextV r l h p u N L H B) :
    Calls Tryd.prog 17 #[.agg #[.int .i64 r, .int .i64 l, .int .i64 h], .int .i64 p, .int .i64 u] w (RetV (.tuple #[.agg #[.int .i64 N, .int .i64 L, .int .i64 H], .bool B]) w) := by
  have hv' := hv
  obtain ⟨cV, lV⟩ := hv'
  have nz : ¬ w.heap.size = 0 := by omega
  have hd' : (estB r l h = true ∧ 0 ≤ p ∧ p ≤ 256 ∧ 0 ≤ u ∧ u ≤ 2 ∧ N = nextN r l h p u ∧ L = l ∧ H = h ∧ B = true) ∨ (((estB r l h = false ∨ estB r l h = true ∧ (p < 0 ∨ 256 < p)) ∨ (estB r l h = true ∧ 0 ≤ p ∧ p ≤ 256 ∧ (u < 0 ∨ 2 < u))) ∧ N = 0 ∧ L = 0 ∧ H = 0 ∧ B = false) := by
    rcases hd with h1 | ⟨h1, h2⟩ | ⟨h1, h2, h3, h4, h5⟩
    · exact .inl h1
    · exact .inr ⟨.inl h1, h2⟩
    · exact .inr ⟨.inr ⟨h1, h2, h3, h4⟩, h5⟩
  clear hd
  rcases hd' with ⟨h1, h2, h3, h4, h5, hN, rfl, rfl, rfl⟩ | ⟨h1, rfl, rfl, rfl, rfl⟩
  · have HN := hide hN
    clear hN
    go_enter Tryd.func17, Tryd.ntmps17
    go_wp2_with fail
    refine (behindBoth_good _ _ _ _ _ _ _ h1 h2 h3 h4 h5 HN.out).mono ?_
    rintro e w1 ⟨rfl, hb⟩
    have cV1 : w1.cell? ⟨0, 0, none⟩ = some (.iface 73 (.pointer (some a))) := ((hb.cell (p := ⟨0, 0, none⟩) (by simp)).trans (by simp [go_sem, *]))
    have rZ : Row w1 (w.heap.size + 1) _ := Row.below (by (repeat' (first | (with_reducible assumption) | (with_reducible exact Row.new _ _ _) | (with_reducible exact Row.new1 _ _ _ _) | (with_reducible exact Row.new2 _ _ _ _ _) | (with_reducible exact Row.new2' _ _ _ _ _) | ((with_reducible apply Row.mk) <;> (with_reducible assumption)) | (with_reducible apply Row.alloc) | (with_reducible apply Row.set) | (with_reducible apply Row.far) | (with_reducible apply Row.drew) | (with_reducible apply Row.drewN) | omega | (simp; done) | (simp; omega)))) hb
    (try clear cZ fZ lZ)
    obtain ⟨cZ, fZ, lZ⟩ := rZ
    have hG : Below w.heap.size w w1 := by (repeat' (first | (with_reducible exact Below.refl _ _) | (with_reducible assumption) | (with_reducible refine Below.alloc ?_ ?_ _) | (with_reducible refine Below.setCell ?_ ?_ _) | (with_reducible refine Below.drew ?_) | (with_reducible refine below_drewN' ?_ _) | (with_reducible refine below_step (by assumption) ?_ ?_) | (with_reducible refine below_gstep (by assumption) ?_ ?_ ?_) | (with_reducible exact Below.size (by assumption)) | omega | (simp; done) | (simp; omega)))
    have lV1 : 0 < w1.heap.size := by omega
    clear hb cV
    go_wp2_with fail
    refine (is_nil _ _).mono ?_
    rintro e w2 ⟨rfl, rfl⟩
    go_wp2
    refine bodyPost_ret (by first | (simp (maxDischargeDepth := 3) [results, Tryd.results17, go_sem, *]; done) | (simp (maxDischargeDepth := 3) [results, Tryd.results17, go_sem, *]; rfl) | (simp (maxDischargeDepth := 7) [results, Tryd.results17, go_sem, *]; done) | (simp (maxDischargeDepth := 7) [results, Tryd.results17, go_sem, *]; rfl)) rfl ?_
    refine retV_mk rfl ?_
    (repeat' (first | (with_reducible exact Below.refl _ _) | (with_reducible assumption) | (with_reducible refine Below.alloc ?_ ?_ _) | (with_reducible refine Below.setCell ?_ ?_ _) | (with_reducible refine Below.drew ?_) | (with_reducible refine below_drewN' ?_ _) | (with_reducible refine below_step (by assumption) ?_ ?_) | (with_reducible refine below_gstep (by assumption) ?_ ?_ ?_) | (with_reducible exact Below.size (by assumption)) | omega | (simp; done) | (simp; omega)))
  · have H1 := hide h1
    clear h1
    go_enter Tryd.func17, Tryd.ntmps17
    go_wp2_with fail
    refine (behindBoth_bad _ _ _ _ _ a _ ((hv.alloc _).alloc _) H1.out).mono ?_
    rintro e w1 ⟨rfl, hb⟩
    have cV1 : w1.cell? ⟨0, 0, none⟩ = some (.iface 73 (.pointer (some a))) := ((hb.cell (p := ⟨0, 0, none⟩) (by simp)).trans (by simp [go_sem, *]))
    have rZ : Row w1 (w.heap.size + 1) _ := Row.below (by (repeat' (first | (with_reducible assumption) | (with_reducible exact Row.new _ _ _) | (with_reducible exact Row.new1 _ _ _ _) | (with_reducible exact Row.new2 _ _ _ _ _) | (with_reducible exact Row.new2' _ _ _ _ _) | ((with_reducible apply Row.mk) <;> (with_reducible assumption)) | (with_reducible apply Row.alloc) | (with_reducible apply Row.set) | (with_reducible apply Row.far) | (with_reducible apply Row.drew) | (with_reducible apply Row.drewN) | omega | (simp; done) | (simp; omega)))) hb
    (try clear cZ fZ lZ)
    obtain ⟨cZ, fZ, lZ⟩ := rZ
    have hG : Below w.heap.size w w1 := by (repeat' (first | (with_reducible exact Below.refl _ _) | (with_reducible assumption) | (with_reducible refine Below.alloc ?_ ?_ _) | (with_reducible refine Below.setCell ?_ ?_ _) | (with_reducible refine Below.drew ?_) | (with_reducible refine below_drewN' ?_ _) | (with_reducible refine below_step (by assumption) ?_ ?_) | (with_reducible refine below_gstep (by assumption) ?_ ?_ ?_) | (with_reducible exact Below.size (by assumption)) | omega | (simp; done) | (simp; omega)))
    have lV1 : 0 < w1.heap.size := by omega
    clear hb cV
    go_wp2_with fail
    refine (is_same _ _).mono ?_
    rintro e w2 ⟨rfl, rfl⟩
    go_wp2
    refine bodyPost_ret (by first | (simp (maxDischargeDepth := 3) [results, Tryd.results17, go_sem, *]; done) | (simp (maxDischargeDepth := 3) [results, Tryd.results17, go_sem, *]; rfl) | (simp (maxDischargeDepth := 7) [results, Tryd.results17, go_sem, *]; done) | (simp (maxDischargeDepth := 7) [results, Tryd.results17, go_sem, *]; rfl)) rfl ?_
    refine retV_mk rfl ?_
    (repeat' (first | (with_reducible exact Below.refl _ _) | (with_reducible assumption) | (with_reducible refine Below.alloc ?_ ?_ _) | (with_reducible refine Below.setCell ?_ ?_ _) | (with_reducible refine Below.drew ?_) | (with_reducible refine below_drewN' ?_ _) | (with_reducible refine below_step (by assumption) ?_ ?_) | (with_reducible refine below_gstep (by assumption) ?_ ?_ ?_) | (with_reducible exact Below.size (by assumption)) | omega | (simp; done) | (simp; omega)))
end Go.Proofs.YtdebjgghhiohmaaDoor
