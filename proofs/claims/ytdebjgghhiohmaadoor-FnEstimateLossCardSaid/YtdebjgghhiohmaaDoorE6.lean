/- Contracts of EstimateLoss and EstimateNext, of the program and of the reference. -/
import Derived.Test.YtdebjgghhiohmaaDoorE5
import Derived.Test.YtdebjgghhiohmaaDoorRW
import Derived.Deep.RegionWith
namespace Go.Proofs.YtdebjgghhiohmaaDoor
open Go.ChangeShapes Go.WideShapes Go.ChangeAt Go.RowKit

/-- The package's variable holds the sentinel. -/
def Sen (w : World) (a : Addr) : Prop := w.cell? ⟨0, 0, none⟩ = some (.iface 73 (.pointer (some a))) ∧ 0 < w.heap.size
theorem Sen.below {w w' : World} {a : Addr} (h : Sen w a) (hb : Below w.heap.size w w') : Sen w' a := ⟨(hb.cell (p := ⟨0, 0, none⟩) h.2).trans h.1, Nat.lt_of_lt_of_le h.2 hb.size⟩
theorem Sen.alloc {w : World} {a : Addr} (h : Sen w a) (o : Obj) : Sen (w.alloc o) a := ⟨(World.cell?_of_block (a := ⟨0, 0, none⟩) (Below.heap_alloc w o 0 h.2)).trans h.1, by simp⟩
theorem Sen.drew {w : World} {a : Addr} (h : Sen w a) : Sen w.drew a := h
theorem Sen.far {w : World} {a : Addr} (h : Sen w a) {p : Addr} (hp : 0 ≠ p.block) (v : Value) : Sen (w.setCell p v) a :=
  ⟨(World.cell?_of_block (a := ⟨0, 0, none⟩) (Below.heap_setCell w p v 0 hp)).trans h.1, by simpa [World.setCell] using h.2⟩
theorem neq_nil (v : Value) (w : World) : (binOp .neq 43 (.iface 73 v) .nilIface).run Tryd.prog w = .ok (.bool true) w := by kernel_rfl
theorem nil_nil (w : World) : (binOp .neq 43 .nilIface .nilIface).run Tryd.prog w = .ok (.bool false) w := by kernel_rfl

def zeroE : Value := .agg #[.int .i64 0, .int .i64 0, .int .i64 0]
set_option maxHeartbeats 1000000 in
theorem behindLoss_bad (r l h p : Int) (a : Addr) (w : World) (hv : Sen w a) (hbad : estB r l h = false ∨ estB r l h = true ∧ (p < 0 ∨ 256 < p)) :
    Calls Tryd.prog 23 #[.agg #[.int .i64 r, .int .i64 l, .int .i64 h], .int .i64 p] w (RetV (.tuple #[.agg #[.int .i64 0, .int .i64 0, .int .i64 0], .iface 73 (.pointer (some a))]) w) := by
  obtain ⟨cV, lV⟩ := hv
  have nz : ¬ w.heap.size = 0 := by omega
  rcases hbad with h1 | ⟨h1, h2 | h2⟩
  all_goals
    go_enter Tryd.func23, Tryd.ntmps23
    go_wp2_with fail
    refine (implEstimateValid _ _ _ _).mono ?_
    rintro e w1 ⟨rfl, hb⟩
    have cV1 : w1.cell? ⟨0, 0, none⟩ = some (.iface 73 (.pointer (some a))) := ((hb.cell (p := ⟨0, 0, none⟩) (by simp)).trans (by simp [go_sem, *]))
    have rZ : Row w1 (w.heap.size + 1) _ := Row.below (by (repeat' (first | (with_reducible assumption) | (with_reducible exact Row.new _ _ _) | (with_reducible exact Row.new1 _ _ _ _) | (with_reducible exact Row.new2 _ _ _ _ _) | (with_reducible exact Row.new2' _ _ _ _ _) | ((with_reducible apply Row.mk) <;> (with_reducible assumption)) | (with_reducible apply Row.alloc) | (with_reducible apply Row.set) | (with_reducible apply Row.far) | (with_reducible apply Row.drew) | (with_reducible apply Row.drewN) | omega | (simp; done) | (simp; omega)))) hb
    (try clear cZ fZ lZ)
    obtain ⟨cZ, fZ, lZ⟩ := rZ
    have hG : Below w.heap.size w w1 := by (repeat' (first | (with_reducible exact Below.refl _ _) | (with_reducible assumption) | (with_reducible refine Below.alloc ?_ ?_ _) | (with_reducible refine Below.setCell ?_ ?_ _) | (with_reducible refine Below.drew ?_) | (with_reducible refine below_drewN' ?_ _) | (with_reducible refine below_step (by assumption) ?_ ?_) | (with_reducible refine below_gstep (by assumption) ?_ ?_ ?_) | (with_reducible exact Below.size (by assumption)) | omega | (simp; done) | (simp; omega)))
    clear hb cV
    go_wp2_with fail
    go_region
    go_wp2
    refine bodyPost_ret (by first | (simp (maxDischargeDepth := 3) [results, Tryd.results23, go_sem, *]; done) | (simp (maxDischargeDepth := 3) [results, Tryd.results23, go_sem, *]; rfl) | (simp (maxDischargeDepth := 7) [results, Tryd.results23, go_sem, *]; done) | (simp (maxDischargeDepth := 7) [results, Tryd.results23, go_sem, *]; rfl)) rfl ?_
    refine retV_mk rfl ?_
    (repeat' (first | (with_reducible exact Below.refl _ _) | (with_reducible assumption) | (with_reducible refine Below.alloc ?_ ?_ _) | (with_reducible refine Below.setCell ?_ ?_ _) | (with_reducible refine Below.drew ?_) | (with_reducible refine below_drewN' ?_ _) | (with_reducible refine below_step (by assumption) ?_ ?_) | (with_reducible refine below_gstep (by assumption) ?_ ?_ ?_) | (with_reducible exact Below.size (by assumption)) | omega | (simp; done) | (simp; omega)))
set_option maxHeartbeats 1000000 in
theorem behindLoss_good (r l h p N : Int) (w : World) (h1 : estB r l h = true) (h2 : 0 ≤ p) (h3 : p ≤ 256) (hN : N = clampN l h (lossN r p)) :
    Calls Tryd.prog 23 #[.agg #[.int .i64 r, .int .i64 l, .int .i64 h], .int .i64 p] w (RetV (.tuple #[.agg #[.int .i64 N, .int .i64 l, .int .i64 h], .nilIface]) w) := by
  obtain ⟨k1, k2, k3, k4⟩ := estB_bd h1
  obtain ⟨m1, m2⟩ := mul_bd (r := r) (p := p) (by omega) (by omega) h2 h3
  unfold lossN at hN
  rcases (show 26 ≤ p ∨ p < 5 ∨ (5 ≤ p ∧ p < 26) from by omega) with c1 | c1 | ⟨c1, c2⟩
  · rw [if_pos c1] at hN
    have HN := hide hN
    clear hN
    go_enter Tryd.func23, Tryd.ntmps23
    go_wp2_with fail
    refine (implEstimateValid _ _ _ _).mono ?_
    rintro e w1 ⟨rfl, hb⟩
    have rX : Row w1 (w.heap.size) _ := Row.below (by (repeat' (first | (with_reducible assumption) | (with_reducible exact Row.new _ _ _) | (with_reducible exact Row.new1 _ _ _ _) | (with_reducible exact Row.new2 _ _ _ _ _) | (with_reducible exact Row.new2' _ _ _ _ _) | ((with_reducible apply Row.mk) <;> (with_reducible assumption)) | (with_reducible apply Row.alloc) | (with_reducible apply Row.set) | (with_reducible apply Row.far) | (with_reducible apply Row.drew) | (with_reducible apply Row.drewN) | omega | (simp; done) | (simp; omega)))) hb
    have rZ : Row w1 (w.heap.size + 1) _ := Row.below (by (repeat' (first | (with_reducible assumption) | (with_reducible exact Row.new _ _ _) | (with_reducible exact Row.new1 _ _ _ _) | (with_reducible exact Row.new2 _ _ _ _ _) | (with_reducible exact Row.new2' _ _ _ _ _) | ((with_reducible apply Row.mk) <;> (with_reducible assumption)) | (with_reducible apply Row.alloc) | (with_reducible apply Row.set) | (with_reducible apply Row.far) | (with_reducible apply Row.drew) | (with_reducible apply Row.drewN) | omega | (simp; done) | (simp; omega)))) hb
    (try clear cX fX lX)
    (try clear cZ fZ lZ)
    obtain ⟨cX, fX, lX⟩ := rX
    obtain ⟨cZ, fZ, lZ⟩ := rZ
    have hG : Below w.heap.size w w1 := by (repeat' (first | (with_reducible exact Below.refl _ _) | (with_reducible assumption) | (with_reducible refine Below.alloc ?_ ?_ _) | (with_reducible refine Below.setCell ?_ ?_ _) | (with_reducible refine Below.drew ?_) | (with_reducible refine below_drewN' ?_ _) | (with_reducible refine below_step (by assumption) ?_ ?_) | (with_reducible refine below_gstep (by assumption) ?_ ?_ ?_) | (with_reducible exact Below.size (by assumption)) | omega | (simp; done) | (simp; omega)))
    clear hb
    go_wp2_with fail
    refine (implWith r l h _ (by omega) _).mono ?_
    rintro e w2 ⟨rfl, hb⟩
    have rZ : Row w2 (w.heap.size + 1) _ := Row.below (by (repeat' (first | (with_reducible assumption) | (with_reducible exact Row.new _ _ _) | (with_reducible exact Row.new1 _ _ _ _) | (with_reducible exact Row.new2 _ _ _ _ _) | (with_reducible exact Row.new2' _ _ _ _ _) | ((with_reducible apply Row.mk) <;> (with_reducible assumption)) | (with_reducible apply Row.alloc) | (with_reducible apply Row.set) | (with_reducible apply Row.far) | (with_reducible apply Row.drew) | (with_reducible apply Row.drewN) | omega | (simp; done) | (simp; omega)))) hb
    (try clear cZ fZ lZ)
    obtain ⟨cZ, fZ, lZ⟩ := rZ
    have hG2 : Below w.heap.size w w2 := by (repeat' (first | (with_reducible exact Below.refl _ _) | (with_reducible assumption) | (with_reducible refine Below.alloc ?_ ?_ _) | (with_reducible refine Below.setCell ?_ ?_ _) | (with_reducible refine Below.drew ?_) | (with_reducible refine below_drewN' ?_ _) | (with_reducible refine below_step (by assumption) ?_ ?_) | (with_reducible refine below_gstep (by assumption) ?_ ?_ ?_) | (with_reducible exact Below.size (by assumption)) | omega | (simp; done) | (simp; omega)))
    clear hb hG
    rw [← HN.out]
    go_wp2
    refine bodyPost_ret (by first | (simp (maxDischargeDepth := 3) [results, Tryd.results23, go_sem, *]; done) | (simp (maxDischargeDepth := 3) [results, Tryd.results23, go_sem, *]; rfl) | (simp (maxDischargeDepth := 7) [results, Tryd.results23, go_sem, *]; done) | (simp (maxDischargeDepth := 7) [results, Tryd.results23, go_sem, *]; rfl)) rfl ?_
    refine retV_mk rfl ?_
    (repeat' (first | (with_reducible exact Below.refl _ _) | (with_reducible assumption) | (with_reducible refine Below.alloc ?_ ?_ _) | (with_reducible refine Below.setCell ?_ ?_ _) | (with_reducible refine Below.drew ?_) | (with_reducible refine below_drewN' ?_ _) | (with_reducible refine below_step (by assumption) ?_ ?_) | (with_reducible refine below_gstep (by assumption) ?_ ?_ ?_) | (with_reducible exact Below.size (by assumption)) | omega | (simp; done) | (simp; omega)))
  · rw [if_neg (by omega), if_pos c1] at hN
    have HN := hide hN
    clear hN
    go_enter Tryd.func23, Tryd.ntmps23
    go_wp2_with fail
    refine (implEstimateValid _ _ _ _).mono ?_
    rintro e w1 ⟨rfl, hb⟩
    have rX : Row w1 (w.heap.size) _ := Row.below (by (repeat' (first | (with_reducible assumption) | (with_reducible exact Row.new _ _ _) | (with_reducible exact Row.new1 _ _ _ _) | (with_reducible exact Row.new2 _ _ _ _ _) | (with_reducible exact Row.new2' _ _ _ _ _) | ((with_reducible apply Row.mk) <;> (with_reducible assumption)) | (with_reducible apply Row.alloc) | (with_reducible apply Row.set) | (with_reducible apply Row.far) | (with_reducible apply Row.drew) | (with_reducible apply Row.drewN) | omega | (simp; done) | (simp; omega)))) hb
    have rZ : Row w1 (w.heap.size + 1) _ := Row.below (by (repeat' (first | (with_reducible assumption) | (with_reducible exact Row.new _ _ _) | (with_reducible exact Row.new1 _ _ _ _) | (with_reducible exact Row.new2 _ _ _ _ _) | (with_reducible exact Row.new2' _ _ _ _ _) | ((with_reducible apply Row.mk) <;> (with_reducible assumption)) | (with_reducible apply Row.alloc) | (with_reducible apply Row.set) | (with_reducible apply Row.far) | (with_reducible apply Row.drew) | (with_reducible apply Row.drewN) | omega | (simp; done) | (simp; omega)))) hb
    (try clear cX fX lX)
    (try clear cZ fZ lZ)
    obtain ⟨cX, fX, lX⟩ := rX
    obtain ⟨cZ, fZ, lZ⟩ := rZ
    have hG : Below w.heap.size w w1 := by (repeat' (first | (with_reducible exact Below.refl _ _) | (with_reducible assumption) | (with_reducible refine Below.alloc ?_ ?_ _) | (with_reducible refine Below.setCell ?_ ?_ _) | (with_reducible refine Below.drew ?_) | (with_reducible refine below_drewN' ?_ _) | (with_reducible refine below_step (by assumption) ?_ ?_) | (with_reducible refine below_gstep (by assumption) ?_ ?_ ?_) | (with_reducible exact Below.size (by assumption)) | omega | (simp; done) | (simp; omega)))
    clear hb
    go_wp2_with fail
    refine (implWith r l h _ (by omega) _).mono ?_
    rintro e w2 ⟨rfl, hb⟩
    have rZ : Row w2 (w.heap.size + 1) _ := Row.below (by (repeat' (first | (with_reducible assumption) | (with_reducible exact Row.new _ _ _) | (with_reducible exact Row.new1 _ _ _ _) | (with_reducible exact Row.new2 _ _ _ _ _) | (with_reducible exact Row.new2' _ _ _ _ _) | ((with_reducible apply Row.mk) <;> (with_reducible assumption)) | (with_reducible apply Row.alloc) | (with_reducible apply Row.set) | (with_reducible apply Row.far) | (with_reducible apply Row.drew) | (with_reducible apply Row.drewN) | omega | (simp; done) | (simp; omega)))) hb
    (try clear cZ fZ lZ)
    obtain ⟨cZ, fZ, lZ⟩ := rZ
    have hG2 : Below w.heap.size w w2 := by (repeat' (first | (with_reducible exact Below.refl _ _) | (with_reducible assumption) | (with_reducible refine Below.alloc ?_ ?_ _) | (with_reducible refine Below.setCell ?_ ?_ _) | (with_reducible refine Below.drew ?_) | (with_reducible refine below_drewN' ?_ _) | (with_reducible refine below_step (by assumption) ?_ ?_) | (with_reducible refine below_gstep (by assumption) ?_ ?_ ?_) | (with_reducible exact Below.size (by assumption)) | omega | (simp; done) | (simp; omega)))
    clear hb hG
    rw [← HN.out]
    go_wp2
    refine bodyPost_ret (by first | (simp (maxDischargeDepth := 3) [results, Tryd.results23, go_sem, *]; done) | (simp (maxDischargeDepth := 3) [results, Tryd.results23, go_sem, *]; rfl) | (simp (maxDischargeDepth := 7) [results, Tryd.results23, go_sem, *]; done) | (simp (maxDischargeDepth := 7) [results, Tryd.results23, go_sem, *]; rfl)) rfl ?_
    refine retV_mk rfl ?_
    (repeat' (first | (with_reducible exact Below.refl _ _) | (with_reducible assumption) | (with_reducible refine Below.alloc ?_ ?_ _) | (with_reducible refine Below.setCell ?_ ?_ _) | (with_reducible refine Below.drew ?_) | (with_reducible refine below_drewN' ?_ _) | (with_reducible refine below_step (by assumption) ?_ ?_) | (with_reducible refine below_gstep (by assumption) ?_ ?_ ?_) | (with_reducible exact Below.size (by assumption)) | omega | (simp; done) | (simp; omega)))
  · rw [if_neg (by omega), if_neg (by omega)] at hN
    have hr : N = r := by
      rw [hN]; unfold clampN
      rw [if_neg (show ¬ r < l by omega), if_neg (show ¬ h < r by omega)]
    subst hr
    clear hN
    go_enter Tryd.func23, Tryd.ntmps23
    go_wp2_with fail
    refine (implEstimateValid _ _ _ _).mono ?_
    rintro e w1 ⟨rfl, hb⟩
    have rX : Row w1 (w.heap.size) _ := Row.below (by (repeat' (first | (with_reducible assumption) | (with_reducible exact Row.new _ _ _) | (with_reducible exact Row.new1 _ _ _ _) | (with_reducible exact Row.new2 _ _ _ _ _) | (with_reducible exact Row.new2' _ _ _ _ _) | ((with_reducible apply Row.mk) <;> (with_reducible assumption)) | (with_reducible apply Row.alloc) | (with_reducible apply Row.set) | (with_reducible apply Row.far) | (with_reducible apply Row.drew) | (with_reducible apply Row.drewN) | omega | (simp; done) | (simp; omega)))) hb
    have rZ : Row w1 (w.heap.size + 1) _ := Row.below (by (repeat' (first | (with_reducible assumption) | (with_reducible exact Row.new _ _ _) | (with_reducible exact Row.new1 _ _ _ _) | (with_reducible exact Row.new2 _ _ _ _ _) | (with_reducible exact Row.new2' _ _ _ _ _) | ((with_reducible apply Row.mk) <;> (with_reducible assumption)) | (with_reducible apply Row.alloc) | (with_reducible apply Row.set) | (with_reducible apply Row.far) | (with_reducible apply Row.drew) | (with_reducible apply Row.drewN) | omega | (simp; done) | (simp; omega)))) hb
    (try clear cX fX lX)
    (try clear cZ fZ lZ)
    obtain ⟨cX, fX, lX⟩ := rX
    obtain ⟨cZ, fZ, lZ⟩ := rZ
    have hG : Below w.heap.size w w1 := by (repeat' (first | (with_reducible exact Below.refl _ _) | (with_reducible assumption) | (with_reducible refine Below.alloc ?_ ?_ _) | (with_reducible refine Below.setCell ?_ ?_ _) | (with_reducible refine Below.drew ?_) | (with_reducible refine below_drewN' ?_ _) | (with_reducible refine below_step (by assumption) ?_ ?_) | (with_reducible refine below_gstep (by assumption) ?_ ?_ ?_) | (with_reducible exact Below.size (by assumption)) | omega | (simp; done) | (simp; omega)))
    clear hb
    go_wp2
    refine bodyPost_ret (by first | (simp (maxDischargeDepth := 3) [results, Tryd.results23, go_sem, *]; done) | (simp (maxDischargeDepth := 3) [results, Tryd.results23, go_sem, *]; rfl) | (simp (maxDischargeDepth := 7) [results, Tryd.results23, go_sem, *]; done) | (simp (maxDischargeDepth := 7) [results, Tryd.results23, go_sem, *]; rfl)) rfl ?_
    refine retV_mk rfl ?_
    (repeat' (first | (with_reducible exact Below.refl _ _) | (with_reducible assumption) | (with_reducible refine Below.alloc ?_ ?_ _) | (with_reducible refine Below.setCell ?_ ?_ _) | (with_reducible refine Below.drew ?_) | (with_reducible refine below_drewN' ?_ _) | (with_reducible refine below_step (by assumption) ?_ ?_) | (with_reducible refine below_gstep (by assumption) ?_ ?_ ?_) | (with_reducible exact Below.size (by assumption)) | omega | (simp; done) | (simp; omega)))
/-- The result for a missing part, whatever the arguments. -/
def lossV (r l h p N L H : Int) (B : Bool) : Prop :=
  (estB r l h = true ∧ 0 ≤ p ∧ p ≤ 256 ∧ N = clampN l h (lossN r p) ∧ L = l ∧ H = h ∧ B = true) ∨ ((estB r l h = false ∨ estB r l h = true ∧ (p < 0 ∨ 256 < p)) ∧ N = 0 ∧ L = 0 ∧ H = 0 ∧ B = false)
theorem lossV_some (r l h p : Int) : ∃ N L H B, lossV r l h p N L H B := by
  by_cases h1 : estB r l h = true
  · by_cases h2 : 0 ≤ p ∧ p ≤ 256
    · exact ⟨_, _, _, _, .inl ⟨h1, h2.1, h2.2, rfl, rfl, rfl, rfl⟩⟩
    · exact ⟨_, _, _, _, .inr ⟨.inr ⟨h1, by omega⟩, rfl, rfl, rfl, rfl⟩⟩
  · exact ⟨_, _, _, _, .inr ⟨.inl (by simpa using h1), rfl, rfl, rfl, rfl⟩⟩
set_option maxHeartbeats 1000000 in
theorem implLoss (r l h p N L H : Int) (B : Bool) (a : Addr) (w : World) (hv : Sen w a) (hd : lossV r l h p N L H B) :
    Calls Tryd.prog 12 #[.agg #[.int .i64 r, .int .i64 l, .int .i64 h], .int .i64 p] w (RetV (.tuple #[.agg #[.int .i64 N, .int .i64 L, .int .i64 H], .bool B]) w) := by
  have hv' := hv
  obtain ⟨cV, lV⟩ := hv'
  have nz : ¬ w.heap.size = 0 := by omega
  rcases hd with ⟨h1, h2, h3, hN, rfl, rfl, rfl⟩ | ⟨h1, rfl, rfl, rfl, rfl⟩
  · have HN := hide hN
    clear hN
    go_enter Tryd.func12, Tryd.ntmps12
    go_wp2_with fail
    refine (behindLoss_good _ _ _ _ _ _ h1 h2 h3 HN.out).mono ?_
    rintro e w1 ⟨rfl, hb⟩
    have cV1 : w1.cell? ⟨0, 0, none⟩ = some (.iface 73 (.pointer (some a))) := ((hb.cell (p := ⟨0, 0, none⟩) (by simp)).trans (by simp [go_sem, *]))
    have rZ : Row w1 (w.heap.size + 1) _ := Row.below (by (repeat' (first | (with_reducible assumption) | (with_reducible exact Row.new _ _ _) | (with_reducible exact Row.new1 _ _ _ _) | (with_reducible exact Row.new2 _ _ _ _ _) | (with_reducible exact Row.new2' _ _ _ _ _) | ((with_reducible apply Row.mk) <;> (with_reducible assumption)) | (with_reducible apply Row.alloc) | (with_reducible apply Row.set) | (with_reducible apply Row.far) | (with_reducible apply Row.drew) | (with_reducible apply Row.drewN) | omega | (simp; done) | (simp; omega)))) hb
    (try clear cZ fZ lZ)
    obtain ⟨cZ, fZ, lZ⟩ := rZ
    have hG : Below w.heap.size w w1 := by (repeat' (first | (with_reducible exact Below.refl _ _) | (with_reducible assumption) | (with_reducible refine Below.alloc ?_ ?_ _) | (with_reducible refine Below.setCell ?_ ?_ _) | (with_reducible refine Below.drew ?_) | (with_reducible refine below_drewN' ?_ _) | (with_reducible refine below_step (by assumption) ?_ ?_) | (with_reducible refine below_gstep (by assumption) ?_ ?_ ?_) | (with_reducible exact Below.size (by assumption)) | omega | (simp; done) | (simp; omega)))
    have lV1 : 0 < w1.heap.size := by omega
    clear hb cV
    go_wp2_with fail
    refine (is_nil _ _).mono ?_
    rintro e w2 ⟨rfl, rfl⟩
    go_wp2
    refine bodyPost_ret (by first | (simp (maxDischargeDepth := 3) [results, Tryd.results12, go_sem, *]; done) | (simp (maxDischargeDepth := 3) [results, Tryd.results12, go_sem, *]; rfl) | (simp (maxDischargeDepth := 7) [results, Tryd.results12, go_sem, *]; done) | (simp (maxDischargeDepth := 7) [results, Tryd.results12, go_sem, *]; rfl)) rfl ?_
    refine retV_mk rfl ?_
    (repeat' (first | (with_reducible exact Below.refl _ _) | (with_reducible assumption) | (with_reducible refine Below.alloc ?_ ?_ _) | (with_reducible refine Below.setCell ?_ ?_ _) | (with_reducible refine Below.drew ?_) | (with_reducible refine below_drewN' ?_ _) | (with_reducible refine below_step (by assumption) ?_ ?_) | (with_reducible refine below_gstep (by assumption) ?_ ?_ ?_) | (with_reducible exact Below.size (by assumption)) | omega | (simp; done) | (simp; omega)))
  · have H1 := hide h1
    clear h1
    go_enter Tryd.func12, Tryd.ntmps12
    go_wp2_with fail
    refine (behindLoss_bad _ _ _ _ a _ ((hv.alloc _).alloc _) H1.out).mono ?_
    rintro e w1 ⟨rfl, hb⟩
    have cV1 : w1.cell? ⟨0, 0, none⟩ = some (.iface 73 (.pointer (some a))) := ((hb.cell (p := ⟨0, 0, none⟩) (by simp)).trans (by simp [go_sem, *]))
    have rZ : Row w1 (w.heap.size + 1) _ := Row.below (by (repeat' (first | (with_reducible assumption) | (with_reducible exact Row.new _ _ _) | (with_reducible exact Row.new1 _ _ _ _) | (with_reducible exact Row.new2 _ _ _ _ _) | (with_reducible exact Row.new2' _ _ _ _ _) | ((with_reducible apply Row.mk) <;> (with_reducible assumption)) | (with_reducible apply Row.alloc) | (with_reducible apply Row.set) | (with_reducible apply Row.far) | (with_reducible apply Row.drew) | (with_reducible apply Row.drewN) | omega | (simp; done) | (simp; omega)))) hb
    (try clear cZ fZ lZ)
    obtain ⟨cZ, fZ, lZ⟩ := rZ
    have hG : Below w.heap.size w w1 := by (repeat' (first | (with_reducible exact Below.refl _ _) | (with_reducible assumption) | (with_reducible refine Below.alloc ?_ ?_ _) | (with_reducible refine Below.setCell ?_ ?_ _) | (with_reducible refine Below.drew ?_) | (with_reducible refine below_drewN' ?_ _) | (with_reducible refine below_step (by assumption) ?_ ?_) | (with_reducible refine below_gstep (by assumption) ?_ ?_ ?_) | (with_reducible exact Below.size (by assumption)) | omega | (simp; done) | (simp; omega)))
    have lV1 : 0 < w1.heap.size := by omega
    clear hb cV
    go_wp2_with fail
    refine (is_same _ _).mono ?_
    rintro e w2 ⟨rfl, rfl⟩
    go_wp2
    refine bodyPost_ret (by first | (simp (maxDischargeDepth := 3) [results, Tryd.results12, go_sem, *]; done) | (simp (maxDischargeDepth := 3) [results, Tryd.results12, go_sem, *]; rfl) | (simp (maxDischargeDepth := 7) [results, Tryd.results12, go_sem, *]; done) | (simp (maxDischargeDepth := 7) [results, Tryd.results12, go_sem, *]; rfl)) rfl ?_
    refine retV_mk rfl ?_
    (repeat' (first | (with_reducible exact Below.refl _ _) | (with_reducible assumption) | (with_reducible refine Below.alloc ?_ ?_ _) | (with_reducible refine Below.setCell ?_ ?_ _) | (with_reducible refine Below.drew ?_) | (with_reducible refine below_drewN' ?_ _) | (with_reducible refine below_step (by assumption) ?_ ?_) | (with_reducible refine below_gstep (by assumption) ?_ ?_ ?_) | (with_reducible exact Below.size (by assumption)) | omega | (simp; done) | (simp; omega)))
end Go.Proofs.YtdebjgghhiohmaaDoor
