/- Contracts of what draws an estimate from a code. -/
import Derived.Test.YtdebjgghhiohmaaDoorD0
import Derived.Deep.RegionHeld3
import Derived.Deep.DeepCutAuto
namespace Go.Proofs.YtdebjgghhiohmaaDoor
open Go.ChangeShapes Go.WideShapes Go.ChangeAt Go.RowKit

def IsEst (v : Value) : Prop := ∃ a b c : Int, v = .agg #[.int .i64 a, .int .i64 b, .int .i64 c]
set_option maxHeartbeats 2000000 in
theorem l92Estimate_any (B R P : Nat) (w : World) (hr : Rd w B R P) (hP : P ≤ 900000) :
    Calls Tryd.prog 26 #[.pointer (some ⟨R, 0, none⟩)] w (Drew B R (P + 4) IsEst w) := by
  have hR := hr.lt
  go_enter Tryd.func26, Tryd.ntmps26
  go_wp2_with fail
  refine (pick_any B R P _ _ (hr.alloc _) (by omega) (by omega) (by omega)).mono ?_
  rintro e w1 ⟨x, rfl, hx0, hx1, hs1, hr1, hg1⟩
  simp at hs1
  obtain ⟨hc, hf⟩ := gkeep hg1 (w.heap.size) (by first | omega | (simp; done) | (simp; omega)) (by omega)
  have k1 : ¬ w.heap.size + 1 = w.heap.size := by omega
  have k2 : ¬ w.heap.size = w.heap.size + 1 := by omega
  have e1 : ∀ cs t k, (w1.alloc (.cells cs t)).cell? ⟨w.heap.size + 1, k, none⟩ = cs[k]? := by
    intro cs t k
    rw [← hs1]
    exact cell_of_row _ _ k _ _ _ (heap_alloc_new _ _)
  have e2 : ∀ cs t k, (w1.alloc (.cells cs t)).frozen? ⟨w.heap.size + 1, k, none⟩ = false := by
    intro cs t k
    rw [← hs1]
    exact frozen_of_row _ _ k _ _ (heap_alloc_new _ _)
  go_upto_region 2 with (fail)
  go_region_held3 (fun w' => w'.cell? ⟨w.heap.size + 1, 1, none⟩ = some (.int .i64 (10 + x))) (first | (go_keep; done) | (simp [*, go_sem]; done) | (trace_state; fail)) (first | (go_at_call 29; refine (pick_from hr1 ?_ ?_ ?_ ?_).mono ?_; (focus (repeat' (first | (with_reducible exact RExt.refl _ _) | (with_reducible refine RExt.alloc ?_ _) | (with_reducible refine RExt.setCell ?_ ?_ _) | (with_reducible refine RExt.drew ?_) | (with_reducible refine RExt.drewN ?_ _) | (with_reducible refine RExt.below ?_ (by assumption)) | omega | (simp; done) | (simp; omega)))); omega; omega; omega; rintro e w2 ⟨y, rfl, hy0, hy1, hs2, hr2, hg2⟩; (try simp at hs2); obtain ⟨hc2, hf2⟩ := gkeep hg2 (w.heap.size) (by first | omega | (simp; done) | (simp; omega)) (by omega); obtain ⟨hc3, hf3⟩ := gkeep hg2 (w.heap.size + 1) (by first | omega | (simp; done) | (simp; omega)) (by omega)))
  obtain ⟨H, hH⟩ : ∃ H : Int, IntKind.i64.wrap (10 + x + IntKind.i64.wrap (4 * y)) = H := ⟨_, rfl⟩
  rw [hH]
  clear hH
  have hs2' : w2.heap.size = w.heap.size + 2 := by omega
  go_upto_region 3 with (fail)
  go_region_held3 (fun w' => w'.cell? ⟨w.heap.size + 1, 1, none⟩ = some (.int .i64 (10 + x)) ∧ w'.cell? ⟨w.heap.size + 1, 2, none⟩ = some (.int .i64 H)) (first | (go_keep; done) | (simp [*, go_sem]; done)) (first | (go_at_call 29; refine (pick_from hr2 ?_ ?_ ?_ ?_).mono ?_; (focus (repeat' (first | (with_reducible exact RExt.refl _ _) | (with_reducible refine RExt.alloc ?_ _) | (with_reducible refine RExt.setCell ?_ ?_ _) | (with_reducible refine RExt.drew ?_) | (with_reducible refine RExt.drewN ?_ _) | (with_reducible refine RExt.below ?_ (by assumption)) | omega | (simp; done) | (simp; omega)))); omega; omega; omega; rintro e w3 ⟨z, rfl, hz0, hz1, hs3, hr3, hg3⟩; (try simp at hs3); obtain ⟨hc4, hf4⟩ := gkeep hg3 (w.heap.size) (by first | omega | (simp; done) | (simp; omega)) (by omega); obtain ⟨hc5, hf5⟩ := gkeep hg3 (w.heap.size + 1) (by first | omega | (simp; done) | (simp; omega)) (by omega)))
  go_wp2_with fail
  generalize wrap64 (10 + x + wrap64 ((wrap64 (z * wrap64 (H - (10 + x)))).tdiv 249)) = Rt
  refine (pick_from hr3 ?_ ?_ ?_ ?_).mono ?_
  · (repeat' (first | (with_reducible exact RExt.refl _ _) | (with_reducible refine RExt.alloc ?_ _) | (with_reducible refine RExt.setCell ?_ ?_ _) | (with_reducible refine RExt.drew ?_) | (with_reducible refine RExt.drewN ?_ _) | (with_reducible refine RExt.below ?_ (by assumption)) | omega | (simp; done) | (simp; omega)))
  · omega
  · omega
  · omega
  rintro e w4 ⟨t, rfl, ht0, ht1, hs4, hr4, hg4⟩
  (try simp at hs4)
  obtain ⟨hc6, hf6⟩ := gkeep hg4 (w.heap.size) (by first | omega | (simp; done) | (simp; omega)) (by omega)
  obtain ⟨hc7, hf7⟩ := gkeep hg4 (w.heap.size + 1) (by first | omega | (simp; done) | (simp; omega)) (by omega)
  have hr := hr4
  have d0 : w4.cell? ⟨w.heap.size + 1, 0, none⟩ = some (.int .i64 Rt) := by simp (maxDischargeDepth := 6) [go_sem, *]
  have d1 : w4.cell? ⟨w.heap.size + 1, 1, none⟩ = some (.int .i64 (10 + x)) := by simp (maxDischargeDepth := 6) [go_sem, *]
  have d2 : w4.cell? ⟨w.heap.size + 1, 2, none⟩ = some (.int .i64 H) := by simp (maxDischargeDepth := 6) [go_sem, *]
  have d3 : ∀ o, w4.frozen? ⟨w.heap.size + 1, o, none⟩ = false := by intro o; simp (maxDischargeDepth := 6) [go_sem, *]
  have d4 : ∀ o, w4.cell? ⟨w.heap.size, o, none⟩ = #[Value.int .i64 0, Value.int .i64 0, Value.int .i64 0][o]? := by intro o; simp (maxDischargeDepth := 6) [go_sem, *]
  have d5 : ∀ o, w4.frozen? ⟨w.heap.size, o, none⟩ = false := by intro o; simp (maxDischargeDepth := 6) [go_sem, *]
  clear hc hf hc2 hf2 hc3 hf3 hc4 hf4 hc5 hf5 hc6 hf6 hc7 hf7 e1 e2
  go_wp2_with fail
  all_goals
    refine bodyPost_ret (by first | (simp (maxDischargeDepth := 3) [results, Tryd.results26, go_sem, *]; done) | (simp (maxDischargeDepth := 3) [results, Tryd.results26, go_sem, *]; rfl) | (simp (maxDischargeDepth := 7) [results, Tryd.results26, go_sem, *]; done) | (simp (maxDischargeDepth := 7) [results, Tryd.results26, go_sem, *]; rfl)) rfl ?_
    refine drew_mk ⟨_, _, _, rfl⟩ ?_ ?_
    · ((refine Rd.more (RExt.rd (w := _) ?_ hr) ?_); (focus (repeat' (first | (with_reducible exact RExt.refl _ _) | (with_reducible refine RExt.alloc ?_ _) | (with_reducible refine RExt.setCell ?_ ?_ _) | (with_reducible refine RExt.drew ?_) | (with_reducible refine RExt.drewN ?_ _) | (with_reducible refine RExt.below ?_ (by assumption)) | omega | (simp; done) | (simp; omega)))); omega)
    · (repeat' (first | (with_reducible exact World.grownBy.refl _ _) | (with_reducible assumption) | (with_reducible refine grown_alloc ?_ _) | (with_reducible refine grown_setCell ?_ ?_ _) | (with_reducible refine grown_drew ?_) | (with_reducible refine grown_drewN ?_ _) | (with_reducible refine grown_step (by assumption) ?_) | (with_reducible refine grown_below ?_ (by assumption)) | (left; rfl) | (right; omega) | (right; simp; done) | (right; simp; omega)))
end Go.Proofs.YtdebjgghhiohmaaDoor
