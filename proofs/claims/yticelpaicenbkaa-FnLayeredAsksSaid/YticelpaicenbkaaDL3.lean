/- Contracts of what draws layers and packets from a code. -/
import Derived.Test.YticelpaicenbkaaDL1
namespace Go.Proofs.Yticelpaicenbkaa
open Go.ChangeShapes Go.WideShapes Go.ChangeAt Go.RowKit

theorem drawLayeredValid (B : Nat) (A : Option Addr) (n c : Nat) (w : World) (hcode : Code w B A n) (hn : n ≤ c) (hm : c ≤ 9223372036854775807) (hB : B ≤ w.heap.size) :
    Calls Try.prog 20 #[.slice A n c] w (Drawn IsLayered w) := by
  have Hcode := hide hcode
  clear hcode
  go_enter Try.func20, Try.ntmps20
  go_wp2_with fail
  refine (l6Open_any B A n c _ (Hcode.out.alloc _) hn hm (by simp; omega)).mono ?_
  rintro e w1 ⟨R, rfl, hR, hr, hb1⟩
  simp at hR
  have hz1 := hb1.size
  (try simp at hz1)
  obtain ⟨hc, hf⟩ := bkeep hb1 (w.heap.size) (by first | omega | (simp; done) | (simp; omega))
  have hlt : w.heap.size < w1.heap.size := by omega
  have hle : w.heap.size ≤ w1.heap.size := by omega
  have hRl := hr.lt
  go_wp2_with fail
  refine (l92Layered_any B R 0 _ hr (by omega)).mono ?_
  rintro e w2 ⟨v, rfl, ⟨a, b, rfl⟩, hr2, hg2⟩
  have hz2 := hg2.size
  (try simp at hz2)
  obtain ⟨hc, hf⟩ := gkeep hg2 (w.heap.size) (by first | omega | (simp; done) | (simp; omega)) (by omega)
  have hlt : w.heap.size < w2.heap.size := by omega
  have hle : w.heap.size ≤ w2.heap.size := by omega
  go_wp2_with fail
  refine bodyPost_ret (by first | (simp (maxDischargeDepth := 3) [results, Try.results20, go_sem, *]; done) | (simp (maxDischargeDepth := 3) [results, Try.results20, go_sem, *]; rfl) | (simp (maxDischargeDepth := 7) [results, Try.results20, go_sem, *]; done) | (simp (maxDischargeDepth := 7) [results, Try.results20, go_sem, *]; rfl)) rfl ?_
  refine drawn_mk ⟨_, _, rfl⟩ ?_
  (repeat' (first | (with_reducible exact Below.refl _ _) | (with_reducible refine Below.alloc ?_ ?_ _) | (with_reducible refine Below.setCell ?_ ?_ _) | (with_reducible refine Below.drew ?_) | (with_reducible refine below_step (by assumption) ?_ ?_) | (with_reducible refine below_gstep (by assumption) ?_ ?_ ?_) | omega | (simp; done) | (simp; omega)))
theorem drawLayeredAsks (B : Nat) (A : Option Addr) (n c : Nat) (w : World) (hcode : Code w B A n) (hn : n ≤ c) (hm : c ≤ 9223372036854775807) (hB : B ≤ w.heap.size) :
    Calls Try.prog 21 #[.slice A n c] w (Drawn IsLayered w) := by
  have Hcode := hide hcode
  clear hcode
  go_enter Try.func21, Try.ntmps21
  go_wp2_with fail
  refine (l6Open_any B A n c _ (Hcode.out.alloc _) hn hm (by simp; omega)).mono ?_
  rintro e w1 ⟨R, rfl, hR, hr, hb1⟩
  simp at hR
  have hz1 := hb1.size
  (try simp at hz1)
  obtain ⟨hc, hf⟩ := bkeep hb1 (w.heap.size) (by first | omega | (simp; done) | (simp; omega))
  have hlt : w.heap.size < w1.heap.size := by omega
  have hle : w.heap.size ≤ w1.heap.size := by omega
  have hRl := hr.lt
  go_wp2_with fail
  refine (l92Layered_any B R 0 _ hr (by omega)).mono ?_
  rintro e w2 ⟨v, rfl, ⟨a, b, rfl⟩, hr2, hg2⟩
  have hz2 := hg2.size
  (try simp at hz2)
  obtain ⟨hc, hf⟩ := gkeep hg2 (w.heap.size) (by first | omega | (simp; done) | (simp; omega)) (by omega)
  have hlt : w.heap.size < w2.heap.size := by omega
  have hle : w.heap.size ≤ w2.heap.size := by omega
  go_wp2_with fail
  refine bodyPost_ret (by first | (simp (maxDischargeDepth := 3) [results, Try.results21, go_sem, *]; done) | (simp (maxDischargeDepth := 3) [results, Try.results21, go_sem, *]; rfl) | (simp (maxDischargeDepth := 7) [results, Try.results21, go_sem, *]; done) | (simp (maxDischargeDepth := 7) [results, Try.results21, go_sem, *]; rfl)) rfl ?_
  refine drawn_mk ⟨_, _, rfl⟩ ?_
  (repeat' (first | (with_reducible exact Below.refl _ _) | (with_reducible refine Below.alloc ?_ ?_ _) | (with_reducible refine Below.setCell ?_ ?_ _) | (with_reducible refine Below.drew ?_) | (with_reducible refine below_step (by assumption) ?_ ?_) | (with_reducible refine below_gstep (by assumption) ?_ ?_ ?_) | omega | (simp; done) | (simp; omega)))
end Go.Proofs.Yticelpaicenbkaa
