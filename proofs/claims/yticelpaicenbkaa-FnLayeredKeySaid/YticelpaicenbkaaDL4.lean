/- Contracts of what draws layers and packets from a code. -/
import Derived.Test.YticelpaicenbkaaDL1
import Derived.Test.YticelpaicenbkaaDL2
namespace Go.Proofs.Yticelpaicenbkaa
open Go.ChangeShapes Go.WideShapes Go.ChangeAt Go.RowKit

def IsStep (v : Value) : Prop := ∃ (a b wd tm ly sz : Int) (ky la : Bool), v = .tuple #[.agg #[.int .i64 a, .int .i64 b], .agg #[.int .i64 wd, .int .i64 tm, .int .i64 ly, .int .i64 sz, .bool ky, .bool la]]
set_option maxHeartbeats 1000000 in
theorem drawLayeredStep (B : Nat) (A : Option Addr) (n c : Nat) (w : World) (hcode : Code w B A n) (hn : n ≤ c) (hm : c ≤ 9223372036854775807) (hB : B ≤ w.heap.size) :
    Calls Try.prog 26 #[.slice A n c] w (Drawn IsStep w) := by
  have Hcode := hide hcode
  clear hcode
  go_enter Try.func26, Try.ntmps26
  go_wp2_with fail
  refine (l6Open_any B A n c _ ((Hcode.out.alloc _).alloc _) hn hm (by simp; omega)).mono ?_
  rintro e w1 ⟨R, rfl, hR, hr, hb1⟩
  simp at hR
  have hz1 := hb1.size
  (try simp at hz1)
  obtain ⟨hc, hf⟩ := bkeep hb1 (w.heap.size) (by first | omega | (simp; done) | (simp; omega))
  have hlt : w.heap.size < w1.heap.size := by omega
  have hle : w.heap.size ≤ w1.heap.size := by omega
  obtain ⟨hc, hf⟩ := bkeep hb1 (w.heap.size + 1) (by first | omega | (simp; done) | (simp; omega))
  have hlt : w.heap.size + 1 < w1.heap.size := by omega
  have hle : w.heap.size + 1 ≤ w1.heap.size := by omega
  have hRl := hr.lt
  go_wp2_with fail
  refine (l92Layered_any B R 0 _ hr (by omega)).mono ?_
  rintro e w2 ⟨v, rfl, ⟨a, b, rfl⟩, hr2, hg2⟩
  have hz2 := hg2.size
  (try simp at hz2)
  obtain ⟨hc, hf⟩ := gkeep hg2 (w.heap.size) (by first | omega | (simp; done) | (simp; omega)) (by omega)
  have hlt : w.heap.size < w2.heap.size := by omega
  have hle : w.heap.size ≤ w2.heap.size := by omega
  obtain ⟨hc, hf⟩ := gkeep hg2 (w.heap.size + 1) (by first | omega | (simp; done) | (simp; omega)) (by omega)
  have hlt : w.heap.size + 1 < w2.heap.size := by omega
  have hle : w.heap.size + 1 ≤ w2.heap.size := by omega
  go_wp2_with fail
  refine (l91Packet_any B R 4 _ (hr2.alloc _) (by omega)).mono ?_
  rintro e w3 ⟨v, rfl, ⟨wd, tm, ly, sz, ky, la, rfl⟩, hr3, hg3⟩
  have hz3 := hg3.size
  (try simp at hz3)
  obtain ⟨hc, hf⟩ := gkeep hg3 (w.heap.size) (by first | omega | (simp; done) | (simp; omega)) (by omega)
  have hlt : w.heap.size < w3.heap.size := by omega
  have hle : w.heap.size ≤ w3.heap.size := by omega
  obtain ⟨hc, hf⟩ := gkeep hg3 (w.heap.size + 1) (by first | omega | (simp; done) | (simp; omega)) (by omega)
  have hlt : w.heap.size + 1 < w3.heap.size := by omega
  have hle : w.heap.size + 1 ≤ w3.heap.size := by omega
  obtain ⟨hc, hf⟩ := gkeep hg3 (w2.heap.size) (by first | omega | (simp; done) | (simp; omega)) (by omega)
  have hlt : w2.heap.size < w3.heap.size := by omega
  have hle : w2.heap.size ≤ w3.heap.size := by omega
  go_wp2_with fail
  refine (pick_any B R 12 _ _ (hr3.alloc _) (by omega) (by omega) (by omega)).mono ?_
  rintro e w4 ⟨x, rfl, hx0, hx1, hs, hr4, hg4⟩
  (try simp at hs)
  have hz4 := hg4.size
  (try simp at hz4)
  obtain ⟨hc, hf⟩ := gkeep hg4 (w.heap.size) (by first | omega | (simp; done) | (simp; omega)) (by omega)
  have hlt : w.heap.size < w4.heap.size := by omega
  have hle : w.heap.size ≤ w4.heap.size := by omega
  obtain ⟨hc, hf⟩ := gkeep hg4 (w.heap.size + 1) (by first | omega | (simp; done) | (simp; omega)) (by omega)
  have hlt : w.heap.size + 1 < w4.heap.size := by omega
  have hle : w.heap.size + 1 ≤ w4.heap.size := by omega
  obtain ⟨hc, hf⟩ := gkeep hg4 (w2.heap.size) (by first | omega | (simp; done) | (simp; omega)) (by omega)
  have hlt : w2.heap.size < w4.heap.size := by omega
  have hle : w2.heap.size ≤ w4.heap.size := by omega
  obtain ⟨hc, hf⟩ := gkeep hg4 (w3.heap.size) (by first | omega | (simp; done) | (simp; omega)) (by omega)
  have hlt : w3.heap.size < w4.heap.size := by omega
  have hle : w3.heap.size ≤ w4.heap.size := by omega
  go_wp2_with fail
  all_goals
    go_region
    go_wp2
    refine bodyPost_ret (by first | (simp (maxDischargeDepth := 3) [results, Try.results26, go_sem, *]; done) | (simp (maxDischargeDepth := 3) [results, Try.results26, go_sem, *]; rfl) | (simp (maxDischargeDepth := 7) [results, Try.results26, go_sem, *]; done) | (simp (maxDischargeDepth := 7) [results, Try.results26, go_sem, *]; rfl)) rfl ?_
    refine drawn_mk ⟨_, _, _, _, _, _, _, _, rfl⟩ ?_
    (repeat' (first | (with_reducible exact Below.refl _ _) | (with_reducible refine Below.alloc ?_ ?_ _) | (with_reducible refine Below.setCell ?_ ?_ _) | (with_reducible refine Below.drew ?_) | (with_reducible refine below_step (by assumption) ?_ ?_) | (with_reducible refine below_gstep (by assumption) ?_ ?_ ?_) | omega | (simp; done) | (simp; omega)))
end Go.Proofs.Yticelpaicenbkaa
