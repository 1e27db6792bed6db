/- What DrawStatsValid, DrawStatsLost and DrawStatsPart draw from a code. -/
import Derived.Test.YtcfcnefhjdoceaaS5
namespace Go.Proofs.Ytcfcnefhjdoceaa
open Go.ChangeShapes Go.WideShapes Go.ChangeAt Go.RowKit

theorem drawStatsValid (B : Nat) (A : Option Addr) (n c : Nat) (w : World) (hcode : Code w B A n) (hn : n ≤ c) (hm : c ≤ 9223372036854775807) (hB : B ≤ w.heap.size) :
    Calls Try.prog 18 #[.slice A n c] w (Drawn IsStats w) := by
  have Hcode := hide hcode
  clear hcode
  go_enter Try.func18, Try.ntmps18
  go_wp2_with fail
  refine (l6Open_any B A n c _ (Hcode.out.alloc _) hn hm (by simp; omega)).mono ?_
  rintro e w1 ⟨R, rfl, hR, hr, hb1⟩
  simp at hR
  have rZ : Row w1 (w.heap.size) _ := Row.below (by (repeat' (first | (with_reducible assumption) | (with_reducible exact Row.new _ _ _) | (with_reducible exact Row.new1 _ _ _ _) | (with_reducible exact Row.new2 _ _ _ _ _) | (with_reducible exact Row.new2' _ _ _ _ _) | ((with_reducible apply Row.mk) <;> (with_reducible assumption)) | (with_reducible apply Row.alloc) | (with_reducible apply Row.set) | (with_reducible apply Row.far) | (with_reducible apply Row.drew) | (with_reducible apply Row.drewN) | omega | (simp; done) | (simp; omega)))) hb1
  (try clear cZ fZ lZ)
  obtain ⟨cZ, fZ, lZ⟩ := rZ
  have hRl := hr.lt
  go_wp2_with fail
  refine (l92Stats_any B R 0 _ hr (by omega)).mono ?_
  rintro e w2 ⟨v, rfl, ⟨f, m, g, d, t, rfl⟩, hr2, hg2⟩
  have rZ : Row w2 (w.heap.size) _ := Row.grown (by (repeat' (first | (with_reducible assumption) | (with_reducible exact Row.new _ _ _) | (with_reducible exact Row.new1 _ _ _ _) | (with_reducible exact Row.new2 _ _ _ _ _) | (with_reducible exact Row.new2' _ _ _ _ _) | ((with_reducible apply Row.mk) <;> (with_reducible assumption)) | (with_reducible apply Row.alloc) | (with_reducible apply Row.set) | (with_reducible apply Row.far) | (with_reducible apply Row.drew) | (with_reducible apply Row.drewN) | omega | (simp; done) | (simp; omega)))) hg2 (by omega)
  (try clear cZ fZ lZ)
  obtain ⟨cZ, fZ, lZ⟩ := rZ
  go_wp2_with fail
  refine bodyPost_ret (by first | (simp (maxDischargeDepth := 3) [results, Try.results18, go_sem, *]; done) | (simp (maxDischargeDepth := 3) [results, Try.results18, go_sem, *]; rfl) | (simp (maxDischargeDepth := 7) [results, Try.results18, go_sem, *]; done) | (simp (maxDischargeDepth := 7) [results, Try.results18, go_sem, *]; rfl)) rfl ?_
  refine drawn_mk ⟨_, _, _, _, _, rfl⟩ ?_
  (repeat' (first | (with_reducible exact Below.refl _ _) | (with_reducible assumption) | (with_reducible refine Below.alloc ?_ ?_ _) | (with_reducible refine Below.setCell ?_ ?_ _) | (with_reducible refine Below.drew ?_) | (with_reducible refine below_step (by assumption) ?_ ?_) | (with_reducible refine below_gstep (by assumption) ?_ ?_ ?_) | omega | (simp; done) | (simp; omega)))
theorem drawStatsLost (B : Nat) (A : Option Addr) (n c : Nat) (w : World) (hcode : Code w B A n) (hn : n ≤ c) (hm : c ≤ 9223372036854775807) (hB : B ≤ w.heap.size) :
    Calls Try.prog 19 #[.slice A n c] w (Drawn IsStats w) := by
  have Hcode := hide hcode
  clear hcode
  go_enter Try.func19, Try.ntmps19
  go_wp2_with fail
  refine (l6Open_any B A n c _ (Hcode.out.alloc _) hn hm (by simp; omega)).mono ?_
  rintro e w1 ⟨R, rfl, hR, hr, hb1⟩
  simp at hR
  have rZ : Row w1 (w.heap.size) _ := Row.below (by (repeat' (first | (with_reducible assumption) | (with_reducible exact Row.new _ _ _) | (with_reducible exact Row.new1 _ _ _ _) | (with_reducible exact Row.new2 _ _ _ _ _) | (with_reducible exact Row.new2' _ _ _ _ _) | ((with_reducible apply Row.mk) <;> (with_reducible assumption)) | (with_reducible apply Row.alloc) | (with_reducible apply Row.set) | (with_reducible apply Row.far) | (with_reducible apply Row.drew) | (with_reducible apply Row.drewN) | omega | (simp; done) | (simp; omega)))) hb1
  (try clear cZ fZ lZ)
  obtain ⟨cZ, fZ, lZ⟩ := rZ
  have hRl := hr.lt
  go_wp2_with fail
  refine (l92Stats_any B R 0 _ hr (by omega)).mono ?_
  rintro e w2 ⟨v, rfl, ⟨f, m, g, d, t, rfl⟩, hr2, hg2⟩
  have rZ : Row w2 (w.heap.size) _ := Row.grown (by (repeat' (first | (with_reducible assumption) | (with_reducible exact Row.new _ _ _) | (with_reducible exact Row.new1 _ _ _ _) | (with_reducible exact Row.new2 _ _ _ _ _) | (with_reducible exact Row.new2' _ _ _ _ _) | ((with_reducible apply Row.mk) <;> (with_reducible assumption)) | (with_reducible apply Row.alloc) | (with_reducible apply Row.set) | (with_reducible apply Row.far) | (with_reducible apply Row.drew) | (with_reducible apply Row.drewN) | omega | (simp; done) | (simp; omega)))) hg2 (by omega)
  (try clear cZ fZ lZ)
  obtain ⟨cZ, fZ, lZ⟩ := rZ
  go_wp2_with fail
  refine bodyPost_ret (by first | (simp (maxDischargeDepth := 3) [results, Try.results19, go_sem, *]; done) | (simp (maxDischargeDepth := 3) [results, Try.results19, go_sem, *]; rfl) | (simp (maxDischargeDepth := 7) [results, Try.results19, go_sem, *]; done) | (simp (maxDischargeDepth := 7) [results, Try.results19, go_sem, *]; rfl)) rfl ?_
  refine drawn_mk ⟨_, _, _, _, _, rfl⟩ ?_
  (repeat' (first | (with_reducible exact Below.refl _ _) | (with_reducible assumption) | (with_reducible refine Below.alloc ?_ ?_ _) | (with_reducible refine Below.setCell ?_ ?_ _) | (with_reducible refine Below.drew ?_) | (with_reducible refine below_step (by assumption) ?_ ?_) | (with_reducible refine below_gstep (by assumption) ?_ ?_ ?_) | omega | (simp; done) | (simp; omega)))
def IsStats2 (v : Value) : Prop := ∃ f0 m0 g0 d0 t0 f m g d t : Int, v = .tuple #[.agg #[.int .i64 f0, .int .i64 m0, .int .i64 g0, .int .i64 d0, .int .i64 t0], .agg #[.int .i64 f, .int .i64 m, .int .i64 g, .int .i64 d, .int .i64 t]]
set_option maxHeartbeats 4000000 in
theorem drawStatsPart (B : Nat) (A : Option Addr) (n c : Nat) (w : World) (hcode : Code w B A n) (hn : n ≤ c) (hm : c ≤ 9223372036854775807) (hB : B ≤ w.heap.size) :
    Calls Try.prog 20 #[.slice A n c] w (Drawn IsStats2 w) := by
  have Hcode := hide hcode
  clear hcode
  go_enter Try.func20, Try.ntmps20
  go_wp2_with fail
  refine (l6Open_any B A n c _ ((Hcode.out.alloc _).alloc _) hn hm (by simp; omega)).mono ?_
  rintro e w1 ⟨R, rfl, hR, hr, hb1⟩
  simp at hR
  have rZ : Row w1 (w.heap.size) _ := Row.below (by (repeat' (first | (with_reducible assumption) | (with_reducible exact Row.new _ _ _) | (with_reducible exact Row.new1 _ _ _ _) | (with_reducible exact Row.new2 _ _ _ _ _) | (with_reducible exact Row.new2' _ _ _ _ _) | ((with_reducible apply Row.mk) <;> (with_reducible assumption)) | (with_reducible apply Row.alloc) | (with_reducible apply Row.set) | (with_reducible apply Row.far) | (with_reducible apply Row.drew) | (with_reducible apply Row.drewN) | omega | (simp; done) | (simp; omega)))) hb1
  have rY : Row w1 (w.heap.size + 1) _ := Row.below (by (repeat' (first | (with_reducible assumption) | (with_reducible exact Row.new _ _ _) | (with_reducible exact Row.new1 _ _ _ _) | (with_reducible exact Row.new2 _ _ _ _ _) | (with_reducible exact Row.new2' _ _ _ _ _) | ((with_reducible apply Row.mk) <;> (with_reducible assumption)) | (with_reducible apply Row.alloc) | (with_reducible apply Row.set) | (with_reducible apply Row.far) | (with_reducible apply Row.drew) | (with_reducible apply Row.drewN) | omega | (simp; done) | (simp; omega)))) hb1
  (try clear cZ fZ lZ)
  (try clear cY fY lY)
  obtain ⟨cZ, fZ, lZ⟩ := rZ
  obtain ⟨cY, fY, lY⟩ := rY
  have hG1 : Below w.heap.size w w1 := by (repeat' (first | (with_reducible exact Below.refl _ _) | (with_reducible assumption) | (with_reducible refine Below.alloc ?_ ?_ _) | (with_reducible refine Below.setCell ?_ ?_ _) | (with_reducible refine Below.drew ?_) | (with_reducible refine below_step (by assumption) ?_ ?_) | (with_reducible refine below_gstep (by assumption) ?_ ?_ ?_) | omega | (simp; done) | (simp; omega)))
  have lR := hr.lt
  clear hb1 Hcode
  go_wp2_with fail
  refine (l92Stats_any B R 0 _ hr (by omega)).mono ?_
  rintro e w2 ⟨v, rfl, ⟨f0, m0, g0, d0, t0, rfl⟩, hr2, hg2⟩
  have rZ : Row w2 (w.heap.size) _ := Row.grown (by (repeat' (first | (with_reducible assumption) | (with_reducible exact Row.new _ _ _) | (with_reducible exact Row.new1 _ _ _ _) | (with_reducible exact Row.new2 _ _ _ _ _) | (with_reducible exact Row.new2' _ _ _ _ _) | ((with_reducible apply Row.mk) <;> (with_reducible assumption)) | (with_reducible apply Row.alloc) | (with_reducible apply Row.set) | (with_reducible apply Row.far) | (with_reducible apply Row.drew) | (with_reducible apply Row.drewN) | omega | (simp; done) | (simp; omega)))) hg2 (by omega)
  have rY : Row w2 (w.heap.size + 1) _ := Row.grown (by (repeat' (first | (with_reducible assumption) | (with_reducible exact Row.new _ _ _) | (with_reducible exact Row.new1 _ _ _ _) | (with_reducible exact Row.new2 _ _ _ _ _) | (with_reducible exact Row.new2' _ _ _ _ _) | ((with_reducible apply Row.mk) <;> (with_reducible assumption)) | (with_reducible apply Row.alloc) | (with_reducible apply Row.set) | (with_reducible apply Row.far) | (with_reducible apply Row.drew) | (with_reducible apply Row.drewN) | omega | (simp; done) | (simp; omega)))) hg2 (by omega)
  (try clear cZ fZ lZ)
  (try clear cY fY lY)
  obtain ⟨cZ, fZ, lZ⟩ := rZ
  obtain ⟨cY, fY, lY⟩ := rY
  have hG2 : Below w.heap.size w w2 := by (repeat' (first | (with_reducible exact Below.refl _ _) | (with_reducible assumption) | (with_reducible refine Below.alloc ?_ ?_ _) | (with_reducible refine Below.setCell ?_ ?_ _) | (with_reducible refine Below.drew ?_) | (with_reducible refine below_step (by assumption) ?_ ?_) | (with_reducible refine below_gstep (by assumption) ?_ ?_ ?_) | omega | (simp; done) | (simp; omega)))
  have lR2 := hr2.lt
  clear hG1 hg2 hr
  go_wp2_with fail
  refine (pick_any B R _ _ _ ((hr2.alloc _).alloc _) (by omega) (by omega) (by omega)).mono ?_
  rintro e w3 ⟨q, rfl, hq0, hq1, hs3, hr3, hg3⟩
  have rZ : Row w3 (w.heap.size) _ := Row.grown (by (repeat' (first | (with_reducible assumption) | (with_reducible exact Row.new _ _ _) | (with_reducible exact Row.new1 _ _ _ _) | (with_reducible exact Row.new2 _ _ _ _ _) | (with_reducible exact Row.new2' _ _ _ _ _) | ((with_reducible apply Row.mk) <;> (with_reducible assumption)) | (with_reducible apply Row.alloc) | (with_reducible apply Row.set) | (with_reducible apply Row.far) | (with_reducible apply Row.drew) | (with_reducible apply Row.drewN) | omega | (simp; done) | (simp; omega)))) hg3 (by omega)
  have rY : Row w3 (w.heap.size + 1) _ := Row.grown (by (repeat' (first | (with_reducible assumption) | (with_reducible exact Row.new _ _ _) | (with_reducible exact Row.new1 _ _ _ _) | (with_reducible exact Row.new2 _ _ _ _ _) | (with_reducible exact Row.new2' _ _ _ _ _) | ((with_reducible apply Row.mk) <;> (with_reducible assumption)) | (with_reducible apply Row.alloc) | (with_reducible apply Row.set) | (with_reducible apply Row.far) | (with_reducible apply Row.drew) | (with_reducible apply Row.drewN) | omega | (simp; done) | (simp; omega)))) hg3 (by omega)
  have rO : Row w3 (w2.heap.size) _ := Row.grown (by (repeat' (first | (with_reducible assumption) | (with_reducible exact Row.new _ _ _) | (with_reducible exact Row.new1 _ _ _ _) | (with_reducible exact Row.new2 _ _ _ _ _) | (with_reducible exact Row.new2' _ _ _ _ _) | ((with_reducible apply Row.mk) <;> (with_reducible assumption)) | (with_reducible apply Row.alloc) | (with_reducible apply Row.set) | (with_reducible apply Row.far) | (with_reducible apply Row.drew) | (with_reducible apply Row.drewN) | omega | (simp; done) | (simp; omega)))) hg3 (by omega)
  have rS : Row w3 (w2.heap.size + 1) _ := Row.grown (by (repeat' (first | (with_reducible assumption) | (with_reducible exact Row.new _ _ _) | (with_reducible exact Row.new1 _ _ _ _) | (with_reducible exact Row.new2 _ _ _ _ _) | (with_reducible exact Row.new2' _ _ _ _ _) | ((with_reducible apply Row.mk) <;> (with_reducible assumption)) | (with_reducible apply Row.alloc) | (with_reducible apply Row.set) | (with_reducible apply Row.far) | (with_reducible apply Row.drew) | (with_reducible apply Row.drewN) | omega | (simp; done) | (simp; omega)))) hg3 (by omega)
  (try clear cZ fZ lZ)
  (try clear cY fY lY)
  (try clear cO fO lO)
  (try clear cS fS lS)
  obtain ⟨cZ, fZ, lZ⟩ := rZ
  obtain ⟨cY, fY, lY⟩ := rY
  obtain ⟨cO, fO, lO⟩ := rO
  obtain ⟨cS, fS, lS⟩ := rS
  have hG3 : Below w.heap.size w w3 := by (repeat' (first | (with_reducible exact Below.refl _ _) | (with_reducible assumption) | (with_reducible refine Below.alloc ?_ ?_ _) | (with_reducible refine Below.setCell ?_ ?_ _) | (with_reducible refine Below.drew ?_) | (with_reducible refine below_step (by assumption) ?_ ?_) | (with_reducible refine below_gstep (by assumption) ?_ ?_ ?_) | omega | (simp; done) | (simp; omega)))
  clear hG2 hg3 hr2 hs3
  obtain ⟨S, hS⟩ : ∃ S, w2.heap.size + 1 = S := ⟨_, rfl⟩
  obtain ⟨O, hO⟩ : ∃ O, w2.heap.size = O := ⟨_, rfl⟩
  obtain ⟨Z, hZ⟩ : ∃ Z, w.heap.size = Z := ⟨_, rfl⟩
  obtain ⟨Y, hY⟩ : ∃ Y, w.heap.size + 1 = Y := ⟨_, rfl⟩
  have d1 : Z < Y ∧ Y < R ∧ R < O ∧ O < S := by omega
  have d2 : w.heap.size ≤ Z ∧ w.heap.size ≤ Y ∧ w.heap.size ≤ O ∧ w.heap.size ≤ S ∧ w.heap.size ≤ R := by omega
  obtain ⟨d1, d3, d4, d5⟩ := d1
  obtain ⟨d2, d6, d7, d8, d9⟩ := d2
  rw [hS] at cS fS lS
  rw [hO] at cO fO lO
  rw [hY] at cY fY lY
  rw [hZ] at cZ fZ lZ
  rw [hS, hO, hY, hZ]
  clear hS hO hZ hY lR2 lR hR
  go_wp2_with fail
  go_loopw [8, 9] (fun wd i wr => ∃ (k : Nat) (W : Int) (f m g d t : Int), wd = .int .i64 W ∧ i = .int .i64 k ∧ (k : Int) ≤ q ∧ Rd wr B R (101 + 3 * k) ∧ Row wr S #[.int .i64 f, .int .i64 m, .int .i64 g, .int .i64 d, .int .i64 t] ∧ Row wr O #[.int .i64 f0, .int .i64 m0, .int .i64 g0, .int .i64 d0, .int .i64 t0] ∧ Row wr Z #[.int .i64 0, .int .i64 0, .int .i64 0, .int .i64 0, .int .i64 0] ∧ Row wr Y #[.int .i64 0, .int .i64 0, .int .i64 0, .int .i64 0, .int .i64 0] ∧ Below w.heap.size w wr) (fun _ i _ => (q - intOf i).toNat)
  case atStart => exact ⟨0, _, _, _, _, _, _, rfl, rfl, by omega, hr3, ⟨cS, fS, lS⟩, ⟨cO, fO, lO⟩, ⟨cZ, fZ, lZ⟩, ⟨cY, fY, lY⟩, hG3⟩
  case round =>
    obtain ⟨k, W, f, m, g, d, t, rfl, rfl, hk, hrr, rS, rO, rZ, rY, hGr⟩ := hrel
    clear cS fS lS cZ fZ lZ cO fO lO cY fY lY hr3 hG3
    obtain ⟨cS, fS, lS⟩ := rS
    obtain ⟨cO, fO, lO⟩ := rO
    obtain ⟨cZ, fZ, lZ⟩ := rZ
    obtain ⟨cY, fY, lY⟩ := rY
    have lRr := hrr.lt
    by_cases hkn : (k : Int) < q
    · go_wp2_with fail
      refine (pick_any B R _ _ _ hrr (by omega) (by omega) (by omega)).mono ?_
      rintro e w5 ⟨y1, rfl, hy0, hy1, hs5, hr5, hg5⟩
      have rZ : Row w5 (Z) _ := Row.grown (by (repeat' (first | (with_reducible assumption) | (with_reducible exact Row.new _ _ _) | (with_reducible exact Row.new1 _ _ _ _) | (with_reducible exact Row.new2 _ _ _ _ _) | (with_reducible exact Row.new2' _ _ _ _ _) | ((with_reducible apply Row.mk) <;> (with_reducible assumption)) | (with_reducible apply Row.alloc) | (with_reducible apply Row.set) | (with_reducible apply Row.far) | (with_reducible apply Row.drew) | (with_reducible apply Row.drewN) | omega | (simp; done) | (simp; omega)))) hg5 (by omega)
      have rS : Row w5 (S) _ := Row.grown (by (repeat' (first | (with_reducible assumption) | (with_reducible exact Row.new _ _ _) | (with_reducible exact Row.new1 _ _ _ _) | (with_reducible exact Row.new2 _ _ _ _ _) | (with_reducible exact Row.new2' _ _ _ _ _) | ((with_reducible apply Row.mk) <;> (with_reducible assumption)) | (with_reducible apply Row.alloc) | (with_reducible apply Row.set) | (with_reducible apply Row.far) | (with_reducible apply Row.drew) | (with_reducible apply Row.drewN) | omega | (simp; done) | (simp; omega)))) hg5 (by omega)
      have rY : Row w5 (Y) _ := Row.grown (by (repeat' (first | (with_reducible assumption) | (with_reducible exact Row.new _ _ _) | (with_reducible exact Row.new1 _ _ _ _) | (with_reducible exact Row.new2 _ _ _ _ _) | (with_reducible exact Row.new2' _ _ _ _ _) | ((with_reducible apply Row.mk) <;> (with_reducible assumption)) | (with_reducible apply Row.alloc) | (with_reducible apply Row.set) | (with_reducible apply Row.far) | (with_reducible apply Row.drew) | (with_reducible apply Row.drewN) | omega | (simp; done) | (simp; omega)))) hg5 (by omega)
      have rO : Row w5 (O) _ := Row.grown (by (repeat' (first | (with_reducible assumption) | (with_reducible exact Row.new _ _ _) | (with_reducible exact Row.new1 _ _ _ _) | (with_reducible exact Row.new2 _ _ _ _ _) | (with_reducible exact Row.new2' _ _ _ _ _) | ((with_reducible apply Row.mk) <;> (with_reducible assumption)) | (with_reducible apply Row.alloc) | (with_reducible apply Row.set) | (with_reducible apply Row.far) | (with_reducible apply Row.drew) | (with_reducible apply Row.drewN) | omega | (simp; done) | (simp; omega)))) hg5 (by omega)
      (try clear cZ fZ lZ)
      (try clear cS fS lS)
      (try clear cY fY lY)
      (try clear cO fO lO)
      obtain ⟨cZ, fZ, lZ⟩ := rZ
      obtain ⟨cS, fS, lS⟩ := rS
      obtain ⟨cY, fY, lY⟩ := rY
      obtain ⟨cO, fO, lO⟩ := rO
      have hG5 : Below w.heap.size w w5 := by (repeat' (first | (with_reducible exact Below.refl _ _) | (with_reducible assumption) | (with_reducible refine Below.alloc ?_ ?_ _) | (with_reducible refine Below.setCell ?_ ?_ _) | (with_reducible refine Below.drew ?_) | (with_reducible refine below_step (by assumption) ?_ ?_) | (with_reducible refine below_gstep (by assumption) ?_ ?_ ?_) | omega | (simp; done) | (simp; omega)))
      clear hs5 hg5 hGr
      go_wp2_with fail
      refine (pick_any B R _ _ _ hr5 (by omega) (by omega) (by omega)).mono ?_
      rintro e w7 ⟨y2, rfl, hy20, hy21, hs7, hr7, hg7⟩
      have rZ : Row w7 (Z) _ := Row.grown (by (repeat' (first | (with_reducible assumption) | (with_reducible exact Row.new _ _ _) | (with_reducible exact Row.new1 _ _ _ _) | (with_reducible exact Row.new2 _ _ _ _ _) | (with_reducible exact Row.new2' _ _ _ _ _) | ((with_reducible apply Row.mk) <;> (with_reducible assumption)) | (with_reducible apply Row.alloc) | (with_reducible apply Row.set) | (with_reducible apply Row.far) | (with_reducible apply Row.drew) | (with_reducible apply Row.drewN) | omega | (simp; done) | (simp; omega)))) hg7 (by omega)
      have rS : Row w7 (S) _ := Row.grown (by (repeat' (first | (with_reducible assumption) | (with_reducible exact Row.new _ _ _) | (with_reducible exact Row.new1 _ _ _ _) | (with_reducible exact Row.new2 _ _ _ _ _) | (with_reducible exact Row.new2' _ _ _ _ _) | ((with_reducible apply Row.mk) <;> (with_reducible assumption)) | (with_reducible apply Row.alloc) | (with_reducible apply Row.set) | (with_reducible apply Row.far) | (with_reducible apply Row.drew) | (with_reducible apply Row.drewN) | omega | (simp; done) | (simp; omega)))) hg7 (by omega)
      have rY : Row w7 (Y) _ := Row.grown (by (repeat' (first | (with_reducible assumption) | (with_reducible exact Row.new _ _ _) | (with_reducible exact Row.new1 _ _ _ _) | (with_reducible exact Row.new2 _ _ _ _ _) | (with_reducible exact Row.new2' _ _ _ _ _) | ((with_reducible apply Row.mk) <;> (with_reducible assumption)) | (with_reducible apply Row.alloc) | (with_reducible apply Row.set) | (with_reducible apply Row.far) | (with_reducible apply Row.drew) | (with_reducible apply Row.drewN) | omega | (simp; done) | (simp; omega)))) hg7 (by omega)
      have rO : Row w7 (O) _ := Row.grown (by (repeat' (first | (with_reducible assumption) | (with_reducible exact Row.new _ _ _) | (with_reducible exact Row.new1 _ _ _ _) | (with_reducible exact Row.new2 _ _ _ _ _) | (with_reducible exact Row.new2' _ _ _ _ _) | ((with_reducible apply Row.mk) <;> (with_reducible assumption)) | (with_reducible apply Row.alloc) | (with_reducible apply Row.set) | (with_reducible apply Row.far) | (with_reducible apply Row.drew) | (with_reducible apply Row.drewN) | omega | (simp; done) | (simp; omega)))) hg7 (by omega)
      (try clear cZ fZ lZ)
      (try clear cS fS lS)
      (try clear cY fY lY)
      (try clear cO fO lO)
      obtain ⟨cZ, fZ, lZ⟩ := rZ
      obtain ⟨cS, fS, lS⟩ := rS
      obtain ⟨cY, fY, lY⟩ := rY
      obtain ⟨cO, fO, lO⟩ := rO
      have hG7 : Below w.heap.size w w7 := by (repeat' (first | (with_reducible exact Below.refl _ _) | (with_reducible assumption) | (with_reducible refine Below.alloc ?_ ?_ _) | (with_reducible refine Below.setCell ?_ ?_ _) | (with_reducible refine Below.drew ?_) | (with_reducible refine below_step (by assumption) ?_ ?_) | (with_reducible refine below_gstep (by assumption) ?_ ?_ ?_) | omega | (simp; done) | (simp; omega)))
      clear hg7 hs7 hr5 hrr hG5
      go_upto_region 10 with (fail)
      go_cut [10, 11] (fun p q wx => ∃ (X : Nat) (f' m' g' d' t' : Int) (b' : Bool), p = .pointer (some ⟨X, 0, none⟩) ∧ q = .bool b' ∧ Rd wx B R (101 + 3 * k + 3) ∧ Row wx X #[.int .i64 f', .int .i64 m', .int .i64 g', .int .i64 d', .int .i64 t'] ∧ Row wx S #[.int .i64 f, .int .i64 m, .int .i64 g, .int .i64 d, .int .i64 t] ∧ Row wx O #[.int .i64 f0, .int .i64 m0, .int .i64 g0, .int .i64 d0, .int .i64 t0] ∧ Row wx Z #[.int .i64 0, .int .i64 0, .int .i64 0, .int .i64 0, .int .i64 0] ∧ Row wx Y #[.int .i64 0, .int .i64 0, .int .i64 0, .int .i64 0, .int .i64 0] ∧ Below w.heap.size w wx)
      case first =>
        have lR := hr7.lt
        go_region_held3 (fun w' => ∀ o, w'.cell? ⟨S, o, none⟩ = #[Value.int .i64 f, .int .i64 m, .int .i64 g, .int .i64 d, .int .i64 t][o]?) (first | (with_reducible assumption) | (intro o; simp [go_sem, *]; done) | go_keep) (first | (go_at_call 25; refine (pick_from hr7 ?_ ?_ ?_ ?_).mono ?_; (focus (repeat' (first | (with_reducible exact RExt.refl _ _) | (with_reducible refine RExt.alloc ?_ _) | (with_reducible refine RExt.setCell ?_ ?_ _) | (with_reducible refine RExt.drew ?_) | (with_reducible refine RExt.drewN ?_ _) | (with_reducible refine RExt.below ?_ (by assumption)) | omega | (simp; done) | (simp; omega)))); omega; omega; omega; rintro e w8 ⟨z, rfl, hz0, hz1, hs8, hr8, hg8⟩; have rS : Row w8 S _ := Row.grown (by (repeat' (first | (with_reducible assumption) | (with_reducible exact Row.new _ _ _) | (with_reducible exact Row.new1 _ _ _ _) | (with_reducible exact Row.new2 _ _ _ _ _) | (with_reducible exact Row.new2' _ _ _ _ _) | ((with_reducible apply Row.mk) <;> (with_reducible assumption)) | (with_reducible apply Row.alloc) | (with_reducible apply Row.set) | (with_reducible apply Row.far) | (with_reducible apply Row.drew) | (with_reducible apply Row.drewN) | omega | (simp; done) | (simp; omega)))) hg8 (by omega); have rZ : Row w8 Z _ := Row.grown (by (repeat' (first | (with_reducible assumption) | (with_reducible exact Row.new _ _ _) | (with_reducible exact Row.new1 _ _ _ _) | (with_reducible exact Row.new2 _ _ _ _ _) | (with_reducible exact Row.new2' _ _ _ _ _) | ((with_reducible apply Row.mk) <;> (with_reducible assumption)) | (with_reducible apply Row.alloc) | (with_reducible apply Row.set) | (with_reducible apply Row.far) | (with_reducible apply Row.drew) | (with_reducible apply Row.drewN) | omega | (simp; done) | (simp; omega)))) hg8 (by omega); have rO : Row w8 O _ := Row.grown (by (repeat' (first | (with_reducible assumption) | (with_reducible exact Row.new _ _ _) | (with_reducible exact Row.new1 _ _ _ _) | (with_reducible exact Row.new2 _ _ _ _ _) | (with_reducible exact Row.new2' _ _ _ _ _) | ((with_reducible apply Row.mk) <;> (with_reducible assumption)) | (with_reducible apply Row.alloc) | (with_reducible apply Row.set) | (with_reducible apply Row.far) | (with_reducible apply Row.drew) | (with_reducible apply Row.drewN) | omega | (simp; done) | (simp; omega)))) hg8 (by omega); have rY : Row w8 Y _ := Row.grown (by (repeat' (first | (with_reducible assumption) | (with_reducible exact Row.new _ _ _) | (with_reducible exact Row.new1 _ _ _ _) | (with_reducible exact Row.new2 _ _ _ _ _) | (with_reducible exact Row.new2' _ _ _ _ _) | ((with_reducible apply Row.mk) <;> (with_reducible assumption)) | (with_reducible apply Row.alloc) | (with_reducible apply Row.set) | (with_reducible apply Row.far) | (with_reducible apply Row.drew) | (with_reducible apply Row.drewN) | omega | (simp; done) | (simp; omega)))) hg8 (by omega); (try (have rX : Row w8 w7.heap.size _ := Row.grown (Row.new _ _ _) hg8 (by omega); obtain ⟨cX, fX, lX⟩ := rX)); (try (have rX : Row w8 w7.heap.size _ := Row.grown (Row.drew (Row.new _ _ _)) hg8 (by omega); obtain ⟨cX, fX, lX⟩ := rX)); have hr := hr8; clear hs8; have hG8 : Below w.heap.size w w8 := (by (repeat' (first | (with_reducible exact Below.refl _ _) | (with_reducible assumption) | (with_reducible refine Below.alloc ?_ ?_ _) | (with_reducible refine Below.setCell ?_ ?_ _) | (with_reducible refine Below.drew ?_) | (with_reducible refine below_step (by assumption) ?_ ?_) | (with_reducible refine below_gstep (by assumption) ?_ ?_ ?_) | omega | (simp; done) | (simp; omega)))); obtain ⟨cS, fS, lS⟩ := rS; obtain ⟨cZ, fZ, lZ⟩ := rZ; obtain ⟨cO, fO, lO⟩ := rO; obtain ⟨cY, fY, lY⟩ := rY) | (go_at_call 26; refine (put_some _ _ _ _ _ _ _ _ _).mono ?_; rintro e w9 ⟨v, rfl, ⟨f', m', g', d', t', b', rfl⟩, hb9⟩; have rS : Row w9 S _ := Row.below (by (repeat' (first | (with_reducible assumption) | (with_reducible exact Row.new _ _ _) | (with_reducible exact Row.new1 _ _ _ _) | (with_reducible exact Row.new2 _ _ _ _ _) | (with_reducible exact Row.new2' _ _ _ _ _) | ((with_reducible apply Row.mk) <;> (with_reducible assumption)) | (with_reducible apply Row.alloc) | (with_reducible apply Row.set) | (with_reducible apply Row.far) | (with_reducible apply Row.drew) | (with_reducible apply Row.drewN) | omega | (simp; done) | (simp; omega)))) hb9; have rZ : Row w9 Z _ := Row.below (by (repeat' (first | (with_reducible assumption) | (with_reducible exact Row.new _ _ _) | (with_reducible exact Row.new1 _ _ _ _) | (with_reducible exact Row.new2 _ _ _ _ _) | (with_reducible exact Row.new2' _ _ _ _ _) | ((with_reducible apply Row.mk) <;> (with_reducible assumption)) | (with_reducible apply Row.alloc) | (with_reducible apply Row.set) | (with_reducible apply Row.far) | (with_reducible apply Row.drew) | (with_reducible apply Row.drewN) | omega | (simp; done) | (simp; omega)))) hb9; have rO : Row w9 O _ := Row.below (by (repeat' (first | (with_reducible assumption) | (with_reducible exact Row.new _ _ _) | (with_reducible exact Row.new1 _ _ _ _) | (with_reducible exact Row.new2 _ _ _ _ _) | (with_reducible exact Row.new2' _ _ _ _ _) | ((with_reducible apply Row.mk) <;> (with_reducible assumption)) | (with_reducible apply Row.alloc) | (with_reducible apply Row.set) | (with_reducible apply Row.far) | (with_reducible apply Row.drew) | (with_reducible apply Row.drewN) | omega | (simp; done) | (simp; omega)))) hb9; have rY : Row w9 Y _ := Row.below (by (repeat' (first | (with_reducible assumption) | (with_reducible exact Row.new _ _ _) | (with_reducible exact Row.new1 _ _ _ _) | (with_reducible exact Row.new2 _ _ _ _ _) | (with_reducible exact Row.new2' _ _ _ _ _) | ((with_reducible apply Row.mk) <;> (with_reducible assumption)) | (with_reducible apply Row.alloc) | (with_reducible apply Row.set) | (with_reducible apply Row.far) | (with_reducible apply Row.drew) | (with_reducible apply Row.drewN) | omega | (simp; done) | (simp; omega)))) hb9; (try (have rX : Row w9 w8.heap.size _ := Row.below (Row.new _ _ _) hb9; obtain ⟨cX, fX, lX⟩ := rX)); (try (have rX : Row w9 w7.heap.size _ := Row.below (by (repeat' (first | (with_reducible assumption) | (with_reducible exact Row.new _ _ _) | (with_reducible exact Row.new1 _ _ _ _) | (with_reducible exact Row.new2 _ _ _ _ _) | (with_reducible exact Row.new2' _ _ _ _ _) | ((with_reducible apply Row.mk) <;> (with_reducible assumption)) | (with_reducible apply Row.alloc) | (with_reducible apply Row.set) | (with_reducible apply Row.far) | (with_reducible apply Row.drew) | (with_reducible apply Row.drewN) | omega | (simp; done) | (simp; omega)))) hb9; obtain ⟨cX, fX, lX⟩ := rX)); have hr9 : Rd w9 B R (101 + 3 * k + 3) := (by ((refine Rd.more (RExt.rd (w := _) ?_ hr) ?_); (focus (repeat' (first | (with_reducible exact RExt.refl _ _) | (with_reducible refine RExt.alloc ?_ _) | (with_reducible refine RExt.setCell ?_ ?_ _) | (with_reducible refine RExt.drew ?_) | (with_reducible refine RExt.drewN ?_ _) | (with_reducible refine RExt.below ?_ (by assumption)) | omega | (simp; done) | (simp; omega)))); omega)); clear hr; have hr := hr9; have hG9 : Below w.heap.size w w9 := (by (repeat' (first | (with_reducible exact Below.refl _ _) | (with_reducible assumption) | (with_reducible refine Below.alloc ?_ ?_ _) | (with_reducible refine Below.setCell ?_ ?_ _) | (with_reducible refine Below.drew ?_) | (with_reducible refine below_step (by assumption) ?_ ?_) | (with_reducible refine below_gstep (by assumption) ?_ ?_ ?_) | omega | (simp; done) | (simp; omega)))); obtain ⟨cS, fS, lS⟩ := rS; obtain ⟨cZ, fZ, lZ⟩ := rZ; obtain ⟨cO, fO, lO⟩ := rO; obtain ⟨cY, fY, lY⟩ := rY))
        all_goals
          go_wp2_with (fail)
          go_meet
          refine ⟨_, _, _, _, _, _, _, rfl, rfl, (show Rd _ B R _ from ?_), Row.conv (by (repeat' (first | (with_reducible assumption) | (with_reducible exact Row.new _ _ _) | (with_reducible exact Row.new1 _ _ _ _) | (with_reducible exact Row.new2 _ _ _ _ _) | (with_reducible exact Row.new2' _ _ _ _ _) | ((with_reducible apply Row.mk) <;> (with_reducible assumption)) | (with_reducible apply Row.alloc) | (with_reducible apply Row.set) | (with_reducible apply Row.far) | (with_reducible apply Row.drew) | (with_reducible apply Row.drewN) | omega | (simp; done) | (simp; omega)))) (by first | (simp; done) | (simp; exact ⟨rfl, rfl, rfl, rfl, rfl⟩)), Row.conv (by (repeat' (first | (with_reducible assumption) | (with_reducible exact Row.new _ _ _) | (with_reducible exact Row.new1 _ _ _ _) | (with_reducible exact Row.new2 _ _ _ _ _) | (with_reducible exact Row.new2' _ _ _ _ _) | ((with_reducible apply Row.mk) <;> (with_reducible assumption)) | (with_reducible apply Row.alloc) | (with_reducible apply Row.set) | (with_reducible apply Row.far) | (with_reducible apply Row.drew) | (with_reducible apply Row.drewN) | omega | (simp; done) | (simp; omega)))) (by simp), Row.conv (by (repeat' (first | (with_reducible assumption) | (with_reducible exact Row.new _ _ _) | (with_reducible exact Row.new1 _ _ _ _) | (with_reducible exact Row.new2 _ _ _ _ _) | (with_reducible exact Row.new2' _ _ _ _ _) | ((with_reducible apply Row.mk) <;> (with_reducible assumption)) | (with_reducible apply Row.alloc) | (with_reducible apply Row.set) | (with_reducible apply Row.far) | (with_reducible apply Row.drew) | (with_reducible apply Row.drewN) | omega | (simp; done) | (simp; omega)))) (by simp), Row.conv (by (repeat' (first | (with_reducible assumption) | (with_reducible exact Row.new _ _ _) | (with_reducible exact Row.new1 _ _ _ _) | (with_reducible exact Row.new2 _ _ _ _ _) | (with_reducible exact Row.new2' _ _ _ _ _) | ((with_reducible apply Row.mk) <;> (with_reducible assumption)) | (with_reducible apply Row.alloc) | (with_reducible apply Row.set) | (with_reducible apply Row.far) | (with_reducible apply Row.drew) | (with_reducible apply Row.drewN) | omega | (simp; done) | (simp; omega)))) (by simp), Row.conv (by (repeat' (first | (with_reducible assumption) | (with_reducible exact Row.new _ _ _) | (with_reducible exact Row.new1 _ _ _ _) | (with_reducible exact Row.new2 _ _ _ _ _) | (with_reducible exact Row.new2' _ _ _ _ _) | ((with_reducible apply Row.mk) <;> (with_reducible assumption)) | (with_reducible apply Row.alloc) | (with_reducible apply Row.set) | (with_reducible apply Row.far) | (with_reducible apply Row.drew) | (with_reducible apply Row.drewN) | omega | (simp; done) | (simp; omega)))) (by simp), ?_⟩
          · ((refine Rd.more (RExt.rd (w := _) ?_ hr) ?_); (focus (repeat' (first | (with_reducible exact RExt.refl _ _) | (with_reducible refine RExt.alloc ?_ _) | (with_reducible refine RExt.setCell ?_ ?_ _) | (with_reducible refine RExt.drew ?_) | (with_reducible refine RExt.drewN ?_ _) | (with_reducible refine RExt.below ?_ (by assumption)) | omega | (simp; done) | (simp; omega)))); omega)
          · (repeat' (first | (with_reducible exact Below.refl _ _) | (with_reducible assumption) | (with_reducible refine Below.alloc ?_ ?_ _) | (with_reducible refine Below.setCell ?_ ?_ _) | (with_reducible refine Below.drew ?_) | (with_reducible refine below_step (by assumption) ?_ ?_) | (with_reducible refine below_gstep (by assumption) ?_ ?_ ?_) | omega | (simp; done) | (simp; omega)))
      case rest =>
        obtain ⟨X, f', m', g', d', t', b', rfl, rfl, hr8, rX, rS, rO, rZ, rY, hG8⟩ := hcut
        clear cS fS lS cZ fZ lZ hr7 hG7 cO fO lO cY fY lY
        obtain ⟨cX, fX, lX⟩ := rX
        obtain ⟨cS, fS, lS⟩ := rS
        obtain ⟨cO, fO, lO⟩ := rO
        obtain ⟨cZ, fZ, lZ⟩ := rZ
        obtain ⟨cY, fY, lY⟩ := rY
        have hr := hr8
        go_wp2_with fail
        all_goals
          go_roundw
          case rel =>
            refine ⟨k + 1, _, _, _, _, _, _, rfl, by go_num, by omega, (show Rd _ B R _ from ?_), Row.conv (by (repeat' (first | (with_reducible assumption) | (with_reducible exact Row.new _ _ _) | (with_reducible exact Row.new1 _ _ _ _) | (with_reducible exact Row.new2 _ _ _ _ _) | (with_reducible exact Row.new2' _ _ _ _ _) | ((with_reducible apply Row.mk) <;> (with_reducible assumption)) | (with_reducible apply Row.alloc) | (with_reducible apply Row.set) | (with_reducible apply Row.far) | (with_reducible apply Row.drew) | (with_reducible apply Row.drewN) | omega | (simp; done) | (simp; omega)))) (by first | (simp; done) | (simp; exact ⟨rfl, rfl, rfl, rfl, rfl⟩)), Row.conv (by (repeat' (first | (with_reducible assumption) | (with_reducible exact Row.new _ _ _) | (with_reducible exact Row.new1 _ _ _ _) | (with_reducible exact Row.new2 _ _ _ _ _) | (with_reducible exact Row.new2' _ _ _ _ _) | ((with_reducible apply Row.mk) <;> (with_reducible assumption)) | (with_reducible apply Row.alloc) | (with_reducible apply Row.set) | (with_reducible apply Row.far) | (with_reducible apply Row.drew) | (with_reducible apply Row.drewN) | omega | (simp; done) | (simp; omega)))) (by simp), Row.conv (by (repeat' (first | (with_reducible assumption) | (with_reducible exact Row.new _ _ _) | (with_reducible exact Row.new1 _ _ _ _) | (with_reducible exact Row.new2 _ _ _ _ _) | (with_reducible exact Row.new2' _ _ _ _ _) | ((with_reducible apply Row.mk) <;> (with_reducible assumption)) | (with_reducible apply Row.alloc) | (with_reducible apply Row.set) | (with_reducible apply Row.far) | (with_reducible apply Row.drew) | (with_reducible apply Row.drewN) | omega | (simp; done) | (simp; omega)))) (by simp), Row.conv (by (repeat' (first | (with_reducible assumption) | (with_reducible exact Row.new _ _ _) | (with_reducible exact Row.new1 _ _ _ _) | (with_reducible exact Row.new2 _ _ _ _ _) | (with_reducible exact Row.new2' _ _ _ _ _) | ((with_reducible apply Row.mk) <;> (with_reducible assumption)) | (with_reducible apply Row.alloc) | (with_reducible apply Row.set) | (with_reducible apply Row.far) | (with_reducible apply Row.drew) | (with_reducible apply Row.drewN) | omega | (simp; done) | (simp; omega)))) (by simp), ?_⟩
            · ((refine Rd.more (RExt.rd (w := _) ?_ hr) ?_); (focus (repeat' (first | (with_reducible exact RExt.refl _ _) | (with_reducible refine RExt.alloc ?_ _) | (with_reducible refine RExt.setCell ?_ ?_ _) | (with_reducible refine RExt.drew ?_) | (with_reducible refine RExt.drewN ?_ _) | (with_reducible refine RExt.below ?_ (by assumption)) | omega | (simp; done) | (simp; omega)))); omega)
            · (repeat' (first | (with_reducible exact Below.refl _ _) | (with_reducible assumption) | (with_reducible refine Below.alloc ?_ ?_ _) | (with_reducible refine Below.setCell ?_ ?_ _) | (with_reducible refine Below.drew ?_) | (with_reducible refine below_step (by assumption) ?_ ?_) | (with_reducible refine below_gstep (by assumption) ?_ ?_ ?_) | omega | (simp; done) | (simp; omega)))
          case measure => simp [intOf]; omega
    · go_wp2_with fail
      refine (pick_any B R _ _ _ hrr (by omega) (by omega) (by omega)).mono ?_
      rintro e w5 ⟨y1, rfl, hy0, hy1, hs5, hr5, hg5⟩
      have rZ : Row w5 (Z) _ := Row.grown (by (repeat' (first | (with_reducible assumption) | (with_reducible exact Row.new _ _ _) | (with_reducible exact Row.new1 _ _ _ _) | (with_reducible exact Row.new2 _ _ _ _ _) | (with_reducible exact Row.new2' _ _ _ _ _) | ((with_reducible apply Row.mk) <;> (with_reducible assumption)) | (with_reducible apply Row.alloc) | (with_reducible apply Row.set) | (with_reducible apply Row.far) | (with_reducible apply Row.drew) | (with_reducible apply Row.drewN) | omega | (simp; done) | (simp; omega)))) hg5 (by omega)
      have rS : Row w5 (S) _ := Row.grown (by (repeat' (first | (with_reducible assumption) | (with_reducible exact Row.new _ _ _) | (with_reducible exact Row.new1 _ _ _ _) | (with_reducible exact Row.new2 _ _ _ _ _) | (with_reducible exact Row.new2' _ _ _ _ _) | ((with_reducible apply Row.mk) <;> (with_reducible assumption)) | (with_reducible apply Row.alloc) | (with_reducible apply Row.set) | (with_reducible apply Row.far) | (with_reducible apply Row.drew) | (with_reducible apply Row.drewN) | omega | (simp; done) | (simp; omega)))) hg5 (by omega)
      have rY : Row w5 (Y) _ := Row.grown (by (repeat' (first | (with_reducible assumption) | (with_reducible exact Row.new _ _ _) | (with_reducible exact Row.new1 _ _ _ _) | (with_reducible exact Row.new2 _ _ _ _ _) | (with_reducible exact Row.new2' _ _ _ _ _) | ((with_reducible apply Row.mk) <;> (with_reducible assumption)) | (with_reducible apply Row.alloc) | (with_reducible apply Row.set) | (with_reducible apply Row.far) | (with_reducible apply Row.drew) | (with_reducible apply Row.drewN) | omega | (simp; done) | (simp; omega)))) hg5 (by omega)
      have rO : Row w5 (O) _ := Row.grown (by (repeat' (first | (with_reducible assumption) | (with_reducible exact Row.new _ _ _) | (with_reducible exact Row.new1 _ _ _ _) | (with_reducible exact Row.new2 _ _ _ _ _) | (with_reducible exact Row.new2' _ _ _ _ _) | ((with_reducible apply Row.mk) <;> (with_reducible assumption)) | (with_reducible apply Row.alloc) | (with_reducible apply Row.set) | (with_reducible apply Row.far) | (with_reducible apply Row.drew) | (with_reducible apply Row.drewN) | omega | (simp; done) | (simp; omega)))) hg5 (by omega)
      (try clear cZ fZ lZ)
      (try clear cS fS lS)
      (try clear cY fY lY)
      (try clear cO fO lO)
      obtain ⟨cZ, fZ, lZ⟩ := rZ
      obtain ⟨cS, fS, lS⟩ := rS
      obtain ⟨cY, fY, lY⟩ := rY
      obtain ⟨cO, fO, lO⟩ := rO
      have hG5 : Below w.heap.size w w5 := by (repeat' (first | (with_reducible exact Below.refl _ _) | (with_reducible assumption) | (with_reducible refine Below.alloc ?_ ?_ _) | (with_reducible refine Below.setCell ?_ ?_ _) | (with_reducible refine Below.drew ?_) | (with_reducible refine below_step (by assumption) ?_ ?_) | (with_reducible refine below_gstep (by assumption) ?_ ?_ ?_) | omega | (simp; done) | (simp; omega)))
      clear hs5 hg5 hGr hrr hr5
      have z1 : ¬ Z = Y := by omega
      have z2 : ¬ Y = Z := by omega
      have z3 : ¬ O = Y := by omega
      have z4 : ¬ O = Z := by omega
      have z5 : ¬ S = Y := by omega
      have z6 : ¬ S = Z := by omega
      have z7 : ¬ Z = O := by omega
      have z8 : ¬ Y = O := by omega
      have z9 : ¬ Z = S := by omega
      have z0 : ¬ Y = S := by omega
      go_wp2_with fail
      all_goals
        go_region
        go_wp2
        refine bodyPost_ret (by first | (simp (maxDischargeDepth := 3) [results, Try.results20, go_sem, *]; done) | (simp (maxDischargeDepth := 3) [results, Try.results20, go_sem, *]; rfl) | (simp (maxDischargeDepth := 7) [results, Try.results20, go_sem, *]; done) | (simp (maxDischargeDepth := 7) [results, Try.results20, go_sem, *]; rfl)) rfl ?_
        refine drawn_mk ⟨_, _, _, _, _, _, _, _, _, _, rfl⟩ ?_
        (repeat' (first | (with_reducible exact Below.refl _ _) | (with_reducible assumption) | (with_reducible refine Below.alloc ?_ ?_ _) | (with_reducible refine Below.setCell ?_ ?_ _) | (with_reducible refine Below.drew ?_) | (with_reducible refine below_step (by assumption) ?_ ?_) | (with_reducible refine below_gstep (by assumption) ?_ ?_ ?_) | omega | (simp; done) | (simp; omega)))
end Go.Proofs.Ytcfcnefhjdoceaa
