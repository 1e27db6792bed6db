/- What l92Stats draws from a code. -/
import Derived.Test.YtcfcnefhjdoceaaS3
import Derived.Test.YtcfcnefhjdoceaaRW
namespace Go.Proofs.Ytcfcnefhjdoceaa
open Go.ChangeShapes Go.WideShapes Go.ChangeAt Go.RowKit

theorem put_some (f m g d t a b c : Int) (w : World) : Calls Try.prog 26 #[.agg #[.int .i64 f, .int .i64 m, .int .i64 g, .int .i64 d, .int .i64 t], .int .i64 a, .int .i64 b, .int .i64 c] w (Drawn IsPut w) := by
  by_cases h1 : statsB f m g d t = true
  · by_cases h2 : okB a b c = true
    · by_cases h3 : f ≤ a
      · exact statsPut_yes f m g d t a b c w h1 h2 h3
      · exact statsPut_no f m g d t a b c w (.inr (.inr ⟨h1, h2, by omega⟩))
    · exact statsPut_no f m g d t a b c w (.inr (.inl ⟨h1, by simpa using h2⟩))
  · exact statsPut_no f m g d t a b c w (.inl (by simpa using h1))
set_option maxHeartbeats 2000000 in
theorem l92Stats_any (B R P : Nat) (w : World) (hr : Rd w B R P) (hP : P ≤ 900000) :
    Calls Try.prog 23 #[.pointer (some ⟨R, 0, none⟩)] w (Drew B R (P + 100) IsStats w) := by
  have hR := hr.lt
  have hG := World.grownBy.refl w (some R)
  go_enter Try.func23, Try.ntmps23
  go_wp2_with fail
  refine (pick_any B R P _ _ (hr.alloc _) (by omega) (by omega) (by omega)).mono ?_
  rintro e w1 ⟨x1, rfl, hx0, hx1, hs1, hr1, hg1⟩
  simp at hs1
  have rZ : Row w1 (w.heap.size) _ := Row.grown (by (repeat' (first | (with_reducible assumption) | (with_reducible exact Row.new _ _ _) | (with_reducible exact Row.new1 _ _ _ _) | (with_reducible exact Row.new2 _ _ _ _ _) | (with_reducible exact Row.new2' _ _ _ _ _) | ((with_reducible apply Row.mk) <;> (with_reducible assumption)) | (with_reducible apply Row.alloc) | (with_reducible apply Row.set) | (with_reducible apply Row.far) | (with_reducible apply Row.drew) | (with_reducible apply Row.drewN) | omega | (simp; done) | (simp; omega)))) hg1 (by omega)
  (try clear cZ fZ lZ)
  obtain ⟨cZ, fZ, lZ⟩ := rZ
  go_wp2_with fail
  refine (pick_any B R (P + 1) _ _ hr1 (by omega) (by omega) (by omega)).mono ?_
  rintro e w2 ⟨x2, rfl, hy0, hy1, hs2, hr2, hg2⟩
  have rZ : Row w2 (w.heap.size) _ := Row.grown (by (repeat' (first | (with_reducible assumption) | (with_reducible exact Row.new _ _ _) | (with_reducible exact Row.new1 _ _ _ _) | (with_reducible exact Row.new2 _ _ _ _ _) | (with_reducible exact Row.new2' _ _ _ _ _) | ((with_reducible apply Row.mk) <;> (with_reducible assumption)) | (with_reducible apply Row.alloc) | (with_reducible apply Row.set) | (with_reducible apply Row.far) | (with_reducible apply Row.drew) | (with_reducible apply Row.drewN) | omega | (simp; done) | (simp; omega)))) hg2 (by omega)
  (try clear cZ fZ lZ)
  obtain ⟨cZ, fZ, lZ⟩ := rZ
  go_wp2_with fail
  refine (statsNew_some _ _ _ _).mono ?_
  rintro e w3 ⟨v, rfl, ⟨f, m, g, d, t, b, rfl⟩, hb3⟩
  have rZ : Row w3 (w.heap.size) _ := Row.below (by (repeat' (first | (with_reducible assumption) | (with_reducible exact Row.new _ _ _) | (with_reducible exact Row.new1 _ _ _ _) | (with_reducible exact Row.new2 _ _ _ _ _) | (with_reducible exact Row.new2' _ _ _ _ _) | ((with_reducible apply Row.mk) <;> (with_reducible assumption)) | (with_reducible apply Row.alloc) | (with_reducible apply Row.set) | (with_reducible apply Row.far) | (with_reducible apply Row.drew) | (with_reducible apply Row.drewN) | omega | (simp; done) | (simp; omega)))) hb3
  (try clear cZ fZ lZ)
  obtain ⟨cZ, fZ, lZ⟩ := rZ
  have hr3 := hr2.below hb3
  have hzs := lZ
  have hG3 : w.grownBy w3 (some R) := by (repeat' (first | (with_reducible exact World.grownBy.refl _ _) | (with_reducible assumption) | (with_reducible refine grown_alloc ?_ _) | (with_reducible refine grown_setCell ?_ ?_ _) | (with_reducible refine grown_drew ?_) | (with_reducible refine grown_drewN ?_ _) | (with_reducible refine grown_step (by assumption) ?_) | (with_reducible refine grown_below ?_ (by assumption)) | (left; rfl) | (right; omega) | (right; simp; done) | (right; simp; omega)))
  clear hg1 hg2 hb3 hr1 hr2
  go_wp2_with fail
  refine (pick_any B R (P + 2) _ _ (hr3.alloc _) (by omega) (by omega) (by omega)).mono ?_
  rintro e w4 ⟨n, rfl, hn0, hn1, hs4, hr4, hg4⟩
  simp at hs4
  have rZ : Row w4 (w.heap.size) _ := Row.grown (by (repeat' (first | (with_reducible assumption) | (with_reducible exact Row.new _ _ _) | (with_reducible exact Row.new1 _ _ _ _) | (with_reducible exact Row.new2 _ _ _ _ _) | (with_reducible exact Row.new2' _ _ _ _ _) | ((with_reducible apply Row.mk) <;> (with_reducible assumption)) | (with_reducible apply Row.alloc) | (with_reducible apply Row.set) | (with_reducible apply Row.far) | (with_reducible apply Row.drew) | (with_reducible apply Row.drewN) | omega | (simp; done) | (simp; omega)))) hg4 (by omega)
  have rS : Row w4 (w3.heap.size) _ := Row.grown (by (repeat' (first | (with_reducible assumption) | (with_reducible exact Row.new _ _ _) | (with_reducible exact Row.new1 _ _ _ _) | (with_reducible exact Row.new2 _ _ _ _ _) | (with_reducible exact Row.new2' _ _ _ _ _) | ((with_reducible apply Row.mk) <;> (with_reducible assumption)) | (with_reducible apply Row.alloc) | (with_reducible apply Row.set) | (with_reducible apply Row.far) | (with_reducible apply Row.drew) | (with_reducible apply Row.drewN) | omega | (simp; done) | (simp; omega)))) hg4 (by omega)
  (try clear cZ fZ lZ)
  (try clear cS fS lS)
  obtain ⟨cZ, fZ, lZ⟩ := rZ
  obtain ⟨cS, fS, lS⟩ := rS
  have hG4 : w.grownBy w4 (some R) := by (repeat' (first | (with_reducible exact World.grownBy.refl _ _) | (with_reducible assumption) | (with_reducible refine grown_alloc ?_ _) | (with_reducible refine grown_setCell ?_ ?_ _) | (with_reducible refine grown_drew ?_) | (with_reducible refine grown_drewN ?_ _) | (with_reducible refine grown_step (by assumption) ?_) | (with_reducible refine grown_below ?_ (by assumption)) | (left; rfl) | (right; omega) | (right; simp; done) | (right; simp; omega)))
  obtain ⟨S, hS⟩ : ∃ S, w3.heap.size = S := ⟨_, rfl⟩
  obtain ⟨Z, hZ⟩ : ∃ Z, w.heap.size = Z := ⟨_, rfl⟩
  have hRZ : R < Z := by omega
  rw [hS] at cS fS lS hzs hs4
  rw [hZ] at cZ fZ lZ hzs
  rw [hS, hZ]
  have hz0 : Z ≤ w.heap.size := by omega
  have hz9 : w.heap.size ≤ Z := by omega
  clear hg4 hr3 hs1 hs2 hG hr hR hG3 hS
  have hZZ := hide hZ
  clear hZ
  go_wp2_with fail
  go_loopw [6, 7] (fun wd i wr => ∃ (k : Nat) (W : Int) (f m g d t : Int), wd = .int .i64 W ∧ i = .int .i64 k ∧ (k : Int) ≤ n ∧ Rd wr B R (P + 3 + 4 * k) ∧ Row wr S #[.int .i64 f, .int .i64 m, .int .i64 g, .int .i64 d, .int .i64 t] ∧ Row wr Z #[.int .i64 0, .int .i64 0, .int .i64 0, .int .i64 0, .int .i64 0] ∧ w.grownBy wr (some R)) (fun _ i _ => (n - intOf i).toNat)
  case atStart => exact ⟨0, _, _, _, _, _, _, rfl, rfl, by omega, hr4, ⟨cS, fS, lS⟩, ⟨cZ, fZ, lZ⟩, hG4⟩
  case round =>
    obtain ⟨k, W, f, m, g, d, t, rfl, rfl, hk, hrr, rS, rZ, hGr⟩ := hrel
    clear cS fS lS cZ fZ lZ hr4 hG4
    obtain ⟨cS, fS, lS⟩ := rS
    obtain ⟨cZ, fZ, lZ⟩ := rZ
    by_cases hkn : (k : Int) < n
    · go_wp2_with fail
      refine (pick_any B R _ _ _ hrr (by omega) (by omega) (by omega)).mono ?_
      rintro e w5 ⟨y1, rfl, hy0, hy1, hs5, hr5, hg5⟩
      have rZ : Row w5 (Z) _ := Row.grown (by (repeat' (first | (with_reducible assumption) | (with_reducible exact Row.new _ _ _) | (with_reducible exact Row.new1 _ _ _ _) | (with_reducible exact Row.new2 _ _ _ _ _) | (with_reducible exact Row.new2' _ _ _ _ _) | ((with_reducible apply Row.mk) <;> (with_reducible assumption)) | (with_reducible apply Row.alloc) | (with_reducible apply Row.set) | (with_reducible apply Row.far) | (with_reducible apply Row.drew) | (with_reducible apply Row.drewN) | omega | (simp; done) | (simp; omega)))) hg5 (by omega)
      have rS : Row w5 (S) _ := Row.grown (by (repeat' (first | (with_reducible assumption) | (with_reducible exact Row.new _ _ _) | (with_reducible exact Row.new1 _ _ _ _) | (with_reducible exact Row.new2 _ _ _ _ _) | (with_reducible exact Row.new2' _ _ _ _ _) | ((with_reducible apply Row.mk) <;> (with_reducible assumption)) | (with_reducible apply Row.alloc) | (with_reducible apply Row.set) | (with_reducible apply Row.far) | (with_reducible apply Row.drew) | (with_reducible apply Row.drewN) | omega | (simp; done) | (simp; omega)))) hg5 (by omega)
      (try clear cZ fZ lZ)
      (try clear cS fS lS)
      obtain ⟨cZ, fZ, lZ⟩ := rZ
      obtain ⟨cS, fS, lS⟩ := rS
      go_wp2_with fail
      refine (pick_any B R _ _ _ hr5 (by omega) (by omega) (by omega)).mono ?_
      rintro e w6 ⟨y2, rfl, hy20, hy21, hs6, hr6, hg6⟩
      have rZ : Row w6 (Z) _ := Row.grown (by (repeat' (first | (with_reducible assumption) | (with_reducible exact Row.new _ _ _) | (with_reducible exact Row.new1 _ _ _ _) | (with_reducible exact Row.new2 _ _ _ _ _) | (with_reducible exact Row.new2' _ _ _ _ _) | ((with_reducible apply Row.mk) <;> (with_reducible assumption)) | (with_reducible apply Row.alloc) | (with_reducible apply Row.set) | (with_reducible apply Row.far) | (with_reducible apply Row.drew) | (with_reducible apply Row.drewN) | omega | (simp; done) | (simp; omega)))) hg6 (by omega)
      have rS : Row w6 (S) _ := Row.grown (by (repeat' (first | (with_reducible assumption) | (with_reducible exact Row.new _ _ _) | (with_reducible exact Row.new1 _ _ _ _) | (with_reducible exact Row.new2 _ _ _ _ _) | (with_reducible exact Row.new2' _ _ _ _ _) | ((with_reducible apply Row.mk) <;> (with_reducible assumption)) | (with_reducible apply Row.alloc) | (with_reducible apply Row.set) | (with_reducible apply Row.far) | (with_reducible apply Row.drew) | (with_reducible apply Row.drewN) | omega | (simp; done) | (simp; omega)))) hg6 (by omega)
      (try clear cZ fZ lZ)
      (try clear cS fS lS)
      obtain ⟨cZ, fZ, lZ⟩ := rZ
      obtain ⟨cS, fS, lS⟩ := rS
      go_wp2_with fail
      refine (pick_any B R _ _ _ hr6 (by omega) (by omega) (by omega)).mono ?_
      rintro e w7 ⟨y3, rfl, hy30, hy31, hs7, hr7, hg7⟩
      have rZ : Row w7 (Z) _ := Row.grown (by (repeat' (first | (with_reducible assumption) | (with_reducible exact Row.new _ _ _) | (with_reducible exact Row.new1 _ _ _ _) | (with_reducible exact Row.new2 _ _ _ _ _) | (with_reducible exact Row.new2' _ _ _ _ _) | ((with_reducible apply Row.mk) <;> (with_reducible assumption)) | (with_reducible apply Row.alloc) | (with_reducible apply Row.set) | (with_reducible apply Row.far) | (with_reducible apply Row.drew) | (with_reducible apply Row.drewN) | omega | (simp; done) | (simp; omega)))) hg7 (by omega)
      have rS : Row w7 (S) _ := Row.grown (by (repeat' (first | (with_reducible assumption) | (with_reducible exact Row.new _ _ _) | (with_reducible exact Row.new1 _ _ _ _) | (with_reducible exact Row.new2 _ _ _ _ _) | (with_reducible exact Row.new2' _ _ _ _ _) | ((with_reducible apply Row.mk) <;> (with_reducible assumption)) | (with_reducible apply Row.alloc) | (with_reducible apply Row.set) | (with_reducible apply Row.far) | (with_reducible apply Row.drew) | (with_reducible apply Row.drewN) | omega | (simp; done) | (simp; omega)))) hg7 (by omega)
      (try clear cZ fZ lZ)
      (try clear cS fS lS)
      obtain ⟨cZ, fZ, lZ⟩ := rZ
      obtain ⟨cS, fS, lS⟩ := rS
      have hG7 : w.grownBy w7 (some R) := grown_trans hGr (grown_trans hg5 (grown_trans hg6 hg7))
      clear hg5 hg6 hg7 hr5 hr6 hrr hs5 hs6 hs7 hGr
      go_upto_region 8 with (fail)
      go_cut [8, 9] (fun p q wx => ∃ (X : Nat) (f' m' g' d' t' : Int) (b' : Bool), p = .pointer (some ⟨X, 0, none⟩) ∧ q = .bool b' ∧ Rd wx B R (P + 3 + 4 * k + 4) ∧ Row wx X #[.int .i64 f', .int .i64 m', .int .i64 g', .int .i64 d', .int .i64 t'] ∧ Row wx S #[.int .i64 f, .int .i64 m, .int .i64 g, .int .i64 d, .int .i64 t] ∧ Row wx Z #[.int .i64 0, .int .i64 0, .int .i64 0, .int .i64 0, .int .i64 0] ∧ w.grownBy wx (some R))
      case first =>
        have lR := hr7.lt
        go_region_held3 (fun w' => ∀ o, w'.cell? ⟨S, o, none⟩ = #[Value.int .i64 f, .int .i64 m, .int .i64 g, .int .i64 d, .int .i64 t][o]?) (first | (with_reducible assumption) | (intro o; simp [go_sem, *]; done) | go_keep) (first | (go_at_call 25; refine (pick_from hr7 ?_ ?_ ?_ ?_).mono ?_; (focus (repeat' (first | (with_reducible exact RExt.refl _ _) | (with_reducible refine RExt.alloc ?_ _) | (with_reducible refine RExt.setCell ?_ ?_ _) | (with_reducible refine RExt.drew ?_) | (with_reducible refine RExt.drewN ?_ _) | (with_reducible refine RExt.below ?_ (by assumption)) | omega | (simp; done) | (simp; omega)))); omega; omega; omega; rintro e w8 ⟨z, rfl, hz0, hz1, hs8, hr8, hg8⟩; have rS : Row w8 S _ := Row.grown (by (repeat' (first | (with_reducible assumption) | (with_reducible exact Row.new _ _ _) | (with_reducible exact Row.new1 _ _ _ _) | (with_reducible exact Row.new2 _ _ _ _ _) | (with_reducible exact Row.new2' _ _ _ _ _) | ((with_reducible apply Row.mk) <;> (with_reducible assumption)) | (with_reducible apply Row.alloc) | (with_reducible apply Row.set) | (with_reducible apply Row.far) | (with_reducible apply Row.drew) | (with_reducible apply Row.drewN) | omega | (simp; done) | (simp; omega)))) hg8 (by omega); have rZ : Row w8 Z _ := Row.grown (by (repeat' (first | (with_reducible assumption) | (with_reducible exact Row.new _ _ _) | (with_reducible exact Row.new1 _ _ _ _) | (with_reducible exact Row.new2 _ _ _ _ _) | (with_reducible exact Row.new2' _ _ _ _ _) | ((with_reducible apply Row.mk) <;> (with_reducible assumption)) | (with_reducible apply Row.alloc) | (with_reducible apply Row.set) | (with_reducible apply Row.far) | (with_reducible apply Row.drew) | (with_reducible apply Row.drewN) | omega | (simp; done) | (simp; omega)))) hg8 (by omega); (try (have rX : Row w8 w7.heap.size _ := Row.grown (Row.new _ _ _) hg8 (by omega); obtain ⟨cX, fX, lX⟩ := rX)); (try (have rX : Row w8 w7.heap.size _ := Row.grown (Row.drew (Row.new _ _ _)) hg8 (by omega); obtain ⟨cX, fX, lX⟩ := rX)); have hr := hr8; clear hs8; have hG8 : w.grownBy w8 (some R) := (by (repeat' (first | (with_reducible exact World.grownBy.refl _ _) | (with_reducible assumption) | (with_reducible refine grown_alloc ?_ _) | (with_reducible refine grown_setCell ?_ ?_ _) | (with_reducible refine grown_drew ?_) | (with_reducible refine grown_drewN ?_ _) | (with_reducible refine grown_step (by assumption) ?_) | (with_reducible refine grown_below ?_ (by assumption)) | (left; rfl) | (right; omega) | (right; simp; done) | (right; simp; omega)))); obtain ⟨cS, fS, lS⟩ := rS; obtain ⟨cZ, fZ, lZ⟩ := rZ) | (go_at_call 26; refine (put_some _ _ _ _ _ _ _ _ _).mono ?_; rintro e w9 ⟨v, rfl, ⟨f', m', g', d', t', b', rfl⟩, hb9⟩; have rS : Row w9 S _ := Row.below (by (repeat' (first | (with_reducible assumption) | (with_reducible exact Row.new _ _ _) | (with_reducible exact Row.new1 _ _ _ _) | (with_reducible exact Row.new2 _ _ _ _ _) | (with_reducible exact Row.new2' _ _ _ _ _) | ((with_reducible apply Row.mk) <;> (with_reducible assumption)) | (with_reducible apply Row.alloc) | (with_reducible apply Row.set) | (with_reducible apply Row.far) | (with_reducible apply Row.drew) | (with_reducible apply Row.drewN) | omega | (simp; done) | (simp; omega)))) hb9; have rZ : Row w9 Z _ := Row.below (by (repeat' (first | (with_reducible assumption) | (with_reducible exact Row.new _ _ _) | (with_reducible exact Row.new1 _ _ _ _) | (with_reducible exact Row.new2 _ _ _ _ _) | (with_reducible exact Row.new2' _ _ _ _ _) | ((with_reducible apply Row.mk) <;> (with_reducible assumption)) | (with_reducible apply Row.alloc) | (with_reducible apply Row.set) | (with_reducible apply Row.far) | (with_reducible apply Row.drew) | (with_reducible apply Row.drewN) | omega | (simp; done) | (simp; omega)))) hb9; (try (have rX : Row w9 w8.heap.size _ := Row.below (Row.new _ _ _) hb9; obtain ⟨cX, fX, lX⟩ := rX)); (try (have rX : Row w9 w7.heap.size _ := Row.below (by (repeat' (first | (with_reducible assumption) | (with_reducible exact Row.new _ _ _) | (with_reducible exact Row.new1 _ _ _ _) | (with_reducible exact Row.new2 _ _ _ _ _) | (with_reducible exact Row.new2' _ _ _ _ _) | ((with_reducible apply Row.mk) <;> (with_reducible assumption)) | (with_reducible apply Row.alloc) | (with_reducible apply Row.set) | (with_reducible apply Row.far) | (with_reducible apply Row.drew) | (with_reducible apply Row.drewN) | omega | (simp; done) | (simp; omega)))) hb9; obtain ⟨cX, fX, lX⟩ := rX)); have hr9 : Rd w9 B R (P + 3 + 4 * k + 4) := (by ((refine Rd.more (RExt.rd (w := _) ?_ hr) ?_); (focus (repeat' (first | (with_reducible exact RExt.refl _ _) | (with_reducible refine RExt.alloc ?_ _) | (with_reducible refine RExt.setCell ?_ ?_ _) | (with_reducible refine RExt.drew ?_) | (with_reducible refine RExt.drewN ?_ _) | (with_reducible refine RExt.below ?_ (by assumption)) | omega | (simp; done) | (simp; omega)))); omega)); have hG9 : w.grownBy w9 (some R) := (by (repeat' (first | (with_reducible exact World.grownBy.refl _ _) | (with_reducible assumption) | (with_reducible refine grown_alloc ?_ _) | (with_reducible refine grown_setCell ?_ ?_ _) | (with_reducible refine grown_drew ?_) | (with_reducible refine grown_drewN ?_ _) | (with_reducible refine grown_step (by assumption) ?_) | (with_reducible refine grown_below ?_ (by assumption)) | (left; rfl) | (right; omega) | (right; simp; done) | (right; simp; omega)))); obtain ⟨cS, fS, lS⟩ := rS; obtain ⟨cZ, fZ, lZ⟩ := rZ))
        all_goals
          go_wp2_with (fail)
          go_meet
          refine ⟨_, _, _, _, _, _, _, rfl, rfl, (show Rd _ B R _ from ?_), Row.conv (by (repeat' (first | (with_reducible assumption) | (with_reducible exact Row.new _ _ _) | (with_reducible exact Row.new1 _ _ _ _) | (with_reducible exact Row.new2 _ _ _ _ _) | (with_reducible exact Row.new2' _ _ _ _ _) | ((with_reducible apply Row.mk) <;> (with_reducible assumption)) | (with_reducible apply Row.alloc) | (with_reducible apply Row.set) | (with_reducible apply Row.far) | (with_reducible apply Row.drew) | (with_reducible apply Row.drewN) | omega | (simp; done) | (simp; omega)))) (by first | (simp; done) | (simp; exact ⟨rfl, rfl, rfl, rfl, rfl⟩)), Row.conv (by (repeat' (first | (with_reducible assumption) | (with_reducible exact Row.new _ _ _) | (with_reducible exact Row.new1 _ _ _ _) | (with_reducible exact Row.new2 _ _ _ _ _) | (with_reducible exact Row.new2' _ _ _ _ _) | ((with_reducible apply Row.mk) <;> (with_reducible assumption)) | (with_reducible apply Row.alloc) | (with_reducible apply Row.set) | (with_reducible apply Row.far) | (with_reducible apply Row.drew) | (with_reducible apply Row.drewN) | omega | (simp; done) | (simp; omega)))) (by first | (simp; done) | (simp; exact ⟨rfl, rfl, rfl, rfl, rfl⟩)), Row.conv (by (repeat' (first | (with_reducible assumption) | (with_reducible exact Row.new _ _ _) | (with_reducible exact Row.new1 _ _ _ _) | (with_reducible exact Row.new2 _ _ _ _ _) | (with_reducible exact Row.new2' _ _ _ _ _) | ((with_reducible apply Row.mk) <;> (with_reducible assumption)) | (with_reducible apply Row.alloc) | (with_reducible apply Row.set) | (with_reducible apply Row.far) | (with_reducible apply Row.drew) | (with_reducible apply Row.drewN) | omega | (simp; done) | (simp; omega)))) (by first | (simp; done) | (simp; exact ⟨rfl, rfl, rfl, rfl, rfl⟩)), ?_⟩
          · ((refine Rd.more (RExt.rd (w := _) ?_ hr) ?_); (focus (repeat' (first | (with_reducible exact RExt.refl _ _) | (with_reducible refine RExt.alloc ?_ _) | (with_reducible refine RExt.setCell ?_ ?_ _) | (with_reducible refine RExt.drew ?_) | (with_reducible refine RExt.drewN ?_ _) | (with_reducible refine RExt.below ?_ (by assumption)) | omega | (simp; done) | (simp; omega)))); omega)
          · (repeat' (first | (with_reducible exact World.grownBy.refl _ _) | (with_reducible assumption) | (with_reducible refine grown_alloc ?_ _) | (with_reducible refine grown_setCell ?_ ?_ _) | (with_reducible refine grown_drew ?_) | (with_reducible refine grown_drewN ?_ _) | (with_reducible refine grown_step (by assumption) ?_) | (with_reducible refine grown_below ?_ (by assumption)) | (left; rfl) | (right; omega) | (right; simp; done) | (right; simp; omega)))
      case rest =>
        obtain ⟨X, f', m', g', d', t', b', rfl, rfl, hr8, rX, rS, rZ, hG8⟩ := hcut
        clear cS fS lS cZ fZ lZ hr7 hG7
        obtain ⟨cX, fX, lX⟩ := rX
        obtain ⟨cS, fS, lS⟩ := rS
        obtain ⟨cZ, fZ, lZ⟩ := rZ
        have hr := hr8
        have q1 : ¬ S = Z := by omega
        go_wp2_with fail
        all_goals
          go_roundw
          case rel =>
            refine ⟨k + 1, _, _, _, _, _, _, rfl, by go_num, by omega, (show Rd _ B R _ from ?_), Row.conv (by (repeat' (first | (with_reducible assumption) | (with_reducible exact Row.new _ _ _) | (with_reducible exact Row.new1 _ _ _ _) | (with_reducible exact Row.new2 _ _ _ _ _) | (with_reducible exact Row.new2' _ _ _ _ _) | ((with_reducible apply Row.mk) <;> (with_reducible assumption)) | (with_reducible apply Row.alloc) | (with_reducible apply Row.set) | (with_reducible apply Row.far) | (with_reducible apply Row.drew) | (with_reducible apply Row.drewN) | omega | (simp; done) | (simp; omega)))) (by first | (simp; done) | (simp; exact ⟨rfl, rfl, rfl, rfl, rfl⟩)), Row.conv (by (repeat' (first | (with_reducible assumption) | (with_reducible exact Row.new _ _ _) | (with_reducible exact Row.new1 _ _ _ _) | (with_reducible exact Row.new2 _ _ _ _ _) | (with_reducible exact Row.new2' _ _ _ _ _) | ((with_reducible apply Row.mk) <;> (with_reducible assumption)) | (with_reducible apply Row.alloc) | (with_reducible apply Row.set) | (with_reducible apply Row.far) | (with_reducible apply Row.drew) | (with_reducible apply Row.drewN) | omega | (simp; done) | (simp; omega)))) (by first | (simp; done) | (simp; exact ⟨rfl, rfl, rfl, rfl, rfl⟩)), ?_⟩
            · ((refine Rd.more (RExt.rd (w := _) ?_ hr) ?_); (focus (repeat' (first | (with_reducible exact RExt.refl _ _) | (with_reducible refine RExt.alloc ?_ _) | (with_reducible refine RExt.setCell ?_ ?_ _) | (with_reducible refine RExt.drew ?_) | (with_reducible refine RExt.drewN ?_ _) | (with_reducible refine RExt.below ?_ (by assumption)) | omega | (simp; done) | (simp; omega)))); omega)
            · (repeat' (first | (with_reducible exact World.grownBy.refl _ _) | (with_reducible assumption) | (with_reducible refine grown_alloc ?_ _) | (with_reducible refine grown_setCell ?_ ?_ _) | (with_reducible refine grown_drew ?_) | (with_reducible refine grown_drewN ?_ _) | (with_reducible refine grown_step (by assumption) ?_) | (with_reducible refine grown_below ?_ (by assumption)) | (left; rfl) | (right; omega) | (right; simp; done) | (right; simp; omega)))
          case measure => simp [intOf]; omega
    · go_wp2_with fail
      refine (pick_any B R _ _ _ hrr (by omega) (by omega) (by omega)).mono ?_
      rintro e w5 ⟨y1, rfl, hy0, hy1, hs5, hr5, hg5⟩
      have rZ : Row w5 (Z) _ := Row.grown (by (repeat' (first | (with_reducible assumption) | (with_reducible exact Row.new _ _ _) | (with_reducible exact Row.new1 _ _ _ _) | (with_reducible exact Row.new2 _ _ _ _ _) | (with_reducible exact Row.new2' _ _ _ _ _) | ((with_reducible apply Row.mk) <;> (with_reducible assumption)) | (with_reducible apply Row.alloc) | (with_reducible apply Row.set) | (with_reducible apply Row.far) | (with_reducible apply Row.drew) | (with_reducible apply Row.drewN) | omega | (simp; done) | (simp; omega)))) hg5 (by omega)
      have rS : Row w5 (S) _ := Row.grown (by (repeat' (first | (with_reducible assumption) | (with_reducible exact Row.new _ _ _) | (with_reducible exact Row.new1 _ _ _ _) | (with_reducible exact Row.new2 _ _ _ _ _) | (with_reducible exact Row.new2' _ _ _ _ _) | ((with_reducible apply Row.mk) <;> (with_reducible assumption)) | (with_reducible apply Row.alloc) | (with_reducible apply Row.set) | (with_reducible apply Row.far) | (with_reducible apply Row.drew) | (with_reducible apply Row.drewN) | omega | (simp; done) | (simp; omega)))) hg5 (by omega)
      (try clear cZ fZ lZ)
      (try clear cS fS lS)
      obtain ⟨cZ, fZ, lZ⟩ := rZ
      obtain ⟨cS, fS, lS⟩ := rS
      have hG5 : w.grownBy w5 (some R) := grown_trans hGr hg5
      have lR := hr5.lt
      clear hg5 hGr hrr hs5
      have hr := hr5
      have q1 : ¬ S = Z := by omega
      rcases (show y1 = 0 ∨ y1 = 1 ∨ y1 = 2 ∨ 2 < y1 from by omega) with rfl | rfl | rfl | hy
      · go_wp2_with fail
        refine bodyPost_ret (by first | (simp (maxDischargeDepth := 3) [results, Try.results23, go_sem, *]; done) | (simp (maxDischargeDepth := 3) [results, Try.results23, go_sem, *]; rfl) | (simp (maxDischargeDepth := 7) [results, Try.results23, go_sem, *]; done) | (simp (maxDischargeDepth := 7) [results, Try.results23, go_sem, *]; rfl)) rfl ?_
        refine drew_mk ⟨_, _, _, _, _, rfl⟩ ?_ ?_
        · ((refine Rd.more (RExt.rd (w := _) ?_ hr) ?_); (focus (repeat' (first | (with_reducible exact RExt.refl _ _) | (with_reducible refine RExt.alloc ?_ _) | (with_reducible refine RExt.setCell ?_ ?_ _) | (with_reducible refine RExt.drew ?_) | (with_reducible refine RExt.drewN ?_ _) | (with_reducible refine RExt.below ?_ (by assumption)) | omega | (simp; done) | (simp; omega)))); omega)
        · (repeat' (first | (with_reducible exact World.grownBy.refl _ _) | (with_reducible assumption) | (with_reducible refine grown_alloc ?_ _) | (with_reducible refine grown_setCell ?_ ?_ _) | (with_reducible refine grown_drew ?_) | (with_reducible refine grown_drewN ?_ _) | (with_reducible refine grown_step (by assumption) ?_) | (with_reducible refine grown_below ?_ (by assumption)) | (left; rfl) | (right; omega) | (right; simp; done) | (right; simp; omega)))
      · go_wp2_with fail
        refine bodyPost_ret (by first | (simp (maxDischargeDepth := 3) [results, Try.results23, go_sem, *]; done) | (simp (maxDischargeDepth := 3) [results, Try.results23, go_sem, *]; rfl) | (simp (maxDischargeDepth := 7) [results, Try.results23, go_sem, *]; done) | (simp (maxDischargeDepth := 7) [results, Try.results23, go_sem, *]; rfl)) rfl ?_
        refine drew_mk ⟨_, _, _, _, _, rfl⟩ ?_ ?_
        · ((refine Rd.more (RExt.rd (w := _) ?_ hr) ?_); (focus (repeat' (first | (with_reducible exact RExt.refl _ _) | (with_reducible refine RExt.alloc ?_ _) | (with_reducible refine RExt.setCell ?_ ?_ _) | (with_reducible refine RExt.drew ?_) | (with_reducible refine RExt.drewN ?_ _) | (with_reducible refine RExt.below ?_ (by assumption)) | omega | (simp; done) | (simp; omega)))); omega)
        · (repeat' (first | (with_reducible exact World.grownBy.refl _ _) | (with_reducible assumption) | (with_reducible refine grown_alloc ?_ _) | (with_reducible refine grown_setCell ?_ ?_ _) | (with_reducible refine grown_drew ?_) | (with_reducible refine grown_drewN ?_ _) | (with_reducible refine grown_step (by assumption) ?_) | (with_reducible refine grown_below ?_ (by assumption)) | (left; rfl) | (right; omega) | (right; simp; done) | (right; simp; omega)))
      · go_wp2_with fail
        refine (pick_from (N := 2) hr5 ?_ ?_ ?_ ?_).mono ?_
        · (repeat' (first | (with_reducible exact RExt.refl _ _) | (with_reducible refine RExt.alloc ?_ _) | (with_reducible refine RExt.setCell ?_ ?_ _) | (with_reducible refine RExt.drew ?_) | (with_reducible refine RExt.drewN ?_ _) | (with_reducible refine RExt.below ?_ (by assumption)) | omega | (simp; done) | (simp; omega)))
        · omega
        · omega
        · omega
        rintro e w6 ⟨z, rfl, hz0, hz1, hs6, hr6, hg6⟩
        have rS : Row w6 (S) _ := Row.grown (by (repeat' (first | (with_reducible assumption) | (with_reducible exact Row.new _ _ _) | (with_reducible exact Row.new1 _ _ _ _) | (with_reducible exact Row.new2 _ _ _ _ _) | (with_reducible exact Row.new2' _ _ _ _ _) | ((with_reducible apply Row.mk) <;> (with_reducible assumption)) | (with_reducible apply Row.alloc) | (with_reducible apply Row.set) | (with_reducible apply Row.far) | (with_reducible apply Row.drew) | (with_reducible apply Row.drewN) | omega | (simp; done) | (simp; omega)))) hg6 (by omega)
        have rZ : Row w6 (Z) _ := Row.grown (by (repeat' (first | (with_reducible assumption) | (with_reducible exact Row.new _ _ _) | (with_reducible exact Row.new1 _ _ _ _) | (with_reducible exact Row.new2 _ _ _ _ _) | (with_reducible exact Row.new2' _ _ _ _ _) | ((with_reducible apply Row.mk) <;> (with_reducible assumption)) | (with_reducible apply Row.alloc) | (with_reducible apply Row.set) | (with_reducible apply Row.far) | (with_reducible apply Row.drew) | (with_reducible apply Row.drewN) | omega | (simp; done) | (simp; omega)))) hg6 (by omega)
        have rX : Row w6 (w5.heap.size) _ := Row.grown (by (repeat' (first | (with_reducible assumption) | (with_reducible exact Row.new _ _ _) | (with_reducible exact Row.new1 _ _ _ _) | (with_reducible exact Row.new2 _ _ _ _ _) | (with_reducible exact Row.new2' _ _ _ _ _) | ((with_reducible apply Row.mk) <;> (with_reducible assumption)) | (with_reducible apply Row.alloc) | (with_reducible apply Row.set) | (with_reducible apply Row.far) | (with_reducible apply Row.drew) | (with_reducible apply Row.drewN) | omega | (simp; done) | (simp; omega)))) hg6 (by omega)
        (try clear cS fS lS)
        (try clear cZ fZ lZ)
        (try clear cX fX lX)
        obtain ⟨cS, fS, lS⟩ := rS
        obtain ⟨cZ, fZ, lZ⟩ := rZ
        obtain ⟨cX, fX, lX⟩ := rX
        have hG6 : w.grownBy w6 (some R) := by (repeat' (first | (with_reducible exact World.grownBy.refl _ _) | (with_reducible assumption) | (with_reducible refine grown_alloc ?_ _) | (with_reducible refine grown_setCell ?_ ?_ _) | (with_reducible refine grown_drew ?_) | (with_reducible refine grown_drewN ?_ _) | (with_reducible refine grown_step (by assumption) ?_) | (with_reducible refine grown_below ?_ (by assumption)) | (left; rfl) | (right; omega) | (right; simp; done) | (right; simp; omega)))
        have hr := hr6
        clear hs6 hg6
        rcases (show z = 0 ∨ z = 1 from by omega) with rfl | rfl
        all_goals
          go_wp2_with fail
          refine bodyPost_ret (by first | (simp (maxDischargeDepth := 3) [results, Try.results23, go_sem, *]; done) | (simp (maxDischargeDepth := 3) [results, Try.results23, go_sem, *]; rfl) | (simp (maxDischargeDepth := 7) [results, Try.results23, go_sem, *]; done) | (simp (maxDischargeDepth := 7) [results, Try.results23, go_sem, *]; rfl)) rfl ?_
          refine drew_mk ⟨_, _, _, _, _, rfl⟩ ?_ ?_
          · ((refine Rd.more (RExt.rd (w := _) ?_ hr) ?_); (focus (repeat' (first | (with_reducible exact RExt.refl _ _) | (with_reducible refine RExt.alloc ?_ _) | (with_reducible refine RExt.setCell ?_ ?_ _) | (with_reducible refine RExt.drew ?_) | (with_reducible refine RExt.drewN ?_ _) | (with_reducible refine RExt.below ?_ (by assumption)) | omega | (simp; done) | (simp; omega)))); omega)
          · (repeat' (first | (with_reducible exact World.grownBy.refl _ _) | (with_reducible assumption) | (with_reducible refine grown_alloc ?_ _) | (with_reducible refine grown_setCell ?_ ?_ _) | (with_reducible refine grown_drew ?_) | (with_reducible refine grown_drewN ?_ _) | (with_reducible refine grown_step (by assumption) ?_) | (with_reducible refine grown_below ?_ (by assumption)) | (left; rfl) | (right; omega) | (right; simp; done) | (right; simp; omega)))
      · go_wp2_with fail
        refine bodyPost_ret (by first | (simp (maxDischargeDepth := 3) [results, Try.results23, go_sem, *]; done) | (simp (maxDischargeDepth := 3) [results, Try.results23, go_sem, *]; rfl) | (simp (maxDischargeDepth := 7) [results, Try.results23, go_sem, *]; done) | (simp (maxDischargeDepth := 7) [results, Try.results23, go_sem, *]; rfl)) rfl ?_
        refine drew_mk ⟨_, _, _, _, _, rfl⟩ ?_ ?_
        · ((refine Rd.more (RExt.rd (w := _) ?_ hr) ?_); (focus (repeat' (first | (with_reducible exact RExt.refl _ _) | (with_reducible refine RExt.alloc ?_ _) | (with_reducible refine RExt.setCell ?_ ?_ _) | (with_reducible refine RExt.drew ?_) | (with_reducible refine RExt.drewN ?_ _) | (with_reducible refine RExt.below ?_ (by assumption)) | omega | (simp; done) | (simp; omega)))); omega)
        · (repeat' (first | (with_reducible exact World.grownBy.refl _ _) | (with_reducible assumption) | (with_reducible refine grown_alloc ?_ _) | (with_reducible refine grown_setCell ?_ ?_ _) | (with_reducible refine grown_drew ?_) | (with_reducible refine grown_drewN ?_ _) | (with_reducible refine grown_step (by assumption) ?_) | (with_reducible refine grown_below ?_ (by assumption)) | (left; rfl) | (right; omega) | (right; simp; done) | (right; simp; omega)))
end Go.Proofs.Ytcfcnefhjdoceaa
