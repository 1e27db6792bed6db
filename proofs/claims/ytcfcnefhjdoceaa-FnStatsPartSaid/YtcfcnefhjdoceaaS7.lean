/- Walks of the laws on stats that are drawn from a code. -/
import Derived.Test.YtcfcnefhjdoceaaS6
import Derived.Test.YtcfcnefhjdoceaaS2
import Derived.Deep.RegionWith
namespace Go.Proofs.Ytcfcnefhjdoceaa
open Go.ChangeShapes Go.WideShapes Go.ChangeAt Go.RowKit

set_option maxHeartbeats 1000000 in
theorem walk_fnStatsHavePart {H : Type} {enc : TypeId × Value → H} (W : World) (base : Nat) (v : Value) (d : DataW H) (p : List MemPlace) (o : Value.okWide Try.prog W .any base 31 v) (h : DataW.Trod enc Try.prog W 0 (fun _ => true) true 31 v d p) :
    Calls Try.prog 6 #[v] W (RetB true W) := by
  obtain ⟨A, n, c, rfl, hn, hm, hcode⟩ := open_code W base v d p o h
  clear o h
  by_cases hbig : 1048576 < (n : Int)
  · clear hcode
    go_enter Try.func6, Try.ntmps6
    go_wp2
    go_ret
    refine ⟨rfl, ?_⟩
    (repeat' (first | (with_reducible exact Below.refl _ _) | (with_reducible assumption) | (with_reducible refine Below.alloc ?_ ?_ _) | (with_reducible refine Below.setCell ?_ ?_ _) | (with_reducible refine Below.drew ?_) | (with_reducible refine below_drewN' ?_ _) | (with_reducible refine below_step (by assumption) ?_ ?_) | (with_reducible refine below_gstep (by assumption) ?_ ?_ ?_) | (with_reducible exact Below.size (by assumption)) | omega | (simp; done) | (simp; omega)))
  · have Hcode := hide hcode
    clear hcode
    go_enter Try.func6, Try.ntmps6
    go_wp2_with fail
    refine (drawStatsValid W.heap.size A n c _ Hcode.out hn hm (Nat.le_refl _)).mono ?_
    rintro e w1 ⟨v, rfl, ⟨f, m, g, d', t, rfl⟩, hb1⟩
    clear Hcode
    have zb := hb1.size
    go_wp2_with fail
    refine (implStatsValid _ _ _ _ _ _).mono ?_
    rintro e w2 ⟨rfl, hb2⟩
    have rX : Row w2 (w1.heap.size) _ := Row.below (by (repeat' (first | (with_reducible assumption) | (with_reducible exact Row.new _ _ _) | (with_reducible exact Row.new1 _ _ _ _) | (with_reducible exact Row.new2 _ _ _ _ _) | (with_reducible exact Row.new2' _ _ _ _ _) | ((with_reducible apply Row.mk) <;> (with_reducible assumption)) | (with_reducible apply Row.alloc) | (with_reducible apply Row.set) | (with_reducible apply Row.far) | (with_reducible apply Row.drew) | (with_reducible apply Row.drewN) | omega | (simp; done) | (simp; omega)))) hb2
    (try clear cX fX lX)
    obtain ⟨cX, fX, lX⟩ := rX
    have hGa : Below W.heap.size W w2 := by (repeat' (first | (with_reducible exact Below.refl _ _) | (with_reducible assumption) | (with_reducible refine Below.alloc ?_ ?_ _) | (with_reducible refine Below.setCell ?_ ?_ _) | (with_reducible refine Below.drew ?_) | (with_reducible refine below_drewN' ?_ _) | (with_reducible refine below_step (by assumption) ?_ ?_) | (with_reducible refine below_gstep (by assumption) ?_ ?_ ?_) | (with_reducible exact Below.size (by assumption)) | omega | (simp; done) | (simp; omega)))
    have zGa := hGa.size
    clear hb1 hb2
    go_wp2_with fail
    refine (specStatsValid _ _ _ _ _ _).mono ?_
    rintro e w3 ⟨rfl, hb3⟩
    have rX : Row w3 (w1.heap.size) _ := Row.below (by (repeat' (first | (with_reducible assumption) | (with_reducible exact Row.new _ _ _) | (with_reducible exact Row.new1 _ _ _ _) | (with_reducible exact Row.new2 _ _ _ _ _) | (with_reducible exact Row.new2' _ _ _ _ _) | ((with_reducible apply Row.mk) <;> (with_reducible assumption)) | (with_reducible apply Row.alloc) | (with_reducible apply Row.set) | (with_reducible apply Row.far) | (with_reducible apply Row.drew) | (with_reducible apply Row.drewN) | omega | (simp; done) | (simp; omega)))) hb3
    (try clear cX fX lX)
    obtain ⟨cX, fX, lX⟩ := rX
    have hG3 : Below W.heap.size W w3 := by (repeat' (first | (with_reducible exact Below.refl _ _) | (with_reducible assumption) | (with_reducible refine Below.alloc ?_ ?_ _) | (with_reducible refine Below.setCell ?_ ?_ _) | (with_reducible refine Below.drew ?_) | (with_reducible refine below_drewN' ?_ _) | (with_reducible refine below_step (by assumption) ?_ ?_) | (with_reducible refine below_gstep (by assumption) ?_ ?_ ?_) | (with_reducible exact Below.size (by assumption)) | omega | (simp; done) | (simp; omega)))
    have zG3 := hG3.size
    clear hGa hb3
    by_cases hv : statsB f m g d' t = true
    · have e1 : statsB f m 0 d' t = false := by unfold statsB; simp
      have e2 : statsB f (f - 1) g d' t = false := by unfold statsB; simp; omega
      obtain ⟨q1, q2, q3, _⟩ := statsB_bd hv
      go_wp2_with fail
      refine (implStatsValid _ _ _ _ _ _).mono ?_
      rintro e w4 ⟨rfl, hb4⟩
      have rY : Row w4 (w3.heap.size + 1) _ := Row.below (by (repeat' (first | (with_reducible assumption) | (with_reducible exact Row.new _ _ _) | (with_reducible exact Row.new1 _ _ _ _) | (with_reducible exact Row.new2 _ _ _ _ _) | (with_reducible exact Row.new2' _ _ _ _ _) | ((with_reducible apply Row.mk) <;> (with_reducible assumption)) | (with_reducible apply Row.alloc) | (with_reducible apply Row.set) | (with_reducible apply Row.far) | (with_reducible apply Row.drew) | (with_reducible apply Row.drewN) | omega | (simp; done) | (simp; omega)))) hb4
      (try clear cY fY lY)
      obtain ⟨cY, fY, lY⟩ := rY
      have hG4 : Below W.heap.size W w4 := by (repeat' (first | (with_reducible exact Below.refl _ _) | (with_reducible assumption) | (with_reducible refine Below.alloc ?_ ?_ _) | (with_reducible refine Below.setCell ?_ ?_ _) | (with_reducible refine Below.drew ?_) | (with_reducible refine below_drewN' ?_ _) | (with_reducible refine below_step (by assumption) ?_ ?_) | (with_reducible refine below_gstep (by assumption) ?_ ?_ ?_) | (with_reducible exact Below.size (by assumption)) | omega | (simp; done) | (simp; omega)))
      have zG4 := hG4.size
      clear hG3 hb4
      go_wp2_with fail
      refine (implStatsValid _ _ _ _ _ _).mono ?_
      rintro e w5 ⟨rfl, hb5⟩
      have hG5 : Below W.heap.size W w5 := by (repeat' (first | (with_reducible exact Below.refl _ _) | (with_reducible assumption) | (with_reducible refine Below.alloc ?_ ?_ _) | (with_reducible refine Below.setCell ?_ ?_ _) | (with_reducible refine Below.drew ?_) | (with_reducible refine below_drewN' ?_ _) | (with_reducible refine below_step (by assumption) ?_ ?_) | (with_reducible refine below_gstep (by assumption) ?_ ?_ ?_) | (with_reducible exact Below.size (by assumption)) | omega | (simp; done) | (simp; omega)))
      have zG5 := hG5.size
      clear hb5 hG4
      go_wp2_with fail
      go_ret
      refine ⟨rfl, ?_⟩
      (repeat' (first | (with_reducible exact Below.refl _ _) | (with_reducible assumption) | (with_reducible refine Below.alloc ?_ ?_ _) | (with_reducible refine Below.setCell ?_ ?_ _) | (with_reducible refine Below.drew ?_) | (with_reducible refine below_drewN' ?_ _) | (with_reducible refine below_step (by assumption) ?_ ?_) | (with_reducible refine below_gstep (by assumption) ?_ ?_ ?_) | (with_reducible exact Below.size (by assumption)) | omega | (simp; done) | (simp; omega)))
    · have hv' : statsB f m g d' t = false := by simpa using hv
      clear hv
      go_wp2_with fail
      go_ret
      refine ⟨rfl, ?_⟩
      (repeat' (first | (with_reducible exact Below.refl _ _) | (with_reducible assumption) | (with_reducible refine Below.alloc ?_ ?_ _) | (with_reducible refine Below.setCell ?_ ?_ _) | (with_reducible refine Below.drew ?_) | (with_reducible refine below_drewN' ?_ _) | (with_reducible refine below_step (by assumption) ?_ ?_) | (with_reducible refine below_gstep (by assumption) ?_ ?_ ?_) | (with_reducible exact Below.size (by assumption)) | omega | (simp; done) | (simp; omega)))
set_option maxHeartbeats 1000000 in
theorem walk_fnStatsLost {H : Type} {enc : TypeId × Value → H} (W : World) (base : Nat) (v : Value) (d : DataW H) (p : List MemPlace) (o : Value.okWide Try.prog W .any base 31 v) (h : DataW.Trod enc Try.prog W 0 (fun _ => true) true 31 v d p) :
    Calls Try.prog 7 #[v] W (RetB true W) := by
  obtain ⟨A, n, c, rfl, hn, hm, hcode⟩ := open_code W base v d p o h
  clear o h
  by_cases hbig : 1048576 < (n : Int)
  · clear hcode
    go_enter Try.func7, Try.ntmps7
    go_wp2
    go_ret
    refine ⟨rfl, ?_⟩
    (repeat' (first | (with_reducible exact Below.refl _ _) | (with_reducible assumption) | (with_reducible refine Below.alloc ?_ ?_ _) | (with_reducible refine Below.setCell ?_ ?_ _) | (with_reducible refine Below.drew ?_) | (with_reducible refine below_drewN' ?_ _) | (with_reducible refine below_step (by assumption) ?_ ?_) | (with_reducible refine below_gstep (by assumption) ?_ ?_ ?_) | (with_reducible exact Below.size (by assumption)) | omega | (simp; done) | (simp; omega)))
  · have Hcode := hide hcode
    clear hcode
    go_enter Try.func7, Try.ntmps7
    go_wp2_with fail
    refine (drawStatsLost W.heap.size A n c _ Hcode.out hn hm (Nat.le_refl _)).mono ?_
    rintro e w1 ⟨v, rfl, ⟨f, m, g, d', t, rfl⟩, hb1⟩
    clear Hcode
    have zb := hb1.size
    go_wp2_with fail
    refine (implStatsLost _ _ _ _ _ _).mono ?_
    rintro e w2 ⟨rfl, hb2⟩
    have rX : Row w2 (w1.heap.size) _ := Row.below (by (repeat' (first | (with_reducible assumption) | (with_reducible exact Row.new _ _ _) | (with_reducible exact Row.new1 _ _ _ _) | (with_reducible exact Row.new2 _ _ _ _ _) | (with_reducible exact Row.new2' _ _ _ _ _) | ((with_reducible apply Row.mk) <;> (with_reducible assumption)) | (with_reducible apply Row.alloc) | (with_reducible apply Row.set) | (with_reducible apply Row.far) | (with_reducible apply Row.drew) | (with_reducible apply Row.drewN) | omega | (simp; done) | (simp; omega)))) hb2
    (try clear cX fX lX)
    obtain ⟨cX, fX, lX⟩ := rX
    have hGa : Below W.heap.size W w2 := by (repeat' (first | (with_reducible exact Below.refl _ _) | (with_reducible assumption) | (with_reducible refine Below.alloc ?_ ?_ _) | (with_reducible refine Below.setCell ?_ ?_ _) | (with_reducible refine Below.drew ?_) | (with_reducible refine below_drewN' ?_ _) | (with_reducible refine below_step (by assumption) ?_ ?_) | (with_reducible refine below_gstep (by assumption) ?_ ?_ ?_) | (with_reducible exact Below.size (by assumption)) | omega | (simp; done) | (simp; omega)))
    have zGa := hGa.size
    clear hb1 hb2
    go_wp2_with fail
    refine (specStatsLost _ _ _ _ _ _).mono ?_
    rintro e w3 ⟨rfl, hb3⟩
    have rX : Row w3 (w1.heap.size) _ := Row.below (by (repeat' (first | (with_reducible assumption) | (with_reducible exact Row.new _ _ _) | (with_reducible exact Row.new1 _ _ _ _) | (with_reducible exact Row.new2 _ _ _ _ _) | (with_reducible exact Row.new2' _ _ _ _ _) | ((with_reducible apply Row.mk) <;> (with_reducible assumption)) | (with_reducible apply Row.alloc) | (with_reducible apply Row.set) | (with_reducible apply Row.far) | (with_reducible apply Row.drew) | (with_reducible apply Row.drewN) | omega | (simp; done) | (simp; omega)))) hb3
    (try clear cX fX lX)
    obtain ⟨cX, fX, lX⟩ := rX
    have hG3 : Below W.heap.size W w3 := by (repeat' (first | (with_reducible exact Below.refl _ _) | (with_reducible assumption) | (with_reducible refine Below.alloc ?_ ?_ _) | (with_reducible refine Below.setCell ?_ ?_ _) | (with_reducible refine Below.drew ?_) | (with_reducible refine below_drewN' ?_ _) | (with_reducible refine below_step (by assumption) ?_ ?_) | (with_reducible refine below_gstep (by assumption) ?_ ?_ ?_) | (with_reducible exact Below.size (by assumption)) | omega | (simp; done) | (simp; omega)))
    have zG3 := hG3.size
    clear hGa hb3
    have hL : statsB f m g d' t = true → lostN f m g d' t = m - f + 1 - g := lostN_eq
    have HL := hide hL
    clear hL
    obtain ⟨L, hLL⟩ : ∃ L, lostN f m g d' t = L := ⟨_, rfl⟩
    rw [hLL]
    rw [hLL] at HL
    clear hLL
    go_wp2_with fail
    refine (specStatsValid _ _ _ _ _ _).mono ?_
    rintro e w4 ⟨rfl, hb4⟩
    have rX : Row w4 (w1.heap.size) _ := Row.below (by (repeat' (first | (with_reducible assumption) | (with_reducible exact Row.new _ _ _) | (with_reducible exact Row.new1 _ _ _ _) | (with_reducible exact Row.new2 _ _ _ _ _) | (with_reducible exact Row.new2' _ _ _ _ _) | ((with_reducible apply Row.mk) <;> (with_reducible assumption)) | (with_reducible apply Row.alloc) | (with_reducible apply Row.set) | (with_reducible apply Row.far) | (with_reducible apply Row.drew) | (with_reducible apply Row.drewN) | omega | (simp; done) | (simp; omega)))) hb4
    (try clear cX fX lX)
    obtain ⟨cX, fX, lX⟩ := rX
    have hG4 : Below W.heap.size W w4 := by (repeat' (first | (with_reducible exact Below.refl _ _) | (with_reducible assumption) | (with_reducible refine Below.alloc ?_ ?_ _) | (with_reducible refine Below.setCell ?_ ?_ _) | (with_reducible refine Below.drew ?_) | (with_reducible refine below_drewN' ?_ _) | (with_reducible refine below_step (by assumption) ?_ ?_) | (with_reducible refine below_gstep (by assumption) ?_ ?_ ?_) | (with_reducible exact Below.size (by assumption)) | omega | (simp; done) | (simp; omega)))
    have zG4 := hG4.size
    clear hG3 hb4
    by_cases hv : statsB f m g d' t = true
    · obtain ⟨q1, q2, q3, q4, q5, _⟩ := statsB_bd hv
      have e := HL.out hv
      subst e
      have e2 : (m - f + 1 - g + g == m - f + 1) = true := by simp
      clear HL
      go_wp2_with fail
      go_ret
      refine ⟨by first | rfl | (simp [e2]; done), ?_⟩
      (repeat' (first | (with_reducible exact Below.refl _ _) | (with_reducible assumption) | (with_reducible refine Below.alloc ?_ ?_ _) | (with_reducible refine Below.setCell ?_ ?_ _) | (with_reducible refine Below.drew ?_) | (with_reducible refine below_drewN' ?_ _) | (with_reducible refine below_step (by assumption) ?_ ?_) | (with_reducible refine below_gstep (by assumption) ?_ ?_ ?_) | (with_reducible exact Below.size (by assumption)) | omega | (simp; done) | (simp; omega)))
    · have hv' : statsB f m g d' t = false := by simpa using hv
      clear hv HL
      go_wp2_with fail
      go_ret
      refine ⟨by first | rfl | (simp; done), ?_⟩
      (repeat' (first | (with_reducible exact Below.refl _ _) | (with_reducible assumption) | (with_reducible refine Below.alloc ?_ ?_ _) | (with_reducible refine Below.setCell ?_ ?_ _) | (with_reducible refine Below.drew ?_) | (with_reducible refine below_drewN' ?_ _) | (with_reducible refine below_step (by assumption) ?_ ?_) | (with_reducible refine below_gstep (by assumption) ?_ ?_ ?_) | (with_reducible exact Below.size (by assumption)) | omega | (simp; done) | (simp; omega)))
theorem part_self {f m g d t : Int} (h : statsB f m g d t = true) : partR f m g d t f m g d t 0 :=
  .inr (.inr ⟨h, h, .inr ⟨rfl, by omega, by omega, .inl ⟨by omega, rfl⟩⟩⟩)
theorem part_pos {f0 m0 g0 d0 t0 f m g d t r : Int} (h : partR f0 m0 g0 d0 t0 f m g d t r) (hr : 0 ≤ r) :
    statsB f0 m0 g0 d0 t0 = true ∧ statsB f m g d t = true ∧ f = f0 ∧ m0 ≤ m ∧ g0 ≤ g ∧ r ≤ 256 ∧ (m - g - m0 + g0 ≤ 0 ∧ r = 0 ∨ 0 < m - g - m0 + g0 ∧ 0 < m - m0 ∧ r * (m - m0) ≤ 256 * (m - g - m0 + g0) ∧ 256 * (m - g - m0 + g0) < (r + 1) * (m - m0)) := by
  rcases h with ⟨h1, rfl⟩ | ⟨h1, h2, rfl⟩ | ⟨h1, h2, ⟨h3, rfl⟩ | ⟨rfl, h4, h5, ⟨h6, rfl⟩ | ⟨h6, h7, rfl⟩⟩⟩
  · omega
  · omega
  · omega
  · exact ⟨h1, h2, rfl, h4, h5, by omega, .inl ⟨h6, rfl⟩⟩
  · obtain ⟨D, hD⟩ : ∃ D, m - m0 = D := ⟨_, rfl⟩
    obtain ⟨L, hL⟩ : ∃ L, m - g - m0 + g0 = L := ⟨_, rfl⟩
    have hLD : L ≤ D := by omega
    have h6' : 0 < L := by omega
    have h7' : 0 < D := by omega
    rw [hD, hL]
    refine ⟨h1, h2, rfl, h4, h5, ?_, .inr ⟨h6', h7', Int.ediv_mul_le _ (by omega), Int.lt_ediv_add_one_mul_self _ h7'⟩⟩
    have : 256 * L / D ≤ 256 * D / D := Int.ediv_le_ediv h7' (by omega)
    rwa [Int.mul_ediv_cancel _ (by omega)] at this
set_option maxHeartbeats 1000000 in
theorem walk_fnStatsPart {H : Type} {enc : TypeId × Value → H} (W : World) (base : Nat) (v : Value) (d : DataW H) (p : List MemPlace) (o : Value.okWide Try.prog W .any base 31 v) (h : DataW.Trod enc Try.prog W 0 (fun _ => true) true 31 v d p) :
    Calls Try.prog 8 #[v] W (RetB true W) := by
  obtain ⟨A, n, c, rfl, hn, hm, hcode⟩ := open_code W base v d p o h
  clear o h
  by_cases hbig : 1048576 < (n : Int)
  · clear hcode
    go_enter Try.func8, Try.ntmps8
    go_wp2
    go_ret
    refine ⟨rfl, ?_⟩
    (repeat' (first | (with_reducible exact Below.refl _ _) | (with_reducible assumption) | (with_reducible refine Below.alloc ?_ ?_ _) | (with_reducible refine Below.setCell ?_ ?_ _) | (with_reducible refine Below.drew ?_) | (with_reducible refine below_drewN' ?_ _) | (with_reducible refine below_step (by assumption) ?_ ?_) | (with_reducible refine below_gstep (by assumption) ?_ ?_ ?_) | (with_reducible exact Below.size (by assumption)) | omega | (simp; done) | (simp; omega)))
  · have Hcode := hide hcode
    clear hcode
    go_enter Try.func8, Try.ntmps8
    go_wp2_with fail
    refine (drawStatsPart W.heap.size A n c _ Hcode.out hn hm (Nat.le_refl _)).mono ?_
    rintro e w1 ⟨v, rfl, ⟨f0, m0, g0, d0, t0, f, m, g, d', t, rfl⟩, hb1⟩
    clear Hcode
    have zb := hb1.size
    obtain ⟨r, hr⟩ := partR_some f0 m0 g0 d0 t0 f m g d' t
    have Hr := hide hr
    clear hr
    go_wp2_with fail
    refine (implStatsPart _ _ _ _ _ _ _ _ _ _ r _ Hr.out).mono ?_
    rintro e w2 ⟨rfl, hb2⟩
    have rX : Row w2 (w1.heap.size) _ := Row.below (by (repeat' (first | (with_reducible assumption) | (with_reducible exact Row.new _ _ _) | (with_reducible exact Row.new1 _ _ _ _) | (with_reducible exact Row.new2 _ _ _ _ _) | (with_reducible exact Row.new2' _ _ _ _ _) | ((with_reducible apply Row.mk) <;> (with_reducible assumption)) | (with_reducible apply Row.alloc) | (with_reducible apply Row.set) | (with_reducible apply Row.far) | (with_reducible apply Row.drew) | (with_reducible apply Row.drewN) | omega | (simp; done) | (simp; omega)))) hb2
    have rY : Row w2 (w1.heap.size + 1) _ := Row.below (by (repeat' (first | (with_reducible assumption) | (with_reducible exact Row.new _ _ _) | (with_reducible exact Row.new1 _ _ _ _) | (with_reducible exact Row.new2 _ _ _ _ _) | (with_reducible exact Row.new2' _ _ _ _ _) | ((with_reducible apply Row.mk) <;> (with_reducible assumption)) | (with_reducible apply Row.alloc) | (with_reducible apply Row.set) | (with_reducible apply Row.far) | (with_reducible apply Row.drew) | (with_reducible apply Row.drewN) | omega | (simp; done) | (simp; omega)))) hb2
    (try clear cX fX lX)
    (try clear cY fY lY)
    obtain ⟨cX, fX, lX⟩ := rX
    obtain ⟨cY, fY, lY⟩ := rY
    have hGa : Below W.heap.size W w2 := by (repeat' (first | (with_reducible exact Below.refl _ _) | (with_reducible assumption) | (with_reducible refine Below.alloc ?_ ?_ _) | (with_reducible refine Below.setCell ?_ ?_ _) | (with_reducible refine Below.drew ?_) | (with_reducible refine below_drewN' ?_ _) | (with_reducible refine below_step (by assumption) ?_ ?_) | (with_reducible refine below_gstep (by assumption) ?_ ?_ ?_) | (with_reducible exact Below.size (by assumption)) | omega | (simp; done) | (simp; omega)))
    have zGa := hGa.size
    clear hb1 hb2
    go_wp2_with fail
    refine (specStatsPart _ _ _ _ _ _ _ _ _ _ r _ Hr.out).mono ?_
    rintro e w3 ⟨rfl, hb3⟩
    have rX : Row w3 (w1.heap.size) _ := Row.below (by (repeat' (first | (with_reducible assumption) | (with_reducible exact Row.new _ _ _) | (with_reducible exact Row.new1 _ _ _ _) | (with_reducible exact Row.new2 _ _ _ _ _) | (with_reducible exact Row.new2' _ _ _ _ _) | ((with_reducible apply Row.mk) <;> (with_reducible assumption)) | (with_reducible apply Row.alloc) | (with_reducible apply Row.set) | (with_reducible apply Row.far) | (with_reducible apply Row.drew) | (with_reducible apply Row.drewN) | omega | (simp; done) | (simp; omega)))) hb3
    have rY : Row w3 (w1.heap.size + 1) _ := Row.below (by (repeat' (first | (with_reducible assumption) | (with_reducible exact Row.new _ _ _) | (with_reducible exact Row.new1 _ _ _ _) | (with_reducible exact Row.new2 _ _ _ _ _) | (with_reducible exact Row.new2' _ _ _ _ _) | ((with_reducible apply Row.mk) <;> (with_reducible assumption)) | (with_reducible apply Row.alloc) | (with_reducible apply Row.set) | (with_reducible apply Row.far) | (with_reducible apply Row.drew) | (with_reducible apply Row.drewN) | omega | (simp; done) | (simp; omega)))) hb3
    (try clear cX fX lX)
    (try clear cY fY lY)
    obtain ⟨cX, fX, lX⟩ := rX
    obtain ⟨cY, fY, lY⟩ := rY
    have hG3 : Below W.heap.size W w3 := by (repeat' (first | (with_reducible exact Below.refl _ _) | (with_reducible assumption) | (with_reducible refine Below.alloc ?_ ?_ _) | (with_reducible refine Below.setCell ?_ ?_ _) | (with_reducible refine Below.drew ?_) | (with_reducible refine below_drewN' ?_ _) | (with_reducible refine below_step (by assumption) ?_ ?_) | (with_reducible refine below_gstep (by assumption) ?_ ?_ ?_) | (with_reducible exact Below.size (by assumption)) | omega | (simp; done) | (simp; omega)))
    have zG3 := hG3.size
    clear hGa hb3
    by_cases hr0 : r < 0
    · go_wp2_with fail
      go_ret
      refine ⟨by first | rfl | (simp; done), ?_⟩
      (repeat' (first | (with_reducible exact Below.refl _ _) | (with_reducible assumption) | (with_reducible refine Below.alloc ?_ ?_ _) | (with_reducible refine Below.setCell ?_ ?_ _) | (with_reducible refine Below.drew ?_) | (with_reducible refine below_drewN' ?_ _) | (with_reducible refine below_step (by assumption) ?_ ?_) | (with_reducible refine below_gstep (by assumption) ?_ ?_ ?_) | (with_reducible exact Below.size (by assumption)) | omega | (simp; done) | (simp; omega)))
    · obtain ⟨k1, k2, rfl, -, -, k6, -⟩ := part_pos Hr.out (by omega)
      have k7 := hide (part_self k1)
      have k8 := hide (part_self k2)
      clear k1 k2
      go_wp2_with fail
      refine (implStatsPart _ _ _ _ _ _ _ _ _ _ 0 _ k8.out).mono ?_
      rintro e w4 ⟨rfl, hb4⟩
      have rX : Row w4 (w1.heap.size) _ := Row.below (by (repeat' (first | (with_reducible assumption) | (with_reducible exact Row.new _ _ _) | (with_reducible exact Row.new1 _ _ _ _) | (with_reducible exact Row.new2 _ _ _ _ _) | (with_reducible exact Row.new2' _ _ _ _ _) | ((with_reducible apply Row.mk) <;> (with_reducible assumption)) | (with_reducible apply Row.alloc) | (with_reducible apply Row.set) | (with_reducible apply Row.far) | (with_reducible apply Row.drew) | (with_reducible apply Row.drewN) | omega | (simp; done) | (simp; omega)))) hb4
      have rY : Row w4 (w1.heap.size + 1) _ := Row.below (by (repeat' (first | (with_reducible assumption) | (with_reducible exact Row.new _ _ _) | (with_reducible exact Row.new1 _ _ _ _) | (with_reducible exact Row.new2 _ _ _ _ _) | (with_reducible exact Row.new2' _ _ _ _ _) | ((with_reducible apply Row.mk) <;> (with_reducible assumption)) | (with_reducible apply Row.alloc) | (with_reducible apply Row.set) | (with_reducible apply Row.far) | (with_reducible apply Row.drew) | (with_reducible apply Row.drewN) | omega | (simp; done) | (simp; omega)))) hb4
      (try clear cX fX lX)
      (try clear cY fY lY)
      obtain ⟨cX, fX, lX⟩ := rX
      obtain ⟨cY, fY, lY⟩ := rY
      have hG4 : Below W.heap.size W w4 := by (repeat' (first | (with_reducible exact Below.refl _ _) | (with_reducible assumption) | (with_reducible refine Below.alloc ?_ ?_ _) | (with_reducible refine Below.setCell ?_ ?_ _) | (with_reducible refine Below.drew ?_) | (with_reducible refine below_drewN' ?_ _) | (with_reducible refine below_step (by assumption) ?_ ?_) | (with_reducible refine below_gstep (by assumption) ?_ ?_ ?_) | (with_reducible exact Below.size (by assumption)) | omega | (simp; done) | (simp; omega)))
      have zG4 := hG4.size
      clear hb4
      go_wp2_with fail
      refine (implStatsPart _ _ _ _ _ _ _ _ _ _ 0 _ k7.out).mono ?_
      rintro e w5 ⟨rfl, hb5⟩
      have hG5 : Below W.heap.size W w5 := by (repeat' (first | (with_reducible exact Below.refl _ _) | (with_reducible assumption) | (with_reducible refine Below.alloc ?_ ?_ _) | (with_reducible refine Below.setCell ?_ ?_ _) | (with_reducible refine Below.drew ?_) | (with_reducible refine below_drewN' ?_ _) | (with_reducible refine below_step (by assumption) ?_ ?_) | (with_reducible refine below_gstep (by assumption) ?_ ?_ ?_) | (with_reducible exact Below.size (by assumption)) | omega | (simp; done) | (simp; omega)))
      have zG5 := hG5.size
      clear hb5
      go_wp2_with fail
      go_ret
      refine ⟨by first | rfl | (simp; done), ?_⟩
      (repeat' (first | (with_reducible exact Below.refl _ _) | (with_reducible assumption) | (with_reducible refine Below.alloc ?_ ?_ _) | (with_reducible refine Below.setCell ?_ ?_ _) | (with_reducible refine Below.drew ?_) | (with_reducible refine below_drewN' ?_ _) | (with_reducible refine below_step (by assumption) ?_ ?_) | (with_reducible refine below_gstep (by assumption) ?_ ?_ ?_) | (with_reducible exact Below.size (by assumption)) | omega | (simp; done) | (simp; omega)))
set_option maxHeartbeats 1000000 in
theorem walk_fnStatsPartLost {H : Type} {enc : TypeId × Value → H} (W : World) (base : Nat) (v : Value) (d : DataW H) (p : List MemPlace) (o : Value.okWide Try.prog W .any base 31 v) (h : DataW.Trod enc Try.prog W 0 (fun _ => true) true 31 v d p) :
    Calls Try.prog 9 #[v] W (RetB true W) := by
  obtain ⟨A, n, c, rfl, hn, hm, hcode⟩ := open_code W base v d p o h
  clear o h
  by_cases hbig : 1048576 < (n : Int)
  · clear hcode
    go_enter Try.func9, Try.ntmps9
    go_wp2
    go_ret
    refine ⟨rfl, ?_⟩
    (repeat' (first | (with_reducible exact Below.refl _ _) | (with_reducible assumption) | (with_reducible refine Below.alloc ?_ ?_ _) | (with_reducible refine Below.setCell ?_ ?_ _) | (with_reducible refine Below.drew ?_) | (with_reducible refine below_drewN' ?_ _) | (with_reducible refine below_step (by assumption) ?_ ?_) | (with_reducible refine below_gstep (by assumption) ?_ ?_ ?_) | (with_reducible exact Below.size (by assumption)) | omega | (simp; done) | (simp; omega)))
  · have Hcode := hide hcode
    clear hcode
    go_enter Try.func9, Try.ntmps9
    go_wp2_with fail
    refine (drawStatsPart W.heap.size A n c _ Hcode.out hn hm (Nat.le_refl _)).mono ?_
    rintro e w1 ⟨v, rfl, ⟨f0, m0, g0, d0, t0, f, m, g, d', t, rfl⟩, hb1⟩
    clear Hcode
    have zb := hb1.size
    obtain ⟨r, hr⟩ := partR_some f0 m0 g0 d0 t0 f m g d' t
    have Hr := hide hr
    clear hr
    go_wp2_with fail
    refine (implStatsPart _ _ _ _ _ _ _ _ _ _ r _ Hr.out).mono ?_
    rintro e w2 ⟨rfl, hb2⟩
    have rX : Row w2 (w1.heap.size) _ := Row.below (by (repeat' (first | (with_reducible assumption) | (with_reducible exact Row.new _ _ _) | (with_reducible exact Row.new1 _ _ _ _) | (with_reducible exact Row.new2 _ _ _ _ _) | (with_reducible exact Row.new2' _ _ _ _ _) | ((with_reducible apply Row.mk) <;> (with_reducible assumption)) | (with_reducible apply Row.alloc) | (with_reducible apply Row.set) | (with_reducible apply Row.far) | (with_reducible apply Row.drew) | (with_reducible apply Row.drewN) | omega | (simp; done) | (simp; omega)))) hb2
    have rY : Row w2 (w1.heap.size + 1) _ := Row.below (by (repeat' (first | (with_reducible assumption) | (with_reducible exact Row.new _ _ _) | (with_reducible exact Row.new1 _ _ _ _) | (with_reducible exact Row.new2 _ _ _ _ _) | (with_reducible exact Row.new2' _ _ _ _ _) | ((with_reducible apply Row.mk) <;> (with_reducible assumption)) | (with_reducible apply Row.alloc) | (with_reducible apply Row.set) | (with_reducible apply Row.far) | (with_reducible apply Row.drew) | (with_reducible apply Row.drewN) | omega | (simp; done) | (simp; omega)))) hb2
    (try clear cX fX lX)
    (try clear cY fY lY)
    obtain ⟨cX, fX, lX⟩ := rX
    obtain ⟨cY, fY, lY⟩ := rY
    have hGa : Below W.heap.size W w2 := by (repeat' (first | (with_reducible exact Below.refl _ _) | (with_reducible assumption) | (with_reducible refine Below.alloc ?_ ?_ _) | (with_reducible refine Below.setCell ?_ ?_ _) | (with_reducible refine Below.drew ?_) | (with_reducible refine below_drewN' ?_ _) | (with_reducible refine below_step (by assumption) ?_ ?_) | (with_reducible refine below_gstep (by assumption) ?_ ?_ ?_) | (with_reducible exact Below.size (by assumption)) | omega | (simp; done) | (simp; omega)))
    have zGa := hGa.size
    clear hb1 hb2
    go_wp2_with fail
    refine (specStatsPart _ _ _ _ _ _ _ _ _ _ r _ Hr.out).mono ?_
    rintro e w3 ⟨rfl, hb3⟩
    have rX : Row w3 (w1.heap.size) _ := Row.below (by (repeat' (first | (with_reducible assumption) | (with_reducible exact Row.new _ _ _) | (with_reducible exact Row.new1 _ _ _ _) | (with_reducible exact Row.new2 _ _ _ _ _) | (with_reducible exact Row.new2' _ _ _ _ _) | ((with_reducible apply Row.mk) <;> (with_reducible assumption)) | (with_reducible apply Row.alloc) | (with_reducible apply Row.set) | (with_reducible apply Row.far) | (with_reducible apply Row.drew) | (with_reducible apply Row.drewN) | omega | (simp; done) | (simp; omega)))) hb3
    have rY : Row w3 (w1.heap.size + 1) _ := Row.below (by (repeat' (first | (with_reducible assumption) | (with_reducible exact Row.new _ _ _) | (with_reducible exact Row.new1 _ _ _ _) | (with_reducible exact Row.new2 _ _ _ _ _) | (with_reducible exact Row.new2' _ _ _ _ _) | ((with_reducible apply Row.mk) <;> (with_reducible assumption)) | (with_reducible apply Row.alloc) | (with_reducible apply Row.set) | (with_reducible apply Row.far) | (with_reducible apply Row.drew) | (with_reducible apply Row.drewN) | omega | (simp; done) | (simp; omega)))) hb3
    (try clear cX fX lX)
    (try clear cY fY lY)
    obtain ⟨cX, fX, lX⟩ := rX
    obtain ⟨cY, fY, lY⟩ := rY
    have hG3 : Below W.heap.size W w3 := by (repeat' (first | (with_reducible exact Below.refl _ _) | (with_reducible assumption) | (with_reducible refine Below.alloc ?_ ?_ _) | (with_reducible refine Below.setCell ?_ ?_ _) | (with_reducible refine Below.drew ?_) | (with_reducible refine below_drewN' ?_ _) | (with_reducible refine below_step (by assumption) ?_ ?_) | (with_reducible refine below_gstep (by assumption) ?_ ?_ ?_) | (with_reducible exact Below.size (by assumption)) | omega | (simp; done) | (simp; omega)))
    have zG3 := hG3.size
    clear hGa hb3
    by_cases hr0 : r < 1
    · go_wp2_with fail
      go_ret
      refine ⟨by first | rfl | (simp; done), ?_⟩
      (repeat' (first | (with_reducible exact Below.refl _ _) | (with_reducible assumption) | (with_reducible refine Below.alloc ?_ ?_ _) | (with_reducible refine Below.setCell ?_ ?_ _) | (with_reducible refine Below.drew ?_) | (with_reducible refine below_drewN' ?_ _) | (with_reducible refine below_step (by assumption) ?_ ?_) | (with_reducible refine below_gstep (by assumption) ?_ ?_ ?_) | (with_reducible exact Below.size (by assumption)) | omega | (simp; done) | (simp; omega)))
    · obtain ⟨k1, k2, rfl, k4, k5, k6, k9⟩ := part_pos Hr.out (by omega)
      obtain ⟨a1, a2, a3, a4, a5, _⟩ := statsB_bd k1
      obtain ⟨b1, b2, b3, b4, b5, _⟩ := statsB_bd k2
      have x1 : ¬ w1.heap.size = w1.heap.size + 1 := by omega
      have j1 := hide (lostI _ _ _ _ _ k1)
      have j2 := hide (lostI _ _ _ _ _ k2)
      clear k1 k2
      go_upto_region 9 with (fail)
      go_region_held3 (fun w' => (∀ o, w'.cell? ⟨w1.heap.size, o, none⟩ = #[Value.int .i64 f, .int .i64 m0, .int .i64 g0, .int .i64 d0, .int .i64 t0][o]?) ∧ (∀ o, w'.cell? ⟨w1.heap.size + 1, o, none⟩ = #[Value.int .i64 f, .int .i64 m, .int .i64 g, .int .i64 d', .int .i64 t][o]?)) (first | (refine ⟨?_, ?_⟩ <;> (with_reducible assumption)) | go_keep) (first | (go_at_call 15; (with_reducible refine (j2.out _).mono ?_); rintro e w4 ⟨rfl, hb4⟩; have rX : Row w4 (w1.heap.size) _ := Row.below (by (repeat' (first | (with_reducible assumption) | (with_reducible exact Row.new _ _ _) | (with_reducible exact Row.new1 _ _ _ _) | (with_reducible exact Row.new2 _ _ _ _ _) | (with_reducible exact Row.new2' _ _ _ _ _) | ((with_reducible apply Row.mk) <;> (with_reducible assumption)) | (with_reducible apply Row.alloc) | (with_reducible apply Row.set) | (with_reducible apply Row.far) | (with_reducible apply Row.drew) | (with_reducible apply Row.drewN) | omega | (simp; done) | (simp; omega)))) hb4; have rY : Row w4 (w1.heap.size + 1) _ := Row.below (by (repeat' (first | (with_reducible assumption) | (with_reducible exact Row.new _ _ _) | (with_reducible exact Row.new1 _ _ _ _) | (with_reducible exact Row.new2 _ _ _ _ _) | (with_reducible exact Row.new2' _ _ _ _ _) | ((with_reducible apply Row.mk) <;> (with_reducible assumption)) | (with_reducible apply Row.alloc) | (with_reducible apply Row.set) | (with_reducible apply Row.far) | (with_reducible apply Row.drew) | (with_reducible apply Row.drewN) | omega | (simp; done) | (simp; omega)))) hb4; obtain ⟨cX, fX, lX⟩ := rX; obtain ⟨cY, fY, lY⟩ := rY) | (go_at_call 15; (with_reducible refine (j1.out _).mono ?_); rintro e w4 ⟨rfl, hb4⟩; have rX : Row w4 (w1.heap.size) _ := Row.below (by (repeat' (first | (with_reducible assumption) | (with_reducible exact Row.new _ _ _) | (with_reducible exact Row.new1 _ _ _ _) | (with_reducible exact Row.new2 _ _ _ _ _) | (with_reducible exact Row.new2' _ _ _ _ _) | ((with_reducible apply Row.mk) <;> (with_reducible assumption)) | (with_reducible apply Row.alloc) | (with_reducible apply Row.set) | (with_reducible apply Row.far) | (with_reducible apply Row.drew) | (with_reducible apply Row.drewN) | omega | (simp; done) | (simp; omega)))) hb4; have rY : Row w4 (w1.heap.size + 1) _ := Row.below (by (repeat' (first | (with_reducible assumption) | (with_reducible exact Row.new _ _ _) | (with_reducible exact Row.new1 _ _ _ _) | (with_reducible exact Row.new2 _ _ _ _ _) | (with_reducible exact Row.new2' _ _ _ _ _) | ((with_reducible apply Row.mk) <;> (with_reducible assumption)) | (with_reducible apply Row.alloc) | (with_reducible apply Row.set) | (with_reducible apply Row.far) | (with_reducible apply Row.drew) | (with_reducible apply Row.drewN) | omega | (simp; done) | (simp; omega)))) hb4; obtain ⟨cX, fX, lX⟩ := rX; obtain ⟨cY, fY, lY⟩ := rY))
      obtain ⟨L, hL⟩ : ∃ L, IntKind.i64.wrap (m - f + 1 - g - (m0 - f + 1 - g0)) = L := ⟨_, rfl⟩
      have hL2 : L = m - g - m0 + g0 := by rw [← hL, IntWalk.i64_in _ (by omega)]; omega
      obtain ⟨D, hD⟩ : ∃ D, m - m0 = D := ⟨_, rfl⟩
      rw [hL, hD]
      have p1 : r * D ≤ 256 * L ∧ 256 * L < (r + 1) * D ∧ 0 ≤ D ∧ D ≤ 999999 ∧ 0 ≤ L ∧ L ≤ 1999999 := by
        rcases k9 with ⟨_, h⟩ | ⟨h1, h2, h3, h4⟩
        · omega
        · rw [hL2, ← hD]; exact ⟨h3, h4, by omega, by omega, by omega, by omega⟩
      obtain ⟨p1, p2, p3, p4, p5, p6⟩ := p1
      have p7 : 0 ≤ r * D := Int.mul_nonneg (by omega) p3
      have p8 : (r + 1) * D ≤ 257 * 999999 := Int.mul_le_mul (by omega) p4 p3 (by omega)
      have p9 : 0 ≤ (r + 1) * D := Int.mul_nonneg (by omega) p3
      clear hL hL2 hD k9 j1 j2 Hr
      go_wp2_with fail
      go_ret
      refine ⟨by first | rfl | (simp; done), ?_⟩
      (repeat' (first | (with_reducible exact Below.refl _ _) | (with_reducible assumption) | (with_reducible refine Below.alloc ?_ ?_ _) | (with_reducible refine Below.setCell ?_ ?_ _) | (with_reducible refine Below.drew ?_) | (with_reducible refine below_drewN' ?_ _) | (with_reducible refine below_step (by assumption) ?_ ?_) | (with_reducible refine below_gstep (by assumption) ?_ ?_ ?_) | (with_reducible exact Below.size (by assumption)) | omega | (simp; done) | (simp; omega)))
set_option maxHeartbeats 1000000 in
theorem walk_fnStatsPartNone {H : Type} {enc : TypeId × Value → H} (W : World) (base : Nat) (v : Value) (d : DataW H) (p : List MemPlace) (o : Value.okWide Try.prog W .any base 31 v) (h : DataW.Trod enc Try.prog W 0 (fun _ => true) true 31 v d p) :
    Calls Try.prog 10 #[v] W (RetB true W) := by
  obtain ⟨A, n, c, rfl, hn, hm, hcode⟩ := open_code W base v d p o h
  clear o h
  by_cases hbig : 1048576 < (n : Int)
  · clear hcode
    go_enter Try.func10, Try.ntmps10
    go_wp2
    go_ret
    refine ⟨rfl, ?_⟩
    (repeat' (first | (with_reducible exact Below.refl _ _) | (with_reducible assumption) | (with_reducible refine Below.alloc ?_ ?_ _) | (with_reducible refine Below.setCell ?_ ?_ _) | (with_reducible refine Below.drew ?_) | (with_reducible refine below_drewN' ?_ _) | (with_reducible refine below_step (by assumption) ?_ ?_) | (with_reducible refine below_gstep (by assumption) ?_ ?_ ?_) | (with_reducible exact Below.size (by assumption)) | omega | (simp; done) | (simp; omega)))
  · have Hcode := hide hcode
    clear hcode
    go_enter Try.func10, Try.ntmps10
    go_wp2_with fail
    refine (drawStatsPart W.heap.size A n c _ Hcode.out hn hm (Nat.le_refl _)).mono ?_
    rintro e w1 ⟨v, rfl, ⟨f0, m0, g0, d0, t0, f, m, g, d', t, rfl⟩, hb1⟩
    clear Hcode
    have zb := hb1.size
    obtain ⟨r, hr⟩ := partR_some f0 m0 g0 d0 t0 f m g d' t
    have Hr := hide hr
    clear hr
    go_wp2_with fail
    refine (implStatsPart _ _ _ _ _ _ _ _ _ _ r _ Hr.out).mono ?_
    rintro e w2 ⟨rfl, hb2⟩
    have rX : Row w2 (w1.heap.size) _ := Row.below (by (repeat' (first | (with_reducible assumption) | (with_reducible exact Row.new _ _ _) | (with_reducible exact Row.new1 _ _ _ _) | (with_reducible exact Row.new2 _ _ _ _ _) | (with_reducible exact Row.new2' _ _ _ _ _) | ((with_reducible apply Row.mk) <;> (with_reducible assumption)) | (with_reducible apply Row.alloc) | (with_reducible apply Row.set) | (with_reducible apply Row.far) | (with_reducible apply Row.drew) | (with_reducible apply Row.drewN) | omega | (simp; done) | (simp; omega)))) hb2
    have rY : Row w2 (w1.heap.size + 1) _ := Row.below (by (repeat' (first | (with_reducible assumption) | (with_reducible exact Row.new _ _ _) | (with_reducible exact Row.new1 _ _ _ _) | (with_reducible exact Row.new2 _ _ _ _ _) | (with_reducible exact Row.new2' _ _ _ _ _) | ((with_reducible apply Row.mk) <;> (with_reducible assumption)) | (with_reducible apply Row.alloc) | (with_reducible apply Row.set) | (with_reducible apply Row.far) | (with_reducible apply Row.drew) | (with_reducible apply Row.drewN) | omega | (simp; done) | (simp; omega)))) hb2
    (try clear cX fX lX)
    (try clear cY fY lY)
    obtain ⟨cX, fX, lX⟩ := rX
    obtain ⟨cY, fY, lY⟩ := rY
    have hGa : Below W.heap.size W w2 := by (repeat' (first | (with_reducible exact Below.refl _ _) | (with_reducible assumption) | (with_reducible refine Below.alloc ?_ ?_ _) | (with_reducible refine Below.setCell ?_ ?_ _) | (with_reducible refine Below.drew ?_) | (with_reducible refine below_drewN' ?_ _) | (with_reducible refine below_step (by assumption) ?_ ?_) | (with_reducible refine below_gstep (by assumption) ?_ ?_ ?_) | (with_reducible exact Below.size (by assumption)) | omega | (simp; done) | (simp; omega)))
    have zGa := hGa.size
    clear hb1 hb2
    go_wp2_with fail
    refine (specStatsPart _ _ _ _ _ _ _ _ _ _ r _ Hr.out).mono ?_
    rintro e w3 ⟨rfl, hb3⟩
    have rX : Row w3 (w1.heap.size) _ := Row.below (by (repeat' (first | (with_reducible assumption) | (with_reducible exact Row.new _ _ _) | (with_reducible exact Row.new1 _ _ _ _) | (with_reducible exact Row.new2 _ _ _ _ _) | (with_reducible exact Row.new2' _ _ _ _ _) | ((with_reducible apply Row.mk) <;> (with_reducible assumption)) | (with_reducible apply Row.alloc) | (with_reducible apply Row.set) | (with_reducible apply Row.far) | (with_reducible apply Row.drew) | (with_reducible apply Row.drewN) | omega | (simp; done) | (simp; omega)))) hb3
    have rY : Row w3 (w1.heap.size + 1) _ := Row.below (by (repeat' (first | (with_reducible assumption) | (with_reducible exact Row.new _ _ _) | (with_reducible exact Row.new1 _ _ _ _) | (with_reducible exact Row.new2 _ _ _ _ _) | (with_reducible exact Row.new2' _ _ _ _ _) | ((with_reducible apply Row.mk) <;> (with_reducible assumption)) | (with_reducible apply Row.alloc) | (with_reducible apply Row.set) | (with_reducible apply Row.far) | (with_reducible apply Row.drew) | (with_reducible apply Row.drewN) | omega | (simp; done) | (simp; omega)))) hb3
    (try clear cX fX lX)
    (try clear cY fY lY)
    obtain ⟨cX, fX, lX⟩ := rX
    obtain ⟨cY, fY, lY⟩ := rY
    have hG3 : Below W.heap.size W w3 := by (repeat' (first | (with_reducible exact Below.refl _ _) | (with_reducible assumption) | (with_reducible refine Below.alloc ?_ ?_ _) | (with_reducible refine Below.setCell ?_ ?_ _) | (with_reducible refine Below.drew ?_) | (with_reducible refine below_drewN' ?_ _) | (with_reducible refine below_step (by assumption) ?_ ?_) | (with_reducible refine below_gstep (by assumption) ?_ ?_ ?_) | (with_reducible exact Below.size (by assumption)) | omega | (simp; done) | (simp; omega)))
    have zG3 := hG3.size
    clear hGa hb3
    by_cases hr0 : r < 0
    · go_wp2_with fail
      go_ret
      refine ⟨by first | rfl | (simp; done), ?_⟩
      (repeat' (first | (with_reducible exact Below.refl _ _) | (with_reducible assumption) | (with_reducible refine Below.alloc ?_ ?_ _) | (with_reducible refine Below.setCell ?_ ?_ _) | (with_reducible refine Below.drew ?_) | (with_reducible refine below_drewN' ?_ _) | (with_reducible refine below_step (by assumption) ?_ ?_) | (with_reducible refine below_gstep (by assumption) ?_ ?_ ?_) | (with_reducible exact Below.size (by assumption)) | omega | (simp; done) | (simp; omega)))
    · obtain ⟨k1, k2, rfl, k4, k5, k6, k9⟩ := part_pos Hr.out (by omega)
      obtain ⟨a1, a2, a3, a4, a5, _⟩ := statsB_bd k1
      obtain ⟨b1, b2, b3, b4, b5, _⟩ := statsB_bd k2
      obtain ⟨L1, hL1⟩ : ∃ L1, L1 = m0 - f + 1 - g0 := ⟨_, rfl⟩
      obtain ⟨L2, hL2⟩ : ∃ L2, L2 = m - f + 1 - g := ⟨_, rfl⟩
      have hd : (decide (L1 < L2) = true) ∨ (decide (L1 < L2) = false ∧ r = 0) := by
        by_cases hc : L1 < L2
        · exact .inl (decide_eq_true hc)
        · refine .inr ⟨decide_eq_false hc, ?_⟩
          rcases k9 with ⟨_, h⟩ | ⟨h1, _⟩ <;> omega
      clear k9
      have x1 : ¬ w1.heap.size = w1.heap.size + 1 := by omega
      have i1 := lostI _ _ _ _ _ k1
      have i2 := lostI _ _ _ _ _ k2
      rw [← hL1] at i1
      rw [← hL2] at i2
      have j1 := hide i1
      have j2 := hide i2
      clear k1 k2 i1 i2 hL1 hL2
      go_upto_region 8 with (fail)
      rcases hd with hd | ⟨hd, rfl⟩
      all_goals
        first | (go_region_with (first | (go_at_call 15; (with_reducible refine (j2.out _).mono ?_); rintro e w4 ⟨rfl, hb4⟩; have rX : Row w4 (w1.heap.size) _ := Row.below (by (repeat' (first | (with_reducible assumption) | (with_reducible exact Row.new _ _ _) | (with_reducible exact Row.new1 _ _ _ _) | (with_reducible exact Row.new2 _ _ _ _ _) | (with_reducible exact Row.new2' _ _ _ _ _) | ((with_reducible apply Row.mk) <;> (with_reducible assumption)) | (with_reducible apply Row.alloc) | (with_reducible apply Row.set) | (with_reducible apply Row.far) | (with_reducible apply Row.drew) | (with_reducible apply Row.drewN) | omega | (simp; done) | (simp; omega)))) hb4; have rY : Row w4 (w1.heap.size + 1) _ := Row.below (by (repeat' (first | (with_reducible assumption) | (with_reducible exact Row.new _ _ _) | (with_reducible exact Row.new1 _ _ _ _) | (with_reducible exact Row.new2 _ _ _ _ _) | (with_reducible exact Row.new2' _ _ _ _ _) | ((with_reducible apply Row.mk) <;> (with_reducible assumption)) | (with_reducible apply Row.alloc) | (with_reducible apply Row.set) | (with_reducible apply Row.far) | (with_reducible apply Row.drew) | (with_reducible apply Row.drewN) | omega | (simp; done) | (simp; omega)))) hb4; obtain ⟨cX, fX, lX⟩ := rX; obtain ⟨cY, fY, lY⟩ := rY) | (go_at_call 15; (with_reducible refine (j1.out _).mono ?_); rintro e w4 ⟨rfl, hb4⟩; have rX : Row w4 (w1.heap.size) _ := Row.below (by (repeat' (first | (with_reducible assumption) | (with_reducible exact Row.new _ _ _) | (with_reducible exact Row.new1 _ _ _ _) | (with_reducible exact Row.new2 _ _ _ _ _) | (with_reducible exact Row.new2' _ _ _ _ _) | ((with_reducible apply Row.mk) <;> (with_reducible assumption)) | (with_reducible apply Row.alloc) | (with_reducible apply Row.set) | (with_reducible apply Row.far) | (with_reducible apply Row.drew) | (with_reducible apply Row.drewN) | omega | (simp; done) | (simp; omega)))) hb4; have rY : Row w4 (w1.heap.size + 1) _ := Row.below (by (repeat' (first | (with_reducible assumption) | (with_reducible exact Row.new _ _ _) | (with_reducible exact Row.new1 _ _ _ _) | (with_reducible exact Row.new2 _ _ _ _ _) | (with_reducible exact Row.new2' _ _ _ _ _) | ((with_reducible apply Row.mk) <;> (with_reducible assumption)) | (with_reducible apply Row.alloc) | (with_reducible apply Row.set) | (with_reducible apply Row.far) | (with_reducible apply Row.drew) | (with_reducible apply Row.drewN) | omega | (simp; done) | (simp; omega)))) hb4; obtain ⟨cX, fX, lX⟩ := rX; obtain ⟨cY, fY, lY⟩ := rY))) | fail "region"
        all_goals
          clear j1 j2 Hr
          (try simp [Act.put, go_sem])
          go_wp2
          go_ret
          refine ⟨by first | (simp; done) | (simp [hd]; done), ?_⟩
          (repeat' (first | (with_reducible exact Below.refl _ _) | (with_reducible assumption) | (with_reducible refine Below.alloc ?_ ?_ _) | (with_reducible refine Below.setCell ?_ ?_ _) | (with_reducible refine Below.drew ?_) | (with_reducible refine below_drewN' ?_ _) | (with_reducible refine below_step (by assumption) ?_ ?_) | (with_reducible refine below_gstep (by assumption) ?_ ?_ ?_) | (with_reducible exact Below.size (by assumption)) | omega | (simp; done) | (simp; omega)))
end Go.Proofs.Ytcfcnefhjdoceaa
