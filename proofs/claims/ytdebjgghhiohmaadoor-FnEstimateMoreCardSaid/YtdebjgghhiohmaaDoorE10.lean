/- Walks of the seven laws on EstimateLoss and EstimateNext. -/
import Derived.Test.YtdebjgghhiohmaaDoorE9
namespace Go.Proofs.YtdebjgghhiohmaaDoor
open Go.ChangeShapes Go.WideShapes Go.ChangeAt Go.RowKit

theorem eqEst (a b c : Int) (w : World) : Calls Tryd.prog 13 #[.agg #[.int .i64 a, .int .i64 b, .int .i64 c], .agg #[.int .i64 a, .int .i64 b, .int .i64 c]] w (RetB true w) := by
  go_enter Tryd.func13, Tryd.ntmps13
  go_wp2
  go_ret
  refine ⟨rfl, ?_⟩
  (repeat' (first | (with_reducible exact Below.refl _ _) | (with_reducible assumption) | (with_reducible refine Below.alloc ?_ ?_ _) | (with_reducible refine Below.setCell ?_ ?_ _) | (with_reducible refine Below.drew ?_) | (with_reducible refine below_drewN' ?_ _) | (with_reducible refine below_step (by assumption) ?_ ?_) | (with_reducible refine below_gstep (by assumption) ?_ ?_ ?_) | (with_reducible exact Below.size (by assumption)) | omega | (simp; done) | (simp; omega)))
/-! ### Plain laws -/
theorem clamp_cases {l h x : Int} (hlh : l ≤ h) : (x < l ∧ clampN l h x = l) ∨ (l ≤ x ∧ x ≤ h ∧ clampN l h x = x) ∨ (h < x ∧ clampN l h x = h) := by
  unfold clampN
  repeat' split
  all_goals omega
theorem clamp_mono {l h x y : Int} (hlh : l ≤ h) (hxy : x ≤ y) : clampN l h x ≤ clampN l h y := by
  rcases clamp_cases (x := x) hlh with ⟨a, b⟩ | ⟨a, a', b⟩ | ⟨a, b⟩ <;> rcases clamp_cases (x := y) hlh with ⟨c, d⟩ | ⟨c, c', d⟩ | ⟨c, d⟩ <;> rw [b, d] <;> omega
theorem clamp_id {l h x : Int} (h1 : l ≤ x) (h2 : x ≤ h) : clampN l h x = x := by
  unfold clampN
  rw [if_neg (show ¬ x < l by omega), if_neg (show ¬ h < x by omega)]
theorem loss_facts {r l h p N L H : Int} {B : Bool} (hd : lossV r l h p N L H B) (hB : B = true) :
    estB r l h = true ∧ L = l ∧ H = h ∧ 0 ≤ p ∧ p ≤ 256 ∧ estB N l h = true ∧ (26 ≤ p ∧ N ≤ r ∨ 5 ≤ p ∧ p < 26 ∧ N = r ∨ p < 5 ∧ (r < N ∨ N = h ∧ N ≤ r)) := by
  rcases hd with ⟨h1, h2, h3, hN, rfl, rfl, _⟩ | ⟨_, _, _, _, rfl⟩
  · obtain ⟨k1, k2, k3, k4⟩ := estB_bd h1
    obtain ⟨q1, q2⟩ := clamp_bd (l := L) (h := H) (x := lossN r p) (by omega)
    rw [← hN] at q1 q2
    refine ⟨h1, rfl, rfl, h2, h3, decide_eq_true ⟨k1, q1, q2, k4⟩, ?_⟩
    obtain ⟨m1, m2⟩ := mul_bd (r := r) (p := p) (by omega) (by omega) h2 h3
    unfold lossN at hN
    rcases (show 26 ≤ p ∨ p < 5 ∨ (5 ≤ p ∧ p < 26) from by omega) with c1 | c1 | ⟨c1, c2⟩
    · rw [if_pos c1] at hN
      refine .inl ⟨c1, ?_⟩
      rcases clamp_cases (l := L) (h := H) (x := r - r * p / 512) (by omega) with ⟨a, b⟩ | ⟨a, a', b⟩ | ⟨a, b⟩ <;> omega
    · rw [if_neg (by omega), if_pos c1] at hN
      refine .inr (.inr ⟨c1, ?_⟩)
      rcases clamp_cases (l := L) (h := H) (x := r + r / 20 + 1) (by omega) with ⟨a, b⟩ | ⟨a, a', b⟩ | ⟨a, b⟩ <;> omega
    · rw [if_neg (by omega), if_neg (by omega), clamp_id (by omega) (by omega)] at hN
      exact .inr (.inl ⟨c1, c2, hN⟩)
  · cases hB
theorem lossN_mono {r p : Int} (h1 : 1 ≤ r) (h0 : 0 ≤ p) : lossN r (p + 1) ≤ lossN r p := by
  have hm : r * (p + 1) = r * p + r := by rw [Int.mul_add, Int.mul_one]
  have hp : 0 ≤ r * p := Int.mul_nonneg (by omega) h0
  unfold lossN
  rcases (show 26 ≤ p ∨ p = 25 ∨ p < 4 ∨ p = 4 ∨ (5 ≤ p ∧ p < 25) from by omega) with c | rfl | c | rfl | ⟨c, c'⟩
  · rw [if_pos (by omega), if_pos c, hm]; omega
  · rw [if_pos (by omega), if_neg (by omega), if_neg (by omega)]; omega
  · rw [if_neg (by omega), if_pos (by omega), if_neg (by omega), if_pos (by omega)]; omega
  · rw [if_neg (by omega), if_neg (by omega), if_neg (by omega), if_pos (by omega)]; omega
  · rw [if_neg (by omega), if_neg (by omega), if_neg (by omega), if_neg (by omega)]; omega
theorem loss_next {r l h p N L H : Int} (hd : lossV r l h p N L H true) (hp : p ≠ 256) : ∃ N', lossV r l h (p + 1) N' l h true ∧ N' ≤ N := by
  rcases hd with ⟨h1, h2, h3, hN, rfl, rfl, _⟩ | ⟨_, _, _, _, h⟩
  · obtain ⟨k1, k2, k3, k4⟩ := estB_bd h1
    refine ⟨_, .inl ⟨h1, by omega, by omega, rfl, rfl, rfl, rfl⟩, ?_⟩
    rw [hN]
    exact clamp_mono (by omega) (lossN_mono (by omega) h2)
  · cases h
theorem next_facts {r l h p u N L H : Int} {B : Bool} (hd : nextV r l h p u N L H B) (hB : B = true) :
    ∃ N0 N1 N2 : Int, nextV r l h p 0 N0 l h true ∧ nextV r l h p 1 N1 l h true ∧ nextV r l h p 2 N2 l h true ∧ lossV r l h p N0 l h true ∧ L = l ∧ H = h ∧ estB N l h = true ∧ N1 ≤ N2 ∧ N2 ≤ N0 ∧ N2 ≤ r ∧ N ≤ N0 ∧ (u ≠ 0 ∨ N = N0) := by
  rcases hd with ⟨h1, h2, h3, h4, h5, hN, rfl, rfl, _⟩ | ⟨_, _, _, _, rfl⟩ | ⟨_, _, _, _, _, _, _, rfl⟩
  · obtain ⟨k1, k2, k3, k4⟩ := estB_bd h1
    obtain ⟨M, hM⟩ : ∃ M, clampN L H (lossN r p) = M := ⟨_, rfl⟩
    obtain ⟨q1, q2⟩ := clamp_bd (l := L) (h := H) (x := lossN r p) (by omega)
    rw [hM] at q1 q2
    obtain ⟨X1, hX1⟩ : ∃ X, (if r - r / 6 < M then r - r / 6 else M) = X := ⟨_, rfl⟩
    obtain ⟨X2, hX2⟩ : ∃ X, (if r < M then r else M) = X := ⟨_, rfl⟩
    have e1 : X1 ≤ X2 ∧ X2 ≤ M ∧ X2 ≤ r := by
      rw [← hX1, ← hX2]
      repeat' split
      all_goals omega
    have n0 : nextN r L H p 0 = M := hM
    have n1 : nextN r L H p 1 = clampN L H X1 := by rw [next_1, hM, hX1]
    have n2 : nextN r L H p 2 = clampN L H X2 := by rw [next_2, hM, hX2]
    have i1 : clampN L H X1 ≤ clampN L H X2 := clamp_mono (by omega) e1.1
    have i2 : clampN L H X2 ≤ M := by have := clamp_mono (l := L) (h := H) (by omega) e1.2.1; rwa [clamp_id q1 q2] at this
    have i3 : clampN L H X2 ≤ r := by have := clamp_mono (l := L) (h := H) (by omega) e1.2.2; rwa [clamp_id k2 k3] at this
    obtain ⟨b1, b2⟩ := clamp_bd (l := L) (h := H) (x := X1) (by omega)
    obtain ⟨b3, b4⟩ := clamp_bd (l := L) (h := H) (x := X2) (by omega)
    refine ⟨M, clampN L H X1, clampN L H X2, .inl ⟨h1, h2, h3, by omega, by omega, n0.symm, rfl, rfl, rfl⟩, .inl ⟨h1, h2, h3, by omega, by omega, n1.symm, rfl, rfl, rfl⟩, .inl ⟨h1, h2, h3, by omega, by omega, n2.symm, rfl, rfl, rfl⟩, .inl ⟨h1, h2, h3, hM.symm, rfl, rfl, rfl⟩, rfl, rfl, ?_, i1, i2, i3, ?_⟩
    · rcases (show u = 0 ∨ u = 1 ∨ u = 2 from by omega) with rfl | rfl | rfl
      · rw [n0] at hN; subst hN; exact decide_eq_true ⟨k1, q1, q2, k4⟩
      · rw [n1] at hN; subst hN; exact decide_eq_true ⟨k1, b1, b2, k4⟩
      · rw [n2] at hN; subst hN; exact decide_eq_true ⟨k1, b3, b4, k4⟩
    · rcases (show u = 0 ∨ u = 1 ∨ u = 2 from by omega) with rfl | rfl | rfl
      · rw [n0] at hN; exact ⟨by omega, .inr hN⟩
      · rw [n1] at hN; exact ⟨by omega, .inl (by omega)⟩
      · rw [n2] at hN; exact ⟨by omega, .inl (by omega)⟩
  · cases hB
  · cases hB
set_option maxHeartbeats 1000000 in
theorem walk_fnEstimateLess {H : Type} {enc : TypeId × Value → H} (a : Addr) (W : World) (base : Nat) (hv : W.cell? ⟨0, 0, none⟩ = some (.iface 73 (.pointer (some a)))) (hg : 0 < W.heap.size) (v : Value) (d : DataW H) (q : List MemPlace) (o : Value.okWide Tryd.prog W .any base 30 v) (hh : DataW.Trod enc Tryd.prog W 0 (fun _ => true) true 30 v d q) :
    Calls Tryd.prog 4 #[v] W (RetB true W) := by
  obtain ⟨A, n, c, rfl, hn, hm, hcode⟩ := open_code W base v d q o hh
  clear o hh
  have sv : Sen W a := ⟨hv, hg⟩
  clear hv
  by_cases hbig : 1048576 < (n : Int)
  · clear hcode
    go_enter Tryd.func4, Tryd.ntmps4
    go_wp2
    go_ret
    refine ⟨rfl, ?_⟩
    (repeat' (first | (with_reducible exact Below.refl _ _) | (with_reducible assumption) | (with_reducible refine Below.alloc ?_ ?_ _) | (with_reducible refine Below.setCell ?_ ?_ _) | (with_reducible refine Below.drew ?_) | (with_reducible refine below_drewN' ?_ _) | (with_reducible refine below_step (by assumption) ?_ ?_) | (with_reducible refine below_gstep (by assumption) ?_ ?_ ?_) | (with_reducible exact Below.size (by assumption)) | omega | (simp; done) | (simp; omega)))
  · have Hcode := hide hcode
    clear hcode
    go_enter Tryd.func4, Tryd.ntmps4
    go_wp2_with fail
    refine (drawEstimateLoss W.heap.size A n c _ Hcode.out hn hm (Nat.le_refl _)).mono ?_
    rintro e w1 ⟨v, rfl, ⟨r, l, h, p, rfl⟩, hb1⟩
    clear Hcode
    have zb := hb1.size
    have sv1 := sv.below hb1
    obtain ⟨N, L, H', B, hd⟩ := lossV_some r l h p
    have Hd := hide hd
    clear hd
    go_wp2_with fail
    refine (implLoss _ _ _ _ N L H' B a _ (sv1.alloc _) Hd.out).mono ?_
    rintro e w2 ⟨rfl, hb2⟩
    have rX : Row w2 (w1.heap.size) _ := Row.below (by (repeat' (first | (with_reducible assumption) | (with_reducible exact Row.new _ _ _) | (with_reducible exact Row.new1 _ _ _ _) | (with_reducible exact Row.new2 _ _ _ _ _) | (with_reducible exact Row.new2' _ _ _ _ _) | ((with_reducible apply Row.mk) <;> (with_reducible assumption)) | (with_reducible apply Row.alloc) | (with_reducible apply Row.set) | (with_reducible apply Row.far) | (with_reducible apply Row.drew) | (with_reducible apply Row.drewN) | omega | (simp; done) | (simp; omega)))) hb2
    (try clear cX fX lX)
    obtain ⟨cX, fX, lX⟩ := rX
    have sv2 := (sv1.alloc _).below hb2
    have hG2 : Below W.heap.size W w2 := by (repeat' (first | (with_reducible exact Below.refl _ _) | (with_reducible assumption) | (with_reducible refine Below.alloc ?_ ?_ _) | (with_reducible refine Below.setCell ?_ ?_ _) | (with_reducible refine Below.drew ?_) | (with_reducible refine below_drewN' ?_ _) | (with_reducible refine below_step (by assumption) ?_ ?_) | (with_reducible refine below_gstep (by assumption) ?_ ?_ ?_) | (with_reducible exact Below.size (by assumption)) | omega | (simp; done) | (simp; omega)))
    have zG2 := hG2.size
    clear hb1 hb2
    go_wp2_with fail
    refine (specLoss _ _ _ _ N L H' B _ Hd.out).mono ?_
    rintro e w3 ⟨rfl, hb3⟩
    have rX : Row w3 (w1.heap.size) _ := Row.below (by (repeat' (first | (with_reducible assumption) | (with_reducible exact Row.new _ _ _) | (with_reducible exact Row.new1 _ _ _ _) | (with_reducible exact Row.new2 _ _ _ _ _) | (with_reducible exact Row.new2' _ _ _ _ _) | ((with_reducible apply Row.mk) <;> (with_reducible assumption)) | (with_reducible apply Row.alloc) | (with_reducible apply Row.set) | (with_reducible apply Row.far) | (with_reducible apply Row.drew) | (with_reducible apply Row.drewN) | omega | (simp; done) | (simp; omega)))) hb3
    have rY : Row w3 (w2.heap.size) _ := Row.below (by (repeat' (first | (with_reducible assumption) | (with_reducible exact Row.new _ _ _) | (with_reducible exact Row.new1 _ _ _ _) | (with_reducible exact Row.new2 _ _ _ _ _) | (with_reducible exact Row.new2' _ _ _ _ _) | ((with_reducible apply Row.mk) <;> (with_reducible assumption)) | (with_reducible apply Row.alloc) | (with_reducible apply Row.set) | (with_reducible apply Row.far) | (with_reducible apply Row.drew) | (with_reducible apply Row.drewN) | omega | (simp; done) | (simp; omega)))) hb3
    (try clear cX fX lX)
    (try clear cY fY lY)
    obtain ⟨cX, fX, lX⟩ := rX
    obtain ⟨cY, fY, lY⟩ := rY
    have sv3 := (sv2.alloc _).below hb3
    have hG3 : Below W.heap.size W w3 := by (repeat' (first | (with_reducible exact Below.refl _ _) | (with_reducible assumption) | (with_reducible refine Below.alloc ?_ ?_ _) | (with_reducible refine Below.setCell ?_ ?_ _) | (with_reducible refine Below.drew ?_) | (with_reducible refine below_drewN' ?_ _) | (with_reducible refine below_step (by assumption) ?_ ?_) | (with_reducible refine below_gstep (by assumption) ?_ ?_ ?_) | (with_reducible exact Below.size (by assumption)) | omega | (simp; done) | (simp; omega)))
    have zG3 := hG3.size
    have n1 : ¬ w1.heap.size = w3.heap.size := by omega
    have n2 : ¬ w2.heap.size = w3.heap.size := by omega
    clear hb3 hG2
    cases hB : B
    · subst hB
      go_wp2_with fail
      go_ret
      refine ⟨by first | rfl | (simp; done), ?_⟩
      (repeat' (first | (with_reducible exact Below.refl _ _) | (with_reducible assumption) | (with_reducible refine Below.alloc ?_ ?_ _) | (with_reducible refine Below.setCell ?_ ?_ _) | (with_reducible refine Below.drew ?_) | (with_reducible refine below_drewN' ?_ _) | (with_reducible refine below_step (by assumption) ?_ ?_) | (with_reducible refine below_gstep (by assumption) ?_ ?_ ?_) | (with_reducible exact Below.size (by assumption)) | omega | (simp; done) | (simp; omega)))
    · subst hB
      obtain ⟨f1, rfl, rfl, f4, f5, f6, f7⟩ := loss_facts Hd.out rfl
      clear Hd f6 f1
      rcases f7 with ⟨f8, f9⟩ | ⟨f8, f9, rfl⟩ | ⟨f8, f9 | ⟨rfl, f9⟩⟩
      all_goals
        go_wp2_with fail
        go_ret
        refine ⟨by first | rfl | (simp; done), ?_⟩
        (repeat' (first | (with_reducible exact Below.refl _ _) | (with_reducible assumption) | (with_reducible refine Below.alloc ?_ ?_ _) | (with_reducible refine Below.setCell ?_ ?_ _) | (with_reducible refine Below.drew ?_) | (with_reducible refine below_drewN' ?_ _) | (with_reducible refine below_step (by assumption) ?_ ?_) | (with_reducible refine below_gstep (by assumption) ?_ ?_ ?_) | (with_reducible exact Below.size (by assumption)) | omega | (simp; done) | (simp; omega)))
set_option maxHeartbeats 1000000 in
theorem walk_fnEstimateLoss {H : Type} {enc : TypeId × Value → H} (a : Addr) (W : World) (base : Nat) (hv : W.cell? ⟨0, 0, none⟩ = some (.iface 73 (.pointer (some a)))) (hg : 0 < W.heap.size) (v : Value) (d : DataW H) (q : List MemPlace) (o : Value.okWide Tryd.prog W .any base 30 v) (hh : DataW.Trod enc Tryd.prog W 0 (fun _ => true) true 30 v d q) :
    Calls Tryd.prog 5 #[v] W (RetB true W) := by
  obtain ⟨A, n, c, rfl, hn, hm, hcode⟩ := open_code W base v d q o hh
  clear o hh
  have sv : Sen W a := ⟨hv, hg⟩
  clear hv
  by_cases hbig : 1048576 < (n : Int)
  · clear hcode
    go_enter Tryd.func5, Tryd.ntmps5
    go_wp2
    go_ret
    refine ⟨rfl, ?_⟩
    (repeat' (first | (with_reducible exact Below.refl _ _) | (with_reducible assumption) | (with_reducible refine Below.alloc ?_ ?_ _) | (with_reducible refine Below.setCell ?_ ?_ _) | (with_reducible refine Below.drew ?_) | (with_reducible refine below_drewN' ?_ _) | (with_reducible refine below_step (by assumption) ?_ ?_) | (with_reducible refine below_gstep (by assumption) ?_ ?_ ?_) | (with_reducible exact Below.size (by assumption)) | omega | (simp; done) | (simp; omega)))
  · have Hcode := hide hcode
    clear hcode
    go_enter Tryd.func5, Tryd.ntmps5
    go_wp2_with fail
    refine (drawEstimateLoss W.heap.size A n c _ Hcode.out hn hm (Nat.le_refl _)).mono ?_
    rintro e w1 ⟨v, rfl, ⟨r, l, h, p, rfl⟩, hb1⟩
    clear Hcode
    have zb := hb1.size
    have sv1 := sv.below hb1
    obtain ⟨N, L, H', B, hd⟩ := lossV_some r l h p
    have Hd := hide hd
    clear hd
    go_wp2_with fail
    refine (implLoss _ _ _ _ N L H' B a _ (sv1.alloc _) Hd.out).mono ?_
    rintro e w2 ⟨rfl, hb2⟩
    have rX : Row w2 (w1.heap.size) _ := Row.below (by (repeat' (first | (with_reducible assumption) | (with_reducible exact Row.new _ _ _) | (with_reducible exact Row.new1 _ _ _ _) | (with_reducible exact Row.new2 _ _ _ _ _) | (with_reducible exact Row.new2' _ _ _ _ _) | ((with_reducible apply Row.mk) <;> (with_reducible assumption)) | (with_reducible apply Row.alloc) | (with_reducible apply Row.set) | (with_reducible apply Row.far) | (with_reducible apply Row.drew) | (with_reducible apply Row.drewN) | omega | (simp; done) | (simp; omega)))) hb2
    (try clear cX fX lX)
    obtain ⟨cX, fX, lX⟩ := rX
    have sv2 := (sv1.alloc _).below hb2
    have hG2 : Below W.heap.size W w2 := by (repeat' (first | (with_reducible exact Below.refl _ _) | (with_reducible assumption) | (with_reducible refine Below.alloc ?_ ?_ _) | (with_reducible refine Below.setCell ?_ ?_ _) | (with_reducible refine Below.drew ?_) | (with_reducible refine below_drewN' ?_ _) | (with_reducible refine below_step (by assumption) ?_ ?_) | (with_reducible refine below_gstep (by assumption) ?_ ?_ ?_) | (with_reducible exact Below.size (by assumption)) | omega | (simp; done) | (simp; omega)))
    have zG2 := hG2.size
    clear hb1 hb2
    go_wp2_with fail
    refine (specLoss _ _ _ _ N L H' B _ Hd.out).mono ?_
    rintro e w3 ⟨rfl, hb3⟩
    have rX : Row w3 (w1.heap.size) _ := Row.below (by (repeat' (first | (with_reducible assumption) | (with_reducible exact Row.new _ _ _) | (with_reducible exact Row.new1 _ _ _ _) | (with_reducible exact Row.new2 _ _ _ _ _) | (with_reducible exact Row.new2' _ _ _ _ _) | ((with_reducible apply Row.mk) <;> (with_reducible assumption)) | (with_reducible apply Row.alloc) | (with_reducible apply Row.set) | (with_reducible apply Row.far) | (with_reducible apply Row.drew) | (with_reducible apply Row.drewN) | omega | (simp; done) | (simp; omega)))) hb3
    have rY : Row w3 (w2.heap.size) _ := Row.below (by (repeat' (first | (with_reducible assumption) | (with_reducible exact Row.new _ _ _) | (with_reducible exact Row.new1 _ _ _ _) | (with_reducible exact Row.new2 _ _ _ _ _) | (with_reducible exact Row.new2' _ _ _ _ _) | ((with_reducible apply Row.mk) <;> (with_reducible assumption)) | (with_reducible apply Row.alloc) | (with_reducible apply Row.set) | (with_reducible apply Row.far) | (with_reducible apply Row.drew) | (with_reducible apply Row.drewN) | omega | (simp; done) | (simp; omega)))) hb3
    (try clear cX fX lX)
    (try clear cY fY lY)
    obtain ⟨cX, fX, lX⟩ := rX
    obtain ⟨cY, fY, lY⟩ := rY
    have sv3 := (sv2.alloc _).below hb3
    have hG3 : Below W.heap.size W w3 := by (repeat' (first | (with_reducible exact Below.refl _ _) | (with_reducible assumption) | (with_reducible refine Below.alloc ?_ ?_ _) | (with_reducible refine Below.setCell ?_ ?_ _) | (with_reducible refine Below.drew ?_) | (with_reducible refine below_drewN' ?_ _) | (with_reducible refine below_step (by assumption) ?_ ?_) | (with_reducible refine below_gstep (by assumption) ?_ ?_ ?_) | (with_reducible exact Below.size (by assumption)) | omega | (simp; done) | (simp; omega)))
    have zG3 := hG3.size
    have n1 : ¬ w1.heap.size = w3.heap.size := by omega
    have n2 : ¬ w2.heap.size = w3.heap.size := by omega
    clear hb3 hG2
    cases hB : B
    · subst hB
      go_wp2_with fail
      go_ret
      refine ⟨by first | rfl | (simp; done), ?_⟩
      (repeat' (first | (with_reducible exact Below.refl _ _) | (with_reducible assumption) | (with_reducible refine Below.alloc ?_ ?_ _) | (with_reducible refine Below.setCell ?_ ?_ _) | (with_reducible refine Below.drew ?_) | (with_reducible refine below_drewN' ?_ _) | (with_reducible refine below_step (by assumption) ?_ ?_) | (with_reducible refine below_gstep (by assumption) ?_ ?_ ?_) | (with_reducible exact Below.size (by assumption)) | omega | (simp; done) | (simp; omega)))
    · subst hB
      obtain ⟨f1, rfl, rfl, f4, f5, f6, f7⟩ := loss_facts Hd.out rfl
      clear Hd f1 f7
      go_wp2_with fail
      refine (implEstimateValid _ _ _ _).mono ?_
      rintro e w4 ⟨rfl, hb4⟩
      have rX : Row w4 (w1.heap.size) _ := Row.below (by (repeat' (first | (with_reducible assumption) | (with_reducible exact Row.new _ _ _) | (with_reducible exact Row.new1 _ _ _ _) | (with_reducible exact Row.new2 _ _ _ _ _) | (with_reducible exact Row.new2' _ _ _ _ _) | ((with_reducible apply Row.mk) <;> (with_reducible assumption)) | (with_reducible apply Row.alloc) | (with_reducible apply Row.set) | (with_reducible apply Row.far) | (with_reducible apply Row.drew) | (with_reducible apply Row.drewN) | omega | (simp; done) | (simp; omega)))) hb4
      have rY : Row w4 (w2.heap.size) _ := Row.below (by (repeat' (first | (with_reducible assumption) | (with_reducible exact Row.new _ _ _) | (with_reducible exact Row.new1 _ _ _ _) | (with_reducible exact Row.new2 _ _ _ _ _) | (with_reducible exact Row.new2' _ _ _ _ _) | ((with_reducible apply Row.mk) <;> (with_reducible assumption)) | (with_reducible apply Row.alloc) | (with_reducible apply Row.set) | (with_reducible apply Row.far) | (with_reducible apply Row.drew) | (with_reducible apply Row.drewN) | omega | (simp; done) | (simp; omega)))) hb4
      (try clear cX fX lX)
      (try clear cY fY lY)
      obtain ⟨cX, fX, lX⟩ := rX
      obtain ⟨cY, fY, lY⟩ := rY
      have hG4 : Below W.heap.size W w4 := by (repeat' (first | (with_reducible exact Below.refl _ _) | (with_reducible assumption) | (with_reducible refine Below.alloc ?_ ?_ _) | (with_reducible refine Below.setCell ?_ ?_ _) | (with_reducible refine Below.drew ?_) | (with_reducible refine below_drewN' ?_ _) | (with_reducible refine below_step (by assumption) ?_ ?_) | (with_reducible refine below_gstep (by assumption) ?_ ?_ ?_) | (with_reducible exact Below.size (by assumption)) | omega | (simp; done) | (simp; omega)))
      have zG4 := hG4.size
      clear hb4 hG3
      go_wp2_with fail
      go_ret
      refine ⟨by first | rfl | (simp; done), ?_⟩
      (repeat' (first | (with_reducible exact Below.refl _ _) | (with_reducible assumption) | (with_reducible refine Below.alloc ?_ ?_ _) | (with_reducible refine Below.setCell ?_ ?_ _) | (with_reducible refine Below.drew ?_) | (with_reducible refine below_drewN' ?_ _) | (with_reducible refine below_step (by assumption) ?_ ?_) | (with_reducible refine below_gstep (by assumption) ?_ ?_ ?_) | (with_reducible exact Below.size (by assumption)) | omega | (simp; done) | (simp; omega)))
set_option maxHeartbeats 1000000 in
theorem walk_fnEstimateMore {H : Type} {enc : TypeId × Value → H} (a : Addr) (W : World) (base : Nat) (hv : W.cell? ⟨0, 0, none⟩ = some (.iface 73 (.pointer (some a)))) (hg : 0 < W.heap.size) (v : Value) (d : DataW H) (q : List MemPlace) (o : Value.okWide Tryd.prog W .any base 30 v) (hh : DataW.Trod enc Tryd.prog W 0 (fun _ => true) true 30 v d q) :
    Calls Tryd.prog 6 #[v] W (RetB true W) := by
  obtain ⟨A, n, c, rfl, hn, hm, hcode⟩ := open_code W base v d q o hh
  clear o hh
  have sv : Sen W a := ⟨hv, hg⟩
  clear hv
  by_cases hbig : 1048576 < (n : Int)
  · clear hcode
    go_enter Tryd.func6, Tryd.ntmps6
    go_wp2
    go_ret
    refine ⟨rfl, ?_⟩
    (repeat' (first | (with_reducible exact Below.refl _ _) | (with_reducible assumption) | (with_reducible refine Below.alloc ?_ ?_ _) | (with_reducible refine Below.setCell ?_ ?_ _) | (with_reducible refine Below.drew ?_) | (with_reducible refine below_drewN' ?_ _) | (with_reducible refine below_step (by assumption) ?_ ?_) | (with_reducible refine below_gstep (by assumption) ?_ ?_ ?_) | (with_reducible exact Below.size (by assumption)) | omega | (simp; done) | (simp; omega)))
  · have Hcode := hide hcode
    clear hcode
    go_enter Tryd.func6, Tryd.ntmps6
    go_wp2_with fail
    refine (drawEstimateLoss W.heap.size A n c _ Hcode.out hn hm (Nat.le_refl _)).mono ?_
    rintro e w1 ⟨v, rfl, ⟨r, l, h, p, rfl⟩, hb1⟩
    clear Hcode
    have zb := hb1.size
    have sv1 := sv.below hb1
    obtain ⟨N, L, H', B, hd⟩ := lossV_some r l h p
    have Hd := hide hd
    clear hd
    go_wp2_with fail
    refine (implLoss _ _ _ _ N L H' B a _ (sv1.alloc _) Hd.out).mono ?_
    rintro e w2 ⟨rfl, hb2⟩
    have rX : Row w2 (w1.heap.size) _ := Row.below (by (repeat' (first | (with_reducible assumption) | (with_reducible exact Row.new _ _ _) | (with_reducible exact Row.new1 _ _ _ _) | (with_reducible exact Row.new2 _ _ _ _ _) | (with_reducible exact Row.new2' _ _ _ _ _) | ((with_reducible apply Row.mk) <;> (with_reducible assumption)) | (with_reducible apply Row.alloc) | (with_reducible apply Row.set) | (with_reducible apply Row.far) | (with_reducible apply Row.drew) | (with_reducible apply Row.drewN) | omega | (simp; done) | (simp; omega)))) hb2
    (try clear cX fX lX)
    obtain ⟨cX, fX, lX⟩ := rX
    have sv2 := (sv1.alloc _).below hb2
    have hG2 : Below W.heap.size W w2 := by (repeat' (first | (with_reducible exact Below.refl _ _) | (with_reducible assumption) | (with_reducible refine Below.alloc ?_ ?_ _) | (with_reducible refine Below.setCell ?_ ?_ _) | (with_reducible refine Below.drew ?_) | (with_reducible refine below_drewN' ?_ _) | (with_reducible refine below_step (by assumption) ?_ ?_) | (with_reducible refine below_gstep (by assumption) ?_ ?_ ?_) | (with_reducible exact Below.size (by assumption)) | omega | (simp; done) | (simp; omega)))
    have zG2 := hG2.size
    clear hb1 hb2
    go_wp2_with fail
    refine (specLoss _ _ _ _ N L H' B _ Hd.out).mono ?_
    rintro e w3 ⟨rfl, hb3⟩
    have rX : Row w3 (w1.heap.size) _ := Row.below (by (repeat' (first | (with_reducible assumption) | (with_reducible exact Row.new _ _ _) | (with_reducible exact Row.new1 _ _ _ _) | (with_reducible exact Row.new2 _ _ _ _ _) | (with_reducible exact Row.new2' _ _ _ _ _) | ((with_reducible apply Row.mk) <;> (with_reducible assumption)) | (with_reducible apply Row.alloc) | (with_reducible apply Row.set) | (with_reducible apply Row.far) | (with_reducible apply Row.drew) | (with_reducible apply Row.drewN) | omega | (simp; done) | (simp; omega)))) hb3
    have rY : Row w3 (w2.heap.size) _ := Row.below (by (repeat' (first | (with_reducible assumption) | (with_reducible exact Row.new _ _ _) | (with_reducible exact Row.new1 _ _ _ _) | (with_reducible exact Row.new2 _ _ _ _ _) | (with_reducible exact Row.new2' _ _ _ _ _) | ((with_reducible apply Row.mk) <;> (with_reducible assumption)) | (with_reducible apply Row.alloc) | (with_reducible apply Row.set) | (with_reducible apply Row.far) | (with_reducible apply Row.drew) | (with_reducible apply Row.drewN) | omega | (simp; done) | (simp; omega)))) hb3
    (try clear cX fX lX)
    (try clear cY fY lY)
    obtain ⟨cX, fX, lX⟩ := rX
    obtain ⟨cY, fY, lY⟩ := rY
    have sv3 := (sv2.alloc _).below hb3
    have hG3 : Below W.heap.size W w3 := by (repeat' (first | (with_reducible exact Below.refl _ _) | (with_reducible assumption) | (with_reducible refine Below.alloc ?_ ?_ _) | (with_reducible refine Below.setCell ?_ ?_ _) | (with_reducible refine Below.drew ?_) | (with_reducible refine below_drewN' ?_ _) | (with_reducible refine below_step (by assumption) ?_ ?_) | (with_reducible refine below_gstep (by assumption) ?_ ?_ ?_) | (with_reducible exact Below.size (by assumption)) | omega | (simp; done) | (simp; omega)))
    have zG3 := hG3.size
    have n1 : ¬ w1.heap.size = w3.heap.size := by omega
    have n2 : ¬ w2.heap.size = w3.heap.size := by omega
    clear hb3 hG2
    cases hB : B
    · subst hB
      go_wp2_with fail
      go_ret
      refine ⟨by first | rfl | (simp; done), ?_⟩
      (repeat' (first | (with_reducible exact Below.refl _ _) | (with_reducible assumption) | (with_reducible refine Below.alloc ?_ ?_ _) | (with_reducible refine Below.setCell ?_ ?_ _) | (with_reducible refine Below.drew ?_) | (with_reducible refine below_drewN' ?_ _) | (with_reducible refine below_step (by assumption) ?_ ?_) | (with_reducible refine below_gstep (by assumption) ?_ ?_ ?_) | (with_reducible exact Below.size (by assumption)) | omega | (simp; done) | (simp; omega)))
    · subst hB
      obtain ⟨f1, rfl, rfl, f4, f5, f6, f7⟩ := loss_facts Hd.out rfl
      by_cases h256 : p = 256
      · subst h256
        go_wp2_with fail
        go_ret
        refine ⟨by first | rfl | (simp; done), ?_⟩
        (repeat' (first | (with_reducible exact Below.refl _ _) | (with_reducible assumption) | (with_reducible refine Below.alloc ?_ ?_ _) | (with_reducible refine Below.setCell ?_ ?_ _) | (with_reducible refine Below.drew ?_) | (with_reducible refine below_drewN' ?_ _) | (with_reducible refine below_step (by assumption) ?_ ?_) | (with_reducible refine below_gstep (by assumption) ?_ ?_ ?_) | (with_reducible exact Below.size (by assumption)) | omega | (simp; done) | (simp; omega)))
      · obtain ⟨N', g1, g2⟩ := loss_next Hd.out h256
        have G1 := hide g1
        have h256' : (p == 256) = false := by simpa using h256
        clear g1 Hd f1 f6 f7 h256
        go_wp2_with fail
        refine (implLoss _ _ _ _ N' _ _ true a _ (sv3.alloc _) G1.out).mono ?_
        rintro e w4 ⟨rfl, hb4⟩
        have rY : Row w4 (w2.heap.size) _ := Row.below (by (repeat' (first | (with_reducible assumption) | (with_reducible exact Row.new _ _ _) | (with_reducible exact Row.new1 _ _ _ _) | (with_reducible exact Row.new2 _ _ _ _ _) | (with_reducible exact Row.new2' _ _ _ _ _) | ((with_reducible apply Row.mk) <;> (with_reducible assumption)) | (with_reducible apply Row.alloc) | (with_reducible apply Row.set) | (with_reducible apply Row.far) | (with_reducible apply Row.drew) | (with_reducible apply Row.drewN) | omega | (simp; done) | (simp; omega)))) hb4
        (try clear cY fY lY)
        obtain ⟨cY, fY, lY⟩ := rY
        have hG4 : Below W.heap.size W w4 := by (repeat' (first | (with_reducible exact Below.refl _ _) | (with_reducible assumption) | (with_reducible refine Below.alloc ?_ ?_ _) | (with_reducible refine Below.setCell ?_ ?_ _) | (with_reducible refine Below.drew ?_) | (with_reducible refine below_drewN' ?_ _) | (with_reducible refine below_step (by assumption) ?_ ?_) | (with_reducible refine below_gstep (by assumption) ?_ ?_ ?_) | (with_reducible exact Below.size (by assumption)) | omega | (simp; done) | (simp; omega)))
        have zG4 := hG4.size
        clear hb4 hG3
        have n3 : ¬ w2.heap.size = w4.heap.size := by omega
        go_wp2_with fail
        go_ret
        refine ⟨by first | rfl | (simp; done), ?_⟩
        (repeat' (first | (with_reducible exact Below.refl _ _) | (with_reducible assumption) | (with_reducible refine Below.alloc ?_ ?_ _) | (with_reducible refine Below.setCell ?_ ?_ _) | (with_reducible refine Below.drew ?_) | (with_reducible refine below_drewN' ?_ _) | (with_reducible refine below_step (by assumption) ?_ ?_) | (with_reducible refine below_gstep (by assumption) ?_ ?_ ?_) | (with_reducible exact Below.size (by assumption)) | omega | (simp; done) | (simp; omega)))
set_option maxHeartbeats 1000000 in
theorem walk_fnNextOver {H : Type} {enc : TypeId × Value → H} (a : Addr) (W : World) (base : Nat) (hv : W.cell? ⟨0, 0, none⟩ = some (.iface 73 (.pointer (some a)))) (hg : 0 < W.heap.size) (v : Value) (d : DataW H) (q : List MemPlace) (o : Value.okWide Tryd.prog W .any base 30 v) (hh : DataW.Trod enc Tryd.prog W 0 (fun _ => true) true 30 v d q) :
    Calls Tryd.prog 8 #[v] W (RetB true W) := by
  obtain ⟨A, n, c, rfl, hn, hm, hcode⟩ := open_code W base v d q o hh
  clear o hh
  have sv : Sen W a := ⟨hv, hg⟩
  clear hv
  by_cases hbig : 1048576 < (n : Int)
  · clear hcode
    go_enter Tryd.func8, Tryd.ntmps8
    go_wp2
    go_ret
    refine ⟨rfl, ?_⟩
    (repeat' (first | (with_reducible exact Below.refl _ _) | (with_reducible assumption) | (with_reducible refine Below.alloc ?_ ?_ _) | (with_reducible refine Below.setCell ?_ ?_ _) | (with_reducible refine Below.drew ?_) | (with_reducible refine below_drewN' ?_ _) | (with_reducible refine below_step (by assumption) ?_ ?_) | (with_reducible refine below_gstep (by assumption) ?_ ?_ ?_) | (with_reducible exact Below.size (by assumption)) | omega | (simp; done) | (simp; omega)))
  · have Hcode := hide hcode
    clear hcode
    go_enter Tryd.func8, Tryd.ntmps8
    go_wp2_with fail
    refine (drawEstimateNext W.heap.size A n c _ Hcode.out hn hm (Nat.le_refl _)).mono ?_
    rintro e w1 ⟨v, rfl, ⟨r, l, h, p, u, rfl⟩, hb1⟩
    clear Hcode
    have zb := hb1.size
    have sv1 := sv.below hb1
    obtain ⟨N, L, H', B, hd⟩ := nextV_some r l h p u
    have Hd := hide hd
    clear hd
    go_wp2_with fail
    refine (implNext _ _ _ _ _ N L H' B a _ (sv1.alloc _) Hd.out).mono ?_
    rintro e w2 ⟨rfl, hb2⟩
    have rX : Row w2 (w1.heap.size) _ := Row.below (by (repeat' (first | (with_reducible assumption) | (with_reducible exact Row.new _ _ _) | (with_reducible exact Row.new1 _ _ _ _) | (with_reducible exact Row.new2 _ _ _ _ _) | (with_reducible exact Row.new2' _ _ _ _ _) | ((with_reducible apply Row.mk) <;> (with_reducible assumption)) | (with_reducible apply Row.alloc) | (with_reducible apply Row.set) | (with_reducible apply Row.far) | (with_reducible apply Row.drew) | (with_reducible apply Row.drewN) | omega | (simp; done) | (simp; omega)))) hb2
    (try clear cX fX lX)
    obtain ⟨cX, fX, lX⟩ := rX
    have sv2 := (sv1.alloc _).below hb2
    have hG2 : Below W.heap.size W w2 := by (repeat' (first | (with_reducible exact Below.refl _ _) | (with_reducible assumption) | (with_reducible refine Below.alloc ?_ ?_ _) | (with_reducible refine Below.setCell ?_ ?_ _) | (with_reducible refine Below.drew ?_) | (with_reducible refine below_drewN' ?_ _) | (with_reducible refine below_step (by assumption) ?_ ?_) | (with_reducible refine below_gstep (by assumption) ?_ ?_ ?_) | (with_reducible exact Below.size (by assumption)) | omega | (simp; done) | (simp; omega)))
    have zG2 := hG2.size
    clear hb1 hb2
    go_wp2_with fail
    refine (specNext _ _ _ _ _ N L H' B _ Hd.out).mono ?_
    rintro e w3 ⟨rfl, hb3⟩
    have rX : Row w3 (w1.heap.size) _ := Row.below (by (repeat' (first | (with_reducible assumption) | (with_reducible exact Row.new _ _ _) | (with_reducible exact Row.new1 _ _ _ _) | (with_reducible exact Row.new2 _ _ _ _ _) | (with_reducible exact Row.new2' _ _ _ _ _) | ((with_reducible apply Row.mk) <;> (with_reducible assumption)) | (with_reducible apply Row.alloc) | (with_reducible apply Row.set) | (with_reducible apply Row.far) | (with_reducible apply Row.drew) | (with_reducible apply Row.drewN) | omega | (simp; done) | (simp; omega)))) hb3
    have rY : Row w3 (w2.heap.size) _ := Row.below (by (repeat' (first | (with_reducible assumption) | (with_reducible exact Row.new _ _ _) | (with_reducible exact Row.new1 _ _ _ _) | (with_reducible exact Row.new2 _ _ _ _ _) | (with_reducible exact Row.new2' _ _ _ _ _) | ((with_reducible apply Row.mk) <;> (with_reducible assumption)) | (with_reducible apply Row.alloc) | (with_reducible apply Row.set) | (with_reducible apply Row.far) | (with_reducible apply Row.drew) | (with_reducible apply Row.drewN) | omega | (simp; done) | (simp; omega)))) hb3
    (try clear cX fX lX)
    (try clear cY fY lY)
    obtain ⟨cX, fX, lX⟩ := rX
    obtain ⟨cY, fY, lY⟩ := rY
    have sv3 := (sv2.alloc _).below hb3
    have hG3 : Below W.heap.size W w3 := by (repeat' (first | (with_reducible exact Below.refl _ _) | (with_reducible assumption) | (with_reducible refine Below.alloc ?_ ?_ _) | (with_reducible refine Below.setCell ?_ ?_ _) | (with_reducible refine Below.drew ?_) | (with_reducible refine below_drewN' ?_ _) | (with_reducible refine below_step (by assumption) ?_ ?_) | (with_reducible refine below_gstep (by assumption) ?_ ?_ ?_) | (with_reducible exact Below.size (by assumption)) | omega | (simp; done) | (simp; omega)))
    have zG3 := hG3.size
    have n1 : ¬ w1.heap.size = w3.heap.size := by omega
    have n2 : ¬ w2.heap.size = w3.heap.size := by omega
    clear hb3 hG2
    cases hB : B
    · subst hB
      go_wp2_with fail
      go_ret
      refine ⟨by first | rfl | (simp; done), ?_⟩
      (repeat' (first | (with_reducible exact Below.refl _ _) | (with_reducible assumption) | (with_reducible refine Below.alloc ?_ ?_ _) | (with_reducible refine Below.setCell ?_ ?_ _) | (with_reducible refine Below.drew ?_) | (with_reducible refine below_drewN' ?_ _) | (with_reducible refine below_step (by assumption) ?_ ?_) | (with_reducible refine below_gstep (by assumption) ?_ ?_ ?_) | (with_reducible exact Below.size (by assumption)) | omega | (simp; done) | (simp; omega)))
    · subst hB
      obtain ⟨N0, N1, N2, g0, g1, g2, g3, rfl, rfl, g4, g5, g6, g7, g8, g9⟩ := next_facts Hd.out rfl
      have G0 := hide g0
      have G1 := hide g1
      have G2 := hide g2
      clear g0 g1 g2 g3 Hd g4 g8 g9
      go_wp2_with fail
      refine (implNext _ _ _ _ _ N1 _ _ true a _ (sv3.alloc _) G1.out).mono ?_
      rintro e w4 ⟨rfl, hb4⟩
      have rX : Row w4 (w1.heap.size) _ := Row.below (by (repeat' (first | (with_reducible assumption) | (with_reducible exact Row.new _ _ _) | (with_reducible exact Row.new1 _ _ _ _) | (with_reducible exact Row.new2 _ _ _ _ _) | (with_reducible exact Row.new2' _ _ _ _ _) | ((with_reducible apply Row.mk) <;> (with_reducible assumption)) | (with_reducible apply Row.alloc) | (with_reducible apply Row.set) | (with_reducible apply Row.far) | (with_reducible apply Row.drew) | (with_reducible apply Row.drewN) | omega | (simp; done) | (simp; omega)))) hb4
      (try clear cX fX lX)
      obtain ⟨cX, fX, lX⟩ := rX
      have sv4 := (sv3.alloc _).below hb4
      have hG4 : Below W.heap.size W w4 := by (repeat' (first | (with_reducible exact Below.refl _ _) | (with_reducible assumption) | (with_reducible refine Below.alloc ?_ ?_ _) | (with_reducible refine Below.setCell ?_ ?_ _) | (with_reducible refine Below.drew ?_) | (with_reducible refine below_drewN' ?_ _) | (with_reducible refine below_step (by assumption) ?_ ?_) | (with_reducible refine below_gstep (by assumption) ?_ ?_ ?_) | (with_reducible exact Below.size (by assumption)) | omega | (simp; done) | (simp; omega)))
      have zG4 := hG4.size
      clear hb4 hG3 cY fY lY
      go_wp2_with fail
      refine (implNext _ _ _ _ _ N2 _ _ true a _ (sv4.alloc _) G2.out).mono ?_
      rintro e w5 ⟨rfl, hb5⟩
      have rX : Row w5 (w1.heap.size) _ := Row.below (by (repeat' (first | (with_reducible assumption) | (with_reducible exact Row.new _ _ _) | (with_reducible exact Row.new1 _ _ _ _) | (with_reducible exact Row.new2 _ _ _ _ _) | (with_reducible exact Row.new2' _ _ _ _ _) | ((with_reducible apply Row.mk) <;> (with_reducible assumption)) | (with_reducible apply Row.alloc) | (with_reducible apply Row.set) | (with_reducible apply Row.far) | (with_reducible apply Row.drew) | (with_reducible apply Row.drewN) | omega | (simp; done) | (simp; omega)))) hb5
      have rY : Row w5 (w4.heap.size) _ := Row.below (by (repeat' (first | (with_reducible assumption) | (with_reducible exact Row.new _ _ _) | (with_reducible exact Row.new1 _ _ _ _) | (with_reducible exact Row.new2 _ _ _ _ _) | (with_reducible exact Row.new2' _ _ _ _ _) | ((with_reducible apply Row.mk) <;> (with_reducible assumption)) | (with_reducible apply Row.alloc) | (with_reducible apply Row.set) | (with_reducible apply Row.far) | (with_reducible apply Row.drew) | (with_reducible apply Row.drewN) | omega | (simp; done) | (simp; omega)))) hb5
      (try clear cX fX lX)
      (try clear cY fY lY)
      obtain ⟨cX, fX, lX⟩ := rX
      obtain ⟨cY, fY, lY⟩ := rY
      have sv5 := (sv4.alloc _).below hb5
      have hG5 : Below W.heap.size W w5 := by (repeat' (first | (with_reducible exact Below.refl _ _) | (with_reducible assumption) | (with_reducible refine Below.alloc ?_ ?_ _) | (with_reducible refine Below.setCell ?_ ?_ _) | (with_reducible refine Below.drew ?_) | (with_reducible refine below_drewN' ?_ _) | (with_reducible refine below_step (by assumption) ?_ ?_) | (with_reducible refine below_gstep (by assumption) ?_ ?_ ?_) | (with_reducible exact Below.size (by assumption)) | omega | (simp; done) | (simp; omega)))
      have zG5 := hG5.size
      clear hb5 hG4
      have n3 : ¬ w1.heap.size = w5.heap.size := by omega
      have n4 : ¬ w4.heap.size = w5.heap.size := by omega
      go_wp2_with fail
      refine (implNext _ _ _ _ _ N0 _ _ true a _ (sv5.alloc _) G0.out).mono ?_
      rintro e w6 ⟨rfl, hb6⟩
      have rX : Row w6 (w1.heap.size) _ := Row.below (by (repeat' (first | (with_reducible assumption) | (with_reducible exact Row.new _ _ _) | (with_reducible exact Row.new1 _ _ _ _) | (with_reducible exact Row.new2 _ _ _ _ _) | (with_reducible exact Row.new2' _ _ _ _ _) | ((with_reducible apply Row.mk) <;> (with_reducible assumption)) | (with_reducible apply Row.alloc) | (with_reducible apply Row.set) | (with_reducible apply Row.far) | (with_reducible apply Row.drew) | (with_reducible apply Row.drewN) | omega | (simp; done) | (simp; omega)))) hb6
      have rY : Row w6 (w4.heap.size) _ := Row.below (by (repeat' (first | (with_reducible assumption) | (with_reducible exact Row.new _ _ _) | (with_reducible exact Row.new1 _ _ _ _) | (with_reducible exact Row.new2 _ _ _ _ _) | (with_reducible exact Row.new2' _ _ _ _ _) | ((with_reducible apply Row.mk) <;> (with_reducible assumption)) | (with_reducible apply Row.alloc) | (with_reducible apply Row.set) | (with_reducible apply Row.far) | (with_reducible apply Row.drew) | (with_reducible apply Row.drewN) | omega | (simp; done) | (simp; omega)))) hb6
      have rU : Row w6 (w5.heap.size) _ := Row.below (by (repeat' (first | (with_reducible assumption) | (with_reducible exact Row.new _ _ _) | (with_reducible exact Row.new1 _ _ _ _) | (with_reducible exact Row.new2 _ _ _ _ _) | (with_reducible exact Row.new2' _ _ _ _ _) | ((with_reducible apply Row.mk) <;> (with_reducible assumption)) | (with_reducible apply Row.alloc) | (with_reducible apply Row.set) | (with_reducible apply Row.far) | (with_reducible apply Row.drew) | (with_reducible apply Row.drewN) | omega | (simp; done) | (simp; omega)))) hb6
      (try clear cX fX lX)
      (try clear cY fY lY)
      (try clear cU fU lU)
      obtain ⟨cX, fX, lX⟩ := rX
      obtain ⟨cY, fY, lY⟩ := rY
      obtain ⟨cU, fU, lU⟩ := rU
      have hG6 : Below W.heap.size W w6 := by (repeat' (first | (with_reducible exact Below.refl _ _) | (with_reducible assumption) | (with_reducible refine Below.alloc ?_ ?_ _) | (with_reducible refine Below.setCell ?_ ?_ _) | (with_reducible refine Below.drew ?_) | (with_reducible refine below_drewN' ?_ _) | (with_reducible refine below_step (by assumption) ?_ ?_) | (with_reducible refine below_gstep (by assumption) ?_ ?_ ?_) | (with_reducible exact Below.size (by assumption)) | omega | (simp; done) | (simp; omega)))
      have zG6 := hG6.size
      clear hb6 hG5
      have n5 : ¬ w1.heap.size = w6.heap.size := by omega
      have n6 : ¬ w4.heap.size = w6.heap.size := by omega
      have n7 : ¬ w5.heap.size = w6.heap.size := by omega
      go_wp2_with fail
      go_ret
      refine ⟨by first | rfl | (simp; done), ?_⟩
      (repeat' (first | (with_reducible exact Below.refl _ _) | (with_reducible assumption) | (with_reducible refine Below.alloc ?_ ?_ _) | (with_reducible refine Below.setCell ?_ ?_ _) | (with_reducible refine Below.drew ?_) | (with_reducible refine below_drewN' ?_ _) | (with_reducible refine below_step (by assumption) ?_ ?_) | (with_reducible refine below_gstep (by assumption) ?_ ?_ ?_) | (with_reducible exact Below.size (by assumption)) | omega | (simp; done) | (simp; omega)))
set_option maxHeartbeats 1000000 in
theorem walk_fnNext {H : Type} {enc : TypeId × Value → H} (a : Addr) (W : World) (base : Nat) (hv : W.cell? ⟨0, 0, none⟩ = some (.iface 73 (.pointer (some a)))) (hg : 0 < W.heap.size) (v : Value) (d : DataW H) (q : List MemPlace) (o : Value.okWide Tryd.prog W .any base 30 v) (hh : DataW.Trod enc Tryd.prog W 0 (fun _ => true) true 30 v d q) :
    Calls Tryd.prog 9 #[v] W (RetB true W) := by
  obtain ⟨A, n, c, rfl, hn, hm, hcode⟩ := open_code W base v d q o hh
  clear o hh
  have sv : Sen W a := ⟨hv, hg⟩
  clear hv
  by_cases hbig : 1048576 < (n : Int)
  · clear hcode
    go_enter Tryd.func9, Tryd.ntmps9
    go_wp2
    go_ret
    refine ⟨rfl, ?_⟩
    (repeat' (first | (with_reducible exact Below.refl _ _) | (with_reducible assumption) | (with_reducible refine Below.alloc ?_ ?_ _) | (with_reducible refine Below.setCell ?_ ?_ _) | (with_reducible refine Below.drew ?_) | (with_reducible refine below_drewN' ?_ _) | (with_reducible refine below_step (by assumption) ?_ ?_) | (with_reducible refine below_gstep (by assumption) ?_ ?_ ?_) | (with_reducible exact Below.size (by assumption)) | omega | (simp; done) | (simp; omega)))
  · have Hcode := hide hcode
    clear hcode
    go_enter Tryd.func9, Tryd.ntmps9
    go_wp2_with fail
    refine (drawEstimateNext W.heap.size A n c _ Hcode.out hn hm (Nat.le_refl _)).mono ?_
    rintro e w1 ⟨v, rfl, ⟨r, l, h, p, u, rfl⟩, hb1⟩
    clear Hcode
    have zb := hb1.size
    have sv1 := sv.below hb1
    obtain ⟨N, L, H', B, hd⟩ := nextV_some r l h p u
    have Hd := hide hd
    clear hd
    go_wp2_with fail
    refine (implNext _ _ _ _ _ N L H' B a _ (sv1.alloc _) Hd.out).mono ?_
    rintro e w2 ⟨rfl, hb2⟩
    have rX : Row w2 (w1.heap.size) _ := Row.below (by (repeat' (first | (with_reducible assumption) | (with_reducible exact Row.new _ _ _) | (with_reducible exact Row.new1 _ _ _ _) | (with_reducible exact Row.new2 _ _ _ _ _) | (with_reducible exact Row.new2' _ _ _ _ _) | ((with_reducible apply Row.mk) <;> (with_reducible assumption)) | (with_reducible apply Row.alloc) | (with_reducible apply Row.set) | (with_reducible apply Row.far) | (with_reducible apply Row.drew) | (with_reducible apply Row.drewN) | omega | (simp; done) | (simp; omega)))) hb2
    (try clear cX fX lX)
    obtain ⟨cX, fX, lX⟩ := rX
    have sv2 := (sv1.alloc _).below hb2
    have hG2 : Below W.heap.size W w2 := by (repeat' (first | (with_reducible exact Below.refl _ _) | (with_reducible assumption) | (with_reducible refine Below.alloc ?_ ?_ _) | (with_reducible refine Below.setCell ?_ ?_ _) | (with_reducible refine Below.drew ?_) | (with_reducible refine below_drewN' ?_ _) | (with_reducible refine below_step (by assumption) ?_ ?_) | (with_reducible refine below_gstep (by assumption) ?_ ?_ ?_) | (with_reducible exact Below.size (by assumption)) | omega | (simp; done) | (simp; omega)))
    have zG2 := hG2.size
    clear hb1 hb2
    go_wp2_with fail
    refine (specNext _ _ _ _ _ N L H' B _ Hd.out).mono ?_
    rintro e w3 ⟨rfl, hb3⟩
    have rX : Row w3 (w1.heap.size) _ := Row.below (by (repeat' (first | (with_reducible assumption) | (with_reducible exact Row.new _ _ _) | (with_reducible exact Row.new1 _ _ _ _) | (with_reducible exact Row.new2 _ _ _ _ _) | (with_reducible exact Row.new2' _ _ _ _ _) | ((with_reducible apply Row.mk) <;> (with_reducible assumption)) | (with_reducible apply Row.alloc) | (with_reducible apply Row.set) | (with_reducible apply Row.far) | (with_reducible apply Row.drew) | (with_reducible apply Row.drewN) | omega | (simp; done) | (simp; omega)))) hb3
    have rY : Row w3 (w2.heap.size) _ := Row.below (by (repeat' (first | (with_reducible assumption) | (with_reducible exact Row.new _ _ _) | (with_reducible exact Row.new1 _ _ _ _) | (with_reducible exact Row.new2 _ _ _ _ _) | (with_reducible exact Row.new2' _ _ _ _ _) | ((with_reducible apply Row.mk) <;> (with_reducible assumption)) | (with_reducible apply Row.alloc) | (with_reducible apply Row.set) | (with_reducible apply Row.far) | (with_reducible apply Row.drew) | (with_reducible apply Row.drewN) | omega | (simp; done) | (simp; omega)))) hb3
    (try clear cX fX lX)
    (try clear cY fY lY)
    obtain ⟨cX, fX, lX⟩ := rX
    obtain ⟨cY, fY, lY⟩ := rY
    have sv3 := (sv2.alloc _).below hb3
    have hG3 : Below W.heap.size W w3 := by (repeat' (first | (with_reducible exact Below.refl _ _) | (with_reducible assumption) | (with_reducible refine Below.alloc ?_ ?_ _) | (with_reducible refine Below.setCell ?_ ?_ _) | (with_reducible refine Below.drew ?_) | (with_reducible refine below_drewN' ?_ _) | (with_reducible refine below_step (by assumption) ?_ ?_) | (with_reducible refine below_gstep (by assumption) ?_ ?_ ?_) | (with_reducible exact Below.size (by assumption)) | omega | (simp; done) | (simp; omega)))
    have zG3 := hG3.size
    have n1 : ¬ w1.heap.size = w3.heap.size := by omega
    have n2 : ¬ w2.heap.size = w3.heap.size := by omega
    clear hb3 hG2
    cases hB : B
    · subst hB
      go_wp2_with fail
      go_ret
      refine ⟨by first | rfl | (simp; done), ?_⟩
      (repeat' (first | (with_reducible exact Below.refl _ _) | (with_reducible assumption) | (with_reducible refine Below.alloc ?_ ?_ _) | (with_reducible refine Below.setCell ?_ ?_ _) | (with_reducible refine Below.drew ?_) | (with_reducible refine below_drewN' ?_ _) | (with_reducible refine below_step (by assumption) ?_ ?_) | (with_reducible refine below_gstep (by assumption) ?_ ?_ ?_) | (with_reducible exact Below.size (by assumption)) | omega | (simp; done) | (simp; omega)))
    · subst hB
      obtain ⟨N0, N1, N2, g0, g1, g2, g3, rfl, rfl, g4, g5, g6, g7, g8, g9⟩ := next_facts Hd.out rfl
      have G3 := hide g3
      clear g0 g1 g2 g3 Hd g5 g6 g7
      go_wp2_with fail
      refine (implLoss _ _ _ _ N0 _ _ true a _ (sv3.alloc _) G3.out).mono ?_
      rintro e w4 ⟨rfl, hb4⟩
      have rX : Row w4 (w1.heap.size) _ := Row.below (by (repeat' (first | (with_reducible assumption) | (with_reducible exact Row.new _ _ _) | (with_reducible exact Row.new1 _ _ _ _) | (with_reducible exact Row.new2 _ _ _ _ _) | (with_reducible exact Row.new2' _ _ _ _ _) | ((with_reducible apply Row.mk) <;> (with_reducible assumption)) | (with_reducible apply Row.alloc) | (with_reducible apply Row.set) | (with_reducible apply Row.far) | (with_reducible apply Row.drew) | (with_reducible apply Row.drewN) | omega | (simp; done) | (simp; omega)))) hb4
      have rY : Row w4 (w2.heap.size) _ := Row.below (by (repeat' (first | (with_reducible assumption) | (with_reducible exact Row.new _ _ _) | (with_reducible exact Row.new1 _ _ _ _) | (with_reducible exact Row.new2 _ _ _ _ _) | (with_reducible exact Row.new2' _ _ _ _ _) | ((with_reducible apply Row.mk) <;> (with_reducible assumption)) | (with_reducible apply Row.alloc) | (with_reducible apply Row.set) | (with_reducible apply Row.far) | (with_reducible apply Row.drew) | (with_reducible apply Row.drewN) | omega | (simp; done) | (simp; omega)))) hb4
      (try clear cX fX lX)
      (try clear cY fY lY)
      obtain ⟨cX, fX, lX⟩ := rX
      obtain ⟨cY, fY, lY⟩ := rY
      have hG4 : Below W.heap.size W w4 := by (repeat' (first | (with_reducible exact Below.refl _ _) | (with_reducible assumption) | (with_reducible refine Below.alloc ?_ ?_ _) | (with_reducible refine Below.setCell ?_ ?_ _) | (with_reducible refine Below.drew ?_) | (with_reducible refine below_drewN' ?_ _) | (with_reducible refine below_step (by assumption) ?_ ?_) | (with_reducible refine below_gstep (by assumption) ?_ ?_ ?_) | (with_reducible exact Below.size (by assumption)) | omega | (simp; done) | (simp; omega)))
      have zG4 := hG4.size
      clear hb4 hG3
      have n3 : ¬ w1.heap.size = w4.heap.size := by omega
      have n4 : ¬ w2.heap.size = w4.heap.size := by omega
      have g9' : ((u != 0) = true) ∨ ((u != 0) = false ∧ N = N0) := by
        rcases g9 with h | h
        · exact .inl (by simpa using h)
        · by_cases hu : u = 0
          · exact .inr ⟨by simp [hu], h⟩
          · exact .inl (by simpa using hu)
      clear g9
      rcases g9' with hu | ⟨hu, rfl⟩
      all_goals
        go_wp2_with fail
        refine (implEstimateValid _ _ _ _).mono ?_
        rintro e w5 ⟨rfl, hb5⟩
        have hG5 : Below W.heap.size W w5 := by (repeat' (first | (with_reducible exact Below.refl _ _) | (with_reducible assumption) | (with_reducible refine Below.alloc ?_ ?_ _) | (with_reducible refine Below.setCell ?_ ?_ _) | (with_reducible refine Below.drew ?_) | (with_reducible refine below_drewN' ?_ _) | (with_reducible refine below_step (by assumption) ?_ ?_) | (with_reducible refine below_gstep (by assumption) ?_ ?_ ?_) | (with_reducible exact Below.size (by assumption)) | omega | (simp; done) | (simp; omega)))
        have zG5 := hG5.size
        go_wp2_with fail
        go_ret
        refine ⟨by first | rfl | (simp; done), ?_⟩
        (repeat' (first | (with_reducible exact Below.refl _ _) | (with_reducible assumption) | (with_reducible refine Below.alloc ?_ ?_ _) | (with_reducible refine Below.setCell ?_ ?_ _) | (with_reducible refine Below.drew ?_) | (with_reducible refine below_drewN' ?_ _) | (with_reducible refine below_step (by assumption) ?_ ?_) | (with_reducible refine below_gstep (by assumption) ?_ ?_ ?_) | (with_reducible exact Below.size (by assumption)) | omega | (simp; done) | (simp; omega)))
theorem open_int1 {H : Type} {enc : TypeId × Value → H} {P : Program} {w : World} {base : Nat} {spare : Nat → Bool} {held : Bool} {r : Reach} {b0 : Nat} {t : TypeId} {k : IntKind} {v : Value} {d : DataW H} {p : List MemPlace} (hu : P.underlying t = some (.int k)) (o : Value.okWide P w r b0 t v) (h : DataW.Trod enc P w base spare held t v d p) : ∃ x : Int, v = .int k x ∧ (Lit.int k x).wf = true := by
  obtain ⟨x, e, _, _, wx⟩ := open_int hu o h
  exact ⟨x, e, wx⟩
set_option maxHeartbeats 1000000 in
theorem walk_fnExactEstimateLoss {H : Type} {enc : TypeId × Value → H} (a : Addr) (W : World) (base : Nat) (hv : W.cell? ⟨0, 0, none⟩ = some (.iface 73 (.pointer (some a)))) (hg : 0 < W.heap.size) (v0 : Value) (d0 : DataW H) (q0 : List MemPlace) (v1 : Value) (d1 : DataW H) (q1 : List MemPlace) (o0 : Value.okWide Tryd.prog W .any base 23 v0) (h0 : DataW.Trod enc Tryd.prog W 0 (fun _ => true) true 23 v0 d0 q0) (o1 : Value.okWide Tryd.prog W .any base 3 v1) (h1 : DataW.Trod enc Tryd.prog W 0 (fun _ => true) true 3 v1 d1 q1) :
    Calls Tryd.prog 3 #[v0, v1] W (RetB true W) := by
  obtain ⟨r, l, h, rfl⟩ := open_estimate W base v0 d0 q0 o0 h0
  obtain ⟨p, rfl, -⟩ := open_int1 Tryd.underlying3 o1 h1
  clear o0 h0 o1 h1
  have sv : Sen W a := ⟨hv, hg⟩
  clear hv
  obtain ⟨N, L, H', B, hd⟩ := lossV_some r l h p
  have Hd := hide hd
  clear hd
  go_enter Tryd.func3, Tryd.ntmps3
  go_wp2_with fail
  refine (toEstimate _ _ _ _).mono ?_
  rintro e w1 ⟨rfl, hb1⟩
  have rX : Row w1 (W.heap.size) _ := Row.below (by (repeat' (first | (with_reducible assumption) | (with_reducible exact Row.new _ _ _) | (with_reducible exact Row.new1 _ _ _ _) | (with_reducible exact Row.new2 _ _ _ _ _) | (with_reducible exact Row.new2' _ _ _ _ _) | ((with_reducible apply Row.mk) <;> (with_reducible assumption)) | (with_reducible apply Row.alloc) | (with_reducible apply Row.set) | (with_reducible apply Row.far) | (with_reducible apply Row.drew) | (with_reducible apply Row.drewN) | omega | (simp; done) | (simp; omega)))) hb1
  (try clear cX fX lX)
  obtain ⟨cX, fX, lX⟩ := rX
  have sv1 := (sv.alloc _).below hb1
  have hG1 : Below W.heap.size W w1 := by (repeat' (first | (with_reducible exact Below.refl _ _) | (with_reducible assumption) | (with_reducible refine Below.alloc ?_ ?_ _) | (with_reducible refine Below.setCell ?_ ?_ _) | (with_reducible refine Below.drew ?_) | (with_reducible refine below_drewN' ?_ _) | (with_reducible refine below_step (by assumption) ?_ ?_) | (with_reducible refine below_gstep (by assumption) ?_ ?_ ?_) | (with_reducible exact Below.size (by assumption)) | omega | (simp; done) | (simp; omega)))
  have zG1 := hG1.size
  clear hb1
  go_wp2_with fail
  refine (specLoss _ _ _ _ N L H' B _ Hd.out).mono ?_
  rintro e w2 ⟨rfl, hb2⟩
  have rX : Row w2 (W.heap.size) _ := Row.below (by (repeat' (first | (with_reducible assumption) | (with_reducible exact Row.new _ _ _) | (with_reducible exact Row.new1 _ _ _ _) | (with_reducible exact Row.new2 _ _ _ _ _) | (with_reducible exact Row.new2' _ _ _ _ _) | ((with_reducible apply Row.mk) <;> (with_reducible assumption)) | (with_reducible apply Row.alloc) | (with_reducible apply Row.set) | (with_reducible apply Row.far) | (with_reducible apply Row.drew) | (with_reducible apply Row.drewN) | omega | (simp; done) | (simp; omega)))) hb2
  (try clear cX fX lX)
  obtain ⟨cX, fX, lX⟩ := rX
  have sv2 := sv1.below hb2
  have hG2 : Below W.heap.size W w2 := by (repeat' (first | (with_reducible exact Below.refl _ _) | (with_reducible assumption) | (with_reducible refine Below.alloc ?_ ?_ _) | (with_reducible refine Below.setCell ?_ ?_ _) | (with_reducible refine Below.drew ?_) | (with_reducible refine below_drewN' ?_ _) | (with_reducible refine below_step (by assumption) ?_ ?_) | (with_reducible refine below_gstep (by assumption) ?_ ?_ ?_) | (with_reducible exact Below.size (by assumption)) | omega | (simp; done) | (simp; omega)))
  have zG2 := hG2.size
  clear hb2 hG1
  go_wp2_with fail
  refine (toEstimate _ _ _ _).mono ?_
  rintro e w3 ⟨rfl, hb3⟩
  have rX : Row w3 (W.heap.size) _ := Row.below (by (repeat' (first | (with_reducible assumption) | (with_reducible exact Row.new _ _ _) | (with_reducible exact Row.new1 _ _ _ _) | (with_reducible exact Row.new2 _ _ _ _ _) | (with_reducible exact Row.new2' _ _ _ _ _) | ((with_reducible apply Row.mk) <;> (with_reducible assumption)) | (with_reducible apply Row.alloc) | (with_reducible apply Row.set) | (with_reducible apply Row.far) | (with_reducible apply Row.drew) | (with_reducible apply Row.drewN) | omega | (simp; done) | (simp; omega)))) hb3
  have rY : Row w3 (w2.heap.size) _ := Row.below (by (repeat' (first | (with_reducible assumption) | (with_reducible exact Row.new _ _ _) | (with_reducible exact Row.new1 _ _ _ _) | (with_reducible exact Row.new2 _ _ _ _ _) | (with_reducible exact Row.new2' _ _ _ _ _) | ((with_reducible apply Row.mk) <;> (with_reducible assumption)) | (with_reducible apply Row.alloc) | (with_reducible apply Row.set) | (with_reducible apply Row.far) | (with_reducible apply Row.drew) | (with_reducible apply Row.drewN) | omega | (simp; done) | (simp; omega)))) hb3
  (try clear cX fX lX)
  (try clear cY fY lY)
  obtain ⟨cX, fX, lX⟩ := rX
  obtain ⟨cY, fY, lY⟩ := rY
  have sv3 := (sv2.alloc _).below hb3
  have hG3 : Below W.heap.size W w3 := by (repeat' (first | (with_reducible exact Below.refl _ _) | (with_reducible assumption) | (with_reducible refine Below.alloc ?_ ?_ _) | (with_reducible refine Below.setCell ?_ ?_ _) | (with_reducible refine Below.drew ?_) | (with_reducible refine below_drewN' ?_ _) | (with_reducible refine below_step (by assumption) ?_ ?_) | (with_reducible refine below_gstep (by assumption) ?_ ?_ ?_) | (with_reducible exact Below.size (by assumption)) | omega | (simp; done) | (simp; omega)))
  have zG3 := hG3.size
  clear hb3 hG2
  go_wp2_with fail
  refine (implLoss _ _ _ _ N L H' B a _ sv3 Hd.out).mono ?_
  rintro e w4 ⟨rfl, hb4⟩
  have rY : Row w4 (w2.heap.size) _ := Row.below (by (repeat' (first | (with_reducible assumption) | (with_reducible exact Row.new _ _ _) | (with_reducible exact Row.new1 _ _ _ _) | (with_reducible exact Row.new2 _ _ _ _ _) | (with_reducible exact Row.new2' _ _ _ _ _) | ((with_reducible apply Row.mk) <;> (with_reducible assumption)) | (with_reducible apply Row.alloc) | (with_reducible apply Row.set) | (with_reducible apply Row.far) | (with_reducible apply Row.drew) | (with_reducible apply Row.drewN) | omega | (simp; done) | (simp; omega)))) hb4
  (try clear cY fY lY)
  obtain ⟨cY, fY, lY⟩ := rY
  have hG4 : Below W.heap.size W w4 := by (repeat' (first | (with_reducible exact Below.refl _ _) | (with_reducible assumption) | (with_reducible refine Below.alloc ?_ ?_ _) | (with_reducible refine Below.setCell ?_ ?_ _) | (with_reducible refine Below.drew ?_) | (with_reducible refine below_drewN' ?_ _) | (with_reducible refine below_step (by assumption) ?_ ?_) | (with_reducible refine below_gstep (by assumption) ?_ ?_ ?_) | (with_reducible exact Below.size (by assumption)) | omega | (simp; done) | (simp; omega)))
  have zG4 := hG4.size
  clear hb4 hG3 cX fX lX
  go_wp2_with fail
  refine (eqEst _ _ _ _).mono ?_
  rintro e w5 ⟨rfl, hb5⟩
  have hG5 : Below W.heap.size W w5 := by (repeat' (first | (with_reducible exact Below.refl _ _) | (with_reducible assumption) | (with_reducible refine Below.alloc ?_ ?_ _) | (with_reducible refine Below.setCell ?_ ?_ _) | (with_reducible refine Below.drew ?_) | (with_reducible refine below_drewN' ?_ _) | (with_reducible refine below_step (by assumption) ?_ ?_) | (with_reducible refine below_gstep (by assumption) ?_ ?_ ?_) | (with_reducible exact Below.size (by assumption)) | omega | (simp; done) | (simp; omega)))
  have zG5 := hG5.size
  go_wp2_with fail
  go_ret
  refine ⟨by first | rfl | (simp; done), ?_⟩
  (repeat' (first | (with_reducible exact Below.refl _ _) | (with_reducible assumption) | (with_reducible refine Below.alloc ?_ ?_ _) | (with_reducible refine Below.setCell ?_ ?_ _) | (with_reducible refine Below.drew ?_) | (with_reducible refine below_drewN' ?_ _) | (with_reducible refine below_step (by assumption) ?_ ?_) | (with_reducible refine below_gstep (by assumption) ?_ ?_ ?_) | (with_reducible exact Below.size (by assumption)) | omega | (simp; done) | (simp; omega)))
set_option maxHeartbeats 1000000 in
theorem walk_fnExactEstimateNext {H : Type} {enc : TypeId × Value → H} (a : Addr) (W : World) (base : Nat) (hv : W.cell? ⟨0, 0, none⟩ = some (.iface 73 (.pointer (some a)))) (hg : 0 < W.heap.size) (v0 : Value) (d0 : DataW H) (q0 : List MemPlace) (v1 : Value) (d1 : DataW H) (q1 : List MemPlace) (v2 : Value) (d2 : DataW H) (q2 : List MemPlace) (o0 : Value.okWide Tryd.prog W .any base 23 v0) (h0 : DataW.Trod enc Tryd.prog W 0 (fun _ => true) true 23 v0 d0 q0) (o1 : Value.okWide Tryd.prog W .any base 3 v1) (h1 : DataW.Trod enc Tryd.prog W 0 (fun _ => true) true 3 v1 d1 q1) (o2 : Value.okWide Tryd.prog W .any base 3 v2) (h2 : DataW.Trod enc Tryd.prog W 0 (fun _ => true) true 3 v2 d2 q2) :
    Calls Tryd.prog 7 #[v0, v1, v2] W (RetB true W) := by
  obtain ⟨r, l, h, rfl⟩ := open_estimate W base v0 d0 q0 o0 h0
  obtain ⟨p, rfl, -⟩ := open_int1 Tryd.underlying3 o1 h1
  obtain ⟨u, rfl, -⟩ := open_int1 Tryd.underlying3 o2 h2
  clear o0 h0 o1 h1 o2 h2
  have sv : Sen W a := ⟨hv, hg⟩
  clear hv
  obtain ⟨N, L, H', B, hd⟩ := nextV_some r l h p u
  have Hd := hide hd
  clear hd
  go_enter Tryd.func7, Tryd.ntmps7
  go_wp2_with fail
  refine (toEstimate _ _ _ _).mono ?_
  rintro e w1 ⟨rfl, hb1⟩
  have rX : Row w1 (W.heap.size) _ := Row.below (by (repeat' (first | (with_reducible assumption) | (with_reducible exact Row.new _ _ _) | (with_reducible exact Row.new1 _ _ _ _) | (with_reducible exact Row.new2 _ _ _ _ _) | (with_reducible exact Row.new2' _ _ _ _ _) | ((with_reducible apply Row.mk) <;> (with_reducible assumption)) | (with_reducible apply Row.alloc) | (with_reducible apply Row.set) | (with_reducible apply Row.far) | (with_reducible apply Row.drew) | (with_reducible apply Row.drewN) | omega | (simp; done) | (simp; omega)))) hb1
  (try clear cX fX lX)
  obtain ⟨cX, fX, lX⟩ := rX
  have sv1 := (sv.alloc _).below hb1
  have hG1 : Below W.heap.size W w1 := by (repeat' (first | (with_reducible exact Below.refl _ _) | (with_reducible assumption) | (with_reducible refine Below.alloc ?_ ?_ _) | (with_reducible refine Below.setCell ?_ ?_ _) | (with_reducible refine Below.drew ?_) | (with_reducible refine below_drewN' ?_ _) | (with_reducible refine below_step (by assumption) ?_ ?_) | (with_reducible refine below_gstep (by assumption) ?_ ?_ ?_) | (with_reducible exact Below.size (by assumption)) | omega | (simp; done) | (simp; omega)))
  have zG1 := hG1.size
  clear hb1
  go_wp2_with fail
  refine (specNext _ _ _ _ _ N L H' B _ Hd.out).mono ?_
  rintro e w2 ⟨rfl, hb2⟩
  have rX : Row w2 (W.heap.size) _ := Row.below (by (repeat' (first | (with_reducible assumption) | (with_reducible exact Row.new _ _ _) | (with_reducible exact Row.new1 _ _ _ _) | (with_reducible exact Row.new2 _ _ _ _ _) | (with_reducible exact Row.new2' _ _ _ _ _) | ((with_reducible apply Row.mk) <;> (with_reducible assumption)) | (with_reducible apply Row.alloc) | (with_reducible apply Row.set) | (with_reducible apply Row.far) | (with_reducible apply Row.drew) | (with_reducible apply Row.drewN) | omega | (simp; done) | (simp; omega)))) hb2
  (try clear cX fX lX)
  obtain ⟨cX, fX, lX⟩ := rX
  have sv2 := sv1.below hb2
  have hG2 : Below W.heap.size W w2 := by (repeat' (first | (with_reducible exact Below.refl _ _) | (with_reducible assumption) | (with_reducible refine Below.alloc ?_ ?_ _) | (with_reducible refine Below.setCell ?_ ?_ _) | (with_reducible refine Below.drew ?_) | (with_reducible refine below_drewN' ?_ _) | (with_reducible refine below_step (by assumption) ?_ ?_) | (with_reducible refine below_gstep (by assumption) ?_ ?_ ?_) | (with_reducible exact Below.size (by assumption)) | omega | (simp; done) | (simp; omega)))
  have zG2 := hG2.size
  clear hb2 hG1
  go_wp2_with fail
  refine (toEstimate _ _ _ _).mono ?_
  rintro e w3 ⟨rfl, hb3⟩
  have rX : Row w3 (W.heap.size) _ := Row.below (by (repeat' (first | (with_reducible assumption) | (with_reducible exact Row.new _ _ _) | (with_reducible exact Row.new1 _ _ _ _) | (with_reducible exact Row.new2 _ _ _ _ _) | (with_reducible exact Row.new2' _ _ _ _ _) | ((with_reducible apply Row.mk) <;> (with_reducible assumption)) | (with_reducible apply Row.alloc) | (with_reducible apply Row.set) | (with_reducible apply Row.far) | (with_reducible apply Row.drew) | (with_reducible apply Row.drewN) | omega | (simp; done) | (simp; omega)))) hb3
  have rY : Row w3 (w2.heap.size) _ := Row.below (by (repeat' (first | (with_reducible assumption) | (with_reducible exact Row.new _ _ _) | (with_reducible exact Row.new1 _ _ _ _) | (with_reducible exact Row.new2 _ _ _ _ _) | (with_reducible exact Row.new2' _ _ _ _ _) | ((with_reducible apply Row.mk) <;> (with_reducible assumption)) | (with_reducible apply Row.alloc) | (with_reducible apply Row.set) | (with_reducible apply Row.far) | (with_reducible apply Row.drew) | (with_reducible apply Row.drewN) | omega | (simp; done) | (simp; omega)))) hb3
  (try clear cX fX lX)
  (try clear cY fY lY)
  obtain ⟨cX, fX, lX⟩ := rX
  obtain ⟨cY, fY, lY⟩ := rY
  have sv3 := (sv2.alloc _).below hb3
  have hG3 : Below W.heap.size W w3 := by (repeat' (first | (with_reducible exact Below.refl _ _) | (with_reducible assumption) | (with_reducible refine Below.alloc ?_ ?_ _) | (with_reducible refine Below.setCell ?_ ?_ _) | (with_reducible refine Below.drew ?_) | (with_reducible refine below_drewN' ?_ _) | (with_reducible refine below_step (by assumption) ?_ ?_) | (with_reducible refine below_gstep (by assumption) ?_ ?_ ?_) | (with_reducible exact Below.size (by assumption)) | omega | (simp; done) | (simp; omega)))
  have zG3 := hG3.size
  clear hb3 hG2
  go_wp2_with fail
  refine (implNext _ _ _ _ _ N L H' B a _ sv3 Hd.out).mono ?_
  rintro e w4 ⟨rfl, hb4⟩
  have rY : Row w4 (w2.heap.size) _ := Row.below (by (repeat' (first | (with_reducible assumption) | (with_reducible exact Row.new _ _ _) | (with_reducible exact Row.new1 _ _ _ _) | (with_reducible exact Row.new2 _ _ _ _ _) | (with_reducible exact Row.new2' _ _ _ _ _) | ((with_reducible apply Row.mk) <;> (with_reducible assumption)) | (with_reducible apply Row.alloc) | (with_reducible apply Row.set) | (with_reducible apply Row.far) | (with_reducible apply Row.drew) | (with_reducible apply Row.drewN) | omega | (simp; done) | (simp; omega)))) hb4
  (try clear cY fY lY)
  obtain ⟨cY, fY, lY⟩ := rY
  have hG4 : Below W.heap.size W w4 := by (repeat' (first | (with_reducible exact Below.refl _ _) | (with_reducible assumption) | (with_reducible refine Below.alloc ?_ ?_ _) | (with_reducible refine Below.setCell ?_ ?_ _) | (with_reducible refine Below.drew ?_) | (with_reducible refine below_drewN' ?_ _) | (with_reducible refine below_step (by assumption) ?_ ?_) | (with_reducible refine below_gstep (by assumption) ?_ ?_ ?_) | (with_reducible exact Below.size (by assumption)) | omega | (simp; done) | (simp; omega)))
  have zG4 := hG4.size
  clear hb4 hG3 cX fX lX
  go_wp2_with fail
  refine (eqEst _ _ _ _).mono ?_
  rintro e w5 ⟨rfl, hb5⟩
  have hG5 : Below W.heap.size W w5 := by (repeat' (first | (with_reducible exact Below.refl _ _) | (with_reducible assumption) | (with_reducible refine Below.alloc ?_ ?_ _) | (with_reducible refine Below.setCell ?_ ?_ _) | (with_reducible refine Below.drew ?_) | (with_reducible refine below_drewN' ?_ _) | (with_reducible refine below_step (by assumption) ?_ ?_) | (with_reducible refine below_gstep (by assumption) ?_ ?_ ?_) | (with_reducible exact Below.size (by assumption)) | omega | (simp; done) | (simp; omega)))
  have zG5 := hG5.size
  go_wp2_with fail
  go_ret
  refine ⟨by first | rfl | (simp; done), ?_⟩
  (repeat' (first | (with_reducible exact Below.refl _ _) | (with_reducible assumption) | (with_reducible refine Below.alloc ?_ ?_ _) | (with_reducible refine Below.setCell ?_ ?_ _) | (with_reducible refine Below.drew ?_) | (with_reducible refine below_drewN' ?_ _) | (with_reducible refine below_step (by assumption) ?_ ?_) | (with_reducible refine below_gstep (by assumption) ?_ ?_ ?_) | (with_reducible exact Below.size (by assumption)) | omega | (simp; done) | (simp; omega)))
end Go.Proofs.YtdebjgghhiohmaaDoor
