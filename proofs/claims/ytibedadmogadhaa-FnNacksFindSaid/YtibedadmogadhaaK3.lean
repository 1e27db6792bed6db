/- What l92Numbers draws; slices of nacks that a law compares. -/
import Derived.Test.YtibedadmogadhaaK1
import Derived.Test.YtibedadmogadhaaRW
namespace Go.Proofs.Ytibedadmogadhaa
open Go.ChangeShapes Go.WideShapes Go.ChangeAt Go.RowKit Go.Deep

theorem grown_row {a b c : World} {R g : Nat} (h : a.grownBy b (some R)) (k : b.grownBy c (some g)) (hg : a.heap.size ≤ g) : a.grownBy c (some R) :=
  ⟨k.os.trans h.os, k.tape.trans h.tape, k.output.trans h.output, Nat.le_trans h.size k.size, fun i hi hne => (k.block i (Nat.lt_of_lt_of_le hi h.size) (by simp; omega)).trans (h.block i hi hne)⟩
/-- What a draw of numbers leaves. -/
def DrewInts (B R P M : Nat) (w : World) (e : Ending) (w' : World) : Prop :=
  ∃ g c zs, e = .returned (.slice (some ⟨g, 0, none⟩) (List.length zs) c) ∧ zs.length ≤ M ∧ w.heap.size ≤ g ∧ Own w' 3 1 g zs.length c (zs.map (Value.int .i64)) ∧ Rd w' B R P ∧ w.grownBy w' (some R)
theorem drewInts_mk {B R P M g c k : Nat} {zs : List Int} {w w' : World} (hk : zs.length = k) (h1 : k ≤ M) (h2 : w.heap.size ≤ g) (h3 : Own w' 3 1 g k c (zs.map (Value.int .i64))) (h4 : Rd w' B R P) (h5 : w.grownBy w' (some R)) :
    DrewInts B R P M w (.returned (.slice (some ⟨g, 0, none⟩) k c)) w' := ⟨g, c, zs, by rw [hk], by omega, h2, by rw [hk]; exact h3, h4, h5⟩
theorem own_set_int {w : World} {g n c : Nat} {zs : List Int} (h : Own w 3 1 g n c (zs.map (Value.int .i64))) (y : Nat) (v : Int) : Own (w.setCell ⟨g, y, none⟩ (.int .i64 v)) 3 1 g n c ((zs.set y v).map (Value.int .i64)) :=
  (h.set y _).conv (by rw [List.map_set])
set_option maxHeartbeats 2000000 in
theorem l92Numbers_any (B R P : Nat) (w : World) (hr : Rd w B R P) (hP : P ≤ 900000) :
    Calls Try.prog 52 #[.pointer (some ⟨R, 0, none⟩)] w (DrewInts B R (P + 30) 10 w) := by
  have lR := hr.lt
  go_enter Try.func52, Try.ntmps52
  go_wp2_with fail
  refine (pick_any B R P _ _ (hr.alloc _) (by omega) (by omega) (by omega)).mono ?_
  rintro e w2 ⟨x1, rfl, hx0, hx1, hs2, hr2, hg2⟩
  have o2 : Own w2 3 1 w.heap.size 0 0 [] := (Own.new w #[] 3 1 0 (by unfold maxLen; omega) rfl).grown hg2 (by omega)
  have G2 : w.grownBy w2 (some R) := grown_trans (World.grownBy_alloc w _ _) hg2
  clear hs2 hg2 hr
  go_wp2_with fail
  refine (pick_any B R (P + 1) _ _ hr2 (by omega) (by omega) (by omega)).mono ?_
  rintro e w3 ⟨x2, rfl, hy0, hy1, hs3, hr3, hg3⟩
  have o3 := o2.grown hg3 (by omega)
  have G3 := grown_trans G2 hg3
  clear hs3 hg3 hr2 G2 o2
  go_wp2_with fail
  go_loopw [3, 5, 6] (fun s a i wr => ∃ (k g c : Nat) (zs : List Int) (x : Int), s = .slice (some ⟨g, 0, none⟩) k c ∧ a = .int .i64 x ∧ i = .int .i64 k ∧ (k : Int) ≤ x1 ∧ zs.length = k ∧ w.heap.size ≤ g ∧ Rd wr B R (P + 2 + 2 * k) ∧ Own wr 3 1 g k c (zs.map (Value.int .i64)) ∧ w.grownBy wr (some R)) (fun _ _ i _ => (x1 - intOf i).toNat)
  case atStart => exact ⟨0, _, _, [], _, rfl, rfl, rfl, by omega, rfl, Nat.le_refl _, hr3, o3, G3⟩
  case round =>
    obtain ⟨k, g, c, zs, x, rfl, rfl, rfl, hk, hl, hg, hrr, oz, hG⟩ := hrel
    clear o3 hr3 G3
    have zG := hG.size
    have lRr := hrr.lt
    have lz := oz.lt
    have Hl := hide hl
    clear hl
    by_cases hkN : (k : Int) < x1
    · go_wp2_with (first | (at_builtin; refine wpList_append_1 rfl _ _ _ rfl elemI rfl oz #[.int .i64 x] rfl rfl rfl (by omega) ?_; intro g' c' w7 oz' hg7 hat7))
      have hr7 := hrr.grown hg7 (by omega)
      have hG7 := grown_row hG hg7 hg
      have lz7 := oz'.lt
      clear oz hg7 hG hrr
      refine (pick_any B R _ _ _ hr7 (by omega) (by omega) (by omega)).mono ?_
      rintro e w8 ⟨x6, rfl, hv0, hv1, hs8, hr8, hg8⟩
      have oz8 := oz'.grown hg8 (by omega)
      have hG8 := grown_trans hG7 hg8
      clear oz' hg8 hs8 hG7 hr7
      go_wp2_with fail
      refine (pick_any B R _ _ _ hr8 (by omega) (by omega) (by omega)).mono ?_
      rintro e w9 ⟨x7, rfl, hu0, hu1, hs9, hr9, hg9⟩
      have oz9 := oz8.grown hg9 (by omega)
      have hG9 := grown_trans hG8 hg9
      clear oz8 hg9 hs9 hG8 hr8
      go_wp2_with fail
      go_roundw
      case rel =>
        exact ⟨k + 1, _, _, zs ++ [x], _, rfl, rfl, by go_num, by omega, by have := Hl.out; simp; omega, by omega, hr9.more (by omega), oz9.conv (by simp), hG9⟩
      case measure => simp [intOf]; omega
    · have hkN' : x1 = (k : Int) := by omega
      subst hkN'
      by_cases hk0 : k = 0
      · have d1' : ¬ (0 : Int) < (k : Int) := by omega
        have d2' : ¬ 0 < k := by omega
        have HK0 := hide hk0
        clear hk0
        go_wp2_with fail
        go_ret
        exact drewInts_mk Hl.out (by omega) hg oz (hrr.more (by omega)) hG
      · have d0 : (0 : Int) < (k : Int) := by omega
        go_wp2_with fail
        refine (pick_any B R _ _ _ hrr (by omega) (by omega) (by omega)).mono ?_
        rintro e w9 ⟨x6, rfl, hv0, hv1, hs9, hr9, hg9⟩
        have oz9 := oz.grown hg9 (by omega)
        have hG9 := grown_trans hG hg9
        clear hg9 hs9 hG hrr oz
        by_cases hx6 : x6 = 0
        · subst hx6
          go_wp2_with fail
          refine (pick_any B R _ _ _ hr9 (by omega) (by omega) (by omega)).mono ?_
          rintro e wa ⟨xa, rfl, ha0, ha1, hsa, hra, hga⟩
          have oza := oz9.grown hga (by omega)
          have hGa := grown_trans hG9 hga
          have lRa := hra.lt
          clear hga hsa hG9 hr9 oz9
          go_wp2_with fail
          refine (pick_from (N := 3) hra ?_ ?_ ?_ ?_).mono ?_
          · (repeat' (first | (with_reducible exact RExt.refl _ _) | (with_reducible refine RExt.alloc ?_ _) | (with_reducible refine RExt.setCell ?_ ?_ _) | (with_reducible refine RExt.drew ?_) | (with_reducible refine RExt.drewN ?_ _) | (with_reducible refine RExt.below ?_ (by assumption)) | omega | (simp; done) | (simp; omega)))
          · omega
          · omega
          · omega
          rintro e wb ⟨xb, rfl, hb0, hb1, hsb, hrb, hgb⟩
          have ozb := (oza.alloc _).grown hgb (by omega)
          have hGb := grown_trans (grown_alloc hGa _) hgb
          have lza := oza.lt
          have lzb := ozb.lt
          obtain ⟨y, rfl⟩ := Int.eq_ofNat_of_zero_le ha0
          have ne1 : ¬ wa.heap.size = g := by omega
          have ne2 : ¬ g = wa.heap.size := by omega
          obtain ⟨v0, q0⟩ := own_some ozb (show y < k * 1 by omega)
          have f0 := ozb.frozen y
          have rX : Row wb (wa.heap.size) _ := Row.grown (by (repeat' (first | (with_reducible assumption) | (with_reducible exact Row.new _ _ _) | (with_reducible exact Row.new1 _ _ _ _) | (with_reducible exact Row.new2 _ _ _ _ _) | (with_reducible exact Row.new2' _ _ _ _ _) | ((with_reducible apply Row.mk) <;> (with_reducible assumption)) | (with_reducible apply Row.alloc) | (with_reducible apply Row.set) | (with_reducible apply Row.far) | (with_reducible apply Row.drew) | (with_reducible apply Row.drewN) | omega | (simp; done) | (simp; omega)))) hgb (by omega)
          (try clear cX fX lX)
          obtain ⟨cX, fX, lX⟩ := rX
          have Hoz := hide ozb
          clear hsb hgb hGa oza ozb hra
          rcases (show xb = 0 ∨ xb = 1 ∨ xb = 2 from by omega) with rfl | rfl | rfl
          all_goals
            go_wp2_with fail
            go_ret
            exact drewInts_mk (by rw [List.length_set]; exact Hl.out) (by omega) hg (own_set_int Hoz.out y _) ((hrb.more (by omega)).setCell (by show R < g; omega) _) (grown_setCell hGb (.inr hg) _)
        · have hx' : (x6 == 0) = false := by simpa using hx6
          go_wp2_with fail
          go_ret
          exact drewInts_mk Hl.out (by omega) hg oz9 (hr9.more (by omega)) hG9
theorem drawNacksOf (B : Nat) (A : Option Addr) (n c : Nat) (w : World) (hcode : Code w B A n) (hn : n ≤ c) (hm : c ≤ 9223372036854775807) (hB : B ≤ w.heap.size) :
    Calls Try.prog 28 #[.slice A n c] w fun e w' => ∃ g c zs, e = .returned (.slice (some ⟨g, 0, none⟩) (List.length zs) c) ∧ zs.length ≤ 10 ∧ w.heap.size ≤ g ∧ Own w' 3 1 g zs.length c (zs.map (Value.int .i64)) ∧ Below w.heap.size w w' := by
  have Hcode := hide hcode
  clear hcode
  go_enter Try.func28, Try.ntmps28
  go_wp2_with fail
  refine (l6Open_any B A n c _ Hcode.out hn hm hB).mono ?_
  rintro e w1 ⟨R, rfl, hR, hr, hb1⟩
  have zb := hb1.size
  clear Hcode
  go_wp2_with fail
  refine (l92Numbers_any B R 0 _ hr (by omega)).mono ?_
  rintro e w2 ⟨g, c, zs, rfl, hl, hg, oz, hr2, hg2⟩
  have Hl := hide hl
  have Hoz := hide oz
  clear hl oz hr2 hr
  go_wp2_with fail
  go_ret
  exact ⟨g, c, zs, rfl, Hl.out, by omega, Hoz.out, hb1.grown hg2 zb (by intro k hk; simp at hk; omega)⟩
set_option maxHeartbeats 1000000 in
theorem sameNacks_same (A B : Option Addr) (c1 c2 : Nat) (zs : List VNack) (w : World) (hA : NackAt w A zs) (hB : NackAt w B zs) (hm : zs.length ≤ 1048576) :
    Calls Try.prog 30 #[.slice A zs.length c1, .slice B zs.length c2] w (RetQ (.bool true) w) := by
  have HA := hide hA
  have HB := hide hB
  clear hA hB
  obtain ⟨n, hn⟩ : ∃ n, zs.length = n := ⟨_, rfl⟩
  rw [hn] at hm ⊢
  have Hn := hide hn
  clear hn
  go_enter Try.func30, Try.ntmps30
  go_wp2_with fail
  go_loopw [5] (fun i wr => ∃ k m : Nat, k ≤ n ∧ i = .int .i64 k ∧ wr = w.drewN m) (fun i _ => n - (intOf i).toNat)
  case atStart => exact ⟨0, 0, by omega, rfl, rfl⟩
  case round =>
    obtain ⟨k, m, hk, rfl, rfl⟩ := hrel
    by_cases hk' : k < n
    · obtain ⟨b, off, rfl, hlt, hc⟩ := NackAt.at HA.out (by have := Hn.out; omega)
      obtain ⟨b2, off2, rfl, hlt2, hc2⟩ := NackAt.at HB.out (by have := Hn.out; omega)
      have hA := hc k (by have := Hn.out; omega)
      have hB := hc2 k (by have := Hn.out; omega)
      clear hc hc2
      obtain ⟨x, hx⟩ : ∃ x, zs.getD k default = x := ⟨_, rfl⟩
      rw [hx] at hA hB
      clear hx
      obtain ⟨s0, s1⟩ := hA
      obtain ⟨t0, t1⟩ := hB
      have g2 : (k : Int) < (n : Int) := by omega
      go_wp2_with fail
      go_quiet (fail)
      go_wp2_with fail
      go_roundw
      case rel => exact ⟨k + 1, m + nq, by omega, by go_num, by simp⟩
      case measure => simp [intOf]; omega
    · go_wp2_with fail
      go_ret
      exact ⟨rfl, m, rfl⟩
end Go.Proofs.Ytibedadmogadhaa
