/- What DrawDelayUse draws from a code. -/
import Derived.Test.YtdebjgghhiohmaaE3
import Derived.Test.YtdebjgghhiohmaaOW
namespace Go.Proofs.Ytdebjgghhiohmaa
open Go.ChangeShapes Go.WideShapes Go.ChangeAt Go.RowKit

theorem elemI : ElemOf Try.prog 31 3 1 8 := elemOf Try.underlying31 intInfo rfl (by omega) (by omega)
/-- What a draw of two lists of times leaves. -/
def Times2 (w : World) (e : Ending) (w' : World) : Prop :=
  ∃ (A1 A2 : Option Addr) (c1 c2 : Nat) (zs ys : List Int), e = .returned (.tuple #[.slice A1 zs.length c1, .slice A2 ys.length c2]) ∧ IntsAt w' A1 zs ∧ IntsAt w' A2 ys ∧ zs.length ≤ 30 ∧ ys.length ≤ 30 ∧ Below w.heap.size w w'
theorem own_ints {w : World} {g n cap : Nat} {zs : List Int} (h : Own w 3 1 g n cap (zs.map (Value.int .i64))) : IntsAt w (some ⟨g, 0, none⟩) zs := by
  have hl := h.len
  simp at hl
  refine .inr ⟨g, 0, rfl, h.lt, fun i hi => ?_⟩
  have := h.cell (j := i) (by omega)
  rw [show 0 + i = i by omega, this]
  simp [List.getElem?_eq_getElem hi]
theorem own_tail {w : World} {g n cap : Nat} {zs : List Int} (h : Own w 3 1 g n cap (zs.map (Value.int .i64))) : IntsAt w (some ⟨g, 1, none⟩) (zs.drop 1) := by
  have hl := h.len
  simp at hl
  refine .inr ⟨g, 1, rfl, h.lt, fun i hi => ?_⟩
  simp at hi
  have := h.cell (j := 1 + i) (by omega)
  rw [this]
  have e : i + 1 = 1 + i := by omega
  simp [e, List.getElem?_eq_getElem (show 1 + i < zs.length by omega)]
theorem times2_mk {w w' : World} {A1 A2 : Option Addr} {c1 c2 k m : Nat} {zs ys : List Int} (h1 : zs.length = k) (h2 : ys.length = m) (i1 : IntsAt w' A1 zs) (i2 : IntsAt w' A2 ys) (hk : k ≤ 30) (hm : m ≤ 30) (hb : Below w.heap.size w w') :
    Times2 w (.returned (.tuple #[.slice A1 k c1, .slice A2 m c2])) w' := ⟨A1, A2, c1, c2, zs, ys, by rw [h1, h2], i1, i2, by omega, by omega, hb⟩
set_option maxHeartbeats 2000000 in
theorem drawDelayUse (B : Nat) (A : Option Addr) (n c : Nat) (w : World) (hcode : Code w B A n) (hn : n ≤ c) (hm : c ≤ 9223372036854775807) (hB : B ≤ w.heap.size) :
    Calls Try.prog 16 #[.slice A n c] w (Times2 w) := by
  have Hcode := hide hcode
  clear hcode
  go_enter Try.func16, Try.ntmps16
  go_wp2_with fail
  refine (l6Open_any B A n c _ (Hcode.out) hn hm hB).mono ?_
  rintro e w1 ⟨R, rfl, hR, hr, hb1⟩
  have zb := hb1.size
  have lR := hr.lt
  clear Hcode
  go_wp2_with fail
  refine (pick_any B R 0 _ _ ((hr.alloc _).alloc _) (by omega) (by omega) (by omega)).mono ?_
  rintro e w2 ⟨x1, rfl, hx0, hx1, hs2, hr2, hg2⟩
  simp at hs2
  have o1 : Own w2 3 1 w1.heap.size 0 0 [] := (((Own.new w1 #[] 3 1 0 (by unfold maxLen; omega) rfl).alloc _).grown hg2 (by omega))
  have o2 : Own w2 3 1 (w1.heap.size + 1) 0 0 [] := ((Own.new1 w1 _ #[] 3 1 0 (by unfold maxLen; omega) rfl).grown hg2 (by omega))
  have hG2 : Below w.heap.size w w2 := by (repeat' (first | (with_reducible exact Below.refl _ _) | (with_reducible assumption) | (with_reducible refine Below.alloc ?_ ?_ _) | (with_reducible refine Below.setCell ?_ ?_ _) | (with_reducible refine Below.drew ?_) | (with_reducible refine below_drewN' ?_ _) | (with_reducible refine below_step (by assumption) ?_ ?_) | (with_reducible refine below_gstep (by assumption) ?_ ?_ ?_) | (with_reducible exact Below.size (by assumption)) | omega | (simp; done) | (simp; omega)))
  have zG2 := hG2.size
  obtain ⟨g1, hg1⟩ : ∃ g, w1.heap.size = g := ⟨_, rfl⟩
  obtain ⟨g2, hg2'⟩ : ∃ g, w1.heap.size + 1 = g := ⟨_, rfl⟩
  have d1 : R < g1 ∧ g1 < g2 ∧ w.heap.size ≤ g1 := by omega
  obtain ⟨d1, d2, d3⟩ := d1
  rw [hg1] at o1
  rw [hg2'] at o2
  rw [hg2', hg1]
  clear hg2 hs2 hg1 hg2' hr hb1
  -- the number of times
  go_wp2_with fail
  refine (pick_any B R 1 _ _ hr2 (by omega) (by omega) (by omega)).mono ?_
  rintro e w3 ⟨x2, rfl, hy0, hy1, hs3, hr3, hg3⟩
  have o1' := o1.grown hg3 (by omega)
  have o2' := o2.grown hg3 (by omega)
  have hG3 : Below w.heap.size w w3 := by (repeat' (first | (with_reducible exact Below.refl _ _) | (with_reducible assumption) | (with_reducible refine Below.alloc ?_ ?_ _) | (with_reducible refine Below.setCell ?_ ?_ _) | (with_reducible refine Below.drew ?_) | (with_reducible refine below_drewN' ?_ _) | (with_reducible refine below_step (by assumption) ?_ ?_) | (with_reducible refine below_gstep (by assumption) ?_ ?_ ?_) | (with_reducible exact Below.size (by assumption)) | omega | (simp; done) | (simp; omega)))
  have zG3 := hG3.size
  clear hg3 hs3 o1 o2 hG2 hr2
  go_upto_if 21 with (fail)
  go_cut [7] (fun nn wx => ∃ N : Int, nn = .int .i64 N ∧ 0 ≤ N ∧ N ≤ 21 ∧ Rd wx B R 3 ∧ Own wx 3 1 g1 0 0 [] ∧ Own wx 3 1 g2 0 0 [] ∧ Below w.heap.size w wx)
  case first =>
    by_cases hx : x2 = 0
    · subst hx
      go_wp2_with fail
      refine (pick_from (N := 3) hr3 ?_ ?_ ?_ ?_).mono ?_
      · (repeat' (first | (with_reducible exact RExt.refl _ _) | (with_reducible refine RExt.alloc ?_ _) | (with_reducible refine RExt.setCell ?_ ?_ _) | (with_reducible refine RExt.drew ?_) | (with_reducible refine RExt.drewN ?_ _) | (with_reducible refine RExt.below ?_ (by assumption)) | omega | (simp; done) | (simp; omega)))
      · omega
      · omega
      · omega
      rintro e w4 ⟨x3, rfl, hz0, hz1, hs4, hr4, hg4⟩
      have lR3 := hr3.lt
      have o1 := (o1'.alloc _).grown hg4 (by omega)
      have o2 := (o2'.alloc _).grown hg4 (by omega)
      have rX : Row w4 (w3.heap.size) _ := Row.grown (by (repeat' (first | (with_reducible assumption) | (with_reducible exact Row.new _ _ _) | (with_reducible exact Row.new1 _ _ _ _) | (with_reducible exact Row.new2 _ _ _ _ _) | (with_reducible exact Row.new2' _ _ _ _ _) | ((with_reducible apply Row.mk) <;> (with_reducible assumption)) | (with_reducible apply Row.alloc) | (with_reducible apply Row.set) | (with_reducible apply Row.far) | (with_reducible apply Row.drew) | (with_reducible apply Row.drewN) | omega | (simp; done) | (simp; omega)))) hg4 (by omega)
      (try clear cX fX lX)
      obtain ⟨cX, fX, lX⟩ := rX
      have hG4 : Below w.heap.size w w4 := by (repeat' (first | (with_reducible exact Below.refl _ _) | (with_reducible assumption) | (with_reducible refine Below.alloc ?_ ?_ _) | (with_reducible refine Below.setCell ?_ ?_ _) | (with_reducible refine Below.drew ?_) | (with_reducible refine below_drewN' ?_ _) | (with_reducible refine below_step (by assumption) ?_ ?_) | (with_reducible refine below_gstep (by assumption) ?_ ?_ ?_) | (with_reducible exact Below.size (by assumption)) | omega | (simp; done) | (simp; omega)))
      have zG4 := hG4.size
      clear hs4 hg4 hG3
      rcases (show x3 = 0 ∨ x3 = 1 ∨ x3 = 2 from by omega) with rfl | rfl | rfl
      all_goals
        go_wp2_with fail
        go_meet
        exact ⟨_, rfl, by omega, by omega, hr4, o1, o2, hG4⟩
    · have hx' : (x2 == 0) = false := by simpa using hx
      go_wp2_with fail
      go_meet
      exact ⟨_, rfl, by omega, by omega, hr3.more (by omega), o1', o2', hG3⟩
  case rest =>
    obtain ⟨N, rfl, hN0, hN1, hr4, o1, o2, hG4⟩ := hcut
    clear hr3 o1' o2' hG3
    have zG4 := hG4.size
    go_wp2_with fail
    refine (pick_any B R 3 _ _ hr4 (by omega) (by omega) (by omega)).mono ?_
    rintro e w5 ⟨x4, rfl, hz0, hz1, hs5, hr5, hg5⟩
    have p1 := o1.grown hg5 (by omega)
    have p2 := o2.grown hg5 (by omega)
    have hG5 : Below w.heap.size w w5 := by (repeat' (first | (with_reducible exact Below.refl _ _) | (with_reducible assumption) | (with_reducible refine Below.alloc ?_ ?_ _) | (with_reducible refine Below.setCell ?_ ?_ _) | (with_reducible refine Below.drew ?_) | (with_reducible refine below_drewN' ?_ _) | (with_reducible refine below_step (by assumption) ?_ ?_) | (with_reducible refine below_gstep (by assumption) ?_ ?_ ?_) | (with_reducible exact Below.size (by assumption)) | omega | (simp; done) | (simp; omega)))
    have zG5 := hG5.size
    clear hs5 hg5 hG4 o1 o2 hr4
    go_wp2_with fail
    refine (pick_any B R 4 _ _ hr5 (by omega) (by omega) (by omega)).mono ?_
    rintro e w6 ⟨x5, rfl, hu0, hu1, hs6, hr6, hg6⟩
    have q1 := p1.grown hg6 (by omega)
    have q2 := p2.grown hg6 (by omega)
    have hG6 : Below w.heap.size w w6 := by (repeat' (first | (with_reducible exact Below.refl _ _) | (with_reducible assumption) | (with_reducible refine Below.alloc ?_ ?_ _) | (with_reducible refine Below.setCell ?_ ?_ _) | (with_reducible refine Below.drew ?_) | (with_reducible refine below_drewN' ?_ _) | (with_reducible refine below_step (by assumption) ?_ ?_) | (with_reducible refine below_gstep (by assumption) ?_ ?_ ?_) | (with_reducible exact Below.size (by assumption)) | omega | (simp; done) | (simp; omega)))
    have zG6 := hG6.size
    clear hs6 hg6 hG5 p1 p2 hr5
    go_wp2_with fail
    go_loopw [5, 6, 8, 9, 11] (fun s t a b i wr => ∃ (k h1 c1 h2 c2 : Nat) (zs ys : List Int) (x y : Int), s = .slice (some ⟨h1, 0, none⟩) k c1 ∧ t = .slice (some ⟨h2, 0, none⟩) k c2 ∧ a = .int .i64 x ∧ b = .int .i64 y ∧ i = .int .i64 k ∧ (k : Int) ≤ N ∧ zs.length = k ∧ ys.length = k ∧ R < h1 ∧ R < h2 ∧ h1 ≠ h2 ∧ Rd wr B R (5 + k) ∧ Own wr 3 1 h1 k c1 (zs.map (Value.int .i64)) ∧ Own wr 3 1 h2 k c2 (ys.map (Value.int .i64)) ∧ Below w.heap.size w wr) (fun _ _ _ _ i _ => (N - intOf i).toNat)
    case atStart => exact ⟨0, _, _, _, _, [], [], _, _, rfl, rfl, rfl, rfl, rfl, by omega, rfl, rfl, d1, by omega, by omega, hr6, q1, q2, hG6⟩
    case round =>
      obtain ⟨k, h1, c1, h2, c2, zs, ys, x, y, rfl, rfl, rfl, rfl, rfl, hk, hl1, hl2, hR1, hR2, hne, hrr, oz, oy, hGr⟩ := hrel
      clear q1 q2 hr6 hG6
      have zGr := hGr.size
      have lRr := hrr.lt
      have lz := oz.lt
      have ly := oy.lt
      have Hl1 := hide hl1
      have Hl2 := hide hl2
      clear hl1 hl2
      by_cases hkN : (k : Int) < N
      · go_wp2_with (first | (at_builtin; refine wpList_append_1 rfl (.tmp 38) (.tmp 40) 31 rfl elemI rfl oz #[.int .i64 x] rfl rfl rfl (by omega) ?_; intro h1' c1' w7 oz' hg7 hat7; have oy' := oy.grown hg7 (by omega)) | (at_builtin; refine wpList_append_1 rfl (.tmp 42) (.tmp 44) 31 rfl elemI rfl oy' #[.int .i64 y] rfl rfl rfl (by omega) ?_; intro h2' c2' w8 oy'' hg8 hat8; have oz'' := oz'.grown hg8 (by omega)))
        have hr8 := (hrr.grown hg7 hR1).grown hg8 hR2
        have hG8 : Below w.heap.size w w8 := (hGr.grown hg7 zGr (by intro k hk; simp at hk; omega)).grown hg8 (by have := hg7.size; omega) (by intro k hk; simp at hk; omega)
        have lz8 := oz''.lt
        have lz7 := oz'.lt
        have zg7 := hg7.size
        have zg8 := hg8.size
        clear oz oy oz' oy' hg7 hg8 hGr hrr
        refine (pick_any B R _ _ _ hr8 (by omega) (by omega) (by omega)).mono ?_
        rintro e w9 ⟨x6, rfl, hv0, hv1, hs9, hr9, hg9⟩
        have oz9 := oz''.grown hg9 (by omega)
        have oy9 := oy''.grown hg9 (by omega)
        have hG9 : Below w.heap.size w w9 := hG8.grown hg9 hG8.size (by intro k hk; simp at hk; omega)
        clear oz'' oy'' hg9 hs9 hG8 hr8
        go_wp2_with fail
        go_roundw
        case rel =>
          refine ⟨k + 1, _, _, _, _, zs ++ [x], ys ++ [y], _, _, rfl, rfl, rfl, rfl, by go_num, by omega, by have := Hl1.out; simp; omega, by have := Hl2.out; simp; omega, by omega, by omega, by omega, hr9.more (by omega), oz9.conv (by simp), oy9.conv (by simp), hG9⟩
        case measure => simp [intOf]; omega
      · have hkN' : N = (k : Int) := by omega
        subst hkN'
        have oz0 := own_ints oz
        have oy0 := own_ints oy
        obtain ⟨roomy, roomy2⟩ := oy.room
        unfold maxLen at roomy2
        by_cases hk0 : (k : Int) = 0
        · have d0 : decide ((0 : Int) < (k : Int)) = false := decide_eq_false (by omega)
          have d1' : ¬ (0 : Int) < (k : Int) := by omega
          have d2' : ¬ 0 < k := by omega
          have HK0 := hide hk0
          clear hk0
          go_wp2_with fail
          go_ret2
          exact times2_mk Hl1.out Hl2.out oz0 oy0 (by omega) (by omega) hGr
        · have d0 : (0 : Int) < (k : Int) := by omega
          go_wp2_with fail
          refine (pick_any B R _ _ _ hrr (by omega) (by omega) (by omega)).mono ?_
          rintro e w9 ⟨x6, rfl, hv0, hv1, hs9, hr9, hg9⟩
          have oz9 := oz.grown hg9 (by omega)
          have oy9 := oy.grown hg9 (by omega)
          have hG9 : Below w.heap.size w w9 := hGr.grown hg9 zGr (by intro k hk; simp at hk; omega)
          clear hg9 hs9 hGr hrr oz oy
          by_cases hx6 : x6 = 0
          · subst hx6
            have d1' : (1 : Int) ≤ (k : Int) := by omega
            have d2' : 1 ≤ k := by omega
            have d3' : 1 ≤ c2 := by omega
            go_wp2_with fail
            · go_ret2
              exact times2_mk (ys := []) Hl1.out (by simp; omega) (own_ints oz9) (.inl rfl) (by omega) (by omega) hG9
            · go_ret2
              exact times2_mk Hl1.out (by have := Hl2.out; simp; omega) (own_ints oz9) (own_tail oy9) (by omega) (by omega) hG9
          · have hx' : (x6 == 0) = false := by simpa using hx6
            go_wp2_with fail
            go_ret2
            exact times2_mk Hl1.out Hl2.out (own_ints oz9) (own_ints oy9) (by omega) (by omega) hG9
end Go.Proofs.Ytdebjgghhiohmaa
