/- What l92Nacks and DrawNacksList draw. -/
import Derived.Test.YtibedadmogadhaaK6
import Derived.Test.YtibedadmogadhaaK7
namespace Go.Proofs.Ytibedadmogadhaa
open Go.ChangeShapes Go.WideShapes Go.ChangeAt Go.RowKit Go.Deep

/-- What a draw of nacks leaves. -/
def DrewNacks (B R P M : Nat) (w : World) (e : Ending) (w' : World) : Prop :=
  ∃ g c zs, e = .returned (.slice (some ⟨g, 0, none⟩) (List.length zs) c) ∧ zs.length ≤ M ∧ w.heap.size ≤ g ∧ Own w' 48 2 g zs.length c (zs.map VNack.cells).flatten ∧ Rd w' B R P ∧ w.grownBy w' (some R)
theorem drewNacks_mk {B R P M g c k : Nat} {zs : List VNack} {w w' : World} (hk : zs.length = k) (h1 : k ≤ M) (h2 : w.heap.size ≤ g) (h3 : Own w' 48 2 g k c (zs.map VNack.cells).flatten) (h4 : Rd w' B R P) (h5 : w.grownBy w' (some R)) :
    DrewNacks B R P M w (.returned (.slice (some ⟨g, 0, none⟩) k c)) w' := ⟨g, c, zs, by rw [hk], by omega, h2, by rw [hk]; exact h3, h4, h5⟩
theorem own_fieldN {w : World} {g n c y j : Nat} {zs : List VNack} (h : Own w 48 2 g n c (zs.map VNack.cells).flatten) (hn : zs.length = n) (hj : j = 0 ∨ j = 1) (v : Int) (p : Addr) (hp : p = ⟨g, y * 2 + j, none⟩) :
    ∃ zs' : List VNack, zs'.length = n ∧ Own (w.setCell p (.int .i64 v)) 48 2 g n c (zs'.map VNack.cells).flatten := by
  subst hp
  have e := (flatNack zs).set y j (by omega) (.int .i64 v)
  rcases hj with rfl | rfl
  · refine ⟨zs.modify y fun x => { x with a0 := v }, by simpa using hn, (h.set (y * 2 + 0) _).conv ?_⟩
    rw [e]
    congr 1
    apply List.ext_getElem?
    intro i
    simp only [List.getElem?_modify, List.getElem?_map]
    cases zs[i]? with
    | none => rfl
    | some x => by_cases hi : y = i <;> simp [hi, VNack.cells]
  · refine ⟨zs.modify y fun x => { x with a1 := v }, by simpa using hn, (h.set (y * 2 + 1) _).conv ?_⟩
    rw [e]
    congr 1
    apply List.ext_getElem?
    intro i
    simp only [List.getElem?_modify, List.getElem?_map]
    cases zs[i]? with
    | none => rfl
    | some x => by_cases hi : y = i <;> simp [hi, VNack.cells]
theorem nk_end {w W : World} {B R Q P M g c k : Nat} (h : ∃ zs' : List VNack, zs'.length = k ∧ Own W 48 2 g k c (zs'.map VNack.cells).flatten) (hr : Rd W B R Q) (hG : w.grownBy W (some R)) (hk : k ≤ M) (hQ : Q ≤ P) (hg : w.heap.size ≤ g) : DrewNacks B R P M w (.returned (.slice (some ⟨g, 0, none⟩) k c)) W := by
  obtain ⟨zs', h1, h2⟩ := h
  exact drewNacks_mk h1 hk hg h2 (hr.more hQ) hG
set_option maxHeartbeats 4000000 in
theorem l92Nacks_any (B R P : Nat) (w : World) (hr : Rd w B R P) (hP : P ≤ 900000) :
    Calls Try.prog 44 #[.pointer (some ⟨R, 0, none⟩)] w (DrewNacks B R (P + 40) 60 w) := by
  have lR := hr.lt
  go_enter Try.func44, Try.ntmps44
  go_wp2_with fail
  refine (l92Numbers_any B R P _ hr (by omega)).mono ?_
  rintro e w1 ⟨g1, c1, zs, rfl, hl1, hg1, o1, hr1, G1⟩
  obtain ⟨ys, B1, hR⟩ := relNacksOf_some zs
  have HR := hide hR
  have hly := relOf_len hR
  clear hR hr
  go_wp2_with fail
  refine (specNacksOf _ _ zs ys B1 _ HR.out (own_ints o1) (by omega)).mono ?_
  rintro e w2 ⟨g2, c2, rfl, hg2, o2, hb⟩
  have hr2 := hr1.below hb
  have lR1 := hr1.lt
  have G2 := grown_below G1 hb
  have s1 := G1.size
  have s2 := hb.size
  have lg2 : w.heap.size ≤ g2 := by omega
  have lRg : R < g2 := by omega
  clear hb hr1 G1 o1
  cases B1
  · have Ho2 := hide o2
    clear o2
    go_wp2_with fail
    go_ret
    exact drewNacks_mk (zs := [⟨3, 5⟩]) rfl (by omega) (by have := G2.size; omega) (Own.new w2 #[.int .i64 3, .int .i64 5] 48 2 1 (by unfold maxLen; omega) rfl) ((hr2.alloc _).more (by omega)) (grown_alloc G2 _)
  · obtain ⟨m, hmm⟩ : ∃ m, ys.length = m := ⟨_, rfl⟩
    rw [hmm] at hly o2 ⊢
    have Hm := hide hmm
    clear hmm
    by_cases hm0 : m = 0
    · have d1' : ¬ (0 : Int) < (m : Int) := by omega
      have d2' : ¬ 0 < m := by omega
      have Ho2 := hide o2
      have H0 := hide hm0
      clear o2 hm0
      go_wp2_with fail
      go_ret
      exact drewNacks_mk Hm.out (by omega) lg2 Ho2.out (hr2.more (by omega)) G2
    · have d1' : (0 : Int) < (m : Int) := by omega
      go_wp2_with fail
      refine (pick_any B R _ _ _ hr2 (by omega) (by omega) (by omega)).mono ?_
      rintro e w3 ⟨y, rfl, hy0, hy1, hs3, hr3, hg3⟩
      have o3 := o2.grown hg3 (by omega)
      have G3 := grown_trans G2 hg3
      obtain ⟨y, rfl⟩ := Int.eq_ofNat_of_zero_le hy0
      clear hs3 hg3 hr2 o2 G2
      go_wp2_with fail
      refine (pick_any B R _ _ _ hr3 (by omega) (by omega) (by omega)).mono ?_
      rintro e w4 ⟨x4, rfl, hx0, hx1, hs4, hr4, hg4⟩
      have o4 := o3.grown hg4 (by omega)
      have G4 := grown_trans G3 hg4
      have l4 := o4.lt
      have lR4 := hr4.lt
      clear hs4 hg4 hr3 o3 G3
      by_cases h0 : x4 = 0
      · subst h0
        go_wp2_with fail
        refine (pick_from (N := 3) hr4 ?_ ?_ ?_ ?_).mono ?_
        · (repeat' (first | (with_reducible exact RExt.refl _ _) | (with_reducible refine RExt.alloc ?_ _) | (with_reducible refine RExt.setCell ?_ ?_ _) | (with_reducible refine RExt.drew ?_) | (with_reducible refine RExt.drewN ?_ _) | (with_reducible refine RExt.below ?_ (by assumption)) | omega | (simp; done) | (simp; omega)))
        · omega
        · omega
        · omega
        rintro e wb ⟨xb, rfl, hb0, hb1, hsb, hrb, hgb⟩
        have ozb := (o4.alloc _).grown hgb (by omega)
        have hGb := grown_trans (grown_alloc G4 _) hgb
        have lzb := ozb.lt
        have ne1 : ¬ w4.heap.size = g2 := by omega
        have ne2 : ¬ g2 = w4.heap.size := by omega
        obtain ⟨v0, q0⟩ := own_some ozb (show y * 2 + 1 < m * 2 by omega)
        have f0 := ozb.frozen (y * 2 + 1)
        have rX : Row wb (w4.heap.size) _ := Row.grown (by (repeat' (first | (with_reducible assumption) | (with_reducible exact Row.new _ _ _) | (with_reducible exact Row.new1 _ _ _ _) | (with_reducible exact Row.new2 _ _ _ _ _) | (with_reducible exact Row.new2' _ _ _ _ _) | ((with_reducible apply Row.mk) <;> (with_reducible assumption)) | (with_reducible apply Row.alloc) | (with_reducible apply Row.set) | (with_reducible apply Row.far) | (with_reducible apply Row.drew) | (with_reducible apply Row.drewN) | omega | (simp; done) | (simp; omega)))) hgb (by omega)
        (try clear cX fX lX)
        obtain ⟨cX, fX, lX⟩ := rX
        have Hoz := hide ozb
        clear hsb hgb G4 o4 ozb hr4
        rcases (show xb = 0 ∨ xb = 1 ∨ xb = 2 from by omega) with rfl | rfl | rfl
        all_goals
          go_wp2_with fail
          go_ret
          exact nk_end (own_fieldN (y := y) (j := 1) Hoz.out Hm.out (.inr rfl) _ _ rfl) (hrb.setCell (by show R < g2; exact lRg) _) (grown_setCell hGb (.inr lg2) _) hly (by omega) lg2
      · by_cases h1 : x4 = 1
        · subst h1
          go_wp2_with fail
          refine (pick_any B R _ _ _ hr4 (by omega) (by omega) (by omega)).mono ?_
          rintro e wb ⟨xb, rfl, hb0, hb1, hsb, hrb, hgb⟩
          have ozb := o4.grown hgb (by omega)
          have hGb := grown_trans G4 hgb
          obtain ⟨v0, q0⟩ := own_some ozb (show y * 2 < m * 2 by omega)
          have f0 := ozb.frozen (y * 2)
          have Hoz := hide ozb
          clear hsb hgb G4 o4 ozb hr4
          go_wp2_with fail
          go_ret
          exact nk_end (own_fieldN (y := y) (j := 0) Hoz.out Hm.out (.inl rfl) _ _ rfl) (hrb.setCell (by show R < g2; exact lRg) _) (grown_setCell hGb (.inr lg2) _) hly (by omega) lg2
        · have e0 : (x4 == 0) = false := by simpa using h0
          have e1 : (x4 == 1) = false := by simpa using h1
          have Ho4 := hide o4
          clear o4
          go_wp2_with fail
          go_ret
          exact drewNacks_mk Hm.out hly lg2 Ho4.out (hr4.more (by omega)) G4
theorem drawNacksList (B : Nat) (A : Option Addr) (n c : Nat) (w : World) (hcode : Code w B A n) (hn : n ≤ c) (hm : c ≤ 9223372036854775807) (hB : B ≤ w.heap.size) :
    Calls Try.prog 40 #[.slice A n c] w fun e w' => ∃ g c zs, e = .returned (.slice (some ⟨g, 0, none⟩) (List.length zs) c) ∧ zs.length ≤ 60 ∧ w.heap.size ≤ g ∧ Own w' 48 2 g zs.length c (zs.map VNack.cells).flatten ∧ Below w.heap.size w w' := by
  have Hcode := hide hcode
  clear hcode
  go_enter Try.func40, Try.ntmps40
  go_wp2_with fail
  refine (l6Open_any B A n c _ Hcode.out hn hm hB).mono ?_
  rintro e w1 ⟨R, rfl, hR, hr, hb1⟩
  have zb := hb1.size
  clear Hcode
  go_wp2_with fail
  refine (l92Nacks_any B R 0 _ hr (by omega)).mono ?_
  rintro e w2 ⟨g, c, zs, rfl, hl, hg, oz, hr2, hg2⟩
  have Hl := hide hl
  have Hoz := hide oz
  clear hl oz hr2 hr
  go_wp2_with fail
  go_ret
  exact ⟨g, c, zs, rfl, Hl.out, by omega, Hoz.out, hb1.grown hg2 zb (by intro k hk; simp at hk; omega)⟩
end Go.Proofs.Ytibedadmogadhaa
