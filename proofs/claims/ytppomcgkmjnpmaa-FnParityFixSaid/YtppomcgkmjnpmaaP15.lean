/- Walk of FnParityDamage. -/
import Derived.Test.YtppomcgkmjnpmaaP14
namespace Go.Proofs.Ytppomcgkmjnpmaa
open Go.ChangeShapes Go.WideShapes Go.ChangeAt Go.RowKit Go.Deep

theorem fits_true {ls : List (List Int)} {p : List Int} (h : fitsB ls p = true) : parB ls = true ∧ par [0] ls = p := by
  unfold fitsB at h
  rw [Bool.and_eq_true] at h
  exact ⟨h.1, of_decide_eq_true h.2⟩
theorem fits_set {ls : List (List Int)} {p : List Int} {k : Nat} {y z : Int} (h : par [0] ls = p) (hk : k < p.length) (hy : p.getD k 0 = y) (hz : z ≠ y) : fitsB ls (p.set k z) = false := by
  refine fits_ne ?_
  rw [h]
  refine eqTo_ne (k := k) (x := y) (y := z) hy ?_ (Ne.symm hz)
  rw [List.getD_eq_getElem?_getD, List.getElem?_set_self hk]
  rfl
theorem own_app {w : World} {g c m : Nat} {zs : List Int} (hl : zs.length = m) (h : Own w 3 1 g (0 + zs.length) c (([] ++ zs).map (Value.int .i64))) : Own w 3 1 g m c (zs.map (Value.int .i64)) := by
  subst hl
  rw [Nat.zero_add, List.nil_append] at h
  exact h
set_option maxHeartbeats 4000000 in
theorem walk_fnParityDamage {H : Type} {enc : TypeId × Value → H} (W : World) (base : Nat) (v : Value) (d : DataW H) (p : List MemPlace) (v1 : Value) (d1 : DataW H) (p1 : List MemPlace) (o : Value.okWide Try.prog W .any base 22 v) (h : DataW.Trod enc Try.prog W 0 (fun _ => true) true 22 v d p)
    (o1 : Value.okWide Try.prog W .any base 22 v1) (h1 : DataW.Trod enc Try.prog W 0 (fun _ => true) true 22 v1 d1 p1) :
    Calls Try.prog 7 #[v, v1] W (RetB true W) := by
  obtain ⟨A, n, c, rfl, hn, hm, hcode⟩ := open_code W base v d p o h
  obtain ⟨A1, n1, c1, rfl, hn1, hm1, _⟩ := open_code W base v1 d1 p1 o1 h1
  clear o h o1 h1
  by_cases hbig : 1048576 < (n : Int)
  · clear hcode
    go_enter Try.func7, Try.ntmps7
    go_wp2_with fail
    go_ret
    refine ⟨rfl, ?_⟩
    (repeat' (first | (with_reducible exact Below.refl _ _) | (with_reducible assumption) | (with_reducible refine Below.alloc ?_ ?_ _) | (with_reducible refine Below.setCell ?_ ?_ _) | (with_reducible refine Below.drew ?_) | (with_reducible refine below_drewN' ?_ _) | (with_reducible refine below_step (by assumption) ?_ ?_) | (with_reducible refine below_gstep (by assumption) ?_ ?_ ?_) | (with_reducible exact Below.size (by assumption)) | omega | (simp; done) | (simp; omega)))
  by_cases hbig1 : 1048576 < (n1 : Int)
  · clear hcode
    go_enter Try.func7, Try.ntmps7
    go_wp2_with fail
    go_ret
    refine ⟨rfl, ?_⟩
    (repeat' (first | (with_reducible exact Below.refl _ _) | (with_reducible assumption) | (with_reducible refine Below.alloc ?_ ?_ _) | (with_reducible refine Below.setCell ?_ ?_ _) | (with_reducible refine Below.drew ?_) | (with_reducible refine below_drewN' ?_ _) | (with_reducible refine below_step (by assumption) ?_ ?_) | (with_reducible refine below_gstep (by assumption) ?_ ?_ ?_) | (with_reducible exact Below.size (by assumption)) | omega | (simp; done) | (simp; omega)))
  have Hcode := hide hcode
  clear hcode
  go_enter Try.func7, Try.ntmps7
  go_wp2_with fail
  refine (drawParityFits W.heap.size A n c _ Hcode.out hn hm (Nat.le_refl _)).mono ?_
  rintro e w1 ⟨g1, c1, bs, g2, c2, pr, rfl, hl1, hf1, hlp, ob, o2, hg1, hg2, bl⟩
  clear Hcode hf1
  obtain ⟨q, hq⟩ : ∃ q, bs.length = q := ⟨_, rfl⟩
  obtain ⟨m, hmm⟩ : ∃ q, pr.length = q := ⟨_, rfl⟩
  rw [hq] at hl1 ob ⊢
  rw [hmm] at hlp o2 ⊢
  obtain ⟨F, hF⟩ : ∃ F, fitsB (bs.map VBod.zs) pr = F := ⟨_, rfl⟩
  have K1 := fun w' (h1 : Below w1.heap.size w1 w') => implFitsOwn (ob.below h1) (o2.below h1) (by omega) (by omega)
  have K2 := fun w' (h1 : Below w1.heap.size w1 w') => specFitsOwn (ob.below h1) (o2.below h1) (by omega) (by omega)
  rw [hF] at K1 K2
  have HF := hide hF
  have Hm := hide hmm
  have HK2 := hide K2
  have Ob := hide ob
  have O2 := hide o2
  have Bl := hide bl
  clear hq hmm hF ob o2 bl K2
  go_wp2_with fail
  refine (K1 _ (Below.refl _ _)).mono ?_
  rintro e w2 ⟨rfl, b2⟩
  have B2 := hide b2
  clear b2 K1
  go_wp2_with fail
  refine (HK2.out _ B2.out).mono ?_
  rintro e w3 ⟨rfl, b3⟩
  have B3 := hide (B2.out.trans (b3.mono B2.out.size))
  have BB := hide (Bl.out.trans (B3.out.mono Bl.out.size))
  clear b3 B2 HK2
  cases F
  · go_wp2_with fail
    go_ret
    exact ⟨by first | rfl | (simp; done), BB.out⟩
  · obtain ⟨hB, hP⟩ := fits_true HF.out
    obtain ⟨ha, hb1, hb8⟩ := parB_all hB
    have hm1 : 1 ≤ m := by rw [← Hm.out, ← hP, par_length0]; omega
    have hsm : sm pr := by
      have := (par_facts (ls := bs.map VBod.zs) sm_zero (by simp) ha (bs.map VBod.zs).length).1
      rwa [List.take_length, hP] at this
    have HP := hide hP
    obtain ⟨k, hk⟩ : ∃ k, n1 % m = k := ⟨_, rfl⟩
    have hkm : k < m := by rw [← hk]; exact Nat.mod_lt _ (by omega)
    have hk1 : (n1 : Int).tmod (m : Int) = (k : Int) := by rw [← hk]; rfl
    have hk2 : ((n1 : Int) % (m : Int)) = (k : Int) := by rw [← hk]; rfl
    have hm0 : ¬ (m : Int) = 0 := by omega
    have hm2 : ¬ m = 0 := by omega
    have e0 : ((m : Int) == 0) = false := by simp only [beq_eq_false_iff_ne, ne_eq]; exact hm0
    obtain ⟨y, hy⟩ : ∃ y, pr.getD k 0 = y := ⟨_, rfl⟩
    have hy2 := hsm k
    rw [hy] at hy2
    obtain ⟨hy0, hy255⟩ := hy2
    have Hy := hide hy
    have Hnew := hide (Own.new w3 #[] 3 1 0 (by unfold maxLen; omega) rfl)
    have O2i := hide (own_ints O2.out)
    clear hB hP ha hb1 hb8 hsm hy HF
    have g3' : (k : Int) < (m : Int) := by omega
    by_cases h255 : y = 255
    · have e1 : (y == 255) = true := by simp [h255]
      have hz := hide (show (254 : Int) ≠ y by omega)
      clear h255
      go_wp2_with (first | (at_builtin; refine wpList_append_ints rfl _ _ _ rfl elemI (xs := []) (zs := pr) (A := some ⟨g2, 0, none⟩) (c := c2) rfl Hnew.out (by rw [Hm.out]; rfl) ((O2i.out.below B3.out).below ((Below.refl _ _).alloc (Nat.le_refl _) _)) (fun h => by cases h) (by rw [Hm.out]; omega) ?_; intro g8 cp8 w8 o8 hg8 hat8; have B8 := hide (fst_below hg8); have S8 := hide (fst_at hat8); have O8 := hide (own_app Hm.out o8); clear o8 hg8 hat8; have o8 := O8.out; have c8 := cellX o8 Hm.out hkm; rw [Hy.out] at c8; have f8 := o8.frozen k; have l8 := o8.lt; clear o8; rw [Hm.out, Nat.zero_add]))
      have s3 := B3.out.size
      have hb := Below.setCell (B3.out.trans (B8.out.mono s3)) (show w1.heap.size ≤ (⟨g8, k, none⟩ : Addr).block by show w1.heap.size ≤ g8; have := S8.out; omega) (.int .i64 (254))
      have hx := implFitsOwn (p := pr.set k (254)) (Ob.out.below hb) ((O8.out.set k (.int .i64 (254))).conv (by rw [List.map_set])) (by omega) (by omega)
      rw [fits_set HP.out (by rw [Hm.out]; exact hkm) Hy.out hz.out] at hx
      have HX := hide hx
      have HB := hide (Below.setCell (BB.out.trans (B8.out.mono BB.out.size)) (show W.heap.size ≤ (⟨g8, k, none⟩ : Addr).block by show W.heap.size ≤ g8; have := S8.out; have := BB.out.size; omega) (.int .i64 (254)))
      clear hx hb
      refine HX.out.mono ?_
      rintro e w9 ⟨rfl, b9⟩
      have B9 := hide (HB.out.trans (b9.mono HB.out.size))
      clear b9
      go_wp2_with fail
      go_ret
      exact ⟨by first | rfl | (simp; done), B9.out⟩
    · have e1 : (y == 255) = false := by simpa using h255
      have w0 : IntKind.i64.wrap (y + 1) = y + 1 := IntWalk.i64_in _ (by omega)
      have hz := hide (show y + 1 ≠ y by omega)
      clear h255
      go_wp2_with (first | (at_builtin; refine wpList_append_ints rfl _ _ _ rfl elemI (xs := []) (zs := pr) (A := some ⟨g2, 0, none⟩) (c := c2) rfl Hnew.out (by rw [Hm.out]; rfl) ((O2i.out.below B3.out).below ((Below.refl _ _).alloc (Nat.le_refl _) _)) (fun h => by cases h) (by rw [Hm.out]; omega) ?_; intro g8 cp8 w8 o8 hg8 hat8; have B8 := hide (fst_below hg8); have S8 := hide (fst_at hat8); have O8 := hide (own_app Hm.out o8); clear o8 hg8 hat8; have o8 := O8.out; have c8 := cellX o8 Hm.out hkm; rw [Hy.out] at c8; have f8 := o8.frozen k; have l8 := o8.lt; clear o8; rw [Hm.out, Nat.zero_add]))
      have s3 := B3.out.size
      have hb := Below.setCell (B3.out.trans (B8.out.mono s3)) (show w1.heap.size ≤ (⟨g8, k, none⟩ : Addr).block by show w1.heap.size ≤ g8; have := S8.out; omega) (.int .i64 (y + 1))
      have hx := implFitsOwn (p := pr.set k (y + 1)) (Ob.out.below hb) ((O8.out.set k (.int .i64 (y + 1))).conv (by rw [List.map_set])) (by omega) (by omega)
      rw [fits_set HP.out (by rw [Hm.out]; exact hkm) Hy.out hz.out] at hx
      have HX := hide hx
      have HB := hide (Below.setCell (BB.out.trans (B8.out.mono BB.out.size)) (show W.heap.size ≤ (⟨g8, k, none⟩ : Addr).block by show W.heap.size ≤ g8; have := S8.out; have := BB.out.size; omega) (.int .i64 (y + 1)))
      clear hx hb
      refine HX.out.mono ?_
      rintro e w9 ⟨rfl, b9⟩
      have B9 := hide (HB.out.trans (b9.mono HB.out.size))
      clear b9
      go_wp2_with fail
      go_ret
      exact ⟨by first | rfl | (simp; done), B9.out⟩
end Go.Proofs.Ytppomcgkmjnpmaa
