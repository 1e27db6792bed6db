/- Walks of the three laws on DelayUse. -/
import Derived.Test.YtdebjgghhiohmaaE12
namespace Go.Proofs.Ytdebjgghhiohmaa
open Go.ChangeShapes Go.WideShapes Go.ChangeAt Go.RowKit

theorem open_intS {H : Type} {enc : TypeId × Value → H} (W : World) (base : Nat) (v : Value) (d : DataW H) (p : List MemPlace) (o : Value.okWide Try.prog W .any base 31 v) (h : DataW.Trod enc Try.prog W 0 (fun _ => true) true 31 v d p) :
    ∃ A c zs, v = .slice A (List.length zs) c ∧ zs.length ≤ c ∧ c ≤ 9223372036854775807 ∧ IntsAt W A zs := by
  obtain ⟨A, n, c, rfl⟩ := okWide_slice Try.underlying31 o
  obtain ⟨fuel, hf⟩ := h
  rcases open_ints Try.underlying31 Try.underlying3 (by kernel_rfl) hf with ⟨hcs, _⟩ | ⟨x, l, cp, zs, hcs, _, hl, hm, hz, _, hcell, hwz⟩
  · simp [Value.cells] at hcs
    obtain ⟨rfl, rfl, rfl⟩ := hcs
    exact ⟨none, 0, [], rfl, by simp, by omega, .inl rfl⟩
  · simp [Value.cells] at hcs
    obtain ⟨rfl, rfl, rfl⟩ := hcs
    have hz' : zs.length = c := by simpa using hz
    unfold maxLen at hm
    have htake : (zs.take n).length = n := by simp; omega
    refine ⟨some x, c, zs.take n, by rw [htake], by rw [htake]; exact hl, hm, ?_⟩
    rcases Nat.eq_zero_or_pos n with h0 | h0
    · subst h0; exact .inl (by simp)
    · obtain ⟨b, off, spot⟩ := x
      have hc0 := hcell 0 (by omega)
      have hspot : spot = none := by simpa [Addr.add] using World.cell?_spot hc0
      subst hspot
      have hall : ∀ i, i < n → W.cell? ⟨b, off + i, none⟩ = some (.int .i64 (zs.getD i 0)) := by
        intro i hi
        have := hcell i (by omega)
        rcases Nat.eq_zero_or_pos i with rfl | hi0
        · simpa [Addr.add] using this
        · simpa [Addr.add, Nat.ne_of_gt hi0] using this
      refine .inr ⟨b, off, rfl, block_lt_of_cell (hall 0 h0), fun i hi => ?_⟩
      rw [htake] at hi
      rw [hall i hi]
      simp [List.getD_eq_getElem?_getD, hi]

set_option maxHeartbeats 1000000 in
theorem walk_fnExactDelayUse {H : Type} {enc : TypeId × Value → H} (W : World) (base : Nat) (v : Value) (d : DataW H) (p : List MemPlace) (v1 : Value) (d1 : DataW H) (p1 : List MemPlace) (o : Value.okWide Try.prog W .any base 31 v) (h : DataW.Trod enc Try.prog W 0 (fun _ => true) true 31 v d p)
    (o1 : Value.okWide Try.prog W .any base 31 v1) (h1 : DataW.Trod enc Try.prog W 0 (fun _ => true) true 31 v1 d1 p1) :
    Calls Try.prog 5 #[v, v1] W (RetB true W) := by
  obtain ⟨A, ca, s, rfl, hn, hm, hA⟩ := open_intS W base v d p o h
  obtain ⟨B, cb, c, rfl, hn1, hm1, hB⟩ := open_intS W base v1 d1 p1 o1 h1
  clear o h o1 h1
  by_cases hbig : 1048576 < (s.length : Int)
  · clear hA hB
    go_enter Try.func5, Try.ntmps5
    go_wp2_with fail
    go_ret
    refine ⟨rfl, ?_⟩
    (repeat' (first | (with_reducible exact Below.refl _ _) | (with_reducible assumption) | (with_reducible refine Below.alloc ?_ ?_ _) | (with_reducible refine Below.setCell ?_ ?_ _) | (with_reducible refine Below.drew ?_) | (with_reducible refine below_drewN' ?_ _) | (with_reducible refine below_step (by assumption) ?_ ?_) | (with_reducible refine below_gstep (by assumption) ?_ ?_ ?_) | (with_reducible exact Below.size (by assumption)) | omega | (simp; done) | (simp; omega)))
  · by_cases hbig2 : 1048576 < (c.length : Int)
    · clear hA hB
      go_enter Try.func5, Try.ntmps5
      go_wp2_with fail
      go_ret
      refine ⟨rfl, ?_⟩
      (repeat' (first | (with_reducible exact Below.refl _ _) | (with_reducible assumption) | (with_reducible refine Below.alloc ?_ ?_ _) | (with_reducible refine Below.setCell ?_ ?_ _) | (with_reducible refine Below.drew ?_) | (with_reducible refine below_drewN' ?_ _) | (with_reducible refine below_step (by assumption) ?_ ?_) | (with_reducible refine below_gstep (by assumption) ?_ ?_ ?_) | (with_reducible exact Below.size (by assumption)) | omega | (simp; done) | (simp; omega)))
    · have hs : s.length ≤ 1048576 := by omega
      have hc : c.length ≤ 1048576 := by omega
      have HA := hide hA
      have HB := hide hB
      clear hA hB
      go_enter Try.func5, Try.ntmps5
      go_wp2_with fail
      refine (toIntS_any A ca s _ HA.out hs).mono ?_
      rintro e w1 ⟨g1, rfl, hg1, hi1, hb1⟩
      have i1 := ints_of_row hi1
      clear hi1
      go_wp2_with fail
      refine (toIntS_any B cb c _ (HB.out.below hb1) hc).mono ?_
      rintro e w2 ⟨g2, rfl, hg2, hi2, hb2⟩
      have i1 := i1.below hb2
      have i2 := ints_of_row hi2
      have bl2 : Below W.heap.size W w2 := hb1.trans (hb2.mono hb1.size)
      clear hi2 hb1 hb2
      go_wp2_with fail
      refine (specUse_any _ _ _ _ s c _ i1 i2 hs hc).mono ?_
      rintro e w3 ⟨rfl, n3, rfl⟩
      have bl3 := below_drewN' bl2 n3
      clear bl2 i1 i2
      go_wp2_with fail
      refine (toIntS_any A ca s _ (HA.out.below bl3) hs).mono ?_
      rintro e w4 ⟨g3, rfl, hg3, hi3, hb3⟩
      have i3 := ints_of_row hi3
      have bl4 : Below W.heap.size W w4 := bl3.trans (hb3.mono bl3.size)
      clear hi3 bl3 hb3
      go_wp2_with fail
      refine (toIntS_any B cb c _ (HB.out.below bl4) hc).mono ?_
      rintro e w5 ⟨g4, rfl, hg4, hi4, hb4⟩
      have i3 := i3.below hb4
      have i4 := ints_of_row hi4
      have bl5 : Below W.heap.size W w5 := bl4.trans (hb4.mono bl4.size)
      clear hi4 bl4 hb4
      go_wp2_with fail
      refine (implUse_any _ _ _ _ s c _ i3 i4 hs hc).mono ?_
      rintro e w6 ⟨rfl, n6, rfl⟩
      have i3 := i3.drewN n6
      have i4 := i4.drewN n6
      have bl6 := below_drewN' bl5 n6
      clear bl5
      go_wp2_with fail
      refine (toIntS_any A ca s _ (HA.out.below bl6) hs).mono ?_
      rintro e w7 ⟨g5, rfl, hg5, hi5, hb5⟩
      have i3 := i3.below hb5
      have i4 := i4.below hb5
      have i5 := ints_of_row hi5
      have bl7 : Below W.heap.size W w7 := bl6.trans (hb5.mono bl6.size)
      clear hi5 bl6 hb5
      go_wp2_with fail
      refine (eqIntS_same _ _ _ _ s _ i3 i5 hs).mono ?_
      rintro e w8 ⟨rfl, n8, rfl⟩
      have i4 := i4.drewN n8
      have bl8 := below_drewN' bl7 n8
      clear bl7
      go_wp2_with fail
      refine (toIntS_any B cb c _ (HB.out.below bl8) hc).mono ?_
      rintro e w9 ⟨g6, rfl, hg6, hi6, hb6⟩
      have i4 := i4.below hb6
      have i6 := ints_of_row hi6
      have bl9 : Below W.heap.size W w9 := bl8.trans (hb6.mono bl8.size)
      clear hi6 bl8 hb6
      go_wp2_with fail
      refine (eqIntS_same _ _ _ _ c _ i4 i6 hc).mono ?_
      rintro e w10 ⟨rfl, n10, rfl⟩
      have bl10 := below_drewN' bl9 n10
      clear bl9
      go_wp2_with fail
      go_ret
      exact ⟨rfl, bl10⟩

theorem ends_all {w : World} {A B : Option Addr} {s c : List Int} (hA : IntsAt w A s) (hB : IntsAt w B c) (h1 : s.length = c.length) (h2 : timesR s = true) (h3 : timesR c = true) :
    ∃ (ba oa bb ob n : Nat) (s0 s1 c0 c9 D1 D0 D r : Int), A = some ⟨ba, oa, none⟩ ∧ B = some ⟨bb, ob, none⟩ ∧ s.length = n ∧ c.length = n ∧ useR s c = r ∧
      w.cell? ⟨ba, oa, none⟩ = some (.int .i64 s0) ∧ w.cell? ⟨ba, oa + (n - 1), none⟩ = some (.int .i64 s1) ∧ w.cell? ⟨bb, ob, none⟩ = some (.int .i64 c0) ∧ w.cell? ⟨bb, ob + (n - 1), none⟩ = some (.int .i64 c9) ∧
      n ≤ 20 ∧ (n : Int) - 1 < (n : Int) ∧ 0 ≤ (n : Int) - 1 ∧ IntKind.i64.wrap ((n : Int) - 1) = (n : Int) - 1 ∧ ((n : Int) - 1).toNat = n - 1 ∧ (0 : Int) < (n : Int) ∧
      IntKind.i64.wrap (c9 - s1) = D1 ∧ IntKind.i64.wrap (D1 - c0) = D0 ∧ IntKind.i64.wrap (D0 + s0) = D ∧ (12 < D ∧ ¬ D < -12 ∧ r = 1 ∨ ¬ 12 < D ∧ D < -12 ∧ r = 2 ∨ ¬ 12 < D ∧ ¬ D < -12 ∧ r = 0) := by
  obtain ⟨a1, a2, y1, y2, y3, y4, hr⟩ := ends h1 h2 h3 (useR s c) rfl
  obtain ⟨ba, oa, rfl, ca⟩ := ints_cell hA a1
  obtain ⟨bb, ob, rfl, cb⟩ := ints_cell hB (by omega)
  have x1 := ca 0 (by omega)
  have x3 := cb 0 (by omega)
  rw [Nat.add_zero] at x1 x3
  have e1 : IntKind.i64.wrap (c.getD (s.length - 1) 0 - s.getD (s.length - 1) 0) = c.getD (s.length - 1) 0 - s.getD (s.length - 1) 0 := IntWalk.i64_in _ (by omega)
  have e2 : IntKind.i64.wrap (c.getD (s.length - 1) 0 - s.getD (s.length - 1) 0 - c.getD 0 0) = c.getD (s.length - 1) 0 - s.getD (s.length - 1) 0 - c.getD 0 0 := IntWalk.i64_in _ (by omega)
  have e3 : IntKind.i64.wrap (c.getD (s.length - 1) 0 - s.getD (s.length - 1) 0 - c.getD 0 0 + s.getD 0 0) = c.getD (s.length - 1) 0 - s.getD (s.length - 1) 0 - c.getD 0 0 + s.getD 0 0 := IntWalk.i64_in _ (by omega)
  refine ⟨ba, oa, bb, ob, s.length, _, _, _, _, _, _, _, useR s c, rfl, rfl, rfl, h1.symm, rfl, x1, ca _ (by omega), x3, cb _ (by omega), a2, by omega, by omega, IntWalk.i64_in _ (by omega), by omega, by omega, e1, e2, e3, ?_⟩
  rw [hr]
  split
  · exact .inl ⟨by assumption, by omega, rfl⟩
  · split
    · exact .inr (.inl ⟨by assumption, by assumption, rfl⟩)
    · exact .inr (.inr ⟨by assumption, by assumption, rfl⟩)
set_option maxHeartbeats 1000000 in
theorem walk_fnUse {H : Type} {enc : TypeId × Value → H} (W : World) (base : Nat) (v : Value) (d : DataW H) (p : List MemPlace) (o : Value.okWide Try.prog W .any base 28 v) (h : DataW.Trod enc Try.prog W 0 (fun _ => true) true 28 v d p) :
    Calls Try.prog 6 #[v] W (RetB true W) := by
  obtain ⟨A, n, c, rfl, hn, hm, hcode⟩ := open_code W base v d p o h
  clear o h
  by_cases hbig : 1048576 < (n : Int)
  · clear hcode
    go_enter Try.func6, Try.ntmps6
    go_wp2_with fail
    go_ret
    refine ⟨rfl, ?_⟩
    (repeat' (first | (with_reducible exact Below.refl _ _) | (with_reducible assumption) | (with_reducible refine Below.alloc ?_ ?_ _) | (with_reducible refine Below.setCell ?_ ?_ _) | (with_reducible refine Below.drew ?_) | (with_reducible refine below_drewN' ?_ _) | (with_reducible refine below_step (by assumption) ?_ ?_) | (with_reducible refine below_gstep (by assumption) ?_ ?_ ?_) | (with_reducible exact Below.size (by assumption)) | omega | (simp; done) | (simp; omega)))
  · have Hcode := hide hcode
    clear hcode
    go_enter Try.func6, Try.ntmps6
    go_wp2_with fail
    refine (drawDelayUse W.heap.size A n c _ Hcode.out hn hm (Nat.le_refl _)).mono ?_
    rintro e w1 ⟨A1, A2, c1, c2, zs, ys, rfl, i1, i2, l1, l2, bl1⟩
    clear Hcode
    go_wp2_with fail
    refine (implUse_any _ _ _ _ zs ys _ i1 i2 (by omega) (by omega)).mono ?_
    rintro e w2 ⟨rfl, n2, rfl⟩
    go_wp2_with fail
    refine (specUse_any _ _ _ _ zs ys _ (i1.drewN n2) (i2.drewN n2) (by omega) (by omega)).mono ?_
    rintro e w3 ⟨rfl, n3, rfl⟩
    have i1 := (i1.drewN n2).drewN n3
    have i2 := (i2.drewN n2).drewN n3
    have bl3 := below_drewN' (below_drewN' bl1 n2) n3
    generalize ((w1.drewN n2).drewN n3) = w4 at *
    clear bl1
    by_cases hok : zs.length = ys.length ∧ timesR zs = true ∧ timesR ys = true
    · obtain ⟨h1, h2, h3⟩ := hok
      obtain ⟨ba, oa, bb, ob, n, s0, s1, c0, c9, D1, D0, D, r, rfl, rfl, hn1, hn2, hr1, x1, x2, x3, x4, g0, g3, g4, g5, g6, g7, b1, b2, b3, hr'⟩ := ends_all i1 i2 h1 h2 h3
      rw [hn1, hn2, hr1]
      clear i1 i2 h1 h2 h3 hn1 hn2 hr1 l1 l2
      rcases hr' with ⟨k1, k2, rfl⟩ | ⟨k1, k2, rfl⟩ | ⟨k1, k2, rfl⟩
      all_goals
        go_wp2_with fail
        go_quiet (fail)
        clear b1 b2 b3 g5 g6
        go_wp2_with fail
        refine bodyPost_ret (by first | (simp (maxDischargeDepth := 3) [results, Try.results6, go_sem, *]; done) | (simp (maxDischargeDepth := 3) [results, Try.results6, go_sem, *]; rfl) | (simp (maxDischargeDepth := 7) [results, Try.results6, go_sem, *]; done) | (simp (maxDischargeDepth := 7) [results, Try.results6, go_sem, *]; rfl)) rfl ?_
        refine retB_mk ?_ (below_drewN' bl3 _)
        simp [k1, k2]
    · rw [use_bad hok]
      clear hok
      go_wp2_with fail
      go_ret
      exact ⟨rfl, bl3⟩

/-! ### FnUseShift -/
def up (c : List Int) : List Int := c.map (· + 1)
theorem up_getD (c : List Int) (i : Nat) (hi : i < c.length) : (up c).getD i 0 = c.getD i 0 + 1 := by
  simp [up, List.getD_eq_getElem?_getD, hi]
theorem use_self {s : List Int} (h : timesR s = true) : useR s s = 0 := by
  unfold useR trend
  rw [if_pos ⟨rfl, h, h⟩, if_neg (by omega), if_neg (by omega)]
theorem use_shift {s c : List Int} (h : s.length = c.length ∧ timesR s = true ∧ timesR c = true) (hc : ∀ i, i < c.length → c.getD i 0 ≠ 99999) : useR s (up c) = useR s c := by
  obtain ⟨h1, h2, h3⟩ := h
  have h4 : timesR (up c) = true := by
    have := of_decide_eq_true h3
    have hl : (up c).length = c.length := by simp [up]
    refine decide_eq_true ⟨by rw [hl]; exact this.1, fun i hi => ?_⟩
    rw [hl] at hi
    have a := this.2 i hi
    have b := hc i hi
    rw [up_getD c i hi]
    refine ⟨by omega, by omega, fun h0 => ?_⟩
    rw [up_getD c (i - 1) (by omega)]
    have := a.2.2 h0
    omega
  obtain ⟨a1, a2, _⟩ := timesR_bd h2
  unfold useR
  have e : trend s (up c) = trend s c := by
    unfold trend
    rw [up_getD c _ (by omega), up_getD c _ (by omega)]
    omega
  rw [if_pos (show s.length = c.length ∧ timesR s = true ∧ timesR c = true from ⟨h1, h2, h3⟩), if_pos (show s.length = (up c).length ∧ timesR s = true ∧ timesR (up c) = true from ⟨by simpa [up] using h1, h2, h4⟩), e]
theorem use_ok {s c : List Int} (h : ¬ useR s c < 0) : s.length = c.length ∧ timesR s = true ∧ timesR c = true := by
  by_cases hx : s.length = c.length ∧ timesR s = true ∧ timesR c = true
  · exact hx
  · rw [use_bad hx] at h; omega
theorem up_take (c : List Int) (k : Nat) (hk : k < c.length) : up (c.take (k + 1)) = up (c.take k) ++ [c.getD k 0 + 1] := by
  unfold up
  rw [List.take_add_one, List.map_append]
  simp [List.getElem?_eq_getElem hk, List.getD_eq_getElem?_getD]
set_option maxHeartbeats 1000000 in
theorem walk_fnUseShift {H : Type} {enc : TypeId × Value → H} (W : World) (base : Nat) (v : Value) (d : DataW H) (p : List MemPlace) (o : Value.okWide Try.prog W .any base 28 v) (h : DataW.Trod enc Try.prog W 0 (fun _ => true) true 28 v d p) :
    Calls Try.prog 7 #[v] W (RetB true W) := by
  obtain ⟨A, n, c, rfl, hn, hm, hcode⟩ := open_code W base v d p o h
  clear o h
  by_cases hbig : 1048576 < (n : Int)
  · clear hcode
    go_enter Try.func7, Try.ntmps7
    go_wp2_with fail
    go_ret
    refine ⟨rfl, ?_⟩
    (repeat' (first | (with_reducible exact Below.refl _ _) | (with_reducible assumption) | (with_reducible refine Below.alloc ?_ ?_ _) | (with_reducible refine Below.setCell ?_ ?_ _) | (with_reducible refine Below.drew ?_) | (with_reducible refine below_drewN' ?_ _) | (with_reducible refine below_step (by assumption) ?_ ?_) | (with_reducible refine below_gstep (by assumption) ?_ ?_ ?_) | (with_reducible exact Below.size (by assumption)) | omega | (simp; done) | (simp; omega)))
  · have Hcode := hide hcode
    clear hcode
    go_enter Try.func7, Try.ntmps7
    go_wp2_with fail
    refine (drawDelayUse W.heap.size A n c _ Hcode.out hn hm (Nat.le_refl _)).mono ?_
    rintro e w1 ⟨A1, A2, c1, c2, zs, ys, rfl, i1, i2, l1, l2, bl1⟩
    clear Hcode
    go_wp2_with fail
    refine (implUse_any _ _ _ _ zs ys _ i1 i2 (by omega) (by omega)).mono ?_
    rintro e w2 ⟨rfl, n2, rfl⟩
    go_wp2_with fail
    refine (specUse_any _ _ _ _ zs ys _ (i1.drewN n2) (i2.drewN n2) (by omega) (by omega)).mono ?_
    rintro e w3 ⟨rfl, n3, rfl⟩
    have i1 := (i1.drewN n2).drewN n3
    have i2 := (i2.drewN n2).drewN n3
    have bl3 := below_drewN' (below_drewN' bl1 n2) n3
    generalize ((w1.drewN n2).drewN n3) = w4 at *
    clear bl1
    by_cases hneg : useR zs ys < 0
    · generalize useR zs ys = r at *
      go_wp2_with fail
      go_ret
      exact ⟨rfl, bl3⟩
    · have hok := use_ok hneg
      obtain ⟨r, hr⟩ : ∃ r, useR zs ys = r := ⟨_, rfl⟩
      rw [hr] at hneg ⊢
      have Hr := hide hr
      have Hok := hide hok
      have I1 := hide i1
      have I2 := hide i2
      clear hr hok i1 i2
      go_wp2_with fail
      have oz : Own (w4.alloc (.cells #[] 3)) 3 1 w4.heap.size 0 0 [] := Own.new w4 #[] 3 1 0 (by unfold maxLen; omega) rfl
      have Ho := hide oz
      have lw := bl3.size
      clear oz
      go_loopw [7, 8] (fun s i wr => ∃ (k g cp : Nat), s = .slice (some ⟨g, 0, none⟩) k cp ∧ i = .int .i64 k ∧ k ≤ ys.length ∧ w4.heap.size ≤ g ∧ Own wr 3 1 g k cp ((up (ys.take k)).map (Value.int .i64)) ∧ (∀ i, i < k → ys.getD i 0 ≠ 99999) ∧ Below w4.heap.size w4 wr) (fun _ i _ => ys.length - (intOf i).toNat)
      case atStart =>
        refine ⟨0, _, _, rfl, rfl, by omega, Nat.le_refl _, Ho.out, fun i hi => by omega, ?_⟩
        (repeat' (first | (with_reducible exact Below.refl _ _) | (with_reducible assumption) | (with_reducible refine Below.alloc ?_ ?_ _) | (with_reducible refine Below.setCell ?_ ?_ _) | (with_reducible refine Below.drew ?_) | (with_reducible refine below_drewN' ?_ _) | (with_reducible refine below_step (by assumption) ?_ ?_) | (with_reducible refine below_gstep (by assumption) ?_ ?_ ?_) | (with_reducible exact Below.size (by assumption)) | omega | (simp; done) | (simp; omega)))
      case round =>
        obtain ⟨k, g, cp, rfl, rfl, hk, hg, oz, hall, hbl⟩ := hrel
        have Hall := hide hall
        have sz := hbl.size
        have lz := oz.lt
        have rz := oz.room
        unfold maxLen at rz
        have J2 := hide (I2.out.below hbl)
        clear hall
        by_cases hkl : k < ys.length
        · obtain ⟨b, off, rfl, hc⟩ := ints_cell J2.out (by omega)
          have hx := hc k hkl
          obtain ⟨x, hxx⟩ : ∃ x, ys.getD k 0 = x := ⟨_, rfl⟩
          rw [hxx] at hx
          have Hxx := hide hxx
          clear hc hxx
          have hkl' : (k : Int) < (ys.length : Int) := by omega
          by_cases h9 : x = 99999
          · subst h9
            go_wp2_with fail
            go_ret
            exact ⟨rfl, bl3.trans (hbl.mono bl3.size)⟩
          · have hx9 : (x == 99999) = false := by simpa using h9
            have H9 := hide h9
            obtain ⟨y, hy⟩ : ∃ y, IntKind.i64.wrap (x + 1) = y := ⟨_, rfl⟩
            have Hy := hide hy
            clear h9
            go_wp2_with (first | (at_builtin; refine wpList_append_1 rfl (.tmp 45) (.tmp 51) 31 rfl elemI rfl oz #[.int .i64 y] rfl rfl rfl (by omega) ?_; intro g' cp' w7 oz' hg7 hat7))
            have hb7 : Below w4.heap.size w4 w7 := hbl.grown hg7 sz (by intro k hk; simp at hk; omega)
            clear hg7 oz hbl
            go_roundw
            case rel =>
              refine ⟨k + 1, g', cp', rfl, by go_num, by omega, by omega, oz'.conv ?_, ?_, hb7⟩
              · have e : y = ys.getD k 0 + 1 := by
                  have a := (timesR_bd Hok.out.2.2).2.2 k hkl
                  rw [Hxx.out] at a ⊢
                  rw [← Hy.out]
                  exact IntWalk.i64_in _ (by omega)
                rw [up_take ys k hkl, List.map_append, e]
                rfl
              · intro i hi
                rcases Nat.lt_succ_iff_lt_or_eq.1 hi with hi | rfl
                · exact Hall.out i hi
                · rw [Hxx.out]; exact H9.out
            case measure => simp [intOf]; omega
        · have hkl' : k = ys.length := by omega
          subst hkl'
          rw [List.take_length] at oz
          have i3 := own_ints oz
          have el : ys.length = (up ys).length := by simp [up]
          have J1 := hide (I1.out.below hbl)
          have bl5 := bl3.trans (hbl.mono bl3.size)
          clear oz hbl
          go_wp2_with fail
          rw [el]
          refine (implUse_any _ _ _ _ zs (up ys) _ J1.out i3 (by omega) (by omega)).mono ?_
          rw [use_shift Hok.out Hall.out, Hr.out, ← el]
          rintro e w8 ⟨rfl, n8, rfl⟩
          go_wp2_with fail
          refine (implUse_any _ _ _ _ zs zs _ (J1.out.drewN n8) (J1.out.drewN n8) (by omega) (by omega)).mono ?_
          rw [use_self Hok.out.2.1]
          rintro e w9 ⟨rfl, n9, rfl⟩
          go_wp2_with fail
          go_ret
          exact ⟨rfl, below_drewN' bl5 _⟩
end Go.Proofs.Ytdebjgghhiohmaa
