/- Walks of FnExactNacksOf and FnExactNacksList. -/
import Derived.Test.YtibedadmogadhaaK2
import Derived.Test.YtibedadmogadhaaK7
import Derived.Test.YtibedadmogadhaaOP
namespace Go.Proofs.Ytibedadmogadhaa
open Go.ChangeShapes Go.WideShapes Go.ChangeAt Go.RowKit Go.Deep

theorem lenNacksOf {zs : List Int} {ys : List VNack} {B : Bool} (h : relNacksOf zs ys B) : ys.length ≤ 1048576 := by
  rcases h with ⟨h1, rfl, _⟩ | ⟨_, rfl, _⟩
  · obtain ⟨a, b⟩ := of_decide_eq_true h1
    have := (nk_inv zs a).len
    omega
  · simp
theorem lenNacksList {zs : List VNack} {ys : List Int} {B : Bool} (h : relNacksList zs ys B) : ys.length ≤ 1048576 := by
  have := relList_len h
  omega
set_option maxHeartbeats 4000000 in
theorem walk_fnExactNacksOf {H : Type} {enc : TypeId × Value → H} (W : World) (base : Nat) (v : Value) (d : DataW H) (p : List MemPlace) (o : Value.okWide Try.prog W .any base 30 v) (h : DataW.Trod enc Try.prog W 0 (fun _ => true) true 30 v d p) :
    Calls Try.prog 8 #[v] W (RetB true W) := by
  obtain ⟨A, c, zs, rfl, hn, hm, hA⟩ := open_intS W base v d p o h
  clear o h
  have HA := hide hA
  clear hA
  by_cases hb : (1048576 : Int) < (zs.length : Int)
  · go_enter Try.func8, Try.ntmps8
    go_wp2_with fail
    go_ret
    exact ⟨rfl, Below.refl _ _⟩
  · have l0 : zs.length ≤ 1048576 := by omega
    obtain ⟨y, B, hR⟩ := relNacksOf_some zs
    have HR := hide hR
    have lys := lenNacksOf hR
    clear hR
    cases B
    all_goals
      have bl := Below.refl W.heap.size W
      go_enter Try.func8, Try.ntmps8
      go_wp2_with fail
      refine (toIntS_own _ _ _ _ (HA.out.below bl) l0).mono ?_
      rintro e w1 ⟨gt, rfl, hgt, t, hb⟩
      have s0 := bl.size
      have bl := bl.trans (hb.mono bl.size)
      have lt : W.heap.size ≤ gt := by omega
      clear hb
      go_wp2_with fail
      refine (specNacksOf _ _ zs y _ _ HR.out (own_ints t) l0).mono ?_
      rintro e w1 ⟨gr, cr, rfl, hgr, r, hb⟩
      have ntr : gt ≠ gr := by have := t.lt; omega
      have t := t.below hb
      have s0 := bl.size
      have bl := bl.trans (hb.mono bl.size)
      have lr : W.heap.size ≤ gr := by omega
      clear hb
      go_wp2_with fail
      clear t
      refine (toIntS_own _ _ _ _ (HA.out.below bl) l0).mono ?_
      rintro e w1 ⟨gx, rfl, hgx, x, hb⟩
      have nrx : gr ≠ gx := by have := r.lt; omega
      have r := r.below hb
      have s0 := bl.size
      have bl := bl.trans (hb.mono bl.size)
      have lx : W.heap.size ≤ gx := by omega
      clear hb
      go_wp2_with fail
      refine (implNacksOf _ _ zs y _ _ HR.out (own_ints x) l0).mono ?_
      rintro e w1 ⟨gu, cu, rfl, hgu, u, hb⟩
      have nru : gr ≠ gu := by have := r.lt; omega
      have nxu : gx ≠ gu := by have := x.lt; omega
      have r := r.below hb
      have x := x.below hb
      have s0 := bl.size
      have bl := bl.trans (hb.mono bl.size)
      have lu : W.heap.size ≤ gu := by omega
      clear hb
      go_wp2_with fail
      refine (eqNackS_same _ _ _ _ y _ (ownNack u rfl) (ownNack r rfl) (by omega)).mono ?_
      rintro e w1 ⟨rfl, hb⟩
      have r := r.below hb
      have x := x.below hb
      have u := u.below hb
      have bl := bl.trans (hb.mono bl.size)
      clear hb
      go_wp2_with fail
      refine (toIntS_own _ _ _ _ (HA.out.below bl) l0).mono ?_
      rintro e w1 ⟨gt, rfl, hgt, t, hb⟩
      have nrt : gr ≠ gt := by have := r.lt; omega
      have nxt : gx ≠ gt := by have := x.lt; omega
      have nut : gu ≠ gt := by have := u.lt; omega
      have r := r.below hb
      have x := x.below hb
      have u := u.below hb
      have s0 := bl.size
      have bl := bl.trans (hb.mono bl.size)
      have lt : W.heap.size ≤ gt := by omega
      clear hb
      go_wp2_with fail
      refine (eqIntS_b _ _ _ _ zs _ (own_ints x) (own_ints t) (by omega)).mono ?_
      rintro e w1 ⟨rfl, hb⟩
      have r := r.below hb
      have x := x.below hb
      have u := u.below hb
      have t := t.below hb
      have bl := bl.trans (hb.mono bl.size)
      clear hb
      go_wp2_with fail
      clear t
      refine (markIntS_any _ _ _ 1 _ _ x rfl (by omega) (by omega) (by omega)).mono ?_
      rintro e w1 ⟨rfl, xm, hgr⟩
      have r := r.grown hgr nrx
      have u := u.grown hgr (Ne.symm nxu)
      have bl := bl.grown hgr bl.size (by intro k hk; simp at hk; omega)
      clear hgr x
      obtain ⟨mk_x, hmk⟩ : ∃ mk : Int, 1 + ((zs.length : Nat) : Int) = mk := ⟨_, rfl⟩
      have hmk0_x : ¬ mk_x < 0 := by omega
      have hmk1_x : 0 ≤ mk_x := by omega
      have Hmk_x := hide hmk
      rw [hmk]
      clear hmk
      go_wp2_with fail
      refine (eqNackS_same _ _ _ _ y _ (ownNack u rfl) (ownNack r rfl) (by omega)).mono ?_
      rintro e w1 ⟨rfl, hb⟩
      have r := r.below hb
      have u := u.below hb
      have bl := bl.trans (hb.mono bl.size)
      clear hb
      go_wp2_with fail
      refine (markNackS_any _ _ _ 1 _ _ u rfl (by omega) (by omega) (by omega)).mono ?_
      rintro e w1 ⟨rfl, um, hgr⟩
      have r := r.grown hgr nru
      have bl := bl.grown hgr bl.size (by intro k hk; simp at hk; omega)
      clear hgr u
      obtain ⟨mk_u, hmk⟩ : ∃ mk : Int, 1 + ((y.length * 2 : Nat) : Int) = mk := ⟨_, rfl⟩
      have hmk0_u : ¬ mk_u < 0 := by omega
      have hmk1_u : 0 ≤ mk_u := by omega
      have Hmk_u := hide hmk
      rw [hmk]
      clear hmk
      go_wp2_with fail
      have ui : NackAt _ (some ⟨gu, 0, none⟩) (marksNack 1 y.length) := ownNack um (by simp [marksNack])
      clear um
      refine (heldNackS_any _ _ _ 1 _ ui (by omega) (by omega) (by omega)).mono ?_
      rintro e w1 ⟨rfl, rfl⟩
      rw [Hmk_u.out]
      go_wp2_with fail
      refine (toIntS_own _ _ _ _ (HA.out.below bl) l0).mono ?_
      rintro e w1 ⟨gz, rfl, hgz, z, hb⟩
      have nrz : gr ≠ gz := by have := r.lt; omega
      have r := r.below hb
      have ui := ui.below hb
      have s0 := bl.size
      have bl := bl.trans (hb.mono bl.size)
      have lz : W.heap.size ≤ gz := by omega
      clear hb
      go_wp2_with fail
      refine (implNacksOf _ _ zs y _ _ HR.out (own_ints z) l0).mono ?_
      rintro e w1 ⟨gh2, ch2, rfl, hgh2, h2, hb⟩
      have nrh2 : gr ≠ gh2 := by have := r.lt; omega
      have nzh2 : gz ≠ gh2 := by have := z.lt; omega
      have r := r.below hb
      have z := z.below hb
      have ui := ui.below hb
      have s0 := bl.size
      have bl := bl.trans (hb.mono bl.size)
      have lh2 : W.heap.size ≤ gh2 := by omega
      clear hb
      go_wp2_with fail
      clear z
      refine (eqNackS_same _ _ _ _ y _ (ownNack h2 rfl) (ownNack r rfl) (by omega)).mono ?_
      rintro e w1 ⟨rfl, hb⟩
      have r := r.below hb
      have h2 := h2.below hb
      have ui := ui.below hb
      have bl := bl.trans (hb.mono bl.size)
      clear hb
      go_wp2_with fail
      refine (heldNackS_any _ _ _ 1 _ ui (by omega) (by omega) (by omega)).mono ?_
      rintro e w1 ⟨rfl, rfl⟩
      rw [Hmk_u.out]
      go_wp2_with fail
      go_ret
      exact ⟨rfl, bl⟩

set_option maxHeartbeats 4000000 in
theorem walk_fnExactNacksList {H : Type} {enc : TypeId × Value → H} (W : World) (base : Nat) (v : Value) (d : DataW H) (p : List MemPlace) (o : Value.okWide Try.prog W .any base 36 v) (h : DataW.Trod enc Try.prog W 0 (fun _ => true) true 36 v d p) :
    Calls Try.prog 10 #[v] W (RetB true W) := by
  obtain ⟨A, c, zs, rfl, hn, hm, hA⟩ := openNackS W base v d p o h
  clear o h
  have HA := hide hA
  clear hA
  by_cases hb : (1048576 : Int) < (zs.length : Int)
  · go_enter Try.func10, Try.ntmps10
    go_wp2_with fail
    refine (szNackS_any _ _ _ _ _ (by omega) (by omega) (by omega)).mono ?_
    rintro e W ⟨rfl, rfl⟩
    rw [if_pos (by omega)]
    go_wp2_with fail
    go_ret
    exact ⟨rfl, Below.refl _ _⟩
  · have l0 : zs.length ≤ 1048576 := by omega
    obtain ⟨y, B, hR⟩ := relNacksList_some zs
    have HR := hide hR
    have lys := lenNacksList hR
    clear hR
    cases B
    all_goals
      have bl := Below.refl W.heap.size W
      go_enter Try.func10, Try.ntmps10
      go_wp2_with fail
      refine (szNackS_any _ _ _ _ _ (by omega) (by omega) (by omega)).mono ?_
      rintro e W ⟨rfl, rfl⟩
      rw [if_neg (by omega)]
      obtain ⟨lf, hlf⟩ : ∃ lf : Int, 1048576 - (zs.length : Int) = lf := ⟨_, rfl⟩
      have hlf0 : 0 ≤ lf := by omega
      have hlf1 : ¬ lf < 0 := by omega
      rw [hlf]
      clear hlf
      go_wp2_with fail
      refine (toNackS_any _ _ _ _ (HA.out.below bl) l0).mono ?_
      rintro e w1 ⟨gt, rfl, hgt, t, hb⟩
      have s0 := bl.size
      have bl := bl.trans (hb.mono bl.size)
      have lt : W.heap.size ≤ gt := by omega
      clear hb
      go_wp2_with fail
      refine (specNacksList _ _ zs y _ _ HR.out (ownNack t rfl) l0).mono ?_
      rintro e w1 ⟨gr, cr, rfl, hgr, r, hb⟩
      have ntr : gt ≠ gr := by have := t.lt; omega
      have t := t.below hb
      have s0 := bl.size
      have bl := bl.trans (hb.mono bl.size)
      have lr : W.heap.size ≤ gr := by omega
      clear hb
      go_wp2_with fail
      clear t
      refine (toNackS_any _ _ _ _ (HA.out.below bl) l0).mono ?_
      rintro e w1 ⟨gx, rfl, hgx, x, hb⟩
      have nrx : gr ≠ gx := by have := r.lt; omega
      have r := r.below hb
      have s0 := bl.size
      have bl := bl.trans (hb.mono bl.size)
      have lx : W.heap.size ≤ gx := by omega
      clear hb
      go_wp2_with fail
      refine (implNacksList _ _ zs y _ _ HR.out (ownNack x rfl) l0).mono ?_
      rintro e w1 ⟨gu, cu, rfl, hgu, u, hb⟩
      have nru : gr ≠ gu := by have := r.lt; omega
      have nxu : gx ≠ gu := by have := x.lt; omega
      have r := r.below hb
      have x := x.below hb
      have s0 := bl.size
      have bl := bl.trans (hb.mono bl.size)
      have lu : W.heap.size ≤ gu := by omega
      clear hb
      go_wp2_with fail
      refine (eqIntS_b _ _ _ _ y _ (own_ints u) (own_ints r) (by omega)).mono ?_
      rintro e w1 ⟨rfl, hb⟩
      have r := r.below hb
      have x := x.below hb
      have u := u.below hb
      have bl := bl.trans (hb.mono bl.size)
      clear hb
      go_wp2_with fail
      refine (toNackS_any _ _ _ _ (HA.out.below bl) l0).mono ?_
      rintro e w1 ⟨gt, rfl, hgt, t, hb⟩
      have nrt : gr ≠ gt := by have := r.lt; omega
      have nxt : gx ≠ gt := by have := x.lt; omega
      have nut : gu ≠ gt := by have := u.lt; omega
      have r := r.below hb
      have x := x.below hb
      have u := u.below hb
      have s0 := bl.size
      have bl := bl.trans (hb.mono bl.size)
      have lt : W.heap.size ≤ gt := by omega
      clear hb
      go_wp2_with fail
      refine (eqNackS_same _ _ _ _ zs _ (ownNack x rfl) (ownNack t rfl) (by omega)).mono ?_
      rintro e w1 ⟨rfl, hb⟩
      have r := r.below hb
      have x := x.below hb
      have u := u.below hb
      have t := t.below hb
      have bl := bl.trans (hb.mono bl.size)
      clear hb
      go_wp2_with fail
      clear t
      refine (markNackS_any _ _ _ 1 _ _ x rfl (by omega) (by omega) (by omega)).mono ?_
      rintro e w1 ⟨rfl, xm, hgr⟩
      have r := r.grown hgr nrx
      have u := u.grown hgr (Ne.symm nxu)
      have bl := bl.grown hgr bl.size (by intro k hk; simp at hk; omega)
      clear hgr x
      obtain ⟨mk_x, hmk⟩ : ∃ mk : Int, 1 + ((zs.length * 2 : Nat) : Int) = mk := ⟨_, rfl⟩
      have hmk0_x : ¬ mk_x < 0 := by omega
      have hmk1_x : 0 ≤ mk_x := by omega
      have Hmk_x := hide hmk
      rw [hmk]
      clear hmk
      go_wp2_with fail
      refine (eqIntS_b _ _ _ _ y _ (own_ints u) (own_ints r) (by omega)).mono ?_
      rintro e w1 ⟨rfl, hb⟩
      have r := r.below hb
      have u := u.below hb
      have bl := bl.trans (hb.mono bl.size)
      clear hb
      go_wp2_with fail
      refine (markIntS_any _ _ _ 1 _ _ u rfl (by omega) (by omega) (by omega)).mono ?_
      rintro e w1 ⟨rfl, um, hgr⟩
      have r := r.grown hgr nru
      have bl := bl.grown hgr bl.size (by intro k hk; simp at hk; omega)
      clear hgr u
      obtain ⟨mk_u, hmk⟩ : ∃ mk : Int, 1 + ((y.length : Nat) : Int) = mk := ⟨_, rfl⟩
      have hmk0_u : ¬ mk_u < 0 := by omega
      have hmk1_u : 0 ≤ mk_u := by omega
      have Hmk_u := hide hmk
      rw [hmk]
      clear hmk
      go_wp2_with fail
      have ui : IntsAt _ (some ⟨gu, 0, none⟩) (marksI 1 y.length) := own_ints um
      clear um
      refine (heldIntS_any _ _ _ 1 _ ui (by omega) (by omega) (by omega)).mono ?_
      rintro e w1 ⟨rfl, rfl⟩
      rw [Hmk_u.out]
      go_wp2_with fail
      refine (toNackS_any _ _ _ _ (HA.out.below bl) l0).mono ?_
      rintro e w1 ⟨gz, rfl, hgz, z, hb⟩
      have nrz : gr ≠ gz := by have := r.lt; omega
      have r := r.below hb
      have ui := ui.below hb
      have s0 := bl.size
      have bl := bl.trans (hb.mono bl.size)
      have lz : W.heap.size ≤ gz := by omega
      clear hb
      go_wp2_with fail
      refine (implNacksList _ _ zs y _ _ HR.out (ownNack z rfl) l0).mono ?_
      rintro e w1 ⟨gh2, ch2, rfl, hgh2, h2, hb⟩
      have nrh2 : gr ≠ gh2 := by have := r.lt; omega
      have nzh2 : gz ≠ gh2 := by have := z.lt; omega
      have r := r.below hb
      have z := z.below hb
      have ui := ui.below hb
      have s0 := bl.size
      have bl := bl.trans (hb.mono bl.size)
      have lh2 : W.heap.size ≤ gh2 := by omega
      clear hb
      go_wp2_with fail
      clear z
      refine (eqIntS_b _ _ _ _ y _ (own_ints h2) (own_ints r) (by omega)).mono ?_
      rintro e w1 ⟨rfl, hb⟩
      have r := r.below hb
      have h2 := h2.below hb
      have ui := ui.below hb
      have bl := bl.trans (hb.mono bl.size)
      clear hb
      go_wp2_with fail
      refine (heldIntS_any _ _ _ 1 _ ui (by omega) (by omega) (by omega)).mono ?_
      rintro e w1 ⟨rfl, rfl⟩
      rw [Hmk_u.out]
      go_wp2_with fail
      go_ret
      exact ⟨rfl, bl⟩

end Go.Proofs.Ytibedadmogadhaa
