/- Walk of FnExactParityFix. -/
import Derived.Test.YtppomcgkmjnpmaaP21
namespace Go.Proofs.Ytppomcgkmjnpmaa
open Go.ChangeShapes Go.WideShapes Go.ChangeAt Go.RowKit Go.Deep

theorem bodc {w : World} {S g : Nat} {ls : List (List Int)} {bs : List VBod} {n c : Nat} (h : OwnBod w S g n c bs) (hz : bs.map VBod.zs = ls) : BodAt w (some ⟨g, 0, none⟩) ls := by
  have := bod_of h
  rwa [hz] at this
theorem not_low {w : World} {S g gr n c : Nat} {bs : List VBod} (h : OwnBod w S g n c bs) (hg : gr < S) : gr ∉ bs.map VBod.g := by
  intro hm
  obtain ⟨x, hx, rfl⟩ := List.mem_map.1 hm
  have := (h.2 x hx).1
  omega
theorem not_high {w : World} {S g gu n c : Nat} {bs : List VBod} (h : OwnBod w S g n c bs) (hg : w.heap.size ≤ gu) : gu ∉ bs.map VBod.g := by
  intro hm
  obtain ⟨x, hx, rfl⟩ := List.mem_map.1 hm
  have := h.inner hx
  omega
theorem all_low {w : World} {S S0 g n c : Nat} {bs : List VBod} (h : OwnBod w S g n c bs) (hS : S0 ≤ S) : ∀ k ∈ bs.map VBod.g, S0 ≤ k := by
  intro k hm
  obtain ⟨x, hx, rfl⟩ := List.mem_map.1 hm
  have := (h.2 x hx).1
  omega
theorem relFix_len {ls : List (List Int)} {p ys : List Int} {B : Bool} (h : relFix ls p ys B) : ys.length ≤ 1048576 := by
  rcases h with ⟨a, rfl, _⟩ | ⟨_, rfl, _⟩
  · unfold fixG at a
    rw [Bool.and_eq_true] at a
    have b := a.1
    unfold fixIn at b
    rw [Bool.and_eq_true, Bool.and_eq_true] at b
    have c := of_decide_eq_true b.1.1
    have hx := fixX_facts (ls := ls) (p := p) (by omega) b.1.2 b.2
    unfold fixB
    rw [List.length_take, List.length_drop]
    omega
  · simp
set_option maxHeartbeats 4000000 in
theorem walk_fnExactParityFix {H : Type} {enc : TypeId × Value → H} (W : World) (base : Nat) (v : Value) (d : DataW H) (p : List MemPlace) (v1 : Value) (d1 : DataW H) (p1 : List MemPlace) (o : Value.okWide Try.prog W .any base 23 v) (h : DataW.Trod enc Try.prog W 0 (fun _ => true) true 23 v d p) (o1 : Value.okWide Try.prog W .any base 25 v1) (h1 : DataW.Trod enc Try.prog W 0 (fun _ => true) true 25 v1 d1 p1) :
    Calls Try.prog 11 #[v, v1] W (RetB true W) := by
  obtain ⟨A, c, ls, rfl, hn, hm, hA⟩ := open_intSS W base v d p o h
  obtain ⟨A1, c1, zs, rfl, hn1, hm1, hA1⟩ := open_intS W base v1 d1 p1 o1 h1
  clear o1 h1
  have HA1 := hide hA1
  clear hA1
  clear o h
  have HA := hide hA
  clear hA
  by_cases hbig : (1048576 : Int) < (zs.length : Int)
  · go_enter Try.func11, Try.ntmps11
    go_wp2_with fail
    go_ret
    exact ⟨rfl, Below.refl _ _⟩
  have lz : zs.length ≤ 1048576 := by omega
  have bl := Below.refl W.heap.size W
  go_enter Try.func11, Try.ntmps11
  go_wp2_with fail
  refine (szIntSS_any A c ls 1048576 _ HA.out (by omega) (by omega) (by omega)).mono ?_
  rintro e W0 ⟨⟨r, rfl, hr⟩, rfl⟩
  rcases hr with ⟨rfl, hb⟩ | ⟨hr, hb⟩
  · go_wp2_with fail
    go_ret
    exact ⟨rfl, Below.refl _ _⟩
  · have l0 : ls.length + tot ls ≤ 1048576 := by omega
    have l1 : ls.length ≤ 1048576 := by omega
    have hr0 : ¬ r < 0 := by omega
    clear hr hb
    obtain ⟨ys, B, hR⟩ := relFix_some ls zs
    have HR := hide hR
    have lys : ys.length ≤ 1048576 := relFix_len hR
    have e0 : (B != B) = false := by cases B <;> rfl
    clear hR
    go_wp2_with fail
    refine (toIntSS_any _ _ _ _ (HA.out.below bl) l0).mono ?_
    rintro e w2 ⟨ga, ba, rfl, hza, hga, _, oa, hb⟩
    have sz_w2 := bl.size
    have bl := bl.trans (hb.mono bl.size)
    clear hb
    go_wp2_with fail
    refine (toIntS_own _ _ _ _ (HA1.out.below bl) lz).mono ?_
    rintro e w3 ⟨gb, rfl, hgb, ob, hb⟩
    have oa := oa.below hb
    have sz_w3 := bl.size
    have bl := bl.trans (hb.mono bl.size)
    clear hb
    go_wp2_with fail
    refine (specParityFix _ _ _ _ ls zs ys B _ HR.out (bodc oa hza) (own_ints ob) l1 lz).mono ?_
    rintro e w4 ⟨gr, cr, rfl, hgr, rr, hb⟩
    have oa := oa.below hb
    have ob := ob.below hb
    have sz_w4 := bl.size
    have bl := bl.trans (hb.mono bl.size)
    clear hb
    clear oa ob
    go_wp2_with fail
    refine (toIntSS_any _ _ _ _ (HA.out.below bl) l0).mono ?_
    rintro e w5 ⟨gx, bx, rfl, hzx, hgx, hix, ox, hb⟩
    have lr_ := rr.lt
    have rr := rr.below hb
    have sz_w5 := bl.size
    have bl := bl.trans (hb.mono bl.size)
    have nr := not_low ox (gr := gr) (by have := rr.lt; have := hb.size; first | exact lr_ | omega)
    have nl := all_low ox (S0 := W0.heap.size) (by omega)
    clear hb
    go_wp2_with fail
    refine (toIntS_own _ _ _ _ (HA1.out.below bl) lz).mono ?_
    rintro e w6 ⟨gy, rfl, hgy, oy, hb⟩
    have rr := rr.below hb
    have ox_ := ox
    have ox := ox.below hb
    have sz_w6 := bl.size
    have bl := bl.trans (hb.mono bl.size)
    have nry : gr ≠ gy := by have := lr_; have := ox_.lt; omega
    have nyx := not_high ox_ (gu := gy) hgy
    clear hb
    go_wp2_with fail
    refine (implParityFix _ _ _ _ ls zs ys B _ HR.out (bodc ox hzx) (own_ints oy) l1 lz).mono ?_
    rintro e w7 ⟨gu, cu, rfl, hgu, uu, hb⟩
    have lr2_ := rr.lt
    have ox_ := ox
    have ly_ := oy.lt
    have rr := rr.below hb
    have ox := ox.below hb
    have oy := oy.below hb
    have sz_w7 := bl.size
    have bl := bl.trans (hb.mono bl.size)
    have nu := not_high ox_ (gu := gu) hgu
    have nru : gr ≠ gu := by have := lr2_; omega
    have nyu : gy ≠ gu := by have := ly_; omega
    clear hb
    go_wp2_with fail
    refine (eqIntS_b _ _ _ _ ys _ (own_ints uu) (own_ints rr) lys).mono ?_
    rintro e w8 ⟨rfl, hb⟩
    have rr := rr.below hb
    have ox := ox.below hb
    have oy := oy.below hb
    have uu := uu.below hb
    have sz_w8 := bl.size
    have bl := bl.trans (hb.mono bl.size)
    clear hb
    go_wp2_with fail
    refine (toIntSS_any _ _ _ _ (HA.out.below bl) l0).mono ?_
    rintro e w9 ⟨gt, bt, rfl, hzt, hgt, _, ot, hb⟩
    have rr := rr.below hb
    have ox := ox.below hb
    have oy := oy.below hb
    have uu := uu.below hb
    have sz_w9 := bl.size
    have bl := bl.trans (hb.mono bl.size)
    clear hb
    go_wp2_with fail
    refine (eqIntSS_same _ _ _ _ ls _ (bodc ox hzx) (bodc ot hzt) l0).mono ?_
    rintro e w10 ⟨rfl, nq, rfl⟩
    clear ot
    have rr := rr.drewN nq
    have ox := ox.drewN nq
    have oy := oy.drewN nq
    have uu := uu.drewN nq
    have bl := below_drewN' bl nq
    generalize w9.drewN nq = w10 at *
    go_wp2_with fail
    refine (toIntS_own _ _ _ _ (HA1.out.below bl) lz).mono ?_
    rintro e w11 ⟨gt2, rfl, hgt2, ot2, hb⟩
    have rr := rr.below hb
    have ox := ox.below hb
    have oy := oy.below hb
    have uu := uu.below hb
    have sz_w11 := bl.size
    have bl := bl.trans (hb.mono bl.size)
    clear hb
    go_wp2_with fail
    refine (eqIntS_b _ _ _ _ zs _ (own_ints oy) (own_ints ot2) lz).mono ?_
    rintro e w12 ⟨rfl, hb⟩
    have rr := rr.below hb
    have ox := ox.below hb
    have oy := oy.below hb
    have uu := uu.below hb
    have ot2 := ot2.below hb
    have sz_w12 := bl.size
    have bl := bl.trans (hb.mono bl.size)
    clear hb
    clear ot2
    go_wp2_with fail
    refine (markIntSS_any _ _ _ _ bx 1 _ ox hix (by rw [hzx]; exact l0) (by omega) (by omega)).mono ?_
    rintro e w13 ⟨mk, rfl, hmk0, hmk9, hkp⟩
    have rr := hkp.own rr nr
    have uu := hkp.own uu nu
    have oy := hkp.own oy nyx
    have bl := hkp.below bl bl.size nl
    have hmk1 : ¬ mk < 0 := by omega
    clear hkp ox
    go_wp2_with fail
    refine (markIntS_any _ _ _ mk _ _ oy rfl lz hmk0 (by omega)).mono ?_
    rintro e w14 ⟨rfl, _, hgr9⟩
    have rr := rr.grown hgr9 nry
    have uu := uu.grown hgr9 (Ne.symm nyu)
    have bl := bl.grown hgr9 bl.size (by intro k hk; simp at hk; omega)
    clear hgr9 oy
    obtain ⟨mk3, hmk3⟩ : ∃ q : Int, mk + (zs.length : Nat) = q := ⟨_, rfl⟩
    have hmk4 : ¬ mk3 < 0 := by omega
    rw [hmk3]
    clear hmk3
    go_wp2_with fail
    refine (eqIntS_b _ _ _ _ ys _ (own_ints uu) (own_ints rr) lys).mono ?_
    rintro e w15 ⟨rfl, hb⟩
    have rr := rr.below hb
    have uu := uu.below hb
    have sz_w15 := bl.size
    have bl := bl.trans (hb.mono bl.size)
    clear hb
    go_wp2_with fail
    refine (markIntS_any _ _ _ 1 _ _ uu rfl lys (by omega) (by omega)).mono ?_
    rintro e w16 ⟨rfl, uu, hgr11⟩
    have rr := rr.grown hgr11 nru
    have bl := bl.grown hgr11 bl.size (by intro k hk; simp at hk; omega)
    clear hgr11
    have ui : IntsAt w16 (some ⟨gu, 0, none⟩) (marksI 1 ys.length) := own_ints uu
    clear uu
    obtain ⟨mk2, hmk2⟩ : ∃ mk : Int, 1 + ((ys.length : Nat) : Int) = mk := ⟨_, rfl⟩
    have hmk20 : ¬ mk2 < 0 := by omega
    have hmk21 : 0 ≤ mk2 := by omega
    have Hmk2 := hide hmk2
    rw [hmk2]
    clear hmk2
    go_wp2_with fail
    refine (heldIntS_any _ _ _ 1 _ ui lys (by omega) (by omega)).mono ?_
    rintro e wh ⟨rfl, rfl⟩
    rw [Hmk2.out]
    go_wp2_with fail
    refine (toIntSS_any _ _ _ _ (HA.out.below bl) l0).mono ?_
    rintro e w17 ⟨gz, bz, rfl, hzz, hgz, _, oz, hb⟩
    have rr := rr.below hb
    have ui := ui.below hb
    have sz_w17 := bl.size
    have bl := bl.trans (hb.mono bl.size)
    clear hb
    go_wp2_with fail
    refine (toIntS_own _ _ _ _ (HA1.out.below bl) lz).mono ?_
    rintro e w18 ⟨gz2, rfl, hgz2, oz2, hb⟩
    have rr := rr.below hb
    have ui := ui.below hb
    have oz := oz.below hb
    have sz_w18 := bl.size
    have bl := bl.trans (hb.mono bl.size)
    clear hb
    go_wp2_with fail
    refine (implParityFix _ _ _ _ ls zs ys B _ HR.out (bodc oz hzz) (own_ints oz2) l1 lz).mono ?_
    rintro e w19 ⟨gh, ch, rfl, hgh, hh, hb⟩
    have rr := rr.below hb
    have ui := ui.below hb
    have oz := oz.below hb
    have oz2 := oz2.below hb
    have sz_w19 := bl.size
    have bl := bl.trans (hb.mono bl.size)
    clear hb
    clear oz oz2
    go_wp2_with fail
    refine (eqIntS_b _ _ _ _ ys _ (own_ints hh) (own_ints rr) lys).mono ?_
    rintro e w20 ⟨rfl, hb⟩
    have rr := rr.below hb
    have ui := ui.below hb
    have hh := hh.below hb
    have sz_w20 := bl.size
    have bl := bl.trans (hb.mono bl.size)
    clear hb
    clear hh rr
    go_wp2_with fail
    refine (heldIntS_any _ _ _ 1 _ ui lys (by omega) (by omega)).mono ?_
    rintro e wh2 ⟨rfl, rfl⟩
    rw [Hmk2.out]
    go_wp2_with fail
    go_ret
    exact ⟨rfl, bl⟩
end Go.Proofs.Ytppomcgkmjnpmaa
