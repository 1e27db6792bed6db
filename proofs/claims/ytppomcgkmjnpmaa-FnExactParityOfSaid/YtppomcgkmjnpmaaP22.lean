/- Walk of FnExactParityOf. -/
import Derived.Test.YtppomcgkmjnpmaaP21
namespace Go.Proofs.Ytppomcgkmjnpmaa
open Go.ChangeShapes Go.WideShapes Go.ChangeAt Go.RowKit Go.Deep

theorem bodc {w : World} {S g : Nat} {ls : List (List Int)} {bs : List VBod} {n c : Nat} (h : OwnBod w S g n c bs) (hz : bs.map VBod.zs = ls) : BodAt w (some ⟨g, 0, none⟩) ls := by
  have := bod_of h
  rwa [hz] at this
theorem not_low {w : World} {S g gr n c : Nat} {bs : List VBod} (h : OwnBod w S g n c bs) (hg : gr < S) : gr ∉ bs.map VBod.g := by
  intro hm
  obtain ⟨x, hx, rfl⟩ := List.mem_map.1 hm
  have := (h.2 x hx).1
  omega
theorem not_high {w : World} {S g gu n c : Nat} {bs : List VBod} (h : OwnBod w S g n c bs) (hg : w.heap.size ≤ gu) : gu ∉ bs.map VBod.g := by
  intro hm
  obtain ⟨x, hx, rfl⟩ := List.mem_map.1 hm
  have := h.inner hx
  omega
theorem all_low {w : World} {S S0 g n c : Nat} {bs : List VBod} (h : OwnBod w S g n c bs) (hS : S0 ≤ S) : ∀ k ∈ bs.map VBod.g, S0 ≤ k := by
  intro k hm
  obtain ⟨x, hx, rfl⟩ := List.mem_map.1 hm
  have := (h.2 x hx).1
  omega
set_option maxHeartbeats 4000000 in
theorem walk_fnExactParityOf {H : Type} {enc : TypeId × Value → H} (W : World) (base : Nat) (v : Value) (d : DataW H) (p : List MemPlace) (o : Value.okWide Try.prog W .any base 23 v) (h : DataW.Trod enc Try.prog W 0 (fun _ => true) true 23 v d p) :
    Calls Try.prog 8 #[v] W (RetB true W) := by
  obtain ⟨A, c, ls, rfl, hn, hm, hA⟩ := open_intSS W base v d p o h
  clear o h
  have HA := hide hA
  clear hA
  have bl := Below.refl W.heap.size W
  go_enter Try.func8, Try.ntmps8
  go_wp2_with fail
  refine (szIntSS_any A c ls 1048576 _ HA.out (by omega) (by omega) (by omega)).mono ?_
  rintro e W0 ⟨⟨r, rfl, hr⟩, rfl⟩
  rcases hr with ⟨rfl, hb⟩ | ⟨hr, hb⟩
  · go_wp2_with fail
    go_ret
    exact ⟨rfl, Below.refl _ _⟩
  · have l0 : ls.length + tot ls ≤ 1048576 := by omega
    have l1 : ls.length ≤ 1048576 := by omega
    have hr0 : ¬ r < 0 := by omega
    clear hr hb
    obtain ⟨ys, B, hR⟩ := relPar_some ls
    have HR := hide hR
    have lys : ys.length ≤ 1048576 := by have := (relPar_bd hR).1; omega
    have e0 : (B != B) = false := by cases B <;> rfl
    clear hR
    go_wp2_with fail
    refine (toIntSS_any _ _ _ _ (HA.out.below bl) l0).mono ?_
    rintro e w2 ⟨ga, ba, rfl, hza, hga, _, oa, hb⟩
    have sz_w2 := bl.size
    have bl := bl.trans (hb.mono bl.size)
    clear hb
    go_wp2_with fail
    refine (specParityOf _ _ ls ys B _ HR.out (bodc oa hza) l1).mono ?_
    rintro e w3 ⟨gr, cr, rfl, hgr, rr, hb⟩
    have oa := oa.below hb
    have sz_w3 := bl.size
    have bl := bl.trans (hb.mono bl.size)
    clear hb
    clear oa
    go_wp2_with fail
    refine (toIntSS_any _ _ _ _ (HA.out.below bl) l0).mono ?_
    rintro e w4 ⟨gx, bx, rfl, hzx, hgx, hix, ox, hb⟩
    have lr_ := rr.lt
    have rr := rr.below hb
    have sz_w4 := bl.size
    have bl := bl.trans (hb.mono bl.size)
    have nr := not_low ox (gr := gr) (by have := rr.lt; have := hb.size; first | exact lr_ | omega)
    have nl := all_low ox (S0 := W0.heap.size) (by omega)
    clear hb
    go_wp2_with fail
    refine (implParityOf _ _ ls ys B _ HR.out (bodc ox hzx) l1).mono ?_
    rintro e w5 ⟨gu, cu, rfl, hgu, uu, hb⟩
    have lr2_ := rr.lt
    have ox_ := ox
    have rr := rr.below hb
    have ox := ox.below hb
    have sz_w5 := bl.size
    have bl := bl.trans (hb.mono bl.size)
    have nu := not_high ox_ (gu := gu) hgu
    have nru : gr ≠ gu := by have := lr2_; omega
    clear hb
    go_wp2_with fail
    refine (eqIntS_b _ _ _ _ ys _ (own_ints uu) (own_ints rr) lys).mono ?_
    rintro e w6 ⟨rfl, hb⟩
    have rr := rr.below hb
    have ox := ox.below hb
    have uu := uu.below hb
    have sz_w6 := bl.size
    have bl := bl.trans (hb.mono bl.size)
    clear hb
    go_wp2_with fail
    refine (toIntSS_any _ _ _ _ (HA.out.below bl) l0).mono ?_
    rintro e w7 ⟨gt, bt, rfl, hzt, hgt, _, ot, hb⟩
    have rr := rr.below hb
    have ox := ox.below hb
    have uu := uu.below hb
    have sz_w7 := bl.size
    have bl := bl.trans (hb.mono bl.size)
    clear hb
    go_wp2_with fail
    refine (eqIntSS_same _ _ _ _ ls _ (bodc ox hzx) (bodc ot hzt) l0).mono ?_
    rintro e w8 ⟨rfl, nq, rfl⟩
    clear ot
    have rr := rr.drewN nq
    have ox := ox.drewN nq
    have uu := uu.drewN nq
    have bl := below_drewN' bl nq
    generalize w7.drewN nq = w8 at *
    go_wp2_with fail
    refine (markIntSS_any _ _ _ _ bx 1 _ ox hix (by rw [hzx]; exact l0) (by omega) (by omega)).mono ?_
    rintro e w9 ⟨mk, rfl, hmk0, hmk9, hkp⟩
    have rr := hkp.own rr nr
    have uu := hkp.own uu nu
    have bl := hkp.below bl bl.size nl
    have hmk1 : ¬ mk < 0 := by omega
    clear hkp ox
    go_wp2_with fail
    refine (eqIntS_b _ _ _ _ ys _ (own_ints uu) (own_ints rr) lys).mono ?_
    rintro e w10 ⟨rfl, hb⟩
    have rr := rr.below hb
    have uu := uu.below hb
    have sz_w10 := bl.size
    have bl := bl.trans (hb.mono bl.size)
    clear hb
    go_wp2_with fail
    refine (markIntS_any _ _ _ 1 _ _ uu rfl lys (by omega) (by omega)).mono ?_
    rintro e w11 ⟨rfl, uu, hgr11⟩
    have rr := rr.grown hgr11 nru
    have bl := bl.grown hgr11 bl.size (by intro k hk; simp at hk; omega)
    clear hgr11
    have ui : IntsAt w11 (some ⟨gu, 0, none⟩) (marksI 1 ys.length) := own_ints uu
    clear uu
    obtain ⟨mk2, hmk2⟩ : ∃ mk : Int, 1 + ((ys.length : Nat) : Int) = mk := ⟨_, rfl⟩
    have hmk20 : ¬ mk2 < 0 := by omega
    have hmk21 : 0 ≤ mk2 := by omega
    have Hmk2 := hide hmk2
    rw [hmk2]
    clear hmk2
    go_wp2_with fail
    refine (heldIntS_any _ _ _ 1 _ ui lys (by omega) (by omega)).mono ?_
    rintro e wh ⟨rfl, rfl⟩
    rw [Hmk2.out]
    go_wp2_with fail
    refine (toIntSS_any _ _ _ _ (HA.out.below bl) l0).mono ?_
    rintro e w12 ⟨gz, bz, rfl, hzz, hgz, _, oz, hb⟩
    have rr := rr.below hb
    have ui := ui.below hb
    have sz_w12 := bl.size
    have bl := bl.trans (hb.mono bl.size)
    clear hb
    go_wp2_with fail
    refine (implParityOf _ _ ls ys B _ HR.out (bodc oz hzz) l1).mono ?_
    rintro e w13 ⟨gh, ch, rfl, hgh, hh, hb⟩
    have rr := rr.below hb
    have ui := ui.below hb
    have oz := oz.below hb
    have sz_w13 := bl.size
    have bl := bl.trans (hb.mono bl.size)
    clear hb
    clear oz
    go_wp2_with fail
    refine (eqIntS_b _ _ _ _ ys _ (own_ints hh) (own_ints rr) lys).mono ?_
    rintro e w14 ⟨rfl, hb⟩
    have rr := rr.below hb
    have ui := ui.below hb
    have hh := hh.below hb
    have sz_w14 := bl.size
    have bl := bl.trans (hb.mono bl.size)
    clear hb
    clear hh rr
    go_wp2_with fail
    refine (heldIntS_any _ _ _ 1 _ ui lys (by omega) (by omega)).mono ?_
    rintro e wh2 ⟨rfl, rfl⟩
    rw [Hmk2.out]
    go_wp2_with fail
    go_ret
    exact ⟨rfl, bl⟩
end Go.Proofs.Ytppomcgkmjnpmaa
