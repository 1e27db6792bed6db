/- Walk of FnExactParityFits. -/
import Derived.Test.YtppomcgkmjnpmaaP21
namespace Go.Proofs.Ytppomcgkmjnpmaa
open Go.ChangeShapes Go.WideShapes Go.ChangeAt Go.RowKit Go.Deep

theorem bodc {w : World} {S g : Nat} {ls : List (List Int)} {bs : List VBod} {n c : Nat} (h : OwnBod w S g n c bs) (hz : bs.map VBod.zs = ls) : BodAt w (some ⟨g, 0, none⟩) ls := by
  have := bod_of h
  rwa [hz] at this
theorem not_low {w : World} {S g gr n c : Nat} {bs : List VBod} (h : OwnBod w S g n c bs) (hg : gr < S) : gr ∉ bs.map VBod.g := by
  intro hm
  obtain ⟨x, hx, rfl⟩ := List.mem_map.1 hm
  have := (h.2 x hx).1
  omega
theorem not_high {w : World} {S g gu n c : Nat} {bs : List VBod} (h : OwnBod w S g n c bs) (hg : w.heap.size ≤ gu) : gu ∉ bs.map VBod.g := by
  intro hm
  obtain ⟨x, hx, rfl⟩ := List.mem_map.1 hm
  have := h.inner hx
  omega
theorem all_low {w : World} {S S0 g n c : Nat} {bs : List VBod} (h : OwnBod w S g n c bs) (hS : S0 ≤ S) : ∀ k ∈ bs.map VBod.g, S0 ≤ k := by
  intro k hm
  obtain ⟨x, hx, rfl⟩ := List.mem_map.1 hm
  have := (h.2 x hx).1
  omega
set_option maxHeartbeats 4000000 in
theorem walk_fnExactParityFits {H : Type} {enc : TypeId × Value → H} (W : World) (base : Nat) (v : Value) (d : DataW H) (p : List MemPlace) (v1 : Value) (d1 : DataW H) (p1 : List MemPlace) (o : Value.okWide Try.prog W .any base 23 v) (h : DataW.Trod enc Try.prog W 0 (fun _ => true) true 23 v d p) (o1 : Value.okWide Try.prog W .any base 25 v1) (h1 : DataW.Trod enc Try.prog W 0 (fun _ => true) true 25 v1 d1 p1) :
    Calls Try.prog 9 #[v, v1] W (RetB true W) := by
  obtain ⟨A, c, ls, rfl, hn, hm, hA⟩ := open_intSS W base v d p o h
  obtain ⟨A1, c1, zs, rfl, hn1, hm1, hA1⟩ := open_intS W base v1 d1 p1 o1 h1
  clear o1 h1
  have HA1 := hide hA1
  clear hA1
  clear o h
  have HA := hide hA
  clear hA
  by_cases hbig : (1048576 : Int) < (zs.length : Int)
  · go_enter Try.func9, Try.ntmps9
    go_wp2_with fail
    go_ret
    exact ⟨rfl, Below.refl _ _⟩
  have lz : zs.length ≤ 1048576 := by omega
  have bl := Below.refl W.heap.size W
  go_enter Try.func9, Try.ntmps9
  go_wp2_with fail
  refine (szIntSS_any A c ls 1048576 _ HA.out (by omega) (by omega) (by omega)).mono ?_
  rintro e W0 ⟨⟨r, rfl, hr⟩, rfl⟩
  rcases hr with ⟨rfl, hb⟩ | ⟨hr, hb⟩
  · go_wp2_with fail
    go_ret
    exact ⟨rfl, Below.refl _ _⟩
  · have l0 : ls.length + tot ls ≤ 1048576 := by omega
    have l1 : ls.length ≤ 1048576 := by omega
    have hr0 : ¬ r < 0 := by omega
    clear hr hb
    obtain ⟨F, hF⟩ : ∃ F, fitsB ls zs = F := ⟨_, rfl⟩
    have HF := hide hF
    have e0 : (F != F) = false := by cases F <;> rfl
    clear hF
    go_wp2_with fail
    refine (toIntSS_any _ _ _ _ (HA.out.below bl) l0).mono ?_
    rintro e w2 ⟨ga, ba, rfl, hza, hga, _, oa, hb⟩
    have sz_w2 := bl.size
    have bl := bl.trans (hb.mono bl.size)
    clear hb
    go_wp2_with fail
    refine (toIntS_own _ _ _ _ (HA1.out.below bl) lz).mono ?_
    rintro e w3 ⟨gb, rfl, hgb, ob, hb⟩
    have oa := oa.below hb
    have sz_w3 := bl.size
    have bl := bl.trans (hb.mono bl.size)
    clear hb
    go_wp2_with fail
    refine (specParityFits _ _ _ _ ls zs _ (bodc oa hza) (own_ints ob) l1 lz).mono ?_
    rintro e w4 ⟨rfl, hb⟩
    have oa := oa.below hb
    have ob := ob.below hb
    have sz_w4 := bl.size
    have bl := bl.trans (hb.mono bl.size)
    clear hb
    rw [HF.out]
    clear oa ob
    go_wp2_with fail
    refine (toIntSS_any _ _ _ _ (HA.out.below bl) l0).mono ?_
    rintro e w5 ⟨gx, bx, rfl, hzx, hgx, hix, ox, hb⟩
    have sz_w5 := bl.size
    have bl := bl.trans (hb.mono bl.size)
    have nl := all_low ox (S0 := W0.heap.size) (by omega)
    clear hb
    go_wp2_with fail
    refine (toIntS_own _ _ _ _ (HA1.out.below bl) lz).mono ?_
    rintro e w6 ⟨gy, rfl, hgy, oy, hb⟩
    have ox_ := ox
    have ox := ox.below hb
    have sz_w6 := bl.size
    have bl := bl.trans (hb.mono bl.size)
    have nyx := not_high ox_ (gu := gy) hgy
    clear hb
    go_wp2_with fail
    refine (implParityFits _ _ _ _ ls zs _ (bodc ox hzx) (own_ints oy) l1 lz).mono ?_
    rintro e w7 ⟨rfl, hb⟩
    have ox := ox.below hb
    have oy := oy.below hb
    have sz_w7 := bl.size
    have bl := bl.trans (hb.mono bl.size)
    clear hb
    rw [HF.out]
    go_wp2_with fail
    refine (toIntSS_any _ _ _ _ (HA.out.below bl) l0).mono ?_
    rintro e w8 ⟨gt, bt, rfl, hzt, hgt, _, ot, hb⟩
    have ox := ox.below hb
    have oy := oy.below hb
    have sz_w8 := bl.size
    have bl := bl.trans (hb.mono bl.size)
    clear hb
    go_wp2_with fail
    refine (eqIntSS_same _ _ _ _ ls _ (bodc ox hzx) (bodc ot hzt) l0).mono ?_
    rintro e w9 ⟨rfl, nq, rfl⟩
    clear ot
    have ox := ox.drewN nq
    have oy := oy.drewN nq
    have bl := below_drewN' bl nq
    generalize w8.drewN nq = w9 at *
    go_wp2_with fail
    refine (toIntS_own _ _ _ _ (HA1.out.below bl) lz).mono ?_
    rintro e w10 ⟨gt2, rfl, hgt2, ot2, hb⟩
    have ox := ox.below hb
    have oy := oy.below hb
    have sz_w10 := bl.size
    have bl := bl.trans (hb.mono bl.size)
    clear hb
    go_wp2_with fail
    refine (eqIntS_b _ _ _ _ zs _ (own_ints oy) (own_ints ot2) lz).mono ?_
    rintro e w11 ⟨rfl, hb⟩
    have ox := ox.below hb
    have oy := oy.below hb
    have ot2 := ot2.below hb
    have sz_w11 := bl.size
    have bl := bl.trans (hb.mono bl.size)
    clear hb
    clear ot2
    go_wp2_with fail
    go_ret
    exact ⟨rfl, bl⟩
end Go.Proofs.Ytppomcgkmjnpmaa
