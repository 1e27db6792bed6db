/- Walk of FnExactMissingOf. -/
import Derived.Test.YtnddgbnanjikmaaM4
namespace Go.Proofs.Ytnddgbnanjikmaa
open Go.ChangeShapes Go.WideShapes Go.ChangeAt Go.RowKit Go.Deep

theorem eqIntS_b (A B : Option Addr) (c1 c2 : Nat) (zs : List Int) (w : World) (hA : IntsAt w A zs) (hB : IntsAt w B zs) (hm : zs.length ≤ 1048576) :
    Calls Try.prog 14 #[.slice A zs.length c1, .slice B zs.length c2] w (RetB true w) :=
  (eqIntS_same A B c1 c2 zs w hA hB hm).mono fun _ _ ⟨he, n, hw⟩ => ⟨he, by rw [hw]; exact below_drewN' (Below.refl _ _) n⟩
set_option maxHeartbeats 4000000 in
theorem walk_fnExactMissingOf {H : Type} {enc : TypeId × Value → H} (W : World) (base : Nat) (v : Value) (d : DataW H) (p : List MemPlace) (o : Value.okWide Try.prog W .any base 32 v) (h : DataW.Trod enc Try.prog W 0 (fun _ => true) true 32 v d p) :
    Calls Try.prog 6 #[v] W (RetB true W) := by
  obtain ⟨A, c, zs, rfl, hn, hm, hA⟩ := openPacketS W base v d p o h
  clear o h
  have HA := hide hA
  clear hA
  by_cases hb : (1048576 : Int) < (zs.length : Int)
  · go_enter Try.func6, Try.ntmps6
    go_wp2_with fail
    refine (szPacketS_any _ _ _ _ _ (by omega) (by omega) (by omega)).mono ?_
    rintro e w1 ⟨rfl, rfl⟩
    rw [if_pos (by omega)]
    go_wp2_with fail
    go_ret
    exact ⟨rfl, Below.refl _ _⟩
  · have l0 : zs.length ≤ 1048576 := by omega
    have lys := missing_length zs
    have bl := Below.refl W.heap.size W
    go_enter Try.func6, Try.ntmps6
    go_wp2_with fail
    refine (szPacketS_any _ _ _ _ _ (by omega) (by omega) (by omega)).mono ?_
    rintro e W ⟨rfl, rfl⟩
    rw [if_neg (by omega)]
    obtain ⟨lf, hlf⟩ : ∃ lf : Int, 1048576 - (zs.length : Int) = lf := ⟨_, rfl⟩
    have hlf0 : 0 ≤ lf := by omega
    have hlf1 : ¬ lf < 0 := by omega
    rw [hlf]
    clear hlf
    go_wp2_with fail
    refine (toPacketS_any _ _ _ _ (HA.out.below bl) l0).mono ?_
    rintro e w2 ⟨g1, rfl, hg1, o1, hb1⟩
    have bl := bl.trans (hb1.mono bl.size)
    go_wp2_with fail
    refine (specMissingOf _ _ zs _ (ownPacket o1 rfl) l0).mono ?_
    rintro e w3 ⟨gr, cr, rfl, hgr, r, hb3⟩
    have bl := bl.trans (hb3.mono bl.size)
    clear o1 hb1 hb3
    go_wp2_with fail
    refine (toPacketS_any _ _ _ _ (HA.out.below bl) l0).mono ?_
    rintro e w4 ⟨gx, rfl, hgx, x, hb4⟩
    have nrx : gr ≠ gx := by have := r.lt; omega
    have r := r.below hb4
    have s3 := bl.size
    have bl := bl.trans (hb4.mono bl.size)
    have lx : W.heap.size ≤ gx := by omega
    clear hb4
    go_wp2_with fail
    refine (implMissingOf _ _ zs _ (ownPacket x rfl) l0).mono ?_
    rintro e w5 ⟨gu, cu, rfl, hgu, u, hb5⟩
    have nru : gr ≠ gu := by have := r.lt; omega
    have nxu : gx ≠ gu := by have := x.lt; omega
    have r := r.below hb5
    have x := x.below hb5
    have s4 := bl.size
    have bl := bl.trans (hb5.mono bl.size)
    have lu : W.heap.size ≤ gu := by omega
    clear hb5
    go_wp2_with fail
    refine (eqIntS_b _ _ _ _ (missing zs) _ (own_ints u) (own_ints r) (by omega)).mono ?_
    rintro e w6 ⟨rfl, hb6⟩
    have r := r.below hb6
    have x := x.below hb6
    have u := u.below hb6
    have bl := bl.trans (hb6.mono bl.size)
    clear hb6
    go_wp2_with fail
    refine (toPacketS_any _ _ _ _ (HA.out.below bl) l0).mono ?_
    rintro e w7 ⟨gt, rfl, hgt, t, hb7⟩
    have r := r.below hb7
    have x := x.below hb7
    have u := u.below hb7
    have bl := bl.trans (hb7.mono bl.size)
    clear hb7
    go_wp2_with fail
    refine (eqPacketS_same _ _ _ _ zs _ (ownPacket x rfl) (ownPacket t rfl) l0).mono ?_
    rintro e w8 ⟨rfl, hb8⟩
    have r := r.below hb8
    have x := x.below hb8
    have u := u.below hb8
    have bl := bl.trans (hb8.mono bl.size)
    clear hb8 t
    go_wp2_with fail
    refine (markPacketS_any _ _ _ 1 _ _ x rfl (by omega) (by omega) (by omega)).mono ?_
    rintro e w9 ⟨rfl, _, hgr9⟩
    have r := r.grown hgr9 nrx
    have u := u.grown hgr9 (Ne.symm nxu)
    have bl := bl.grown hgr9 bl.size (by intro k hk; simp at hk; omega)
    clear hgr9 x
    obtain ⟨mk, hmk⟩ : ∃ mk : Int, 1 + ((zs.length * 6 : Nat) : Int) = mk := ⟨_, rfl⟩
    have hmk0 : ¬ mk < 0 := by omega
    have hmk1 : 0 ≤ mk := by omega
    rw [hmk]
    clear hmk
    go_wp2_with fail
    refine (eqIntS_b _ _ _ _ (missing zs) _ (own_ints u) (own_ints r) (by omega)).mono ?_
    rintro e w10 ⟨rfl, hb10⟩
    have r := r.below hb10
    have u := u.below hb10
    have bl := bl.trans (hb10.mono bl.size)
    clear hb10
    go_wp2_with fail
    refine (markIntS_any _ _ _ 1 _ _ u rfl (by omega) (by omega) (by omega)).mono ?_
    rintro e w11 ⟨rfl, u, hgr11⟩
    have r := r.grown hgr11 nru
    have bl := bl.grown hgr11 bl.size (by intro k hk; simp at hk; omega)
    clear hgr11
    have ui : IntsAt w11 (some ⟨gu, 0, none⟩) (marksI 1 (missing zs).length) := own_ints u
    obtain ⟨mk2, hmk2⟩ : ∃ mk : Int, 1 + (((missing zs).length : Nat) : Int) = mk := ⟨_, rfl⟩
    have hmk20 : ¬ mk2 < 0 := by omega
    have hmk21 : 0 ≤ mk2 := by omega
    have Hmk2 := hide hmk2
    rw [hmk2]
    clear hmk2
    go_wp2_with fail
    refine (heldIntS_any _ _ _ 1 _ ui (by omega) (by omega) (by omega)).mono ?_
    rintro e w12 ⟨rfl, rfl⟩
    rw [Hmk2.out]
    go_wp2_with fail
    refine (toPacketS_any _ _ _ _ (HA.out.below bl) l0).mono ?_
    rintro e w13 ⟨gz, rfl, hgz, z, hb13⟩
    have r := r.below hb13
    have ui := ui.below hb13
    have bl := bl.trans (hb13.mono bl.size)
    clear hb13
    go_wp2_with fail
    refine (implMissingOf _ _ zs _ (ownPacket z rfl) l0).mono ?_
    rintro e w14 ⟨gh, ch, rfl, hgh, hh, hb14⟩
    have r := r.below hb14
    have ui := ui.below hb14
    have bl := bl.trans (hb14.mono bl.size)
    clear hb14 z
    go_wp2_with fail
    refine (eqIntS_b _ _ _ _ (missing zs) _ (own_ints hh) (own_ints r) (by omega)).mono ?_
    rintro e w15 ⟨rfl, hb15⟩
    have ui := ui.below hb15
    have bl := bl.trans (hb15.mono bl.size)
    clear hb15 hh r
    go_wp2_with fail
    refine (heldIntS_any _ _ _ 1 _ ui (by omega) (by omega) (by omega)).mono ?_
    rintro e w16 ⟨rfl, rfl⟩
    rw [Hmk2.out]
    go_wp2_with fail
    go_ret
    exact ⟨rfl, bl⟩
end Go.Proofs.Ytnddgbnanjikmaa
