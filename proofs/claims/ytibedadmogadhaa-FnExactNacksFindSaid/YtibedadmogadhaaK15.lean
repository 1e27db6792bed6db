/- Walk of FnExactNacksFind. -/
import Derived.Test.YtibedadmogadhaaK13
namespace Go.Proofs.Ytibedadmogadhaa
open Go.ChangeShapes Go.WideShapes Go.ChangeAt Go.RowKit Go.Deep

set_option maxHeartbeats 4000000 in
theorem walk_fnExactNacksFind {H : Type} {enc : TypeId × Value → H} (W : World) (base : Nat) (v0 : Value) (d0 : DataW H) (p0 : List MemPlace) (v1 : Value) (d1 : DataW H) (p1 : List MemPlace) (o0 : Value.okWide Try.prog W .any base 36 v0) (h0 : DataW.Trod enc Try.prog W 0 (fun _ => true) true 36 v0 d0 p0)
    (o1 : Value.okWide Try.prog W .any base 37 v1) (h1 : DataW.Trod enc Try.prog W 0 (fun _ => true) true 37 v1 d1 p1) :
    Calls Try.prog 4 #[v0, v1] W (RetB true W) := by
  obtain ⟨A0, c0, z0, rfl, n0, m0, hA0⟩ := openNackS W base v0 d0 p0 o0 h0
  have HA0 := hide hA0
  obtain ⟨A1, c1, z1, rfl, n1, m1, hA1⟩ := openPacketS W base v1 d1 p1 o1 h1
  have HA1 := hide hA1
  clear o0 h0 o1 h1 hA0 hA1
  by_cases hb0 : (1048576 : Int) < (z0.length : Int)
  · go_enter Try.func4, Try.ntmps4
    go_wp2_with fail
    refine (szNackS_any _ _ _ _ _ (by omega) (by omega) (by omega)).mono ?_
    rintro e W ⟨rfl, rfl⟩
    rw [if_pos (by omega)]
    go_wp2_with fail
    go_ret
    exact ⟨rfl, Below.refl _ _⟩
  by_cases hb1 : 1048576 - (z0.length : Int) < (z1.length : Int)
  · go_enter Try.func4, Try.ntmps4
    go_wp2_with fail
    refine (szNackS_any _ _ _ _ _ (by omega) (by omega) (by omega)).mono ?_
    rintro e W ⟨rfl, rfl⟩
    rw [if_neg (by omega)]
    obtain ⟨lf, hlf⟩ : ∃ lf : Int, 1048576 - (z0.length : Int) = lf := ⟨_, rfl⟩
    have hlf0 : 0 ≤ lf := by omega
    have hlf1 : ¬ lf < 0 := by omega
    have hlf2 : lf ≤ 1048576 := by omega
    rw [hlf]
    have Hlf := hide hlf
    rw [hlf] at hb1
    clear hlf
    go_wp2_with fail
    refine (szPacketS_any _ _ _ _ _ (by omega) (by omega) (by omega)).mono ?_
    rintro e W ⟨rfl, rfl⟩
    rw [if_pos (by omega)]
    go_wp2_with fail
    go_ret
    exact ⟨rfl, Below.refl _ _⟩
  · have l0 : z0.length ≤ 1048576 := by omega
    have l1 : z1.length ≤ 1048576 := by omega
    have ly := find_len z0 z1
    obtain ⟨y, hy⟩ : ∃ y, find z0 z1 = y := ⟨_, rfl⟩
    rw [hy] at ly
    have Hy := hide hy
    clear hy
    have ly1 : y.length ≤ 1048576 := by omega
    have bl := Below.refl W.heap.size W
    go_enter Try.func4, Try.ntmps4
    go_wp2_with fail
    refine (szNackS_any _ _ _ _ _ (by omega) (by omega) (by omega)).mono ?_
    rintro e W ⟨rfl, rfl⟩
    rw [if_neg (by omega)]
    obtain ⟨lf, hlf⟩ : ∃ lf : Int, 1048576 - (z0.length : Int) = lf := ⟨_, rfl⟩
    have hlf0 : 0 ≤ lf := by omega
    have hlf1 : ¬ lf < 0 := by omega
    have hlf2 : lf ≤ 1048576 := by omega
    rw [hlf]
    have Hlf := hide hlf
    rw [hlf] at hb1
    clear hlf
    go_wp2_with fail
    refine (szPacketS_any _ _ _ _ _ (by omega) (by omega) (by omega)).mono ?_
    rintro e W ⟨rfl, rfl⟩
    rw [if_neg (by omega)]
    obtain ⟨lg, hlg⟩ : ∃ lg : Int, lf - (z1.length : Int) = lg := ⟨_, rfl⟩
    have hlg0 : 0 ≤ lg := by omega
    have hlg1 : ¬ lg < 0 := by omega
    rw [hlg]
    clear hlg
    go_wp2_with fail
    refine (toNackS_any _ _ _ _ (HA0.out.below bl) l0).mono ?_
    rintro e w1 ⟨gta, rfl, hgta, ta, hb⟩
    have s0 := bl.size
    have bl := bl.trans (hb.mono bl.size)
    have lta : W.heap.size ≤ gta := by omega
    clear hb
    go_wp2_with fail
    refine (toPacketS_any _ _ _ _ (HA1.out.below bl) l1).mono ?_
    rintro e w1 ⟨gtb, rfl, hgtb, tb, hb⟩
    have ntatb : gta ≠ gtb := by have := ta.lt; omega
    have ta := ta.below hb
    have s0 := bl.size
    have bl := bl.trans (hb.mono bl.size)
    have ltb : W.heap.size ≤ gtb := by omega
    clear hb
    go_wp2_with fail
    refine (specNacksFind _ _ _ _ z0 z1 _ (ownNack ta rfl) (ownPacket tb rfl) l0 l1).mono ?_
    rw [Hy.out]
    rintro e w1 ⟨gr, cr, rfl, hgr, r, hb⟩
    have ntar : gta ≠ gr := by have := ta.lt; omega
    have ntbr : gtb ≠ gr := by have := tb.lt; omega
    have ta := ta.below hb
    have tb := tb.below hb
    have s0 := bl.size
    have bl := bl.trans (hb.mono bl.size)
    have lr : W.heap.size ≤ gr := by omega
    clear hb
    go_wp2_with fail
    clear ta
    clear tb
    refine (toNackS_any _ _ _ _ (HA0.out.below bl) l0).mono ?_
    rintro e w1 ⟨gxa, rfl, hgxa, xa, hb⟩
    have nrxa : gr ≠ gxa := by have := r.lt; omega
    have r := r.below hb
    have s0 := bl.size
    have bl := bl.trans (hb.mono bl.size)
    have lxa : W.heap.size ≤ gxa := by omega
    clear hb
    go_wp2_with fail
    refine (toPacketS_any _ _ _ _ (HA1.out.below bl) l1).mono ?_
    rintro e w1 ⟨gxb, rfl, hgxb, xb, hb⟩
    have nrxb : gr ≠ gxb := by have := r.lt; omega
    have nxaxb : gxa ≠ gxb := by have := xa.lt; omega
    have r := r.below hb
    have xa := xa.below hb
    have s0 := bl.size
    have bl := bl.trans (hb.mono bl.size)
    have lxb : W.heap.size ≤ gxb := by omega
    clear hb
    go_wp2_with fail
    refine (implNacksFind _ _ _ _ z0 z1 _ (ownNack xa rfl) (ownPacket xb rfl) l0 l1).mono ?_
    rw [Hy.out]
    rintro e w1 ⟨gu, cu, rfl, hgu, u, hb⟩
    have nru : gr ≠ gu := by have := r.lt; omega
    have nxau : gxa ≠ gu := by have := xa.lt; omega
    have nxbu : gxb ≠ gu := by have := xb.lt; omega
    have r := r.below hb
    have xa := xa.below hb
    have xb := xb.below hb
    have s0 := bl.size
    have bl := bl.trans (hb.mono bl.size)
    have lu : W.heap.size ≤ gu := by omega
    clear hb
    go_wp2_with fail
    refine (eqPacketS_same _ _ _ _ y _ (ownPacket u rfl) (ownPacket r rfl) (by omega)).mono ?_
    rintro e w1 ⟨rfl, hb⟩
    have r := r.below hb
    have xa := xa.below hb
    have xb := xb.below hb
    have u := u.below hb
    have bl := bl.trans (hb.mono bl.size)
    clear hb
    go_wp2_with fail
    refine (toNackS_any _ _ _ _ (HA0.out.below bl) l0).mono ?_
    rintro e w1 ⟨gta, rfl, hgta, ta, hb⟩
    have nrta : gr ≠ gta := by have := r.lt; omega
    have nxata : gxa ≠ gta := by have := xa.lt; omega
    have nxbta : gxb ≠ gta := by have := xb.lt; omega
    have nuta : gu ≠ gta := by have := u.lt; omega
    have r := r.below hb
    have xa := xa.below hb
    have xb := xb.below hb
    have u := u.below hb
    have s0 := bl.size
    have bl := bl.trans (hb.mono bl.size)
    have lta : W.heap.size ≤ gta := by omega
    clear hb
    go_wp2_with fail
    refine (eqNackS_same _ _ _ _ z0 _ (ownNack xa rfl) (ownNack ta rfl) (by omega)).mono ?_
    rintro e w1 ⟨rfl, hb⟩
    have r := r.below hb
    have xa := xa.below hb
    have xb := xb.below hb
    have u := u.below hb
    have ta := ta.below hb
    have bl := bl.trans (hb.mono bl.size)
    clear hb
    go_wp2_with fail
    clear ta
    refine (toPacketS_any _ _ _ _ (HA1.out.below bl) l1).mono ?_
    rintro e w1 ⟨gta, rfl, hgta, ta, hb⟩
    have nrta : gr ≠ gta := by have := r.lt; omega
    have nxata : gxa ≠ gta := by have := xa.lt; omega
    have nxbta : gxb ≠ gta := by have := xb.lt; omega
    have nuta : gu ≠ gta := by have := u.lt; omega
    have r := r.below hb
    have xa := xa.below hb
    have xb := xb.below hb
    have u := u.below hb
    have s0 := bl.size
    have bl := bl.trans (hb.mono bl.size)
    have lta : W.heap.size ≤ gta := by omega
    clear hb
    go_wp2_with fail
    refine (eqPacketS_same _ _ _ _ z1 _ (ownPacket xb rfl) (ownPacket ta rfl) (by omega)).mono ?_
    rintro e w1 ⟨rfl, hb⟩
    have r := r.below hb
    have xa := xa.below hb
    have xb := xb.below hb
    have u := u.below hb
    have ta := ta.below hb
    have bl := bl.trans (hb.mono bl.size)
    clear hb
    go_wp2_with fail
    clear ta
    refine (markNackS_any _ _ _ 1 _ _ xa rfl (by omega) (by omega) (by omega)).mono ?_
    rintro e w1 ⟨rfl, xam, hgr⟩
    have r := r.grown hgr nrxa
    have xb := xb.grown hgr (Ne.symm nxaxb)
    have u := u.grown hgr (Ne.symm nxau)
    have bl := bl.grown hgr bl.size (by intro k hk; simp at hk; omega)
    clear hgr xa
    obtain ⟨mk_xa, hmk⟩ : ∃ mk : Int, 1 + ((z0.length * 2 : Nat) : Int) = mk := ⟨_, rfl⟩
    have hmk0_xa : ¬ mk_xa < 0 := by omega
    have hmk1_xa : 0 ≤ mk_xa := by omega
    have hmk2_xa : mk_xa ≤ 1000000000000 := by omega
    have Hmk_xa := hide hmk
    rw [hmk]
    clear hmk
    go_wp2_with fail
    refine (markPacketS_any _ _ _ mk_xa _ _ xb rfl (by omega) (by omega) (by omega)).mono ?_
    rintro e w1 ⟨rfl, xbm, hgr⟩
    have r := r.grown hgr nrxb
    have u := u.grown hgr (Ne.symm nxbu)
    have bl := bl.grown hgr bl.size (by intro k hk; simp at hk; omega)
    clear hgr xb
    obtain ⟨mk_xb, hmk⟩ : ∃ mk : Int, mk_xa + ((z1.length * 6 : Nat) : Int) = mk := ⟨_, rfl⟩
    have hmk0_xb : ¬ mk_xb < 0 := by omega
    have hmk1_xb : 0 ≤ mk_xb := by omega
    have hmk2_xb : mk_xb ≤ 3000000000000 := by omega
    have Hmk_xb := hide hmk
    rw [hmk]
    clear hmk
    go_wp2_with fail
    refine (eqPacketS_same _ _ _ _ y _ (ownPacket u rfl) (ownPacket r rfl) (by omega)).mono ?_
    rintro e w1 ⟨rfl, hb⟩
    have r := r.below hb
    have u := u.below hb
    have bl := bl.trans (hb.mono bl.size)
    clear hb
    go_wp2_with fail
    refine (markPacketS_any _ _ _ 1 _ _ u rfl (by omega) (by omega) (by omega)).mono ?_
    rintro e w1 ⟨rfl, um, hgr⟩
    have r := r.grown hgr nru
    have bl := bl.grown hgr bl.size (by intro k hk; simp at hk; omega)
    clear hgr u
    obtain ⟨mk_u, hmk⟩ : ∃ mk : Int, 1 + ((y.length * 6 : Nat) : Int) = mk := ⟨_, rfl⟩
    have hmk0_u : ¬ mk_u < 0 := by omega
    have hmk1_u : 0 ≤ mk_u := by omega
    have hmk2_u : mk_u ≤ 1000000000000 := by omega
    have Hmk_u := hide hmk
    rw [hmk]
    clear hmk
    go_wp2_with fail
    have ui : PacketAt _ (some ⟨gu, 0, none⟩) (marksPacket 1 y.length) := ownPacket um (by simp [marksPacket])
    clear um
    refine (heldPacketS_any _ _ _ 1 _ ui (by omega) (by omega) (by omega)).mono ?_
    rintro e w1 ⟨rfl, rfl⟩
    rw [Hmk_u.out]
    go_wp2_with fail
    refine (toNackS_any _ _ _ _ (HA0.out.below bl) l0).mono ?_
    rintro e w1 ⟨gta, rfl, hgta, ta, hb⟩
    have nrta : gr ≠ gta := by have := r.lt; omega
    have r := r.below hb
    have ui := ui.below hb
    have s0 := bl.size
    have bl := bl.trans (hb.mono bl.size)
    have lta : W.heap.size ≤ gta := by omega
    clear hb
    go_wp2_with fail
    refine (toPacketS_any _ _ _ _ (HA1.out.below bl) l1).mono ?_
    rintro e w1 ⟨gtb, rfl, hgtb, tb, hb⟩
    have nrtb : gr ≠ gtb := by have := r.lt; omega
    have ntatb : gta ≠ gtb := by have := ta.lt; omega
    have r := r.below hb
    have ta := ta.below hb
    have ui := ui.below hb
    have s0 := bl.size
    have bl := bl.trans (hb.mono bl.size)
    have ltb : W.heap.size ≤ gtb := by omega
    clear hb
    go_wp2_with fail
    refine (implNacksFind _ _ _ _ z0 z1 _ (ownNack ta rfl) (ownPacket tb rfl) l0 l1).mono ?_
    rw [Hy.out]
    rintro e w1 ⟨ghh, chh, rfl, hghh, hh, hb⟩
    have nrhh : gr ≠ ghh := by have := r.lt; omega
    have ntahh : gta ≠ ghh := by have := ta.lt; omega
    have ntbhh : gtb ≠ ghh := by have := tb.lt; omega
    have r := r.below hb
    have ta := ta.below hb
    have tb := tb.below hb
    have ui := ui.below hb
    have s0 := bl.size
    have bl := bl.trans (hb.mono bl.size)
    have lhh : W.heap.size ≤ ghh := by omega
    clear hb
    go_wp2_with fail
    clear ta
    clear tb
    refine (eqPacketS_same _ _ _ _ y _ (ownPacket hh rfl) (ownPacket r rfl) (by omega)).mono ?_
    rintro e w1 ⟨rfl, hb⟩
    have r := r.below hb
    have hh := hh.below hb
    have ui := ui.below hb
    have bl := bl.trans (hb.mono bl.size)
    clear hb
    go_wp2_with fail
    refine (heldPacketS_any _ _ _ 1 _ ui (by omega) (by omega) (by omega)).mono ?_
    rintro e w1 ⟨rfl, rfl⟩
    rw [Hmk_u.out]
    go_wp2_with fail
    go_ret
    exact ⟨rfl, bl⟩

end Go.Proofs.Ytibedadmogadhaa
