/- Walk of FnExactLayeredRun. -/
import Derived.Test.YticelpaicenbkaaL7
import Derived.Test.YticelpaicenbkaaPM
namespace Go.Proofs.Yticelpaicenbkaa
open Go.ChangeShapes Go.WideShapes Go.ChangeAt Go.RowKit Go.Deep

theorem PacketAt.alloc_ {w : World} {A : Option Addr} {zs : List VPacket} (h : PacketAt w A zs) (o : Obj) : PacketAt (w.alloc o) A zs := h.below ((Below.refl _ _).alloc (Nat.le_refl _) o)
set_option maxHeartbeats 4000000 in
theorem walk_fnExactLayeredRun {H : Type} {enc : TypeId × Value → H} (W : World) (base : Nat) (v0 : Value) (d0 : DataW H) (p0 : List MemPlace) (v1 : Value) (d1 : DataW H) (p1 : List MemPlace) (o0 : Value.okWide Try.prog W .any base 23 v0) (h0 : DataW.Trod enc Try.prog W 0 (fun _ => true) true 23 v0 d0 p0)
    (o1 : Value.okWide Try.prog W .any base 49 v1) (h1 : DataW.Trod enc Try.prog W 0 (fun _ => true) true 49 v1 d1 p1) :
    Calls Try.prog 14 #[v0, v1] W (RetB true W) := by
  obtain ⟨a, b, rfl, _, _⟩ := open_layered W base v0 d0 p0 o0 h0
  obtain ⟨A1, c1, z1, rfl, n1, m1, hA1⟩ := openPacketS W base v1 d1 p1 o1 h1
  have HA1 := hide hA1
  clear o0 h0 o1 h1 hA1
  have bl := (Below.refl W.heap.size W).alloc (Nat.le_refl _) (.cells #[.int .i64 a, .int .i64 b] 23)
  have s := Row.new W #[.int .i64 a, .int .i64 b] 23
  by_cases hb1 : (1048576 : Int) < (z1.length : Int)
  · go_enter Try.func14, Try.ntmps14
    go_wp2_with fail
    refine (szPacketS_any _ _ _ _ _ (by omega) (by omega) (by omega)).mono ?_
    rintro e w1 ⟨rfl, rfl⟩
    rw [if_pos (by omega)]
    go_wp2_with fail
    go_ret
    exact ⟨rfl, bl⟩
  · have l1 : z1.length ≤ 1048576 := by omega
    obtain ⟨N, M, y, B, hR⟩ := relRun_some a b z1
    have HR := hide hR
    have ly := relRun_len hR
    clear hR
    have ly1 : y.length ≤ 1048576 := by omega
    go_enter Try.func14, Try.ntmps14
    go_wp2_with fail
    refine (szPacketS_any _ _ _ _ _ (by omega) (by omega) (by omega)).mono ?_
    rintro e w1 ⟨rfl, rfl⟩
    rw [if_neg (by omega)]
    obtain ⟨lf, hlf⟩ : ∃ lf : Int, 1048576 - (z1.length : Int) = lf := ⟨_, rfl⟩
    have hlf1 : ¬ lf < 0 := by omega
    rw [hlf]
    clear hlf
    have cs := s.1
    have fs := s.2.1
    go_wp2_with fail
    clear cs fs
    refine (toLayered _ _ _).mono ?_
    rintro e w2 ⟨rfl, hb⟩
    have s := s.below hb
    have s0 := bl.size
    have bl := bl.trans (hb.mono bl.size)
    clear hb
    have cs := s.1
    have fs := s.2.1
    go_wp2_with fail
    clear cs fs
    refine (toPacketS_any _ _ _ _ (HA1.out.below bl) l1).mono ?_
    rintro e w3 ⟨gt, rfl, hgt, t, hb⟩
    have nst : W.heap.size ≠ gt := by have := s.2.2; omega
    have s := s.below hb
    have s0 := bl.size
    have bl := bl.trans (hb.mono bl.size)
    have lt : W.heap.size ≤ gt := by omega
    clear hb
    have cs := s.1
    have fs := s.2.1
    go_wp2_with fail
    clear cs fs
    refine (specLayeredRun _ _ _ _ z1 N M y B _ HR.out (ownPacket t rfl) l1).mono ?_
    rintro e w4 ⟨gr, cr, rfl, hgr, r, hb⟩
    have nsr : W.heap.size ≠ gr := by have := s.2.2; omega
    have ntr : gt ≠ gr := by have := t.lt; omega
    have s := s.below hb
    have t := t.below hb
    have s0 := bl.size
    have bl := bl.trans (hb.mono bl.size)
    have lr : W.heap.size ≤ gr := by omega
    clear hb
    have nsbw : W.heap.size ≠ w4.heap.size := by have := s.2.2; omega
    have ntbw : gt ≠ w4.heap.size := by have := t.lt; omega
    have nrbw : gr ≠ w4.heap.size := by have := r.lt; omega
    have s := s.alloc (.cells #[.int .i64 N, .int .i64 M] 25)
    have t := t.alloc (.cells #[.int .i64 N, .int .i64 M] 25)
    have r := r.alloc (.cells #[.int .i64 N, .int .i64 M] 25)
    have bw : Row (w4.alloc (.cells #[.int .i64 N, .int .i64 M] 25)) w4.heap.size #[.int .i64 N, .int .i64 M] := Row.new _ _ _
    have lbw : W.heap.size ≤ w4.heap.size := bl.size
    have bl := bl.alloc bl.size (.cells #[.int .i64 N, .int .i64 M] 25)
    have cs := s.1
    have fs := s.2.1
    have cbw := bw.1
    have fbw := bw.2.1
    go_wp2_with fail
    clear cs fs cbw fbw
    clear t
    refine (toPacketS_any _ _ _ _ (HA1.out.below bl) l1).mono ?_
    rintro e w5 ⟨gx, rfl, hgx, x, hb⟩
    have nsx : W.heap.size ≠ gx := by have := s.2.2; omega
    have nrx : gr ≠ gx := by have := r.lt; omega
    have nbwx : w4.heap.size ≠ gx := by have := bw.2.2; omega
    have s := s.below hb
    have r := r.below hb
    have bw := bw.below hb
    have s0 := bl.size
    have bl := bl.trans (hb.mono bl.size)
    have lx : W.heap.size ≤ gx := by omega
    clear hb
    have cs := s.1
    have fs := s.2.1
    have cbw := bw.1
    have fbw := bw.2.1
    go_wp2_with fail
    clear cs fs cbw fbw
    refine (toLayered _ _ _).mono ?_
    rintro e w6 ⟨rfl, hb⟩
    have s := s.below hb
    have r := r.below hb
    have bw := bw.below hb
    have x := x.below hb
    have s0 := bl.size
    have bl := bl.trans (hb.mono bl.size)
    clear hb
    have cs := s.1
    have fs := s.2.1
    have cbw := bw.1
    have fbw := bw.2.1
    go_wp2_with fail
    clear cs fs cbw fbw
    refine (implLayeredRun _ _ _ _ z1 N M y B _ HR.out (ownPacket x rfl) l1).mono ?_
    rintro e w7 ⟨gu, cu, rfl, hgu, u, hb⟩
    have nsu : W.heap.size ≠ gu := by have := s.2.2; omega
    have nru : gr ≠ gu := by have := r.lt; omega
    have nbwu : w4.heap.size ≠ gu := by have := bw.2.2; omega
    have nxu : gx ≠ gu := by have := x.lt; omega
    have s := s.below hb
    have r := r.below hb
    have bw := bw.below hb
    have x := x.below hb
    have s0 := bl.size
    have bl := bl.trans (hb.mono bl.size)
    have lu : W.heap.size ≤ gu := by omega
    clear hb
    have nsbg : W.heap.size ≠ w7.heap.size := by have := s.2.2; omega
    have nrbg : gr ≠ w7.heap.size := by have := r.lt; omega
    have nbwbg : w4.heap.size ≠ w7.heap.size := by have := bw.2.2; omega
    have nxbg : gx ≠ w7.heap.size := by have := x.lt; omega
    have nubg : gu ≠ w7.heap.size := by have := u.lt; omega
    have s := s.alloc (.cells #[.int .i64 N, .int .i64 M] 25)
    have r := r.alloc (.cells #[.int .i64 N, .int .i64 M] 25)
    have bw := bw.alloc (.cells #[.int .i64 N, .int .i64 M] 25)
    have x := x.alloc (.cells #[.int .i64 N, .int .i64 M] 25)
    have u := u.alloc (.cells #[.int .i64 N, .int .i64 M] 25)
    have bg : Row (w7.alloc (.cells #[.int .i64 N, .int .i64 M] 25)) w7.heap.size #[.int .i64 N, .int .i64 M] := Row.new _ _ _
    have lbg : W.heap.size ≤ w7.heap.size := bl.size
    have bl := bl.alloc bl.size (.cells #[.int .i64 N, .int .i64 M] 25)
    have cs := s.1
    have fs := s.2.1
    have cbw := bw.1
    have fbw := bw.2.1
    have cbg := bg.1
    have fbg := bg.2.1
    go_wp2_with fail
    clear cs fs cbw fbw cbg fbg
    refine (eqLayered_same _ _ _).mono ?_
    rintro e w8 ⟨rfl, hb⟩
    have s := s.below hb
    have r := r.below hb
    have bw := bw.below hb
    have x := x.below hb
    have u := u.below hb
    have bg := bg.below hb
    have s0 := bl.size
    have bl := bl.trans (hb.mono bl.size)
    clear hb
    have cs := s.1
    have fs := s.2.1
    have cbw := bw.1
    have fbw := bw.2.1
    have cbg := bg.1
    have fbg := bg.2.1
    go_wp2_with fail
    clear cs fs cbw fbw cbg fbg
    refine (eqPacketS_same _ _ _ _ y _ (ownPacket u rfl) (ownPacket r rfl) (by omega)).mono ?_
    rintro e w9 ⟨rfl, hb⟩
    have s := s.below hb
    have r := r.below hb
    have bw := bw.below hb
    have x := x.below hb
    have u := u.below hb
    have bg := bg.below hb
    have s0 := bl.size
    have bl := bl.trans (hb.mono bl.size)
    clear hb
    have cs := s.1
    have fs := s.2.1
    have cbw := bw.1
    have fbw := bw.2.1
    have cbg := bg.1
    have fbg := bg.2.1
    go_wp2_with fail
    clear cs fs cbw fbw cbg fbg
    refine (toPacketS_any _ _ _ _ (HA1.out.below bl) l1).mono ?_
    rintro e w10 ⟨gt, rfl, hgt, t, hb⟩
    have nst : W.heap.size ≠ gt := by have := s.2.2; omega
    have nrt : gr ≠ gt := by have := r.lt; omega
    have nbwt : w4.heap.size ≠ gt := by have := bw.2.2; omega
    have nxt : gx ≠ gt := by have := x.lt; omega
    have nut : gu ≠ gt := by have := u.lt; omega
    have nbgt : w7.heap.size ≠ gt := by have := bg.2.2; omega
    have s := s.below hb
    have r := r.below hb
    have bw := bw.below hb
    have x := x.below hb
    have u := u.below hb
    have bg := bg.below hb
    have s0 := bl.size
    have bl := bl.trans (hb.mono bl.size)
    have lt : W.heap.size ≤ gt := by omega
    clear hb
    have cs := s.1
    have fs := s.2.1
    have cbw := bw.1
    have fbw := bw.2.1
    have cbg := bg.1
    have fbg := bg.2.1
    go_wp2_with fail
    clear cs fs cbw fbw cbg fbg
    refine (eqPacketS_same _ _ _ _ z1 _ (ownPacket x rfl) (ownPacket t rfl) (by omega)).mono ?_
    rintro e w11 ⟨rfl, hb⟩
    have s := s.below hb
    have r := r.below hb
    have bw := bw.below hb
    have x := x.below hb
    have u := u.below hb
    have bg := bg.below hb
    have t := t.below hb
    have s0 := bl.size
    have bl := bl.trans (hb.mono bl.size)
    clear hb
    have cs := s.1
    have fs := s.2.1
    have cbw := bw.1
    have fbw := bw.2.1
    have cbg := bg.1
    have fbg := bg.2.1
    go_wp2_with fail
    clear cs fs cbw fbw cbg fbg
    clear t
    refine (markPacketS_any _ _ _ 1 _ _ x rfl (by omega) (by omega) (by omega)).mono ?_
    rintro e w12 ⟨rfl, xm, hgr⟩
    have s := s.grown hgr (by first | exact nsx | exact Ne.symm nxs)
    have r := r.grown hgr (by first | exact nrx | exact Ne.symm nxr)
    have bw := bw.grown hgr (by first | exact nbwx | exact Ne.symm nxbw)
    have u := u.grown hgr (by first | exact nux | exact Ne.symm nxu)
    have bg := bg.grown hgr (by first | exact nbgx | exact Ne.symm nxbg)
    have bl := bl.grown hgr bl.size (by intro k hk; simp at hk; omega)
    clear hgr x
    obtain ⟨mk_x, hmk⟩ : ∃ mk : Int, 1 + ((z1.length * 6 : Nat) : Int) = mk := ⟨_, rfl⟩
    have hmk0_x : ¬ mk_x < 0 := by omega
    have hmk1_x : 0 ≤ mk_x := by omega
    have Hmk_x := hide hmk
    rw [hmk]
    clear hmk
    have cs := s.1
    have fs := s.2.1
    have cbw := bw.1
    have fbw := bw.2.1
    have cbg := bg.1
    have fbg := bg.2.1
    go_wp2_with fail
    clear cs fs cbw fbw cbg fbg
    refine (eqLayered_same _ _ _).mono ?_
    rintro e w13 ⟨rfl, hb⟩
    have s := s.below hb
    have r := r.below hb
    have bw := bw.below hb
    have u := u.below hb
    have bg := bg.below hb
    have s0 := bl.size
    have bl := bl.trans (hb.mono bl.size)
    clear hb
    have cs := s.1
    have fs := s.2.1
    have cbw := bw.1
    have fbw := bw.2.1
    have cbg := bg.1
    have fbg := bg.2.1
    go_wp2_with fail
    clear cs fs cbw fbw cbg fbg
    refine (eqPacketS_same _ _ _ _ y _ (ownPacket u rfl) (ownPacket r rfl) (by omega)).mono ?_
    rintro e w14 ⟨rfl, hb⟩
    have s := s.below hb
    have r := r.below hb
    have bw := bw.below hb
    have u := u.below hb
    have bg := bg.below hb
    have s0 := bl.size
    have bl := bl.trans (hb.mono bl.size)
    clear hb
    have cs := s.1
    have fs := s.2.1
    have cbw := bw.1
    have fbw := bw.2.1
    have cbg := bg.1
    have fbg := bg.2.1
    go_wp2_with fail
    clear cs fs cbw fbw cbg fbg
    refine (markPacketS_any _ _ _ 1 _ _ u rfl (by omega) (by omega) (by omega)).mono ?_
    rintro e w15 ⟨rfl, um, hgr⟩
    have s := s.grown hgr (by first | exact nsu | exact Ne.symm nus)
    have r := r.grown hgr (by first | exact nru | exact Ne.symm nur)
    have bw := bw.grown hgr (by first | exact nbwu | exact Ne.symm nubw)
    have bg := bg.grown hgr (by first | exact nbgu | exact Ne.symm nubg)
    have bl := bl.grown hgr bl.size (by intro k hk; simp at hk; omega)
    clear hgr u
    obtain ⟨mk_u, hmk⟩ : ∃ mk : Int, 1 + ((y.length * 6 : Nat) : Int) = mk := ⟨_, rfl⟩
    have hmk0_u : ¬ mk_u < 0 := by omega
    have hmk1_u : 0 ≤ mk_u := by omega
    have Hmk_u := hide hmk
    rw [hmk]
    clear hmk
    have cs := s.1
    have fs := s.2.1
    have cbw := bw.1
    have fbw := bw.2.1
    have cbg := bg.1
    have fbg := bg.2.1
    go_wp2_with fail
    clear cs fs cbw fbw cbg fbg
    have ui : PacketAt _ (some ⟨gu, 0, none⟩) (marksPacket 1 y.length) := ownPacket um (by simp [marksPacket])
    clear um
    refine (heldPacketS_any _ _ _ 1 _ ui (by omega) (by omega) (by omega)).mono ?_
    rintro e w16 ⟨rfl, rfl⟩
    rw [Hmk_u.out]
    have cs := s.1
    have fs := s.2.1
    have cbw := bw.1
    have fbw := bw.2.1
    have cbg := bg.1
    have fbg := bg.2.1
    go_wp2_with fail
    clear cs fs cbw fbw cbg fbg
    refine (toLayered _ _ _).mono ?_
    rintro e w17 ⟨rfl, hb⟩
    have s := s.below hb
    have r := r.below hb
    have bw := bw.below hb
    have bg := bg.below hb
    have ui := ui.below hb
    have s0 := bl.size
    have bl := bl.trans (hb.mono bl.size)
    clear hb
    have cs := s.1
    have fs := s.2.1
    have cbw := bw.1
    have fbw := bw.2.1
    have cbg := bg.1
    have fbg := bg.2.1
    go_wp2_with fail
    clear cs fs cbw fbw cbg fbg
    refine (toPacketS_any _ _ _ _ (HA1.out.below bl) l1).mono ?_
    rintro e w18 ⟨gt, rfl, hgt, t, hb⟩
    have nst : W.heap.size ≠ gt := by have := s.2.2; omega
    have nrt : gr ≠ gt := by have := r.lt; omega
    have nbwt : w4.heap.size ≠ gt := by have := bw.2.2; omega
    have nbgt : w7.heap.size ≠ gt := by have := bg.2.2; omega
    have s := s.below hb
    have r := r.below hb
    have bw := bw.below hb
    have bg := bg.below hb
    have ui := ui.below hb
    have s0 := bl.size
    have bl := bl.trans (hb.mono bl.size)
    have lt : W.heap.size ≤ gt := by omega
    clear hb
    have cs := s.1
    have fs := s.2.1
    have cbw := bw.1
    have fbw := bw.2.1
    have cbg := bg.1
    have fbg := bg.2.1
    go_wp2_with fail
    clear cs fs cbw fbw cbg fbg
    refine (implLayeredRun _ _ _ _ z1 N M y B _ HR.out (ownPacket t rfl) l1).mono ?_
    rintro e w19 ⟨gh, ch, rfl, hgh, h, hb⟩
    have nsh : W.heap.size ≠ gh := by have := s.2.2; omega
    have nrh : gr ≠ gh := by have := r.lt; omega
    have nbwh : w4.heap.size ≠ gh := by have := bw.2.2; omega
    have nbgh : w7.heap.size ≠ gh := by have := bg.2.2; omega
    have nth : gt ≠ gh := by have := t.lt; omega
    have s := s.below hb
    have r := r.below hb
    have bw := bw.below hb
    have bg := bg.below hb
    have ui := ui.below hb
    have t := t.below hb
    have s0 := bl.size
    have bl := bl.trans (hb.mono bl.size)
    have lh : W.heap.size ≤ gh := by omega
    clear hb
    have nsbh : W.heap.size ≠ w19.heap.size := by have := s.2.2; omega
    have nrbh : gr ≠ w19.heap.size := by have := r.lt; omega
    have nbwbh : w4.heap.size ≠ w19.heap.size := by have := bw.2.2; omega
    have nbgbh : w7.heap.size ≠ w19.heap.size := by have := bg.2.2; omega
    have ntbh : gt ≠ w19.heap.size := by have := t.lt; omega
    have nhbh : gh ≠ w19.heap.size := by have := h.lt; omega
    have s := s.alloc (.cells #[.int .i64 N, .int .i64 M] 25)
    have r := r.alloc (.cells #[.int .i64 N, .int .i64 M] 25)
    have bw := bw.alloc (.cells #[.int .i64 N, .int .i64 M] 25)
    have bg := bg.alloc (.cells #[.int .i64 N, .int .i64 M] 25)
    have ui := ui.alloc_ (.cells #[.int .i64 N, .int .i64 M] 25)
    have t := t.alloc (.cells #[.int .i64 N, .int .i64 M] 25)
    have h := h.alloc (.cells #[.int .i64 N, .int .i64 M] 25)
    have bh : Row (w19.alloc (.cells #[.int .i64 N, .int .i64 M] 25)) w19.heap.size #[.int .i64 N, .int .i64 M] := Row.new _ _ _
    have lbh : W.heap.size ≤ w19.heap.size := bl.size
    have bl := bl.alloc bl.size (.cells #[.int .i64 N, .int .i64 M] 25)
    have cs := s.1
    have fs := s.2.1
    have cbw := bw.1
    have fbw := bw.2.1
    have cbg := bg.1
    have fbg := bg.2.1
    have cbh := bh.1
    have fbh := bh.2.1
    go_wp2_with fail
    clear cs fs cbw fbw cbg fbg cbh fbh
    clear t
    refine (eqLayered_same _ _ _).mono ?_
    rintro e w20 ⟨rfl, hb⟩
    have s := s.below hb
    have r := r.below hb
    have bw := bw.below hb
    have bg := bg.below hb
    have ui := ui.below hb
    have h := h.below hb
    have bh := bh.below hb
    have s0 := bl.size
    have bl := bl.trans (hb.mono bl.size)
    clear hb
    have cs := s.1
    have fs := s.2.1
    have cbw := bw.1
    have fbw := bw.2.1
    have cbg := bg.1
    have fbg := bg.2.1
    have cbh := bh.1
    have fbh := bh.2.1
    go_wp2_with fail
    clear cs fs cbw fbw cbg fbg cbh fbh
    refine (eqPacketS_same _ _ _ _ y _ (ownPacket h rfl) (ownPacket r rfl) (by omega)).mono ?_
    rintro e w21 ⟨rfl, hb⟩
    have s := s.below hb
    have r := r.below hb
    have bw := bw.below hb
    have bg := bg.below hb
    have ui := ui.below hb
    have h := h.below hb
    have bh := bh.below hb
    have s0 := bl.size
    have bl := bl.trans (hb.mono bl.size)
    clear hb
    have cs := s.1
    have fs := s.2.1
    have cbw := bw.1
    have fbw := bw.2.1
    have cbg := bg.1
    have fbg := bg.2.1
    have cbh := bh.1
    have fbh := bh.2.1
    go_wp2_with fail
    clear cs fs cbw fbw cbg fbg cbh fbh
    refine (heldPacketS_any _ _ _ 1 _ ui (by omega) (by omega) (by omega)).mono ?_
    rintro e w22 ⟨rfl, rfl⟩
    rw [Hmk_u.out]
    have cs := s.1
    have fs := s.2.1
    have cbw := bw.1
    have fbw := bw.2.1
    have cbg := bg.1
    have fbg := bg.2.1
    have cbh := bh.1
    have fbh := bh.2.1
    go_wp2_with fail
    clear cs fs cbw fbw cbg fbg cbh fbh
    go_ret
    exact ⟨rfl, bl⟩
end Go.Proofs.Yticelpaicenbkaa
