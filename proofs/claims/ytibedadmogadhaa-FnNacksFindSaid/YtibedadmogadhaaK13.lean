/- Walk of FnNacksFindMissing. -/
import Derived.Test.YtibedadmogadhaaK11
import Derived.Test.YtibedadmogadhaaK12
import Derived.Test.YtibedadmogadhaaK9a
import Derived.Test.YtibedadmogadhaaM3
namespace Go.Proofs.Ytibedadmogadhaa
open Go.ChangeShapes Go.WideShapes Go.ChangeAt Go.RowKit Go.Deep

theorem samePackets_b (A B : Option Addr) (c1 c2 : Nat) (zs : List VPacket) (w : World) (hA : PacketAt w A zs) (hB : PacketAt w B zs) (hm : zs.length ≤ 1048576) :
    Calls Try.prog 16 #[.slice A zs.length c1, .slice B zs.length c2] w (RetB true w) :=
  (samePackets_same A B c1 c2 zs w hA hB hm).mono fun _ _ ⟨he, n, hw⟩ => ⟨he, by rw [hw]; exact below_drewN' (Below.refl _ _) n⟩
theorem find_len (ns : List VNack) (ps : List VPacket) : (find ns ps).length ≤ ps.length := by
  unfold find
  split
  · exact filt_len _ _ _
  · simp
theorem missing_asc (ps : List VPacket) : ascB (missing ps) = true := by
  refine decide_eq_true ⟨fun i hi => ?_, missing_length ps⟩
  obtain ⟨hb, hl, f1, f2, f3, f4⟩ := missing_facts hi
  have hp := (of_decide_eq_true hb).1
  have b0 := pkOK_bd (hp 0 (by omega)).1
  have b1 := pkOK_bd (hp (ps.length - 1) (by omega)).1
  exact ⟨by omega, by omega, f4⟩
theorem find_back {ys : List Int} {ps : List VPacket} (h : ascB ys = true) (hp : pksB ps = true) : find (nk ys) ps = filt ys ps ps.length := by
  have hb := (nacks_back h).1
  rcases hb with ⟨h1, h2, _⟩ | ⟨_, _, h3⟩
  · unfold find findB
    rw [h1, hp, ← h2]
    rfl
  · cases h3
theorem find_missing {ps : List VPacket} (hp : pksB ps = true) : find (nk (missing ps)) ps = [] := by
  rw [find_back (missing_asc ps) hp]
  unfold filt
  rw [List.take_length, List.filter_eq_nil_iff]
  intro x hx
  obtain ⟨i, hi, rfl⟩ := List.mem_iff_getElem.1 hx
  intro h
  obtain ⟨j, hj, he⟩ := of_decide_eq_true h
  have := (missing_facts hj).2.2.2.2.1 i hi
  rw [List.getD_eq_getElem?_getD, List.getElem?_eq_getElem hi] at this
  exact this he.symm
theorem wide_getD (ps : List VPacket) (i : Nat) (hi : i < ps.length) : (ps.map VPacket.a0).getD i 0 = (ps.getD i default).a0 := by
  rw [List.getD_eq_getElem?_getD, List.getElem?_map, List.getElem?_eq_getElem hi, List.getD_eq_getElem?_getD, List.getElem?_eq_getElem hi]
  rfl
theorem wide_asc {ps : List VPacket} (hp : pksB ps = true) : ascB (ps.map VPacket.a0) = true := by
  have h := of_decide_eq_true hp
  refine decide_eq_true ⟨fun i hi => ?_, by rw [List.length_map]; omega⟩
  rw [List.length_map] at hi
  have hb := pkOK_bd (h.1 i hi).1
  rw [wide_getD ps i hi]
  refine ⟨hb.1, hb.2, fun h0 => ?_⟩
  rw [wide_getD ps (i - 1) (by omega)]
  exact ((h.1 i hi).2 h0).1
theorem find_all {ps : List VPacket} (hp : pksB ps = true) : find (nk (ps.map VPacket.a0)) ps = ps := by
  rw [find_back (wide_asc hp) hp]
  unfold filt
  rw [List.take_length, List.filter_eq_self]
  intro x hx
  obtain ⟨i, hi, rfl⟩ := List.mem_iff_getElem.1 hx
  refine decide_eq_true ⟨i, by rw [List.length_map]; exact hi, ?_⟩
  rw [List.getD_eq_getElem?_getD, List.getElem?_map, List.getElem?_eq_getElem hi]
  rfl
set_option maxHeartbeats 4000000 in
theorem walk_fnNacksFindMissing {H : Type} {enc : TypeId × Value → H} (W : World) (base : Nat) (v : Value) (d : DataW H) (p : List MemPlace) (o : Value.okWide Try.prog W .any base 22 v) (h : DataW.Trod enc Try.prog W 0 (fun _ => true) true 22 v d p) :
    Calls Try.prog 6 #[v] W (RetB true W) := by
  obtain ⟨A, n, c, rfl, hn, hm, hcode⟩ := open_code W base v d p o h
  clear o h
  by_cases hbig : 1048576 < (n : Int)
  · clear hcode
    go_enter Try.func6, Try.ntmps6
    go_wp2_with fail
    go_ret
    refine ⟨rfl, ?_⟩
    (repeat' (first | (with_reducible exact Below.refl _ _) | (with_reducible assumption) | (with_reducible refine Below.alloc ?_ ?_ _) | (with_reducible refine Below.setCell ?_ ?_ _) | (with_reducible refine Below.drew ?_) | (with_reducible refine below_drewN' ?_ _) | (with_reducible refine below_step (by assumption) ?_ ?_) | (with_reducible refine below_gstep (by assumption) ?_ ?_ ?_) | (with_reducible exact Below.size (by assumption)) | omega | (simp; done) | (simp; omega)))
  · have Hcode := hide hcode
    clear hcode
    go_enter Try.func6, Try.ntmps6
    go_wp2_with fail
    refine (drawNacksFind W.heap.size A n c _ Hcode.out hn hm (Nat.le_refl _)).mono ?_
    rintro e w1 ⟨g1, c1, ns, g2, c2, ps, rfl, hl1, hl2, o1, o2, bl⟩
    clear Hcode
    have lf := find_len ns ps
    go_wp2_with fail
    refine (implNacksFind _ _ _ _ ns ps _ (ownNack o1 rfl) (ownPacket o2 rfl) (by omega) (by omega)).mono ?_
    rintro e w2 ⟨g3, c3, rfl, hg3, o3, hb⟩
    have o1 := o1.below hb
    have o2 := o2.below hb
    have bl := bl.trans (hb.mono bl.size)
    clear hb
    go_wp2_with fail
    refine (specNacksFind _ _ _ _ ns ps _ (ownNack o1 rfl) (ownPacket o2 rfl) (by omega) (by omega)).mono ?_
    rintro e w3 ⟨g4, c4, rfl, hg4, o4, hb⟩
    have o2 := o2.below hb
    have o3 := o3.below hb
    have bl := bl.trans (hb.mono bl.size)
    clear hb o1
    go_wp2_with fail
    refine (samePackets_b _ _ _ _ (find ns ps) _ (ownPacket o3 rfl) (ownPacket o4 rfl) (by omega)).mono ?_
    rintro e w4 ⟨rfl, hb⟩
    have o2 := o2.below hb
    have o3 := o3.below hb
    have o4 := o4.below hb
    have bl := bl.trans (hb.mono bl.size)
    clear hb
    have K := specPacketsValid (some ⟨g2, 0, none⟩) c2 ps w4 (ownPacket o2 rfl) (by omega)
    have KK := hide K
    clear K
    go_wp2_with fail
    by_cases hv : pksB ps = true
    · have K := KK.out
      rw [hv] at K
      refine K.mono ?_
      clear K
      rintro e w5 ⟨rfl, hb⟩
      have o2 := o2.below hb
      have bl := bl.trans (hb.mono bl.size)
      have Hv := hide hv
      clear hb KK o3 o4 hv
      go_wp2_with fail
      refine (implMissingOf _ _ ps _ (ownPacket o2 rfl) (by omega)).mono ?_
      rintro e w6 ⟨g6, c6, rfl, hg6, o6, hb⟩
      have o2 := o2.below hb
      have bl := bl.trans (hb.mono bl.size)
      clear hb
      have hR := hide (show relNacksOf (missing ps) (nk (missing ps)) true from .inl ⟨missing_asc ps, rfl, rfl⟩)
      have hlm := missing_length ps
      have hln := relOf_len hR.out
      go_wp2_with fail
      refine (implNacksOf _ _ (missing ps) (nk (missing ps)) true _ hR.out (own_ints o6) (by omega)).mono ?_
      rintro e w7 ⟨g7, c7, rfl, hg7, o7, hb⟩
      have o2 := o2.below hb
      have bl := bl.trans (hb.mono bl.size)
      clear hb o6
      go_wp2_with fail
      refine (implNacksFind _ _ _ _ (nk (missing ps)) ps _ (ownNack o7 rfl) (ownPacket o2 rfl) (by omega) (by omega)).mono ?_
      rw [find_missing Hv.out]
      rintro e w8 ⟨g8, c8, rfl, hg8, o8, hb⟩
      have bl := bl.trans (hb.mono bl.size)
      clear hb o8 o7 o2
      go_wp2_with fail
      go_ret
      exact ⟨by first | rfl | (simp; done), bl⟩
    · have K := KK.out
      have hv' : pksB ps = false := by simpa using hv
      rw [hv'] at K
      refine K.mono ?_
      clear K
      rintro e w5 ⟨rfl, hb⟩
      have o3 := o3.below hb
      have o4 := o4.below hb
      have bl := bl.trans (hb.mono bl.size)
      clear hb KK hv hv'
      go_wp2_with fail
      refine (samePackets_b _ _ _ _ (find ns ps) _ (ownPacket o3 rfl) (ownPacket o4 rfl) (by omega)).mono ?_
      rintro e w6 ⟨rfl, hb⟩
      have bl := bl.trans (hb.mono bl.size)
      clear hb
      go_wp2_with fail
      go_ret
      exact ⟨rfl, bl⟩
end Go.Proofs.Ytibedadmogadhaa
