/- Walks of FnNacksFindAll. -/
import Derived.Test.YtibedadmogadhaaK13
import Derived.Test.YtibedadmogadhaaK11
import Derived.Test.YtibedadmogadhaaK12
import Derived.Test.YtibedadmogadhaaK9a
import Derived.Test.YtibedadmogadhaaM3
namespace Go.Proofs.Ytibedadmogadhaa
open Go.ChangeShapes Go.WideShapes Go.ChangeAt Go.RowKit Go.Deep

set_option maxHeartbeats 4000000 in
theorem walk_fnNacksFindAll {H : Type} {enc : TypeId × Value → H} (W : World) (base : Nat) (v : Value) (d : DataW H) (p : List MemPlace) (o : Value.okWide Try.prog W .any base 22 v) (h : DataW.Trod enc Try.prog W 0 (fun _ => true) true 22 v d p) :
    Calls Try.prog 3 #[v] W (RetB true W) := by
  obtain ⟨A, n, c, rfl, hn, hm, hcode⟩ := open_code W base v d p o h
  clear o h
  by_cases hbig : 1048576 < (n : Int)
  · clear hcode
    go_enter Try.func3, Try.ntmps3
    go_wp2_with fail
    go_ret
    refine ⟨rfl, ?_⟩
    (repeat' (first | (with_reducible exact Below.refl _ _) | (with_reducible assumption) | (with_reducible refine Below.alloc ?_ ?_ _) | (with_reducible refine Below.setCell ?_ ?_ _) | (with_reducible refine Below.drew ?_) | (with_reducible refine below_drewN' ?_ _) | (with_reducible refine below_step (by assumption) ?_ ?_) | (with_reducible refine below_gstep (by assumption) ?_ ?_ ?_) | (with_reducible exact Below.size (by assumption)) | omega | (simp; done) | (simp; omega)))
  · have Hcode := hide hcode
    clear hcode
    go_enter Try.func3, Try.ntmps3
    go_wp2_with fail
    refine (drawNacksFind W.heap.size A n c _ Hcode.out hn hm (Nat.le_refl _)).mono ?_
    rintro e w1 ⟨g1, c1, ns, g2, c2, ps, rfl, hl1, hl2, o1, o2, bl⟩
    clear Hcode
    have lf := find_len ns ps
    go_wp2_with fail
    refine (implNacksFind _ _ _ _ ns ps _ (ownNack o1 rfl) (ownPacket o2 rfl) (by omega) (by omega)).mono ?_
    rintro e w2 ⟨g3, c3, rfl, hg3, o3, hb⟩
    have o1 := o1.below hb
    have o2 := o2.below hb
    have bl := bl.trans (hb.mono bl.size)
    clear hb
    go_wp2_with fail
    refine (specNacksFind _ _ _ _ ns ps _ (ownNack o1 rfl) (ownPacket o2 rfl) (by omega) (by omega)).mono ?_
    rintro e w3 ⟨g4, c4, rfl, hg4, o4, hb⟩
    have o2 := o2.below hb
    have o3 := o3.below hb
    have bl := bl.trans (hb.mono bl.size)
    clear hb o1
    go_wp2_with fail
    refine (samePackets_b _ _ _ _ (find ns ps) _ (ownPacket o3 rfl) (ownPacket o4 rfl) (by omega)).mono ?_
    rintro e w4 ⟨rfl, hb⟩
    have o2 := o2.below hb
    have o3 := o3.below hb
    have o4 := o4.below hb
    have bl := bl.trans (hb.mono bl.size)
    clear hb
    have K := specPacketsValid (some ⟨g2, 0, none⟩) c2 ps w4 (ownPacket o2 rfl) (by omega)
    have KK := hide K
    clear K
    go_wp2_with fail
    by_cases hv : pksB ps = true
    · have K := KK.out
      rw [hv] at K
      refine K.mono ?_
      clear K
      rintro e w5 ⟨rfl, hb⟩
      have o2 := o2.below hb
      have bl := bl.trans (hb.mono bl.size)
      have Hv := hide hv
      clear hb KK o3 o4 hv
      go_wp2_with fail
      have Hop := hide o2
      have lp := o2.lt
      have sz0 := bl.size
      have oz0 := hide (Own.new w5 #[] 3 1 0 (by unfold maxLen; omega) rfl)
      have lgp : g2 < w5.heap.size := o2.lt
      obtain ⟨m, hmm⟩ : ∃ m, ps.length = m := ⟨_, rfl⟩
      have Hm := hide hmm
      rw [hmm] at hl2 Hop ⊢
      clear o2 hmm
      go_loopw [7, 8] (fun s i wr => ∃ (k g c : Nat), s = .slice (some ⟨g, 0, none⟩) k c ∧ i = .int .i64 k ∧ k ≤ m ∧ w5.heap.size ≤ g ∧ Own wr 3 1 g k c (((ps.map VPacket.a0).take k).map (Value.int .i64)) ∧ Below w5.heap.size w5 wr) (fun _ i _ => m - (intOf i).toNat)
      case atStart =>
        refine ⟨0, _, _, rfl, rfl, by omega, Nat.le_refl _, oz0.out.conv (by simp), ?_⟩
        (repeat' (first | (with_reducible exact Below.refl _ _) | (with_reducible assumption) | (with_reducible refine Below.alloc ?_ ?_ _) | (with_reducible refine Below.setCell ?_ ?_ _) | (with_reducible refine Below.drew ?_) | (with_reducible refine below_drewN' ?_ _) | (with_reducible refine below_step (by assumption) ?_ ?_) | (with_reducible refine below_gstep (by assumption) ?_ ?_ ?_) | (with_reducible exact Below.size (by assumption)) | omega | (simp; done) | (simp; omega)))
      case round =>
        obtain ⟨k, g, c, rfl, rfl, hk, hg, oz, hbl⟩ := hrel
        have sz := hbl.size
        have lz := oz.lt
        by_cases hkm : k < m
        · have hw := (hbl.cell (p := ⟨g2, k * 6, none⟩) lgp).trans (packet_wide Hop.out Hm.out hkm)
          obtain ⟨x, hx⟩ : ∃ x, (ps.getD k default).a0 = x := ⟨_, rfl⟩
          rw [hx] at hw
          have Hx := hide hx
          have gk : (k : Int) < (m : Int) := by omega
          have Hbl := hide hbl
          clear hx hbl
          go_wp2_with (first | (at_builtin; refine wpList_append_1 rfl _ _ _ rfl elemI rfl oz #[.int .i64 x] rfl rfl rfl (by omega) ?_; intro g7 c7 w7 oz7 hg7 hat7))
          have b7 : Below w5.heap.size w5 w7 := Hbl.out.grown hg7 sz (by intro k hk; simp at hk; omega)
          clear hg7 oz
          go_roundw
          case rel =>
            refine ⟨k + 1, g7, c7, rfl, by go_num, by omega, by omega, oz7.conv ?_, b7⟩
            rw [take_snoc (ps.map VPacket.a0) k (by rw [List.length_map, Hm.out]; exact hkm), wide_getD ps k (by rw [Hm.out]; exact hkm), Hx.out]
            simp
          case measure => simp [intOf]; omega
        · have hkn : k = m := by omega
          subst hkn
          have ht : (ps.map VPacket.a0).take k = ps.map VPacket.a0 := List.take_of_length_le (by rw [List.length_map, Hm.out]; exact Nat.le_refl _)
          rw [ht] at oz
          have hR := hide (show relNacksOf (ps.map VPacket.a0) (nk (ps.map VPacket.a0)) true from .inl ⟨wide_asc Hv.out, rfl, rfl⟩)
          have hln := relOf_len hR.out
          have hlw : (ps.map VPacket.a0).length = k := by rw [List.length_map, Hm.out]
          have hx := fun w h => implNacksOf (some ⟨g, 0, none⟩) c (ps.map VPacket.a0) (nk (ps.map VPacket.a0)) true w hR.out h (by rw [hlw]; omega)
          rw [hlw] at hx
          have HX := hide hx
          have Hoz := hide (own_ints oz)
          have op2 := hide (Hop.out.below hbl)
          have bl2 := bl.trans (hbl.mono sz0)
          clear hx oz hbl ht hlw
          go_wp2_with fail
          refine (HX.out _ Hoz.out).mono ?_
          rintro e w7 ⟨g7, c7, rfl, hg7, o7, hb⟩
          have op2 := hide (op2.out.below hb)
          have bl := bl2.trans (hb.mono bl2.size)
          clear hb
          have hy := fun w h1 h2 => implNacksFind (some ⟨g7, 0, none⟩) (some ⟨g2, 0, none⟩) c7 c2 (nk (ps.map VPacket.a0)) ps w h1 h2 (by omega) (by rw [Hm.out]; omega)
          have hz := fun w g c h1 h2 => samePackets_b (some ⟨g, 0, none⟩) (some ⟨g2, 0, none⟩) c c2 ps w h1 h2 (by rw [Hm.out]; omega)
          rw [find_all Hv.out, Hm.out] at hy
          rw [Hm.out] at hz
          have HY := hide hy
          have HZ := hide hz
          clear hy hz
          go_wp2_with fail
          refine (HY.out _ (ownNack o7 rfl) (ownPacket op2.out Hm.out)).mono ?_
          rintro e w8 ⟨g8, c8, rfl, hg8, o8, hb⟩
          have op2 := hide (op2.out.below hb)
          have bl := bl.trans (hb.mono bl.size)
          rw [Hm.out] at o8 ⊢
          clear hb o7
          go_wp2_with fail
          refine (HZ.out _ _ _ (ownPacket o8 Hm.out) (ownPacket op2.out Hm.out)).mono ?_
          rintro e w9 ⟨rfl, hb⟩
          have bl := bl.trans (hb.mono bl.size)
          clear hb o8
          go_wp2_with fail
          go_ret
          exact ⟨by first | rfl | (simp; done), bl⟩
    · have K := KK.out
      have hv' : pksB ps = false := by simpa using hv
      rw [hv'] at K
      refine K.mono ?_
      clear K
      rintro e w5 ⟨rfl, hb⟩
      have o3 := o3.below hb
      have o4 := o4.below hb
      have bl := bl.trans (hb.mono bl.size)
      clear hb KK hv hv'
      go_wp2_with fail
      refine (samePackets_b _ _ _ _ (find ns ps) _ (ownPacket o3 rfl) (ownPacket o4 rfl) (by omega)).mono ?_
      rintro e w6 ⟨rfl, hb⟩
      have bl := bl.trans (hb.mono bl.size)
      clear hb
      go_wp2_with fail
      go_ret
      exact ⟨rfl, bl⟩
end Go.Proofs.Ytibedadmogadhaa
