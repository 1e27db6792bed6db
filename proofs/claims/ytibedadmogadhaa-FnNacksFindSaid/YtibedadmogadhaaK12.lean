/- What DrawNacksFind draws; slices of packets that a law compares. -/
import Derived.Test.YtibedadmogadhaaK9b
import Derived.Test.YtibedadmogadhaaK10
import Derived.Test.YtibedadmogadhaaM5
namespace Go.Proofs.Ytibedadmogadhaa
open Go.ChangeShapes Go.WideShapes Go.ChangeAt Go.RowKit Go.Deep

theorem packet_wide {w : World} {g n c k : Nat} {zs : List VPacket} (h : Own w 32 6 g n c (zs.map VPacket.cells).flatten) (hn : zs.length = n) (hk : k < n) : w.cell? ⟨g, k * 6, none⟩ = some (.int .i64 (zs.getD k default).a0) := by
  obtain ⟨b, off, he, _, hc⟩ := PacketAt.at (ownPacket h hn) (by omega)
  simp only [Option.some.injEq, Addr.mk.injEq, and_true] at he
  obtain ⟨rfl, rfl⟩ := he
  have := (hc k (by omega)).1
  rwa [Nat.zero_add] at this
def DrewFind (w : World) (e : Ending) (w' : World) : Prop :=
  ∃ g1 c1 zs g2 c2 ps, e = .returned (.tuple #[.slice (some ⟨g1, 0, none⟩) (List.length zs) c1, .slice (some ⟨g2, 0, none⟩) (List.length ps) c2]) ∧ zs.length ≤ 60 ∧ ps.length ≤ 10 ∧ Own w' 48 2 g1 zs.length c1 (zs.map VNack.cells).flatten ∧ Own w' 32 6 g2 ps.length c2 (ps.map VPacket.cells).flatten ∧ Below w.heap.size w w'
theorem drewFind_mk {w w' : World} {g1 c1 k1 g2 c2 k2 : Nat} {zs : List VNack} {ps : List VPacket} (h1 : zs.length = k1) (h2 : ps.length = k2) (l1 : k1 ≤ 60) (l2 : k2 ≤ 10) (o1 : Own w' 48 2 g1 k1 c1 (zs.map VNack.cells).flatten) (o2 : Own w' 32 6 g2 k2 c2 (ps.map VPacket.cells).flatten) (hb : Below w.heap.size w w') :
    DrewFind w (.returned (.tuple #[.slice (some ⟨g1, 0, none⟩) k1 c1, .slice (some ⟨g2, 0, none⟩) k2 c2])) w' := by subst h1 h2; exact ⟨g1, c1, zs, g2, c2, ps, rfl, l1, l2, o1, o2, hb⟩
set_option maxHeartbeats 4000000 in
theorem drawNacksFind (B : Nat) (A : Option Addr) (n c : Nat) (w : World) (hcode : Code w B A n) (hn : n ≤ c) (hm : c ≤ 9223372036854775807) (hB : B ≤ w.heap.size) :
    Calls Try.prog 13 #[.slice A n c] w (DrewFind w) := by
  have Hcode := hide hcode
  clear hcode
  go_enter Try.func13, Try.ntmps13
  go_wp2_with fail
  refine (l6Open_any B A n c _ Hcode.out hn hm hB).mono ?_
  rintro e w1 ⟨R, rfl, hR, hr, hb1⟩
  have zb := hb1.size
  clear Hcode
  go_wp2_with fail
  refine (l91Packets_any B R 0 _ hr (by omega)).mono ?_
  rintro e w2 ⟨g, cp, ps, rfl, hl, hg, op, hr2, hg2⟩
  have lRg : R < g := by have := hr.lt; omega
  have lwg : w.heap.size ≤ g := by omega
  obtain ⟨m, hmm⟩ : ∃ m, ps.length = m := ⟨_, rfl⟩
  rw [hmm] at hl op ⊢
  have Hm := hide hmm
  have G2 : Below w.heap.size w w2 := hb1.grown hg2 zb (by intro k hk; simp at hk; omega)
  have hr2' := hr2.more (show 0 + 200 ≤ 200 by omega)
  have lg2 := op.lt
  have ol := (Own.new w2 #[] 3 1 0 (by unfold maxLen; omega) rfl)
  have HOl := hide ol
  have HOp := hide (op.alloc (.cells #[] 3))
  have G2' := hide (G2.alloc G2.size (.cells #[] 3))
  have HR2 := hide (hr2'.alloc (.cells #[] 3))
  have s2 := G2.size
  clear hr hg2 hb1 hmm hr2 hr2' G2 op ol
  go_wp2_with fail
  go_loopw [6, 7] (fun s i wr => ∃ (k q g1 c1 : Nat) (ys : List Int), s = .slice (some ⟨g1, 0, none⟩) q c1 ∧ i = .int .i64 k ∧ k ≤ m ∧ q ≤ k ∧ ys.length = q ∧ w.heap.size ≤ g1 ∧ R < g1 ∧ g1 ≠ g ∧ Own wr 3 1 g1 q c1 (ys.map (Value.int .i64)) ∧ Own wr 32 6 g m cp (ps.map VPacket.cells).flatten ∧ Rd wr B R (200 + k) ∧ Below w.heap.size w wr) (fun _ i _ => m - (intOf i).toNat)
  case atStart => exact ⟨0, 0, _, _, [], rfl, rfl, by omega, by omega, rfl, by omega, by omega, by omega, HOl.out, HOp.out, HR2.out.more (by omega), G2'.out⟩
  case round =>
    clear HOl HOp HR2 G2'
    obtain ⟨k, q, g1, c1, ys, rfl, rfl, hk, hqk, hlq, hg1, hRg1, hne, oy, op, hrr, hbl⟩ := hrel
    have ly := oy.lt
    have sz := hbl.size
    have Hlq := hide hlq
    clear hlq
    by_cases hkm : k < m
    · have g2 : (k : Int) < (m : Int) := by omega
      go_wp2_with fail
      refine (pick_any B R _ _ _ hrr (by omega) (by omega) (by omega)).mono ?_
      rintro e w5 ⟨x6, rfl, hv0, hv1, hs5, hr5, hg5⟩
      have oy5 := oy.grown hg5 (by omega)
      have op5 := op.grown hg5 (by omega)
      have G5 : Below w.heap.size w w5 := hbl.grown hg5 sz (by intro k hk; simp at hk; omega)
      have s5 := G5.size
      have ly5 := oy5.lt
      have lp5 := op5.lt
      have lR5 := hr5.lt
      clear hg5 hs5 hbl hrr oy op
      by_cases hx6 : x6 = 0
      · subst hx6
        have hw := packet_wide op5 Hm.out hkm
        obtain ⟨x, hx⟩ : ∃ x, (ps.getD k default).a0 = x := ⟨_, rfl⟩
        rw [hx] at hw
        have Hop := hide op5
        have Hr5 := hide hr5
        clear hx op5 hr5
        go_wp2_with (first | (at_builtin; refine wpList_append_1 rfl _ _ _ rfl elemI rfl oy5 #[.int .i64 x] rfl rfl rfl (by omega) ?_; intro g7 c7 w7 oz7 hg7 hat7))
        have op7 := Hop.out.grown hg7 (Ne.symm hne)
        have hr7 := Hr5.out.grown hg7 hRg1
        have b7 : Below w.heap.size w w7 := G5.grown hg7 s5 (by intro k hk; simp at hk; omega)
        clear hg7 oy5 G5
        go_roundw
        case rel => exact ⟨k + 1, q + 1, g7, c7, ys ++ [x], rfl, by go_num, by omega, by omega, by rw [List.length_append, Hlq.out]; rfl, by omega, by omega, by omega, oz7.conv (by simp), op7, hr7.more (by omega), b7⟩
        case measure => simp [intOf]; omega
      · have hx' : (x6 == 0) = false := by simpa using hx6
        go_wp2_with fail
        go_roundw
        case rel => exact ⟨k + 1, q, g1, c1, ys, rfl, by go_num, by omega, by omega, Hlq.out, hg1, hRg1, hne, oy5, op5, hr5.more (by omega), G5⟩
        case measure => simp [intOf]; omega
    · obtain ⟨zs, B1, hR1⟩ := relNacksOf_some ys
      have HR1 := hide hR1
      have hly := relOf_len hR1
      have hs := fun h => specNacksOf (some ⟨g1, 0, none⟩) c1 ys zs B1 wr HR1.out h (by have := Hlq.out; omega)
      rw [Hlq.out] at hs
      have HS := hide (hs (own_ints oy))
      clear hR1 hs
      go_wp2_with fail
      refine HS.out.mono ?_
      rintro e w5 ⟨g5, c5, rfl, hg5, o5, hb⟩
      have op5 := op.below hb
      have hr5 := hrr.below hb
      have bl5 := hbl.trans (hb.mono sz)
      have s5 := bl5.size
      have l5 := o5.lt
      have lR := hrr.lt
      clear hb HS oy op hrr hbl
      cases B1
      · go_wp2_with fail
        refine (l92Nacks_any B R _ _ hr5 (by omega)).mono ?_
        rintro e w6 ⟨g6, c6, zs6, rfl, hl6, hg6, o6, hr6, hgr⟩
        have op6 := op5.grown hgr (by omega)
        have b6 : Below w.heap.size w w6 := bl5.grown hgr s5 (by intro k hk; simp at hk; omega)
        clear hgr o5
        go_wp2_with fail
        go_ret2
        exact drewFind_mk rfl Hm.out hl6 hl o6 op6 b6
      · go_wp2_with fail
        refine (pick_any B R _ _ _ hr5 (by omega) (by omega) (by omega)).mono ?_
        rintro e w6 ⟨x6, rfl, hv0, hv1, hs6, hr6, hg6⟩
        have o6 := o5.grown hg6 (by omega)
        have op6 := op5.grown hg6 (by omega)
        have b6 : Below w.heap.size w w6 := bl5.grown hg6 s5 (by intro k hk; simp at hk; omega)
        have s6 := b6.size
        clear hg6 hs6 hr5 o5 op5 bl5
        by_cases hx6 : x6 = 0
        · subst hx6
          go_wp2_with fail
          refine (l92Nacks_any B R _ _ hr6 (by omega)).mono ?_
          rintro e w7 ⟨g7, c7, zs7, rfl, hl7, hg7, o7, hr7, hgr⟩
          have op7 := op6.grown hgr (by omega)
          have b7 : Below w.heap.size w w7 := b6.grown hgr s6 (by intro k hk; simp at hk; omega)
          clear hgr o6
          go_wp2_with fail
          go_ret2
          exact drewFind_mk rfl Hm.out hl7 hl o7 op7 b7
        · have hx' : (x6 == 0) = false := by simpa using hx6
          go_wp2_with fail
          go_ret2
          exact drewFind_mk rfl Hm.out hly hl o6 op6 b6
set_option maxHeartbeats 2000000 in
theorem samePackets_same (A B : Option Addr) (c1 c2 : Nat) (zs : List VPacket) (w : World) (hA : PacketAt w A zs) (hB : PacketAt w B zs) (hm : zs.length ≤ 1048576) :
    Calls Try.prog 16 #[.slice A zs.length c1, .slice B zs.length c2] w (RetQ (.bool true) w) := by
  have HA := hide hA
  have HB := hide hB
  clear hA hB
  obtain ⟨n, hn⟩ : ∃ n, zs.length = n := ⟨_, rfl⟩
  rw [hn] at hm ⊢
  have Hn := hide hn
  clear hn
  go_enter Try.func16, Try.ntmps16
  go_wp2_with fail
  go_loopw [5] (fun i wr => ∃ k m : Nat, k ≤ n ∧ i = .int .i64 k ∧ wr = w.drewN m) (fun i _ => n - (intOf i).toNat)
  case atStart => exact ⟨0, 0, by omega, rfl, rfl⟩
  case round =>
    obtain ⟨k, m, hk, rfl, rfl⟩ := hrel
    by_cases hk' : k < n
    · obtain ⟨b, off, rfl, hlt, hc⟩ := PacketAt.at HA.out (by have := Hn.out; omega)
      obtain ⟨b2, off2, rfl, hlt2, hc2⟩ := PacketAt.at HB.out (by have := Hn.out; omega)
      have hA := hc k (by have := Hn.out; omega)
      have hB := hc2 k (by have := Hn.out; omega)
      clear hc hc2
      obtain ⟨x, hx⟩ : ∃ x, zs.getD k default = x := ⟨_, rfl⟩
      rw [hx] at hA hB
      clear hx
      obtain ⟨s0, s1, s2, s3, s4, s5⟩ := hA
      obtain ⟨t0, t1, t2, t3, t4, t5⟩ := hB
      have g2 : (k : Int) < (n : Int) := by omega
      go_wp2_with fail
      go_quiet (fail)
      go_wp2_with fail
      go_roundw
      case rel => exact ⟨k + 1, m + nq, by omega, by go_num, by simp⟩
      case measure => simp [intOf]; omega
    · go_wp2_with fail
      go_ret
      exact ⟨rfl, m, rfl⟩
end Go.Proofs.Ytibedadmogadhaa
