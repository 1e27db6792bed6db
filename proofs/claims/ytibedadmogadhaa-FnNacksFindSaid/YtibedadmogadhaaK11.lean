/- NacksFind of the reference: contract. -/
import Derived.Test.YtibedadmogadhaaK10
namespace Go.Proofs.Ytibedadmogadhaa
open Go.ChangeShapes Go.WideShapes Go.ChangeAt Go.RowKit Go.Deep

def inTo (ys : List Int) (x : VPacket) (j : Nat) : List VPacket := if decide (∃ i, i < j ∧ ys.getD i 0 = x.a0) = true then [x] else []
theorem inTo_zero (ys : List Int) (x : VPacket) : inTo ys x 0 = [] := by
  unfold inTo
  rw [if_neg]
  rw [decide_eq_true_iff]
  rintro ⟨i, hi, _⟩
  omega
theorem inTo_len (ys : List Int) (x : VPacket) (j : Nat) : (inTo ys x j).length ≤ 1 := by
  unfold inTo
  split <;> simp
theorem inTo_succ {ys : List Int} {x : VPacket} {q j : Nat} (h : okA ys q) (hj : j < q) : if ys.getD j 0 = x.a0 then inTo ys x j = [] ∧ inTo ys x (j + 1) = [x] else inTo ys x (j + 1) = inTo ys x j := by
  split
  · rename_i he
    constructor
    · unfold inTo
      rw [if_neg]
      rw [decide_eq_true_iff]
      rintro ⟨i, hi, hie⟩
      have := okA_lt h j i hi hj
      omega
    · unfold inTo
      rw [if_pos]
      exact decide_eq_true ⟨j, by omega, he⟩
  · rename_i he
    unfold inTo
    have : decide (∃ i, i < j + 1 ∧ ys.getD i 0 = x.a0) = decide (∃ i, i < j ∧ ys.getD i 0 = x.a0) := by
      rw [decide_eq_decide]
      constructor
      · rintro ⟨i, hi, hie⟩
        rcases Nat.lt_succ_iff_lt_or_eq.1 hi with hi | rfl
        · exact ⟨i, hi, hie⟩
        · exact absurd hie he
      · rintro ⟨i, hi, hie⟩
        exact ⟨i, by omega, hie⟩
    rw [this]
set_option maxHeartbeats 4000000 in
theorem specNacksFind (A1 A2 : Option Addr) (c1 c2 : Nat) (ns : List VNack) (ps : List VPacket) (w : World) (h1 : NackAt w A1 ns) (h2 : PacketAt w A2 ps) (hm1 : ns.length ≤ 1048576) (hm2 : ps.length ≤ 1048576) :
    Calls Try.prog 15 #[.slice A1 ns.length c1, .slice A2 ps.length c2] w (NewPks (find ns ps) w) := by
  obtain ⟨ys, B, hR⟩ := relNacksList_some ns
  have HR := hide hR
  have hly := relList_len hR
  have hLB : listB ns = B ∧ (B = true → ys = expands ns ∧ okA ys ys.length) := by
    rcases hR with ⟨a, b, rfl⟩ | ⟨a, _, rfl⟩
    · refine ⟨a, fun _ => ⟨b, ?_⟩⟩
      unfold listB at a
      rw [Bool.and_eq_true] at a
      rw [b]
      exact (of_decide_eq_true a.2).1
    · exact ⟨a, fun h => Bool.noConfusion h⟩
  have HLB := hide hLB
  have H1 := hide h1
  have H2 := hide h2
  have Ho := hide (Own.new w #[] 32 6 0 (by unfold maxLen; omega) rfl)
  have b0 : Below w.heap.size w (w.alloc (.cells #[] 32)) := (Below.refl _ _).alloc (Nat.le_refl _) _
  have HB0 := hide b0
  clear hR hLB h1 h2 b0
  go_enter Try.func15, Try.ntmps15
  go_wp2_with fail
  refine (specNacksList _ _ ns ys B _ HR.out (RecAt.below H1.out HB0.out) hm1).mono ?_
  rintro e w1 ⟨gw, cw, rfl, hgw, ow, hb⟩
  have of1 := Ho.out.below hb
  have bl : Below w.heap.size w w1 := HB0.out.trans (hb.mono (by simp))
  have lgw : w.heap.size < gw := by simp at hgw; omega
  clear hb hgw
  cases B
  · have e1 : find ns ps = [] := by unfold find findB; rw [HLB.out.1]; rfl
    have E1 := hide e1
    have Hof := hide of1
    clear of1 ow e1
    go_wp2_with fail
    go_ret
    exact newPks_mk (xs := []) E1.out.symm rfl (Nat.le_refl _) Hof.out bl
  · have K := specPacketsValid A2 c2 ps w1 (H2.out.below bl) hm2
    by_cases hv : pksB ps = true
    · rw [hv] at K
      have e1 : find ns ps = filt ys ps ps.length := by unfold find findB; rw [HLB.out.1, hv, (HLB.out.2 rfl).1]; rfl
      have E1 := hide e1
      have hp := (of_decide_eq_true hv)
      have hw0 := (HLB.out.2 rfl).2
      have HP := hide hp.1
      have HW := hide hw0
      have hn20 := hp.2
      have KK := hide K
      clear K e1 hv hp hw0
      go_wp2_with fail
      refine KK.out.mono ?_
      rintro e w2 ⟨rfl, hb⟩
      have of2 := hide (of1.below hb)
      have ow2 := hide (ow.below hb)
      have bl2 := hide (bl.trans (hb.mono bl.size))
      obtain ⟨n, hn⟩ : ∃ n, ps.length = n := ⟨_, rfl⟩
      obtain ⟨q, hq⟩ : ∃ q, ys.length = q := ⟨_, rfl⟩
      have Hn := hide hn
      have Hq := hide hq
      rw [hn] at hm2 HP hn20 ⊢
      rw [hq] at hly HW ow2 ⊢
      clear hb of1 ow bl hn hq KK
      go_wp2_with fail
      go_loopw [5, 8] (fun s i wr => ∃ (k m g cp : Nat), s = .slice (some ⟨g, 0, none⟩) m cp ∧ i = .int .i64 k ∧ k ≤ n ∧ w.heap.size ≤ g ∧ g ≠ gw ∧ m = (filt ys ps k).length ∧ Own wr 32 6 g m cp ((filt ys ps k).map VPacket.cells).flatten ∧ Own wr 3 1 gw q cw (ys.map (Value.int .i64)) ∧ Below w.heap.size w wr) (fun _ i _ => n - (intOf i).toNat)
      case atStart => exact ⟨0, 0, _, _, rfl, rfl, by omega, Nat.le_refl _, by omega, rfl, of2.out, ow2.out, bl2.out⟩
      case round =>
        obtain ⟨k, m, g, cp, rfl, rfl, hk, hg, hgne, hmm, oz, ow, hbl⟩ := hrel
        clear of2 ow2 bl2
        have sz := hbl.size
        have hfl := filt_len ys ps k
        have hm20 : m ≤ 20 := by omega
        have Hm := hide hmm
        clear hmm hfl
        by_cases hk' : k < n
        · obtain ⟨b, off, rfl, hlt, hc⟩ := PacketAt.at H2.out (by have := Hn.out; omega)
          have hc0 := hc k (by have := Hn.out; omega)
          obtain ⟨x, hx⟩ : ∃ x, ps.getD k default = x := ⟨_, rfl⟩
          rw [hx] at hc0
          have HC := hide hc0
          have hs := filt_succ ys ps k (by rw [Hn.out]; exact hk')
          rw [hx] at hs
          have Hs := hide hs
          have Hoz := hide oz
          have How := hide ow
          have Hbl := hide hbl
          have g2 : (k : Int) < (n : Int) := by omega
          clear hc hx hs oz ow hbl hc0
          go_wp2_with fail
          obtain ⟨wo, hwo⟩ : ∃ wo : World, wo = wr := ⟨_, rfl⟩
          subst hwo
          go_loopw [5, 9] (fun s i wr => ∃ (j m g cp : Nat), s = .slice (some ⟨g, 0, none⟩) m cp ∧ i = .int .i64 j ∧ j ≤ q ∧ w.heap.size ≤ g ∧ g ≠ gw ∧ m = (filt ys ps k ++ inTo ys x j).length ∧ Own wr 32 6 g m cp ((filt ys ps k ++ inTo ys x j).map VPacket.cells).flatten ∧ Own wr 3 1 gw q cw (ys.map (Value.int .i64)) ∧ Below w.heap.size w wr) (fun _ i _ => q - (intOf i).toNat)
          case atStart => exact ⟨0, m, g, cp, rfl, rfl, by omega, hg, hgne, by rw [inTo_zero, List.append_nil]; exact Hm.out, Hoz.out.conv (by rw [inTo_zero, List.append_nil]), How.out, Hbl.out⟩
          case round =>
            obtain ⟨j, m2, g', cp', rfl, rfl, hj, hg', hgne', hmm', oz', ow', hbl'⟩ := hrel
            have lz' := oz'.lt
            have lw' := ow'.lt
            have sz' := hbl'.size
            have hil := inTo_len ys x j
            have hm2 : m2 ≤ 21 := by have := Hm.out; rw [List.length_append] at hmm'; omega
            have Hm' := hide hmm'
            have Hbl' := hide hbl'
            have Hoz' := hide oz'
            have How' := hide ow'
            clear hmm' hbl' hil oz' ow'
            by_cases hjq : j < q
            · have cw0 := cellI How'.out Hq.out hjq
              obtain ⟨s0, s1, s2, s3, s4, s5⟩ := HC.out
              have lb : b < w.heap.size := hlt
              replace s0 := (Hbl'.out.cell (p := ⟨b, off + k * 6, none⟩) hlt).trans s0
              replace s1 := (Hbl'.out.cell (p := ⟨b, off + k * 6 + 1, none⟩) hlt).trans s1
              replace s2 := (Hbl'.out.cell (p := ⟨b, off + k * 6 + 2, none⟩) hlt).trans s2
              replace s3 := (Hbl'.out.cell (p := ⟨b, off + k * 6 + 3, none⟩) hlt).trans s3
              replace s4 := (Hbl'.out.cell (p := ⟨b, off + k * 6 + 4, none⟩) hlt).trans s4
              replace s5 := (Hbl'.out.cell (p := ⟨b, off + k * 6 + 5, none⟩) hlt).trans s5
              have hst := inTo_succ (x := x) HW.out hjq
              obtain ⟨y, hy⟩ : ∃ y, ys.getD j 0 = y := ⟨_, rfl⟩
              rw [hy] at cw0 hst
              have g3 : (j : Int) < (q : Int) := by omega
              clear hy
              by_cases hyx : y = x.a0
              · have e3 : (y == x.a0) = true := by simpa using hyx
                rw [if_pos hyx] at hst
                have Hst := hide hst
                have Hyx := hide hyx
                clear hst hyx
                go_wp2_with fail
                go_quiet (fail)
                clear e3
                go_wp2_with (first | (at_builtin; refine wpList_append_1 rfl _ _ _ rfl elemQ rfl (Hoz'.out.drewN _) #[.int .i64 x.a0, .int .i64 x.a1, .int .i64 x.a2, .int .i64 x.a3, .bool x.a4, .bool x.a5] rfl rfl rfl (by omega) ?_; intro g7 cp7 w7 oz7 hg7 hat7))
                have o7 := hide (own_snocQ (x := x) rfl oz7)
                have ow7 := hide ((How'.out.drewN _).grown hg7 (Ne.symm hgne'))
                have hat7' : g7 = g' ∨ wr.heap.size ≤ g7 := hat7
                have b7 := hide ((below_drewN' Hbl'.out _).grown hg7 sz' (by intro k hk; simp at hk; omega))
                clear hg7 hat7 oz7
                go_roundw
                case rel =>
                  obtain ⟨h1, h2⟩ := Hst.out
                  have hm := Hm'.out
                  rw [h1, List.append_nil] at hm
                  refine ⟨j + 1, m2 + 1, g7, cp7, rfl, by go_num, by omega, by omega, by omega, ?_, o7.out.conv (by rw [h1, h2, List.append_nil]), ow7.out, b7.out⟩
                  rw [h2, List.length_append, ← hm]; rfl
                case measure => simp [intOf]; omega
              · have e3 : (y == x.a0) = false := by simpa using hyx
                rw [if_neg hyx] at hst
                have Hst := hide hst
                clear hst hyx
                go_wp2_with fail
                go_quiet (fail)
                clear e3
                go_wp2_with fail
                go_roundw
                case rel => exact ⟨j + 1, m2, g', cp', rfl, by go_num, by omega, hg', hgne', by rw [Hst.out]; exact Hm'.out, (Hoz'.out.drewN _).conv (by rw [Hst.out]), How'.out.drewN _, below_drewN' Hbl'.out _⟩
                case measure => simp [intOf]; omega
            · have e : filt ys ps k ++ inTo ys x j = filt ys ps (k + 1) := by
                rw [Hs.out, show j = ys.length by have := Hq.out; omega]
                show filt ys ps k ++ (if isIn ys x = true then [x] else []) = _
                by_cases hi : isIn ys x = true
                · rw [if_pos hi, if_pos hi]
                · rw [if_neg hi, if_neg hi, List.append_nil]
              have HE := hide e
              clear e
              go_wp2_with fail
              go_roundw
              case rel => exact ⟨k + 1, m2, g', cp', rfl, by go_num, by omega, hg', hgne', by rw [← HE.out]; exact Hm'.out, Hoz'.out.conv (by rw [HE.out]), How'.out, Hbl'.out⟩
              case measure => simp [intOf]; omega
        · have hkn : k = n := by omega
          subst hkn
          have Hoz := hide oz
          have Hbl := hide hbl
          clear oz hbl ow
          go_wp2_with fail
          go_ret
          exact newPks_mk (by rw [E1.out, Hn.out]) Hm.out hg Hoz.out Hbl.out
    · have hv' : pksB ps = false := by simpa using hv
      rw [hv'] at K
      have e1 : find ns ps = [] := by unfold find findB; rw [HLB.out.1, hv']; rfl
      have E1 := hide e1
      have KK := hide K
      clear K e1 hv hv' ow
      go_wp2_with fail
      refine KK.out.mono ?_
      rintro e w2 ⟨rfl, hb⟩
      have of2 := hide (of1.below hb)
      have bl2 := hide (bl.trans (hb.mono bl.size))
      clear hb of1 bl
      go_wp2_with fail
      go_ret
      exact newPks_mk (xs := []) E1.out.symm rfl (Nat.le_refl _) of2.out bl2.out
end Go.Proofs.Ytibedadmogadhaa
