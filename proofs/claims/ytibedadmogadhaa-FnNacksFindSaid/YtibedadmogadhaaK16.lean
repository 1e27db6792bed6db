/- Walk of FnNacksFind. -/
import Derived.Test.YtibedadmogadhaaK13
namespace Go.Proofs.Ytibedadmogadhaa
open Go.ChangeShapes Go.WideShapes Go.ChangeAt Go.RowKit Go.Deep

theorem find_good {ns : List VNack} {ps : List VPacket} (h : findB ns ps = true) {ys : List Int} {B : Bool} (hR : relNacksList ns ys B) : find ns ps = filt ys ps ps.length ∧ B = true := by
  have h' := h
  unfold findB at h
  rw [Bool.and_eq_true] at h
  rcases hR with ⟨_, h2, h3⟩ | ⟨h1, _, _⟩
  · exact ⟨by unfold find; rw [if_pos h', h2], h3⟩
  · rw [h1] at h; exact Bool.noConfusion h.1
theorem filt_mono (ys : List Int) (ps : List VPacket) {k : Nat} (h : k ≤ ps.length) : (filt ys ps k).length ≤ (filt ys ps ps.length).length := by
  unfold filt
  rw [List.take_length]
  exact List.Sublist.length_le ((List.take_sublist k ps).filter _)
/-- The next one that is found: it is the packet at hand, or another one. -/
theorem filt_next {ys : List Int} {ps : List VPacket} {k : Nat} (hk : k < ps.length) {x z : VPacket} (hx : ps.getD k default = x) (hz : (filt ys ps ps.length).getD (filt ys ps k).length default = z) (hl : (filt ys ps k).length < (filt ys ps ps.length).length) :
    if isIn ys x = true then z = x else ¬ x.a0 = z.a0 := by
  have e : filt ys ps ps.length = filt ys ps (k + 1) ++ (ps.drop (k + 1)).filter (isIn ys) := by
    unfold filt
    rw [List.take_length, ← List.filter_append, List.take_append_drop]
  have hs := filt_succ ys ps k hk
  rw [hx] at hs
  split
  · rename_i hi
    rw [if_pos hi] at hs
    rw [e, hs, List.append_assoc] at hz
    rw [← hz]
    simp [List.getD_eq_getElem?_getD]
  · rename_i hi
    intro he
    apply hi
    have hmem : z ∈ filt ys ps ps.length := by
      rw [← hz, List.getD_eq_getElem?_getD, List.getElem?_eq_getElem hl]
      exact List.getElem_mem hl
    unfold filt at hmem
    have := (List.mem_filter.1 hmem).2
    unfold isIn at this ⊢
    rw [he]
    exact this
set_option maxHeartbeats 4000000 in
theorem walk_fnNacksFind {H : Type} {enc : TypeId × Value → H} (W : World) (base : Nat) (v : Value) (d : DataW H) (p : List MemPlace) (o : Value.okWide Try.prog W .any base 22 v) (h : DataW.Trod enc Try.prog W 0 (fun _ => true) true 22 v d p) :
    Calls Try.prog 12 #[v] W (RetB true W) := by
  obtain ⟨A, n, c, rfl, hn, hm, hcode⟩ := open_code W base v d p o h
  clear o h
  by_cases hbig : 1048576 < (n : Int)
  · clear hcode
    go_enter Try.func12, Try.ntmps12
    go_wp2_with fail
    go_ret
    refine ⟨rfl, ?_⟩
    (repeat' (first | (with_reducible exact Below.refl _ _) | (with_reducible assumption) | (with_reducible refine Below.alloc ?_ ?_ _) | (with_reducible refine Below.setCell ?_ ?_ _) | (with_reducible refine Below.drew ?_) | (with_reducible refine below_drewN' ?_ _) | (with_reducible refine below_step (by assumption) ?_ ?_) | (with_reducible refine below_gstep (by assumption) ?_ ?_ ?_) | (with_reducible exact Below.size (by assumption)) | omega | (simp; done) | (simp; omega)))
  · have Hcode := hide hcode
    clear hcode
    go_enter Try.func12, Try.ntmps12
    go_wp2_with fail
    refine (drawNacksFind W.heap.size A n c _ Hcode.out hn hm (Nat.le_refl _)).mono ?_
    rintro e w1 ⟨g1, c1, ns, g2, c2, ps, rfl, hl1, hl2, o1, o2, bl⟩
    clear Hcode
    have lf := find_len ns ps
    go_wp2_with fail
    refine (implNacksFind _ _ _ _ ns ps _ (ownNack o1 rfl) (ownPacket o2 rfl) (by omega) (by omega)).mono ?_
    rintro e w2 ⟨g3, c3, rfl, hg3, o3, hb⟩
    have o1 := o1.below hb
    have o2 := o2.below hb
    have bl := bl.trans (hb.mono bl.size)
    clear hb
    go_wp2_with fail
    refine (specNacksFind _ _ _ _ ns ps _ (ownNack o1 rfl) (ownPacket o2 rfl) (by omega) (by omega)).mono ?_
    rintro e w3 ⟨g4, c4, rfl, hg4, o4, hb⟩
    have o1 := o1.below hb
    have o2 := o2.below hb
    have o3 := o3.below hb
    have bl := bl.trans (hb.mono bl.size)
    clear hb
    go_wp2_with fail
    refine (samePackets_b _ _ _ _ (find ns ps) _ (ownPacket o3 rfl) (ownPacket o4 rfl) (by omega)).mono ?_
    rintro e w4 ⟨rfl, hb⟩
    have o1 := o1.below hb
    have o2 := o2.below hb
    have o3 := o3.below hb
    have bl := bl.trans (hb.mono bl.size)
    clear hb o4
    obtain ⟨ys, B, hR⟩ := relNacksList_some ns
    have HR := hide hR
    have hly := relList_len hR
    clear hR
    go_wp2_with fail
    refine (implNacksList _ _ ns ys B _ HR.out (ownNack o1 rfl) (by omega)).mono ?_
    rintro e w5 ⟨g5, c5, rfl, hg5, o5, hb⟩
    have o2 := o2.below hb
    have o3 := o3.below hb
    have bl := bl.trans (hb.mono bl.size)
    clear hb o1
    go_wp2_with fail
    by_cases hf : findB ns ps = true
    · obtain ⟨efs, hys⟩ := find_good hf HR.out
      have EF := hide efs
      obtain ⟨N, hN⟩ : ∃ N, ps.length = N := ⟨_, rfl⟩
      obtain ⟨q, hq⟩ : ∃ q, ys.length = q := ⟨_, rfl⟩
      obtain ⟨fs, hfs⟩ : ∃ fs, find ns ps = fs := ⟨_, rfl⟩
      have HN := hide hN
      have HQ := hide hq
      rw [hfs] at o3 EF lf ⊢
      obtain ⟨M, hM⟩ : ∃ M, fs.length = M := ⟨_, rfl⟩
      have HM := hide hM
      rw [hN] at hl2 o2 lf EF ⊢
      rw [hM] at o3 lf ⊢
      rw [hq] at hly o5 ⊢
      have P2 := hide (ownPacket o2 hN)
      have P3 := hide (ownPacket o3 hM)
      have cW := hide (fun j hj => cellI o5 hq (k := j) hj)
      clear o2 o3 o5 hN hq hM efs hfs hys
      go_loopw [9, 10] (fun n_ i wr => ∃ k d : Nat, n_ = .int .i64 ((filt ys ps k).length : Nat) ∧ i = .int .i64 k ∧ k ≤ N ∧ wr = w5.drewN d) (fun _ i _ => N - (intOf i).toNat)
      case atStart => exact ⟨0, 0, by simp [filt], rfl, by omega, rfl⟩
      case round =>
        obtain ⟨k, d, rfl, rfl, hk, rfl⟩ := hrel
        obtain ⟨m, hm⟩ : ∃ m, (filt ys ps k).length = m := ⟨_, rfl⟩
        have Hm := hide hm
        rw [hm]
        by_cases hkN : k < N
        · have gk : (k : Int) < (N : Int) := by omega
          by_cases hmM : m < M
          · have gm : (m : Int) < (M : Int) := by omega
            obtain ⟨b, off, he, _, hc⟩ := PacketAt.at P2.out (by have := HN.out; omega)
            simp only [Option.some.injEq, Addr.mk.injEq, and_true] at he
            obtain ⟨rfl, rfl⟩ := he
            obtain ⟨b', off', he', _, hc'⟩ := PacketAt.at P3.out (by have := HM.out; omega)
            simp only [Option.some.injEq, Addr.mk.injEq, and_true] at he'
            obtain ⟨rfl, rfl⟩ := he'
            have hA := hc k (by have := HN.out; omega)
            have hB := hc' m (by have := HM.out; omega)
            obtain ⟨x, hx⟩ : ∃ x, ps.getD k default = x := ⟨_, rfl⟩
            obtain ⟨z, hz⟩ : ∃ x, fs.getD m default = x := ⟨_, rfl⟩
            rw [hx] at hA
            rw [hz] at hB
            simp only [Nat.zero_add] at hA hB
            have hst := filt_next (ys := ys) (k := k) (z := z) (by rw [HN.out]; exact hkN) hx (by rw [HN.out, ← EF.out, hm]; exact hz) (by rw [HN.out, ← EF.out, hm, HM.out]; exact hmM)
            have hs := filt_succ ys ps k (by rw [HN.out]; exact hkN)
            rw [hx] at hs
            have Hs := hide hs
            obtain ⟨s0, s1, s2, s3, s4, s5⟩ := hA
            obtain ⟨t0, t1, t2, t3, t4, t5⟩ := hB
            clear hc hc' hx hz hs hm
            by_cases hin : isIn ys x = true
            · rw [if_pos hin] at hst
              subst hst
              have HIn := hide hin
              clear hin
              go_wp2_with fail
              go_quiet (fail)
              go_wp2_with fail
              go_loopw [11, 12] (fun sm i wr => ∃ (j d : Nat) (b : Bool), sm = .bool b ∧ i = .int .i64 j ∧ j ≤ q ∧ (b = true ↔ ∃ i, i < j ∧ ys.getD i 0 = z.a0) ∧ wr = w5.drewN d) (fun _ i _ => q - (intOf i).toNat)
              case atStart => exact ⟨0, d + nq, false, rfl, rfl, by omega, ⟨fun h => Bool.noConfusion h, fun ⟨i, hi, _⟩ => by omega⟩, by first | rfl | simp⟩
              case round =>
                obtain ⟨j, d3, bb, rfl, rfl, hj, hbb, rfl⟩ := hrel
                have Hbb := hide hbb
                clear hbb
                by_cases hjq : j < q
                · have cw := cW.out j hjq
                  obtain ⟨y, hy⟩ : ∃ y, ys.getD j 0 = y := ⟨_, rfl⟩
                  rw [hy] at cw
                  have Hy := hide hy
                  have gj : (j : Int) < (q : Int) := by omega
                  clear hy
                  cases bb
                  · have hNo := hide (fun h => Bool.noConfusion (Hbb.out.2 h) : ¬ ∃ i, i < j ∧ ys.getD i 0 = z.a0)
                    go_wp2_with fail
                    go_quiet (fail)
                    go_wp2_with fail
                    go_roundw
                    case rel =>
                      refine ⟨j + 1, d3 + nq, y == z.a0, rfl, by go_num, by omega, ?_, by first | rfl | simp⟩
                      rw [beq_iff_eq]
                      constructor
                      · intro h; exact ⟨j, by omega, by rw [Hy.out]; exact h⟩
                      · rintro ⟨i, hi, he⟩
                        rcases Nat.lt_succ_iff_lt_or_eq.1 hi with hi | rfl
                        · exact absurd ⟨i, hi, he⟩ hNo.out
                        · rw [← Hy.out]; exact he
                    case measure => simp [intOf]; omega
                  · have hEx := hide (Hbb.out.1 rfl)
                    go_wp2_with fail
                    go_quiet (fail)
                    go_wp2_with fail
                    go_roundw
                    case rel =>
                      refine ⟨j + 1, d3 + nq, true, rfl, by go_num, by omega, ⟨fun _ => ?_, fun _ => rfl⟩, by first | rfl | simp⟩
                      obtain ⟨i, hi, he⟩ := hEx.out
                      exact ⟨i, by omega, he⟩
                    case measure => simp [intOf]; omega
                · have hjq' : j = q := by omega
                  have hbt : bb = true := by
                    rw [Hbb.out, hjq', ← HQ.out]
                    exact of_decide_eq_true HIn.out
                  subst hbt
                  clear hjq'
                  go_wp2_with fail
                  go_roundw
                  case rel =>
                    have hs := Hs.out
                    rw [if_pos HIn.out] at hs
                    refine ⟨k + 1, d3, ?_, by go_num, by omega, rfl⟩
                    rw [hs, List.length_append, Hm.out]
                    first | rfl | simp
                  case measure => simp [intOf]; omega
            · rw [if_neg hin] at hst
              have hne : (x.a0 == z.a0) = false := by simpa using hst
              have HIn := hide hin
              clear hin hst
              go_wp2_with fail
              go_quiet (fail)
              clear hne
              go_wp2_with fail
              go_roundw
              case rel =>
                have hs := Hs.out
                rw [if_neg HIn.out] at hs
                refine ⟨k + 1, d + nq, ?_, by go_num, by omega, by first | rfl | simp⟩
                rw [hs, Hm.out]
              case measure => simp [intOf]; omega
          · have hmM' : m = M := by
              have h1 := filt_mono ys ps (show k ≤ ps.length by rw [HN.out]; omega)
              rw [HN.out, ← EF.out, Hm.out, HM.out] at h1
              omega
            clear hm
            subst hmM'
            go_wp2_with fail
            go_ret
            exact ⟨by first | rfl | (simp; done), below_drewN' bl d⟩
        · have hkn : k = N := by omega
          have hmM' : m = M := by rw [← Hm.out, ← HM.out, EF.out, hkn]
          clear hm
          subst hkn hmM'
          go_wp2_with fail
          go_ret
          exact ⟨by first | rfl | (simp; done), below_drewN' bl d⟩
    · have efs : find ns ps = [] := by unfold find; rw [if_neg hf]
      rw [efs]
      obtain ⟨N, hN⟩ : ∃ N, ps.length = N := ⟨_, rfl⟩
      rw [hN]
      clear efs hf o2 o3 o5
      go_loopw [9, 10] (fun n_ i wr => n_ = .int .i64 0 ∧ i = .int .i64 0 ∧ wr = w5) (fun _ i _ => N - (intOf i).toNat)
      case atStart => exact ⟨rfl, rfl, rfl⟩
      case round =>
        obtain ⟨rfl, rfl, rfl⟩ := hrel
        by_cases h0 : 0 < N
        · have g0 : (0 : Int) < (N : Int) := by omega
          go_wp2_with fail
          go_ret
          exact ⟨by first | rfl | (simp; done), bl⟩
        · have g0 : ¬ (0 : Int) < (N : Int) := by omega
          go_wp2_with fail
          go_ret
          exact ⟨by first | rfl | (simp; done), bl⟩
end Go.Proofs.Ytibedadmogadhaa
