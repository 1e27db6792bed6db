/- ParityFix of the reference: contract. -/
import Derived.Test.YtppomcgkmjnpmaaP11
namespace Go.Proofs.Ytppomcgkmjnpmaa
open Go.ChangeShapes Go.WideShapes Go.ChangeAt Go.RowKit Go.Deep

set_option maxHeartbeats 4000000 in
theorem specParityFix (A A2 : Option Addr) (c c2 : Nat) (ls : List (List Int)) (p ys : List Int) (B : Bool) (w : World) (hR : relFix ls p ys B) (h : BodAt w A ls) (h2 : IntsAt w A2 p) (hm : ls.length ≤ 1048576) (hm2 : p.length ≤ 1048576) :
    Calls Try.prog 29 #[.slice A ls.length c, .slice A2 p.length c2] w (NewIntsB ys B w) := by
  have HH := hide h
  have HR := hide hR
  have H2 := hide h2
  have KV := l16Bodies_any A c ls w h (by omega)
  have KB := fun w h => l16Bytes_any A2 c2 p w h (by omega)
  have KP := fun w h hb hm => l16Parity_any A c ls w h hb hm
  obtain ⟨n, hn⟩ : ∃ n, ls.length = n := ⟨_, rfl⟩
  obtain ⟨m, hmm⟩ : ∃ n, p.length = n := ⟨_, rfl⟩
  rw [hn] at hm KV KP ⊢
  rw [hmm] at hm2 KB ⊢
  have Hn := hide hn
  have Hm := hide hmm
  have HKP := hide KP
  have HKB := hide KB
  clear h h2 hR hn hmm KP KB
  by_cases hv : (ls.all bodyB && decide (n ≤ 8)) = true
  · rw [hv] at KV
    have HV := hide KV
    rw [Bool.and_eq_true] at hv
    have h8 := of_decide_eq_true hv.2
    have H3 := hide hv.1
    clear KV hv
    by_cases h0 : n = 8
    · obtain ⟨rfl, rfl⟩ := relFix_no HR.out (fixG_no1 Hn.out (by omega))
      have e0 : ((n : Int) == 8) = true := by simp [h0]
      clear HR h0
      go_enter Try.func29, Try.ntmps29
      go_wp2_with (go_at_call 35; refine HV.out.mono ?_; rintro e w1 ⟨rfl, d, rfl⟩)
      go_ret2
      exact newIntsB_nil2 (w' := w.drewN d) (below_drewN' (Below.refl _ _) d)
    have e0 : ((n : Int) == 8) = false := by simp only [beq_eq_false_iff_ne, ne_eq]; omega
    by_cases h6 : decide (bytesOk p) = true
    · have H6 := hide h6
      by_cases h5 : 1 ≤ m ∧ m ≤ 13
      · have d5 : decide ((1 : Int) ≤ (m : Int) ∧ (m : Int) ≤ 13) = true := decide_eq_true (by omega)
        have hG := fixG_eq Hn.out Hm.out (by omega) h5 H3.out h6
        obtain ⟨hs, hx1, hx13, _⟩ := fixX_facts (ls := ls) (p := p) (by rw [Hm.out]; exact h5) H3.out h6
        have HG := hide hG
        have Hs := hide hs
        obtain ⟨x, hx⟩ : ∃ x, fixX ls p = x := ⟨_, rfl⟩
        rw [hx] at Hs hx1 hx13 HG
        have Hx := hide hx
        obtain ⟨q, hq⟩ : ∃ q, x.length = q := ⟨_, rfl⟩
        rw [hq] at hx1 hx13
        have Hq := hide hq
        have H5 := hide h5
        have hpf := par_facts (ls := ls) sm_zero (by simp) H3.out n
        rw [show ls.take n = ls from by rw [← Hn.out, List.take_length]] at hpf
        have Hpf := hide hpf
        clear h6 hG hs hx hq h5 hpf
        go_enter Try.func29, Try.ntmps29
        go_wp2_with (first | (go_at_call 35; refine HV.out.mono ?_; rintro e w1 ⟨rfl, d, rfl⟩) | (go_at_call 40; refine (HKB.out _ (H2.out.drewN d)).mono ?_; rintro e w1 ⟨rfl, rfl⟩; rw [H6.out]) | (go_at_call 41; refine (l6In_any _ _ _ _).mono ?_; rintro e w' ⟨rfl, rfl⟩))
        refine (HKP.out _ (HH.out.drewN d) H3.out (by omega)).mono ?_
        rintro e w2 ⟨g2, c3, rfl, hg2, o2, b2⟩
        have hI2 := (H2.out.drewN d).below b2
        have KX := l16Xor_any A2 (some ⟨g2, 0, none⟩) c2 c3 p (par [0] ls) w2 hI2 (own_ints o2) (sm_bytes (of_decide_eq_true H6.out)) Hpf.out.1 (by rw [Hm.out]; omega) (by have := Hpf.out.2; omega)
        rw [Hm.out] at KX
        have HX := hide KX
        have B2 := hide ((below_drewN' (Below.refl w.heap.size w) d).trans (b2.mono (Nat.le_refl _)))
        clear KX hI2 o2 b2
        go_wp2_with fail
        refine HX.out.mono ?_
        rintro e w3 ⟨g, cp, rfl, hg, o3, b3⟩
        rw [show xorL p (par [0] ls) = x from Hx.out] at o3 ⊢
        rw [Hq.out] at o3 ⊢
        have hcp := o3.room.1
        obtain ⟨r, hqr⟩ : ∃ r, q = r + 1 := ⟨q - 1, by omega⟩
        subst hqr
        obtain ⟨cq, hcq⟩ : ∃ r, cp = r + 1 := ⟨cp - 1, by omega⟩
        subst hcq
        have z0 := cellX o3 Hq.out (show 0 < r + 1 by omega)
        obtain ⟨x0, hx0⟩ : ∃ y, x.getD 0 0 = y := ⟨_, rfl⟩
        have hs0 := Hs.out 0
        rw [hx0] at z0 hs0
        obtain ⟨s, rfl⟩ := Int.eq_ofNat_of_zero_le hs0.1
        have Hx0 := hide hx0
        have O3 := hide o3
        have BB := hide (B2.out.trans (b3.mono B2.out.size))
        have f1 : (0 : Int) < ((r + 1 : Nat) : Int) := by omega
        have f4 : (0 : Int) < (r : Int) + 1 := by omega
        have w1 : IntKind.i64.wrap ((r : Int) + 1 - 1) = (r : Int) := by rw [IntWalk.i64_in _ (by omega)]; omega
        have w2' : IntKind.i64.wrap (((r + 1 : Nat) : Int) - 1) = (r : Int) := by rw [IntWalk.i64_in _ (by omega)]; omega
        have w3' : IntKind.i64.wrap ((s : Int) + 1) = (s : Int) + 1 := IntWalk.i64_in _ (by omega)
        clear o3 b3 hx0 hs0 HX B2
        by_cases hsr : r < s
        · obtain ⟨rfl, rfl⟩ := relFix_no HR.out (by rw [HG.out]; exact fixOk_no1 Hq.out Hx0.out hsr)
          have f7 : (r : Int) < (s : Int) := by omega
          clear HR
          go_wp2_with fail
          go_ret2
          exact newIntsB_nil2 BB.out
        · have f7 : ¬ (r : Int) < (s : Int) := by omega
          obtain ⟨t, rfl⟩ : ∃ t, r = s + t := ⟨r - s, by omega⟩
          have f8 : ¬ (s : Int) + (t : Int) < (s : Int) := by omega
          have f11 : (s : Int) + 1 ≤ (cq : Int) + 1 := by omega
          have f12 : (s : Int) + 1 ≤ ((cq + 1 : Nat) : Int) := by omega
          have f13 : (1 : Int) ≤ (s : Int) + 1 := by omega
          have f14 : (s : Int) ≤ (cq : Int) := by omega
          have Hz := hide (Own.new w3 #[] 3 1 0 (by unfold maxLen; omega) rfl)
          go_wp2_with fail
          go_loopw [8] (fun i wr => ∃ k : Nat, k ≤ t ∧ i = .int .i64 ((s + 1 + k : Nat) : Int) ∧ (∀ i, i < k → x.getD (1 + s + i) 0 = 0) ∧ wr = w3) (fun i _ => s + t + 1 - (intOf i).toNat)
          case atStart => exact ⟨0, by omega, by first | rfl | (simp; done) | (congr 1), (fun i hi => by omega), rfl⟩
          case round =>
            obtain ⟨k, hk, rfl, hz, rfl⟩ := hrel
            have Hzz := hide hz
            clear hz
            obtain ⟨a, ha⟩ : ∃ a, s + 1 + k = a := ⟨_, rfl⟩
            rw [ha]
            have Ha := hide ha
            by_cases hk' : k < t
            · have z1 := cellX O3.out Hq.out (show a < s + t + 1 by omega)
              have g7 : (a : Int) < ((s + t + 1 : Nat) : Int) := by omega
              have g8 : (a : Int) < (s : Int) + (t : Int) + 1 := by omega
              obtain ⟨y, hy⟩ : ∃ y, x.getD a 0 = y := ⟨_, rfl⟩
              rw [hy] at z1
              have Hy := hide (show x.getD (1 + s + k) 0 = y by rw [show 1 + s + k = a by omega]; exact hy)
              clear hy ha
              by_cases hy0 : y = 0
              · subst hy0
                go_wp2_with fail
                go_roundw
                case rel =>
                  have := Ha.out
                  refine ⟨k + 1, by omega, by first | go_num | (congr 1; omega), ?_, by first | rfl | trivial⟩
                  intro i hi
                  rcases Nat.lt_succ_iff_lt_or_eq.1 hi with hi | rfl
                  · exact Hzz.out i hi
                  · exact Hy.out
                case measure => have := Ha.out; simp [intOf]; omega
              · obtain ⟨rfl, rfl⟩ := relFix_no HR.out (by rw [HG.out]; exact fixOk_no2 Hq.out Hx0.out (k := k) (by omega) Hy.out hy0)
                have e1 : (y != 0) = true := by simpa using hy0
                have e2 : (y == 0) = false := by simpa using hy0
                clear HR hy0
                go_wp2_with fail
                go_ret2
                exact newIntsB_nil2 BB.out
            · have hkt : k = t := by omega
              subst hkt
              have g7 : ¬ (a : Int) < ((s + k + 1 : Nat) : Int) := by omega
              have g8 : ¬ (a : Int) < (s : Int) + (k : Int) + 1 := by omega
              obtain ⟨rfl, rfl⟩ := relFix_yes HR.out (by rw [HG.out]; exact fixOk_yes Hq.out Hx0.out (by omega) (fun i hi => Hzz.out i (by omega)))
              have Hln := hide (fixB_eq Hq.out Hx0.out (show s ≤ s + k by omega))
              clear HR ha Ha
              by_cases hc1 : cq = 0
              · obtain rfl : s = 0 := by omega
                subst hc1
                go_wp2_with (first | (at_builtin; refine wpList_append_ints rfl _ _ _ rfl elemI (xs := []) (zs := fixB x) (A := some ⟨g, 0, none⟩) (c := 0) rfl Hz.out (by rw [Hln.out.2]; rfl) (.inl (List.eq_nil_of_length_eq_zero Hln.out.2)) (fun h => by cases h) (by rw [Hln.out.2]; omega) ?_; intro g8 cp8 w8 o8 hg8 hat8; have B8 := hide (fst_below hg8); have S8 := hide (fst_at hat8); have O8 := hide o8; clear o8 hg8 hat8))
                go_ret2
                exact newIntsB_mk (xs := fixB x) (by rw [Hx.out]) rfl (by have := S8.out; have := BB.out.size; omega) ((O8.out.convn (Nat.zero_add _)).conv (by rw [List.nil_append])) (BB.out.trans (B8.out.mono BB.out.size))
              · go_wp2_with (first | (at_builtin; refine wpList_append_ints rfl _ _ _ rfl elemI (xs := []) (zs := fixB x) (A := some ⟨g, 1, none⟩) (c := cq) rfl Hz.out (by rw [Hln.out.2]; rfl) (IntsAt.below (by rw [← Hln.out.1]; exact ((own_ints O3.out).drop 1).take s) ((Below.refl _ _).alloc (Nat.le_refl _) _)) (fun h => by cases h) (by rw [Hln.out.2]; omega) ?_; intro g8 cp8 w8 o8 hg8 hat8; have B8 := hide (fst_below hg8); have S8 := hide (fst_at hat8); have O8 := hide o8; clear o8 hg8 hat8))
                go_ret2
                exact newIntsB_mk (xs := fixB x) (by rw [Hx.out]) rfl (by have := S8.out; have := BB.out.size; omega) ((O8.out.convn (Nat.zero_add _)).conv (by rw [List.nil_append])) (BB.out.trans (B8.out.mono BB.out.size))
      · obtain ⟨rfl, rfl⟩ := relFix_no HR.out (fixG_no3 Hm.out h5)
        have d5 : decide ((1 : Int) ≤ (m : Int) ∧ (m : Int) ≤ 13) = false := decide_eq_false (by omega)
        clear HR h5 h6
        go_enter Try.func29, Try.ntmps29
        go_wp2_with (first | (go_at_call 35; refine HV.out.mono ?_; rintro e w1 ⟨rfl, d, rfl⟩) | (go_at_call 40; refine (HKB.out _ (H2.out.drewN d)).mono ?_; rintro e w1 ⟨rfl, rfl⟩; rw [H6.out]) | (go_at_call 41; refine (l6In_any _ _ _ _).mono ?_; rintro e w' ⟨rfl, rfl⟩))
        go_ret2
        exact newIntsB_nil2 (w' := w.drewN d) (below_drewN' (Below.refl _ _) d)
    · have H6 := hide (show decide (bytesOk p) = false by simpa using h6)
      obtain ⟨rfl, rfl⟩ := relFix_no HR.out (fixG_no4 H6.out)
      clear HR h6
      go_enter Try.func29, Try.ntmps29
      go_wp2_with (first | (go_at_call 35; refine HV.out.mono ?_; rintro e w1 ⟨rfl, d, rfl⟩) | (go_at_call 40; refine (HKB.out _ (H2.out.drewN d)).mono ?_; rintro e w1 ⟨rfl, rfl⟩; rw [H6.out]) | (go_at_call 41; refine (l6In_any _ _ _ _).mono ?_; rintro e w' ⟨rfl, rfl⟩))
      go_ret2
      exact newIntsB_nil2 (w' := w.drewN d) (below_drewN' (Below.refl _ _) d)
  · have hv' : (ls.all bodyB && decide (n ≤ 8)) = false := by simpa only [Bool.not_eq_true] using hv
    rw [hv'] at KV
    have HV := hide KV
    have hno : fixG ls p = false := by
      by_cases h3 : ls.all bodyB = true
      · refine fixG_no1 Hn.out ?_
        rw [h3, Bool.true_and] at hv'
        have := of_decide_eq_false hv'
        omega
      · exact fixG_no2 (by simpa only [Bool.not_eq_true] using h3)
    obtain ⟨rfl, rfl⟩ := relFix_no HR.out hno
    clear KV hv hv' HR hno
    go_enter Try.func29, Try.ntmps29
    go_wp2_with (go_at_call 35; refine HV.out.mono ?_; rintro e w1 ⟨rfl, d, rfl⟩)
    go_ret2
    exact newIntsB_nil2 (w' := w.drewN d) (below_drewN' (Below.refl _ _) d)
end Go.Proofs.Ytppomcgkmjnpmaa
