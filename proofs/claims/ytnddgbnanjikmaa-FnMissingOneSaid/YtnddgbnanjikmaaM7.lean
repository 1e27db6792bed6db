/- What DrawMissingOf draws. -/
import Derived.Test.YtnddgbnanjikmaaM5
namespace Go.Proofs.Ytnddgbnanjikmaa
open Go.ChangeShapes Go.WideShapes Go.ChangeAt Go.RowKit Go.Deep

theorem rd_set {W : World} {B R Q g : Nat} (hr : Rd W B R Q) (hRg : R < g) (v : Value) (j : Nat) : Rd (W.setCell ⟨g, j, none⟩ v) B R Q := hr.setCell (by show R < g; exact hRg) _
set_option maxHeartbeats 4000000 in
theorem drawMissingOf (B : Nat) (A : Option Addr) (n c : Nat) (w : World) (hcode : Code w B A n) (hn : n ≤ c) (hm : c ≤ 9223372036854775807) (hB : B ≤ w.heap.size) :
    Calls Try.prog 7 #[.slice A n c] w fun e w' => ∃ g c zs, e = .returned (.slice (some ⟨g, 0, none⟩) (List.length zs) c) ∧ zs.length ≤ 10 ∧ w.heap.size ≤ g ∧ Own w' 29 6 g zs.length c (zs.map VPacket.cells).flatten ∧ Below w.heap.size w w' := by
  have Hcode := hide hcode
  clear hcode
  go_enter Try.func7, Try.ntmps7
  go_wp2_with fail
  refine (l6Open_any B A n c _ Hcode.out hn hm hB).mono ?_
  rintro e w1 ⟨R, rfl, hR, hr, hb1⟩
  have zb := hb1.size
  clear Hcode
  go_wp2_with fail
  refine (l91Packets_any B R 0 _ hr (by omega)).mono ?_
  rintro e w2 ⟨g, c, zs, rfl, hl, hg, oz, hr2, hg2⟩
  have lRg : R < g := by have := hr.lt; omega
  have lwg : w.heap.size ≤ g := by omega
  obtain ⟨m, hmm⟩ : ∃ m, zs.length = m := ⟨_, rfl⟩
  rw [hmm] at hl oz ⊢
  have Hm := hide hmm
  have G2 : Below w.heap.size w w2 := hb1.grown hg2 zb (by intro k hk; simp at hk; omega)
  have hr2' := hr2.more (show 0 + 200 ≤ 200 by omega)
  clear hr hg2 hb1 hmm hr2
  go_wp2_with fail
  go_loopw [5] (fun i wr => ∃ (k : Nat) (zs : List VPacket), i = .int .i64 k ∧ 1 ≤ k ∧ (k ≤ m ∨ k = 1) ∧ zs.length = m ∧ Own wr 29 6 g m c (zs.map VPacket.cells).flatten ∧ Rd wr B R (200 + k) ∧ Below w.heap.size w wr) (fun i _ => m + 1 - (intOf i).toNat)
  case atStart => exact ⟨1, zs, rfl, by omega, by omega, Hm.out, oz, hr2'.more (by omega), G2⟩
  case round =>
    clear Hm oz G2 hr2' zs
    obtain ⟨k, zs, rfl, hk1, hk, hl1, oz, hrr, hbl⟩ := hrel
    have lz := oz.lt
    have sz := hbl.size
    by_cases hkm : k < m
    · have g2 : (k : Int) < (m : Int) := by omega
      have Hl := hide hl1
      clear hl1
      go_wp2_with fail
      refine (pick_any B R _ _ _ hrr (by omega) (by omega) (by omega)).mono ?_
      rintro e w5 ⟨x6, rfl, hv0, hv1, hs5, hr5, hg5⟩
      have o5 := oz.grown hg5 (by omega)
      have G5 : Below w.heap.size w w5 := hbl.grown hg5 sz (by intro k hk; simp at hk; omega)
      clear hg5 hs5 hbl hrr oz
      by_cases hx6 : x6 = 0
      · subst hx6
        go_wp2_with fail
        obtain ⟨wo, hwo⟩ : ∃ wo : World, wo = w5 := ⟨_, rfl⟩
        subst hwo
        go_loopw [6] (fun i wr => ∃ (j : Nat) (zs : List VPacket), i = .int .i64 j ∧ k ≤ j ∧ j ≤ m ∧ zs.length = m ∧ Own wr 29 6 g m c (zs.map VPacket.cells).flatten ∧ Rd wr B R (200 + k + 1) ∧ Below w.heap.size w wr) (fun i _ => m - (intOf i).toNat)
        case atStart => exact ⟨k, zs, rfl, by omega, by omega, Hl.out, o5, hr5, G5⟩
        case round =>
          clear Hl o5 hr5 G5 zs
          obtain ⟨j, zs, rfl, hj, hjm, hl1, oz, hrr, hbl⟩ := hrel
          by_cases hjk : j < m
          · have g3 : (j : Int) < (m : Int) := by omega
            obtain ⟨a0, _, c0, _⟩ := own_cellP oz hl1 hjk
            have f0 := oz.frozen (j * 6)
            have Hl := hide hl1
            have Hoz := hide oz
            have Hbl := hide hbl
            clear oz hbl hl1
            go_wp2_with fail
            go_roundw
            case rel =>
              obtain ⟨zs2, h2, o2⟩ := own_fieldP (j := 0) (y := j) Hoz.out (.inl rfl) _ _ rfl
              exact ⟨j + 1, zs2, by go_num, by omega, by omega, by rw [h2]; exact Hl.out, o2, rd_set hrr lRg _ _, Hbl.out.setCell (by show _ ≤ g; exact lwg) _⟩
            case measure => simp [intOf]; omega
          · have Hl := hide hl1
            have Hoz := hide oz
            have Hbl := hide hbl
            clear oz hbl hl1
            go_wp2_with fail
            go_roundw
            case rel => exact ⟨k + 1, zs, by go_num, by omega, by omega, Hl.out, Hoz.out, hrr.more (by omega), Hbl.out⟩
            case measure => simp [intOf]; omega
      · have hx' : (x6 == 0) = false := by simpa using hx6
        go_wp2_with fail
        go_roundw
        case rel => exact ⟨k + 1, zs, by go_num, by omega, by omega, Hl.out, o5, hr5.more (by omega), G5⟩
        case measure => simp [intOf]; omega
    · by_cases hm0 : m = 0
      · have d1' : ¬ (0 : Int) < (m : Int) := by omega
        have d2' : ¬ 0 < m := by omega
        have g3 : ¬ (k : Int) < (m : Int) := by omega
        have Hl := hide hl1
        have Hoz := hide oz
        have Hbl := hide hbl
        have H0 := hide hm0
        clear oz hbl hl1 hm0
        go_wp2_with fail
        go_ret
        exact ⟨g, c, zs, by rw [Hl.out]; rfl, by rw [Hl.out]; omega, lwg, by rw [Hl.out]; exact Hoz.out, Hbl.out⟩
      · have d0 : (0 : Int) < (m : Int) := by omega
        have Hl := hide hl1
        clear hl1
        go_wp2_with fail
        refine (pick_any B R _ _ _ hrr (by omega) (by omega) (by omega)).mono ?_
        rintro e w5 ⟨x6, rfl, hv0, hv1, hs5, hr5, hg5⟩
        have o5 := oz.grown hg5 (by omega)
        have G5 : Below w.heap.size w w5 := hbl.grown hg5 sz (by intro k hk; simp at hk; omega)
        clear hg5 hs5 hbl hrr oz
        by_cases hx6 : x6 = 0
        · subst hx6
          obtain ⟨a0, _, c0, _⟩ := own_cellP o5 Hl.out (show m - 1 < m by omega)
          have f0 := o5.frozen ((m - 1) * 6)
          have q3 : (m : Int) - 1 < (m : Int) := by omega
          have q4 : 0 ≤ (m : Int) - 1 := by omega
          have q9 : (1 : Int) ≤ (m : Int) := by omega
          have q6 : ((m : Int) - 1).toNat = m - 1 := by omega
          have O5 := hide o5
          have H5 := hide G5
          clear o5 G5
          go_wp2_with fail
          go_ret
          obtain ⟨zs2, h2, o2⟩ := own_fieldP (j := 0) (y := m - 1) O5.out (.inl rfl) _ _ rfl
          exact ⟨g, c, zs2, by rw [h2, Hl.out]; rfl, by rw [h2, Hl.out]; omega, lwg, by rw [h2, Hl.out]; exact o2, H5.out.setCell (by show _ ≤ g; exact lwg) _⟩
        · have hx' : (x6 == 0) = false := by simpa using hx6
          go_wp2_with fail
          go_ret
          exact ⟨g, c, zs, by rw [Hl.out]; rfl, by rw [Hl.out]; omega, lwg, by rw [Hl.out]; exact o5, G5⟩
end Go.Proofs.Ytnddgbnanjikmaa
