/- Walk of FnLayeredChange. -/
import Derived.Test.YticelpaicenbkaaL11
namespace Go.Proofs.Yticelpaicenbkaa
open Go.ChangeShapes Go.WideShapes Go.ChangeAt Go.RowKit Go.Deep

set_option maxRecDepth 100000 in
set_option maxHeartbeats 4000000 in
theorem walk_fnLayeredChange {H : Type} {enc : TypeId × Value → H} (W : World) (base : Nat) (v : Value) (d : DataW H) (p : List MemPlace) (o : Value.okWide Try.prog W .any base 28 v) (h : DataW.Trod enc Try.prog W 0 (fun _ => true) true 28 v d p) :
    Calls Try.prog 11 #[v] W (RetB true W) := by
  obtain ⟨A, n, c, rfl, hn, hm, hcode⟩ := open_code W base v d p o h
  clear o h
  by_cases hbig : 1048576 < (n : Int)
  · clear hcode
    go_enter Try.func11, Try.ntmps11
    go_wp2_with fail
    go_ret
    refine ⟨rfl, ?_⟩
    (repeat' (first | (with_reducible exact Below.refl _ _) | (with_reducible assumption) | (with_reducible refine Below.alloc ?_ ?_ _) | (with_reducible refine Below.setCell ?_ ?_ _) | (with_reducible refine Below.drew ?_) | (with_reducible refine below_drewN' ?_ _) | (with_reducible refine below_step (by assumption) ?_ ?_) | (with_reducible refine below_gstep (by assumption) ?_ ?_ ?_) | (with_reducible exact Below.size (by assumption)) | omega | (simp; done) | (simp; omega)))
  · have Hcode := hide hcode
    clear hcode
    go_enter Try.func11, Try.ntmps11
    go_wp2_with fail
    refine (drawLayeredRun W.heap.size A n c _ Hcode.out hn hm (Nat.le_refl _)).mono ?_
    rintro e w1 ⟨a, b, gz, cz, zs, rfl, hl1, z, bl⟩
    clear Hcode
    obtain ⟨N, M, y, B, hR⟩ := relRun_some a b zs
    have HR := hide hR
    have hly := relRun_len hR
    clear hR
    go_wp2_with fail
    have nzs : gz ≠ w1.heap.size := by have := z.lt; omega
    have z := z.alloc (.cells #[.int .i64 a, .int .i64 b] 25)
    have s : Row (w1.alloc (.cells #[.int .i64 a, .int .i64 b] 25)) w1.heap.size #[.int .i64 a, .int .i64 b] := Row.new _ _ _
    have bl := bl.alloc bl.size (.cells #[.int .i64 a, .int .i64 b] 25)
    refine (implLayeredRun _ _ _ _ zs N M y B _ HR.out (ownPacket z rfl) (by omega)).mono ?_
    rintro e w2 ⟨gu, cu, rfl, hgu, u, hb⟩
    have nzu : gz ≠ gu := by have := z.lt; omega
    have nsu : w1.heap.size ≠ gu := by have := s.2.2; omega
    have z := z.below hb
    have s := s.below hb
    have bl := bl.trans (hb.mono bl.size)
    clear hb
    have nzbu : gz ≠ w2.heap.size := by have := z.lt; omega
    have nsbu : w1.heap.size ≠ w2.heap.size := by have := s.2.2; omega
    have nubu : gu ≠ w2.heap.size := by have := u.lt; omega
    have z := z.alloc (.cells #[.int .i64 N, .int .i64 M] 25)
    have s := s.alloc (.cells #[.int .i64 N, .int .i64 M] 25)
    have u := u.alloc (.cells #[.int .i64 N, .int .i64 M] 25)
    have bu : Row (w2.alloc (.cells #[.int .i64 N, .int .i64 M] 25)) w2.heap.size #[.int .i64 N, .int .i64 M] := Row.new _ _ _
    have bl := bl.alloc bl.size (.cells #[.int .i64 N, .int .i64 M] 25)
    have cs := s.1
    have fs := s.2.1
    have cbu := bu.1
    have fbu := bu.2.1
    go_wp2_with fail
    clear cs fs cbu fbu
    refine (specLayeredRun _ _ _ _ zs N M y B _ HR.out (ownPacket z rfl) (by omega)).mono ?_
    rintro e w3 ⟨gr, cr, rfl, hgr, r, hb⟩
    have nzr : gz ≠ gr := by have := z.lt; omega
    have nsr : w1.heap.size ≠ gr := by have := s.2.2; omega
    have nur : gu ≠ gr := by have := u.lt; omega
    have nbur : w2.heap.size ≠ gr := by have := bu.2.2; omega
    have z := z.below hb
    have s := s.below hb
    have u := u.below hb
    have bu := bu.below hb
    have bl := bl.trans (hb.mono bl.size)
    clear hb
    cases B
    · have nzbr : gz ≠ w3.heap.size := by have := z.lt; omega
      have nsbr : w1.heap.size ≠ w3.heap.size := by have := s.2.2; omega
      have nubr : gu ≠ w3.heap.size := by have := u.lt; omega
      have nbubr : w2.heap.size ≠ w3.heap.size := by have := bu.2.2; omega
      have nrbr : gr ≠ w3.heap.size := by have := r.lt; omega
      have z := z.alloc (.cells #[.int .i64 N, .int .i64 M] 25)
      have s := s.alloc (.cells #[.int .i64 N, .int .i64 M] 25)
      have u := u.alloc (.cells #[.int .i64 N, .int .i64 M] 25)
      have bu := bu.alloc (.cells #[.int .i64 N, .int .i64 M] 25)
      have r := r.alloc (.cells #[.int .i64 N, .int .i64 M] 25)
      have br : Row (w3.alloc (.cells #[.int .i64 N, .int .i64 M] 25)) w3.heap.size #[.int .i64 N, .int .i64 M] := Row.new _ _ _
      have bl := bl.alloc bl.size (.cells #[.int .i64 N, .int .i64 M] 25)
      have cs := s.1
      have fs := s.2.1
      have cbu := bu.1
      have fbu := bu.2.1
      have cbr := br.1
      have fbr := br.2.1
      go_wp2_with fail
      clear cs fs cbu fbu cbr fbr
      refine (samePackets_b _ _ _ _ y _ (ownPacket u rfl) (ownPacket r rfl) (by omega)).mono ?_
      rintro e w4 ⟨rfl, hb⟩
      have z := z.below hb
      have s := s.below hb
      have u := u.below hb
      have bu := bu.below hb
      have r := r.below hb
      have br := br.below hb
      have bl := bl.trans (hb.mono bl.size)
      clear hb
      have cs := s.1
      have fs := s.2.1
      have cbu := bu.1
      have fbu := bu.2.1
      have cbr := br.1
      have fbr := br.2.1
      go_wp2_with fail
      clear cs fs cbu fbu cbr fbr
      refine (samePackets_b _ _ _ _ y _ (ownPacket u rfl) (ownPacket r rfl) (by omega)).mono ?_
      rintro e w5 ⟨rfl, hb⟩
      have z := z.below hb
      have s := s.below hb
      have u := u.below hb
      have bu := bu.below hb
      have r := r.below hb
      have br := br.below hb
      have bl := bl.trans (hb.mono bl.size)
      clear hb
      have cs := s.1
      have fs := s.2.1
      have cbu := bu.1
      have fbu := bu.2.1
      have cbr := br.1
      have fbr := br.2.1
      go_wp2_with fail
      clear cs fs cbu fbu cbr fbr
      go_ret
      exact ⟨rfl, bl⟩
    · have nzbr : gz ≠ w3.heap.size := by have := z.lt; omega
      have nsbr : w1.heap.size ≠ w3.heap.size := by have := s.2.2; omega
      have nubr : gu ≠ w3.heap.size := by have := u.lt; omega
      have nbubr : w2.heap.size ≠ w3.heap.size := by have := bu.2.2; omega
      have nrbr : gr ≠ w3.heap.size := by have := r.lt; omega
      have z := z.alloc (.cells #[.int .i64 N, .int .i64 M] 25)
      have s := s.alloc (.cells #[.int .i64 N, .int .i64 M] 25)
      have u := u.alloc (.cells #[.int .i64 N, .int .i64 M] 25)
      have bu := bu.alloc (.cells #[.int .i64 N, .int .i64 M] 25)
      have r := r.alloc (.cells #[.int .i64 N, .int .i64 M] 25)
      have br : Row (w3.alloc (.cells #[.int .i64 N, .int .i64 M] 25)) w3.heap.size #[.int .i64 N, .int .i64 M] := Row.new _ _ _
      have bl := bl.alloc bl.size (.cells #[.int .i64 N, .int .i64 M] 25)
      have cs := s.1
      have fs := s.2.1
      have cbu := bu.1
      have fbu := bu.2.1
      have cbr := br.1
      have fbr := br.2.1
      go_wp2_with fail
      clear cs fs cbu fbu cbr fbr
      refine (samePackets_b _ _ _ _ y _ (ownPacket u rfl) (ownPacket r rfl) (by omega)).mono ?_
      rintro e w4 ⟨rfl, hb⟩
      have z := z.below hb
      have s := s.below hb
      have u := u.below hb
      have bu := bu.below hb
      have r := r.below hb
      have br := br.below hb
      have bl := bl.trans (hb.mono bl.size)
      clear hb
      have cs := s.1
      have fs := s.2.1
      have cbu := bu.1
      have fbu := bu.2.1
      have cbr := br.1
      have fbr := br.2.1
      go_wp2_with fail
      clear cs fs cbu fbu cbr fbr
      rcases HR.out with ⟨hl, hp, hNe, hMe, hy, _⟩ | ⟨_, _, _, _, hB⟩
      rotate_left
      · cases hB
      have hr2 := run_key a b zs zs.length (Nat.le_refl _)
      have hpk := run_pks a b zs hp
      rw [← hy] at hr2 hpk
      have HP := hide hpk
      have H2 := hide hr2
      obtain ⟨m, hm2⟩ : ∃ m, y.length = m := ⟨_, rfl⟩
      have HM := hide hm2
      rw [hm2] at u hly H2 ⊢
      have hcell := hide (fun k (hk : k < m) => own_pk (k := k) u hm2 hk)
      have BL := hide bl
      have HU := hide u
      clear hNe hMe hr2 hl hp hy hm2 z u s r bu br bl HR hpk
      go_loopw [11] (fun i wr => ∃ k d : Nat, i = .int .i64 k ∧ 1 ≤ k ∧ (k ≤ m ∨ k = 1) ∧ wr = w4.drewN d) (fun i _ => m + 1 - (intOf i).toNat)
      case atStart => exact ⟨1, 0, rfl, by omega, by omega, rfl⟩
      case round =>
        obtain ⟨k, d, rfl, hk1, hk, rfl⟩ := hrel
        by_cases hkm : k < m
        · have hpk := hcell.out k hkm
          have hpk0 := hcell.out (k - 1) (by omega)
          have h2 := H2.out k hkm (by omega)
          obtain ⟨x, hx⟩ : ∃ x, y.getD k default = x := ⟨_, rfl⟩
          obtain ⟨x0, hx0⟩ : ∃ x, y.getD (k - 1) default = x := ⟨_, rfl⟩
          rw [hx] at hpk h2
          rw [hx0] at hpk0 h2
          obtain ⟨_, p0, p1, p2, p3, p4, p5⟩ := hpk
          obtain ⟨_, q0, q1, q2, q3, q4, q5⟩ := hpk0
          have g2 : (k : Int) < (m : Int) := by omega
          have g3 : (k : Int) - 1 < (m : Int) := by omega
          have g4 : 0 ≤ (k : Int) - 1 := by omega
          have g5 : IntKind.i64.wrap ((k : Int) - 1) = (k : Int) - 1 := IntWalk.i64_in _ (by omega)
          have g6 : ((k : Int) - 1).toNat = k - 1 := by omega
          have g7 : (0 : Int) < (k : Int) := by omega
          have g9 : (1 : Int) ≤ (k : Int) := by omega
          clear hx hx0 p0 p1 p3 p5 q0 q1 q3 q4 q5
          by_cases hxe : x.a2 = x0.a2
          · rw [hxe] at p2
            clear h2 hxe
            go_wp2_with fail
            go_quiet (fail)
            clear g5 g6
            go_wp2_with fail
            go_roundw
            case rel => exact ⟨k + 1, d + nq, by go_num, by omega, by omega, by first | rfl | simp⟩
            case measure => simp [intOf]; omega
          · have h4 : x.a4 = true := by rcases h2 with h | h; exact absurd h hxe; exact h
            rw [h4] at p4
            have e1 : (x.a2 == x0.a2) = false := by simpa using hxe
            have e2 : decide (x.a2 = x0.a2) = false := by simpa using hxe
            have e3 : (x.a2 != x0.a2) = true := by simp [bne, e1]
            have e4 : decide (¬ x.a2 = x0.a2) = true := by simpa using hxe
            have e5 := hxe
            clear h2 hxe h4
            go_wp2_with fail
            go_quiet (fail)
            clear g5 g6
            go_wp2_with fail
            go_roundw
            case rel => exact ⟨k + 1, d + nq, by go_num, by omega, by omega, by first | rfl | simp⟩
            case measure => simp [intOf]; omega
        · go_wp2_with fail
          have K := implPacketsValid (some ⟨gu, 0, none⟩) cu y (w4.drewN d) (ownPacket (HU.out.drewN d) HM.out) (by have := HM.out; omega)
          rw [HM.out, HP.out] at K
          refine K.mono ?_
          rintro e w9 ⟨rfl, hb⟩
          have b9 := below_drewN' BL.out d
          have b9 := b9.trans (hb.mono b9.size)
          clear hb K
          go_wp2_with fail
          go_ret
          exact ⟨rfl, b9⟩
end Go.Proofs.Yticelpaicenbkaa
