/- Walk of FnLayeredTwoLayers. -/
import Derived.Test.YticelpaicenbkaaL8
import Derived.Test.YticelpaicenbkaaL10
namespace Go.Proofs.Yticelpaicenbkaa
open Go.ChangeShapes Go.WideShapes Go.ChangeAt Go.RowKit Go.Deep

theorem own_pk {w : World} {g n c k : Nat} {zs : List VPacket} (h : Own w 35 6 g n c (zs.map VPacket.cells).flatten) (hn : zs.length = n) (hk : k < n) : PkC w g (k * 6) (zs.getD k default) := by
  obtain ⟨b, off, he, hp⟩ := PkC.of (ownPacket h hn) (k := k) (by omega)
  simp only [Option.some.injEq, Addr.mk.injEq, and_true] at he
  obtain ⟨rfl, rfl⟩ := he
  rwa [Nat.zero_add] at hp
theorem samePackets_b (A B : Option Addr) (c1 c2 : Nat) (zs : List VPacket) (w : World) (hA : PacketAt w A zs) (hB : PacketAt w B zs) (hm : zs.length ≤ 1048576) :
    Calls Try.prog 31 #[.slice A zs.length c1, .slice B zs.length c2] w (RetB true w) :=
  (samePackets_same A B c1 c2 zs w hA hB hm).mono fun _ _ ⟨he, n, hw⟩ => ⟨he, by rw [hw]; exact below_drewN' (Below.refl _ _) n⟩
set_option maxRecDepth 100000 in
set_option maxHeartbeats 4000000 in
theorem walk_fnLayeredTwoLayers {H : Type} {enc : TypeId × Value → H} (W : World) (base : Nat) (v : Value) (d : DataW H) (p : List MemPlace) (o : Value.okWide Try.prog W .any base 28 v) (h : DataW.Trod enc Try.prog W 0 (fun _ => true) true 28 v d p) :
    Calls Try.prog 12 #[v] W (RetB true W) := by
  obtain ⟨A, n, c, rfl, hn, hm, hcode⟩ := open_code W base v d p o h
  clear o h
  by_cases hbig : 1048576 < (n : Int)
  · clear hcode
    go_enter Try.func12, Try.ntmps12
    go_wp2_with fail
    go_ret
    refine ⟨rfl, ?_⟩
    (repeat' (first | (with_reducible exact Below.refl _ _) | (with_reducible assumption) | (with_reducible refine Below.alloc ?_ ?_ _) | (with_reducible refine Below.setCell ?_ ?_ _) | (with_reducible refine Below.drew ?_) | (with_reducible refine below_drewN' ?_ _) | (with_reducible refine below_step (by assumption) ?_ ?_) | (with_reducible refine below_gstep (by assumption) ?_ ?_ ?_) | (with_reducible exact Below.size (by assumption)) | omega | (simp; done) | (simp; omega)))
  · have Hcode := hide hcode
    clear hcode
    go_enter Try.func12, Try.ntmps12
    go_wp2_with fail
    refine (drawLayeredRun W.heap.size A n c _ Hcode.out hn hm (Nat.le_refl _)).mono ?_
    rintro e w1 ⟨a, b, gz, cz, zs, rfl, hl1, z, bl⟩
    clear Hcode
    obtain ⟨N, M, y, B, hR⟩ := relRun_some a b zs
    have HR := hide hR
    have hly := relRun_len hR
    clear hR
    go_wp2_with fail
    have nzs : gz ≠ w1.heap.size := by have := z.lt; omega
    have z := z.alloc (.cells #[.int .i64 a, .int .i64 b] 25)
    have s : Row (w1.alloc (.cells #[.int .i64 a, .int .i64 b] 25)) w1.heap.size #[.int .i64 a, .int .i64 b] := Row.new _ _ _
    have bl := bl.alloc bl.size (.cells #[.int .i64 a, .int .i64 b] 25)
    refine (implLayeredRun _ _ _ _ zs N M y B _ HR.out (ownPacket z rfl) (by omega)).mono ?_
    rintro e w2 ⟨gu, cu, rfl, hgu, u, hb⟩
    have nzu : gz ≠ gu := by have := z.lt; omega
    have nsu : w1.heap.size ≠ gu := by have := s.2.2; omega
    have z := z.below hb
    have s := s.below hb
    have bl := bl.trans (hb.mono bl.size)
    clear hb
    have nzbu : gz ≠ w2.heap.size := by have := z.lt; omega
    have nsbu : w1.heap.size ≠ w2.heap.size := by have := s.2.2; omega
    have nubu : gu ≠ w2.heap.size := by have := u.lt; omega
    have z := z.alloc (.cells #[.int .i64 N, .int .i64 M] 25)
    have s := s.alloc (.cells #[.int .i64 N, .int .i64 M] 25)
    have u := u.alloc (.cells #[.int .i64 N, .int .i64 M] 25)
    have bu : Row (w2.alloc (.cells #[.int .i64 N, .int .i64 M] 25)) w2.heap.size #[.int .i64 N, .int .i64 M] := Row.new _ _ _
    have bl := bl.alloc bl.size (.cells #[.int .i64 N, .int .i64 M] 25)
    have cs := s.1
    have fs := s.2.1
    have cbu := bu.1
    have fbu := bu.2.1
    go_wp2_with fail
    clear cs fs cbu fbu
    refine (specLayeredRun _ _ _ _ zs N M y B _ HR.out (ownPacket z rfl) (by omega)).mono ?_
    rintro e w3 ⟨gr, cr, rfl, hgr, r, hb⟩
    have nzr : gz ≠ gr := by have := z.lt; omega
    have nsr : w1.heap.size ≠ gr := by have := s.2.2; omega
    have nur : gu ≠ gr := by have := u.lt; omega
    have nbur : w2.heap.size ≠ gr := by have := bu.2.2; omega
    have z := z.below hb
    have s := s.below hb
    have u := u.below hb
    have bu := bu.below hb
    have bl := bl.trans (hb.mono bl.size)
    clear hb
    cases B
    · have nzbr : gz ≠ w3.heap.size := by have := z.lt; omega
      have nsbr : w1.heap.size ≠ w3.heap.size := by have := s.2.2; omega
      have nubr : gu ≠ w3.heap.size := by have := u.lt; omega
      have nbubr : w2.heap.size ≠ w3.heap.size := by have := bu.2.2; omega
      have nrbr : gr ≠ w3.heap.size := by have := r.lt; omega
      have z := z.alloc (.cells #[.int .i64 N, .int .i64 M] 25)
      have s := s.alloc (.cells #[.int .i64 N, .int .i64 M] 25)
      have u := u.alloc (.cells #[.int .i64 N, .int .i64 M] 25)
      have bu := bu.alloc (.cells #[.int .i64 N, .int .i64 M] 25)
      have r := r.alloc (.cells #[.int .i64 N, .int .i64 M] 25)
      have br : Row (w3.alloc (.cells #[.int .i64 N, .int .i64 M] 25)) w3.heap.size #[.int .i64 N, .int .i64 M] := Row.new _ _ _
      have bl := bl.alloc bl.size (.cells #[.int .i64 N, .int .i64 M] 25)
      have cs := s.1
      have fs := s.2.1
      have cbu := bu.1
      have fbu := bu.2.1
      have cbr := br.1
      have fbr := br.2.1
      go_wp2_with fail
      clear cs fs cbu fbu cbr fbr
      refine (samePackets_b _ _ _ _ y _ (ownPacket u rfl) (ownPacket r rfl) (by omega)).mono ?_
      rintro e w4 ⟨rfl, hb⟩
      have z := z.below hb
      have s := s.below hb
      have u := u.below hb
      have bu := bu.below hb
      have r := r.below hb
      have br := br.below hb
      have bl := bl.trans (hb.mono bl.size)
      clear hb
      have cs := s.1
      have fs := s.2.1
      have cbu := bu.1
      have fbu := bu.2.1
      have cbr := br.1
      have fbr := br.2.1
      go_wp2_with fail
      clear cs fs cbu fbu cbr fbr
      refine (samePackets_b _ _ _ _ y _ (ownPacket u rfl) (ownPacket r rfl) (by omega)).mono ?_
      rintro e w5 ⟨rfl, hb⟩
      have z := z.below hb
      have s := s.below hb
      have u := u.below hb
      have bu := bu.below hb
      have r := r.below hb
      have br := br.below hb
      have bl := bl.trans (hb.mono bl.size)
      clear hb
      have cs := s.1
      have fs := s.2.1
      have cbu := bu.1
      have fbu := bu.2.1
      have cbr := br.1
      have fbr := br.2.1
      go_wp2_with fail
      clear cs fs cbu fbu cbr fbr
      go_ret
      exact ⟨rfl, bl⟩
    · have nzbr : gz ≠ w3.heap.size := by have := z.lt; omega
      have nsbr : w1.heap.size ≠ w3.heap.size := by have := s.2.2; omega
      have nubr : gu ≠ w3.heap.size := by have := u.lt; omega
      have nbubr : w2.heap.size ≠ w3.heap.size := by have := bu.2.2; omega
      have nrbr : gr ≠ w3.heap.size := by have := r.lt; omega
      have z := z.alloc (.cells #[.int .i64 N, .int .i64 M] 25)
      have s := s.alloc (.cells #[.int .i64 N, .int .i64 M] 25)
      have u := u.alloc (.cells #[.int .i64 N, .int .i64 M] 25)
      have bu := bu.alloc (.cells #[.int .i64 N, .int .i64 M] 25)
      have r := r.alloc (.cells #[.int .i64 N, .int .i64 M] 25)
      have br : Row (w3.alloc (.cells #[.int .i64 N, .int .i64 M] 25)) w3.heap.size #[.int .i64 N, .int .i64 M] := Row.new _ _ _
      have bl := bl.alloc bl.size (.cells #[.int .i64 N, .int .i64 M] 25)
      have cs := s.1
      have fs := s.2.1
      have cbu := bu.1
      have fbu := bu.2.1
      have cbr := br.1
      have fbr := br.2.1
      go_wp2_with fail
      clear cs fs cbu fbu cbr fbr
      refine (samePackets_b _ _ _ _ y _ (ownPacket u rfl) (ownPacket r rfl) (by omega)).mono ?_
      rintro e w4 ⟨rfl, hb⟩
      have z := z.below hb
      have s := s.below hb
      have u := u.below hb
      have bu := bu.below hb
      have r := r.below hb
      have br := br.below hb
      have bl := bl.trans (hb.mono bl.size)
      clear hb
      have cs := s.1
      have fs := s.2.1
      have cbu := bu.1
      have fbu := bu.2.1
      have cbr := br.1
      have fbr := br.2.1
      go_wp2_with fail
      clear cs fs cbu fbu cbr fbr
      have hu : y.length = y.length := rfl
      rcases HR.out with ⟨hl, hp, hNe, hMe, hy, _⟩ | ⟨_, _, _, _, hB⟩
      rotate_left
      · cases hB
      have hr2 := (run_two a b zs zs.length (Nat.le_refl _)).2
      rw [← hy] at hr2
      have H2 := hide hr2
      obtain ⟨m, hm2⟩ : ∃ m, y.length = m := ⟨_, rfl⟩
      have HM := hide hm2
      rw [hm2] at u hly H2 ⊢
      have hcell := hide (fun k (hk : k < m) => own_pk (k := k) u hm2 hk)
      obtain ⟨cs, fs, _⟩ := s
      have BL := hide bl
      clear hr2 hu hNe hMe hl hp hy hm2 z u r bu br bl HR
      obtain ⟨ab, hab⟩ : ∃ ab, (a == b) = ab := ⟨_, rfl⟩
      rw [hab]
      have HAB := hide hab
      clear hab
      go_loopw [11, 12] (fun r i wr => ∃ (k d : Nat) (R : Bool), r = .bool R ∧ i = .int .i64 k ∧ k ≤ m ∧ (R = true → ∀ j, k ≤ j → j < m → (y.getD j default).a2 = b) ∧ wr = w4.drewN d) (fun _ i _ => m - (intOf i).toNat)
      case atStart =>
        refine ⟨0, 0, ab, rfl, rfl, by omega, fun he j _ hj => ?_, rfl⟩
        have he : a = b := by have h := HAB.out; rw [he] at h; simpa using h
        rcases (H2.out j hj).1 with h | h <;> omega
      case round =>
        obtain ⟨k, d, R, rfl, rfl, hk, hinv, rfl⟩ := hrel
        have Hi := hide hinv
        clear hinv
        by_cases hkm : k < m
        · have hpk := hcell.out k hkm
          have h2 := H2.out k hkm
          obtain ⟨x, hx⟩ : ∃ x, y.getD k default = x := ⟨_, rfl⟩
          rw [hx] at hpk h2
          have Hx := hide hx
          obtain ⟨_, p0, p1, p2, p3, p4, p5⟩ := hpk
          have gk : (k : Int) < (m : Int) := by omega
          clear hx
          by_cases hxb : x.a2 = b
          · have Hb := hide h2.2
            have HXB := hide hxb
            rw [hxb] at p2
            clear h2 hxb
            cases R
            · go_wp2_with fail
              go_quiet (fail)
              obtain ⟨nq1, hnq1⟩ : ∃ j, nq = j := ⟨_, rfl⟩
              go_wp2_with fail
              go_quiet (fail)
              go_wp2_with fail
              go_roundw
              case rel => exact ⟨k + 1, d + nq1 + nq, true, rfl, by go_num, by omega, fun _ j h1 h2 => (Hb.out HXB.out).2 j (by omega) h2, by first | (rw [hnq1]; rfl) | (subst hnq1; first | rfl | simp)⟩
              case measure => simp [intOf]; omega
            · go_wp2_with fail
              go_quiet (fail)
              obtain ⟨nq1, hnq1⟩ : ∃ j, nq = j := ⟨_, rfl⟩
              go_wp2_with fail
              go_quiet (fail)
              go_wp2_with fail
              go_roundw
              case rel => exact ⟨k + 1, d + nq1 + nq, true, rfl, by go_num, by omega, fun _ j h1 h2 => (Hb.out HXB.out).2 j (by omega) h2, by first | (rw [hnq1]; rfl) | (subst hnq1; first | rfl | simp)⟩
              case measure => simp [intOf]; omega
          · have hxa : x.a2 = a := by rcases h2.1 with h | h; exact h; exact absurd h hxb
            cases R
            · rw [hxa] at hxb p2
              have e1 : (a == b) = false := by simpa using hxb
              have e2 : decide (a = b) = false := by simpa using hxb
              clear h2 hxa hxb
              go_wp2_with fail
              go_quiet (fail)
              obtain ⟨nq1, hnq1⟩ : ∃ j, nq = j := ⟨_, rfl⟩
              go_wp2_with fail
              go_quiet (fail)
              go_wp2_with fail
              go_roundw
              case rel => exact ⟨k + 1, d + nq1 + nq, false, rfl, by go_num, by omega, fun h => Bool.noConfusion h, by first | (rw [hnq1]; rfl) | (subst hnq1; first | rfl | simp)⟩
              case measure => simp [intOf]; omega
            · have := Hi.out rfl k (Nat.le_refl _) hkm
              rw [Hx.out] at this
              exact absurd this hxb
        · go_wp2_with fail
          go_ret
          exact ⟨rfl, below_drewN' BL.out d⟩
end Go.Proofs.Yticelpaicenbkaa
