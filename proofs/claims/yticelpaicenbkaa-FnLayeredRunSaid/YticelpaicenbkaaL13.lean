/- Walk of FnLayeredRun. -/
import Derived.Test.YticelpaicenbkaaL11
namespace Go.Proofs.Yticelpaicenbkaa
open Go.ChangeShapes Go.WideShapes Go.ChangeAt Go.RowKit Go.Deep

set_option maxRecDepth 100000 in
set_option maxHeartbeats 4000000 in
theorem walk_fnLayeredRun {H : Type} {enc : TypeId × Value → H} (W : World) (base : Nat) (v : Value) (d : DataW H) (p : List MemPlace) (o : Value.okWide Try.prog W .any base 28 v) (h : DataW.Trod enc Try.prog W 0 (fun _ => true) true 28 v d p) :
    Calls Try.prog 13 #[v] W (RetB true W) := by
  obtain ⟨A, n, c, rfl, hn, hm, hcode⟩ := open_code W base v d p o h
  clear o h
  by_cases hbig : 1048576 < (n : Int)
  · clear hcode
    go_enter Try.func13, Try.ntmps13
    go_wp2_with fail
    go_ret
    refine ⟨rfl, ?_⟩
    (repeat' (first | (with_reducible exact Below.refl _ _) | (with_reducible assumption) | (with_reducible refine Below.alloc ?_ ?_ _) | (with_reducible refine Below.setCell ?_ ?_ _) | (with_reducible refine Below.drew ?_) | (with_reducible refine below_drewN' ?_ _) | (with_reducible refine below_step (by assumption) ?_ ?_) | (with_reducible refine below_gstep (by assumption) ?_ ?_ ?_) | (with_reducible exact Below.size (by assumption)) | omega | (simp; done) | (simp; omega)))
  · have Hcode := hide hcode
    clear hcode
    go_enter Try.func13, Try.ntmps13
    go_wp2_with fail
    refine (drawLayeredRun W.heap.size A n c _ Hcode.out hn hm (Nat.le_refl _)).mono ?_
    rintro e w1 ⟨a, b, gz, cz, zs, rfl, hl1, z, bl⟩
    clear Hcode
    obtain ⟨N, M, y, B, hR⟩ := relRun_some a b zs
    have HR := hide hR
    have hly := relRun_len hR
    clear hR
    go_wp2_with fail
    have nzs : gz ≠ w1.heap.size := by have := z.lt; omega
    have z := z.alloc (.cells #[.int .i64 a, .int .i64 b] 25)
    have s : Row (w1.alloc (.cells #[.int .i64 a, .int .i64 b] 25)) w1.heap.size #[.int .i64 a, .int .i64 b] := Row.new _ _ _
    have bl := bl.alloc bl.size (.cells #[.int .i64 a, .int .i64 b] 25)
    refine (implLayeredRun _ _ _ _ zs N M y B _ HR.out (ownPacket z rfl) (by omega)).mono ?_
    rintro e w2 ⟨gu, cu, rfl, hgu, u, hb⟩
    have nzu : gz ≠ gu := by have := z.lt; omega
    have nsu : w1.heap.size ≠ gu := by have := s.2.2; omega
    have z := z.below hb
    have s := s.below hb
    have bl := bl.trans (hb.mono bl.size)
    clear hb
    have nzbu : gz ≠ w2.heap.size := by have := z.lt; omega
    have nsbu : w1.heap.size ≠ w2.heap.size := by have := s.2.2; omega
    have nubu : gu ≠ w2.heap.size := by have := u.lt; omega
    have z := z.alloc (.cells #[.int .i64 N, .int .i64 M] 25)
    have s := s.alloc (.cells #[.int .i64 N, .int .i64 M] 25)
    have u := u.alloc (.cells #[.int .i64 N, .int .i64 M] 25)
    have bu : Row (w2.alloc (.cells #[.int .i64 N, .int .i64 M] 25)) w2.heap.size #[.int .i64 N, .int .i64 M] := Row.new _ _ _
    have bl := bl.alloc bl.size (.cells #[.int .i64 N, .int .i64 M] 25)
    have cs := s.1
    have fs := s.2.1
    have cbu := bu.1
    have fbu := bu.2.1
    go_wp2_with fail
    clear cs fs cbu fbu
    refine (specLayeredRun _ _ _ _ zs N M y B _ HR.out (ownPacket z rfl) (by omega)).mono ?_
    rintro e w3 ⟨gr, cr, rfl, hgr, r, hb⟩
    have nzr : gz ≠ gr := by have := z.lt; omega
    have nsr : w1.heap.size ≠ gr := by have := s.2.2; omega
    have nur : gu ≠ gr := by have := u.lt; omega
    have nbur : w2.heap.size ≠ gr := by have := bu.2.2; omega
    have z := z.below hb
    have s := s.below hb
    have u := u.below hb
    have bu := bu.below hb
    have bl := bl.trans (hb.mono bl.size)
    clear hb
    cases B
    · have nzbr : gz ≠ w3.heap.size := by have := z.lt; omega
      have nsbr : w1.heap.size ≠ w3.heap.size := by have := s.2.2; omega
      have nubr : gu ≠ w3.heap.size := by have := u.lt; omega
      have nbubr : w2.heap.size ≠ w3.heap.size := by have := bu.2.2; omega
      have nrbr : gr ≠ w3.heap.size := by have := r.lt; omega
      have z := z.alloc (.cells #[.int .i64 N, .int .i64 M] 25)
      have s := s.alloc (.cells #[.int .i64 N, .int .i64 M] 25)
      have u := u.alloc (.cells #[.int .i64 N, .int .i64 M] 25)
      have bu := bu.alloc (.cells #[.int .i64 N, .int .i64 M] 25)
      have r := r.alloc (.cells #[.int .i64 N, .int .i64 M] 25)
      have br : Row (w3.alloc (.cells #[.int .i64 N, .int .i64 M] 25)) w3.heap.size #[.int .i64 N, .int .i64 M] := Row.new _ _ _
      have bl := bl.alloc bl.size (.cells #[.int .i64 N, .int .i64 M] 25)
      have cs := s.1
      have fs := s.2.1
      have cbu := bu.1
      have fbu := bu.2.1
      have cbr := br.1
      have fbr := br.2.1
      go_wp2_with fail
      clear cs fs cbu fbu cbr fbr
      refine (samePackets_b _ _ _ _ y _ (ownPacket u rfl) (ownPacket r rfl) (by omega)).mono ?_
      rintro e w4 ⟨rfl, hb⟩
      have z := z.below hb
      have s := s.below hb
      have u := u.below hb
      have bu := bu.below hb
      have r := r.below hb
      have br := br.below hb
      have bl := bl.trans (hb.mono bl.size)
      clear hb
      have cs := s.1
      have fs := s.2.1
      have cbu := bu.1
      have fbu := bu.2.1
      have cbr := br.1
      have fbr := br.2.1
      go_wp2_with fail
      clear cs fs cbu fbu cbr fbr
      refine (samePackets_b _ _ _ _ y _ (ownPacket u rfl) (ownPacket r rfl) (by omega)).mono ?_
      rintro e w5 ⟨rfl, hb⟩
      have z := z.below hb
      have s := s.below hb
      have u := u.below hb
      have bu := bu.below hb
      have r := r.below hb
      have br := br.below hb
      have bl := bl.trans (hb.mono bl.size)
      clear hb
      have cs := s.1
      have fs := s.2.1
      have cbu := bu.1
      have fbu := bu.2.1
      have cbr := br.1
      have fbr := br.2.1
      go_wp2_with fail
      clear cs fs cbu fbu cbr fbr
      go_ret
      exact ⟨rfl, bl⟩
    · have nzbr : gz ≠ w3.heap.size := by have := z.lt; omega
      have nsbr : w1.heap.size ≠ w3.heap.size := by have := s.2.2; omega
      have nubr : gu ≠ w3.heap.size := by have := u.lt; omega
      have nbubr : w2.heap.size ≠ w3.heap.size := by have := bu.2.2; omega
      have nrbr : gr ≠ w3.heap.size := by have := r.lt; omega
      have z := z.alloc (.cells #[.int .i64 N, .int .i64 M] 25)
      have s := s.alloc (.cells #[.int .i64 N, .int .i64 M] 25)
      have u := u.alloc (.cells #[.int .i64 N, .int .i64 M] 25)
      have bu := bu.alloc (.cells #[.int .i64 N, .int .i64 M] 25)
      have r := r.alloc (.cells #[.int .i64 N, .int .i64 M] 25)
      have br : Row (w3.alloc (.cells #[.int .i64 N, .int .i64 M] 25)) w3.heap.size #[.int .i64 N, .int .i64 M] := Row.new _ _ _
      have bl := bl.alloc bl.size (.cells #[.int .i64 N, .int .i64 M] 25)
      have cs := s.1
      have fs := s.2.1
      have cbu := bu.1
      have fbu := bu.2.1
      have cbr := br.1
      have fbr := br.2.1
      go_wp2_with fail
      clear cs fs cbu fbu cbr fbr
      refine (samePackets_b _ _ _ _ y _ (ownPacket u rfl) (ownPacket r rfl) (by omega)).mono ?_
      rintro e w4 ⟨rfl, hb⟩
      have z := z.below hb
      have s := s.below hb
      have u := u.below hb
      have bu := bu.below hb
      have r := r.below hb
      have br := br.below hb
      have bl := bl.trans (hb.mono bl.size)
      clear hb
      have cs := s.1
      have fs := s.2.1
      have cbu := bu.1
      have fbu := bu.2.1
      have cbr := br.1
      have fbr := br.2.1
      go_wp2_with fail
      clear cs fs cbu fbu cbr fbr
      rcases HR.out with ⟨hl, hp, hNe, hMe, hy, _⟩ | ⟨_, _, _, _, hB⟩
      rotate_left
      · cases hB
      have HLay := hide hl
      have HPk := hide (of_decide_eq_true hp).1
      have HY := hide hy
      have HNN := hide hNe.symm
      have HME := hide hMe
      obtain ⟨m, hm2⟩ : ∃ m, y.length = m := ⟨_, rfl⟩
      have HM := hide hm2
      rw [hm2] at u hly ⊢
      obtain ⟨L, hL2⟩ : ∃ L, zs.length = L := ⟨_, rfl⟩
      have HL := hide hL2
      rw [hL2] at z hly hl1 ⊢
      have bx0 := Row.new w4 #[.int .i64 a, .int .i64 b] 25
      have lbz := z.lt
      have lbu := u.lt
      have lbb := bu.2.2
      have lbw := bl.size
      have z := z.alloc (.cells #[.int .i64 a, .int .i64 b] 25)
      have u := u.alloc (.cells #[.int .i64 a, .int .i64 b] 25)
      have bu := bu.alloc (.cells #[.int .i64 a, .int .i64 b] 25)
      have bl := bl.alloc bl.size (.cells #[.int .i64 a, .int .i64 b] 25)
      have HZ0 := hide z
      have HU0 := hide u
      have HBU0 := hide bu
      have HB0 := hide bl
      have HX0 := hide bx0
      clear hl hp hy hm2 hL2 hNe hMe z u r br bl HR bx0 bu
      clear s
      obtain ⟨bx, hbx⟩ : ∃ g, w4.heap.size = g := ⟨_, rfl⟩
      obtain ⟨bu_, hbu_⟩ : ∃ g, w2.heap.size = g := ⟨_, rfl⟩
      rw [hbx] at HX0 lbz lbu lbb lbw ⊢
      rw [hbu_] at HBU0 lbb ⊢
      have nz : gz ≠ bx := by omega
      have nu : gu ≠ bx := by omega
      have nbu : bu_ ≠ bx := by omega
      have lbx : W.heap.size ≤ bx := lbw
      go_loopw [12, 13] (fun n_ i wr => ∃ k q : Nat, n_ = .int .i64 q ∧ i = .int .i64 k ∧ k ≤ L ∧ q = (runL a b zs k).2.length ∧ Row wr bx #[.int .i64 (runL a b zs k).1, .int .i64 b] ∧ Row wr bu_ #[.int .i64 N, .int .i64 M] ∧ Own wr 35 6 gz L cz (zs.map VPacket.cells).flatten ∧ Own wr 35 6 gu m cu (y.map VPacket.cells).flatten ∧ Below W.heap.size W wr) (fun _ i _ => L - (intOf i).toNat)
      case atStart => exact ⟨0, 0, rfl, rfl, by omega, by rw [runL_zero]; rfl, by rw [runL_zero]; exact HX0.out, HBU0.out, HZ0.out, HU0.out, HB0.out⟩
      case round =>
        clear HZ0 HU0 HBU0 HB0 HX0 lbz lbu lbb lbw
        obtain ⟨k, q, rfl, rfl, hk, hq, rb, bu, z, u, bl⟩ := hrel
        have HQ := hide hq
        by_cases hkL : k < L
        · have hst := runL_succ a b zs k (by rw [HL.out]; exact hkL)
          have htwo := (run_two a b zs k (by rw [HL.out]; exact hk)).1
          have hnx := run_next a b zs k (by rw [HL.out]; exact hkL)
          have hok := (HPk.out k (by rw [HL.out]; exact hkL)).1
          obtain ⟨x, hx⟩ : ∃ x, zs.getD k default = x := ⟨_, rfl⟩
          rw [hx] at hst hnx hok
          have HX := hide hx
          have hpc := own_pk z HL.out hkL
          rw [hx] at hpc
          rw [← HY.out, ← hq, HM.out] at hnx
          obtain ⟨S, hS⟩ : ∃ S, runL a b zs k = S := ⟨_, rfl⟩
          rw [hS] at rb hst htwo hnx hq HQ
          obtain ⟨n0, ot⟩ := S
          dsimp only at rb htwo hnx hq HQ
          obtain ⟨n1, hn1⟩ : ∃ n1, stepN n0 b x.a2 x.a4 = n1 := ⟨_, rfl⟩
          rw [hn1] at hnx
          have HN := hide hnx
          have hlay : layB n0 b = true := by
            have h0 := of_decide_eq_true HLay.out
            refine decide_eq_true ?_
            rcases htwo with h | h <;> omega
          have Hst := hide (show runL a b zs (k + 1) = (n1, if x.a2 == n1 then ot ++ [x] else ot) from by rw [hst, ← hn1]; rfl)
          have HSt := hide (fun W => implStep_any n0 b x.a0 x.a1 x.a2 x.a3 x.a4 x.a5 n1 b (x.a2 == n1) W (.inl ⟨hlay, hok, hn1.symm, rfl, rfl⟩))
          have g2 : (k : Int) < (L : Int) := by omega
          have gk0 : (0 : Int) ≤ (k : Int) := by omega
          have lrb := rb.2.2
          have RB := hide rb
          have BU := hide bu
          have Z := hide z
          have U := hide u
          have BLr := hide bl
          have PC := hide hpc
          clear hst htwo hnx hok hx hS hn1 hlay rb bu z u bl hpc hq
          go_wp2_with fail
          refine wp_region_held_drew (S := fun w' => Row w' bx #[.int .i64 n0, .int .i64 b] ∧ PkC w' gz (k * 6) x) (by kernel_rfl) (by exact ⟨RB.out, PC.out⟩) (fun hHeld => ?_)
          refine wpAnyH_take (i := 0) (oi := ⟨some 77, _, _, _, _, _⟩) (v := ?va0) rfl (by kernel_rfl) (by kernel_rfl) (by kernel_rfl) (fun _ _ _ h => h) (Or.inl ⟨by rfl, ?ya0⟩) (by assumption) ?_
          case ya0 => (intro w hSw; obtain ⟨⟨u1, u2, _⟩, ⟨_, p0, p1, p2, p3, p4, p5⟩⟩ := hSw; go_simp; (try with_reducible rfl))
          (try simp only [Act.put, List.setIfInBounds_toArray, List.set_cons_zero, List.set_cons_succ])
          refine wpAnyH_take (i := 1) (oi := ⟨some 78, _, _, _, _, _⟩) (v := ?va1) rfl (by kernel_rfl) (by kernel_rfl) (by kernel_rfl) (fun _ _ _ h => h) (Or.inl ⟨by rfl, ?ya1⟩) (by assumption) ?_
          case ya1 => (intro w hSw; obtain ⟨⟨u1, u2, _⟩, ⟨_, p0, p1, p2, p3, p4, p5⟩⟩ := hSw; go_simp; (try with_reducible rfl))
          (try simp only [Act.put, List.setIfInBounds_toArray, List.set_cons_zero, List.set_cons_succ])
          refine wpAnyH_take (i := 2) (oi := ⟨some 79, _, _, _, _, _⟩) (v := ?va2) rfl (by kernel_rfl) (by kernel_rfl) (by kernel_rfl) (fun _ _ _ h => h) (Or.inl ⟨by rfl, ?ya2⟩) (by assumption) ?_
          case ya2 => (intro w hSw; obtain ⟨⟨u1, u2, _⟩, ⟨_, p0, p1, p2, p3, p4, p5⟩⟩ := hSw; go_simp; (try with_reducible rfl))
          (try simp only [Act.put, List.setIfInBounds_toArray, List.set_cons_zero, List.set_cons_succ])
          refine wpAnyH_take (i := 3) (oi := ⟨some 80, _, _, _, _, _⟩) (v := ?va3) rfl (by kernel_rfl) (by kernel_rfl) (by kernel_rfl) (fun _ _ _ h => h) (Or.inl ⟨by rfl, ?ya3⟩) (by assumption) ?_
          case ya3 => (intro w hSw; obtain ⟨⟨u1, u2, _⟩, ⟨_, p0, p1, p2, p3, p4, p5⟩⟩ := hSw; go_simp; (try with_reducible rfl))
          (try simp only [Act.put, List.setIfInBounds_toArray, List.set_cons_zero, List.set_cons_succ])
          refine wpAnyH_take (i := 4) (oi := ⟨some 81, _, _, _, _, _⟩) (v := ?va4) rfl (by kernel_rfl) (by kernel_rfl) (by kernel_rfl) (fun _ _ _ h => h) (Or.inl ⟨by rfl, ?ya4⟩) (by assumption) ?_
          case ya4 => (intro w hSw; obtain ⟨⟨u1, u2, _⟩, ⟨_, p0, p1, p2, p3, p4, p5⟩⟩ := hSw; go_simp; (try with_reducible rfl))
          (try simp only [Act.put, List.setIfInBounds_toArray, List.set_cons_zero, List.set_cons_succ])
          refine wpAnyH_ready (rs := [5, 9]) (by kernel_rfl) (by simp) ?_
          refine AllReadyH.cons (o := ⟨some 82, _, _, _, _, _⟩) rfl (fun K hK => ?_) ?_
          · go_simp
            refine (HSt.out _).mono ?_
            rintro e w5 ⟨rfl, hb5⟩
            have S5 := And.intro (hHeld.1.below hb5) (hHeld.2.below hb5)
            have BU5 := hide ((show Row wr.drew bu_ _ from BU.out).below hb5)
            have Z5 := hide ((Z.out.drew).below hb5)
            have U5 := hide ((U.out.drew).below hb5)
            have B5 := hide ((Below.drew BLr.out).trans (hb5.mono (BLr.out.size)))
            have lsz : wr.heap.size ≤ w5.heap.size := hb5.size
            clear hb5 hHeld
            go_wp2_with fail
            refine hK.out _ _ S5 (fun hHeld => ?_)
            clear hK K
            (try simp only [Act.put, List.setIfInBounds_toArray, List.set_cons_zero, List.set_cons_succ])
            refine wpAnyH_take (i := 6) (oi := ⟨some 76, _, _, _, _, _⟩) (v := ?vb6) rfl (by kernel_rfl) (by kernel_rfl) (by kernel_rfl) (fun _ _ _ h => h) (Or.inl ⟨by rfl, ?yb6⟩) (by assumption) ?_
            case yb6 => (intro w hSw; obtain ⟨⟨u1, u2, _⟩, ⟨_, p0, p1, p2, p3, p4, p5⟩⟩ := hSw; go_simp; (try with_reducible rfl))
            (try simp only [Act.put, List.setIfInBounds_toArray, List.set_cons_zero, List.set_cons_succ])
            refine wpAnyH_take (i := 7) (oi := ⟨some 83, _, _, _, _, _⟩) (v := ?vb7) rfl (by kernel_rfl) (by kernel_rfl) (by kernel_rfl) (fun _ _ _ h => h) (Or.inl ⟨by rfl, ?yb7⟩) (by assumption) ?_
            case yb7 => (intro w hSw; obtain ⟨⟨u1, u2, _⟩, ⟨_, p0, p1, p2, p3, p4, p5⟩⟩ := hSw; go_simp; (try with_reducible rfl))
            (try simp only [Act.put, List.setIfInBounds_toArray, List.set_cons_zero, List.set_cons_succ])
            refine wpAnyH_take (i := 8) (oi := ⟨some 84, _, _, _, _, _⟩) (v := ?vb8) rfl (by kernel_rfl) (by kernel_rfl) (by kernel_rfl) (fun _ _ _ h => h) (Or.inl ⟨by rfl, ?yb8⟩) (by assumption) ?_
            case yb8 => (intro w hSw; obtain ⟨⟨u1, u2, _⟩, ⟨_, p0, p1, p2, p3, p4, p5⟩⟩ := hSw; go_simp; (try with_reducible rfl))
            (try simp only [Act.put, List.setIfInBounds_toArray, List.set_cons_zero, List.set_cons_succ])
            refine wpAnyH_ready (rs := [9]) (by kernel_rfl) (by simp) ?_
            refine AllReadyH.cons (o := ⟨some 14, _, _, _, _, _⟩) rfl (fun K hK => ?_) AllReadyH.nil
            go_simp
            refine hK.out _ _ (⟨hHeld.1.alloc _, hHeld.2.alloc _⟩) (fun hHeld => ?_)
            clear hK K
            (try simp only [Act.put, List.setIfInBounds_toArray, List.set_cons_zero, List.set_cons_succ])
            have gxn : bx ≠ w5.heap.size := by omega
            refine wpAnyH_ready (rs := [10]) (by kernel_rfl) (by simp) ?_
            refine AllReadyH.cons (o := ⟨none, _, _, _, _, _⟩) rfl (fun K hK => ?_) AllReadyH.nil
            go_simp
            refine hK.out _ _ ⟨S5.1.alloc _, S5.2.alloc _⟩ (fun hHeld => ?_)
            clear hK K
            (try simp only [Act.put, List.setIfInBounds_toArray, List.set_cons_zero, List.set_cons_succ])
            refine wpAnyH_take (i := 11) (oi := ⟨some 15, _, _, _, _, _⟩) (v := ?vb11) rfl (by kernel_rfl) (by kernel_rfl) (by kernel_rfl) (fun _ _ _ h => h) (Or.inl ⟨by rfl, ?yb11⟩) (by assumption) ?_
            case yb11 => (intro w hSw; go_simp; (try with_reducible rfl))
            (try simp only [Act.put, List.setIfInBounds_toArray, List.set_cons_zero, List.set_cons_succ])
            refine wpAnyH_done (by kernel_rfl) ?_ _
            obtain ⟨gx, hgx⟩ : ∃ g, w5.heap.size = g := ⟨_, rfl⟩
            obtain ⟨wx, hwx⟩ : ∃ wx, (w5.alloc (.cells #[.int .i64 n1, .int .i64 b] 25)) = wx := ⟨_, rfl⟩
            have lgx : Row wx gx #[.int .i64 n1, .int .i64 b] := by rw [← hwx, ← hgx]; exact Row.new _ _ _
            have rbx : Row wx bx #[.int .i64 n0, .int .i64 b] := by rw [← hwx]; exact S5.1.alloc _
            have bux : Row wx bu_ #[.int .i64 N, .int .i64 M] := by rw [← hwx]; exact BU5.out.alloc _
            have zx : Own wx 35 6 gz L cz (zs.map VPacket.cells).flatten := by rw [← hwx]; exact Z5.out.alloc _
            have ux : Own wx 35 6 gu m cu (y.map VPacket.cells).flatten := by rw [← hwx]; exact U5.out.alloc _
            have blx : Below W.heap.size W wx := by rw [← hwx]; exact B5.out.alloc (B5.out.size) _
            rw [hgx, hwx]
            rw [hgx] at gxn
            clear hwx S5 BU5 Z5 U5 B5 hHeld RB BU Z U BLr PC
            obtain ⟨cG, fG, _⟩ := lgx
            have RB2 := hide rbx
            have fS := rbx.2.1
            have c0S := rbx.1
            have BU2 := hide bux
            have Z2 := hide zx
            have U2 := hide ux
            have BL2 := hide blx
            have sx := blx.size
            clear rbx bux zx ux blx
            go_upto_if 86 with (fail)
            refine rebase (fun wy => Row wy bx #[.int .i64 n1, .int .i64 b] ∧ Row wy bu_ #[.int .i64 N, .int .i64 M] ∧ Own wy 35 6 gz L cz (zs.map VPacket.cells).flatten ∧ Own wy 35 6 gu m cu (y.map VPacket.cells).flatten ∧ Below W.heap.size W wy) ⟨(RB2.out.set 0 (by simp) _).set 1 (by simp) _, (BU2.out.far (by show bu_ ≠ bx; exact nbu) _).far (by show bu_ ≠ bx; exact nbu) _, (Z2.out.far (by show gz ≠ bx; exact nz) _).far (by show gz ≠ bx; exact nz) _, (U2.out.far (by show gu ≠ bx; exact nu) _).far (by show gu ≠ bx; exact nu) _, (BL2.out.setCell (by show _ ≤ bx; exact lbx) _).setCell (by show _ ≤ bx; exact lbx) _⟩ ?_
            clear cG fG RB2 fS c0S BU2 Z2 U2 BL2 sx
            rintro wy ⟨r5, bu5, z5, u5, b5⟩
            by_cases hon : x.a2 = n1
            · have e0 : (x.a2 == n1) = true := by simpa using hon
              have hnx := HN.out e0
              obtain ⟨hqm, hyq⟩ := hnx
              have P5 := own_pk z5 HL.out hkL
              have Q5 := own_pk u5 HM.out hqm
              rw [HX.out] at P5
              rw [hyq] at Q5
              have gq : (q : Int) < (m : Int) := by omega
              obtain ⟨_, p0, p1, p2, p3, p4, p5⟩ := P5
              obtain ⟨_, q0, q1, q2, q3, q4, q5⟩ := Q5
              have R5 := hide r5
              have BU5 := hide bu5
              have Z5 := hide z5
              have U5 := hide u5
              have B5 := hide b5
              clear r5 bu5 z5 u5 b5 hyq hon
              go_wp2_with fail
              go_quiet (fail)
              go_wp2_with fail
              go_roundw
              case rel =>
                have hs := Hst.out
                rw [if_pos e0] at hs
                exact ⟨k + 1, q + 1, by go_num, by go_num, by omega, by rw [hs]; simp [HQ.out], by rw [hs]; exact R5.out.drewN _, BU5.out.drewN _, Z5.out.drewN _, U5.out.drewN _, below_drewN' B5.out _⟩
              case measure => simp [intOf]; omega
            · have e0 : (x.a2 == n1) = false := by simpa using hon
              have R5 := hide r5
              have BU5 := hide bu5
              have Z5 := hide z5
              have U5 := hide u5
              have B5 := hide b5
              clear r5 bu5 z5 u5 b5 hon
              go_wp2_with fail
              go_roundw
              case rel =>
                have hs := Hst.out
                rw [if_neg (by rw [e0]; exact Bool.noConfusion)] at hs
                exact ⟨k + 1, q, rfl, by go_num, by omega, by rw [hs]; exact HQ.out, by rw [hs]; exact R5.out, BU5.out, Z5.out, U5.out, B5.out⟩
              case measure => simp [intOf]; omega
          · refine AllReadyH.cons (o := ⟨some 14, _, _, _, _, _⟩) rfl (fun K hK => ?_) AllReadyH.nil
            go_simp
            have S4 := And.intro (hHeld.1.alloc (.cells #[.int .i64 0, .int .i64 0] 25)) (hHeld.2.alloc (.cells #[.int .i64 0, .int .i64 0] 25))
            refine hK.out _ _ S4 (fun hHeld => ?_)
            clear hK K
            (try simp only [Act.put, List.setIfInBounds_toArray, List.set_cons_zero, List.set_cons_succ])
            refine wpAnyH_ready (rs := [5]) (by kernel_rfl) (by simp) ?_
            refine AllReadyH.cons (o := ⟨some 82, _, _, _, _, _⟩) rfl (fun K hK => ?_) AllReadyH.nil
            go_simp
            refine (HSt.out _).mono ?_
            rintro e w5 ⟨rfl, hb5⟩
            have G5 := hide (show Row w5 wr.heap.size #[.int .i64 0, .int .i64 0] from (Row.new wr.drew _ _).below hb5)
            have S5 := And.intro (S4.1.below hb5) (S4.2.below hb5)
            have BU5 := hide (((show Row wr.drew bu_ _ from BU.out).alloc _).below hb5)
            have Z5 := hide (((Z.out.drew).alloc _).below hb5)
            have U5 := hide (((U.out.drew).alloc _).below hb5)
            have B5 := hide (((Below.drew BLr.out).alloc (BLr.out.size) _).trans (hb5.mono (by have := BLr.out.size; simp [World.drew]; omega)))
            have lsz : wr.heap.size + 1 ≤ w5.heap.size := by have := hb5.size; simp [World.drew] at this; omega
            clear hb5
            go_wp2_with fail
            obtain ⟨gx, hgx⟩ : ∃ g, wr.heap.size = g := ⟨_, rfl⟩
            have gxn : bx ≠ gx := by omega
            have gxu : bu_ ≠ gx := by have := BU.out.2.2; omega
            have gxz : gz ≠ gx := by have := Z.out.lt; omega
            have gxy : gu ≠ gx := by have := U.out.lt; omega
            have hgw : W.heap.size ≤ gx := by have := BLr.out.size; omega
            refine hK.out _ _ S5 (fun hHeld => ?_)
            clear hK K
            (try simp only [Act.put, List.setIfInBounds_toArray, List.set_cons_zero, List.set_cons_succ])
            refine wpAnyH_take (i := 6) (oi := ⟨some 76, _, _, _, _, _⟩) (v := ?vc6) rfl (by kernel_rfl) (by kernel_rfl) (by kernel_rfl) (fun _ _ _ h => h) (Or.inl ⟨by rfl, ?yc6⟩) (by assumption) ?_
            case yc6 => (intro w hSw; obtain ⟨⟨u1, u2, _⟩, ⟨_, p0, p1, p2, p3, p4, p5⟩⟩ := hSw; go_simp; (try with_reducible rfl))
            (try simp only [Act.put, List.setIfInBounds_toArray, List.set_cons_zero, List.set_cons_succ])
            refine wpAnyH_take (i := 7) (oi := ⟨some 83, _, _, _, _, _⟩) (v := ?vc7) rfl (by kernel_rfl) (by kernel_rfl) (by kernel_rfl) (fun _ _ _ h => h) (Or.inl ⟨by rfl, ?yc7⟩) (by assumption) ?_
            case yc7 => (intro w hSw; obtain ⟨⟨u1, u2, _⟩, ⟨_, p0, p1, p2, p3, p4, p5⟩⟩ := hSw; go_simp; (try with_reducible rfl))
            (try simp only [Act.put, List.setIfInBounds_toArray, List.set_cons_zero, List.set_cons_succ])
            refine wpAnyH_take (i := 8) (oi := ⟨some 84, _, _, _, _, _⟩) (v := ?vc8) rfl (by kernel_rfl) (by kernel_rfl) (by kernel_rfl) (fun _ _ _ h => h) (Or.inl ⟨by rfl, ?yc8⟩) (by assumption) ?_
            case yc8 => (intro w hSw; obtain ⟨⟨u1, u2, _⟩, ⟨_, p0, p1, p2, p3, p4, p5⟩⟩ := hSw; go_simp; (try with_reducible rfl))
            (try simp only [Act.put, List.setIfInBounds_toArray, List.set_cons_zero, List.set_cons_succ])
            refine wpAnyH_ready (rs := [10]) (by kernel_rfl) (by simp) ?_
            refine AllReadyH.cons (o := ⟨none, _, _, _, _, _⟩) rfl (fun K hK => ?_) AllReadyH.nil
            have G6 := G5.out
            rw [hgx] at G6
            obtain ⟨cx, fx, _⟩ := G6
            have c0x := cx 0
            go_simp
            refine hK.out _ _ ⟨(S5.1.far (by show bx ≠ gx; exact gxn) _).far (by show bx ≠ gx; exact gxn) _, (S5.2.far (by show gz ≠ gx; exact gxz) _).far (by show gz ≠ gx; exact gxz) _⟩ (fun hHeld => ?_)
            clear hK K
            (try simp only [Act.put, List.setIfInBounds_toArray, List.set_cons_zero, List.set_cons_succ])
            refine wpAnyH_take (i := 11) (oi := ⟨some 15, _, _, _, _, _⟩) (v := ?vc11) rfl (by kernel_rfl) (by kernel_rfl) (by kernel_rfl) (fun _ _ _ h => h) (Or.inl ⟨by rfl, ?yc11⟩) (by assumption) ?_
            case yc11 => (intro w hSw; go_simp; (try with_reducible rfl))
            (try simp only [Act.put, List.setIfInBounds_toArray, List.set_cons_zero, List.set_cons_succ])
            refine wpAnyH_done (by kernel_rfl) ?_ _
            have G6 := G5.out
            rw [hgx] at G6
            obtain ⟨wx, hwx⟩ : ∃ wx, ((w5.setCell ⟨gx, 0, none⟩ (.int .i64 n1)).setCell ⟨gx, 1, none⟩ (.int .i64 b)) = wx := ⟨_, rfl⟩
            have lgx : Row wx gx #[.int .i64 n1, .int .i64 b] := by rw [← hwx]; exact (G6.set 0 (by simp) _).set 1 (by simp) _
            have rbx : Row wx bx #[.int .i64 n0, .int .i64 b] := by rw [← hwx]; exact (S5.1.far (by show bx ≠ gx; exact gxn) _).far (by show bx ≠ gx; exact gxn) _
            have bux : Row wx bu_ #[.int .i64 N, .int .i64 M] := by rw [← hwx]; exact (BU5.out.far (by show bu_ ≠ gx; exact gxu) _).far (by show bu_ ≠ gx; exact gxu) _
            have zx : Own wx 35 6 gz L cz (zs.map VPacket.cells).flatten := by rw [← hwx]; exact (Z5.out.far (by show gz ≠ gx; exact gxz) _).far (by show gz ≠ gx; exact gxz) _
            have ux : Own wx 35 6 gu m cu (y.map VPacket.cells).flatten := by rw [← hwx]; exact (U5.out.far (by show gu ≠ gx; exact gxy) _).far (by show gu ≠ gx; exact gxy) _
            have blx : Below W.heap.size W wx := by rw [← hwx]; exact (B5.out.setCell (by show _ ≤ gx; exact hgw) _).setCell (by show _ ≤ gx; exact hgw) _
            rw [hwx]
            clear hwx S5 BU5 Z5 U5 B5 hHeld RB BU Z U BLr PC G5 G6 c0x cx fx S4
            obtain ⟨cG, fG, _⟩ := lgx
            have RB2 := hide rbx
            have fS := rbx.2.1
            have c0S := rbx.1
            have BU2 := hide bux
            have Z2 := hide zx
            have U2 := hide ux
            have BL2 := hide blx
            have sx := blx.size
            clear rbx bux zx ux blx
            go_upto_if 86 with (fail)
            refine rebase (fun wy => Row wy bx #[.int .i64 n1, .int .i64 b] ∧ Row wy bu_ #[.int .i64 N, .int .i64 M] ∧ Own wy 35 6 gz L cz (zs.map VPacket.cells).flatten ∧ Own wy 35 6 gu m cu (y.map VPacket.cells).flatten ∧ Below W.heap.size W wy) ⟨(RB2.out.set 0 (by simp) _).set 1 (by simp) _, (BU2.out.far (by show bu_ ≠ bx; exact nbu) _).far (by show bu_ ≠ bx; exact nbu) _, (Z2.out.far (by show gz ≠ bx; exact nz) _).far (by show gz ≠ bx; exact nz) _, (U2.out.far (by show gu ≠ bx; exact nu) _).far (by show gu ≠ bx; exact nu) _, (BL2.out.setCell (by show _ ≤ bx; exact lbx) _).setCell (by show _ ≤ bx; exact lbx) _⟩ ?_
            clear cG fG RB2 fS c0S BU2 Z2 U2 BL2 sx
            rintro wy ⟨r5, bu5, z5, u5, b5⟩
            by_cases hon : x.a2 = n1
            · have e0 : (x.a2 == n1) = true := by simpa using hon
              have hnx := HN.out e0
              obtain ⟨hqm, hyq⟩ := hnx
              have P5 := own_pk z5 HL.out hkL
              have Q5 := own_pk u5 HM.out hqm
              rw [HX.out] at P5
              rw [hyq] at Q5
              have gq : (q : Int) < (m : Int) := by omega
              obtain ⟨_, p0, p1, p2, p3, p4, p5⟩ := P5
              obtain ⟨_, q0, q1, q2, q3, q4, q5⟩ := Q5
              have R5 := hide r5
              have BU5 := hide bu5
              have Z5 := hide z5
              have U5 := hide u5
              have B5 := hide b5
              clear r5 bu5 z5 u5 b5 hyq hon
              go_wp2_with fail
              go_quiet (fail)
              go_wp2_with fail
              go_roundw
              case rel =>
                have hs := Hst.out
                rw [if_pos e0] at hs
                exact ⟨k + 1, q + 1, by go_num, by go_num, by omega, by rw [hs]; simp [HQ.out], by rw [hs]; exact R5.out.drewN _, BU5.out.drewN _, Z5.out.drewN _, U5.out.drewN _, below_drewN' B5.out _⟩
              case measure => simp [intOf]; omega
            · have e0 : (x.a2 == n1) = false := by simpa using hon
              have R5 := hide r5
              have BU5 := hide bu5
              have Z5 := hide z5
              have U5 := hide u5
              have B5 := hide b5
              clear r5 bu5 z5 u5 b5 hon
              go_wp2_with fail
              go_roundw
              case rel =>
                have hs := Hst.out
                rw [if_neg (by rw [e0]; exact Bool.noConfusion)] at hs
                exact ⟨k + 1, q, rfl, by go_num, by omega, by rw [hs]; exact HQ.out, by rw [hs]; exact R5.out, BU5.out, Z5.out, U5.out, B5.out⟩
              case measure => simp [intOf]; omega
        · have hkn : k = L := by omega
          subst hkn
          obtain ⟨cb, fb, _⟩ := rb
          rw [HME.out] at bu
          obtain ⟨cu_, fu_, _⟩ := bu
          have e1 : (runL a b zs k).1 = N := by have := HNN.out; rw [HL.out] at this; exact this
          have e2 : q = m := by rw [hq, ← HM.out, HY.out, HL.out]
          subst e2
          rw [e1] at cb
          clear hq HQ
          go_wp2_with fail
          go_ret
          exact ⟨rfl, bl⟩
end Go.Proofs.Yticelpaicenbkaa
