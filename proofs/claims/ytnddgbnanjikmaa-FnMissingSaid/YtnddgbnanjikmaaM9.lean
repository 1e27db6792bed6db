/- Walk of FnMissing. -/
import Derived.Test.YtnddgbnanjikmaaM8
namespace Go.Proofs.Ytnddgbnanjikmaa
open Go.ChangeShapes Go.WideShapes Go.ChangeAt Go.RowKit Go.Deep

theorem own_cellI {w : World} {g n c k : Nat} {ys : List Int} (h : Own w 3 1 g n c (ys.map (Value.int .i64))) (hn : ys.length = n) (hk : k < n) : w.cell? ⟨g, k, none⟩ = some (.int .i64 (ys.getD k 0)) := by
  rw [h.cell (by omega), List.getElem?_map, List.getElem?_eq_getElem (by omega), List.getD_eq_getElem?_getD, List.getElem?_eq_getElem (by omega)]
  rfl
set_option maxHeartbeats 4000000 in
theorem walk_fnMissing {H : Type} {enc : TypeId × Value → H} (W : World) (base : Nat) (v : Value) (d : DataW H) (p : List MemPlace) (o : Value.okWide Try.prog W .any base 22 v) (h : DataW.Trod enc Try.prog W 0 (fun _ => true) true 22 v d p) :
    Calls Try.prog 3 #[v] W (RetB true W) := by
  obtain ⟨A, n, c, rfl, hn, hm, hcode⟩ := open_code W base v d p o h
  clear o h
  by_cases hbig : 1048576 < (n : Int)
  · clear hcode
    go_enter Try.func3, Try.ntmps3
    go_wp2_with fail
    go_ret
    refine ⟨rfl, ?_⟩
    (repeat' (first | (with_reducible exact Below.refl _ _) | (with_reducible assumption) | (with_reducible refine Below.alloc ?_ ?_ _) | (with_reducible refine Below.setCell ?_ ?_ _) | (with_reducible refine Below.drew ?_) | (with_reducible refine below_drewN' ?_ _) | (with_reducible refine below_step (by assumption) ?_ ?_) | (with_reducible refine below_gstep (by assumption) ?_ ?_ ?_) | (with_reducible exact Below.size (by assumption)) | omega | (simp; done) | (simp; omega)))
  · have Hcode := hide hcode
    clear hcode
    go_enter Try.func3, Try.ntmps3
    go_wp2_with fail
    refine (drawMissingOf W.heap.size A n c _ Hcode.out hn hm (Nat.le_refl _)).mono ?_
    rintro e w1 ⟨g1, c1, zs, rfl, hl1, hg1, o1, bl⟩
    clear Hcode
    have lys := missing_length zs
    go_wp2_with fail
    refine (implMissingOf _ _ zs _ (ownPacket o1 rfl) (by omega)).mono ?_
    rintro e w2 ⟨g2, c2, rfl, hg2, o2, hb⟩
    have o1 := o1.below hb
    have bl := bl.trans (hb.mono bl.size)
    clear hb
    go_wp2_with fail
    refine (specMissingOf _ _ zs _ (ownPacket o1 rfl) (by omega)).mono ?_
    rintro e w3 ⟨g3, c3, rfl, hg3, o3, hb⟩
    have o1 := o1.below hb
    have o2 := o2.below hb
    have bl := bl.trans (hb.mono bl.size)
    clear hb
    go_wp2_with fail
    refine (sameInts_b _ _ _ _ (missing zs) _ (own_ints o2) (own_ints o3) (by omega)).mono ?_
    rintro e w4 ⟨rfl, hb⟩
    have o1 := o1.below hb
    have o2 := o2.below hb
    have o3 := o3.below hb
    have bl := bl.trans (hb.mono bl.size)
    clear hb
    go_wp2_with fail
    obtain ⟨m, hmm⟩ : ∃ m, zs.length = m := ⟨_, rfl⟩
    obtain ⟨q, hq⟩ : ∃ q, (missing zs).length = q := ⟨_, rfl⟩
    have cA := hide (packet_cells (ownPacket o1 rfl))
    have cO := hide (fun k hk => own_cellI o2 rfl (k := k) hk)
    have hf := hide (fun i hi => missing_facts (zs := zs) (i := i) hi)
    rw [hmm] at cA hf hl1 ⊢
    rw [hq] at cO hf lys ⊢
    clear o1 o2 o3 hmm hq
    go_loopw [6] (fun i wr => ∃ k d : Nat, k ≤ q ∧ i = .int .i64 k ∧ wr = w4.drewN d) (fun i _ => q - (intOf i).toNat)
    case atStart => exact ⟨0, 0, by omega, rfl, rfl⟩
    case round =>
      obtain ⟨k, d, hk, rfl, rfl⟩ := hrel
      by_cases hk' : k < q
      · obtain ⟨_, f1, f2, f3, f4, f5⟩ := hf.out k hk'
        have hy := cO.out k hk'
        have hx0 := cA.out 0 (by omega)
        have hx1 := cA.out (m - 1) (by omega)
        rw [Nat.zero_mul] at hx0
        obtain ⟨y, ey⟩ : ∃ y, (missing zs).getD k 0 = y := ⟨_, rfl⟩
        obtain ⟨x0, h0⟩ : ∃ x, (zs.getD 0 default).a0 = x := ⟨_, rfl⟩
        obtain ⟨x1, h1⟩ : ∃ x, (zs.getD (m - 1) default).a0 = x := ⟨_, rfl⟩
        rw [ey] at hy f2 f3 f4 f5
        rw [h0] at hx0 f2
        rw [h1] at hx1 f3
        have F4 := hide f4
        have F5 := hide f5
        have g2 : (k : Int) < (q : Int) := by omega
        have g3 : (m : Int) - 1 < (m : Int) := by omega
        have g4 : 0 ≤ (m : Int) - 1 := by omega
        have g5 : IntKind.i64.wrap ((m : Int) - 1) = (m : Int) - 1 := IntWalk.i64_in _ (by omega)
        have g6 : ((m : Int) - 1).toNat = m - 1 := by omega
        have g7 : (0 : Int) < (m : Int) := by omega
        have g9 : (1 : Int) ≤ (m : Int) := by omega
        have t1 : decide (y ≤ x0) = false := decide_eq_false (by omega)
        have t2 : decide (x1 ≤ y) = false := decide_eq_false (by omega)
        clear f4 f5 ey h0 h1
        have hloop : Hid (k < q) := hk'
        by_cases hk0 : k = 0
        all_goals
          first
            | (have e0 : decide (0 < k) = false := decide_eq_false (by omega)
               have HK0 := hide hk0
               clear hk0
               go_wp2_with fail
               go_quiet (fail)
               clear e0)
            | (have hz := cO.out (k - 1) (by omega)
               have hzy := F5.out (by omega)
               obtain ⟨z, ez⟩ : ∃ z, (missing zs).getD (k - 1) 0 = z := ⟨_, rfl⟩
               rw [ez] at hz hzy
               have e0 : decide (0 < k) = true := decide_eq_true (by omega)
               have t3 : decide (y ≤ z) = false := decide_eq_false (by omega)
               have k3 : (k : Int) - 1 < (q : Int) := by omega
               have k4 : 0 ≤ (k : Int) - 1 := by omega
               have k5 : IntKind.i64.wrap ((k : Int) - 1) = (k : Int) - 1 := IntWalk.i64_in _ (by omega)
               have k6 : ((k : Int) - 1).toNat = k - 1 := by omega
               have k9 : (1 : Int) ≤ (k : Int) := by omega
               clear ez
               go_wp2_with fail
               go_quiet (fail)
               clear e0 t3 k5 k6)
          clear g5 g6
          go_wp2_with fail
          go_loopw [7] (fun i wr => ∃ j d : Nat, j ≤ m ∧ i = .int .i64 j ∧ wr = w4.drewN d) (fun i _ => m - (intOf i).toNat)
          case atStart => exact ⟨0, d + nq, by omega, rfl, by first | rfl | simp⟩
          case round =>
            obtain ⟨j, d3, hj, rfl, rfl⟩ := hrel
            by_cases hj' : j < m
            · have hw := cA.out j hj'
              have hne := F4.out j hj'
              obtain ⟨wd, ewd⟩ : ∃ x, (zs.getD j default).a0 = x := ⟨_, rfl⟩
              rw [ewd] at hw hne
              have g8 : (j : Int) < (m : Int) := by omega
              have hne' : (wd == y) = false := by simpa using hne
              clear ewd hne
              go_wp2_with fail
              go_quiet (fail)
              clear hne'
              go_wp2_with fail
              go_roundw
              case rel => exact ⟨j + 1, d3 + nq, by omega, by go_num, by first | rfl | simp⟩
              case measure => simp [intOf]; omega
            · go_wp2_with fail
              go_roundw
              case rel => exact ⟨k + 1, d3, by omega, by go_num, by first | rfl | simp⟩
              case measure => simp [intOf]; omega
      · have q60 : (q : Int) ≤ 60 := by omega
        go_wp2_with fail
        go_ret
        exact ⟨by first | rfl | (simp; done) | (simp; omega), below_drewN' bl d⟩
end Go.Proofs.Ytnddgbnanjikmaa
