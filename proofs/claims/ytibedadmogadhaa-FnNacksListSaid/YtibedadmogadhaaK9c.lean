/- Walks of FnNacksList. -/
import Derived.Test.YtibedadmogadhaaK6
import Derived.Test.YtibedadmogadhaaK9b
import Derived.Test.YtibedadmogadhaaK9a
namespace Go.Proofs.Ytibedadmogadhaa
open Go.ChangeShapes Go.WideShapes Go.ChangeAt Go.RowKit Go.Deep

theorem own_cellI {w : World} {g n c k : Nat} {ys : List Int} (h : Own w 3 1 g n c (ys.map (Value.int .i64))) (hn : ys.length = n) (hk : k < n) : w.cell? ⟨g, k, none⟩ = some (.int .i64 (ys.getD k 0)) := by
  rw [h.cell (by omega), List.getElem?_map, List.getElem?_eq_getElem (by omega), List.getD_eq_getElem?_getD, List.getElem?_eq_getElem (by omega)]
  rfl
/-- What a list of nacks that holds asks for. -/
theorem list_good {ns : List VNack} {ys : List Int} (h : relNacksList ns ys true) : okA ys ys.length ∧ relNacksOf ys (nk ys) true ∧ (nk ys).length ≤ 60 ∧ relNacksList (nk ys) ys true ∧ (0 < ns.length → 0 < ys.length ∧ ys.getD 0 0 = (ns.getD 0 default).a0) := by
  rcases h with ⟨h1, h2, _⟩ | ⟨_, _, h3⟩
  · unfold listB at h1
    rw [Bool.and_eq_true] at h1
    have ha : ascB ys = true := by rw [h2]; exact h1.2
    obtain ⟨hb, hc⟩ := nacks_back ha
    have hok := of_decide_eq_true ha
    refine ⟨hok.1, .inl ⟨ha, rfl, rfl⟩, by omega, hb, fun h0 => ?_⟩
    cases ns with
    | nil => simp at h0
    | cons x t =>
      rw [h2]
      exact ⟨by unfold expands expand expandTo; simp, rfl⟩
  · cases h3
set_option maxHeartbeats 4000000 in
theorem walk_fnNacksList {H : Type} {enc : TypeId × Value → H} (W : World) (base : Nat) (v : Value) (d : DataW H) (p : List MemPlace) (o : Value.okWide Try.prog W .any base 22 v) (h : DataW.Trod enc Try.prog W 0 (fun _ => true) true 22 v d p) :
    Calls Try.prog 11 #[v] W (RetB true W) := by
  obtain ⟨A, n, c, rfl, hn, hm, hcode⟩ := open_code W base v d p o h
  clear o h
  by_cases hbig : 1048576 < (n : Int)
  · clear hcode
    go_enter Try.func11, Try.ntmps11
    go_wp2_with fail
    go_ret
    refine ⟨rfl, ?_⟩
    (repeat' (first | (with_reducible exact Below.refl _ _) | (with_reducible assumption) | (with_reducible refine Below.alloc ?_ ?_ _) | (with_reducible refine Below.setCell ?_ ?_ _) | (with_reducible refine Below.drew ?_) | (with_reducible refine below_drewN' ?_ _) | (with_reducible refine below_step (by assumption) ?_ ?_) | (with_reducible refine below_gstep (by assumption) ?_ ?_ ?_) | (with_reducible exact Below.size (by assumption)) | omega | (simp; done) | (simp; omega)))
  · have Hcode := hide hcode
    clear hcode
    go_enter Try.func11, Try.ntmps11
    go_wp2_with fail
    refine (drawNacksList W.heap.size A n c _ Hcode.out hn hm (Nat.le_refl _)).mono ?_
    rintro e w1 ⟨g1, c1, zs, rfl, hl1, hg1, o1, bl⟩
    clear Hcode
    obtain ⟨ys, B, hR⟩ := relNacksList_some zs
    have HR := hide hR
    have hly := relList_len hR
    clear hR
    go_wp2_with fail
    refine (implNacksList _ _ zs ys B _ HR.out (ownNack o1 rfl) (by omega)).mono ?_
    rintro e w2 ⟨g2, c2, rfl, hg2, o2, hb⟩
    have o1 := o1.below hb
    have bl := bl.trans (hb.mono bl.size)
    clear hb
    go_wp2_with fail
    refine (specNacksList _ _ zs ys B _ HR.out (ownNack o1 rfl) (by omega)).mono ?_
    rintro e w3 ⟨g3, c3, rfl, hg3, o3, hb⟩
    have o1 := o1.below hb
    have o2 := o2.below hb
    have bl := bl.trans (hb.mono bl.size)
    clear hb
    have I2 := hide (own_ints o2)
    have I3 := hide (own_ints o3)
    have O1 := hide o1
    have O2 := hide o2
    clear o1 o2 o3
    cases B
    · go_wp2_with fail
      refine (sameInts_same _ _ _ _ ys _ I2.out I3.out (by omega)).mono ?_
      rintro e w4 ⟨rfl, n4, rfl⟩
      go_wp2_with fail
      refine (sameInts_same _ _ _ _ ys _ (I2.out.drewN n4) (I3.out.drewN n4) (by omega)).mono ?_
      rintro e w5 ⟨rfl, n5, rfl⟩
      go_wp2_with fail
      go_ret
      exact ⟨rfl, below_drewN' bl (n4 + n5)⟩
    · obtain ⟨k1, k2, k3, k4, k5⟩ := list_good HR.out
      have K1 := hide k1
      have K2 := hide k2
      have K4 := hide k4
      have K5 := hide k5
      clear k1 k2 k4 k5
      go_wp2_with fail
      refine (sameInts_same _ _ _ _ ys _ I2.out I3.out (by omega)).mono ?_
      rintro e w4 ⟨rfl, n4, rfl⟩
      have bl4 := below_drewN' bl n4
      have O1 := hide (O1.out.drewN n4)
      have O2 := hide (O2.out.drewN n4)
      generalize w3.drewN n4 = w4 at *
      clear bl I3 I2
      have cO := hide (fun k hk => own_cellI O2.out rfl (k := k) hk)
      obtain ⟨q, hq⟩ : ∃ q, ys.length = q := ⟨_, rfl⟩
      have Hq := hide hq
      rw [hq] at cO hly ⊢
      clear hq
      go_wp2_with fail
      go_loopw [8] (fun i wr => ∃ k m : Nat, 1 ≤ k ∧ i = .int .i64 k ∧ k ≤ q + 1 ∧ wr = w4.drewN m) (fun i _ => q + 1 - (intOf i).toNat)
      case atStart => exact ⟨1, 0, by omega, rfl, by omega, rfl⟩
      case round =>
        obtain ⟨k, m, hk1, rfl, hk, rfl⟩ := hrel
        by_cases hk' : k < q
        · have hy := cO.out k hk'
          have hz := cO.out (k - 1) (by omega)
          have hlt := (K1.out k (by rw [Hq.out]; exact hk')).2.2 (by omega)
          obtain ⟨y, ey⟩ : ∃ y, ys.getD k 0 = y := ⟨_, rfl⟩
          obtain ⟨z, ez⟩ : ∃ y, ys.getD (k - 1) 0 = y := ⟨_, rfl⟩
          rw [ey] at hy hlt
          rw [ez] at hz hlt
          have g2 : (k : Int) < (q : Int) := by omega
          have t3 : decide (y ≤ z) = false := decide_eq_false (by omega)
          have k3' : (k : Int) - 1 < (q : Int) := by omega
          have k4' : 0 ≤ (k : Int) - 1 := by omega
          have k5' : IntKind.i64.wrap ((k : Int) - 1) = (k : Int) - 1 := IntWalk.i64_in _ (by omega)
          have k6' : ((k : Int) - 1).toNat = k - 1 := by omega
          have k9' : (1 : Int) ≤ (k : Int) := by omega
          clear ey ez
          go_wp2_with fail
          go_quiet (fail)
          clear t3 k5' k6'
          go_wp2_with fail
          go_roundw
          case rel => exact ⟨k + 1, m + nq, by omega, by go_num, by omega, by first | rfl | simp⟩
          case measure => simp [intOf]; omega
        · have gk : ¬ (k : Int) < (q : Int) := by omega
          have hx1 := fun w h => implNacksOf (some ⟨g2, 0, none⟩) c2 ys (nk ys) true w K2.out h (by have := Hq.out; omega)
          rw [Hq.out] at hx1
          have HX1 := hide hx1
          clear hx1
          go_wp2_with fail
          refine (HX1.out _ (own_ints (O2.out.drewN m))).mono ?_
          rintro e w5 ⟨g5, c5, rfl, hg5, o5, hb⟩
          have O1 := hide ((O1.out.drewN m).below hb)
          have O2 := hide ((O2.out.drewN m).below hb)
          have bl5 := (below_drewN' bl4 m).trans (hb.mono (below_drewN' bl4 m).size)
          clear hb
          go_wp2_with fail
          refine (implNacksList _ _ (nk ys) ys true _ K4.out (ownNack o5 rfl) (by omega)).mono ?_
          rintro e w6 ⟨g6, c6, rfl, hg6, o6, hb⟩
          have O1 := hide (O1.out.below hb)
          have O2 := hide (O2.out.below hb)
          have bl6 := bl5.trans (hb.mono bl5.size)
          clear hb o5
          have hS := fun w h1 h2 => sameInts_same (some ⟨g6, 0, none⟩) (some ⟨g2, 0, none⟩) c6 c2 ys w h1 h2 (by have := Hq.out; omega)
          rw [Hq.out] at hS
          have HS := hide hS
          have I6 := hide (own_ints o6)
          have I2 := hide (own_ints O2.out)
          clear hS
          rw [Hq.out]
          by_cases h0 : zs.length = 0
          · have e0 : ((zs.length : Int) == 0) = true := by simp [h0]
            have H0 := hide h0
            clear h0
            go_wp2_with fail
            go_quiet ((go_at_call 37; exact quiet_addQ (HS.out _ (I6.out.drewN _) (I2.out.drewN _))))
            go_wp2_with fail
            go_ret
            exact ⟨by first | rfl | (simp; done), below_drewN' bl6 _⟩
          · have e0 : ((zs.length : Int) == 0) = false := by simp only [beq_eq_false_iff_ne, ne_eq]; omega
            obtain ⟨f1, f2⟩ := K5.out (by omega)
            have hy := own_cellI O2.out rfl f1
            have hb0 : w6.cell? ⟨g1, 0, none⟩ = some (.int .i64 (zs.getD 0 default).a0) := by
              obtain ⟨b, off, he, _, hc⟩ := NackAt.at (ownNack O1.out rfl) (by omega)
              simp only [Option.some.injEq, Addr.mk.injEq, and_true] at he
              obtain ⟨rfl, rfl⟩ := he
              have := (hc 0 (by omega)).1
              rwa [Nat.zero_mul, Nat.zero_add] at this
            rw [f2] at hy
            obtain ⟨x, hx⟩ : ∃ x, (zs.getD 0 default).a0 = x := ⟨_, rfl⟩
            rw [hx] at hy hb0
            have g7 : (0 : Int) < (zs.length : Int) := by omega
            have g8 : (0 : Int) < (q : Int) := by have := Hq.out; omega
            clear hx f1 f2 h0
            go_wp2_with fail
            go_quiet ((go_at_call 37; exact quiet_addQ (HS.out _ (I6.out.drewN _) (I2.out.drewN _))))
            go_wp2_with fail
            go_ret
            exact ⟨by first | rfl | (simp; done), below_drewN' bl6 _⟩
end Go.Proofs.Ytibedadmogadhaa
