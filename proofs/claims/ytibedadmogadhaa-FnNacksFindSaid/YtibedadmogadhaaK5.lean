/- Walks of FnNacksFew and FnNacksMore. -/
import Derived.Test.YtibedadmogadhaaK2
import Derived.Test.YtibedadmogadhaaK3
namespace Go.Proofs.Ytibedadmogadhaa
open Go.ChangeShapes Go.WideShapes Go.ChangeAt Go.RowKit Go.Deep

theorem relOf_len {zs : List Int} {ys : List VNack} {B : Bool} (h : relNacksOf zs ys B) : ys.length ≤ 60 := by
  rcases h with ⟨h1, rfl, _⟩ | ⟨_, rfl, _⟩
  · obtain ⟨a, b⟩ := of_decide_eq_true h1
    have := (nk_inv zs a).len
    omega
  · simp
set_option maxHeartbeats 2000000 in
theorem walk_fnNacksFew {H : Type} {enc : TypeId × Value → H} (W : World) (base : Nat) (v : Value) (d : DataW H) (p : List MemPlace) (o : Value.okWide Try.prog W .any base 22 v) (h : DataW.Trod enc Try.prog W 0 (fun _ => true) true 22 v d p) :
    Calls Try.prog 5 #[v] W (RetB true W) := by
  obtain ⟨A, n, c, rfl, hn, hm, hcode⟩ := open_code W base v d p o h
  clear o h
  by_cases hbig : 1048576 < (n : Int)
  · clear hcode
    go_enter Try.func5, Try.ntmps5
    go_wp2_with fail
    go_ret
    refine ⟨rfl, ?_⟩
    (repeat' (first | (with_reducible exact Below.refl _ _) | (with_reducible assumption) | (with_reducible refine Below.alloc ?_ ?_ _) | (with_reducible refine Below.setCell ?_ ?_ _) | (with_reducible refine Below.drew ?_) | (with_reducible refine below_drewN' ?_ _) | (with_reducible refine below_step (by assumption) ?_ ?_) | (with_reducible refine below_gstep (by assumption) ?_ ?_ ?_) | (with_reducible exact Below.size (by assumption)) | omega | (simp; done) | (simp; omega)))
  · have Hcode := hide hcode
    clear hcode
    go_enter Try.func5, Try.ntmps5
    go_wp2_with fail
    refine (drawNacksOf W.heap.size A n c _ Hcode.out hn hm (Nat.le_refl _)).mono ?_
    rintro e w1 ⟨g1, c1, zs, rfl, hl1, hg1, o1, bl⟩
    clear Hcode
    obtain ⟨ys, B, hR⟩ := relNacksOf_some zs
    have HR := hide hR
    have hly := relOf_len hR
    clear hR
    go_wp2_with fail
    refine (implNacksOf _ _ zs ys B _ HR.out (own_ints o1) (by omega)).mono ?_
    rintro e w2 ⟨g2, c2, rfl, hg2, o2, hb⟩
    have o1 := o1.below hb
    have bl := bl.trans (hb.mono bl.size)
    clear hb
    go_wp2_with fail
    refine (specNacksOf _ _ zs ys B _ HR.out (own_ints o1) (by omega)).mono ?_
    rintro e w3 ⟨g3, c3, rfl, hg3, o3, hb⟩
    have o2 := o2.below hb
    have bl := bl.trans (hb.mono bl.size)
    clear hb
    have N2 := hide (ownNack o2 rfl)
    have N3 := hide (ownNack o3 rfl)
    clear o1 o2 o3
    cases B
    · go_wp2_with fail
      refine (sameNacks_same _ _ _ _ ys _ N2.out N3.out (by omega)).mono ?_
      rintro e w4 ⟨rfl, n4, rfl⟩
      go_wp2_with fail
      refine (sameNacks_same _ _ _ _ ys _ (N2.out.drewN n4) (N3.out.drewN n4) (by omega)).mono ?_
      rintro e w5 ⟨rfl, n5, rfl⟩
      go_wp2_with fail
      go_ret
      exact ⟨rfl, below_drewN' bl (n4 + n5)⟩
    · go_wp2_with fail
      refine (sameNacks_same _ _ _ _ ys _ N2.out N3.out (by omega)).mono ?_
      rintro e w4 ⟨rfl, n4, rfl⟩
      have bl4 := below_drewN' bl n4
      have N2 := hide (N2.out.drewN n4)
      generalize w3.drewN n4 = w4 at *
      clear bl N3
      have hgap : Hid (∀ i, i + 1 < ys.length → 16 < (ys.getD (i + 1) default).a0 - (ys.getD i default).a0 ∧ 0 ≤ (ys.getD i default).a0 ∧ (ys.getD (i + 1) default).a0 ≤ 999999) := by
        rcases HR.out with ⟨h1, rfl, _⟩ | ⟨_, _, h3⟩
        · have I := nk_inv zs (of_decide_eq_true h1).1
          refine hide fun i hi => ⟨I.gap i hi, ?_⟩
          have hm : ∀ j, j < (nk zs).length → nackB ((nk zs).getD j default) = true := fun j hj => I.ok _ (by rw [List.getD_eq_getElem?_getD, List.getElem?_eq_getElem hj]; exact List.getElem_mem hj)
          have a := of_decide_eq_true (hm i (by omega))
          have b := of_decide_eq_true (hm (i + 1) hi)
          exact ⟨a.1, b.2.1⟩
        · cases h3
      go_wp2_with fail
      go_loopw [8] (fun i wr => ∃ k m : Nat, 1 ≤ k ∧ i = .int .i64 k ∧ k ≤ ys.length + 1 ∧ wr = w4.drewN m) (fun i _ => ys.length + 1 - (intOf i).toNat)
      case atStart => exact ⟨1, 0, by omega, rfl, by omega, rfl⟩
      case round =>
        obtain ⟨k, m, hk1, rfl, hk, rfl⟩ := hrel
        by_cases hk' : k < ys.length
        · obtain ⟨b, off, he, hlt, hc⟩ := NackAt.at N2.out (by omega)
          have hA := (hc k hk').1
          have hB := (hc (k - 1) (by omega)).1
          simp only [Option.some.injEq, Addr.mk.injEq, and_true] at he
          obtain ⟨rfl, rfl⟩ := he
          rw [Nat.zero_add] at hA hB
          clear hc
          have hg := hgap.out (k - 1) (by omega)
          rw [Nat.sub_add_cancel hk1] at hg
          obtain ⟨x, hx⟩ : ∃ x, (ys.getD k default).a0 = x := ⟨_, rfl⟩
          obtain ⟨y, hy⟩ : ∃ y, (ys.getD (k - 1) default).a0 = y := ⟨_, rfl⟩
          rw [hx] at hA hg
          rw [hy] at hB hg
          obtain ⟨hg, hy0, hx9⟩ := hg
          clear hx hy
          have g2 : (k : Int) < (ys.length : Int) := by omega
          have g3 : (k : Int) - 1 < (ys.length : Int) := by omega
          have g4 : 0 ≤ (k : Int) - 1 := by omega
          have g5 : IntKind.i64.wrap ((k : Int) - 1) = (k : Int) - 1 := IntWalk.i64_in _ (by omega)
          have g6 : ((k : Int) - 1).toNat = k - 1 := by omega
          have g7 : IntKind.i64.wrap (x - y) = x - y := IntWalk.i64_in _ (by omega)
          have g8 : decide (x - y ≤ 16) = false := decide_eq_false (by omega)
          go_wp2_with fail
          go_quiet (fail)
          clear g5 g6 g7
          go_wp2_with fail
          go_roundw
          case rel => exact ⟨k + 1, m + nq, by omega, by go_num, by omega, by simp⟩
          case measure => simp [intOf]; omega
        · go_wp2_with fail
          go_ret
          exact ⟨rfl, below_drewN' bl4 m⟩
end Go.Proofs.Ytibedadmogadhaa
