/- Walk of FnParityLength. -/
import Derived.Test.YtppomcgkmjnpmaaP6
namespace Go.Proofs.Ytppomcgkmjnpmaa
open Go.ChangeShapes Go.WideShapes Go.ChangeAt Go.RowKit Go.Deep

set_option maxHeartbeats 4000000 in
theorem walk_fnParityLength {H : Type} {enc : TypeId × Value → H} (W : World) (base : Nat) (v : Value) (d : DataW H) (p : List MemPlace) (o : Value.okWide Try.prog W .any base 22 v) (h : DataW.Trod enc Try.prog W 0 (fun _ => true) true 22 v d p) :
    Calls Try.prog 3 #[v] W (RetB true W) := by
  obtain ⟨A, n, c, rfl, hn, hm, hcode⟩ := open_code W base v d p o h
  clear o h
  by_cases hbig : 1048576 < (n : Int)
  · clear hcode
    go_enter Try.func3, Try.ntmps3
    go_wp2_with fail
    go_ret
    refine ⟨rfl, ?_⟩
    (repeat' (first | (with_reducible exact Below.refl _ _) | (with_reducible assumption) | (with_reducible refine Below.alloc ?_ ?_ _) | (with_reducible refine Below.setCell ?_ ?_ _) | (with_reducible refine Below.drew ?_) | (with_reducible refine below_drewN' ?_ _) | (with_reducible refine below_step (by assumption) ?_ ?_) | (with_reducible refine below_gstep (by assumption) ?_ ?_ ?_) | (with_reducible exact Below.size (by assumption)) | omega | (simp; done) | (simp; omega)))
  have Hcode := hide hcode
  clear hcode
  go_enter Try.func3, Try.ntmps3
  go_wp2_with fail
  refine (drawParityOf W.heap.size A n c _ Hcode.out hn hm (Nat.le_refl _)).mono ?_
  rintro e w1 ⟨g1, c1, bs, rfl, hl1, hf1, ob1, hg1, bl⟩
  clear Hcode
  obtain ⟨q, hq⟩ : ∃ q, bs.length = q := ⟨_, rfl⟩
  rw [hq] at hl1 ob1 ⊢
  obtain ⟨ys, B, hR⟩ := relPar_some (bs.map VBod.zs)
  have Hf := hide hf1
  have Hq := hide hq
  have HR := hide hR
  have hly := (relPar_bd hR).1
  clear hR hf1 hq
  go_wp2_with fail
  refine (implParOwn ob1 HR.out (by omega)).mono ?_
  rintro e w2 ⟨g2, c2, rfl, hg2, o2, hb⟩
  have ob1 := ob1.below hb
  have bl := bl.trans (hb.mono bl.size)
  clear hb
  go_wp2_with fail
  refine (specParOwn ob1 HR.out (by omega)).mono ?_
  rintro e w3 ⟨g3, c3, rfl, hg3, o3, hb⟩
  have ob1 := ob1.below hb
  have o2 := o2.below hb
  have bl := bl.trans (hb.mono bl.size)
  clear hb
  have N2 := hide (own_ints o2)
  have N3 := hide (own_ints o3)
  have Ob := hide ob1
  have O2 := hide o2
  have Bl := hide bl
  have r1 := ob1.1.room
  have l1 := ob1.lt
  clear o2 o3 ob1 bl
  cases B
  · go_wp2_with fail
    refine (sameInts_same _ _ _ _ ys _ N2.out N3.out (by omega)).mono ?_
    rintro e w4 ⟨rfl, n4, rfl⟩
    go_wp2_with fail
    refine (sameInts_same _ _ _ _ ys _ (N2.out.drewN n4) (N3.out.drewN n4) (by omega)).mono ?_
    rintro e w5 ⟨rfl, n5, rfl⟩
    go_wp2_with fail
    go_ret
    exact ⟨rfl, below_drewN' Bl.out (n4 + n5)⟩
  · obtain ⟨hall, hlo, hhi, rfl⟩ := relPar_true HR.out
    rw [List.length_map, Hq.out] at hlo hhi
    have Hall := hide hall
    obtain ⟨m, hmm⟩ : ∃ m, (par [0] (bs.map VBod.zs)).length = m := ⟨_, rfl⟩
    have Hm := hide hmm
    have KS := hide (fun w h1 h2 => sameInts_same (some ⟨g2, 0, none⟩) (some ⟨g3, 0, none⟩) c2 c3 (par [0] (bs.map VBod.zs)) w h1 h2 (by omega))
    rw [hmm] at KS hly O2 ⊢
    clear hall hmm
    go_wp2_with fail
    refine (KS.out _ N2.out N3.out).mono ?_
    rintro e w4 ⟨rfl, n4, rfl⟩
    have Bl := hide (below_drewN' Bl.out n4)
    have Ob := hide (Ob.out.drewN n4)
    have O2 := hide (O2.out.drewN n4)
    generalize w3.drewN n4 = w4 at *
    clear N2 N3 HR KS
    go_wp2_with fail
    go_loopw [8, 9] (fun s i wr => ∃ k : Nat, k ≤ q ∧ i = .int .i64 k ∧ s = .int .i64 ((maxL ((bs.map VBod.zs).take k) : Nat) : Int) ∧ wr = w4) (fun _ i _ => q - (intOf i).toNat)
    case atStart => exact ⟨0, by omega, rfl, rfl, rfl⟩
    case round =>
      obtain ⟨k, hk, rfl, rfl, rfl⟩ := hrel
      by_cases hk' : k < q
      · have g2 : (k : Int) < (q : Int) := by omega
        have hz := bod_cell Ob.out hk'
        have hn := maxL_next (bs.map VBod.zs) (k := k) (by rw [List.length_map, Hq.out]; exact hk')
        rw [bod_getD (by rw [Hq.out]; exact hk')] at hn
        obtain ⟨x, hx⟩ : ∃ x, bs.getD k default = x := ⟨_, rfl⟩
        rw [hx] at hz hn
        obtain ⟨l, hl⟩ : ∃ l, x.zs.length = l := ⟨_, rfl⟩
        obtain ⟨mx, hmx⟩ : ∃ l, maxL ((bs.map VBod.zs).take k) = l := ⟨_, rfl⟩
        unfold VBod.val at hz
        rw [hl] at hz hn
        rw [hmx] at hn ⊢
        have Hn := hide hn
        clear hx hl hmx hn
        by_cases hc : mx < l
        · have hc2 : (mx : Int) < (l : Int) := by omega
          go_wp2_with fail
          go_roundw
          case rel => exact ⟨k + 1, by omega, by go_num, by rw [Hn.out, show max mx l = l by omega], by first | rfl | trivial⟩
          case measure => simp [intOf]; omega
        · have hc2 : ¬ (mx : Int) < (l : Int) := by omega
          go_wp2_with fail
          go_roundw
          case rel => exact ⟨k + 1, by omega, by go_num, by rw [Hn.out, show max mx l = mx by omega], by first | rfl | trivial⟩
          case measure => simp [intOf]; omega
      · have hkq : k = q := by omega
        subst hkq
        have hpl := par_length0 (bs.map VBod.zs)
        rw [Hm.out] at hpl
        have ht : (bs.map VBod.zs).take k = bs.map VBod.zs := List.take_of_length_le (by rw [List.length_map, Hq.out]; omega)
        rw [ht]
        obtain ⟨mx, hmx⟩ : ∃ l, maxL (bs.map VBod.zs) = l := ⟨_, rfl⟩
        rw [hmx] at hpl ⊢
        subst hpl
        have w0 : IntKind.i64.wrap ((mx : Int) + 1) = (mx : Int) + 1 := IntWalk.i64_in _ (by omega)
        clear hmx ht Hm O2
        go_wp2_with fail
        go_ret
        exact ⟨by first | rfl | (simp; done) | (simp; omega), Bl.out⟩
end Go.Proofs.Ytppomcgkmjnpmaa

