/- Walk of FnParityOrder. -/
import Derived.Test.YtppomcgkmjnpmaaP6
namespace Go.Proofs.Ytppomcgkmjnpmaa
open Go.ChangeShapes Go.WideShapes Go.ChangeAt Go.RowKit Go.Deep

set_option maxHeartbeats 4000000 in
theorem walk_fnParityOrder {H : Type} {enc : TypeId × Value → H} (W : World) (base : Nat) (v : Value) (d : DataW H) (p : List MemPlace) (o : Value.okWide Try.prog W .any base 22 v) (h : DataW.Trod enc Try.prog W 0 (fun _ => true) true 22 v d p) :
    Calls Try.prog 5 #[v] W (RetB true W) := by
  obtain ⟨A, n, c, rfl, hn, hm, hcode⟩ := open_code W base v d p o h
  clear o h
  by_cases hbig : 1048576 < (n : Int)
  · clear hcode
    go_enter Try.func5, Try.ntmps5
    go_wp2_with fail
    go_ret
    refine ⟨rfl, ?_⟩
    (repeat' (first | (with_reducible exact Below.refl _ _) | (with_reducible assumption) | (with_reducible refine Below.alloc ?_ ?_ _) | (with_reducible refine Below.setCell ?_ ?_ _) | (with_reducible refine Below.drew ?_) | (with_reducible refine below_drewN' ?_ _) | (with_reducible refine below_step (by assumption) ?_ ?_) | (with_reducible refine below_gstep (by assumption) ?_ ?_ ?_) | (with_reducible exact Below.size (by assumption)) | omega | (simp; done) | (simp; omega)))
  have Hcode := hide hcode
  clear hcode
  go_enter Try.func5, Try.ntmps5
  go_wp2_with fail
  refine (drawParityOf W.heap.size A n c _ Hcode.out hn hm (Nat.le_refl _)).mono ?_
  rintro e w1 ⟨g1, c1, bs, rfl, hl1, hf1, ob1, hg1, bl⟩
  clear Hcode
  obtain ⟨q, hq⟩ : ∃ q, bs.length = q := ⟨_, rfl⟩
  rw [hq] at hl1 ob1 ⊢
  obtain ⟨ys, B, hR⟩ := relPar_some (bs.map VBod.zs)
  have Hf := hide hf1
  have Hq := hide hq
  have HR := hide hR
  have hly := (relPar_bd hR).1
  clear hR hf1 hq
  go_wp2_with fail
  refine (implParOwn ob1 HR.out (by omega)).mono ?_
  rintro e w2 ⟨g2, c2, rfl, hg2, o2, hb⟩
  have ob1 := ob1.below hb
  have bl := bl.trans (hb.mono bl.size)
  clear hb
  go_wp2_with fail
  refine (specParOwn ob1 HR.out (by omega)).mono ?_
  rintro e w3 ⟨g3, c3, rfl, hg3, o3, hb⟩
  have ob1 := ob1.below hb
  have o2 := o2.below hb
  have bl := bl.trans (hb.mono bl.size)
  clear hb
  have N2 := hide (own_ints o2)
  have N3 := hide (own_ints o3)
  have Ob := hide ob1
  have O2 := hide o2
  have Bl := hide bl
  have r1 := ob1.1.room
  have l1 := ob1.lt
  clear o2 o3 ob1 bl
  cases B
  · go_wp2_with fail
    refine (sameInts_same _ _ _ _ ys _ N2.out N3.out (by omega)).mono ?_
    rintro e w4 ⟨rfl, n4, rfl⟩
    go_wp2_with fail
    refine (sameInts_same _ _ _ _ ys _ (N2.out.drewN n4) (N3.out.drewN n4) (by omega)).mono ?_
    rintro e w5 ⟨rfl, n5, rfl⟩
    go_wp2_with fail
    go_ret
    exact ⟨rfl, below_drewN' Bl.out (n4 + n5)⟩
  · obtain ⟨hall, hlo, hhi, rfl⟩ := relPar_true HR.out
    rw [List.length_map, Hq.out] at hlo hhi
    have Hall := hide hall
    obtain ⟨m, hmm⟩ : ∃ m, (par [0] (bs.map VBod.zs)).length = m := ⟨_, rfl⟩
    have Hm := hide hmm
    have KS := hide (fun w h1 h2 => sameInts_same (some ⟨g2, 0, none⟩) (some ⟨g3, 0, none⟩) c2 c3 (par [0] (bs.map VBod.zs)) w h1 h2 (by omega))
    rw [hmm] at KS hly O2 ⊢
    clear hall hmm
    go_wp2_with fail
    refine (KS.out _ N2.out N3.out).mono ?_
    rintro e w4 ⟨rfl, n4, rfl⟩
    have Bl := hide (below_drewN' Bl.out n4)
    have Ob := hide (Ob.out.drewN n4)
    have O2 := hide (O2.out.drewN n4)
    generalize w3.drewN n4 = w4 at *
    clear N2 N3 HR KS
    have Ox := hide (OwnBod.nil w4)
    have hgo := fun k x (hk : k < q) (hx : bs.getD k default = x) => bod_get Ob.out (k := k) (x := x) (by rw [Hq.out]; exact hk) hx
    have Hgo := hide hgo
    have hw1 : IntKind.i64.wrap ((q : Int) - 1) = (q : Int) - 1 := IntWalk.i64_in _ (by omega)
    have sb4 := Bl.out.size
    clear hgo
    go_wp2_with fail
    go_loopw [8, 9] (fun s i wr => ∃ k m g cp : Nat, k ≤ q ∧ i = .int .i64 ((k : Int) - 1) ∧ s = .slice (some ⟨g, 0, none⟩) m cp ∧ m = q - k ∧ w4.heap.size ≤ g ∧ OwnBod wr W.heap.size g m cp (bs.drop k).reverse ∧ Below w4.heap.size w4 wr) (fun _ i _ => (intOf i + 1).toNat)
    case atStart => exact ⟨q, 0, _, _, by omega, rfl, rfl, by omega, Nat.le_refl _, by rw [List.drop_of_length_le (by rw [Hq.out]; omega)]; exact Ox.out.more sb4, (Below.refl _ _).alloc (Nat.le_refl _) _⟩
    case round =>
      obtain ⟨k, m, g, cp, hk, rfl, rfl, hmq, hg, ox, bx⟩ := hrel
      clear Ox
      have Oy := hide ox
      have Bx := hide bx
      have hmq' := hide hmq
      have hmle : m ≤ q := by omega
      clear hmq
      have s4 := bx.size
      clear ox bx
      by_cases hk' : 0 < k
      · obtain ⟨j, rfl⟩ : ∃ j, k = j + 1 := ⟨k - 1, by omega⟩
        obtain ⟨x, hx⟩ : ∃ x, bs.getD j default = x := ⟨_, rfl⟩
        obtain ⟨hz, hxm, hxo, hxB, hxg⟩ := Hgo.out j x (by omega) hx
        have hxl := hxo.lt
        have hz := (Bx.out.cell (p := ⟨g1, j, none⟩) Ob.out.lt).trans hz
        have Hxo := hide (hxo.below Bx.out)
        have hrev := drop_rev (bs := bs) (k := j) (x := x) (by rw [Hq.out]; omega) hx
        have Hrev := hide hrev
        unfold VBod.val at hz
        obtain ⟨l, hll⟩ : ∃ l, x.zs.length = l := ⟨_, rfl⟩
        have hval : x.val = .slice (some ⟨x.g, 0, none⟩) l x.c := by unfold VBod.val; rw [hll]
        rw [hll] at hz
        obtain ⟨xg, hxgg⟩ : ∃ l, x.g = l := ⟨_, rfl⟩
        obtain ⟨xc, hxc⟩ : ∃ l, x.c = l := ⟨_, rfl⟩
        rw [hxgg, hxc] at hz hval
        have Hval := hide hval
        have e1 : (((j + 1 : Nat) : Int) - 1) = (j : Int) := by omega
        rw [e1]
        have g3 : (j : Int) < (q : Int) := by omega
        have w1 : IntKind.i64.wrap ((j : Int) - 1) = (j : Int) - 1 := IntWalk.i64_in _ (by omega)
        clear hx hrev hval hll hxc hxo
        go_wp2_with (first | (at_builtin; refine wpList_append_1 rfl _ _ _ rfl elemS rfl Oy.out.1 #[.slice (some ⟨xg, 0, none⟩) l xc] rfl rfl rfl (by omega) ?_; intro g7 cp7 w7 o7 hg7 hat7; have O7 := hide (Oy.out.snoc (x := x) Hxo.out hxB (by omega) (o7.conv (by rw [Hval.out])) hg7 hat7); have B7 := hide (Bx.out.grown hg7 s4 (by intro k hk; simp at hk; omega)); have lg7 : w4.heap.size ≤ g7 := (by omega); clear o7 hg7 hat7))
        go_roundw
        case rel => exact ⟨j, m + 1, g7, cp7, by omega, rfl, rfl, by have := hmq'.out; omega, lg7, by rw [Hrev.out]; exact O7.out, B7.out⟩
        case measure => first | (simp [intOf]; done) | (simp [intOf]; omega)
      · have hk0 : k = 0 := by omega
        subst hk0
        have hmm : m = q := by have := hmq'.out; omega
        subst hmm
        rw [List.drop_zero] at Oy
        have hrel2 : relPar (bs.reverse.map VBod.zs) (par [0] (bs.map VBod.zs)) true := rel_rev Hall.out (by rw [List.length_map, Hq.out]; omega) (by rw [List.length_map, Hq.out]; omega)
        have Hrel2 := hide hrel2
        have e1 : (((0 : Nat) : Int) - 1) = -1 := by omega
        rw [e1]
        clear hrel2 hmq'
        go_wp2_with fail
        refine (implParOwn Oy.out Hrel2.out (by omega)).mono ?_
        rintro e w5 ⟨g5, c5, rfl, hg5, o5, hb⟩
        have O22 := hide ((O2.out.below Bx.out).below hb)
        have BB := hide (Bl.out.trans ((Bx.out.mono Bl.out.size).trans (hb.mono (by omega))))
        rw [Hm.out] at o5 ⊢
        have O5 := hide o5
        clear o5 hb Oy
        go_wp2_with fail
        refine (sameOwn O5.out O22.out (by omega)).mono ?_
        rintro e w6 ⟨rfl, n6, rfl⟩
        go_wp2_with fail
        go_ret
        exact ⟨rfl, below_drewN' BB.out n6⟩
end Go.Proofs.Ytppomcgkmjnpmaa

