/- Walk of FnParityOne. -/
import Derived.Test.YtppomcgkmjnpmaaP6
namespace Go.Proofs.Ytppomcgkmjnpmaa
open Go.ChangeShapes Go.WideShapes Go.ChangeAt Go.RowKit Go.Deep

set_option maxHeartbeats 4000000 in
theorem walk_fnParityOne {H : Type} {enc : TypeId × Value → H} (W : World) (base : Nat) (v : Value) (d : DataW H) (p : List MemPlace) (o : Value.okWide Try.prog W .any base 22 v) (h : DataW.Trod enc Try.prog W 0 (fun _ => true) true 22 v d p) :
    Calls Try.prog 4 #[v] W (RetB true W) := by
  obtain ⟨A, n, c, rfl, hn, hm, hcode⟩ := open_code W base v d p o h
  clear o h
  by_cases hbig : 1048576 < (n : Int)
  · clear hcode
    go_enter Try.func4, Try.ntmps4
    go_wp2_with fail
    go_ret
    refine ⟨rfl, ?_⟩
    (repeat' (first | (with_reducible exact Below.refl _ _) | (with_reducible assumption) | (with_reducible refine Below.alloc ?_ ?_ _) | (with_reducible refine Below.setCell ?_ ?_ _) | (with_reducible refine Below.drew ?_) | (with_reducible refine below_drewN' ?_ _) | (with_reducible refine below_step (by assumption) ?_ ?_) | (with_reducible refine below_gstep (by assumption) ?_ ?_ ?_) | (with_reducible exact Below.size (by assumption)) | omega | (simp; done) | (simp; omega)))
  have Hcode := hide hcode
  clear hcode
  go_enter Try.func4, Try.ntmps4
  go_wp2_with fail
  refine (drawParityOf W.heap.size A n c _ Hcode.out hn hm (Nat.le_refl _)).mono ?_
  rintro e w1 ⟨g1, c1, bs, rfl, hl1, hf1, ob1, hg1, bl⟩
  clear Hcode
  obtain ⟨q, hq⟩ : ∃ q, bs.length = q := ⟨_, rfl⟩
  rw [hq] at hl1 ob1 ⊢
  obtain ⟨ys, B, hR⟩ := relPar_some (bs.map VBod.zs)
  have Hf := hide hf1
  have Hq := hide hq
  have HR := hide hR
  have hly := (relPar_bd hR).1
  clear hR hf1 hq
  go_wp2_with fail
  refine (implParOwn ob1 HR.out (by omega)).mono ?_
  rintro e w2 ⟨g2, c2, rfl, hg2, o2, hb⟩
  have ob1 := ob1.below hb
  have bl := bl.trans (hb.mono bl.size)
  clear hb
  go_wp2_with fail
  refine (specParOwn ob1 HR.out (by omega)).mono ?_
  rintro e w3 ⟨g3, c3, rfl, hg3, o3, hb⟩
  have ob1 := ob1.below hb
  have o2 := o2.below hb
  have bl := bl.trans (hb.mono bl.size)
  clear hb
  have N2 := hide (own_ints o2)
  have N3 := hide (own_ints o3)
  have Ob := hide ob1
  have O2 := hide o2
  have Bl := hide bl
  have r1 := ob1.1.room
  have l1 := ob1.lt
  clear o2 o3 ob1 bl
  cases B
  · go_wp2_with fail
    refine (sameInts_same _ _ _ _ ys _ N2.out N3.out (by omega)).mono ?_
    rintro e w4 ⟨rfl, n4, rfl⟩
    go_wp2_with fail
    refine (sameInts_same _ _ _ _ ys _ (N2.out.drewN n4) (N3.out.drewN n4) (by omega)).mono ?_
    rintro e w5 ⟨rfl, n5, rfl⟩
    go_wp2_with fail
    go_ret
    exact ⟨rfl, below_drewN' Bl.out (n4 + n5)⟩
  · obtain ⟨hall, hlo, hhi, rfl⟩ := relPar_true HR.out
    rw [List.length_map, Hq.out] at hlo hhi
    have Hall := hide hall
    obtain ⟨m, hmm⟩ : ∃ m, (par [0] (bs.map VBod.zs)).length = m := ⟨_, rfl⟩
    have Hm := hide hmm
    have KS := hide (fun w h1 h2 => sameInts_same (some ⟨g2, 0, none⟩) (some ⟨g3, 0, none⟩) c2 c3 (par [0] (bs.map VBod.zs)) w h1 h2 (by omega))
    rw [hmm] at KS hly O2 ⊢
    clear hall hmm
    go_wp2_with fail
    refine (KS.out _ N2.out N3.out).mono ?_
    rintro e w4 ⟨rfl, n4, rfl⟩
    have Bl := hide (below_drewN' Bl.out n4)
    have Ob := hide (Ob.out.drewN n4)
    have O2 := hide (O2.out.drewN n4)
    generalize w3.drewN n4 = w4 at *
    clear N2 N3 HR KS
    have hb1 : BodAt w4 (some ⟨g1, 0, none⟩) ((bs.map VBod.zs).take 1) := (bod_of Ob.out).take 1
    have hz := bod_cell Ob.out (show 0 < q by omega)
    obtain ⟨x, hx⟩ : ∃ x, bs.getD 0 default = x := ⟨_, rfl⟩
    rw [hx] at hz
    have ht := take_one (bs := bs) (x := x) (by rw [Hq.out]; omega) hx
    have hbx : bodyB x.zs = true := by
      have := body_facts Hall.out (k := 0) (x := x.zs) (by rw [List.length_map, Hq.out]; omega) (by rw [bod_getD (by rw [Hq.out]; omega), hx])
      exact this
    have hlx : x.zs.length ≤ 12 := (of_decide_eq_true hbx).1
    rw [ht] at hb1
    have hI : IntsAt w4 (some ⟨x.g, 0, none⟩) x.zs := own_ints (Ob.out.2 x (by rw [← hx]; exact bod_mem (by rw [Hq.out]; omega))).2.2
    have hcx := (Ob.out.2 x (by rw [← hx]; exact bod_mem (by rw [Hq.out]; omega))).2.2.room.1
    have KI := fun w h => implParityOf (some ⟨g1, 0, none⟩) c1 [x.zs] (frm x.zs) true w (rel_one hbx) h (by simp)
    have KI2 : ∀ w, BodAt w (some ⟨g1, 0, none⟩) [x.zs] → Calls Try.prog 14 #[.slice (some ⟨g1, 0, none⟩) 1 c1] w (NewIntsB (frm x.zs) true w) := KI
    have HK := hide KI2
    have Hb1 := hide hb1
    have HI := hide hI
    have g7 : (1 : Int) ≤ (c1 : Int) := by omega
    have g9 : (0 : Int) < (q : Int) := by omega
    have g10 : 0 < q := by omega
    have g8 : 1 ≤ c1 := by omega
    unfold VBod.val at hz
    obtain ⟨l, hll⟩ : ∃ l, x.zs.length = l := ⟨_, rfl⟩
    rw [hll] at hz hlx hcx
    obtain ⟨xg, hxg⟩ : ∃ l, x.g = l := ⟨_, rfl⟩
    obtain ⟨xc, hxc⟩ : ∃ l, x.c = l := ⟨_, rfl⟩
    rw [hxg, hxc] at hz
    rw [hxc] at hcx
    rw [hxg] at HI
    have Hll := hide hll
    clear hb1 hI KI KI2 hx ht hbx hll hxg hxc
    go_wp2_with fail
    refine (HK.out _ Hb1.out).mono ?_
    rintro e w5 ⟨g5, c5, rfl, hg5, o5, hb⟩
    have hl1w : g1 < w4.heap.size := Ob.out.lt
    have hz := (hb.cell (p := ⟨g1, 0, none⟩) hl1w).trans hz
    have HI5 := hide (HI.out.below hb)
    have l5 : g1 < w5.heap.size := Nat.lt_of_lt_of_le hl1w hb.size
    have l5n : ¬ g1 = w5.heap.size := by omega
    have l5m : ¬ w5.heap.size = g1 := by omega
    have Bl := hide (Bl.out.trans (hb.mono Bl.out.size))
    rw [frm_len Hll.out] at o5 ⊢
    have O5 := hide o5
    have Hof := hide ((Own.new w5.drew #[.int .i64 (l : Int)] 3 1 1 (by unfold maxLen; omega) rfl).conv (xs' := [(l : Int)].map (Value.int .i64)) rfl)
    clear hb o5 Ob Hb1 HK HI O2
    go_wp2_with fail
    go_region_law (first | (refine step_append_intsW (by first | rfl | (simp [Region.wanted, yielded]; done)) (.tmp 59) (.tmp 62) 25 rfl elemI (xs := [(l : Int)]) (zs := x.zs) (A := some ⟨xg, 0, none⟩) (c := xc) (by simp [Act.eval, Act.put]) Hof.out (by rw [Hll.out]; simp [Act.eval, Act.put]) (HI5.out.below ((Below.refl _ _).drew.alloc (Nat.le_refl _) _)) (fun h => by cases h) (by rw [Hll.out]; omega) ?_; intro g8 cp8 w8 o8 hg8 hat8; have B8 := hide (fst_belowD (wr := w5) hg8); have S8 := hide (fst_atD (wr := w5) hat8); have O8 := hide (snd_own Hll.out o8); clear o8 hg8 hat8; rw [Hll.out]) | (go_simp; go_at_call 16; refine (sameOwn (O5.out.below B8.out) O8.out (by omega)).mono ?_; rintro e w9 ⟨rfl, n9, rfl⟩))
    all_goals
      go_wp2_with fail
      go_ret
      exact ⟨rfl, below_drewN' (Bl.out.trans (B8.out.mono Bl.out.size)) n9⟩
end Go.Proofs.Ytppomcgkmjnpmaa

