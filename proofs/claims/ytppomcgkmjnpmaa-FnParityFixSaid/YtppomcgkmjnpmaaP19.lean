/- Walk of FnParityFix. -/
import Derived.Test.YtppomcgkmjnpmaaP18
namespace Go.Proofs.Ytppomcgkmjnpmaa
open Go.ChangeShapes Go.WideShapes Go.ChangeAt Go.RowKit Go.Deep

theorem OwnBod.app {w w7 : World} {B g n cap g2 c2 g7 n7 c7 : Nat} {bs : List VBod} {ys : List Int} (h : OwnBod w B g n cap bs) (o2 : Own w 3 1 g2 ys.length c2 (ys.map (Value.int .i64))) (hB : B ≤ g2) (hb : Below w.heap.size w w7)
    (o7 : Own w7 25 1 g7 n7 c7 ((bs ++ [(⟨g2, c2, ys⟩ : VBod)]).map VBod.val)) (hg7 : w.heap.size ≤ g7) : OwnBod w7 B g7 n7 c7 (bs ++ [⟨g2, c2, ys⟩]) := by
  refine ⟨o7, fun x hx => ?_⟩
  rcases List.mem_append.1 hx with hx | hx
  · obtain ⟨a, b, c⟩ := h.2 x hx
    have := c.lt
    exact ⟨a, by omega, c.below hb⟩
  · simp at hx
    subst hx
    have := o2.lt
    exact ⟨hB, by show g2 ≠ g7; omega, o2.below hb⟩
/-- What a fix that holds says. -/
theorem fix_true {ls : List (List Int)} {p ys : List Int} (h : relFix ls p ys true) : ys.length ≤ 12 ∧ ls.length < 8 ∧ (p.length = maxL (ls ++ [ys]) + 1 → fitsB (ls ++ [ys]) p = true) := by
  rcases h with ⟨a, rfl, _⟩ | ⟨_, _, c⟩
  · unfold fixG at a
    rw [Bool.and_eq_true] at a
    obtain ⟨b, hok⟩ := a
    unfold fixIn at b
    rw [Bool.and_eq_true, Bool.and_eq_true] at b
    have c := of_decide_eq_true b.1.1
    obtain ⟨hs, h1, h13, _⟩ := fixX_facts (ls := ls) (p := p) (by omega) b.1.2 b.2
    have hl : (fixB (fixX ls p)).length ≤ 12 := by
      unfold fixB
      rw [List.length_take, List.length_drop]
      omega
    have hp := sm_bytes (of_decide_eq_true b.2)
    refine ⟨hl, c.1, fun hlen => ?_⟩
    have hf := fix_fits hp.nn (l := ls) hok hlen
    have hbb : bodyB (fixB (fixX ls p)) = true := by
      refine decide_eq_true ⟨hl, fun i hi => ?_⟩
      have hi' : i < ((fixX ls p).getD 0 0).toNat := by
        unfold fixB at hi
        rw [List.length_take] at hi
        omega
      have e : (fixB (fixX ls p)).getD i 0 = (fixX ls p).getD (i + 1) 0 := take_getD _ _ i hi'
      rw [e]
      exact hs (i + 1)
    have hB : parB (ls ++ [fixB (fixX ls p)]) = true := by
      unfold parB
      rw [List.all_append, b.1.2, List.length_append, decide_eq_true (by simp; omega)]
      simp [hbb]
    exact fits_yes (.inl ⟨hB, rfl, rfl⟩) hf
  · cases c
theorem maxL_le {ls : List (List Int)} {M : Nat} : (∀ x ∈ ls, x.length ≤ M) → maxL ls ≤ M := by
  refine snoc_ind (P := fun l => (∀ x ∈ l, x.length ≤ M) → maxL l ≤ M) (fun _ => by simp [maxL]) ?_ ls
  intro l b ih hl
  rw [maxL_snoc]
  have := ih fun x hx => hl x (List.mem_append_left _ hx)
  have := hl b (by simp)
  omega
theorem app_val {bs : List VBod} {g c l : Nat} {ys : List Int} (hl : ys.length = l) : bs.map VBod.val ++ #[Value.slice (some ⟨g, 0, none⟩) l c].toList = (bs ++ [(⟨g, c, ys⟩ : VBod)]).map VBod.val := by
  rw [List.map_append, List.map_cons, List.map_nil, VBod.val_eq hl]
set_option maxHeartbeats 4000000 in
theorem walk_fnParityFix {H : Type} {enc : TypeId × Value → H} (W : World) (base : Nat) (v : Value) (d : DataW H) (p : List MemPlace) (o : Value.okWide Try.prog W .any base 22 v) (h : DataW.Trod enc Try.prog W 0 (fun _ => true) true 22 v d p) :
    Calls Try.prog 12 #[v] W (RetB true W) := by
  obtain ⟨A, n, c, rfl, hn, hm, hcode⟩ := open_code W base v d p o h
  clear o h
  by_cases hbig : 1048576 < (n : Int)
  · clear hcode
    go_enter Try.func12, Try.ntmps12
    go_wp2_with fail
    go_ret
    refine ⟨rfl, ?_⟩
    (repeat' (first | (with_reducible exact Below.refl _ _) | (with_reducible assumption) | (with_reducible refine Below.alloc ?_ ?_ _) | (with_reducible refine Below.setCell ?_ ?_ _) | (with_reducible refine Below.drew ?_) | (with_reducible refine below_drewN' ?_ _) | (with_reducible refine below_step (by assumption) ?_ ?_) | (with_reducible refine below_gstep (by assumption) ?_ ?_ ?_) | (with_reducible exact Below.size (by assumption)) | omega | (simp; done) | (simp; omega)))
  have Hcode := hide hcode
  clear hcode
  go_enter Try.func12, Try.ntmps12
  go_wp2_with fail
  refine (drawParityFix W.heap.size A n c _ Hcode.out hn hm (Nat.le_refl _)).mono ?_
  rintro e w1 ⟨g1, c1, bs, gp, cp, pr, rfl, hl1, hf1, hlp, ob, op, hg1, hgp, bl⟩
  have Hf := hide hf1
  clear Hcode hf1
  obtain ⟨q, hq⟩ : ∃ q, bs.length = q := ⟨_, rfl⟩
  obtain ⟨m, hmm⟩ : ∃ q, pr.length = q := ⟨_, rfl⟩
  rw [hq] at hl1 ob ⊢
  rw [hmm] at hlp op ⊢
  have s0 := bl.size
  obtain ⟨ys, b, hR⟩ := relFix_some (bs.map VBod.zs) pr
  have HR := hide hR
  have Hq := hide hq
  have Hm := hide hmm
  have hly : ys.length ≤ 12 ∨ b = false := by
    cases b
    · exact .inr rfl
    · exact .inl (fix_true hR).1
  have hly2 : ys.length ≤ 12 := by
    rcases hR with ⟨a1, a2, rfl⟩ | ⟨_, rfl, _⟩
    · exact (fix_true (.inl ⟨a1, a2, rfl⟩)).1
    · simp
  clear hR hq hmm hly
  go_wp2_with fail
  refine (implFixOwn ob op HR.out (by omega) (by omega)).mono ?_
  rintro e w2 ⟨g2, c2, rfl, hg2, o2, hb⟩
  have ob := ob.below hb
  have op := op.below hb
  have bl := bl.trans (hb.mono bl.size)
  have s1 := bl.size
  clear hb
  go_wp2_with fail
  refine (specFixOwn ob op HR.out (by omega) (by omega)).mono ?_
  rintro e w3 ⟨g3, c3, rfl, hg3, o3, hb⟩
  have ob := ob.below hb
  have op := op.below hb
  have o2 := o2.below hb
  have bl := bl.trans (hb.mono bl.size)
  clear hb
  have hg2W : W.heap.size ≤ g2 := by omega
  have N2 := hide (own_ints o2)
  have N3 := hide (own_ints o3)
  have Ob := hide ob
  have Op := hide op
  have O2 := hide o2
  have Bl := hide bl
  clear o2 o3 ob op bl
  have KS := hide (fun w h1 h2 => sameInts_same (some ⟨g2, 0, none⟩) (some ⟨g3, 0, none⟩) c2 c3 ys w h1 h2 (by omega))
  obtain ⟨l, hll⟩ : ∃ l, ys.length = l := ⟨_, rfl⟩
  have Hl := hide hll
  rw [hll] at hly2 KS ⊢
  clear hll
  cases b
  · go_wp2_with fail
    refine (KS.out _ N2.out N3.out).mono ?_
    rintro e w4 ⟨rfl, n4, rfl⟩
    go_wp2_with fail
    refine (KS.out _ (N2.out.drewN n4) (N3.out.drewN n4)).mono ?_
    rintro e w5 ⟨rfl, n5, rfl⟩
    go_wp2_with fail
    go_ret
    exact ⟨rfl, below_drewN' Bl.out (n4 + n5)⟩
  · obtain ⟨_, h8, hfit⟩ := fix_true HR.out
    rw [List.length_map, Hq.out] at h8
    have Hfit := hide hfit
    clear hfit
    go_wp2_with fail
    refine (KS.out _ N2.out N3.out).mono ?_
    rintro e w4 ⟨rfl, n4, rfl⟩
    have Bl := hide (below_drewN' Bl.out n4)
    have Ob := hide (Ob.out.drewN n4)
    have O2 := hide (O2.out.drewN n4)
    have Op := hide (Op.out.drewN n4)
    generalize w3.drewN n4 = w4 at *
    clear N2 N3 HR KS
    have Hof := hide (Own.new w4 #[] 25 1 0 (by unfold maxLen; omega) rfl)
    have Hd := hide (show (bs.map VBod.val).length = q * 1 by rw [List.length_map, Hq.out]; omega)
    have hv := vals_cell0 Ob.out q
    rw [show bs.take q = bs from by rw [← Hq.out, List.take_length]] at hv
    have Hv := hide hv
    clear hv
    go_wp2_with (first | (at_builtin; refine wpList_append_m rfl _ _ _ rfl elemS rfl Hof.out ⟨g1, 0, none⟩ q c1 rfl (bs.map VBod.val) Hd.out (cells_below ((Below.refl _ _).alloc (Nat.le_refl _) _) Hv.out) vals_one (by omega) ?_; intro g7 cp7 w7 o7 hg7 hat7; have B7 := hide (fst_below hg7); have S7 := hide (fst_at hat7); have O7 := hide ((o7.convn (n' := q) (Nat.zero_add q)).conv (List.nil_append _)); clear o7 hg7 hat7; rw [Nat.zero_add]) | (at_builtin; refine wpList_append_1 rfl _ _ _ rfl elemS rfl O7.out #[.slice (some ⟨g2, 0, none⟩) l c2] rfl rfl rfl (by omega) ?_; intro g8 cp8 w8 o8 hg8 hat8; have B8 := hide (snd_below B7.out S7.out hg8); have S8 := hide (snd_at B7.out S7.out hat8); have O8 := hide (o8.conv (app_val Hl.out)); clear o8 hg8 hat8))
    have ob8 := Ob.out.app (ys := ys) (c2 := c2) (O2.out) hg2W B8.out O8.out S8.out
    have Ob8 := hide ob8
    have Op8 := hide (Op.out.below B8.out)
    have Bl8 := hide (Bl.out.trans (B8.out.mono Bl.out.size))
    have Hz := hide (fun k hk => bod_cell ob8 (k := k) hk)
    have hall : (bs ++ [(⟨g2, c2, ys⟩ : VBod)]).map VBod.zs = bs.map VBod.zs ++ [ys] := by rw [List.map_append]; rfl
    obtain ⟨bs2, hbs2⟩ : ∃ x, bs ++ [(⟨g2, c2, ys⟩ : VBod)] = x := ⟨_, rfl⟩
    rw [hbs2] at Ob8 Hz hall
    have hq2 : bs2.length = q + 1 := Ob8.out.len
    have Hq2 := hide hq2
    have Hall := hide hall
    clear ob8 hall hbs2 hq2 Ob O2 Op Bl Hof Hd Hv O7 B7 O8
    go_loopw [10, 11] (fun s i wr => ∃ k : Nat, k ≤ q + 1 ∧ i = .int .i64 k ∧ s = .int .i64 ((maxL ((bs2.map VBod.zs).take k) : Nat) : Int) ∧ wr = w8) (fun _ i _ => q + 1 - (intOf i).toNat)
    case atStart => exact ⟨0, by omega, rfl, rfl, rfl⟩
    case round =>
      obtain ⟨k, hk, rfl, rfl, rfl⟩ := hrel
      by_cases hk' : k < q + 1
      · have g2' : (k : Int) < ((q + 1 : Nat) : Int) := by omega
        have g3' : (k : Int) < (q : Int) + 1 := by omega
        have hz := Hz.out k hk'
        have hn := maxL_next (bs2.map VBod.zs) (k := k) (by rw [List.length_map, Hq2.out]; exact hk')
        rw [bod_getD (by rw [Hq2.out]; exact hk')] at hn
        obtain ⟨x, hx⟩ : ∃ x, bs2.getD k default = x := ⟨_, rfl⟩
        rw [hx] at hz hn
        obtain ⟨l2, hl⟩ : ∃ l, x.zs.length = l := ⟨_, rfl⟩
        obtain ⟨mx, hmx⟩ : ∃ l, maxL ((bs2.map VBod.zs).take k) = l := ⟨_, rfl⟩
        unfold VBod.val at hz
        rw [hl] at hz hn
        rw [hmx] at hn ⊢
        have Hn := hide hn
        clear hx hl hmx hn
        by_cases hc : mx < l2
        · have hc2 : (mx : Int) < (l2 : Int) := by omega
          go_wp2_with fail
          go_roundw
          case rel => exact ⟨k + 1, by omega, by go_num, by rw [Hn.out, show max mx l2 = l2 by omega], by first | rfl | trivial⟩
          case measure => simp [intOf]; omega
        · have hc2 : ¬ (mx : Int) < (l2 : Int) := by omega
          go_wp2_with fail
          go_roundw
          case rel => exact ⟨k + 1, by omega, by go_num, by rw [Hn.out, show max mx l2 = mx by omega], by first | rfl | trivial⟩
          case measure => simp [intOf]; omega
      · have hkq : k = q + 1 := by omega
        subst hkq
        have ht : (bs2.map VBod.zs).take (q + 1) = bs2.map VBod.zs := List.take_of_length_le (by rw [List.length_map, Hq2.out]; omega)
        rw [ht]
        have hfit := Hfit.out
        rw [← Hall.out] at hfit
        rw [Hm.out] at hfit
        have KF := fun hx => implFitsOwn (p := pr) Ob8.out Op8.out (by omega) hx
        have hmb : maxL (bs2.map VBod.zs) ≤ 12 := by
          rw [Hall.out]
          refine maxL_le fun y hy => ?_
          rcases List.mem_append.1 hy with hy | hy
          · obtain ⟨z, hz, rfl⟩ := List.mem_map.1 hy
            have := Hf.out z hz
            omega
          · simp at hy
            subst hy
            rw [Hl.out]; exact hly2
        obtain ⟨mx, hmx⟩ : ∃ l, maxL (bs2.map VBod.zs) = l := ⟨_, rfl⟩
        rw [hmx] at hfit hmb ⊢
        have w0 : IntKind.i64.wrap ((mx : Int) + 1) = (mx : Int) + 1 := IntWalk.i64_in _ (by omega)
        clear hmx ht
        by_cases hme : m = mx + 1
        · have KF := KF (by omega)
          rw [hfit hme] at KF
          have HKF := hide KF
          have e1 : ((m : Int) != (mx : Int) + 1) = false := by rw [hme]; simp
          have e2 : ((m : Int) == (mx : Int) + 1) = true := by rw [hme]; simp
          clear KF hfit hme
          go_wp2_with fail
          refine HKF.out.mono ?_
          rintro e w9 ⟨rfl, b9⟩
          have B9 := hide (Bl8.out.trans (b9.mono Bl8.out.size))
          clear b9
          go_wp2_with fail
          go_ret
          exact ⟨rfl, B9.out⟩
        · have e1 : ((m : Int) != (mx : Int) + 1) = true := by simp; omega
          have e2 : ((m : Int) == (mx : Int) + 1) = false := by simp; omega
          have e3 : decide ((l : Int) ≤ 12) = true := decide_eq_true (by omega)
          have e4 : decide (l ≤ 12) = true := decide_eq_true (by omega)
          clear KF hfit hme
          go_wp2_with fail
          go_ret
          exact ⟨by first | rfl | (simp; done) | (simp; omega), Bl8.out⟩
end Go.Proofs.Ytppomcgkmjnpmaa
