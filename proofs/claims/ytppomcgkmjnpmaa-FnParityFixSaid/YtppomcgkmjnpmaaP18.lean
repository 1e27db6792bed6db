/- Walk of FnParity. -/
import Derived.Test.YtppomcgkmjnpmaaP17
namespace Go.Proofs.Ytppomcgkmjnpmaa
open Go.ChangeShapes Go.WideShapes Go.ChangeAt Go.RowKit Go.Deep

theorem implFixOwn {w : World} {B g n cap g2 m c2 : Nat} {bs : List VBod} {p ys : List Int} {b : Bool} (ob : OwnBod w B g n cap bs) (o2 : Own w 3 1 g2 m c2 (p.map (Value.int .i64))) (hR : relFix (bs.map VBod.zs) p ys b) (hn : n ≤ 1048576) (hm : m ≤ 1048576) :
    Calls Try.prog 17 #[.slice (some ⟨g, 0, none⟩) n cap, .slice (some ⟨g2, 0, none⟩) m c2] w (NewIntsB ys b w) := by
  have e : (bs.map VBod.zs).length = n := by rw [List.length_map]; exact ob.len
  have e2 : p.length = m := by have := o2.len; simpa using this
  have := implParityFix (some ⟨g, 0, none⟩) (some ⟨g2, 0, none⟩) cap c2 (bs.map VBod.zs) p ys b w hR (bod_of ob) (own_ints o2) (by omega) (by omega)
  rwa [e, e2] at this
theorem specFixOwn {w : World} {B g n cap g2 m c2 : Nat} {bs : List VBod} {p ys : List Int} {b : Bool} (ob : OwnBod w B g n cap bs) (o2 : Own w 3 1 g2 m c2 (p.map (Value.int .i64))) (hR : relFix (bs.map VBod.zs) p ys b) (hn : n ≤ 1048576) (hm : m ≤ 1048576) :
    Calls Try.prog 29 #[.slice (some ⟨g, 0, none⟩) n cap, .slice (some ⟨g2, 0, none⟩) m c2] w (NewIntsB ys b w) := by
  have e : (bs.map VBod.zs).length = n := by rw [List.length_map]; exact ob.len
  have e2 : p.length = m := by have := o2.len; simpa using this
  have := specParityFix (some ⟨g, 0, none⟩) (some ⟨g2, 0, none⟩) cap c2 (bs.map VBod.zs) p ys b w hR (bod_of ob) (own_ints o2) (by omega) (by omega)
  rwa [e, e2] at this
/-- The body that was left out comes back. -/
theorem rel_back {bs : List VBod} {k : Nat} {x : VBod} (hk : k < bs.length) (hx : bs.getD k default = x) (h8 : bs.length ≤ 8) (ha : (bs.map VBod.zs).all bodyB = true) : relFix ((bs.take k ++ bs.drop (k + 1)).map VBod.zs) (par [0] (bs.map VBod.zs)) x.zs true := by
  have he : bs[k] = x := by rw [List.getD_eq_getElem?_getD, List.getElem?_eq_getElem hk] at hx; exact hx
  have hs : bs.map VBod.zs = (bs.take k).map VBod.zs ++ x.zs :: (bs.drop (k + 1)).map VBod.zs := by
    conv => lhs; rw [← List.take_append_drop k bs]
    rw [List.drop_eq_getElem_cons hk, he, List.map_append, List.map_cons]
  have hx1 : bodyB x.zs = true := List.all_eq_true.1 ha _ (by rw [hs]; simp)
  have hpf := par_facts (ls := bs.map VBod.zs) sm_zero (by simp) ha (bs.map VBod.zs).length
  rw [List.take_length] at hpf
  have hb := fix_back (l := (bs.take k).map VBod.zs) (m := (bs.drop (k + 1)).map VBod.zs) (bytes_nn (of_decide_eq_true hx1).2)
  rw [← hs] at hb
  have hless : ((bs.take k ++ bs.drop (k + 1)).map VBod.zs) = (bs.take k).map VBod.zs ++ (bs.drop (k + 1)).map VBod.zs := List.map_append
  have hall : ((bs.take k ++ bs.drop (k + 1)).map VBod.zs).all bodyB = true := by
    rw [List.all_eq_true]
    intro y hy
    obtain ⟨z, hz, rfl⟩ := List.mem_map.1 hy
    exact List.all_eq_true.1 ha _ (List.mem_map.2 ⟨z, less_sub z hz, rfl⟩)
  have hl1 : 1 ≤ (par [0] (bs.map VBod.zs)).length := by rw [par_length0]; omega
  refine .inl ⟨?_, ?_, rfl⟩
  · rw [fixG_eq (n := bs.length - 1) (m := (par [0] (bs.map VBod.zs)).length) (by rw [List.length_map]; exact less_len rfl hk) rfl (by omega) ⟨hl1, hpf.2⟩ hall (decide_eq_true fun i _ => hpf.1 i)]
    unfold fixX
    rw [hless]
    exact hb.1
  · unfold fixX
    rw [hless]
    exact hb.2.symm
set_option maxHeartbeats 4000000 in
theorem walk_fnParity {H : Type} {enc : TypeId × Value → H} (W : World) (base : Nat) (v : Value) (d : DataW H) (p : List MemPlace) (v1 : Value) (d1 : DataW H) (p1 : List MemPlace) (o : Value.okWide Try.prog W .any base 22 v) (h : DataW.Trod enc Try.prog W 0 (fun _ => true) true 22 v d p) (o1 : Value.okWide Try.prog W .any base 22 v1) (h1 : DataW.Trod enc Try.prog W 0 (fun _ => true) true 22 v1 d1 p1) :
    Calls Try.prog 6 #[v, v1] W (RetB true W) := by
  obtain ⟨A, n, c, rfl, hn, hm, hcode⟩ := open_code W base v d p o h
  obtain ⟨A1, n1, ca, rfl, hn1, hm1, hcode1⟩ := open_code W base v1 d1 p1 o1 h1
  clear o h o1 h1 hcode1
  by_cases hbig : 1048576 < (n : Int)
  · clear hcode
    go_enter Try.func6, Try.ntmps6
    go_wp2_with fail
    go_ret
    refine ⟨rfl, ?_⟩
    (repeat' (first | (with_reducible exact Below.refl _ _) | (with_reducible assumption) | (with_reducible refine Below.alloc ?_ ?_ _) | (with_reducible refine Below.setCell ?_ ?_ _) | (with_reducible refine Below.drew ?_) | (with_reducible refine below_drewN' ?_ _) | (with_reducible refine below_step (by assumption) ?_ ?_) | (with_reducible refine below_gstep (by assumption) ?_ ?_ ?_) | (with_reducible exact Below.size (by assumption)) | omega | (simp; done) | (simp; omega)))
  by_cases hbig1 : 1048576 < (n1 : Int)
  · clear hcode
    go_enter Try.func6, Try.ntmps6
    go_wp2_with fail
    go_ret
    refine ⟨rfl, ?_⟩
    (repeat' (first | (with_reducible exact Below.refl _ _) | (with_reducible assumption) | (with_reducible refine Below.alloc ?_ ?_ _) | (with_reducible refine Below.setCell ?_ ?_ _) | (with_reducible refine Below.drew ?_) | (with_reducible refine below_drewN' ?_ _) | (with_reducible refine below_step (by assumption) ?_ ?_) | (with_reducible refine below_gstep (by assumption) ?_ ?_ ?_) | (with_reducible exact Below.size (by assumption)) | omega | (simp; done) | (simp; omega)))
  have Hcode := hide hcode
  clear hcode
  go_enter Try.func6, Try.ntmps6
  go_wp2_with fail
  refine (drawParityOf W.heap.size A n c _ Hcode.out hn hm (Nat.le_refl _)).mono ?_
  rintro e w1 ⟨g1, c1, bs, rfl, hl1, hf1, ob1, hg1, bl⟩
  clear Hcode
  obtain ⟨q, hq⟩ : ∃ q, bs.length = q := ⟨_, rfl⟩
  rw [hq] at hl1 ob1 ⊢
  obtain ⟨ys, B, hR⟩ := relPar_some (bs.map VBod.zs)
  have Hf := hide hf1
  have Hq := hide hq
  have HR := hide hR
  have hly := (relPar_bd hR).1
  clear hR hf1 hq
  go_wp2_with fail
  refine (implParOwn ob1 HR.out (by omega)).mono ?_
  rintro e w2 ⟨g2, c2, rfl, hg2, o2, hb⟩
  have ob1 := ob1.below hb
  have bl := bl.trans (hb.mono bl.size)
  clear hb
  go_wp2_with fail
  refine (specParOwn ob1 HR.out (by omega)).mono ?_
  rintro e w3 ⟨g3, c3, rfl, hg3, o3, hb⟩
  have ob1 := ob1.below hb
  have o2 := o2.below hb
  have bl := bl.trans (hb.mono bl.size)
  clear hb
  have N2 := hide (own_ints o2)
  have N3 := hide (own_ints o3)
  have Ob := hide ob1
  have O2 := hide o2
  have Bl := hide bl
  have r1 := ob1.1.room
  have l1 := ob1.lt
  clear o2 o3 ob1 bl
  cases B
  · go_wp2_with fail
    refine (sameInts_same _ _ _ _ ys _ N2.out N3.out (by omega)).mono ?_
    rintro e w4 ⟨rfl, n4, rfl⟩
    go_wp2_with fail
    refine (sameInts_same _ _ _ _ ys _ (N2.out.drewN n4) (N3.out.drewN n4) (by omega)).mono ?_
    rintro e w5 ⟨rfl, n5, rfl⟩
    go_wp2_with fail
    go_ret
    exact ⟨rfl, below_drewN' Bl.out (n4 + n5)⟩
  · obtain ⟨hall, hlo, hhi, rfl⟩ := relPar_true HR.out
    rw [List.length_map, Hq.out] at hlo hhi
    have Hall := hide hall
    obtain ⟨m, hmm⟩ : ∃ m, (par [0] (bs.map VBod.zs)).length = m := ⟨_, rfl⟩
    have Hm := hide hmm
    have KS := hide (fun w h1 h2 => sameInts_same (some ⟨g2, 0, none⟩) (some ⟨g3, 0, none⟩) c2 c3 (par [0] (bs.map VBod.zs)) w h1 h2 (by omega))
    rw [hmm] at KS hly O2 ⊢
    clear hall hmm
    go_wp2_with fail
    refine (KS.out _ N2.out N3.out).mono ?_
    rintro e w4 ⟨rfl, n4, rfl⟩
    have Bl := hide (below_drewN' Bl.out n4)
    have Ob := hide (Ob.out.drewN n4)
    have O2 := hide (O2.out.drewN n4)
    generalize w3.drewN n4 = w4 at *
    clear N2 N3 HR KS
    obtain ⟨k, hk⟩ : ∃ k, n1 % q = k := ⟨_, rfl⟩
    have hkq : k < q := by rw [← hk]; exact Nat.mod_lt _ (by omega)
    have hk1 : (n1 : Int).tmod (q : Int) = (k : Int) := by rw [← hk]; rfl
    have hk2 : ((n1 : Int) % (q : Int)) = (k : Int) := by rw [← hk]; rfl
    have hm0 : ¬ (q : Int) = 0 := by omega
    have hm2 : ¬ q = 0 := by omega
    have e0 : ((q : Int) == 0) = false := by simp only [beq_eq_false_iff_ne, ne_eq]; exact hm0
    obtain ⟨x, hx⟩ : ∃ x, bs.getD k default = x := ⟨_, rfl⟩
    obtain ⟨hz, _, hxo, _, _⟩ := bod_get Ob.out (k := k) (x := x) (by rw [Hq.out]; exact hkq) hx
    have hRel := rel_back (k := k) (x := x) (by rw [Hq.out]; exact hkq) hx (by rw [Hq.out]; exact hhi) Hall.out
    have hbx : bodyB x.zs = true := body_facts Hall.out (k := k) (by rw [List.length_map, Hq.out]; exact hkq) (by rw [bod_getD (by rw [Hq.out]; exact hkq), hx])
    have hlx : x.zs.length ≤ 12 := (of_decide_eq_true hbx).1
    have HRel := hide hRel
    have l1w : g1 < w4.heap.size := Ob.out.lt
    unfold VBod.val at hz
    obtain ⟨l, hll⟩ : ∃ l, x.zs.length = l := ⟨_, rfl⟩
    have Hl := hide hll
    rw [hll] at hz hlx hxo
    obtain ⟨xg, hxg⟩ : ∃ l, x.g = l := ⟨_, rfl⟩
    obtain ⟨xc, hxc⟩ : ∃ l, x.c = l := ⟨_, rfl⟩
    rw [hxg, hxc] at hz hxo
    have Hxo := hide hxo
    have Hof := hide (Own.new w4 #[] 25 1 0 (by unfold maxLen; omega) rfl)
    have f1 : (k : Int) ≤ (c1 : Int) := by omega
    have f2 : (k : Int) + 1 ≤ (q : Int) := by omega
    have f3 : (q : Int) ≤ (c1 : Int) := by omega
    have f4 : (k : Int) + 1 ≤ (c1 : Int) := by omega
    have f5 : IntKind.i64.wrap ((k : Int) + 1) = (k : Int) + 1 := IntWalk.i64_in _ (by omega)
    have f6 : k ≤ q := by omega
    have f9 : (0 : Int) ≤ (k : Int) + 1 := by omega
    have f7 : k + 1 ≤ q := by omega
    have f10 : (k : Int) < (q : Int) := by omega
    have Hd1 := hide (show ((bs.take k).map VBod.val).length = k by rw [List.length_map, List.length_take, Hq.out]; omega)
    have Hd2 := hide (show ((bs.drop (k + 1)).map VBod.val).length = q - (k + 1) by rw [List.length_map, List.length_drop, Hq.out])
    have Hv1 := hide (vals_cell0 Ob.out k)
    have Hv2 := hide (vals_cell1 Ob.out (k + 1))
    clear hx hRel hbx hll hxg hxc hxo
    by_cases hc : c1 = k + 1
    · subst hc
      have f8 : (k : Int) ≤ (k : Int) + 1 := by omega
      go_wp2_with fail
      go_region_law (first | (refine step_append_m (by rfl) (.tmp 60) (.tmp 63) 23 rfl elemS (xs := []) (ad := ⟨g1, 0, none⟩) (m := k) (c := k + 1) (g := w4.heap.size) (n := 0) (cap := 0) (by simp [Act.eval, Act.put]) Hof.out (by simp [Act.eval, Act.put]) ((bs.take k).map VBod.val) Hd1.out (cells_alloc Hv1.out) vals_one (by omega) ?_; intro g9 cp9 w9 o9 hg9 hat9; have B9 := hide (fst_belowD (wr := w4) hg9); have S9 := hide (fst_atD (wr := w4) hat9); have O9 := hide (o9.convn (n' := k) (Nat.zero_add k)); clear o9 hg9 hat9; rw [Nat.zero_add]) | (refine step_append_m (by rfl) (.tmp 64) (.tmp 68) 23 rfl elemS (ad := ⟨g1, 0, none⟩) (m := q - (k + 1)) (c := 0) (g := g9) (n := k) (cap := cp9) (by simp [Act.eval, Act.put]) O9.out (by simp [Act.eval, Act.put, *]) ((bs.drop (k + 1)).map VBod.val) Hd2.out (fun j u hu => by rw [List.eq_nil_of_length_eq_zero (Hd2.out.trans (by omega))] at hu; simp at hu) vals_one (by omega) ?_; intro g10 cp10 w10 o10 hg10 hat10; have B10 := hide (snd_below B9.out S9.out hg10); have S10 := hide (snd_at B9.out S9.out hat10); have O10 := hide ((o10.conv (by rw [List.nil_append, ← List.map_append])).convn (n' := k) (by omega)); clear o10 hg10 hat10) | (go_simp; go_at_call 17; refine (implFixOwn (Ob.out.part less_sub B10.out (Nat.le_refl _) O10.out S10.out) (O2.out.below B10.out) HRel.out (by omega) (by omega)).mono ?_; rintro e w11 ⟨g11, c11, rfl, hg11, o11, hb11⟩; have B11 := hide (B10.out.trans (hb11.mono B10.out.size)); rw [Hl.out] at o11; rw [Hl.out]; have O11 := hide o11; clear o11 hb11))
      all_goals
        have hzz := (B11.out.cell (p := ⟨g1, k, none⟩) l1w).trans hz
        go_wp2_with fail
        refine (sameOwn O11.out (Hxo.out.below B11.out) (by omega)).mono ?_
        rintro e w12 ⟨rfl, n12, rfl⟩
        go_wp2_with fail
        go_ret
        exact ⟨rfl, below_drewN' (Bl.out.trans (B11.out.mono Bl.out.size)) n12⟩
    · have hcx : ¬ c1 - (k + 1) = 0 := by omega
      go_wp2_with fail
      go_region_law (first | (refine step_append_m (by rfl) (.tmp 60) (.tmp 63) 23 rfl elemS (xs := []) (ad := ⟨g1, 0, none⟩) (m := k) (c := c1) (g := w4.heap.size) (n := 0) (cap := 0) (by simp [Act.eval, Act.put]) Hof.out (by simp [Act.eval, Act.put]) ((bs.take k).map VBod.val) Hd1.out (cells_alloc Hv1.out) vals_one (by omega) ?_; intro g9 cp9 w9 o9 hg9 hat9; have B9 := hide (fst_belowD (wr := w4) hg9); have S9 := hide (fst_atD (wr := w4) hat9); have O9 := hide (o9.convn (n' := k) (Nat.zero_add k)); clear o9 hg9 hat9; rw [Nat.zero_add]) | (refine step_append_m (by rfl) (.tmp 64) (.tmp 68) 23 rfl elemS (ad := ⟨g1, k + 1, none⟩) (m := q - (k + 1)) (c := c1 - (k + 1)) (g := g9) (n := k) (cap := cp9) (by simp [Act.eval, Act.put]) O9.out (by simp [Act.eval, Act.put, *]) ((bs.drop (k + 1)).map VBod.val) Hd2.out (cells_below B9.out Hv2.out) vals_one (by omega) ?_; intro g10 cp10 w10 o10 hg10 hat10; have B10 := hide (snd_below B9.out S9.out hg10); have S10 := hide (snd_at B9.out S9.out hat10); have O10 := hide ((o10.conv (by rw [List.nil_append, ← List.map_append])).convn (n' := k + (q - (k + 1))) rfl); clear o10 hg10 hat10) | (go_simp; go_at_call 17; refine (implFixOwn (Ob.out.part less_sub B10.out (Nat.le_refl _) O10.out S10.out) (O2.out.below B10.out) HRel.out (by omega) (by omega)).mono ?_; rintro e w11 ⟨g11, c11, rfl, hg11, o11, hb11⟩; have B11 := hide (B10.out.trans (hb11.mono B10.out.size)); rw [Hl.out] at o11; rw [Hl.out]; have O11 := hide o11; clear o11 hb11))
      all_goals
        have hzz := (B11.out.cell (p := ⟨g1, k, none⟩) l1w).trans hz
        go_wp2_with fail
        refine (sameOwn O11.out (Hxo.out.below B11.out) (by omega)).mono ?_
        rintro e w12 ⟨rfl, n12, rfl⟩
        go_wp2_with fail
        go_ret
        exact ⟨rfl, below_drewN' (Bl.out.trans (B11.out.mono Bl.out.size)) n12⟩
end Go.Proofs.Ytppomcgkmjnpmaa

