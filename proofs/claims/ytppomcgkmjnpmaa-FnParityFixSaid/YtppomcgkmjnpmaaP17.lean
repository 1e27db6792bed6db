/- What DrawParityFix draws. -/
import Derived.Test.YtppomcgkmjnpmaaP16
namespace Go.Proofs.Ytppomcgkmjnpmaa
open Go.ChangeShapes Go.WideShapes Go.ChangeAt Go.RowKit Go.Deep

theorem vals_cell0 {w : World} {B g n cap : Nat} {bs : List VBod} (h : OwnBod w B g n cap bs) (m : Nat) : ∀ j u, ((bs.take m).map VBod.val)[j]? = some u → w.cell? ((⟨g, 0, none⟩ : Addr).add j) = some u := by
  have := vals_cell h 0 m
  rwa [List.drop_zero] at this
theorem vals_cell1 {w : World} {B g n cap : Nat} {bs : List VBod} (h : OwnBod w B g n cap bs) (k : Nat) : ∀ j u, ((bs.drop k).map VBod.val)[j]? = some u → w.cell? ((⟨g, k, none⟩ : Addr).add j) = some u := by
  have := vals_cell h k (bs.drop k).length
  rwa [List.take_length] at this
theorem cells_below {w w' : World} {cs : List Value} {ad : Addr} (hb : Below w.heap.size w w') (h : ∀ j u, cs[j]? = some u → w.cell? (ad.add j) = some u) : ∀ j u, cs[j]? = some u → w'.cell? (ad.add j) = some u :=
  fun j u hu => by
    have := h j u hu
    rw [hb.cell (block_lt_of_cell this)]
    exact this
theorem cells_alloc {w : World} {o : Obj} {cs : List Value} {ad : Addr} (h : ∀ j u, cs[j]? = some u → w.cell? (ad.add j) = some u) : ∀ j u, cs[j]? = some u → ((w.alloc o).drew).cell? (ad.add j) = some u :=
  cells_below (w := w) (w' := (w.alloc o).drew) (Below.drew ((Below.refl _ _).alloc (Nat.le_refl _) _)) h
set_option maxHeartbeats 4000000 in
theorem drawParityFix (B : Nat) (A : Option Addr) (n c : Nat) (w : World) (hcode : Code w B A n) (hn : n ≤ c) (hm : c ≤ 9223372036854775807) (hB : B ≤ w.heap.size) :
    Calls Try.prog 30 #[.slice A n c] w (NewBodInts 7 w) := by
  have Hcode := hide hcode
  clear hcode
  go_enter Try.func30, Try.ntmps30
  go_wp2_with fail
  refine (l6Open_any B A n c _ Hcode.out hn hm hB).mono ?_
  rintro e w1 ⟨R, rfl, hR, hr, hb1⟩
  have zb := hb1.size
  clear Hcode
  go_wp2_with fail
  refine (drawBodies B 7 _ R hr (by omega)).mono ?_
  rintro e w2 ⟨g, c1, bs, rfl, hl, hf, hg, ob, hr2, hg2⟩
  obtain ⟨q, hq⟩ : ∃ q, bs.length = q := ⟨_, rfl⟩
  rw [hq] at hl ob ⊢
  have Hq := hide hq
  have Hf := hide hf
  have lR := hr.lt
  have Ob2 := hide ob
  obtain ⟨ys, b, hRel⟩ := relPar_some (bs.map VBod.zs)
  have HRel := hide hRel
  obtain ⟨hly, _⟩ := relPar_bd hRel
  have B2 := hide (below_of_grown hb1 hg2 zb hR)
  have lg := ob.lt
  have rg := ob.1.room
  clear hq hf hRel hr hb1 hg2
  by_cases hq0 : q = 0
  · have e0 : ((q : Int) == 0) = true := by simp [hq0]
    have Hr2 := hide hr2
    clear hq0 ob hr2
    go_wp2_with fail
    go_ret2
    exact newBodInts_mk (p := [1, 7]) Hq.out rfl hl Hf.out (by omega) ((Ob2.out.alloc _).more zb) ((Own.new w2 #[.int .i64 1, .int .i64 7] 3 1 2 (by unfold maxLen; omega) rfl).conv (xs' := [(1 : Int), 7].map (Value.int .i64)) rfl) (by omega) (by have := B2.out.size; exact this) (B2.out.alloc B2.out.size _)
  have e0 : ((q : Int) == 0) = false := by simp only [beq_eq_false_iff_ne, ne_eq]; omega
  go_wp2_with fail
  refine (specParOwn ob HRel.out (by omega)).mono ?_
  rintro e w3 ⟨g3, c3, rfl, hg3, o3, hb3⟩
  have s3 := hb3.size
  have s2 := B2.out.size
  have lRg : R < g3 := by have := hr2.lt; omega
  have ob3 := ob.below hb3
  have O3 := hide o3
  have Hr3 := hide (hr2.below hb3)
  have B3 := hide (B2.out.trans (hb3.mono s2))
  have G3 := hide (grown_of_below hb3 R)
  have lg3 := o3.lt
  have Ob3 := hide ob3
  clear ob o3 hr2 hb3 ob3 B2
  cases b
  · go_wp2_with fail
    go_ret2
    exact newBodInts_mk (p := [0]) Hq.out rfl hl Hf.out (by omega) ((Ob3.out.alloc _).more zb) ((Own.new w3 #[.int .i64 0] 3 1 1 (by unfold maxLen; omega) rfl).conv (xs' := [(0 : Int)].map (Value.int .i64)) rfl) (by omega) (by have := B3.out.size; exact this) (B3.out.alloc B3.out.size _)
  · have hy1 : 1 ≤ ys.length := by
      obtain ⟨_, h1, _, rfl⟩ := relPar_true HRel.out
      rw [par_length0]; omega
    obtain ⟨m, hmm⟩ : ∃ m, ys.length = m := ⟨_, rfl⟩
    rw [hmm] at hly hy1 O3 ⊢
    have Hm := hide hmm
    clear hmm Ob3
    -- what follows behind the parity, whatever was stored into it
    have tail : ∀ (P' : List Int) (wx : World), P'.length = m → Own wx 3 1 g3 m c3 (P'.map (Value.int .i64)) → Rd wx B R 63 → w2.grownBy wx (some R) → Below w.heap.size w wx → True := fun _ _ _ _ _ _ _ => trivial
    clear tail
    go_wp2_with fail
    refine (pick_any B R 60 6 _ Hr3.out (by omega) (by omega) (by omega)).mono ?_
    rintro e w4 ⟨z, rfl, hz0, hz1, hs4, hr4, hg4⟩
    have Hr4 := hide hr4
    have G4 := hide hg4
    clear hs4 hr4 hg4 Hr3
    by_cases h0 : z = 0
    · subst h0
      go_wp2_with fail
      refine (pick_any B R _ (m : Int) _ Hr4.out (by omega) (by omega) (by omega)).mono ?_
      rintro e w5 ⟨y, rfl, hy0, hy2, hs5, hr5, hg5⟩
      obtain ⟨y, rfl⟩ := Int.eq_ofNat_of_zero_le hy0
      have G5 := hide (grown_trans G4.out hg5)
      have Hr5 := hide hr5
      clear hs5 hr5 hg5 Hr4 G4
      go_wp2_with fail
      refine (pick_any B R _ 256 _ Hr5.out (by omega) (by omega) (by omega)).mono ?_
      rintro e w6 ⟨v, rfl, hv0, hv1, hs6, hr6, hg6⟩
      have G6 := hide (grown_trans G5.out hg6)
      have o6 := O3.out.grown G6.out (by omega)
      obtain ⟨v0, q0⟩ := own_some o6 (show y < m * 1 by omega)
      have f0 := o6.frozen y
      have s6 := G6.out.size
      have O6 := hide o6
      have Hr6 := hide hr6
      clear hs6 hr6 hg6 Hr5 G5 o6
      go_wp2_with fail
      have F : ∃ P' : List Int, P'.length = m ∧ Own (w6.setCell ⟨g3, y, none⟩ (.int .i64 v)) 3 1 g3 m c3 (P'.map (Value.int .i64)) ∧ Rd (w6.setCell ⟨g3, y, none⟩ (.int .i64 v)) B R 63 ∧ w2.grownBy (w6.setCell ⟨g3, y, none⟩ (.int .i64 v)) (some R) ∧ Below w.heap.size w (w6.setCell ⟨g3, y, none⟩ (.int .i64 v)) :=
        ⟨ys.set y v, by rw [List.length_set]; exact Hm.out, (O6.out.set y _).conv (by rw [List.map_set]), Hr6.out.setCell (by exact lRg) _, grown_setCell (grown_trans G3.out G6.out) (.inr hg3) _, (below_of_grown B3.out G6.out B3.out.size (by omega)).setCell (by show w.heap.size ≤ g3; omega) _⟩
      obtain ⟨P', hP, oP, hrx, gx, bx⟩ := F
      clear q0 f0 O6 Hr6
      generalize w6.setCell ⟨g3, y, none⟩ (.int .i64 v) = wx at *
      refine (pick_any B R 63 (q : Int) _ hrx (by omega) (by omega) (by omega)).mono ?_
      rintro e w8 ⟨k, rfl, hk0, hk1, hs8, hr8, hg8⟩
      obtain ⟨k, rfl⟩ := Int.eq_ofNat_of_zero_le hk0
      have hkq : k < q := by omega
      have G8 := grown_trans gx hg8
      have ob8 := hide (Ob2.out.grown G8 lR (by omega))
      have o8 := hide (oP.grown hg8 (by omega))
      have bl8 := hide (below_of_grown bx hg8 bx.size (by omega))
      have s8 := hg8.size
      have s8' := G8.size
      have Hof := hide (Own.new w8 #[] 25 1 0 (by unfold maxLen; omega) rfl)
      have HP := hide hP
      have f1 : (k : Int) ≤ (c1 : Int) := by omega
      have f2 : (k : Int) + 1 ≤ (q : Int) := by omega
      have f3 : (q : Int) ≤ (c1 : Int) := by omega
      have f4 : (k : Int) + 1 ≤ (c1 : Int) := by omega
      have f5 : IntKind.i64.wrap ((k : Int) + 1) = (k : Int) + 1 := IntWalk.i64_in _ (by omega)
      have f6 : k ≤ q := by omega
      have f9 : (0 : Int) ≤ (k : Int) + 1 := by omega
      have f7 : k + 1 ≤ q := by omega
      have Hd1 := hide (show ((bs.take k).map VBod.val).length = k by rw [List.length_map, List.length_take, Hq.out]; omega)
      have Hd2 := hide (show ((bs.drop (k + 1)).map VBod.val).length = q - (k + 1) by rw [List.length_map, List.length_drop, Hq.out])
      have Hv1 := hide (vals_cell0 (Ob2.out.grown G8 lR (by omega)) k)
      have Hv2 := hide (vals_cell1 (Ob2.out.grown G8 lR (by omega)) (k + 1))
      clear hs8 hr8 hg8 hrx gx bx oP hP G8
      by_cases hc : c1 = k + 1
      · subst hc; have f8 : (k : Int) ≤ (k : Int) + 1 := by omega
        go_wp2_with fail
        go_region_law (first | (refine step_append_m (by rfl) (.tmp 42) (.tmp 45) 23 rfl elemS (xs := []) (ad := ⟨g, 0, none⟩) (m := k) (c := k + 1) (g := w8.heap.size) (n := 0) (cap := 0) (by simp [Act.eval, Act.put]) Hof.out (by simp [Act.eval, Act.put]) ((bs.take k).map VBod.val) Hd1.out (cells_alloc Hv1.out) vals_one (by omega) ?_; intro g9 cp9 w9 o9 hg9 hat9; have B9 := hide (fst_belowD (wr := w8) hg9); have S9 := hide (fst_atD (wr := w8) hat9); have O9 := hide (o9.convn (n' := k) (Nat.zero_add k)); clear o9 hg9 hat9; rw [Nat.zero_add]) | (refine step_append_m (by rfl) (.tmp 46) (.tmp 50) 23 rfl elemS (ad := ⟨g, 0, none⟩) (m := q - (k + 1)) (c := 0) (g := g9) (n := k) (cap := cp9) (by simp [Act.eval, Act.put]) O9.out (by simp [Act.eval, Act.put, *]) ((bs.drop (k + 1)).map VBod.val) Hd2.out (fun j u hu => by rw [List.eq_nil_of_length_eq_zero (Hd2.out.trans (by omega))] at hu; simp at hu) vals_one (by omega) ?_; intro g10 cp10 w10 o10 hg10 hat10; have B10 := hide (snd_below B9.out S9.out hg10); have S10 := hide (snd_at B9.out S9.out hat10); have O10 := hide o10; clear o10 hg10 hat10))
        all_goals
          go_wp2_with fail
          go_ret2
          first
            | exact newBodInts_mk (bs := bs.take k ++ bs.drop (k + 1)) (by rw [less_len Hq.out hkq]; omega) HP.out (by omega) (less_few Hf.out) (by omega) ((ob8.out.part less_sub B10.out (Nat.le_refl _) (O10.out.conv (by rw [List.nil_append, ← List.map_append])) S10.out).more zb) (o8.out.below B10.out) (by have := S10.out; omega) (by omega) (bl8.out.trans (B10.out.mono (by omega)))
            | exact newBodInts_mk (bs := bs.take k ++ bs.drop (k + 1)) (by rw [less_len Hq.out hkq]; omega) HP.out (by omega) (less_few Hf.out) (by omega) ((ob8.out.part less_sub B10.out (Nat.le_refl _) ((O10.out.conv (by rw [List.nil_append, ← List.map_append])).convn (n' := k) (by omega)) S10.out).more zb) (o8.out.below B10.out) (by have := S10.out; omega) (by omega) (bl8.out.trans (B10.out.mono (by omega)))
      · have hcx : ¬ c1 - (k + 1) = 0 := by omega
        go_wp2_with fail
        go_region_law (first | (refine step_append_m (by rfl) (.tmp 42) (.tmp 45) 23 rfl elemS (xs := []) (ad := ⟨g, 0, none⟩) (m := k) (c := c1) (g := w8.heap.size) (n := 0) (cap := 0) (by simp [Act.eval, Act.put]) Hof.out (by simp [Act.eval, Act.put]) ((bs.take k).map VBod.val) Hd1.out (cells_alloc Hv1.out) vals_one (by omega) ?_; intro g9 cp9 w9 o9 hg9 hat9; have B9 := hide (fst_belowD (wr := w8) hg9); have S9 := hide (fst_atD (wr := w8) hat9); have O9 := hide (o9.convn (n' := k) (Nat.zero_add k)); clear o9 hg9 hat9; rw [Nat.zero_add]) | (refine step_append_m (by rfl) (.tmp 46) (.tmp 50) 23 rfl elemS (ad := ⟨g, k + 1, none⟩) (m := q - (k + 1)) (c := c1 - (k + 1)) (g := g9) (n := k) (cap := cp9) (by simp [Act.eval, Act.put]) O9.out (by simp [Act.eval, Act.put, *]) ((bs.drop (k + 1)).map VBod.val) Hd2.out (cells_below B9.out Hv2.out) vals_one (by omega) ?_; intro g10 cp10 w10 o10 hg10 hat10; have B10 := hide (snd_below B9.out S9.out hg10); have S10 := hide (snd_at B9.out S9.out hat10); have O10 := hide o10; clear o10 hg10 hat10))
        all_goals
          go_wp2_with fail
          go_ret2
          first
            | exact newBodInts_mk (bs := bs.take k ++ bs.drop (k + 1)) (by rw [less_len Hq.out hkq]; omega) HP.out (by omega) (less_few Hf.out) (by omega) ((ob8.out.part less_sub B10.out (Nat.le_refl _) (O10.out.conv (by rw [List.nil_append, ← List.map_append])) S10.out).more zb) (o8.out.below B10.out) (by have := S10.out; omega) (by omega) (bl8.out.trans (B10.out.mono (by omega)))
            | exact newBodInts_mk (bs := bs.take k ++ bs.drop (k + 1)) (by rw [less_len Hq.out hkq]; omega) HP.out (by omega) (less_few Hf.out) (by omega) ((ob8.out.part less_sub B10.out (Nat.le_refl _) ((O10.out.conv (by rw [List.nil_append, ← List.map_append])).convn (n' := k) (by omega)) S10.out).more zb) (o8.out.below B10.out) (by have := S10.out; omega) (by omega) (bl8.out.trans (B10.out.mono (by omega)))
    · have e1 : (z == 0) = false := by simpa using h0
      clear h0
      have F : ∃ P' : List Int, P'.length = m ∧ Own w4 3 1 g3 m c3 (P'.map (Value.int .i64)) ∧ Rd w4 B R 63 ∧ w2.grownBy w4 (some R) ∧ Below w.heap.size w w4 :=
        ⟨ys, Hm.out, O3.out.grown G4.out (by omega), Hr4.out.more (by omega), grown_trans G3.out G4.out, below_of_grown B3.out G4.out B3.out.size (by omega)⟩
      obtain ⟨P', hP, oP, hrx, gx, bx⟩ := F
      clear Hr4 G4
      go_wp2_with fail
      refine (pick_any B R 63 (q : Int) _ hrx (by omega) (by omega) (by omega)).mono ?_
      rintro e w8 ⟨k, rfl, hk0, hk1, hs8, hr8, hg8⟩
      obtain ⟨k, rfl⟩ := Int.eq_ofNat_of_zero_le hk0
      have hkq : k < q := by omega
      have G8 := grown_trans gx hg8
      have ob8 := hide (Ob2.out.grown G8 lR (by omega))
      have o8 := hide (oP.grown hg8 (by omega))
      have bl8 := hide (below_of_grown bx hg8 bx.size (by omega))
      have s8 := hg8.size
      have s8' := G8.size
      have Hof := hide (Own.new w8 #[] 25 1 0 (by unfold maxLen; omega) rfl)
      have HP := hide hP
      have f1 : (k : Int) ≤ (c1 : Int) := by omega
      have f2 : (k : Int) + 1 ≤ (q : Int) := by omega
      have f3 : (q : Int) ≤ (c1 : Int) := by omega
      have f4 : (k : Int) + 1 ≤ (c1 : Int) := by omega
      have f5 : IntKind.i64.wrap ((k : Int) + 1) = (k : Int) + 1 := IntWalk.i64_in _ (by omega)
      have f6 : k ≤ q := by omega
      have f9 : (0 : Int) ≤ (k : Int) + 1 := by omega
      have f7 : k + 1 ≤ q := by omega
      have Hd1 := hide (show ((bs.take k).map VBod.val).length = k by rw [List.length_map, List.length_take, Hq.out]; omega)
      have Hd2 := hide (show ((bs.drop (k + 1)).map VBod.val).length = q - (k + 1) by rw [List.length_map, List.length_drop, Hq.out])
      have Hv1 := hide (vals_cell0 (Ob2.out.grown G8 lR (by omega)) k)
      have Hv2 := hide (vals_cell1 (Ob2.out.grown G8 lR (by omega)) (k + 1))
      clear hs8 hr8 hg8 hrx gx bx oP hP G8
      by_cases hc : c1 = k + 1
      · subst hc; have f8 : (k : Int) ≤ (k : Int) + 1 := by omega
        go_wp2_with fail
        go_region_law (first | (refine step_append_m (by rfl) (.tmp 42) (.tmp 45) 23 rfl elemS (xs := []) (ad := ⟨g, 0, none⟩) (m := k) (c := k + 1) (g := w8.heap.size) (n := 0) (cap := 0) (by simp [Act.eval, Act.put]) Hof.out (by simp [Act.eval, Act.put]) ((bs.take k).map VBod.val) Hd1.out (cells_alloc Hv1.out) vals_one (by omega) ?_; intro g9 cp9 w9 o9 hg9 hat9; have B9 := hide (fst_belowD (wr := w8) hg9); have S9 := hide (fst_atD (wr := w8) hat9); have O9 := hide (o9.convn (n' := k) (Nat.zero_add k)); clear o9 hg9 hat9; rw [Nat.zero_add]) | (refine step_append_m (by rfl) (.tmp 46) (.tmp 50) 23 rfl elemS (ad := ⟨g, 0, none⟩) (m := q - (k + 1)) (c := 0) (g := g9) (n := k) (cap := cp9) (by simp [Act.eval, Act.put]) O9.out (by simp [Act.eval, Act.put, *]) ((bs.drop (k + 1)).map VBod.val) Hd2.out (fun j u hu => by rw [List.eq_nil_of_length_eq_zero (Hd2.out.trans (by omega))] at hu; simp at hu) vals_one (by omega) ?_; intro g10 cp10 w10 o10 hg10 hat10; have B10 := hide (snd_below B9.out S9.out hg10); have S10 := hide (snd_at B9.out S9.out hat10); have O10 := hide o10; clear o10 hg10 hat10))
        all_goals
          go_wp2_with fail
          go_ret2
          first
            | exact newBodInts_mk (bs := bs.take k ++ bs.drop (k + 1)) (by rw [less_len Hq.out hkq]; omega) HP.out (by omega) (less_few Hf.out) (by omega) ((ob8.out.part less_sub B10.out (Nat.le_refl _) (O10.out.conv (by rw [List.nil_append, ← List.map_append])) S10.out).more zb) (o8.out.below B10.out) (by have := S10.out; omega) (by omega) (bl8.out.trans (B10.out.mono (by omega)))
            | exact newBodInts_mk (bs := bs.take k ++ bs.drop (k + 1)) (by rw [less_len Hq.out hkq]; omega) HP.out (by omega) (less_few Hf.out) (by omega) ((ob8.out.part less_sub B10.out (Nat.le_refl _) ((O10.out.conv (by rw [List.nil_append, ← List.map_append])).convn (n' := k) (by omega)) S10.out).more zb) (o8.out.below B10.out) (by have := S10.out; omega) (by omega) (bl8.out.trans (B10.out.mono (by omega)))
      · have hcx : ¬ c1 - (k + 1) = 0 := by omega
        go_wp2_with fail
        go_region_law (first | (refine step_append_m (by rfl) (.tmp 42) (.tmp 45) 23 rfl elemS (xs := []) (ad := ⟨g, 0, none⟩) (m := k) (c := c1) (g := w8.heap.size) (n := 0) (cap := 0) (by simp [Act.eval, Act.put]) Hof.out (by simp [Act.eval, Act.put]) ((bs.take k).map VBod.val) Hd1.out (cells_alloc Hv1.out) vals_one (by omega) ?_; intro g9 cp9 w9 o9 hg9 hat9; have B9 := hide (fst_belowD (wr := w8) hg9); have S9 := hide (fst_atD (wr := w8) hat9); have O9 := hide (o9.convn (n' := k) (Nat.zero_add k)); clear o9 hg9 hat9; rw [Nat.zero_add]) | (refine step_append_m (by rfl) (.tmp 46) (.tmp 50) 23 rfl elemS (ad := ⟨g, k + 1, none⟩) (m := q - (k + 1)) (c := c1 - (k + 1)) (g := g9) (n := k) (cap := cp9) (by simp [Act.eval, Act.put]) O9.out (by simp [Act.eval, Act.put, *]) ((bs.drop (k + 1)).map VBod.val) Hd2.out (cells_below B9.out Hv2.out) vals_one (by omega) ?_; intro g10 cp10 w10 o10 hg10 hat10; have B10 := hide (snd_below B9.out S9.out hg10); have S10 := hide (snd_at B9.out S9.out hat10); have O10 := hide o10; clear o10 hg10 hat10))
        all_goals
          go_wp2_with fail
          go_ret2
          first
            | exact newBodInts_mk (bs := bs.take k ++ bs.drop (k + 1)) (by rw [less_len Hq.out hkq]; omega) HP.out (by omega) (less_few Hf.out) (by omega) ((ob8.out.part less_sub B10.out (Nat.le_refl _) (O10.out.conv (by rw [List.nil_append, ← List.map_append])) S10.out).more zb) (o8.out.below B10.out) (by have := S10.out; omega) (by omega) (bl8.out.trans (B10.out.mono (by omega)))
            | exact newBodInts_mk (bs := bs.take k ++ bs.drop (k + 1)) (by rw [less_len Hq.out hkq]; omega) HP.out (by omega) (less_few Hf.out) (by omega) ((ob8.out.part less_sub B10.out (Nat.le_refl _) ((O10.out.conv (by rw [List.nil_append, ← List.map_append])).convn (n' := k) (by omega)) S10.out).more zb) (o8.out.below B10.out) (by have := S10.out; omega) (by omega) (bl8.out.trans (B10.out.mono (by omega)))
end Go.Proofs.Ytppomcgkmjnpmaa
