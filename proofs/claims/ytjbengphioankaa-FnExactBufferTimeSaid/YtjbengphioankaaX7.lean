/- Walk of FnExactBufferValid. -/
import Derived.Test.YtjbengphioankaaX6
namespace Go.Proofs.Ytjbengphioankaa
open Go.ChangeShapes Go.WideShapes Go.ChangeAt Go.RowKit Go.Deep

theorem trod_fld {H : Type} {enc : TypeId × Value → H} {P : Program} {W : World} {b n' : Nat} {sp : Nat → Bool} {hd : Bool} {fs : Array Field} {cs : List Value} {ys : List (DataW H × List MemPlace)}
    (hg : ∀ (j : Nat) (f : Field), fs[j]? = some f → DataW.trod enc P W b sp hd n' f.type ((cs.drop f.offset).take (P.cellsOf f.type)) = ys[j]?) (j t o k : Nat) (h : (fs[j]?).map (fun f => (f.type, f.offset)) = some (t, o)) (hk : P.cellsOf t = k) :
    DataW.trod enc P W b sp hd n' t ((cs.drop o).take k) = ys[j]? := by
  obtain ⟨f, hf, he⟩ := Option.map_eq_some_iff.1 h
  simp only [Prod.mk.injEq] at he
  obtain ⟨rfl, rfl⟩ := he
  rw [← hk]
  exact hg j f hf
set_option maxRecDepth 100000 in
/-- The cells of a packet that came in, and when it came. -/
theorem held_elem {H : Type} {enc : TypeId × Value → H} {W : World} {cs : List Value} (hl : cs.length = 7) (h : ∃ n y, DataW.trod enc Try.prog W 0 (fun _ => true) true n 103 cs = some y) : ∃ x : VHeld, cs = x.cells := by
  obtain ⟨n, y, h⟩ := h
  obtain ⟨ys, n', _, _, hlen, hyl, hg⟩ := DataW.trod_struct Try.underlying103 h
  have c6 : Try.prog.cellsOf 101 = 6 := by kernel_rfl
  have c1 : Try.prog.cellsOf 3 = 1 := by kernel_rfl
  have c1b : Try.prog.cellsOf 4 = 1 := by kernel_rfl
  match cs, hl with
  | [a0, a1, a2, a3, a4, a5, a6], _ =>
    have h0 := trod_fld hg 0 101 0 6 (by rfl) c6
    have h1 := trod_fld hg 1 3 6 1 (by rfl) c1
    simp only [List.drop_zero, List.take, List.drop] at h0 h1
    obtain ⟨y0, hy0⟩ : ∃ y, ys[0]? = some y := ⟨_, List.getElem?_eq_getElem (by rw [hyl]; decide)⟩
    obtain ⟨y1, hy1⟩ : ∃ y, ys[1]? = some y := ⟨_, List.getElem?_eq_getElem (by rw [hyl]; decide)⟩
    rw [hy0] at h0
    rw [hy1] at h1
    obtain ⟨b6, rfl, _⟩ := int_cell Try.underlying3 ⟨_, _, h1⟩
    obtain ⟨zs, n2, _, _, hlen2, hyl2, hg2⟩ := DataW.trod_struct Try.underlying101 h0
    have k : ∀ j, j < 6 → ∃ y, zs[j]? = some y := fun j hj => ⟨_, List.getElem?_eq_getElem (by rw [hyl2]; exact hj)⟩
    have p0 := trod_fld hg2 0 3 0 1 (by rfl) c1
    have p1 := trod_fld hg2 1 3 1 1 (by rfl) c1
    have p2 := trod_fld hg2 2 3 2 1 (by rfl) c1
    have p3 := trod_fld hg2 3 3 3 1 (by rfl) c1
    have p4 := trod_fld hg2 4 4 4 1 (by rfl) c1b
    have p5 := trod_fld hg2 5 4 5 1 (by rfl) c1b
    simp only [List.drop_zero, List.take, List.drop] at p0 p1 p2 p3 p4 p5
    obtain ⟨z0, e0⟩ := k 0 (by omega)
    obtain ⟨z1, e1⟩ := k 1 (by omega)
    obtain ⟨z2, e2⟩ := k 2 (by omega)
    obtain ⟨z3, e3⟩ := k 3 (by omega)
    obtain ⟨z4, e4⟩ := k 4 (by omega)
    obtain ⟨z5, e5⟩ := k 5 (by omega)
    rw [e0] at p0
    rw [e1] at p1
    rw [e2] at p2
    rw [e3] at p3
    rw [e4] at p4
    rw [e5] at p5
    obtain ⟨b0, rfl, _⟩ := int_cell Try.underlying3 ⟨_, _, p0⟩
    obtain ⟨b1, rfl, _⟩ := int_cell Try.underlying3 ⟨_, _, p1⟩
    obtain ⟨b2, rfl, _⟩ := int_cell Try.underlying3 ⟨_, _, p2⟩
    obtain ⟨b3, rfl, _⟩ := int_cell Try.underlying3 ⟨_, _, p3⟩
    obtain ⟨b4, rfl⟩ := bool_cell Try.underlying4 ⟨_, _, p4⟩
    obtain ⟨b5, rfl⟩ := bool_cell Try.underlying4 ⟨_, _, p5⟩
    exact ⟨⟨b0, b1, b2, b3, b4, b5, b6⟩, rfl⟩
set_option maxRecDepth 100000 in
theorem helds_cell {H : Type} {enc : TypeId × Value → H} (w : World) (v : Value) (h : ∃ n y, DataW.trod enc Try.prog w 0 (fun _ => true) true n 50 [v] = some y) :
    ∃ A c zs, v = .slice A (List.length zs) c ∧ zs.length ≤ c ∧ c ≤ 9223372036854775807 ∧ HeldAt w A zs := by
  obtain ⟨fuel, y0, hf⟩ := h
  have hC : Try.prog.cellsOf 103 = 7 := by kernel_rfl
  rcases open_slice Try.underlying50 hf with ⟨hcs, _⟩ | ⟨a, n, c, m, nn, D, Pl, hcs, _, hl, hm, hmm, _, hi⟩
  · simp at hcs
    subst hcs
    exact ⟨none, 0, [], rfl, by simp, by omega, .inl (by rfl)⟩
  · simp at hcs
    subst hcs
    simp at hmm
    subst hmm
    unfold maxLen at hm
    rw [hC] at hi
    have hall : ∀ i, i < n → ∃ x : VHeld, ∀ j, j < 7 → w.cell? (a.add (i * 7 + j)) = x.cells[j]? := by
      intro i hin
      obtain ⟨cs', hc, ht'⟩ := hi i (by omega)
      obtain ⟨_, hcl, hat⟩ := World.cells?_some hc
      obtain ⟨x, rfl⟩ := held_elem (by omega) ⟨_, _, ht'⟩
      exact ⟨x, fun j hj => by rw [← Go.Deep.add_add, hat j hj]⟩
    obtain ⟨zs, hlen, hzs⟩ : ∃ zs : List VHeld, zs.length = n ∧ ∀ i, i < n → ∀ j, j < 7 → w.cell? (a.add (i * 7 + j)) = (zs.getD i default).cells[j]? := by
      refine ⟨(List.range n).pmap (fun i (hi : i < n) => Classical.choose (hall i hi)) (fun i hi => List.mem_range.1 hi), by simp, fun i hin => ?_⟩
      have e : ((List.range n).pmap (fun i (hi : i < n) => Classical.choose (hall i hi)) (fun i hi => List.mem_range.1 hi)).getD i default = Classical.choose (hall i hin) := by
        rw [List.getD_eq_getElem?_getD, List.getElem?_eq_getElem (by simp; omega)]
        simp
      rw [e]
      exact Classical.choose_spec (hall i hin)
    refine ⟨some a, _, zs, by rw [hlen], by omega, hm, ?_⟩
    rcases Nat.eq_zero_or_pos n with h0 | h0
    · exact .inl (by rw [List.eq_nil_of_length_eq_zero (show zs.length = 0 by omega)]; rfl)
    · obtain ⟨b, off, spot⟩ := a
      have hx := hzs 0 h0 0 (by omega)
      have hx' : w.cell? ((⟨b, off, spot⟩ : Addr).add (0 * 7 + 0)) = some (.int .i64 (zs.getD 0 default).a0) := hx
      have hspot : spot = none := by simpa [Addr.add] using World.cell?_spot hx'
      subst hspot
      rw [addr_add] at hx'
      refine .inr ⟨b, off, rfl, block_lt_of_cell hx', fun i j hi hj => ?_⟩
      rw [List.length_map] at hi
      have := hzs i (by omega) j hj
      rw [addr_add] at this
      rw [Nat.add_assoc, this, List.getElem?_map, List.getElem?_eq_getElem hi, List.getD_eq_getElem?_getD, List.getElem?_eq_getElem hi]
      rfl
set_option maxRecDepth 100000 in
theorem openBuffer {H : Type} {enc : TypeId × Value → H} (W : World) (base : Nat) (v : Value) (d : DataW H) (p : List MemPlace) (o : Value.okWide Try.prog W .any base 52 v) (h : DataW.Trod enc Try.prog W 0 (fun _ => true) true 52 v d p) :
    ∃ e cr A c zs, v = .agg #[.int .i64 e, .int .i64 cr, .slice A (List.length zs) c] ∧ zs.length ≤ c ∧ c ≤ 9223372036854775807 ∧ HeldAt W A zs := by
  obtain ⟨l, rfl, hl, hg⟩ := open_cells Try.underlying52 (by kernel_rfl) (by kernel_rfl) o h
  obtain ⟨c0, c1, c2, rfl⟩ := len3 (show l.length = 3 from hl)
  obtain ⟨e, rfl, _⟩ := int_cell Try.underlying3 (hg 0 _ c0 rfl rfl)
  obtain ⟨cr, rfl, _⟩ := int_cell Try.underlying3 (hg 1 _ c1 rfl rfl)
  obtain ⟨A, c, zs, rfl, h1, h2, h3⟩ := helds_cell W c2 (hg 2 _ c2 rfl rfl)
  exact ⟨e, cr, A, c, zs, rfl, h1, h2, h3⟩
theorem szBuffer_any (A : Option Addr) (n c : Nat) (e cr m : Int) (w : World) (h0 : 0 ≤ m) (h1 : m ≤ 4611686018427387904) (hn : n ≤ 9223372036854775807) :
    Calls Try.prog 27 #[.agg #[.int .i64 e, .int .i64 cr, .slice A n c], .int .i64 m] w (RetV (.int .i64 (if m - (n : Int) < 0 then -1 else m - (n : Int))) w) := by
  have K := hide (szHeldS_any A n c m (w.alloc (.cells #[.int .i64 e, .int .i64 cr, .slice A n c] 52)) h0 h1 hn)
  obtain ⟨r, hr⟩ : ∃ r, m - (n : Int) = r := ⟨_, rfl⟩
  rw [hr] at K ⊢
  clear hr
  by_cases hneg : r < 0
  · rw [if_pos hneg] at K ⊢
    go_enter Try.func27, Try.ntmps27
    go_wp2_with fail
    refine K.out.mono ?_
    rintro e w' ⟨rfl, rfl⟩
    go_wp2_with fail
    go_ret
    exact ⟨rfl, (Below.refl _ _).alloc (Nat.le_refl _) _⟩
  · rw [if_neg hneg] at K ⊢
    go_enter Try.func27, Try.ntmps27
    go_wp2_with fail
    refine K.out.mono ?_
    rintro e w' ⟨rfl, rfl⟩
    go_wp2_with fail
    go_ret
    exact ⟨rfl, (Below.refl _ _).alloc (Nat.le_refl _) _⟩
def CopiedBuffer (e cr : Int) (zs : List VHeld) (w : World) (en : Ending) (w' : World) : Prop :=
  ∃ g, en = .returned (.agg #[.int .i64 e, .int .i64 cr, .slice (some ⟨g, 0, none⟩) zs.length zs.length]) ∧ w.heap.size ≤ g ∧ Own w' 72 7 g zs.length zs.length (zs.map VHeld.cells).flatten ∧ Below w.heap.size w w'
set_option maxHeartbeats 1000000 in
theorem toBuffer_any (A : Option Addr) (c : Nat) (e cr : Int) (zs : List VHeld) (w : World) (h : HeldAt w A zs) (hm : zs.length ≤ 1048576) :
    Calls Try.prog 28 #[.agg #[.int .i64 e, .int .i64 cr, .slice A zs.length c]] w (CopiedBuffer e cr zs w) := by
  have HH := hide h
  have K := fun w h => toHeldS_any A c zs w h hm
  obtain ⟨n, hn⟩ : ∃ n, zs.length = n := ⟨_, rfl⟩
  have hC : ∀ (g : Nat) (w' : World), w.heap.size ≤ g → Own w' 72 7 g n n (zs.map VHeld.cells).flatten → Below w.heap.size w w' → CopiedBuffer e cr zs w (.returned (.agg #[.int .i64 e, .int .i64 cr, .slice (some ⟨g, 0, none⟩) n n])) w' := fun g w' h1 h2 h3 => ⟨g, by rw [hn], h1, by rw [hn]; exact h2, h3⟩
  have HC := hide hC
  unfold CopiedHeld at K
  rw [hn] at K hm ⊢
  have HK := hide K
  clear h hn K hC
  go_enter Try.func28, Try.ntmps28
  go_wp2_with fail
  refine (HK.out _ (RecAt.below HH.out ((((Below.refl _ _).alloc (Nat.le_refl _) _).alloc (by simp) _).alloc (by simp; omega) _))).mono ?_
  rintro en w1 ⟨g, rfl, hg, o1, hb⟩
  have bl := hide (((((Below.refl _ w).alloc (Nat.le_refl _) _).alloc (by simp) _).alloc (by simp; omega) _).trans (hb.mono (by simp; omega)) : Below w.heap.size w w1)
  obtain ⟨S, hS⟩ : ∃ S, w.heap.size = S := ⟨_, rfl⟩
  simp only [World.size_alloc] at hg
  have rX : Row w1 (w.heap.size + 1) _ := Row.below (by (repeat' (first | (with_reducible assumption) | (with_reducible exact Row.new _ _ _) | (with_reducible exact Row.new1 _ _ _ _) | (with_reducible exact Row.new2 _ _ _ _ _) | (with_reducible exact Row.new2' _ _ _ _ _) | ((with_reducible apply Row.mk) <;> (with_reducible assumption)) | (with_reducible apply Row.alloc) | (with_reducible apply Row.set) | (with_reducible apply Row.far) | (with_reducible apply Row.drew) | (with_reducible apply Row.drewN) | omega | (simp; done) | (simp; omega)))) hb
  have rY : Row w1 (w.heap.size + 1 + 1) _ := Row.below (by (repeat' (first | (with_reducible assumption) | (with_reducible exact Row.new _ _ _) | (with_reducible exact Row.new1 _ _ _ _) | (with_reducible exact Row.new2 _ _ _ _ _) | (with_reducible exact Row.new2' _ _ _ _ _) | ((with_reducible apply Row.mk) <;> (with_reducible assumption)) | (with_reducible apply Row.alloc) | (with_reducible apply Row.set) | (with_reducible apply Row.far) | (with_reducible apply Row.drew) | (with_reducible apply Row.drewN) | omega | (simp; done) | (simp; omega)))) hb
  (try clear cX fX lX)
  (try clear cY fY lY)
  obtain ⟨cX, fX, lX⟩ := rX
  obtain ⟨cY, fY, lY⟩ := rY
  rw [hS] at cX fX lX cY fY lY hg
  have O1 := hide o1
  have lg := o1.lt
  have ng1 : ¬ g = S + 1 := by omega
  have ng2 : ¬ g = S + 1 + 1 := by omega
  clear hb o1
  go_wp2_with fail
  refine bodyPost_ret (by first | (simp (maxDischargeDepth := 3) [results, Try.results28, go_sem, *]; done) | (simp (maxDischargeDepth := 3) [results, Try.results28, go_sem, *]; rfl) | (simp (maxDischargeDepth := 7) [results, Try.results28, go_sem, *]; done) | (simp (maxDischargeDepth := 7) [results, Try.results28, go_sem, *]; rfl)) rfl ?_
  have hSS := hS
  refine HC.out g _ (by omega) ((O1.out.far (by show g ≠ _; omega) _).far (by show g ≠ _; omega) _ |>.far (by show g ≠ _; omega) _ |>.far (by show g ≠ _; omega) _) ?_
  have bl := bl.out
  (repeat' (first | (with_reducible exact Below.refl _ _) | (with_reducible assumption) | (with_reducible refine Below.alloc ?_ ?_ _) | (with_reducible refine Below.setCell ?_ ?_ _) | (with_reducible refine Below.drew ?_) | (with_reducible refine below_drewN' ?_ _) | (with_reducible refine below_step (by assumption) ?_ ?_) | (with_reducible refine below_gstep (by assumption) ?_ ?_ ?_) | (with_reducible exact Below.size (by assumption)) | omega | (simp; done) | (simp; omega)))
theorem eqBuffer_same (A1 A2 : Option Addr) (c1 c2 : Nat) (e cr : Int) (zs : List VHeld) (w : World) (h1 : HeldAt w A1 zs) (h2 : HeldAt w A2 zs) (hm : zs.length ≤ 1048576) :
    Calls Try.prog 29 #[.agg #[.int .i64 e, .int .i64 cr, .slice A1 zs.length c1], .agg #[.int .i64 e, .int .i64 cr, .slice A2 zs.length c2]] w (RetB true w) := by
  have H1 := hide h1
  have H2 := hide h2
  have K := fun w h1 h2 => eqHeldS_same A1 A2 c1 c2 zs w h1 h2 hm
  obtain ⟨n, hn⟩ : ∃ n, zs.length = n := ⟨_, rfl⟩
  rw [hn] at K ⊢
  have HK := hide K
  have e1 : (e != e) = false := by simp
  have e2 : (cr != cr) = false := by simp
  clear h1 h2 hn K
  go_enter Try.func29, Try.ntmps29
  go_wp2_with fail
  have b0 := hide (((Below.refl _ w).alloc (Nat.le_refl _) (.cells #[.int .i64 e, .int .i64 cr, .slice A1 n c1] 38)).alloc (by simp) (.cells #[.int .i64 e, .int .i64 cr, .slice A2 n c2] 38))
  refine (HK.out _ (RecAt.below H1.out b0.out) (RecAt.below H2.out b0.out)).mono ?_
  rintro en w1 ⟨rfl, hb⟩
  have bl := hide (b0.out.trans (hb.mono (by simp; omega)))
  clear hb
  go_wp2_with fail
  go_ret
  exact ⟨rfl, bl.out⟩
set_option maxRecDepth 100000 in
set_option maxHeartbeats 4000000 in
theorem walk_fnExactBufferValid {H : Type} {enc : TypeId × Value → H} (W : World) (base : Nat) (v : Value) (d : DataW H) (p : List MemPlace) (o : Value.okWide Try.prog W .any base 52 v) (h : DataW.Trod enc Try.prog W 0 (fun _ => true) true 52 v d p) :
    Calls Try.prog 8 #[v] W (RetB true W) := by
  obtain ⟨e, cr, A, c, zs, rfl, hn, hm, hA⟩ := openBuffer W base v d p o h
  clear o h
  obtain ⟨F, hF⟩ : ∃ F, bufB e cr zs = F := ⟨_, rfl⟩
  have K1 := fun n w (hn : zs.length = n) (h1 : n ≤ 1048576) => szBuffer_any A n c e cr 1048576 w (by omega) (by omega) (by omega)
  obtain ⟨n, hnn⟩ : ∃ n, zs.length = n := ⟨_, rfl⟩
  have KZ := fun w => szBuffer_any A n c e cr 1048576 w (by omega) (by omega) (by omega)
  have KT := fun w h (hl : zs.length ≤ 1048576) => toBuffer_any A c e cr zs w h hl
  have KS := fun g w h (hl : zs.length ≤ 1048576) => specBufferValid (some ⟨g, 0, none⟩) zs.length e cr zs w h hl
  have KI := fun g w h (hl : zs.length ≤ 1048576) => implBufferValid (some ⟨g, 0, none⟩) zs.length e cr zs w h hl
  have KE := fun g g2 w h1 h2 (hl : zs.length ≤ 1048576) => eqBuffer_same (some ⟨g, 0, none⟩) (some ⟨g2, 0, none⟩) zs.length zs.length e cr zs w h1 h2 hl
  unfold CopiedBuffer at KT
  rw [hF] at KS KI
  rw [hnn] at KT KS KI KE hn ⊢
  have HA := hide hA
  have Hn := hide hnn
  have e0 : (F != F) = false := by cases F <;> rfl
  have HKZ := hide KZ
  have HKT := hide KT
  have HKS := hide KS
  have HKI := hide KI
  have HKE := hide KE
  obtain ⟨S, hS⟩ : ∃ S, W.heap.size = S := ⟨_, rfl⟩
  clear hA hnn hF K1 KZ KT KS KI KE
  go_enter Try.func8, Try.ntmps8
  go_wp2_with fail
  refine (HKZ.out _).mono ?_
  rintro en w1 ⟨rfl, hb⟩
  have bl := ((Below.refl _ W).alloc (Nat.le_refl _) (.cells #[.int .i64 e, .int .i64 cr, .slice A n c] 52)).trans (hb.mono (by simp))
  have rX : Row w1 (W.heap.size) _ := Row.below (by (repeat' (first | (with_reducible assumption) | (with_reducible exact Row.new _ _ _) | (with_reducible exact Row.new1 _ _ _ _) | (with_reducible exact Row.new2 _ _ _ _ _) | (with_reducible exact Row.new2' _ _ _ _ _) | ((with_reducible apply Row.mk) <;> (with_reducible assumption)) | (with_reducible apply Row.alloc) | (with_reducible apply Row.set) | (with_reducible apply Row.far) | (with_reducible apply Row.drew) | (with_reducible apply Row.drewN) | omega | (simp; done) | (simp; omega)))) hb
  (try clear cX fX lX)
  obtain ⟨cX, fX, lX⟩ := rX
  rw [hS] at cX fX lX
  have Bl := hide bl
  clear hb bl
  by_cases hb : 1048576 - (n : Int) < 0
  · rw [if_pos hb]
    clear hb
    go_wp2_with fail
    go_ret
    exact ⟨rfl, Bl.out⟩
  · rw [if_neg hb]
    have l0 : n ≤ 1048576 := by omega
    have hb' : ¬ 1048576 < (n : Int) := by omega
    obtain ⟨lf, hlf⟩ : ∃ lf : Int, 1048576 - (n : Int) = lf := ⟨_, rfl⟩
    have hlf1 : ¬ lf < 0 := by omega
    rw [hlf]
    clear hlf hb
    go_wp2_with fail
    refine (HKT.out _ (RecAt.below HA.out Bl.out) l0).mono ?_
    rintro en w2 ⟨g2, rfl, hg2, o2, hb⟩
    have rX : Row w2 (S) _ := Row.below (by (repeat' (first | (with_reducible assumption) | (with_reducible exact Row.new _ _ _) | (with_reducible exact Row.new1 _ _ _ _) | (with_reducible exact Row.new2 _ _ _ _ _) | (with_reducible exact Row.new2' _ _ _ _ _) | ((with_reducible apply Row.mk) <;> (with_reducible assumption)) | (with_reducible apply Row.alloc) | (with_reducible apply Row.set) | (with_reducible apply Row.far) | (with_reducible apply Row.drew) | (with_reducible apply Row.drewN) | omega | (simp; done) | (simp; omega)))) hb
    (try clear cX fX lX)
    obtain ⟨cX, fX, lX⟩ := rX
    have Bl := hide (Bl.out.trans (hb.mono Bl.out.size))
    have W2 := hide (ownHeld o2 Hn.out)
    clear hb o2
    go_wp2_with fail
    refine (HKS.out _ _ W2.out l0).mono ?_
    rintro en w3 ⟨rfl, hb⟩
    have rX : Row w3 (S) _ := Row.below (by (repeat' (first | (with_reducible assumption) | (with_reducible exact Row.new _ _ _) | (with_reducible exact Row.new1 _ _ _ _) | (with_reducible exact Row.new2 _ _ _ _ _) | (with_reducible exact Row.new2' _ _ _ _ _) | ((with_reducible apply Row.mk) <;> (with_reducible assumption)) | (with_reducible apply Row.alloc) | (with_reducible apply Row.set) | (with_reducible apply Row.far) | (with_reducible apply Row.drew) | (with_reducible apply Row.drewN) | omega | (simp; done) | (simp; omega)))) hb
    (try clear cX fX lX)
    obtain ⟨cX, fX, lX⟩ := rX
    have Bl := hide (Bl.out.trans (hb.mono Bl.out.size))
    clear hb W2
    go_wp2_with fail
    refine (HKT.out _ (RecAt.below HA.out Bl.out) l0).mono ?_
    rintro en w4 ⟨g4, rfl, hg4, o4, hb⟩
    have rX : Row w4 (S) _ := Row.below (by (repeat' (first | (with_reducible assumption) | (with_reducible exact Row.new _ _ _) | (with_reducible exact Row.new1 _ _ _ _) | (with_reducible exact Row.new2 _ _ _ _ _) | (with_reducible exact Row.new2' _ _ _ _ _) | ((with_reducible apply Row.mk) <;> (with_reducible assumption)) | (with_reducible apply Row.alloc) | (with_reducible apply Row.set) | (with_reducible apply Row.far) | (with_reducible apply Row.drew) | (with_reducible apply Row.drewN) | omega | (simp; done) | (simp; omega)))) hb
    (try clear cX fX lX)
    obtain ⟨cX, fX, lX⟩ := rX
    have Bl := hide (Bl.out.trans (hb.mono Bl.out.size))
    have O4 := hide o4
    clear hb o4
    go_wp2_with fail
    obtain ⟨Y, hY⟩ : ∃ Y, w4.heap.size = Y := ⟨_, rfl⟩
    have nXY : ¬ S = Y := by omega
    have nYX : ¬ Y = S := by omega
    have bY := hide ((Below.refl w4.heap.size w4).alloc (Nat.le_refl _) (.cells #[.int .i64 e, .int .i64 cr, .slice (some ⟨g4, 0, none⟩) n n] 38))
    refine (HKI.out _ _ (RecAt.below (ownHeld O4.out Hn.out) bY.out) l0).mono ?_
    rintro en w5 ⟨rfl, hb⟩
    have b5 := hide (bY.out.trans (hb.mono (by simp)))
    have rX : Row w5 (S) _ := Row.below (by (repeat' (first | (with_reducible assumption) | (with_reducible exact Row.new _ _ _) | (with_reducible exact Row.new1 _ _ _ _) | (with_reducible exact Row.new2 _ _ _ _ _) | (with_reducible exact Row.new2' _ _ _ _ _) | ((with_reducible apply Row.mk) <;> (with_reducible assumption)) | (with_reducible apply Row.alloc) | (with_reducible apply Row.set) | (with_reducible apply Row.far) | (with_reducible apply Row.drew) | (with_reducible apply Row.drewN) | omega | (simp; done) | (simp; omega)))) hb
    have rY : Row w5 (w4.heap.size) _ := Row.below (by (repeat' (first | (with_reducible assumption) | (with_reducible exact Row.new _ _ _) | (with_reducible exact Row.new1 _ _ _ _) | (with_reducible exact Row.new2 _ _ _ _ _) | (with_reducible exact Row.new2' _ _ _ _ _) | ((with_reducible apply Row.mk) <;> (with_reducible assumption)) | (with_reducible apply Row.alloc) | (with_reducible apply Row.set) | (with_reducible apply Row.far) | (with_reducible apply Row.drew) | (with_reducible apply Row.drewN) | omega | (simp; done) | (simp; omega)))) hb
    (try clear cX fX lX)
    (try clear cY fY lY)
    obtain ⟨cX, fX, lX⟩ := rX
    obtain ⟨cY, fY, lY⟩ := rY
    rw [hY] at cY fY lY
    have O5 := hide (O4.out.below b5.out)
    have Bl := hide (Bl.out.trans (b5.out.mono Bl.out.size))
    have l5 := (O4.out.below b5.out).lt
    clear hb bY O4
    go_upto_region 10 with (fail)
    go_region_held3 (fun w' => (∀ o, w'.cell? ⟨S, o, none⟩ = #[Value.int .i64 e, .int .i64 cr, .slice A n c][o]?) ∧ (∀ o, w'.cell? ⟨Y, o, none⟩ = #[Value.int .i64 e, .int .i64 cr, .slice (some ⟨g4, 0, none⟩) n n][o]?)) (first | exact ⟨cX, cY⟩ | go_keep) (first | (go_at_call 28; refine (HKT.out _ (RecAt.below HA.out (Below.drew Bl.out)) l0).mono ?_; rintro en w6 ⟨g6, rfl, hg6, o6, hb6⟩; have hb6' : Below w5.heap.size w5 w6 := (Below.drew (Below.refl _ w5)).trans hb6; have rX : Row w6 S _ := Row.below (Row.mk cX fX lX) hb6'; have rY : Row w6 Y _ := Row.below (Row.mk cY fY lY) hb6'; have O6 := hide o6; have B6 := hide hb6'; clear hb6 hb6' o6; obtain ⟨cX, fX, lX⟩ := rX; obtain ⟨cY, fY, lY⟩ := rY) | (go_at_call 29; refine (HKE.out _ _ _ (ownHeld (O5.out.below B6.out) Hn.out) (ownHeld O6.out Hn.out) l0).mono ?_; rintro en w7 ⟨rfl, hb7⟩; have B7 := hide hb7; have rX : Row w7 S _ := Row.below (Row.mk cX fX lX) hb7; have rY : Row w7 Y _ := Row.below (Row.mk cY fY lY) hb7; clear hb7; obtain ⟨cX, fX, lX⟩ := rX; obtain ⟨cY, fY, lY⟩ := rY))
    all_goals
      go_wp2_with fail
      go_ret
      exact ⟨rfl, Bl.out.trans ((B6.out.mono Bl.out.size).trans (B7.out.mono (by have := Bl.out.size; have := B6.out.size; omega)))⟩
end Go.Proofs.Ytjbengphioankaa
