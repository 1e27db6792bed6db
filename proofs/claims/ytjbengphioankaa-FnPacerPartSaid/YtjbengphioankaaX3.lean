/- Walk of FnExactPacerValid. -/
import Derived.Test.YtjbengphioankaaX2
namespace Go.Proofs.Ytjbengphioankaa
open Go.ChangeShapes Go.WideShapes Go.ChangeAt Go.RowKit Go.Deep

/-- A slice of structs of one-cell fields, that lies in one cell of a value that came in. -/
theorem open_recs_cell {H : Type} {enc : TypeId × Value → H} {P : Program} {w : World} {held : Bool} {t e : TypeId} {fs : Array Field} {v : Value} (ht : P.underlying t = some (.slice e)) (he : P.underlying e = some (.struct fs))
    (hone : oneCellFields P fs = true) (hC : P.cellsOf e = fs.size) (hpos : 0 < fs.size) (h : ∃ n y, DataW.trod enc P w 0 (fun _ => true) held n t [v] = some y) :
    ∃ A c css, v = .slice A (List.length css) c ∧ css.length ≤ c ∧ c ≤ 9223372036854775807 ∧ RecAt fs.size w A css ∧
      ∀ i, i < css.length → ∃ cs : List Value, css[i]? = some cs ∧ cs.length = fs.size ∧ ∀ (j : Nat) (f : Field), fs[j]? = some f → ∃ c n y, cs[j]? = some c ∧ DataW.trod enc P w 0 (fun _ => true) held n f.type [c] = some y := by
  obtain ⟨fuel, y0, hf⟩ := h
  rcases open_slice ht hf with ⟨hcs, _⟩ | ⟨a, n, c, m, nn, D, Pl, hcs, _, hl, hm, hmm, _, hi⟩
  · simp at hcs
    subst hcs
    exact ⟨none, 0, [], rfl, by simp, by omega, .inl rfl, fun i hi => by simp at hi⟩
  · simp at hcs
    subst hcs
    simp at hmm
    subst hmm
    unfold maxLen at hm
    rw [hC] at hi
    have hall : ∀ i, i < n → ∃ cs : List Value, cs.length = fs.size ∧ (∀ j, j < fs.size → w.cell? (a.add (i * fs.size + j)) = cs[j]?) ∧ ∀ (j : Nat) (f : Field), fs[j]? = some f → ∃ c n y, cs[j]? = some c ∧ DataW.trod enc P w 0 (fun _ => true) held n f.type [c] = some y := by
      intro i hin
      obtain ⟨cs', hc, ht'⟩ := hi i (by omega)
      obtain ⟨ys, n', hn', hy, hlen, hyl, hg⟩ := DataW.trod_struct he ht'
      obtain ⟨_, hcl, hat⟩ := World.cells?_some hc
      refine ⟨cs', by omega, fun j hj => ?_, fun j f hj => ?_⟩
      · rw [← Go.Deep.add_add, hat j hj]
      · obtain ⟨ho, hk⟩ := hone_of hone j f hj
        have hjl : j < fs.size := (Array.getElem?_eq_some_iff.1 hj).1
        have hv : cs'[j]? = some (cs'[j]'(by omega)) := List.getElem?_eq_getElem (by omega)
        have h1 := hg j f hj
        rw [ho, hk] at h1
        have hone' : (cs'.drop j).take 1 = [cs'[j]'(by omega)] := by
          rw [List.drop_eq_getElem_cons (by omega)]
          rfl
        rw [hone'] at h1
        exact ⟨_, n', ys[j]'(by omega), hv, by rw [h1]; exact List.getElem?_eq_getElem (by omega)⟩
    obtain ⟨css, hlen, hcss⟩ : ∃ css : List (List Value), css.length = n ∧ ∀ i, i < n → ∃ cs, css[i]? = some cs ∧ cs.length = fs.size ∧ (∀ j, j < fs.size → w.cell? (a.add (i * fs.size + j)) = cs[j]?) ∧ ∀ (j : Nat) (f : Field), fs[j]? = some f → ∃ c n y, cs[j]? = some c ∧ DataW.trod enc P w 0 (fun _ => true) held n f.type [c] = some y := by
      refine ⟨(List.range n).pmap (fun i (hi : i < n) => Classical.choose (hall i hi)) (fun i hi => List.mem_range.1 hi), by simp, fun i hin => ⟨Classical.choose (hall i hin), by simp [hin], Classical.choose_spec (hall i hin)⟩⟩
    refine ⟨some a, _, css, by rw [hlen], by omega, hm, ?_, fun i hi => ?_⟩
    · rcases Nat.eq_zero_or_pos n with h0 | h0
      · exact .inl (List.eq_nil_of_length_eq_zero (by omega))
      · obtain ⟨cs, _, hl0, hc0, _⟩ := hcss 0 h0
        obtain ⟨b, off, spot⟩ := a
        have hx := hc0 0 hpos
        rw [List.getElem?_eq_getElem (by omega)] at hx
        have hspot : spot = none := by simpa [Addr.add] using World.cell?_spot hx
        subst hspot
        rw [addr_add] at hx
        refine .inr ⟨b, off, rfl, block_lt_of_cell hx, fun i j hi hj => ?_⟩
        obtain ⟨cs, hcs, _, hc, _⟩ := hcss i (by omega)
        rw [hcs, ← (show w.cell? _ = (some cs).bind (fun c => c[j]?) from hc j hj)]
        rw [addr_add, Nat.add_assoc]
    · obtain ⟨cs, h1, h2, _, h3⟩ := hcss i (by omega)
      exact ⟨cs, h1, h2, h3⟩
set_option maxRecDepth 100000 in
theorem waitings_cell {H : Type} {enc : TypeId × Value → H} (W : World) (v : Value) (h : ∃ n y, DataW.trod enc Try.prog W 0 (fun _ => true) true n 29 [v] = some y) :
    ∃ A c zs, v = .slice A (List.length zs) c ∧ zs.length ≤ c ∧ c ≤ 9223372036854775807 ∧ WaitingAt W A zs := by
  obtain ⟨A, c, css, rfl, hl, hm, hr, hf⟩ := open_recs_cell Try.underlying29 Try.underlying93 (by kernel_rfl) (by kernel_rfl) (by show 0 < 3; omega) h
  obtain ⟨zs, rfl⟩ : ∃ zs : List VWaiting, css = zs.map VWaiting.cells := by
    refine lift_map fun i hi => ?_
    obtain ⟨cs, h0, hlen, hcs⟩ := hf i hi
    match cs, (show cs.length = 3 from hlen) with
    | [c0, c1, c2], _ =>
      obtain ⟨_, n0, y0, e0, t0⟩ := hcs 0 _ rfl
      simp at e0
      subst e0
      obtain ⟨b0, rfl, _⟩ := int_cell Try.underlying3 ⟨_, _, t0⟩
      obtain ⟨_, n1, y1, e1, t1⟩ := hcs 1 _ rfl
      simp at e1
      subst e1
      obtain ⟨b1, rfl, _⟩ := int_cell Try.underlying3 ⟨_, _, t1⟩
      obtain ⟨_, n2, y2, e2, t2⟩ := hcs 2 _ rfl
      simp at e2
      subst e2
      obtain ⟨b2, rfl, _⟩ := int_cell Try.underlying3 ⟨_, _, t2⟩
      exact ⟨⟨b0, b1, b2⟩, h0⟩
  exact ⟨A, c, zs, by simp, by simpa using hl, hm, hr⟩
set_option maxRecDepth 100000 in
theorem openPacer {H : Type} {enc : TypeId × Value → H} (W : World) (base : Nat) (v : Value) (d : DataW H) (p : List MemPlace) (o : Value.okWide Try.prog W .any base 31 v) (h : DataW.Trod enc Try.prog W 0 (fun _ => true) true 31 v d p) :
    ∃ e cr A c zs, v = .agg #[.int .i64 e, .int .i64 cr, .slice A (List.length zs) c] ∧ zs.length ≤ c ∧ c ≤ 9223372036854775807 ∧ WaitingAt W A zs := by
  obtain ⟨l, rfl, hl, hg⟩ := open_cells Try.underlying31 (by kernel_rfl) (by kernel_rfl) o h
  obtain ⟨c0, c1, c2, rfl⟩ := len3 (show l.length = 3 from hl)
  obtain ⟨e, rfl, _⟩ := int_cell Try.underlying3 (hg 0 _ c0 rfl rfl)
  obtain ⟨cr, rfl, _⟩ := int_cell Try.underlying3 (hg 1 _ c1 rfl rfl)
  obtain ⟨A, c, zs, rfl, h1, h2, h3⟩ := waitings_cell W c2 (hg 2 _ c2 rfl rfl)
  exact ⟨e, cr, A, c, zs, rfl, h1, h2, h3⟩
theorem szPacer_any (A : Option Addr) (n c : Nat) (e cr m : Int) (w : World) (h0 : 0 ≤ m) (h1 : m ≤ 4611686018427387904) (hn : n ≤ 9223372036854775807) :
    Calls Try.prog 13 #[.agg #[.int .i64 e, .int .i64 cr, .slice A n c], .int .i64 m] w (RetV (.int .i64 (if m - (n : Int) < 0 then -1 else m - (n : Int))) w) := by
  have K := hide (szWaitingS_any A n c m (w.alloc (.cells #[.int .i64 e, .int .i64 cr, .slice A n c] 31)) h0 h1 hn)
  obtain ⟨r, hr⟩ : ∃ r, m - (n : Int) = r := ⟨_, rfl⟩
  rw [hr] at K ⊢
  clear hr
  by_cases hneg : r < 0
  · rw [if_pos hneg] at K ⊢
    go_enter Try.func13, Try.ntmps13
    go_wp2_with fail
    refine K.out.mono ?_
    rintro e w' ⟨rfl, rfl⟩
    go_wp2_with fail
    go_ret
    exact ⟨rfl, (Below.refl _ _).alloc (Nat.le_refl _) _⟩
  · rw [if_neg hneg] at K ⊢
    go_enter Try.func13, Try.ntmps13
    go_wp2_with fail
    refine K.out.mono ?_
    rintro e w' ⟨rfl, rfl⟩
    go_wp2_with fail
    go_ret
    exact ⟨rfl, (Below.refl _ _).alloc (Nat.le_refl _) _⟩
def CopiedPacer (e cr : Int) (zs : List VWaiting) (w : World) (en : Ending) (w' : World) : Prop :=
  ∃ g, en = .returned (.agg #[.int .i64 e, .int .i64 cr, .slice (some ⟨g, 0, none⟩) zs.length zs.length]) ∧ w.heap.size ≤ g ∧ Own w' 61 3 g zs.length zs.length (zs.map VWaiting.cells).flatten ∧ Below w.heap.size w w'
set_option maxHeartbeats 1000000 in
theorem toPacer_any (A : Option Addr) (c : Nat) (e cr : Int) (zs : List VWaiting) (w : World) (h : WaitingAt w A zs) (hm : zs.length ≤ 1048576) :
    Calls Try.prog 14 #[.agg #[.int .i64 e, .int .i64 cr, .slice A zs.length c]] w (CopiedPacer e cr zs w) := by
  have HH := hide h
  have K := fun w h => toWaitingS_any A c zs w h hm
  obtain ⟨n, hn⟩ : ∃ n, zs.length = n := ⟨_, rfl⟩
  have hC : ∀ (g : Nat) (w' : World), w.heap.size ≤ g → Own w' 61 3 g n n (zs.map VWaiting.cells).flatten → Below w.heap.size w w' → CopiedPacer e cr zs w (.returned (.agg #[.int .i64 e, .int .i64 cr, .slice (some ⟨g, 0, none⟩) n n])) w' := fun g w' h1 h2 h3 => ⟨g, by rw [hn], h1, by rw [hn]; exact h2, h3⟩
  have HC := hide hC
  unfold CopiedWaiting at K
  rw [hn] at K hm ⊢
  have HK := hide K
  clear h hn K hC
  go_enter Try.func14, Try.ntmps14
  go_wp2_with fail
  refine (HK.out _ (RecAt.below HH.out ((((Below.refl _ _).alloc (Nat.le_refl _) _).alloc (by simp) _).alloc (by simp; omega) _))).mono ?_
  rintro en w1 ⟨g, rfl, hg, o1, hb⟩
  have bl := hide (((((Below.refl _ w).alloc (Nat.le_refl _) _).alloc (by simp) _).alloc (by simp; omega) _).trans (hb.mono (by simp; omega)) : Below w.heap.size w w1)
  obtain ⟨S, hS⟩ : ∃ S, w.heap.size = S := ⟨_, rfl⟩
  simp only [World.size_alloc] at hg
  have rX : Row w1 (w.heap.size + 1) _ := Row.below (by (repeat' (first | (with_reducible assumption) | (with_reducible exact Row.new _ _ _) | (with_reducible exact Row.new1 _ _ _ _) | (with_reducible exact Row.new2 _ _ _ _ _) | (with_reducible exact Row.new2' _ _ _ _ _) | ((with_reducible apply Row.mk) <;> (with_reducible assumption)) | (with_reducible apply Row.alloc) | (with_reducible apply Row.set) | (with_reducible apply Row.far) | (with_reducible apply Row.drew) | (with_reducible apply Row.drewN) | omega | (simp; done) | (simp; omega)))) hb
  have rY : Row w1 (w.heap.size + 1 + 1) _ := Row.below (by (repeat' (first | (with_reducible assumption) | (with_reducible exact Row.new _ _ _) | (with_reducible exact Row.new1 _ _ _ _) | (with_reducible exact Row.new2 _ _ _ _ _) | (with_reducible exact Row.new2' _ _ _ _ _) | ((with_reducible apply Row.mk) <;> (with_reducible assumption)) | (with_reducible apply Row.alloc) | (with_reducible apply Row.set) | (with_reducible apply Row.far) | (with_reducible apply Row.drew) | (with_reducible apply Row.drewN) | omega | (simp; done) | (simp; omega)))) hb
  (try clear cX fX lX)
  (try clear cY fY lY)
  obtain ⟨cX, fX, lX⟩ := rX
  obtain ⟨cY, fY, lY⟩ := rY
  rw [hS] at cX fX lX cY fY lY hg
  have O1 := hide o1
  have lg := o1.lt
  have ng1 : ¬ g = S + 1 := by omega
  have ng2 : ¬ g = S + 1 + 1 := by omega
  clear hb o1
  go_wp2_with fail
  refine bodyPost_ret (by first | (simp (maxDischargeDepth := 3) [results, Try.results14, go_sem, *]; done) | (simp (maxDischargeDepth := 3) [results, Try.results14, go_sem, *]; rfl) | (simp (maxDischargeDepth := 7) [results, Try.results14, go_sem, *]; done) | (simp (maxDischargeDepth := 7) [results, Try.results14, go_sem, *]; rfl)) rfl ?_
  have hSS := hS
  refine HC.out g _ (by omega) ((O1.out.far (by show g ≠ _; omega) _).far (by show g ≠ _; omega) _ |>.far (by show g ≠ _; omega) _ |>.far (by show g ≠ _; omega) _) ?_
  have bl := bl.out
  (repeat' (first | (with_reducible exact Below.refl _ _) | (with_reducible assumption) | (with_reducible refine Below.alloc ?_ ?_ _) | (with_reducible refine Below.setCell ?_ ?_ _) | (with_reducible refine Below.drew ?_) | (with_reducible refine below_drewN' ?_ _) | (with_reducible refine below_step (by assumption) ?_ ?_) | (with_reducible refine below_gstep (by assumption) ?_ ?_ ?_) | (with_reducible exact Below.size (by assumption)) | omega | (simp; done) | (simp; omega)))
theorem eqPacer_same (A1 A2 : Option Addr) (c1 c2 : Nat) (e cr : Int) (zs : List VWaiting) (w : World) (h1 : WaitingAt w A1 zs) (h2 : WaitingAt w A2 zs) (hm : zs.length ≤ 1048576) :
    Calls Try.prog 15 #[.agg #[.int .i64 e, .int .i64 cr, .slice A1 zs.length c1], .agg #[.int .i64 e, .int .i64 cr, .slice A2 zs.length c2]] w (RetB true w) := by
  have H1 := hide h1
  have H2 := hide h2
  have K := fun w h1 h2 => eqWaitingS_same A1 A2 c1 c2 zs w h1 h2 hm
  obtain ⟨n, hn⟩ : ∃ n, zs.length = n := ⟨_, rfl⟩
  rw [hn] at K ⊢
  have HK := hide K
  have e1 : (e != e) = false := by simp
  have e2 : (cr != cr) = false := by simp
  clear h1 h2 hn K
  go_enter Try.func15, Try.ntmps15
  go_wp2_with fail
  have b0 := hide (((Below.refl _ w).alloc (Nat.le_refl _) (.cells #[.int .i64 e, .int .i64 cr, .slice A1 n c1] 25)).alloc (by simp) (.cells #[.int .i64 e, .int .i64 cr, .slice A2 n c2] 25))
  refine (HK.out _ (RecAt.below H1.out b0.out) (RecAt.below H2.out b0.out)).mono ?_
  rintro en w1 ⟨rfl, hb⟩
  have bl := hide (b0.out.trans (hb.mono (by simp; omega)))
  clear hb
  go_wp2_with fail
  go_ret
  exact ⟨rfl, bl.out⟩
set_option maxRecDepth 100000 in
set_option maxHeartbeats 4000000 in
theorem walk_fnExactPacerValid {H : Type} {enc : TypeId × Value → H} (W : World) (base : Nat) (v : Value) (d : DataW H) (p : List MemPlace) (o : Value.okWide Try.prog W .any base 31 v) (h : DataW.Trod enc Try.prog W 0 (fun _ => true) true 31 v d p) :
    Calls Try.prog 4 #[v] W (RetB true W) := by
  obtain ⟨e, cr, A, c, zs, rfl, hn, hm, hA⟩ := openPacer W base v d p o h
  clear o h
  obtain ⟨F, hF⟩ : ∃ F, pacB e cr zs = F := ⟨_, rfl⟩
  have K1 := fun n w (hn : zs.length = n) (h1 : n ≤ 1048576) => szPacer_any A n c e cr 1048576 w (by omega) (by omega) (by omega)
  obtain ⟨n, hnn⟩ : ∃ n, zs.length = n := ⟨_, rfl⟩
  have KZ := fun w => szPacer_any A n c e cr 1048576 w (by omega) (by omega) (by omega)
  have KT := fun w h (hl : zs.length ≤ 1048576) => toPacer_any A c e cr zs w h hl
  have KS := fun g w h (hl : zs.length ≤ 1048576) => specPacerValid (some ⟨g, 0, none⟩) zs.length e cr zs w h hl
  have KI := fun g w h (hl : zs.length ≤ 1048576) => implPacerValid (some ⟨g, 0, none⟩) zs.length e cr zs w h hl
  have KE := fun g g2 w h1 h2 (hl : zs.length ≤ 1048576) => eqPacer_same (some ⟨g, 0, none⟩) (some ⟨g2, 0, none⟩) zs.length zs.length e cr zs w h1 h2 hl
  unfold CopiedPacer at KT
  rw [hF] at KS KI
  rw [hnn] at KT KS KI KE hn ⊢
  have HA := hide hA
  have Hn := hide hnn
  have e0 : (F != F) = false := by cases F <;> rfl
  have HKZ := hide KZ
  have HKT := hide KT
  have HKS := hide KS
  have HKI := hide KI
  have HKE := hide KE
  obtain ⟨S, hS⟩ : ∃ S, W.heap.size = S := ⟨_, rfl⟩
  clear hA hnn hF K1 KZ KT KS KI KE
  go_enter Try.func4, Try.ntmps4
  go_wp2_with fail
  refine (HKZ.out _).mono ?_
  rintro en w1 ⟨rfl, hb⟩
  have bl := ((Below.refl _ W).alloc (Nat.le_refl _) (.cells #[.int .i64 e, .int .i64 cr, .slice A n c] 31)).trans (hb.mono (by simp))
  have rX : Row w1 (W.heap.size) _ := Row.below (by (repeat' (first | (with_reducible assumption) | (with_reducible exact Row.new _ _ _) | (with_reducible exact Row.new1 _ _ _ _) | (with_reducible exact Row.new2 _ _ _ _ _) | (with_reducible exact Row.new2' _ _ _ _ _) | ((with_reducible apply Row.mk) <;> (with_reducible assumption)) | (with_reducible apply Row.alloc) | (with_reducible apply Row.set) | (with_reducible apply Row.far) | (with_reducible apply Row.drew) | (with_reducible apply Row.drewN) | omega | (simp; done) | (simp; omega)))) hb
  (try clear cX fX lX)
  obtain ⟨cX, fX, lX⟩ := rX
  rw [hS] at cX fX lX
  have Bl := hide bl
  clear hb bl
  by_cases hb : 1048576 - (n : Int) < 0
  · rw [if_pos hb]
    clear hb
    go_wp2_with fail
    go_ret
    exact ⟨rfl, Bl.out⟩
  · rw [if_neg hb]
    have l0 : n ≤ 1048576 := by omega
    have hb' : ¬ 1048576 < (n : Int) := by omega
    obtain ⟨lf, hlf⟩ : ∃ lf : Int, 1048576 - (n : Int) = lf := ⟨_, rfl⟩
    have hlf1 : ¬ lf < 0 := by omega
    rw [hlf]
    clear hlf hb
    go_wp2_with fail
    refine (HKT.out _ (RecAt.below HA.out Bl.out) l0).mono ?_
    rintro en w2 ⟨g2, rfl, hg2, o2, hb⟩
    have rX : Row w2 (S) _ := Row.below (by (repeat' (first | (with_reducible assumption) | (with_reducible exact Row.new _ _ _) | (with_reducible exact Row.new1 _ _ _ _) | (with_reducible exact Row.new2 _ _ _ _ _) | (with_reducible exact Row.new2' _ _ _ _ _) | ((with_reducible apply Row.mk) <;> (with_reducible assumption)) | (with_reducible apply Row.alloc) | (with_reducible apply Row.set) | (with_reducible apply Row.far) | (with_reducible apply Row.drew) | (with_reducible apply Row.drewN) | omega | (simp; done) | (simp; omega)))) hb
    (try clear cX fX lX)
    obtain ⟨cX, fX, lX⟩ := rX
    have Bl := hide (Bl.out.trans (hb.mono Bl.out.size))
    have W2 := hide (ownWaiting o2 Hn.out)
    clear hb o2
    go_wp2_with fail
    refine (HKS.out _ _ W2.out l0).mono ?_
    rintro en w3 ⟨rfl, hb⟩
    have rX : Row w3 (S) _ := Row.below (by (repeat' (first | (with_reducible assumption) | (with_reducible exact Row.new _ _ _) | (with_reducible exact Row.new1 _ _ _ _) | (with_reducible exact Row.new2 _ _ _ _ _) | (with_reducible exact Row.new2' _ _ _ _ _) | ((with_reducible apply Row.mk) <;> (with_reducible assumption)) | (with_reducible apply Row.alloc) | (with_reducible apply Row.set) | (with_reducible apply Row.far) | (with_reducible apply Row.drew) | (with_reducible apply Row.drewN) | omega | (simp; done) | (simp; omega)))) hb
    (try clear cX fX lX)
    obtain ⟨cX, fX, lX⟩ := rX
    have Bl := hide (Bl.out.trans (hb.mono Bl.out.size))
    clear hb W2
    go_wp2_with fail
    refine (HKT.out _ (RecAt.below HA.out Bl.out) l0).mono ?_
    rintro en w4 ⟨g4, rfl, hg4, o4, hb⟩
    have rX : Row w4 (S) _ := Row.below (by (repeat' (first | (with_reducible assumption) | (with_reducible exact Row.new _ _ _) | (with_reducible exact Row.new1 _ _ _ _) | (with_reducible exact Row.new2 _ _ _ _ _) | (with_reducible exact Row.new2' _ _ _ _ _) | ((with_reducible apply Row.mk) <;> (with_reducible assumption)) | (with_reducible apply Row.alloc) | (with_reducible apply Row.set) | (with_reducible apply Row.far) | (with_reducible apply Row.drew) | (with_reducible apply Row.drewN) | omega | (simp; done) | (simp; omega)))) hb
    (try clear cX fX lX)
    obtain ⟨cX, fX, lX⟩ := rX
    have Bl := hide (Bl.out.trans (hb.mono Bl.out.size))
    have O4 := hide o4
    clear hb o4
    go_wp2_with fail
    obtain ⟨Y, hY⟩ : ∃ Y, w4.heap.size = Y := ⟨_, rfl⟩
    have nXY : ¬ S = Y := by omega
    have nYX : ¬ Y = S := by omega
    have bY := hide ((Below.refl w4.heap.size w4).alloc (Nat.le_refl _) (.cells #[.int .i64 e, .int .i64 cr, .slice (some ⟨g4, 0, none⟩) n n] 25))
    refine (HKI.out _ _ (RecAt.below (ownWaiting O4.out Hn.out) bY.out) l0).mono ?_
    rintro en w5 ⟨rfl, hb⟩
    have b5 := hide (bY.out.trans (hb.mono (by simp)))
    have rX : Row w5 (S) _ := Row.below (by (repeat' (first | (with_reducible assumption) | (with_reducible exact Row.new _ _ _) | (with_reducible exact Row.new1 _ _ _ _) | (with_reducible exact Row.new2 _ _ _ _ _) | (with_reducible exact Row.new2' _ _ _ _ _) | ((with_reducible apply Row.mk) <;> (with_reducible assumption)) | (with_reducible apply Row.alloc) | (with_reducible apply Row.set) | (with_reducible apply Row.far) | (with_reducible apply Row.drew) | (with_reducible apply Row.drewN) | omega | (simp; done) | (simp; omega)))) hb
    have rY : Row w5 (w4.heap.size) _ := Row.below (by (repeat' (first | (with_reducible assumption) | (with_reducible exact Row.new _ _ _) | (with_reducible exact Row.new1 _ _ _ _) | (with_reducible exact Row.new2 _ _ _ _ _) | (with_reducible exact Row.new2' _ _ _ _ _) | ((with_reducible apply Row.mk) <;> (with_reducible assumption)) | (with_reducible apply Row.alloc) | (with_reducible apply Row.set) | (with_reducible apply Row.far) | (with_reducible apply Row.drew) | (with_reducible apply Row.drewN) | omega | (simp; done) | (simp; omega)))) hb
    (try clear cX fX lX)
    (try clear cY fY lY)
    obtain ⟨cX, fX, lX⟩ := rX
    obtain ⟨cY, fY, lY⟩ := rY
    rw [hY] at cY fY lY
    have O5 := hide (O4.out.below b5.out)
    have Bl := hide (Bl.out.trans (b5.out.mono Bl.out.size))
    have l5 := (O4.out.below b5.out).lt
    clear hb bY O4
    go_upto_region 10 with (fail)
    go_region_held3 (fun w' => (∀ o, w'.cell? ⟨S, o, none⟩ = #[Value.int .i64 e, .int .i64 cr, .slice A n c][o]?) ∧ (∀ o, w'.cell? ⟨Y, o, none⟩ = #[Value.int .i64 e, .int .i64 cr, .slice (some ⟨g4, 0, none⟩) n n][o]?)) (first | exact ⟨cX, cY⟩ | go_keep) (first | (go_at_call 14; refine (HKT.out _ (RecAt.below HA.out (Below.drew Bl.out)) l0).mono ?_; rintro en w6 ⟨g6, rfl, hg6, o6, hb6⟩; have hb6' : Below w5.heap.size w5 w6 := (Below.drew (Below.refl _ w5)).trans hb6; have rX : Row w6 S _ := Row.below (Row.mk cX fX lX) hb6'; have rY : Row w6 Y _ := Row.below (Row.mk cY fY lY) hb6'; have O6 := hide o6; have B6 := hide hb6'; clear hb6 hb6' o6; obtain ⟨cX, fX, lX⟩ := rX; obtain ⟨cY, fY, lY⟩ := rY) | (go_at_call 15; refine (HKE.out _ _ _ (ownWaiting (O5.out.below B6.out) Hn.out) (ownWaiting O6.out Hn.out) l0).mono ?_; rintro en w7 ⟨rfl, hb7⟩; have B7 := hide hb7; have rX : Row w7 S _ := Row.below (Row.mk cX fX lX) hb7; have rY : Row w7 Y _ := Row.below (Row.mk cY fY lY) hb7; clear hb7; obtain ⟨cX, fX, lX⟩ := rX; obtain ⟨cY, fY, lY⟩ := rY))
    all_goals
      go_wp2_with fail
      go_ret
      exact ⟨rfl, Bl.out.trans ((B6.out.mono Bl.out.size).trans (B7.out.mono (by have := Bl.out.size; have := B6.out.size; omega)))⟩
end Go.Proofs.Ytjbengphioankaa
