/- PacerPut of the reference: contract, for a pacer that is valid. -/
import Derived.Test.YtjbengphioankaaX15
import Derived.Test.YtjbengphioankaaO2
namespace Go.Proofs.Ytjbengphioankaa
open Go.ChangeShapes Go.WideShapes Go.ChangeAt Go.RowKit Go.Deep

set_option maxRecDepth 10000 in
set_option maxHeartbeats 8000000 in
theorem specPacerPut (g n c : Nat) (e cr : Int) (zs : List VWaiting) (x : VWaiting) (w : World) (h : Own w 61 3 g n c (zs.map VWaiting.cells).flatten) (hn : zs.length = n) (hB : pacB e cr zs = true) :
    Calls Try.prog 51 #[.agg #[.int .i64 e, .int .i64 cr, .slice (some ⟨g, 0, none⟩) n c], .agg #[.int .i64 x.a0, .int .i64 x.a1, .int .i64 x.a2]] w (PutPacer e cr w) := by
  have Hh := hide h
  have lg := h.lt
  have hn12 : n ≤ 12 := by have := (of_decide_eq_true hB).2.1; omega
  have hrm := h.room.1
  have hcell : ∀ k, k < n → w.cell? ⟨g, k * 3 + 1, none⟩ = some (.int .i64 (zs.getD k default).a1) := by
    intro k hk
    obtain ⟨b, off, e, _, hc⟩ := WaitingAt.at (ownWaiting h hn) (by omega)
    cases e
    have := (hc k (by omega)).2.1
    rwa [Nat.zero_add] at this
  have Hcell := hide hcell
  have Hn := hide hn
  have HBB := hide hB
  have KB := fun w h => specPacerValid (some ⟨g, 0, none⟩) c e cr zs w h (by omega)
  rw [hn, hB] at KB
  have HKB := hide KB
  obtain ⟨S, hS⟩ : ∃ S, w.heap.size = S := ⟨_, rfl⟩
  clear h hn hcell hB KB
  go_enter Try.func51, Try.ntmps51
  go_wp2_with fail
  have F : ∃ wx : World, wx = ((w.alloc (.cells #[.int .i64 e, .int .i64 cr, .slice (some ⟨g, 0, none⟩) n c] 25)).alloc (.cells #[.int .i64 x.a0, .int .i64 x.a1, .int .i64 x.a2] 61)).alloc (.cells #[.int .i64 0, .int .i64 0, .slice none 0 0] 25) := ⟨_, rfl⟩
  obtain ⟨wx, hwx⟩ := F
  have F2 : Row wx S #[.int .i64 e, .int .i64 cr, .slice (some ⟨g, 0, none⟩) n c] ∧ Row wx (S + 1) #[.int .i64 x.a0, .int .i64 x.a1, .int .i64 x.a2] ∧ Row wx (S + 1 + 1) #[.int .i64 0, .int .i64 0, .slice none 0 0] ∧ Own wx 61 3 g n c (zs.map VWaiting.cells).flatten ∧ Below w.heap.size w wx := by
    rw [hwx, ← hS]
    exact ⟨((Row.new _ _ _).alloc _).alloc _, (Row.new1 _ _ _ _).alloc _, Row.new2' _ _ _ _ _, ((Hh.out.alloc _).alloc _).alloc _, (((Below.refl _ w).alloc (Nat.le_refl _) _).alloc (by simp) _).alloc (by simp; omega) _⟩
  rw [← hwx]
  clear hwx Hh
  obtain ⟨⟨cX, fX, lX⟩, ⟨cY, fY, lY⟩, ⟨cZ, fZ, lZ⟩, ox, bx⟩ := F2
  refine (HKB.out _ (ownWaiting ox Hn.out)).mono ?_
  rintro ee w1 ⟨rfl, hb⟩
  have b1 := bx.trans (hb.mono bx.size)
  have o1 := ox.below hb
  have rX : Row w1 (S) _ := Row.below (by (repeat' (first | (with_reducible assumption) | (with_reducible exact Row.new _ _ _) | (with_reducible exact Row.new1 _ _ _ _) | (with_reducible exact Row.new2 _ _ _ _ _) | (with_reducible exact Row.new2' _ _ _ _ _) | ((with_reducible apply Row.mk) <;> (with_reducible assumption)) | (with_reducible apply Row.alloc) | (with_reducible apply Row.set) | (with_reducible apply Row.far) | (with_reducible apply Row.drew) | (with_reducible apply Row.drewN) | omega | (simp; done) | (simp; omega)))) hb
  have rY : Row w1 (S + 1) _ := Row.below (by (repeat' (first | (with_reducible assumption) | (with_reducible exact Row.new _ _ _) | (with_reducible exact Row.new1 _ _ _ _) | (with_reducible exact Row.new2 _ _ _ _ _) | (with_reducible exact Row.new2' _ _ _ _ _) | ((with_reducible apply Row.mk) <;> (with_reducible assumption)) | (with_reducible apply Row.alloc) | (with_reducible apply Row.set) | (with_reducible apply Row.far) | (with_reducible apply Row.drew) | (with_reducible apply Row.drewN) | omega | (simp; done) | (simp; omega)))) hb
  have rZ : Row w1 (S + 1 + 1) _ := Row.below (by (repeat' (first | (with_reducible assumption) | (with_reducible exact Row.new _ _ _) | (with_reducible exact Row.new1 _ _ _ _) | (with_reducible exact Row.new2 _ _ _ _ _) | (with_reducible exact Row.new2' _ _ _ _ _) | ((with_reducible apply Row.mk) <;> (with_reducible assumption)) | (with_reducible apply Row.alloc) | (with_reducible apply Row.set) | (with_reducible apply Row.far) | (with_reducible apply Row.drew) | (with_reducible apply Row.drewN) | omega | (simp; done) | (simp; omega)))) hb
  (try clear cX fX lX)
  (try clear cY fY lY)
  (try clear cZ fZ lZ)
  obtain ⟨cX, fX, lX⟩ := rX
  obtain ⟨cY, fY, lY⟩ := rY
  obtain ⟨cZ, fZ, lZ⟩ := rZ
  clear hb bx ox
  go_wp2_with fail
  refine (specWaiting x _).mono ?_
  rintro ee w2 ⟨rfl, hb⟩
  have b2 := b1.trans (hb.mono b1.size)
  have o2 := o1.below hb
  have rX : Row w2 (S) _ := Row.below (by (repeat' (first | (with_reducible assumption) | (with_reducible exact Row.new _ _ _) | (with_reducible exact Row.new1 _ _ _ _) | (with_reducible exact Row.new2 _ _ _ _ _) | (with_reducible exact Row.new2' _ _ _ _ _) | ((with_reducible apply Row.mk) <;> (with_reducible assumption)) | (with_reducible apply Row.alloc) | (with_reducible apply Row.set) | (with_reducible apply Row.far) | (with_reducible apply Row.drew) | (with_reducible apply Row.drewN) | omega | (simp; done) | (simp; omega)))) hb
  have rY : Row w2 (S + 1) _ := Row.below (by (repeat' (first | (with_reducible assumption) | (with_reducible exact Row.new _ _ _) | (with_reducible exact Row.new1 _ _ _ _) | (with_reducible exact Row.new2 _ _ _ _ _) | (with_reducible exact Row.new2' _ _ _ _ _) | ((with_reducible apply Row.mk) <;> (with_reducible assumption)) | (with_reducible apply Row.alloc) | (with_reducible apply Row.set) | (with_reducible apply Row.far) | (with_reducible apply Row.drew) | (with_reducible apply Row.drewN) | omega | (simp; done) | (simp; omega)))) hb
  have rZ : Row w2 (S + 1 + 1) _ := Row.below (by (repeat' (first | (with_reducible assumption) | (with_reducible exact Row.new _ _ _) | (with_reducible exact Row.new1 _ _ _ _) | (with_reducible exact Row.new2 _ _ _ _ _) | (with_reducible exact Row.new2' _ _ _ _ _) | ((with_reducible apply Row.mk) <;> (with_reducible assumption)) | (with_reducible apply Row.alloc) | (with_reducible apply Row.set) | (with_reducible apply Row.far) | (with_reducible apply Row.drew) | (with_reducible apply Row.drewN) | omega | (simp; done) | (simp; omega)))) hb
  (try clear cX fX lX)
  (try clear cY fY lY)
  (try clear cZ fZ lZ)
  obtain ⟨cX, fX, lX⟩ := rX
  obtain ⟨cY, fY, lY⟩ := rY
  obtain ⟨cZ, fZ, lZ⟩ := rZ
  clear hb b1 o1
  have O2 := hide o2
  have B2 := hide b2
  have s2 := b2.size
  clear o2 b2
  obtain ⟨V, hV⟩ : ∃ V, waitB x = V := ⟨_, rfl⟩
  rw [hV]
  have HV := hide hV
  clear hV
  cases V
  · go_wp2_with fail
    refine bodyPost_ret (by first | (simp (maxDischargeDepth := 3) [results, Try.results51, go_sem, *]; done) | (simp (maxDischargeDepth := 3) [results, Try.results51, go_sem, *]; rfl) | (simp (maxDischargeDepth := 7) [results, Try.results51, go_sem, *]; done) | (simp (maxDischargeDepth := 7) [results, Try.results51, go_sem, *]; rfl)) rfl ?_
    refine putPacer_no ?_
    have bb := B2.out
    (repeat' (first | (with_reducible exact Below.refl _ _) | (with_reducible assumption) | (with_reducible refine Below.alloc ?_ ?_ _) | (with_reducible refine Below.setCell ?_ ?_ _) | (with_reducible refine Below.drew ?_) | (with_reducible refine below_drewN' ?_ _) | (with_reducible refine below_step (by assumption) ?_ ?_) | (with_reducible refine below_gstep (by assumption) ?_ ?_ ?_) | (with_reducible exact Below.size (by assumption)) | omega | (simp; done) | (simp; omega)))
  by_cases h12 : n = 12
  · have e12 : ((n : Int) == 12) = true := by simp [h12]
    clear h12
    go_wp2_with fail
    refine bodyPost_ret (by first | (simp (maxDischargeDepth := 3) [results, Try.results51, go_sem, *]; done) | (simp (maxDischargeDepth := 3) [results, Try.results51, go_sem, *]; rfl) | (simp (maxDischargeDepth := 7) [results, Try.results51, go_sem, *]; done) | (simp (maxDischargeDepth := 7) [results, Try.results51, go_sem, *]; rfl)) rfl ?_
    refine putPacer_no ?_
    have bb := B2.out
    (repeat' (first | (with_reducible exact Below.refl _ _) | (with_reducible assumption) | (with_reducible refine Below.alloc ?_ ?_ _) | (with_reducible refine Below.setCell ?_ ?_ _) | (with_reducible refine Below.drew ?_) | (with_reducible refine below_drewN' ?_ _) | (with_reducible refine below_step (by assumption) ?_ ?_) | (with_reducible refine below_gstep (by assumption) ?_ ?_ ?_) | (with_reducible exact Below.size (by assumption)) | omega | (simp; done) | (simp; omega)))
  have e12 : ((n : Int) == 12) = false := by simp only [beq_eq_false_iff_ne, ne_eq]; omega
  have Hc2 := hide (fun k (hk : k < n) => (B2.out.cell (p := ⟨g, k * 3 + 1, none⟩) lg).trans (Hcell.out k hk))
  go_wp2_with fail
  clear e12
  go_loopw [6] (fun i wr => ∃ k d : Nat, k ≤ n ∧ i = .int .i64 k ∧ (∀ j, j < k → (zs.getD j default).a1 ≤ x.a1) ∧ wr = w2.drewN d) (fun i _ => n - (intOf i).toNat)
  case atStart => exact ⟨0, 0, by omega, rfl, (fun j hj => by omega), rfl⟩
  case round =>
    obtain ⟨k, d, hk, rfl, hlo, rfl⟩ := hrel
    have Hlo := hide hlo
    clear hlo
    by_cases hk' : k < n
    · have hz := Hc2.out k hk'
      obtain ⟨y, hy⟩ : ∃ y, (zs.getD k default).a1 = y := ⟨_, rfl⟩
      rw [hy] at hz
      have Hy := hide hy
      have g2 : (k : Int) < (n : Int) := by omega
      have e0 : decide ((k : Int) < (n : Int)) = true := decide_eq_true g2
      have e1 : decide (k < n) = true := decide_eq_true hk'
      clear hy
      by_cases hyx : y ≤ x.a1
      · have e2 : decide (y ≤ x.a1) = true := decide_eq_true hyx
        go_wp2_with fail
        go_quiet (fail)
        clear e0 e1 e2
        go_wp2_with fail
        go_roundw
        case rel =>
          refine ⟨k + 1, d + nq, by omega, by go_num, ?_, by first | rfl | simp⟩
          intro j hj
          rcases Nat.lt_succ_iff_lt_or_eq.1 hj with hj | rfl
          · exact Hlo.out j hj
          · rw [Hy.out]; exact hyx
        case measure => simp [intOf]; omega
      · have e2 : decide (y ≤ x.a1) = false := decide_eq_false hyx
        have hhi : Hid (k < zs.length → x.a1 ≤ (zs.getD k default).a1) := fun _ => by rw [Hy.out]; omega
        clear hyx
        go_wp2_with fail
        go_quiet (fail)
        clear e0 e1 e2
        go_wp2_with fail
        refine rebase (fun wx => Row wx S #[.int .i64 e, .int .i64 cr, .slice (some ⟨g, 0, none⟩) n c] ∧ Row wx (S + 1) #[.int .i64 x.a0, .int .i64 x.a1, .int .i64 x.a2] ∧ Row wx (S + 1 + 1) #[.int .i64 0, .int .i64 0, .slice none 0 0] ∧ Own wx 61 3 g n c (zs.map VWaiting.cells).flatten ∧ Below w.heap.size w wx) ⟨Row.mk cX fX lX, Row.mk cY fY lY, Row.mk cZ fZ lZ, O2.out, below_drewN' (below_drewN' B2.out _) _⟩ ?_
        clear cX fX lX cY fY lY cZ fZ lZ
        rintro w6 ⟨⟨cX, fX, lX⟩, ⟨cY, fY, lY⟩, ⟨cZ, fZ, lZ⟩, o6, b6⟩
        clear O2 B2 Hc2 Hcell HKB
        have hcs : ([.int .i64 x.a0, .int .i64 x.a1, .int .i64 x.a2] : List Value) = x.cells := rfl
        have Hcs := hide hcs
        clear hcs
        have O6 := hide o6
        have B6 := hide b6
        have s6 := b6.size
        have KS : ∀ w' : World, Below w6.heap.size w6 w' → (w'.cell? ⟨S, 2, none⟩ = some (.slice (some ⟨g, 0, none⟩) n c) ∧ w'.cell? ⟨S + 1, 0, none⟩ = some (.int .i64 x.a0) ∧ w'.cell? ⟨S + 1, 1, none⟩ = some (.int .i64 x.a1) ∧ w'.cell? ⟨S + 1, 2, none⟩ = some (.int .i64 x.a2)) := fun w' hb => ⟨(hb.cell (p := ⟨S, 2, none⟩) lX).trans (cX 2), (hb.cell (p := ⟨S + 1, 0, none⟩) lY).trans (cY 0), (hb.cell (p := ⟨S + 1, 1, none⟩) lY).trans (cY 1), (hb.cell (p := ⟨S + 1, 2, none⟩) lY).trans (cY 2)⟩
        have Hsrc := hide (waitSrc0 o6 k)
        have Htk := hide (show ((zs.take k).map VWaiting.cells).flatten.length = k * 3 by rw [wait_len, List.length_take, Hn.out]; congr 1; omega)
        have f1 : (k : Int) ≤ (c : Int) := by omega
        have f2 : k ≤ c := by omega
        clear o6 b6
        go_cut [7] (fun s wx => ∃ g10 c10, s = .slice (some ⟨g10, 0, none⟩) (k + 1) c10 ∧ Own wx 61 3 g10 (k + 1) c10 (((zs.take k).map VWaiting.cells).flatten ++ x.cells) ∧ w6.heap.size ≤ g10 ∧ Below w6.heap.size w6 wx)
        case first =>
          refine wp_region_held_drew (S := fun w' => w'.cell? ⟨S, 2, none⟩ = some (.slice (some ⟨g, 0, none⟩) n c) ∧ w'.cell? ⟨S + 1, 0, none⟩ = some (.int .i64 x.a0) ∧ w'.cell? ⟨S + 1, 1, none⟩ = some (.int .i64 x.a1) ∧ w'.cell? ⟨S + 1, 2, none⟩ = some (.int .i64 x.a2)) (by kernel_rfl) (by exact KS _ (Below.drew (Below.refl _ w6))) (fun hHeld => ?_)
          refine wpAnyH_take (i := 1) (oi := ⟨some 42, _, _, _, _, _⟩) (v := ?vr81) rfl (by kernel_rfl) (by kernel_rfl) (by kernel_rfl) (fun _ _ _ h => h) (Or.inl ⟨by rfl, ?yr81⟩) (by assumption) ?_
          case yr81 => (intro w hSw; (try dsimp only at hSw); go_simp; (try with_reducible rfl))
          (try simp only [Act.put, List.setIfInBounds_toArray, List.set_cons_zero, List.set_cons_succ])
          refine wpAnyH_take (i := 2) (oi := ⟨some 43, _, _, _, _, _⟩) (v := ?vr82) rfl (by kernel_rfl) (by kernel_rfl) (by kernel_rfl) (fun _ _ _ h => h) (Or.inl ⟨by rfl, ?yr82⟩) (by assumption) ?_
          case yr82 => (intro w hSw; (try dsimp only at hSw); go_simp; (try with_reducible rfl))
          (try simp only [Act.put, List.setIfInBounds_toArray, List.set_cons_zero, List.set_cons_succ])
          refine wpAnyH_take (i := 3) (oi := ⟨some 44, _, _, _, _, _⟩) (v := ?vr83) rfl (by kernel_rfl) (by kernel_rfl) (by kernel_rfl) (fun _ _ _ h => h) (Or.inl ⟨by rfl, ?yr83⟩) (by assumption) ?_
          case yr83 => (intro w hSw; (try dsimp only at hSw); go_simp; (try with_reducible rfl))
          (try simp only [Act.put, List.setIfInBounds_toArray, List.set_cons_zero, List.set_cons_succ])
          refine wpAnyH_take (i := 4) (oi := ⟨some 45, _, _, _, _, _⟩) (v := ?vr84) rfl (by kernel_rfl) (by kernel_rfl) (by kernel_rfl) (fun _ _ _ h => h) (Or.inl ⟨by rfl, ?yr84⟩) (by assumption) ?_
          case yr84 => (intro w hSw; (try dsimp only at hSw); go_simp; (try with_reducible rfl))
          (try simp only [Act.put, List.setIfInBounds_toArray, List.set_cons_zero, List.set_cons_succ])
          refine wpAnyH_take (i := 6) (oi := ⟨some 47, _, _, _, _, _⟩) (v := ?vr86) rfl (by kernel_rfl) (by kernel_rfl) (by kernel_rfl) (fun _ _ _ h => h) (Or.inl ⟨by rfl, ?yr86⟩) (by assumption) ?_
          case yr86 => (intro w hSw; (try dsimp only at hSw); go_simp; (try with_reducible rfl))
          (try simp only [Act.put, List.setIfInBounds_toArray, List.set_cons_zero, List.set_cons_succ])
          refine wpAnyH_ready (rs := [0, 7]) (by kernel_rfl) (by simp) ?_
          refine AllReadyH.cons (o := ⟨some 41, _, _, _, _, _⟩) rfl (fun K hK => ?_) (AllReadyH.cons (o := ⟨some 48, _, _, _, _, _⟩) rfl (fun K hK => ?_) AllReadyH.nil)
          · go_simp
            refine hK.out _ _ (by exact KS _ ((Below.drew ((Below.refl _ w6).alloc (Nat.le_refl _) _)))) (fun hHeld => ?_)
            clear hK K
            (try simp only [Act.put, List.setIfInBounds_toArray, List.set_cons_zero, List.set_cons_succ])
            refine wpAnyH_ready (rs := [5, 7]) (by kernel_rfl) (by simp) ?_
            refine AllReadyH.cons (o := ⟨some 46, _, _, _, _, _⟩) rfl (fun K hK => ?_) (AllReadyH.cons (o := ⟨some 48, _, _, _, _, _⟩) rfl (fun K hK => ?_) AllReadyH.nil)
            · refine step_append_k (by rfl) (.tmp 41) (.tmp 45) 23 rfl elemW (xs := []) (ad := ⟨g, 0, none⟩) (m := k) (c := c) (g := w6.heap.size) (n := 0) (cap := 0) (by simp [Act.eval]) (Own.new w6 #[] 61 3 0 (by unfold maxLen; omega) rfl) (by simp [Act.eval]) ((zs.take k).map VWaiting.cells).flatten Htk.out (cells_alloc Hsrc.out) wait_one (by omega) ?_
              intro g9 cp9 w9 o9 hg9 hat9
              have B9 := fst_belowD (wr := w6) hg9
              have S9 := fst_atD (wr := w6) hat9
              have O9 := (o9.convn (n' := k) (Nat.zero_add k)).conv (List.nil_append _)
              rw [Nat.zero_add]
              refine hK.out _ _ (by exact KS _ (B9)) (fun hHeld => ?_)
              clear hK K
              (try simp only [Act.put, List.setIfInBounds_toArray, List.set_cons_zero, List.set_cons_succ])
              refine wpAnyH_ready (rs := [7]) (by kernel_rfl) (by simp) ?_
              refine AllReadyH.cons (o := ⟨some 48, _, _, _, _, _⟩) rfl (fun K hK => ?_) AllReadyH.nil
              go_simp
              refine hK.out _ _ (by exact KS _ (B9.alloc B9.size _)) (fun hHeld => ?_)
              clear hK K
              (try simp only [Act.put, List.setIfInBounds_toArray, List.set_cons_zero, List.set_cons_succ])
              refine wpAnyH_ready (rs := [8]) (by kernel_rfl) (by simp) ?_
              refine AllReadyH.cons (o := ⟨some 49, _, _, _, _, _⟩) rfl (fun K hK => ?_) AllReadyH.nil
              refine step_append_k (by rfl) (.tmp 46) (.tmp 48) 23 rfl elemW (xs := ((zs.take k).map VWaiting.cells).flatten) (ad := ⟨w9.heap.size, 0, none⟩) (m := 1) (c := 1) (g := g9) (n := k) (cap := cp9) (by simp [Act.eval]) (O9.alloc _) (by simp [Act.eval]) [.int .i64 x.a0, .int .i64 x.a1, .int .i64 x.a2] (by rfl) ((fun j u hu => by have h0 := row_cells w9 #[.int .i64 x.a0, .int .i64 x.a1, .int .i64 x.a2] 61 j; rw [addr_add, Nat.zero_add]; rw [h0]; simpa using hu)) (fun u hu => by simp at hu; rcases hu with rfl | rfl | rfl <;> rfl) (by omega) ?_
              intro g10 cp10 w10 o10 hg10 hat10
              have B10 : Below w6.heap.size w6 w10 := snd_below (B9.alloc B9.size _) S9 hg10
              have S10 : w6.heap.size ≤ g10 := snd_at (B9.alloc B9.size _) S9 hat10
              refine hK.out _ _ (by exact KS _ (B10)) (fun hHeld => ?_)
              clear hK K
              (try simp only [Act.put, List.setIfInBounds_toArray, List.set_cons_zero, List.set_cons_succ])
              refine wpAnyH_take (i := 9) (oi := ⟨some 7, _, _, _, _, _⟩) (v := ?vz8) rfl (by kernel_rfl) (by kernel_rfl) (by kernel_rfl) (fun _ _ _ h => h) (Or.inl ⟨by rfl, ?yz8⟩) (by assumption) ?_
              case yz8 => (intro w hSw; (try dsimp only at hSw); go_simp; (try with_reducible rfl))
              (try simp only [Act.put, List.setIfInBounds_toArray, List.set_cons_zero, List.set_cons_succ])
              refine wpAnyH_done (by kernel_rfl) ?_ _
              clear KS
              first | go_meet | (go_wp2_with fail; go_meet)
              exact ⟨g10, cp10, rfl, o10.conv (by rw [← Hcs.out]), by omega, B10⟩
            · go_simp
              refine hK.out _ _ (by exact KS _ ((Below.drew (((Below.refl _ w6).alloc (Nat.le_refl _) _).alloc (by simp) _)))) (fun hHeld => ?_)
              clear hK K
              (try simp only [Act.put, List.setIfInBounds_toArray, List.set_cons_zero, List.set_cons_succ])
              refine wpAnyH_ready (rs := [5]) (by kernel_rfl) (by simp) ?_
              refine AllReadyH.cons (o := ⟨some 46, _, _, _, _, _⟩) rfl (fun K hK => ?_) AllReadyH.nil
              refine step_append_k (by rfl) (.tmp 41) (.tmp 45) 23 rfl elemW (xs := []) (ad := ⟨g, 0, none⟩) (m := k) (c := c) (g := w6.heap.size) (n := 0) (cap := 0) (by simp [Act.eval]) ((Own.new w6 #[] 61 3 0 (by unfold maxLen; omega) rfl).alloc _) (by simp [Act.eval]) ((zs.take k).map VWaiting.cells).flatten Htk.out (cells_below (w := w6) (Below.drew (((Below.refl _ w6).alloc (Nat.le_refl _) _).alloc (by simp) _)) Hsrc.out) wait_one (by omega) ?_
              intro g9 cp9 w9 o9 hg9 hat9
              have B9 : Below w6.heap.size w6 w9 := (((Below.refl _ w6).alloc (Nat.le_refl _) _).alloc (by simp) _).grown (grown_trans (grown_drew (World.grownBy.refl _ _)) hg9) (by simp; omega) (by intro q hq; simp at hq; omega)
              have S9 : w6.heap.size ≤ g9 := (by simp at hat9; omega)
              have rE : Row w9 (w6.heap.size + 1) #[.int .i64 x.a0, .int .i64 x.a1, .int .i64 x.a2] := Row.grown (Row.drew (Row.new1 w6 _ #[.int .i64 x.a0, .int .i64 x.a1, .int .i64 x.a2] 61)) hg9 (by omega)
              have O9 := (o9.convn (n' := k) (Nat.zero_add k)).conv (List.nil_append _)
              rw [Nat.zero_add]
              refine hK.out _ _ (by exact KS _ (B9)) (fun hHeld => ?_)
              clear hK K
              (try simp only [Act.put, List.setIfInBounds_toArray, List.set_cons_zero, List.set_cons_succ])
              refine wpAnyH_ready (rs := [8]) (by kernel_rfl) (by simp) ?_
              refine AllReadyH.cons (o := ⟨some 49, _, _, _, _, _⟩) rfl (fun K hK => ?_) AllReadyH.nil
              refine step_append_k (by rfl) (.tmp 46) (.tmp 48) 23 rfl elemW (xs := ((zs.take k).map VWaiting.cells).flatten) (ad := ⟨w6.heap.size + 1, 0, none⟩) (m := 1) (c := 1) (g := g9) (n := k) (cap := cp9) (by simp [Act.eval]) (O9) (by simp [Act.eval]) [.int .i64 x.a0, .int .i64 x.a1, .int .i64 x.a2] (by rfl) (fun j u hu => by rw [addr_add, Nat.zero_add, rE.1 j]; simpa using hu) (fun u hu => by simp at hu; rcases hu with rfl | rfl | rfl <;> rfl) (by omega) ?_
              intro g10 cp10 w10 o10 hg10 hat10
              have B10 : Below w6.heap.size w6 w10 := snd_below B9 S9 hg10
              have S10 : w6.heap.size ≤ g10 := snd_at B9 S9 hat10
              refine hK.out _ _ (by exact KS _ (B10)) (fun hHeld => ?_)
              clear hK K
              (try simp only [Act.put, List.setIfInBounds_toArray, List.set_cons_zero, List.set_cons_succ])
              refine wpAnyH_take (i := 9) (oi := ⟨some 7, _, _, _, _, _⟩) (v := ?vzb8) rfl (by kernel_rfl) (by kernel_rfl) (by kernel_rfl) (fun _ _ _ h => h) (Or.inl ⟨by rfl, ?yzb8⟩) (by assumption) ?_
              case yzb8 => (intro w hSw; (try dsimp only at hSw); go_simp; (try with_reducible rfl))
              (try simp only [Act.put, List.setIfInBounds_toArray, List.set_cons_zero, List.set_cons_succ])
              refine wpAnyH_done (by kernel_rfl) ?_ _
              clear KS
              first | go_meet | (go_wp2_with fail; go_meet)
              exact ⟨g10, cp10, rfl, o10.conv (by rw [← Hcs.out]), by omega, B10⟩
          · go_simp
            refine hK.out _ _ (by exact KS _ ((Below.drew ((Below.refl _ w6).alloc (Nat.le_refl _) _)))) (fun hHeld => ?_)
            clear hK K
            (try simp only [Act.put, List.setIfInBounds_toArray, List.set_cons_zero, List.set_cons_succ])
            refine wpAnyH_ready (rs := [0]) (by kernel_rfl) (by simp) ?_
            refine AllReadyH.cons (o := ⟨some 41, _, _, _, _, _⟩) rfl (fun K hK => ?_) AllReadyH.nil
            go_simp
            refine hK.out _ _ (by exact KS _ ((Below.drew (((Below.refl _ w6).alloc (Nat.le_refl _) _).alloc (by simp) _)))) (fun hHeld => ?_)
            clear hK K
            (try simp only [Act.put, List.setIfInBounds_toArray, List.set_cons_zero, List.set_cons_succ])
            refine wpAnyH_ready (rs := [5]) (by kernel_rfl) (by simp) ?_
            refine AllReadyH.cons (o := ⟨some 46, _, _, _, _, _⟩) rfl (fun K hK => ?_) AllReadyH.nil
            refine step_append_k (by rfl) (.tmp 41) (.tmp 45) 23 rfl elemW (xs := []) (ad := ⟨g, 0, none⟩) (m := k) (c := c) (g := w6.heap.size + 1) (n := 0) (cap := 0) (by simp [Act.eval]) (Own.new1 w6 _ #[] 61 3 0 (by unfold maxLen; omega) rfl) (by simp [Act.eval]) ((zs.take k).map VWaiting.cells).flatten Htk.out (cells_below (w := w6) (Below.drew (((Below.refl _ w6).alloc (Nat.le_refl _) _).alloc (by simp) _)) Hsrc.out) wait_one (by omega) ?_
            intro g9 cp9 w9 o9 hg9 hat9
            have B9 : Below w6.heap.size w6 w9 := (((Below.refl _ w6).alloc (Nat.le_refl _) _).alloc (by simp) _).grown (grown_trans (grown_drew (World.grownBy.refl _ _)) hg9) (by simp; omega) (by intro q hq; simp at hq; omega)
            have S9 : w6.heap.size ≤ g9 := (by simp at hat9; omega)
            have rE : Row w9 w6.heap.size #[.int .i64 x.a0, .int .i64 x.a1, .int .i64 x.a2] := Row.grown (Row.drew ((Row.new w6 #[.int .i64 x.a0, .int .i64 x.a1, .int .i64 x.a2] 61).alloc _)) hg9 (by omega)
            have O9 := (o9.convn (n' := k) (Nat.zero_add k)).conv (List.nil_append _)
            rw [Nat.zero_add]
            refine hK.out _ _ (by exact KS _ (B9)) (fun hHeld => ?_)
            clear hK K
            (try simp only [Act.put, List.setIfInBounds_toArray, List.set_cons_zero, List.set_cons_succ])
            refine wpAnyH_ready (rs := [8]) (by kernel_rfl) (by simp) ?_
            refine AllReadyH.cons (o := ⟨some 49, _, _, _, _, _⟩) rfl (fun K hK => ?_) AllReadyH.nil
            refine step_append_k (by rfl) (.tmp 46) (.tmp 48) 23 rfl elemW (xs := ((zs.take k).map VWaiting.cells).flatten) (ad := ⟨w6.heap.size, 0, none⟩) (m := 1) (c := 1) (g := g9) (n := k) (cap := cp9) (by simp [Act.eval]) (O9) (by simp [Act.eval]) [.int .i64 x.a0, .int .i64 x.a1, .int .i64 x.a2] (by rfl) (fun j u hu => by rw [addr_add, Nat.zero_add, rE.1 j]; simpa using hu) (fun u hu => by simp at hu; rcases hu with rfl | rfl | rfl <;> rfl) (by omega) ?_
            intro g10 cp10 w10 o10 hg10 hat10
            have B10 : Below w6.heap.size w6 w10 := snd_below B9 S9 hg10
            have S10 : w6.heap.size ≤ g10 := snd_at B9 S9 hat10
            refine hK.out _ _ (by exact KS _ (B10)) (fun hHeld => ?_)
            clear hK K
            (try simp only [Act.put, List.setIfInBounds_toArray, List.set_cons_zero, List.set_cons_succ])
            refine wpAnyH_take (i := 9) (oi := ⟨some 7, _, _, _, _, _⟩) (v := ?vzc8) rfl (by kernel_rfl) (by kernel_rfl) (by kernel_rfl) (fun _ _ _ h => h) (Or.inl ⟨by rfl, ?yzc8⟩) (by assumption) ?_
            case yzc8 => (intro w hSw; (try dsimp only at hSw); go_simp; (try with_reducible rfl))
            (try simp only [Act.put, List.setIfInBounds_toArray, List.set_cons_zero, List.set_cons_succ])
            refine wpAnyH_done (by kernel_rfl) ?_ _
            clear KS
            first | go_meet | (go_wp2_with fail; go_meet)
            exact ⟨g10, cp10, rfl, o10.conv (by rw [← Hcs.out]), by omega, B10⟩
        case rest =>
          obtain ⟨g10, c10, rfl, o10, hg10, b10⟩ := hcut
          go_wp2_with fail
          refine rebase (fun wx => Own wx 61 3 g10 (k + 1) c10 (((zs.take k).map VWaiting.cells).flatten ++ x.cells) ∧ Below w6.heap.size w6 wx) ⟨o10, b10⟩ ?_
          clear o10 b10
          rintro w7 ⟨o10, b10⟩
          have Hdk := hide (show ((zs.drop k).map VWaiting.cells).flatten.length = (n - k) * 3 by rw [wait_len, List.length_drop, Hn.out])
          have Hsr1 := hide (waitSrc1 O6.out k)
          have Hln := hide (show (insW zs k x).length = n + 1 by rw [insW_len zs k x (by rw [Hn.out]; exact hk), Hn.out])
          have Hval := hide (pacB_ins HBB.out (by rw [Hn.out]; exact h12) (by rw [Hn.out]; exact hk) HV.out Hlo.out hhi.out)
          have K7 : ∀ w' : World, Below w6.heap.size w6 w' → (w'.cell? ⟨S, 0, none⟩ = some (.int .i64 e) ∧ w'.cell? ⟨S, 1, none⟩ = some (.int .i64 cr) ∧ w'.cell? ⟨S, 2, none⟩ = some (.slice (some ⟨g, 0, none⟩) n c)) := fun w' hb => ⟨(hb.cell (p := ⟨S, 0, none⟩) lX).trans (cX 0), (hb.cell (p := ⟨S, 1, none⟩) lX).trans (cX 1), (hb.cell (p := ⟨S, 2, none⟩) lX).trans (cX 2)⟩
          have O10 := hide o10
          have lZ6 : S + 1 + 1 < w6.heap.size := lZ
          clear KS o10 Hsrc Htk hhi cY fY lY
          have f3 : (k : Int) ≤ (n : Int) := by omega
          by_cases hc : c = k
          · exfalso; have hnc := hrm; omega
          · have hck : ¬ c - k = 0 := by omega
            refine wp_region_held_drew (S := fun w' => w'.cell? ⟨S, 0, none⟩ = some (.int .i64 e) ∧ w'.cell? ⟨S, 1, none⟩ = some (.int .i64 cr) ∧ w'.cell? ⟨S, 2, none⟩ = some (.slice (some ⟨g, 0, none⟩) n c)) (by kernel_rfl) (by exact K7 _ (Below.drew b10)) (fun hHeld => ?_)
            refine wpAnyH_take (i := 0) (oi := ⟨some 50, _, _, _, _, _⟩) (v := ?vq810) rfl (by kernel_rfl) (by kernel_rfl) (by kernel_rfl) (fun _ _ _ h => h) (Or.inl ⟨by rfl, ?yq810⟩) (by assumption) ?_
            case yq810 => (intro w hSw; (try dsimp only at hSw); go_simp; (try with_reducible rfl))
            (try simp only [Act.put, List.setIfInBounds_toArray, List.set_cons_zero, List.set_cons_succ])
            refine wpAnyH_take (i := 1) (oi := ⟨some 51, _, _, _, _, _⟩) (v := ?vq811) rfl (by kernel_rfl) (by kernel_rfl) (by kernel_rfl) (fun _ _ _ h => h) (Or.inl ⟨by rfl, ?yq811⟩) (by assumption) ?_
            case yq811 => (intro w hSw; (try dsimp only at hSw); go_simp; (try with_reducible rfl))
            (try simp only [Act.put, List.setIfInBounds_toArray, List.set_cons_zero, List.set_cons_succ])
            refine wpAnyH_take (i := 2) (oi := ⟨some 52, _, _, _, _, _⟩) (v := ?vq812) rfl (by kernel_rfl) (by kernel_rfl) (by kernel_rfl) (fun _ _ _ h => h) (Or.inl ⟨by rfl, ?yq812⟩) (by assumption) ?_
            case yq812 => (intro w hSw; (try dsimp only at hSw); go_simp; (try with_reducible rfl))
            (try simp only [Act.put, List.setIfInBounds_toArray, List.set_cons_zero, List.set_cons_succ])
            refine wpAnyH_take (i := 3) (oi := ⟨some 53, _, _, _, _, _⟩) (v := ?vq813) rfl (by kernel_rfl) (by kernel_rfl) (by kernel_rfl) (fun _ _ _ h => h) (Or.inl ⟨by rfl, ?yq813⟩) (by assumption) ?_
            case yq813 => (intro w hSw; (try dsimp only at hSw); go_simp; (try with_reducible rfl))
            (try simp only [Act.put, List.setIfInBounds_toArray, List.set_cons_zero, List.set_cons_succ])
            refine wpAnyH_take (i := 4) (oi := ⟨some 54, _, _, _, _, _⟩) (v := ?vq814) rfl (by kernel_rfl) (by kernel_rfl) (by kernel_rfl) (fun _ _ _ h => h) (Or.inl ⟨by rfl, ?yq814⟩) (by assumption) ?_
            case yq814 => (intro w hSw; (try dsimp only at hSw); go_simp; (try with_reducible rfl))
            (try simp only [Act.put, List.setIfInBounds_toArray, List.set_cons_zero, List.set_cons_succ])
            refine wpAnyH_take (i := 5) (oi := ⟨some 55, _, _, _, _, _⟩) (v := ?vq815) rfl (by kernel_rfl) (by kernel_rfl) (by kernel_rfl) (fun _ _ _ h => h) (Or.inl ⟨by rfl, ?yq815⟩) (by assumption) ?_
            case yq815 => (intro w hSw; (try dsimp only at hSw); go_simp; (try with_reducible rfl))
            (try simp only [Act.put, List.setIfInBounds_toArray, List.set_cons_zero, List.set_cons_succ])
            refine wpAnyH_take (i := 6) (oi := ⟨some 56, _, _, _, _, _⟩) (v := ?vq816) rfl (by kernel_rfl) (by kernel_rfl) (by kernel_rfl) (fun _ _ _ h => h) (Or.inl ⟨by rfl, ?yq816⟩) (by assumption) ?_
            case yq816 => (intro w hSw; (try dsimp only at hSw); go_simp; (try with_reducible rfl))
            (try simp only [Act.put, List.setIfInBounds_toArray, List.set_cons_zero, List.set_cons_succ])
            refine wpAnyH_take (i := 7) (oi := ⟨some 57, _, _, _, _, _⟩) (v := ?vq817) rfl (by kernel_rfl) (by kernel_rfl) (by kernel_rfl) (fun _ _ _ h => h) (Or.inl ⟨by rfl, ?yq817⟩) (by assumption) ?_
            case yq817 => (intro w hSw; (try dsimp only at hSw); go_simp; (try with_reducible rfl))
            (try simp only [Act.put, List.setIfInBounds_toArray, List.set_cons_zero, List.set_cons_succ])
            refine wpAnyH_take (i := 8) (oi := ⟨some 58, _, _, _, _, _⟩) (v := ?vq818) rfl (by kernel_rfl) (by kernel_rfl) (by kernel_rfl) (fun _ _ _ h => h) (Or.inl ⟨by rfl, ?yq818⟩) (by assumption) ?_
            case yq818 => (intro w hSw; (try dsimp only at hSw); go_simp; (try with_reducible rfl))
            (try simp only [Act.put, List.setIfInBounds_toArray, List.set_cons_zero, List.set_cons_succ])
            refine wpAnyH_ready (rs := [9]) (by kernel_rfl) (by simp) ?_
            refine AllReadyH.cons (o := ⟨some 59, _, _, _, _, _⟩) rfl (fun K hK => ?_) AllReadyH.nil
            refine step_append_k (by rfl) (.tmp 54) (.tmp 58) 23 rfl elemW (xs := ((zs.take k).map VWaiting.cells).flatten ++ x.cells) (ad := ⟨g, k * 3, none⟩) (m := n - k) (c := c - k) (g := g10) (n := k + 1) (cap := c10) (by simp [Act.eval]) (Own.drew O10.out) (by simp [Act.eval]) ((zs.drop k).map VWaiting.cells).flatten Hdk.out (cells_below (Below.drew b10) Hsr1.out) wait_one (by omega) ?_
            intro g11 cp11 w11 o11 hg11 hat11
            have B11 : Below w6.heap.size w6 w11 := snd_below (Below.drew b10) hg10 hg11
            have S11 : w6.heap.size ≤ g11 := snd_at (Below.drew b10) hg10 hat11
            have O11 : Hid (Own w11 61 3 g11 (n + 1) cp11 ((insW zs k x).map VWaiting.cells).flatten) := hide ((o11.convn (n' := n + 1) (by omega)).conv (insW_cells zs k x))
            clear o11
            rw [show k + 1 + (n - k) = n + 1 by omega]
            refine hK.out _ _ (by exact K7 _ B11) (fun hHeld => ?_)
            clear hK K
            (try simp only [Act.put, List.setIfInBounds_toArray, List.set_cons_zero, List.set_cons_succ])
            refine wpAnyH_take (i := 10) (oi := ⟨some 60, _, _, _, _, _⟩) (v := ?vq8110) rfl (by kernel_rfl) (by kernel_rfl) (by kernel_rfl) (fun _ _ _ h => h) (Or.inl ⟨by rfl, ?yq8110⟩) (by assumption) ?_
            case yq8110 => (intro w hSw; (try dsimp only at hSw); go_simp; (try with_reducible rfl))
            (try simp only [Act.put, List.setIfInBounds_toArray, List.set_cons_zero, List.set_cons_succ])
            refine wpAnyH_ready (rs := [11]) (by kernel_rfl) (by simp) ?_
            refine AllReadyH.cons (o := ⟨none, _, _, _, _, _⟩) rfl (fun K hK => ?_) AllReadyH.nil
            have rX : Row w11 S _ := Row.below (Row.mk cX fX lX) B11
            have rZ : Row w11 (S + 1 + 1) _ := Row.below (Row.mk cZ fZ lZ) B11
            obtain ⟨cXt, fXt, lXt⟩ := rX
            obtain ⟨cZt, fZt, lZt⟩ := rZ
            go_simp
            refine hK.out _ _ (by refine ⟨?_, ?_, ?_⟩ <;> simp [go_sem, cXt]) (fun hHeld => ?_)
            clear hK K
            (try simp only [Act.put, List.setIfInBounds_toArray, List.set_cons_zero, List.set_cons_succ])
            refine wpAnyH_take (i := 12) (oi := ⟨some 5, _, _, _, _, _⟩) (v := ?vq8112) rfl (by kernel_rfl) (by kernel_rfl) (by kernel_rfl) (fun _ _ _ h => h) (Or.inl ⟨by rfl, ?yq8112⟩) (by assumption) ?_
            case yq8112 => (intro w hSw; (try dsimp only at hSw); go_simp; (try with_reducible rfl))
            (try simp only [Act.put, List.setIfInBounds_toArray, List.set_cons_zero, List.set_cons_succ])
            refine wpAnyH_done (by kernel_rfl) ?_ _
            have sB := S11
            have bb := B6.out.trans (B11.mono s6)
            clear K7 Hsr1 Hdk hg11 hat11 cX fX lX cZ fZ lZ
            go_wp2_with fail
            refine bodyPost_ret (by first | (simp (maxDischargeDepth := 3) [results, Try.results51, go_sem, *]; done) | (simp (maxDischargeDepth := 3) [results, Try.results51, go_sem, *]; rfl) | (simp (maxDischargeDepth := 7) [results, Try.results51, go_sem, *]; done) | (simp (maxDischargeDepth := 7) [results, Try.results51, go_sem, *]; rfl)) rfl ?_
            exact putPacer_yes Hln.out Hval.out (by omega) (((O11.out.far (by show g11 ≠ S + 1 + 1; omega) _).far (by show g11 ≠ S + 1 + 1; omega) _).far (by show g11 ≠ S + 1 + 1; omega) _) (((bb.setCell (by show w.heap.size ≤ S + 1 + 1; omega) _).setCell (by show w.heap.size ≤ S + 1 + 1; omega) _).setCell (by show w.heap.size ≤ S + 1 + 1; omega) _)
    · have e0 : decide ((k : Int) < (n : Int)) = false := decide_eq_false (by omega)
      have e1 : decide (k < n) = false := decide_eq_false hk'
      have hhi : Hid (k < zs.length → x.a1 ≤ (zs.getD k default).a1) := fun h => by have := Hn.out; omega
      go_wp2_with fail
      go_quiet (fail)
      clear e0 e1
      go_wp2_with fail
      refine rebase (fun wx => Row wx S #[.int .i64 e, .int .i64 cr, .slice (some ⟨g, 0, none⟩) n c] ∧ Row wx (S + 1) #[.int .i64 x.a0, .int .i64 x.a1, .int .i64 x.a2] ∧ Row wx (S + 1 + 1) #[.int .i64 0, .int .i64 0, .slice none 0 0] ∧ Own wx 61 3 g n c (zs.map VWaiting.cells).flatten ∧ Below w.heap.size w wx) ⟨Row.mk cX fX lX, Row.mk cY fY lY, Row.mk cZ fZ lZ, O2.out, below_drewN' (below_drewN' B2.out _) _⟩ ?_
      clear cX fX lX cY fY lY cZ fZ lZ
      rintro w6 ⟨⟨cX, fX, lX⟩, ⟨cY, fY, lY⟩, ⟨cZ, fZ, lZ⟩, o6, b6⟩
      clear O2 B2 Hc2 Hcell HKB
      have hcs : ([.int .i64 x.a0, .int .i64 x.a1, .int .i64 x.a2] : List Value) = x.cells := rfl
      have Hcs := hide hcs
      clear hcs
      have O6 := hide o6
      have B6 := hide b6
      have s6 := b6.size
      have KS : ∀ w' : World, Below w6.heap.size w6 w' → (w'.cell? ⟨S, 2, none⟩ = some (.slice (some ⟨g, 0, none⟩) n c) ∧ w'.cell? ⟨S + 1, 0, none⟩ = some (.int .i64 x.a0) ∧ w'.cell? ⟨S + 1, 1, none⟩ = some (.int .i64 x.a1) ∧ w'.cell? ⟨S + 1, 2, none⟩ = some (.int .i64 x.a2)) := fun w' hb => ⟨(hb.cell (p := ⟨S, 2, none⟩) lX).trans (cX 2), (hb.cell (p := ⟨S + 1, 0, none⟩) lY).trans (cY 0), (hb.cell (p := ⟨S + 1, 1, none⟩) lY).trans (cY 1), (hb.cell (p := ⟨S + 1, 2, none⟩) lY).trans (cY 2)⟩
      have Hsrc := hide (waitSrc0 o6 k)
      have Htk := hide (show ((zs.take k).map VWaiting.cells).flatten.length = k * 3 by rw [wait_len, List.length_take, Hn.out]; congr 1; omega)
      have f1 : (k : Int) ≤ (c : Int) := by omega
      have f2 : k ≤ c := by omega
      clear o6 b6
      go_cut [7] (fun s wx => ∃ g10 c10, s = .slice (some ⟨g10, 0, none⟩) (k + 1) c10 ∧ Own wx 61 3 g10 (k + 1) c10 (((zs.take k).map VWaiting.cells).flatten ++ x.cells) ∧ w6.heap.size ≤ g10 ∧ Below w6.heap.size w6 wx)
      case first =>
        refine wp_region_held_drew (S := fun w' => w'.cell? ⟨S, 2, none⟩ = some (.slice (some ⟨g, 0, none⟩) n c) ∧ w'.cell? ⟨S + 1, 0, none⟩ = some (.int .i64 x.a0) ∧ w'.cell? ⟨S + 1, 1, none⟩ = some (.int .i64 x.a1) ∧ w'.cell? ⟨S + 1, 2, none⟩ = some (.int .i64 x.a2)) (by kernel_rfl) (by exact KS _ (Below.drew (Below.refl _ w6))) (fun hHeld => ?_)
        refine wpAnyH_take (i := 1) (oi := ⟨some 42, _, _, _, _, _⟩) (v := ?vr61) rfl (by kernel_rfl) (by kernel_rfl) (by kernel_rfl) (fun _ _ _ h => h) (Or.inl ⟨by rfl, ?yr61⟩) (by assumption) ?_
        case yr61 => (intro w hSw; (try dsimp only at hSw); go_simp; (try with_reducible rfl))
        (try simp only [Act.put, List.setIfInBounds_toArray, List.set_cons_zero, List.set_cons_succ])
        refine wpAnyH_take (i := 2) (oi := ⟨some 43, _, _, _, _, _⟩) (v := ?vr62) rfl (by kernel_rfl) (by kernel_rfl) (by kernel_rfl) (fun _ _ _ h => h) (Or.inl ⟨by rfl, ?yr62⟩) (by assumption) ?_
        case yr62 => (intro w hSw; (try dsimp only at hSw); go_simp; (try with_reducible rfl))
        (try simp only [Act.put, List.setIfInBounds_toArray, List.set_cons_zero, List.set_cons_succ])
        refine wpAnyH_take (i := 3) (oi := ⟨some 44, _, _, _, _, _⟩) (v := ?vr63) rfl (by kernel_rfl) (by kernel_rfl) (by kernel_rfl) (fun _ _ _ h => h) (Or.inl ⟨by rfl, ?yr63⟩) (by assumption) ?_
        case yr63 => (intro w hSw; (try dsimp only at hSw); go_simp; (try with_reducible rfl))
        (try simp only [Act.put, List.setIfInBounds_toArray, List.set_cons_zero, List.set_cons_succ])
        refine wpAnyH_take (i := 4) (oi := ⟨some 45, _, _, _, _, _⟩) (v := ?vr64) rfl (by kernel_rfl) (by kernel_rfl) (by kernel_rfl) (fun _ _ _ h => h) (Or.inl ⟨by rfl, ?yr64⟩) (by assumption) ?_
        case yr64 => (intro w hSw; (try dsimp only at hSw); go_simp; (try with_reducible rfl))
        (try simp only [Act.put, List.setIfInBounds_toArray, List.set_cons_zero, List.set_cons_succ])
        refine wpAnyH_take (i := 6) (oi := ⟨some 47, _, _, _, _, _⟩) (v := ?vr66) rfl (by kernel_rfl) (by kernel_rfl) (by kernel_rfl) (fun _ _ _ h => h) (Or.inl ⟨by rfl, ?yr66⟩) (by assumption) ?_
        case yr66 => (intro w hSw; (try dsimp only at hSw); go_simp; (try with_reducible rfl))
        (try simp only [Act.put, List.setIfInBounds_toArray, List.set_cons_zero, List.set_cons_succ])
        refine wpAnyH_ready (rs := [0, 7]) (by kernel_rfl) (by simp) ?_
        refine AllReadyH.cons (o := ⟨some 41, _, _, _, _, _⟩) rfl (fun K hK => ?_) (AllReadyH.cons (o := ⟨some 48, _, _, _, _, _⟩) rfl (fun K hK => ?_) AllReadyH.nil)
        · go_simp
          refine hK.out _ _ (by exact KS _ ((Below.drew ((Below.refl _ w6).alloc (Nat.le_refl _) _)))) (fun hHeld => ?_)
          clear hK K
          (try simp only [Act.put, List.setIfInBounds_toArray, List.set_cons_zero, List.set_cons_succ])
          refine wpAnyH_ready (rs := [5, 7]) (by kernel_rfl) (by simp) ?_
          refine AllReadyH.cons (o := ⟨some 46, _, _, _, _, _⟩) rfl (fun K hK => ?_) (AllReadyH.cons (o := ⟨some 48, _, _, _, _, _⟩) rfl (fun K hK => ?_) AllReadyH.nil)
          · refine step_append_k (by rfl) (.tmp 41) (.tmp 45) 23 rfl elemW (xs := []) (ad := ⟨g, 0, none⟩) (m := k) (c := c) (g := w6.heap.size) (n := 0) (cap := 0) (by simp [Act.eval]) (Own.new w6 #[] 61 3 0 (by unfold maxLen; omega) rfl) (by simp [Act.eval]) ((zs.take k).map VWaiting.cells).flatten Htk.out (cells_alloc Hsrc.out) wait_one (by omega) ?_
            intro g9 cp9 w9 o9 hg9 hat9
            have B9 := fst_belowD (wr := w6) hg9
            have S9 := fst_atD (wr := w6) hat9
            have O9 := (o9.convn (n' := k) (Nat.zero_add k)).conv (List.nil_append _)
            rw [Nat.zero_add]
            refine hK.out _ _ (by exact KS _ (B9)) (fun hHeld => ?_)
            clear hK K
            (try simp only [Act.put, List.setIfInBounds_toArray, List.set_cons_zero, List.set_cons_succ])
            refine wpAnyH_ready (rs := [7]) (by kernel_rfl) (by simp) ?_
            refine AllReadyH.cons (o := ⟨some 48, _, _, _, _, _⟩) rfl (fun K hK => ?_) AllReadyH.nil
            go_simp
            refine hK.out _ _ (by exact KS _ (B9.alloc B9.size _)) (fun hHeld => ?_)
            clear hK K
            (try simp only [Act.put, List.setIfInBounds_toArray, List.set_cons_zero, List.set_cons_succ])
            refine wpAnyH_ready (rs := [8]) (by kernel_rfl) (by simp) ?_
            refine AllReadyH.cons (o := ⟨some 49, _, _, _, _, _⟩) rfl (fun K hK => ?_) AllReadyH.nil
            refine step_append_k (by rfl) (.tmp 46) (.tmp 48) 23 rfl elemW (xs := ((zs.take k).map VWaiting.cells).flatten) (ad := ⟨w9.heap.size, 0, none⟩) (m := 1) (c := 1) (g := g9) (n := k) (cap := cp9) (by simp [Act.eval]) (O9.alloc _) (by simp [Act.eval]) [.int .i64 x.a0, .int .i64 x.a1, .int .i64 x.a2] (by rfl) ((fun j u hu => by have h0 := row_cells w9 #[.int .i64 x.a0, .int .i64 x.a1, .int .i64 x.a2] 61 j; rw [addr_add, Nat.zero_add]; rw [h0]; simpa using hu)) (fun u hu => by simp at hu; rcases hu with rfl | rfl | rfl <;> rfl) (by omega) ?_
            intro g10 cp10 w10 o10 hg10 hat10
            have B10 : Below w6.heap.size w6 w10 := snd_below (B9.alloc B9.size _) S9 hg10
            have S10 : w6.heap.size ≤ g10 := snd_at (B9.alloc B9.size _) S9 hat10
            refine hK.out _ _ (by exact KS _ (B10)) (fun hHeld => ?_)
            clear hK K
            (try simp only [Act.put, List.setIfInBounds_toArray, List.set_cons_zero, List.set_cons_succ])
            refine wpAnyH_take (i := 9) (oi := ⟨some 7, _, _, _, _, _⟩) (v := ?vz6) rfl (by kernel_rfl) (by kernel_rfl) (by kernel_rfl) (fun _ _ _ h => h) (Or.inl ⟨by rfl, ?yz6⟩) (by assumption) ?_
            case yz6 => (intro w hSw; (try dsimp only at hSw); go_simp; (try with_reducible rfl))
            (try simp only [Act.put, List.setIfInBounds_toArray, List.set_cons_zero, List.set_cons_succ])
            refine wpAnyH_done (by kernel_rfl) ?_ _
            clear KS
            first | go_meet | (go_wp2_with fail; go_meet)
            exact ⟨g10, cp10, rfl, o10.conv (by rw [← Hcs.out]), by omega, B10⟩
          · go_simp
            refine hK.out _ _ (by exact KS _ ((Below.drew (((Below.refl _ w6).alloc (Nat.le_refl _) _).alloc (by simp) _)))) (fun hHeld => ?_)
            clear hK K
            (try simp only [Act.put, List.setIfInBounds_toArray, List.set_cons_zero, List.set_cons_succ])
            refine wpAnyH_ready (rs := [5]) (by kernel_rfl) (by simp) ?_
            refine AllReadyH.cons (o := ⟨some 46, _, _, _, _, _⟩) rfl (fun K hK => ?_) AllReadyH.nil
            refine step_append_k (by rfl) (.tmp 41) (.tmp 45) 23 rfl elemW (xs := []) (ad := ⟨g, 0, none⟩) (m := k) (c := c) (g := w6.heap.size) (n := 0) (cap := 0) (by simp [Act.eval]) ((Own.new w6 #[] 61 3 0 (by unfold maxLen; omega) rfl).alloc _) (by simp [Act.eval]) ((zs.take k).map VWaiting.cells).flatten Htk.out (cells_below (w := w6) (Below.drew (((Below.refl _ w6).alloc (Nat.le_refl _) _).alloc (by simp) _)) Hsrc.out) wait_one (by omega) ?_
            intro g9 cp9 w9 o9 hg9 hat9
            have B9 : Below w6.heap.size w6 w9 := (((Below.refl _ w6).alloc (Nat.le_refl _) _).alloc (by simp) _).grown (grown_trans (grown_drew (World.grownBy.refl _ _)) hg9) (by simp; omega) (by intro q hq; simp at hq; omega)
            have S9 : w6.heap.size ≤ g9 := (by simp at hat9; omega)
            have rE : Row w9 (w6.heap.size + 1) #[.int .i64 x.a0, .int .i64 x.a1, .int .i64 x.a2] := Row.grown (Row.drew (Row.new1 w6 _ #[.int .i64 x.a0, .int .i64 x.a1, .int .i64 x.a2] 61)) hg9 (by omega)
            have O9 := (o9.convn (n' := k) (Nat.zero_add k)).conv (List.nil_append _)
            rw [Nat.zero_add]
            refine hK.out _ _ (by exact KS _ (B9)) (fun hHeld => ?_)
            clear hK K
            (try simp only [Act.put, List.setIfInBounds_toArray, List.set_cons_zero, List.set_cons_succ])
            refine wpAnyH_ready (rs := [8]) (by kernel_rfl) (by simp) ?_
            refine AllReadyH.cons (o := ⟨some 49, _, _, _, _, _⟩) rfl (fun K hK => ?_) AllReadyH.nil
            refine step_append_k (by rfl) (.tmp 46) (.tmp 48) 23 rfl elemW (xs := ((zs.take k).map VWaiting.cells).flatten) (ad := ⟨w6.heap.size + 1, 0, none⟩) (m := 1) (c := 1) (g := g9) (n := k) (cap := cp9) (by simp [Act.eval]) (O9) (by simp [Act.eval]) [.int .i64 x.a0, .int .i64 x.a1, .int .i64 x.a2] (by rfl) (fun j u hu => by rw [addr_add, Nat.zero_add, rE.1 j]; simpa using hu) (fun u hu => by simp at hu; rcases hu with rfl | rfl | rfl <;> rfl) (by omega) ?_
            intro g10 cp10 w10 o10 hg10 hat10
            have B10 : Below w6.heap.size w6 w10 := snd_below B9 S9 hg10
            have S10 : w6.heap.size ≤ g10 := snd_at B9 S9 hat10
            refine hK.out _ _ (by exact KS _ (B10)) (fun hHeld => ?_)
            clear hK K
            (try simp only [Act.put, List.setIfInBounds_toArray, List.set_cons_zero, List.set_cons_succ])
            refine wpAnyH_take (i := 9) (oi := ⟨some 7, _, _, _, _, _⟩) (v := ?vzb6) rfl (by kernel_rfl) (by kernel_rfl) (by kernel_rfl) (fun _ _ _ h => h) (Or.inl ⟨by rfl, ?yzb6⟩) (by assumption) ?_
            case yzb6 => (intro w hSw; (try dsimp only at hSw); go_simp; (try with_reducible rfl))
            (try simp only [Act.put, List.setIfInBounds_toArray, List.set_cons_zero, List.set_cons_succ])
            refine wpAnyH_done (by kernel_rfl) ?_ _
            clear KS
            first | go_meet | (go_wp2_with fail; go_meet)
            exact ⟨g10, cp10, rfl, o10.conv (by rw [← Hcs.out]), by omega, B10⟩
        · go_simp
          refine hK.out _ _ (by exact KS _ ((Below.drew ((Below.refl _ w6).alloc (Nat.le_refl _) _)))) (fun hHeld => ?_)
          clear hK K
          (try simp only [Act.put, List.setIfInBounds_toArray, List.set_cons_zero, List.set_cons_succ])
          refine wpAnyH_ready (rs := [0]) (by kernel_rfl) (by simp) ?_
          refine AllReadyH.cons (o := ⟨some 41, _, _, _, _, _⟩) rfl (fun K hK => ?_) AllReadyH.nil
          go_simp
          refine hK.out _ _ (by exact KS _ ((Below.drew (((Below.refl _ w6).alloc (Nat.le_refl _) _).alloc (by simp) _)))) (fun hHeld => ?_)
          clear hK K
          (try simp only [Act.put, List.setIfInBounds_toArray, List.set_cons_zero, List.set_cons_succ])
          refine wpAnyH_ready (rs := [5]) (by kernel_rfl) (by simp) ?_
          refine AllReadyH.cons (o := ⟨some 46, _, _, _, _, _⟩) rfl (fun K hK => ?_) AllReadyH.nil
          refine step_append_k (by rfl) (.tmp 41) (.tmp 45) 23 rfl elemW (xs := []) (ad := ⟨g, 0, none⟩) (m := k) (c := c) (g := w6.heap.size + 1) (n := 0) (cap := 0) (by simp [Act.eval]) (Own.new1 w6 _ #[] 61 3 0 (by unfold maxLen; omega) rfl) (by simp [Act.eval]) ((zs.take k).map VWaiting.cells).flatten Htk.out (cells_below (w := w6) (Below.drew (((Below.refl _ w6).alloc (Nat.le_refl _) _).alloc (by simp) _)) Hsrc.out) wait_one (by omega) ?_
          intro g9 cp9 w9 o9 hg9 hat9
          have B9 : Below w6.heap.size w6 w9 := (((Below.refl _ w6).alloc (Nat.le_refl _) _).alloc (by simp) _).grown (grown_trans (grown_drew (World.grownBy.refl _ _)) hg9) (by simp; omega) (by intro q hq; simp at hq; omega)
          have S9 : w6.heap.size ≤ g9 := (by simp at hat9; omega)
          have rE : Row w9 w6.heap.size #[.int .i64 x.a0, .int .i64 x.a1, .int .i64 x.a2] := Row.grown (Row.drew ((Row.new w6 #[.int .i64 x.a0, .int .i64 x.a1, .int .i64 x.a2] 61).alloc _)) hg9 (by omega)
          have O9 := (o9.convn (n' := k) (Nat.zero_add k)).conv (List.nil_append _)
          rw [Nat.zero_add]
          refine hK.out _ _ (by exact KS _ (B9)) (fun hHeld => ?_)
          clear hK K
          (try simp only [Act.put, List.setIfInBounds_toArray, List.set_cons_zero, List.set_cons_succ])
          refine wpAnyH_ready (rs := [8]) (by kernel_rfl) (by simp) ?_
          refine AllReadyH.cons (o := ⟨some 49, _, _, _, _, _⟩) rfl (fun K hK => ?_) AllReadyH.nil
          refine step_append_k (by rfl) (.tmp 46) (.tmp 48) 23 rfl elemW (xs := ((zs.take k).map VWaiting.cells).flatten) (ad := ⟨w6.heap.size, 0, none⟩) (m := 1) (c := 1) (g := g9) (n := k) (cap := cp9) (by simp [Act.eval]) (O9) (by simp [Act.eval]) [.int .i64 x.a0, .int .i64 x.a1, .int .i64 x.a2] (by rfl) (fun j u hu => by rw [addr_add, Nat.zero_add, rE.1 j]; simpa using hu) (fun u hu => by simp at hu; rcases hu with rfl | rfl | rfl <;> rfl) (by omega) ?_
          intro g10 cp10 w10 o10 hg10 hat10
          have B10 : Below w6.heap.size w6 w10 := snd_below B9 S9 hg10
          have S10 : w6.heap.size ≤ g10 := snd_at B9 S9 hat10
          refine hK.out _ _ (by exact KS _ (B10)) (fun hHeld => ?_)
          clear hK K
          (try simp only [Act.put, List.setIfInBounds_toArray, List.set_cons_zero, List.set_cons_succ])
          refine wpAnyH_take (i := 9) (oi := ⟨some 7, _, _, _, _, _⟩) (v := ?vzc6) rfl (by kernel_rfl) (by kernel_rfl) (by kernel_rfl) (fun _ _ _ h => h) (Or.inl ⟨by rfl, ?yzc6⟩) (by assumption) ?_
          case yzc6 => (intro w hSw; (try dsimp only at hSw); go_simp; (try with_reducible rfl))
          (try simp only [Act.put, List.setIfInBounds_toArray, List.set_cons_zero, List.set_cons_succ])
          refine wpAnyH_done (by kernel_rfl) ?_ _
          clear KS
          first | go_meet | (go_wp2_with fail; go_meet)
          exact ⟨g10, cp10, rfl, o10.conv (by rw [← Hcs.out]), by omega, B10⟩
      case rest =>
        obtain ⟨g10, c10, rfl, o10, hg10, b10⟩ := hcut
        go_wp2_with fail
        refine rebase (fun wx => Own wx 61 3 g10 (k + 1) c10 (((zs.take k).map VWaiting.cells).flatten ++ x.cells) ∧ Below w6.heap.size w6 wx) ⟨o10, b10⟩ ?_
        clear o10 b10
        rintro w7 ⟨o10, b10⟩
        have Hdk := hide (show ((zs.drop k).map VWaiting.cells).flatten.length = (n - k) * 3 by rw [wait_len, List.length_drop, Hn.out])
        have Hsr1 := hide (waitSrc1 O6.out k)
        have Hln := hide (show (insW zs k x).length = n + 1 by rw [insW_len zs k x (by rw [Hn.out]; exact hk), Hn.out])
        have Hval := hide (pacB_ins HBB.out (by rw [Hn.out]; exact h12) (by rw [Hn.out]; exact hk) HV.out Hlo.out hhi.out)
        have K7 : ∀ w' : World, Below w6.heap.size w6 w' → (w'.cell? ⟨S, 0, none⟩ = some (.int .i64 e) ∧ w'.cell? ⟨S, 1, none⟩ = some (.int .i64 cr) ∧ w'.cell? ⟨S, 2, none⟩ = some (.slice (some ⟨g, 0, none⟩) n c)) := fun w' hb => ⟨(hb.cell (p := ⟨S, 0, none⟩) lX).trans (cX 0), (hb.cell (p := ⟨S, 1, none⟩) lX).trans (cX 1), (hb.cell (p := ⟨S, 2, none⟩) lX).trans (cX 2)⟩
        have O10 := hide o10
        have lZ6 : S + 1 + 1 < w6.heap.size := lZ
        clear KS o10 Hsrc Htk hhi cY fY lY
        have f3 : (k : Int) ≤ (n : Int) := by omega
        by_cases hc : c = k
        · have hnk : n = k := by omega
          subst hnk
          have hnc : n = c := hc.symm
          subst hnc
          have Hdk0 := Hdk.out
          rw [Nat.sub_self] at Hdk0
          have Hdk := hide Hdk0
          clear Hdk0 f3 hrm hk hc f1 f2
          refine wp_region_held_drew (S := fun w' => w'.cell? ⟨S, 0, none⟩ = some (.int .i64 e) ∧ w'.cell? ⟨S, 1, none⟩ = some (.int .i64 cr) ∧ w'.cell? ⟨S, 2, none⟩ = some (.slice (some ⟨g, 0, none⟩) n n)) (by kernel_rfl) (by exact K7 _ (Below.drew b10)) (fun hHeld => ?_)
          refine wpAnyH_take (i := 0) (oi := ⟨some 50, _, _, _, _, _⟩) (v := ?vq600) rfl (by kernel_rfl) (by kernel_rfl) (by kernel_rfl) (fun _ _ _ h => h) (Or.inl ⟨by rfl, ?yq600⟩) (by assumption) ?_
          case yq600 => (intro w hSw; (try dsimp only at hSw); go_simp; (try with_reducible rfl))
          (try simp only [Act.put, List.setIfInBounds_toArray, List.set_cons_zero, List.set_cons_succ])
          refine wpAnyH_take (i := 1) (oi := ⟨some 51, _, _, _, _, _⟩) (v := ?vq601) rfl (by kernel_rfl) (by kernel_rfl) (by kernel_rfl) (fun _ _ _ h => h) (Or.inl ⟨by rfl, ?yq601⟩) (by assumption) ?_
          case yq601 => (intro w hSw; (try dsimp only at hSw); go_simp; (try with_reducible rfl))
          (try simp only [Act.put, List.setIfInBounds_toArray, List.set_cons_zero, List.set_cons_succ])
          refine wpAnyH_take (i := 2) (oi := ⟨some 52, _, _, _, _, _⟩) (v := ?vq602) rfl (by kernel_rfl) (by kernel_rfl) (by kernel_rfl) (fun _ _ _ h => h) (Or.inl ⟨by rfl, ?yq602⟩) (by assumption) ?_
          case yq602 => (intro w hSw; (try dsimp only at hSw); go_simp; (try with_reducible rfl))
          (try simp only [Act.put, List.setIfInBounds_toArray, List.set_cons_zero, List.set_cons_succ])
          refine wpAnyH_take (i := 3) (oi := ⟨some 53, _, _, _, _, _⟩) (v := ?vq603) rfl (by kernel_rfl) (by kernel_rfl) (by kernel_rfl) (fun _ _ _ h => h) (Or.inl ⟨by rfl, ?yq603⟩) (by assumption) ?_
          case yq603 => (intro w hSw; (try dsimp only at hSw); go_simp; (try with_reducible rfl))
          (try simp only [Act.put, List.setIfInBounds_toArray, List.set_cons_zero, List.set_cons_succ])
          refine wpAnyH_take (i := 4) (oi := ⟨some 54, _, _, _, _, _⟩) (v := ?vq604) rfl (by kernel_rfl) (by kernel_rfl) (by kernel_rfl) (fun _ _ _ h => h) (Or.inl ⟨by rfl, ?yq604⟩) (by assumption) ?_
          case yq604 => (intro w hSw; (try dsimp only at hSw); go_simp; (try with_reducible rfl))
          (try simp only [Act.put, List.setIfInBounds_toArray, List.set_cons_zero, List.set_cons_succ])
          refine wpAnyH_take (i := 5) (oi := ⟨some 55, _, _, _, _, _⟩) (v := ?vq605) rfl (by kernel_rfl) (by kernel_rfl) (by kernel_rfl) (fun _ _ _ h => h) (Or.inl ⟨by rfl, ?yq605⟩) (by assumption) ?_
          case yq605 => (intro w hSw; (try dsimp only at hSw); go_simp; (try with_reducible rfl))
          (try simp only [Act.put, List.setIfInBounds_toArray, List.set_cons_zero, List.set_cons_succ])
          refine wpAnyH_take (i := 6) (oi := ⟨some 56, _, _, _, _, _⟩) (v := ?vq606) rfl (by kernel_rfl) (by kernel_rfl) (by kernel_rfl) (fun _ _ _ h => h) (Or.inl ⟨by rfl, ?yq606⟩) (by assumption) ?_
          case yq606 => (intro w hSw; (try dsimp only at hSw); go_simp; (try with_reducible rfl))
          (try simp only [Act.put, List.setIfInBounds_toArray, List.set_cons_zero, List.set_cons_succ])
          refine wpAnyH_take (i := 7) (oi := ⟨some 57, _, _, _, _, _⟩) (v := ?vq607) rfl (by kernel_rfl) (by kernel_rfl) (by kernel_rfl) (fun _ _ _ h => h) (Or.inl ⟨by rfl, ?yq607⟩) (by assumption) ?_
          case yq607 => (intro w hSw; (try dsimp only at hSw); go_simp; (try with_reducible rfl))
          (try simp only [Act.put, List.setIfInBounds_toArray, List.set_cons_zero, List.set_cons_succ])
          refine wpAnyH_take (i := 8) (oi := ⟨some 58, _, _, _, _, _⟩) (v := ?vq608) rfl (by kernel_rfl) (by kernel_rfl) (by kernel_rfl) (fun _ _ _ h => h) (Or.inl ⟨by rfl, ?yq608⟩) (by assumption) ?_
          case yq608 => (intro w hSw; (try dsimp only at hSw); go_simp; (try with_reducible rfl))
          (try simp only [Act.put, List.setIfInBounds_toArray, List.set_cons_zero, List.set_cons_succ])
          refine wpAnyH_ready (rs := [9]) (by kernel_rfl) (by simp) ?_
          refine AllReadyH.cons (o := ⟨some 59, _, _, _, _, _⟩) rfl (fun K hK => ?_) AllReadyH.nil
          refine step_append_k (by rfl) (.tmp 54) (.tmp 58) 23 rfl elemW (xs := ((zs.take n).map VWaiting.cells).flatten ++ x.cells) (ad := ⟨g, 0, none⟩) (m := 0) (c := 0) (g := g10) (n := n + 1) (cap := c10) (by simp [Act.eval]) (Own.drew O10.out) (by simp [Act.eval]) ((zs.drop n).map VWaiting.cells).flatten Hdk.out (fun j u hu => by rw [List.eq_nil_of_length_eq_zero (show ((zs.drop n).map VWaiting.cells).flatten.length = 0 by rw [Hdk.out])] at hu; simp at hu) wait_one (by omega) ?_
          intro g11 cp11 w11 o11 hg11 hat11
          have B11 : Below w6.heap.size w6 w11 := snd_below (Below.drew b10) hg10 hg11
          have S11 : w6.heap.size ≤ g11 := snd_at (Below.drew b10) hg10 hat11
          have O11 : Hid (Own w11 61 3 g11 (n + 1) cp11 ((insW zs n x).map VWaiting.cells).flatten) := hide ((o11.convn (n' := n + 1) (by omega)).conv (insW_cells zs n x))
          clear o11
          (try rw [show n + 1 + 0 = n + 1 from rfl])
          refine hK.out _ _ (by exact K7 _ B11) (fun hHeld => ?_)
          clear hK K
          (try simp only [Act.put, List.setIfInBounds_toArray, List.set_cons_zero, List.set_cons_succ])
          refine wpAnyH_take (i := 10) (oi := ⟨some 60, _, _, _, _, _⟩) (v := ?vq6010) rfl (by kernel_rfl) (by kernel_rfl) (by kernel_rfl) (fun _ _ _ h => h) (Or.inl ⟨by rfl, ?yq6010⟩) (by assumption) ?_
          case yq6010 => (intro w hSw; (try dsimp only at hSw); go_simp; (try with_reducible rfl))
          (try simp only [Act.put, List.setIfInBounds_toArray, List.set_cons_zero, List.set_cons_succ])
          refine wpAnyH_ready (rs := [11]) (by kernel_rfl) (by simp) ?_
          refine AllReadyH.cons (o := ⟨none, _, _, _, _, _⟩) rfl (fun K hK => ?_) AllReadyH.nil
          have rX : Row w11 S _ := Row.below (Row.mk cX fX lX) B11
          have rZ : Row w11 (S + 1 + 1) _ := Row.below (Row.mk cZ fZ lZ) B11
          obtain ⟨cXt, fXt, lXt⟩ := rX
          obtain ⟨cZt, fZt, lZt⟩ := rZ
          go_simp
          refine hK.out _ _ (by refine ⟨?_, ?_, ?_⟩ <;> simp [go_sem, cXt]) (fun hHeld => ?_)
          clear hK K
          (try simp only [Act.put, List.setIfInBounds_toArray, List.set_cons_zero, List.set_cons_succ])
          refine wpAnyH_take (i := 12) (oi := ⟨some 5, _, _, _, _, _⟩) (v := ?vq6012) rfl (by kernel_rfl) (by kernel_rfl) (by kernel_rfl) (fun _ _ _ h => h) (Or.inl ⟨by rfl, ?yq6012⟩) (by assumption) ?_
          case yq6012 => (intro w hSw; (try dsimp only at hSw); go_simp; (try with_reducible rfl))
          (try simp only [Act.put, List.setIfInBounds_toArray, List.set_cons_zero, List.set_cons_succ])
          refine wpAnyH_done (by kernel_rfl) ?_ _
          have sB := S11
          have bb := B6.out.trans (B11.mono s6)
          clear K7 Hsr1 Hdk hg11 hat11 cX fX lX cZ fZ lZ
          go_wp2_with fail
          refine bodyPost_ret (by first | (simp (maxDischargeDepth := 3) [results, Try.results51, go_sem, *]; done) | (simp (maxDischargeDepth := 3) [results, Try.results51, go_sem, *]; rfl) | (simp (maxDischargeDepth := 7) [results, Try.results51, go_sem, *]; done) | (simp (maxDischargeDepth := 7) [results, Try.results51, go_sem, *]; rfl)) rfl ?_
          exact putPacer_yes Hln.out Hval.out (by omega) (((O11.out.far (by show g11 ≠ S + 1 + 1; omega) _).far (by show g11 ≠ S + 1 + 1; omega) _).far (by show g11 ≠ S + 1 + 1; omega) _) (((bb.setCell (by show w.heap.size ≤ S + 1 + 1; omega) _).setCell (by show w.heap.size ≤ S + 1 + 1; omega) _).setCell (by show w.heap.size ≤ S + 1 + 1; omega) _)
        · have hck : ¬ c - k = 0 := by omega
          refine wp_region_held_drew (S := fun w' => w'.cell? ⟨S, 0, none⟩ = some (.int .i64 e) ∧ w'.cell? ⟨S, 1, none⟩ = some (.int .i64 cr) ∧ w'.cell? ⟨S, 2, none⟩ = some (.slice (some ⟨g, 0, none⟩) n c)) (by kernel_rfl) (by exact K7 _ (Below.drew b10)) (fun hHeld => ?_)
          refine wpAnyH_take (i := 0) (oi := ⟨some 50, _, _, _, _, _⟩) (v := ?vq610) rfl (by kernel_rfl) (by kernel_rfl) (by kernel_rfl) (fun _ _ _ h => h) (Or.inl ⟨by rfl, ?yq610⟩) (by assumption) ?_
          case yq610 => (intro w hSw; (try dsimp only at hSw); go_simp; (try with_reducible rfl))
          (try simp only [Act.put, List.setIfInBounds_toArray, List.set_cons_zero, List.set_cons_succ])
          refine wpAnyH_take (i := 1) (oi := ⟨some 51, _, _, _, _, _⟩) (v := ?vq611) rfl (by kernel_rfl) (by kernel_rfl) (by kernel_rfl) (fun _ _ _ h => h) (Or.inl ⟨by rfl, ?yq611⟩) (by assumption) ?_
          case yq611 => (intro w hSw; (try dsimp only at hSw); go_simp; (try with_reducible rfl))
          (try simp only [Act.put, List.setIfInBounds_toArray, List.set_cons_zero, List.set_cons_succ])
          refine wpAnyH_take (i := 2) (oi := ⟨some 52, _, _, _, _, _⟩) (v := ?vq612) rfl (by kernel_rfl) (by kernel_rfl) (by kernel_rfl) (fun _ _ _ h => h) (Or.inl ⟨by rfl, ?yq612⟩) (by assumption) ?_
          case yq612 => (intro w hSw; (try dsimp only at hSw); go_simp; (try with_reducible rfl))
          (try simp only [Act.put, List.setIfInBounds_toArray, List.set_cons_zero, List.set_cons_succ])
          refine wpAnyH_take (i := 3) (oi := ⟨some 53, _, _, _, _, _⟩) (v := ?vq613) rfl (by kernel_rfl) (by kernel_rfl) (by kernel_rfl) (fun _ _ _ h => h) (Or.inl ⟨by rfl, ?yq613⟩) (by assumption) ?_
          case yq613 => (intro w hSw; (try dsimp only at hSw); go_simp; (try with_reducible rfl))
          (try simp only [Act.put, List.setIfInBounds_toArray, List.set_cons_zero, List.set_cons_succ])
          refine wpAnyH_take (i := 4) (oi := ⟨some 54, _, _, _, _, _⟩) (v := ?vq614) rfl (by kernel_rfl) (by kernel_rfl) (by kernel_rfl) (fun _ _ _ h => h) (Or.inl ⟨by rfl, ?yq614⟩) (by assumption) ?_
          case yq614 => (intro w hSw; (try dsimp only at hSw); go_simp; (try with_reducible rfl))
          (try simp only [Act.put, List.setIfInBounds_toArray, List.set_cons_zero, List.set_cons_succ])
          refine wpAnyH_take (i := 5) (oi := ⟨some 55, _, _, _, _, _⟩) (v := ?vq615) rfl (by kernel_rfl) (by kernel_rfl) (by kernel_rfl) (fun _ _ _ h => h) (Or.inl ⟨by rfl, ?yq615⟩) (by assumption) ?_
          case yq615 => (intro w hSw; (try dsimp only at hSw); go_simp; (try with_reducible rfl))
          (try simp only [Act.put, List.setIfInBounds_toArray, List.set_cons_zero, List.set_cons_succ])
          refine wpAnyH_take (i := 6) (oi := ⟨some 56, _, _, _, _, _⟩) (v := ?vq616) rfl (by kernel_rfl) (by kernel_rfl) (by kernel_rfl) (fun _ _ _ h => h) (Or.inl ⟨by rfl, ?yq616⟩) (by assumption) ?_
          case yq616 => (intro w hSw; (try dsimp only at hSw); go_simp; (try with_reducible rfl))
          (try simp only [Act.put, List.setIfInBounds_toArray, List.set_cons_zero, List.set_cons_succ])
          refine wpAnyH_take (i := 7) (oi := ⟨some 57, _, _, _, _, _⟩) (v := ?vq617) rfl (by kernel_rfl) (by kernel_rfl) (by kernel_rfl) (fun _ _ _ h => h) (Or.inl ⟨by rfl, ?yq617⟩) (by assumption) ?_
          case yq617 => (intro w hSw; (try dsimp only at hSw); go_simp; (try with_reducible rfl))
          (try simp only [Act.put, List.setIfInBounds_toArray, List.set_cons_zero, List.set_cons_succ])
          refine wpAnyH_take (i := 8) (oi := ⟨some 58, _, _, _, _, _⟩) (v := ?vq618) rfl (by kernel_rfl) (by kernel_rfl) (by kernel_rfl) (fun _ _ _ h => h) (Or.inl ⟨by rfl, ?yq618⟩) (by assumption) ?_
          case yq618 => (intro w hSw; (try dsimp only at hSw); go_simp; (try with_reducible rfl))
          (try simp only [Act.put, List.setIfInBounds_toArray, List.set_cons_zero, List.set_cons_succ])
          refine wpAnyH_ready (rs := [9]) (by kernel_rfl) (by simp) ?_
          refine AllReadyH.cons (o := ⟨some 59, _, _, _, _, _⟩) rfl (fun K hK => ?_) AllReadyH.nil
          refine step_append_k (by rfl) (.tmp 54) (.tmp 58) 23 rfl elemW (xs := ((zs.take k).map VWaiting.cells).flatten ++ x.cells) (ad := ⟨g, k * 3, none⟩) (m := n - k) (c := c - k) (g := g10) (n := k + 1) (cap := c10) (by simp [Act.eval]) (Own.drew O10.out) (by simp [Act.eval]) ((zs.drop k).map VWaiting.cells).flatten Hdk.out (cells_below (Below.drew b10) Hsr1.out) wait_one (by omega) ?_
          intro g11 cp11 w11 o11 hg11 hat11
          have B11 : Below w6.heap.size w6 w11 := snd_below (Below.drew b10) hg10 hg11
          have S11 : w6.heap.size ≤ g11 := snd_at (Below.drew b10) hg10 hat11
          have O11 : Hid (Own w11 61 3 g11 (n + 1) cp11 ((insW zs k x).map VWaiting.cells).flatten) := hide ((o11.convn (n' := n + 1) (by omega)).conv (insW_cells zs k x))
          clear o11
          rw [show k + 1 + (n - k) = n + 1 by omega]
          refine hK.out _ _ (by exact K7 _ B11) (fun hHeld => ?_)
          clear hK K
          (try simp only [Act.put, List.setIfInBounds_toArray, List.set_cons_zero, List.set_cons_succ])
          refine wpAnyH_take (i := 10) (oi := ⟨some 60, _, _, _, _, _⟩) (v := ?vq6110) rfl (by kernel_rfl) (by kernel_rfl) (by kernel_rfl) (fun _ _ _ h => h) (Or.inl ⟨by rfl, ?yq6110⟩) (by assumption) ?_
          case yq6110 => (intro w hSw; (try dsimp only at hSw); go_simp; (try with_reducible rfl))
          (try simp only [Act.put, List.setIfInBounds_toArray, List.set_cons_zero, List.set_cons_succ])
          refine wpAnyH_ready (rs := [11]) (by kernel_rfl) (by simp) ?_
          refine AllReadyH.cons (o := ⟨none, _, _, _, _, _⟩) rfl (fun K hK => ?_) AllReadyH.nil
          have rX : Row w11 S _ := Row.below (Row.mk cX fX lX) B11
          have rZ : Row w11 (S + 1 + 1) _ := Row.below (Row.mk cZ fZ lZ) B11
          obtain ⟨cXt, fXt, lXt⟩ := rX
          obtain ⟨cZt, fZt, lZt⟩ := rZ
          go_simp
          refine hK.out _ _ (by refine ⟨?_, ?_, ?_⟩ <;> simp [go_sem, cXt]) (fun hHeld => ?_)
          clear hK K
          (try simp only [Act.put, List.setIfInBounds_toArray, List.set_cons_zero, List.set_cons_succ])
          refine wpAnyH_take (i := 12) (oi := ⟨some 5, _, _, _, _, _⟩) (v := ?vq6112) rfl (by kernel_rfl) (by kernel_rfl) (by kernel_rfl) (fun _ _ _ h => h) (Or.inl ⟨by rfl, ?yq6112⟩) (by assumption) ?_
          case yq6112 => (intro w hSw; (try dsimp only at hSw); go_simp; (try with_reducible rfl))
          (try simp only [Act.put, List.setIfInBounds_toArray, List.set_cons_zero, List.set_cons_succ])
          refine wpAnyH_done (by kernel_rfl) ?_ _
          have sB := S11
          have bb := B6.out.trans (B11.mono s6)
          clear K7 Hsr1 Hdk hg11 hat11 cX fX lX cZ fZ lZ
          go_wp2_with fail
          refine bodyPost_ret (by first | (simp (maxDischargeDepth := 3) [results, Try.results51, go_sem, *]; done) | (simp (maxDischargeDepth := 3) [results, Try.results51, go_sem, *]; rfl) | (simp (maxDischargeDepth := 7) [results, Try.results51, go_sem, *]; done) | (simp (maxDischargeDepth := 7) [results, Try.results51, go_sem, *]; rfl)) rfl ?_
          exact putPacer_yes Hln.out Hval.out (by omega) (((O11.out.far (by show g11 ≠ S + 1 + 1; omega) _).far (by show g11 ≠ S + 1 + 1; omega) _).far (by show g11 ≠ S + 1 + 1; omega) _) (((bb.setCell (by show w.heap.size ≤ S + 1 + 1; omega) _).setCell (by show w.heap.size ≤ S + 1 + 1; omega) _).setCell (by show w.heap.size ≤ S + 1 + 1; omega) _)
end Go.Proofs.Ytjbengphioankaa
