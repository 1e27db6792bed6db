/- Walk of FnPacerPart. -/
import Derived.Test.YtjbengphioankaaX19
namespace Go.Proofs.Ytjbengphioankaa
open Go.ChangeShapes Go.WideShapes Go.ChangeAt Go.RowKit Go.Deep

set_option maxRecDepth 10000 in
set_option maxHeartbeats 8000000 in
theorem walk_fnPacerPart {H : Type} {enc : TypeId × Value → H} (W : World) (base : Nat) (v : Value) (d : DataW H) (p : List MemPlace) (v1 : Value) (d1 : DataW H) (p1 : List MemPlace) (o : Value.okWide Try.prog W .any base 22 v) (h : DataW.Trod enc Try.prog W 0 (fun _ => true) true 22 v d p)
    (o1 : Value.okWide Try.prog W .any base 22 v1) (h1 : DataW.Trod enc Try.prog W 0 (fun _ => true) true 22 v1 d1 p1) :
    Calls Try.prog 3 #[v, v1] W (RetB true W) := by
  obtain ⟨A, n, c, rfl, hn, hm, hcode⟩ := open_code W base v d p o h
  obtain ⟨A1, n1, c1, rfl, hn1, hm1, _⟩ := open_code W base v1 d1 p1 o1 h1
  clear o h o1 h1
  by_cases hbig : 1048576 < (n : Int)
  · clear hcode
    go_enter Try.func3, Try.ntmps3
    go_wp2_with fail
    go_ret
    refine ⟨rfl, ?_⟩
    (repeat' (first | (with_reducible exact Below.refl _ _) | (with_reducible assumption) | (with_reducible refine Below.alloc ?_ ?_ _) | (with_reducible refine Below.setCell ?_ ?_ _) | (with_reducible refine Below.drew ?_) | (with_reducible refine below_drewN' ?_ _) | (with_reducible refine below_step (by assumption) ?_ ?_) | (with_reducible refine below_gstep (by assumption) ?_ ?_ ?_) | (with_reducible exact Below.size (by assumption)) | omega | (simp; done) | (simp; omega)))
  by_cases hbig1 : 1048576 < (n1 : Int)
  · clear hcode
    go_enter Try.func3, Try.ntmps3
    go_wp2_with fail
    go_ret
    refine ⟨rfl, ?_⟩
    (repeat' (first | (with_reducible exact Below.refl _ _) | (with_reducible assumption) | (with_reducible refine Below.alloc ?_ ?_ _) | (with_reducible refine Below.setCell ?_ ?_ _) | (with_reducible refine Below.drew ?_) | (with_reducible refine below_drewN' ?_ _) | (with_reducible refine below_step (by assumption) ?_ ?_) | (with_reducible refine below_gstep (by assumption) ?_ ?_ ?_) | (with_reducible exact Below.size (by assumption)) | omega | (simp; done) | (simp; omega)))
  have Hcode := hide hcode
  clear hcode
  go_enter Try.func3, Try.ntmps3
  go_wp2_with fail
  refine (drawPacerValid W.heap.size A n c _ Hcode.out hn hm (Nat.le_refl _)).mono ?_
  rintro e w1 ⟨ea, cr, g, cc, zs, rfl, hl, hg, o1, bl⟩
  clear Hcode
  obtain ⟨m, hmm⟩ : ∃ m, zs.length = m := ⟨_, rfl⟩
  have KI := fun w h => implPacerValid (some ⟨g, 0, none⟩) cc ea cr zs w h (by omega)
  have KS := fun w h => specPacerValid (some ⟨g, 0, none⟩) cc ea cr zs w h (by omega)
  have KL := fun w h => implPacerValid (some ⟨g, 0, none⟩) cc ea 3001 zs w h (by omega)
  rw [pacB_rich] at KL
  obtain ⟨F, hF⟩ : ∃ F, pacB ea cr zs = F := ⟨_, rfl⟩
  rw [hF] at KI KS
  rw [hmm] at KI KS KL hl o1 ⊢
  have HKI := hide KI
  have HKS := hide KS
  have HKL := hide KL
  have HF := hide hF
  have Hm := hide hmm
  have At := hide (ownWaiting o1 hmm)
  have O1 := hide o1
  have lg := o1.lt
  have s1 := bl.size
  have RX := Row.new w1 #[.int .i64 ea, .int .i64 cr, .slice (some ⟨g, 0, none⟩) m cc] 25
  have bX := hide ((Below.refl w1.heap.size w1).alloc (Nat.le_refl _) (.cells #[.int .i64 ea, .int .i64 cr, .slice (some ⟨g, 0, none⟩) m cc] 25))
  have RXh := hide RX
  have Bl := hide bl
  have hcc := o1.room.1
  clear KI KS KL hF hmm o1 bl RX
  go_wp2_with fail
  refine (HKI.out _ (RecAt.below At.out bX.out)).mono ?_
  rintro e w2 ⟨rfl, hb⟩
  have rX := RXh.out.below hb
  have b2 := hide (bX.out.trans (hb.mono bX.out.size))
  clear hb bX RXh
  obtain ⟨X, hX⟩ : ∃ X, w1.heap.size = X := ⟨_, rfl⟩
  rw [hX] at rX ⊢
  obtain ⟨cX, fX, lX⟩ := rX
  have hX1 := hide hX
  clear hX
  go_wp2_with fail
  refine (HKS.out _ (RecAt.below At.out b2.out)).mono ?_
  rintro e w3 ⟨rfl, hb⟩
  have rX : Row w3 (X) _ := Row.below (by (repeat' (first | (with_reducible assumption) | (with_reducible exact Row.new _ _ _) | (with_reducible exact Row.new1 _ _ _ _) | (with_reducible exact Row.new2 _ _ _ _ _) | (with_reducible exact Row.new2' _ _ _ _ _) | ((with_reducible apply Row.mk) <;> (with_reducible assumption)) | (with_reducible apply Row.alloc) | (with_reducible apply Row.set) | (with_reducible apply Row.far) | (with_reducible apply Row.drew) | (with_reducible apply Row.drewN) | omega | (simp; done) | (simp; omega)))) hb
  (try clear cX fX lX)
  obtain ⟨cX, fX, lX⟩ := rX
  have b3 := hide (b2.out.trans (hb.mono b2.out.size))
  have BB := hide (Bl.out.trans (b3.out.mono s1))
  clear hb b2
  cases F
  · go_wp2_with fail
    go_ret
    exact ⟨by first | rfl | (simp; done), BB.out⟩
  obtain ⟨Y, hY⟩ : ∃ Y, w3.heap.size = Y := ⟨_, rfl⟩
  have lXY : X < Y := by rw [← hY]; exact lX
  have lgX : g < X := by rw [← hX1.out]; exact lg
  have lWX : W.heap.size ≤ X := by rw [← hX1.out]; exact s1
  have RY := hide (Row.new w3 #[.int .i64 ea, .int .i64 cr, .slice (some ⟨g, 0, none⟩) m cc] 25)
  have b1s := b3.out.size
  have B4 := hide (b3.out.alloc b1s (.cells #[.int .i64 ea, .int .i64 cr, .slice (some ⟨g, 0, none⟩) m cc] 25))
  have B4W := hide (BB.out.alloc BB.out.size (.cells #[.int .i64 ea, .int .i64 cr, .slice (some ⟨g, 0, none⟩) m cc] 25))
  have RX4 := hide ((Row.mk cX fX lX).alloc (.cells #[.int .i64 ea, .int .i64 cr, .slice (some ⟨g, 0, none⟩) m cc] 25))
  have Hlg := hide lg
  have nXY : ¬ X = Y := by omega
  have nYX : ¬ Y = X := by omega
  by_cases hm0 : m = 0
  · have g4 : ¬ (0 : Int) < (m : Int) := by omega
    have g5 : ¬ 0 < m := by omega
    clear hm0
    rw [hY] at RY
    go_wp2_with fail
    have b5 := B4.out.alloc B4.out.size (.cells #[.int .i64 ea, .int .i64 3001, .slice (some ⟨g, 0, none⟩) m cc] 25)
    have b5W := B4W.out.alloc B4W.out.size (.cells #[.int .i64 ea, .int .i64 3001, .slice (some ⟨g, 0, none⟩) m cc] 25)
    refine (HKI.out _ (RecAt.below At.out b5)).mono ?_
    rintro e w13 ⟨rfl, hb⟩
    have rZ : Row w13 (Y + 1) #[.int .i64 ea, .int .i64 3001, .slice (some ⟨g, 0, none⟩) m cc] := Row.below (by rw [← hY]; exact Row.new1 _ _ _ _) hb
    have OG2 := hide (RecAt.below At.out (b5.trans (hb.mono b5.size)))
    have BW2 := hide (b5W.trans (hb.mono b5W.size))
    clear hb b5 b5W
    obtain ⟨Z, hZ⟩ : ∃ Z, Y + 1 = Z := ⟨_, rfl⟩
    rw [hZ] at rZ ⊢
    obtain ⟨cZ, fZ, lZ⟩ := rZ
    clear hZ hY
    go_wp2_with fail
    refine (HKL.out _ OG2.out).mono ?_
    rintro e w14 ⟨rfl, hb⟩
    have BW3 := hide (BW2.out.trans (hb.mono BW2.out.size))
    clear hb
    go_wp2_with fail
    go_ret
    exact ⟨by first | rfl | (simp; done), BW3.out⟩
  have g4 : (0 : Int) < (m : Int) := by omega
  obtain ⟨k, hk⟩ : ∃ k, n1 % m = k := ⟨_, rfl⟩
  have hkm : k < m := by rw [← hk]; exact Nat.mod_lt _ (by omega)
  have hk1 : (n1 : Int).tmod (m : Int) = (k : Int) := by rw [← hk]; rfl
  have hk2 : ((n1 : Int) % (m : Int)) = (k : Int) := by rw [← hk]; rfl
  have hm1 : ¬ (m : Int) = 0 := by omega
  have e1 : ((m : Int) == 0) = false := by simp only [beq_eq_false_iff_ne, ne_eq]; exact hm1
  go_wp2_with fail
  refine rebase (fun wx => Row wx X #[.int .i64 ea, .int .i64 cr, .slice (some ⟨g, 0, none⟩) m cc] ∧ Row wx Y #[.int .i64 ea, .int .i64 cr, .slice (some ⟨g, 0, none⟩) m cc] ∧ Own wx 61 3 g m cc (zs.map VWaiting.cells).flatten ∧ Below W.heap.size W wx ∧ Y < wx.heap.size) ⟨RX4.out, by rw [← hY]; exact RY.out, O1.out.below B4.out, B4W.out, by simp; omega⟩ ?_
  rintro w5 ⟨⟨cX5, fX5, lX5⟩, ⟨cY5, fY5, lY5⟩, o5, b5, lY6⟩
  clear cX fX lX RX4 RY B4 B4W b3 BB HKI HKS hY At O1 hk hk1 hk2 e1 Hlg
  obtain ⟨j, hj⟩ : ∃ j, k + 1 = j := ⟨_, rfl⟩
  have hjm : j ≤ m := by omega
  have hwj : IntKind.i64.wrap ((k : Int) + 1) = (j : Int) := by rw [IntWalk.i64_in _ (by omega)]; omega
  have Hj := hide hj
  have KD := fun g' c' w h => implPacerValid (some ⟨g', 0, none⟩) c' ea cr (delW zs k) w h (by rw [delW_len zs k (by rw [Hm.out]; exact hkm), Hm.out]; omega)
  rw [pacB_del HF.out (by rw [Hm.out]; exact hkm), delW_len zs k (by rw [Hm.out]; exact hkm), Hm.out, hj] at KD
  have HKD := hide KD
  have O5 := hide o5
  have B5 := hide b5
  have s5 := b5.size
  have KS : ∀ w' : World, Below w5.heap.size w5 w' → (w'.cell? ⟨X, 2, none⟩ = some (.slice (some ⟨g, 0, none⟩) m cc)) := fun w' hb => (hb.cell (p := ⟨X, 2, none⟩) lX5).trans (cX5 2)
  have Hsrc := hide (waitSrc0 o5 k)
  have Htk := hide (show ((zs.take k).map VWaiting.cells).flatten.length = k * 3 by rw [wait_len, List.length_take, Hm.out]; congr 1; omega)
  have Hdk := hide (show ((zs.drop j).map VWaiting.cells).flatten.length = (m - j) * 3 by rw [wait_len, List.length_drop, Hm.out])
  have Hsr1 := hide (waitSrc1 o5 j)
  have Hdel := hide (delW_cells zs k)
  have f1 : (k : Int) ≤ (cc : Int) := by omega
  have f2 : k ≤ cc := by omega
  have f3 : (j : Int) ≤ (m : Int) := by omega
  have f4 : j ≤ m := by omega
  clear o5 b5 KD hj
  by_cases hc : cc = j
  · have hmc : m = cc := by omega
    subst hmc
    subst hc
    have HKD0 := HKD.out
    rw [Nat.sub_self, Nat.add_zero] at HKD0
    have HKD := hide HKD0
    have Hdk0 := Hdk.out
    rw [Nat.sub_self] at Hdk0
    have Hdk := hide Hdk0
    clear HKD0 Hdk0 f4 f3 hcc hjm hwj
    have hwj : IntKind.i64.wrap ((k : Int) + 1) = (m : Int) := by rw [IntWalk.i64_in _ (by omega)]; have := Hj.out; omega
    refine wp_region_held_drew (S := fun w' => w'.cell? ⟨X, 2, none⟩ = some (.slice (some ⟨g, 0, none⟩) m m)) (by kernel_rfl) (by exact KS _ (Below.drew (Below.refl _ w5))) (fun hHeld => ?_)
    refine wpAnyH_take (i := 1) (oi := ⟨some 47, _, _, _, _, _⟩) (v := ?vh01) rfl (by kernel_rfl) (by kernel_rfl) (by kernel_rfl) (fun _ _ _ h => h) (Or.inl ⟨by rfl, ?yh01⟩) (by assumption) ?_
    case yh01 => (intro w hSw; (try dsimp only at hSw); go_simp; (try with_reducible rfl))
    (try simp only [Act.put, List.setIfInBounds_toArray, List.set_cons_zero, List.set_cons_succ])
    refine wpAnyH_take (i := 2) (oi := ⟨some 48, _, _, _, _, _⟩) (v := ?vh02) rfl (by kernel_rfl) (by kernel_rfl) (by kernel_rfl) (fun _ _ _ h => h) (Or.inl ⟨by rfl, ?yh02⟩) (by assumption) ?_
    case yh02 => (intro w hSw; (try dsimp only at hSw); go_simp; (try with_reducible rfl))
    (try simp only [Act.put, List.setIfInBounds_toArray, List.set_cons_zero, List.set_cons_succ])
    refine wpAnyH_take (i := 3) (oi := ⟨some 49, _, _, _, _, _⟩) (v := ?vh03) rfl (by kernel_rfl) (by kernel_rfl) (by kernel_rfl) (fun _ _ _ h => h) (Or.inl ⟨by rfl, ?yh03⟩) (by assumption) ?_
    case yh03 => (intro w hSw; (try dsimp only at hSw); go_simp; (try with_reducible rfl))
    (try simp only [Act.put, List.setIfInBounds_toArray, List.set_cons_zero, List.set_cons_succ])
    refine wpAnyH_take (i := 4) (oi := ⟨some 50, _, _, _, _, _⟩) (v := ?vh04) rfl (by kernel_rfl) (by kernel_rfl) (by kernel_rfl) (fun _ _ _ h => h) (Or.inl ⟨by rfl, ?yh04⟩) (by assumption) ?_
    case yh04 => (intro w hSw; (try dsimp only at hSw); go_simp; (try with_reducible rfl))
    (try simp only [Act.put, List.setIfInBounds_toArray, List.set_cons_zero, List.set_cons_succ])
    refine wpAnyH_take (i := 6) (oi := ⟨some 52, _, _, _, _, _⟩) (v := ?vh06) rfl (by kernel_rfl) (by kernel_rfl) (by kernel_rfl) (fun _ _ _ h => h) (Or.inl ⟨by rfl, ?yh06⟩) (by assumption) ?_
    case yh06 => (intro w hSw; (try dsimp only at hSw); go_simp; (try with_reducible rfl))
    (try simp only [Act.put, List.setIfInBounds_toArray, List.set_cons_zero, List.set_cons_succ])
    refine wpAnyH_take (i := 7) (oi := ⟨some 53, _, _, _, _, _⟩) (v := ?vh07) rfl (by kernel_rfl) (by kernel_rfl) (by kernel_rfl) (fun _ _ _ h => h) (Or.inl ⟨by rfl, ?yh07⟩) (by assumption) ?_
    case yh07 => (intro w hSw; (try dsimp only at hSw); go_simp; (try with_reducible rfl))
    (try simp only [Act.put, List.setIfInBounds_toArray, List.set_cons_zero, List.set_cons_succ])
    refine wpAnyH_take (i := 8) (oi := ⟨some 54, _, _, _, _, _⟩) (v := ?vh08) rfl (by kernel_rfl) (by kernel_rfl) (by kernel_rfl) (fun _ _ _ h => h) (Or.inl ⟨by rfl, ?yh08⟩) (by assumption) ?_
    case yh08 => (intro w hSw; (try dsimp only at hSw); go_simp; (try with_reducible rfl))
    (try simp only [Act.put, List.setIfInBounds_toArray, List.set_cons_zero, List.set_cons_succ])
    refine wpAnyH_take (i := 9) (oi := ⟨some 55, _, _, _, _, _⟩) (v := ?vh09) rfl (by kernel_rfl) (by kernel_rfl) (by kernel_rfl) (fun _ _ _ h => h) (Or.inl ⟨by rfl, ?yh09⟩) (by assumption) ?_
    case yh09 => (intro w hSw; (try dsimp only at hSw); go_simp; (try with_reducible rfl))
    (try simp only [Act.put, List.setIfInBounds_toArray, List.set_cons_zero, List.set_cons_succ])
    refine wpAnyH_take (i := 10) (oi := ⟨some 56, _, _, _, _, _⟩) (v := ?vh010) rfl (by kernel_rfl) (by kernel_rfl) (by kernel_rfl) (fun _ _ _ h => h) (Or.inl ⟨by rfl, ?yh010⟩) (by assumption) ?_
    case yh010 => (intro w hSw; (try dsimp only at hSw); go_simp; (try with_reducible rfl))
    (try simp only [Act.put, List.setIfInBounds_toArray, List.set_cons_zero, List.set_cons_succ])
    refine wpAnyH_ready (rs := [0]) (by kernel_rfl) (by simp) ?_
    refine AllReadyH.cons (o := ⟨some 46, _, _, _, _, _⟩) rfl (fun K hK => ?_) AllReadyH.nil
    go_simp
    refine hK.out _ _ (by exact KS _ (Below.drew ((Below.refl _ w5).alloc (Nat.le_refl _) _))) (fun hHeld => ?_)
    clear hK K
    (try simp only [Act.put, List.setIfInBounds_toArray, List.set_cons_zero, List.set_cons_succ])
    refine wpAnyH_ready (rs := [5]) (by kernel_rfl) (by simp) ?_
    refine AllReadyH.cons (o := ⟨some 51, _, _, _, _, _⟩) rfl (fun K hK => ?_) AllReadyH.nil
    refine step_append_k (by rfl) (.tmp 46) (.tmp 50) 23 rfl elemW (xs := []) (ad := ⟨g, 0, none⟩) (m := k) (c := m) (g := w5.heap.size) (n := 0) (cap := 0) (by simp [Act.eval]) (Own.new w5 #[] 61 3 0 (by unfold maxLen; omega) rfl) (by simp [Act.eval]) ((zs.take k).map VWaiting.cells).flatten Htk.out (cells_alloc Hsrc.out) wait_one (by omega) ?_
    intro g9 cp9 w9 o9 hg9 hat9
    have B9 := fst_belowD (wr := w5) hg9
    have S9 := fst_atD (wr := w5) hat9
    have O9 := hide (o9.convn (n' := k) (Nat.zero_add k))
    rw [Nat.zero_add]
    clear o9
    refine hK.out _ _ (by exact KS _ B9) (fun hHeld => ?_)
    clear hK K
    (try simp only [Act.put, List.setIfInBounds_toArray, List.set_cons_zero, List.set_cons_succ])
    refine wpAnyH_ready (rs := [11]) (by kernel_rfl) (by simp) ?_
    refine AllReadyH.cons (o := ⟨some 57, _, _, _, _, _⟩) rfl (fun K hK => ?_) AllReadyH.nil
    refine step_append_k (by rfl) (.tmp 51) (.tmp 56) 23 rfl elemW (xs := [] ++ ((zs.take k).map VWaiting.cells).flatten) (ad := ⟨g, 0, none⟩) (m := 0) (c := 0) (g := g9) (n := k) (cap := cp9) (by simp [Act.eval]) O9.out (by simp [Act.eval]) ((zs.drop m).map VWaiting.cells).flatten Hdk.out (fun i u hu => by rw [List.eq_nil_of_length_eq_zero (show ((zs.drop m).map VWaiting.cells).flatten.length = 0 by rw [Hdk.out])] at hu; simp at hu) wait_one (by omega) ?_
    intro g10 cp10 w10 o10 hg10 hat10
    have B10 : Below w5.heap.size w5 w10 := snd_below B9 S9 hg10
    have S10 : w5.heap.size ≤ g10 := snd_at B9 S9 hat10
    have O10 : Hid (Own w10 61 3 g10 (k) cp10 ((delW zs k).map VWaiting.cells).flatten) := hide ((o10.convn (n' := k) (Nat.add_zero k)).conv (by rw [← Hj.out]; exact Hdel.out))
    clear o10
    rw [Nat.add_zero]
    refine hK.out _ _ (by exact KS _ B10) (fun hHeld => ?_)
    clear hK K
    (try simp only [Act.put, List.setIfInBounds_toArray, List.set_cons_zero, List.set_cons_succ])
    refine wpAnyH_take (i := 12) (oi := ⟨some 58, _, _, _, _, _⟩) (v := ?vh012) rfl (by kernel_rfl) (by kernel_rfl) (by kernel_rfl) (fun _ _ _ h => h) (Or.inl ⟨by rfl, ?yh012⟩) (by assumption) ?_
    case yh012 => (intro w hSw; (try dsimp only at hSw); go_simp; (try with_reducible rfl))
    (try simp only [Act.put, List.setIfInBounds_toArray, List.set_cons_zero, List.set_cons_succ])
    refine wpAnyH_ready (rs := [13]) (by kernel_rfl) (by simp) ?_
    refine AllReadyH.cons (o := ⟨none, _, _, _, _, _⟩) rfl (fun K hK => ?_) AllReadyH.nil
    have rX : Row w10 X _ := Row.below (Row.mk cX5 fX5 lX5) B10
    have rY : Row w10 Y _ := Row.below (Row.mk cY5 fY5 lY5) B10
    obtain ⟨cXt, fXt, lXt⟩ := rX
    obtain ⟨cYt, fYt, lYt⟩ := rY
    go_simp
    refine hK.out _ _ (by refine (World.cell?_setCell_far _ _ _ _ (by show Y ≠ X; omega)).trans (cXt 2)) (fun hHeld => ?_)
    clear hK K
    (try simp only [Act.put, List.setIfInBounds_toArray, List.set_cons_zero, List.set_cons_succ])
    refine wpAnyH_done (by kernel_rfl) ?_ _
    have HB10 := hide B10
    have s10 := B10.size
    clear KS Hsrc Htk Hsr1 Hdel B9 S9 hg9 hat9 B10 hg10 hat10 cX5 fX5 lX5 cY5 fY5 lY5 O9 hwj f1 f2
    go_wp2_with fail
    have SV := Value.slice (some ⟨g10, 0, none⟩) (k) cp10
    clear SV
    have hgY : g10 ≠ Y := by omega
    have hgY2 : g ≠ Y := by omega
    have b5W := ((B5.out.trans (HB10.out.mono s5)).setCell (p := ⟨Y, 2, none⟩) (show W.heap.size ≤ Y by omega) (.slice (some ⟨g10, 0, none⟩) (k) cp10))
    have b6W := b5W.alloc b5W.size (.cells #[.int .i64 ea, .int .i64 3001, .slice (some ⟨g, 0, none⟩) m m] 25)
    have oD := ((O10.out.far (a := ⟨Y, 2, none⟩) hgY (.slice (some ⟨g10, 0, none⟩) (k) cp10)).alloc (.cells #[.int .i64 ea, .int .i64 3001, .slice (some ⟨g, 0, none⟩) m m] 25))
    have oG := (((O5.out.below HB10.out).far (a := ⟨Y, 2, none⟩) hgY2 (.slice (some ⟨g10, 0, none⟩) (k) cp10)).alloc (.cells #[.int .i64 ea, .int .i64 3001, .slice (some ⟨g, 0, none⟩) m m] 25))
    have hsz : (w10.setCell ⟨Y, 2, none⟩ (.slice (some ⟨g10, 0, none⟩) (k) cp10)).heap.size = w10.heap.size := by simp [World.setCell]
    have rZ := Row.new (w10.setCell ⟨Y, 2, none⟩ (.slice (some ⟨g10, 0, none⟩) (k) cp10)) #[.int .i64 ea, .int .i64 3001, .slice (some ⟨g, 0, none⟩) m m] 25
    rw [hsz] at rZ
    refine (HKD.out g10 cp10 _ (ownWaiting oD (by rw [delW_len zs k (by rw [Hm.out]; exact hkm), Hm.out, Hj.out, Nat.sub_self, Nat.add_zero]))).mono ?_
    rintro e w13 ⟨rfl, hb⟩
    have rZ := rZ.below hb
    have OG2 := hide (RecAt.below (ownWaiting oG Hm.out) hb)
    have BW2 := hide (b6W.trans (hb.mono b6W.size))
    clear hb oD oG b5W b6W hsz
    obtain ⟨Z, hZ⟩ : ∃ Z, w10.heap.size = Z := ⟨_, rfl⟩
    rw [hZ] at rZ ⊢
    obtain ⟨cZ, fZ, lZ⟩ := rZ
    clear hZ
    go_wp2_with fail
    refine (HKL.out _ OG2.out).mono ?_
    rintro e w14 ⟨rfl, hb⟩
    have BW3 := hide (BW2.out.trans (hb.mono BW2.out.size))
    clear hb
    go_wp2_with fail
    go_ret
    exact ⟨by first | rfl | (simp; done), BW3.out⟩
  · have hcj : ¬ cc - j = 0 := by omega
    refine wp_region_held_drew (S := fun w' => w'.cell? ⟨X, 2, none⟩ = some (.slice (some ⟨g, 0, none⟩) m cc)) (by kernel_rfl) (by exact KS _ (Below.drew (Below.refl _ w5))) (fun hHeld => ?_)
    refine wpAnyH_take (i := 1) (oi := ⟨some 47, _, _, _, _, _⟩) (v := ?vh11) rfl (by kernel_rfl) (by kernel_rfl) (by kernel_rfl) (fun _ _ _ h => h) (Or.inl ⟨by rfl, ?yh11⟩) (by assumption) ?_
    case yh11 => (intro w hSw; (try dsimp only at hSw); go_simp; (try with_reducible rfl))
    (try simp only [Act.put, List.setIfInBounds_toArray, List.set_cons_zero, List.set_cons_succ])
    refine wpAnyH_take (i := 2) (oi := ⟨some 48, _, _, _, _, _⟩) (v := ?vh12) rfl (by kernel_rfl) (by kernel_rfl) (by kernel_rfl) (fun _ _ _ h => h) (Or.inl ⟨by rfl, ?yh12⟩) (by assumption) ?_
    case yh12 => (intro w hSw; (try dsimp only at hSw); go_simp; (try with_reducible rfl))
    (try simp only [Act.put, List.setIfInBounds_toArray, List.set_cons_zero, List.set_cons_succ])
    refine wpAnyH_take (i := 3) (oi := ⟨some 49, _, _, _, _, _⟩) (v := ?vh13) rfl (by kernel_rfl) (by kernel_rfl) (by kernel_rfl) (fun _ _ _ h => h) (Or.inl ⟨by rfl, ?yh13⟩) (by assumption) ?_
    case yh13 => (intro w hSw; (try dsimp only at hSw); go_simp; (try with_reducible rfl))
    (try simp only [Act.put, List.setIfInBounds_toArray, List.set_cons_zero, List.set_cons_succ])
    refine wpAnyH_take (i := 4) (oi := ⟨some 50, _, _, _, _, _⟩) (v := ?vh14) rfl (by kernel_rfl) (by kernel_rfl) (by kernel_rfl) (fun _ _ _ h => h) (Or.inl ⟨by rfl, ?yh14⟩) (by assumption) ?_
    case yh14 => (intro w hSw; (try dsimp only at hSw); go_simp; (try with_reducible rfl))
    (try simp only [Act.put, List.setIfInBounds_toArray, List.set_cons_zero, List.set_cons_succ])
    refine wpAnyH_take (i := 6) (oi := ⟨some 52, _, _, _, _, _⟩) (v := ?vh16) rfl (by kernel_rfl) (by kernel_rfl) (by kernel_rfl) (fun _ _ _ h => h) (Or.inl ⟨by rfl, ?yh16⟩) (by assumption) ?_
    case yh16 => (intro w hSw; (try dsimp only at hSw); go_simp; (try with_reducible rfl))
    (try simp only [Act.put, List.setIfInBounds_toArray, List.set_cons_zero, List.set_cons_succ])
    refine wpAnyH_take (i := 7) (oi := ⟨some 53, _, _, _, _, _⟩) (v := ?vh17) rfl (by kernel_rfl) (by kernel_rfl) (by kernel_rfl) (fun _ _ _ h => h) (Or.inl ⟨by rfl, ?yh17⟩) (by assumption) ?_
    case yh17 => (intro w hSw; (try dsimp only at hSw); go_simp; (try with_reducible rfl))
    (try simp only [Act.put, List.setIfInBounds_toArray, List.set_cons_zero, List.set_cons_succ])
    refine wpAnyH_take (i := 8) (oi := ⟨some 54, _, _, _, _, _⟩) (v := ?vh18) rfl (by kernel_rfl) (by kernel_rfl) (by kernel_rfl) (fun _ _ _ h => h) (Or.inl ⟨by rfl, ?yh18⟩) (by assumption) ?_
    case yh18 => (intro w hSw; (try dsimp only at hSw); go_simp; (try with_reducible rfl))
    (try simp only [Act.put, List.setIfInBounds_toArray, List.set_cons_zero, List.set_cons_succ])
    refine wpAnyH_take (i := 9) (oi := ⟨some 55, _, _, _, _, _⟩) (v := ?vh19) rfl (by kernel_rfl) (by kernel_rfl) (by kernel_rfl) (fun _ _ _ h => h) (Or.inl ⟨by rfl, ?yh19⟩) (by assumption) ?_
    case yh19 => (intro w hSw; (try dsimp only at hSw); go_simp; (try with_reducible rfl))
    (try simp only [Act.put, List.setIfInBounds_toArray, List.set_cons_zero, List.set_cons_succ])
    refine wpAnyH_take (i := 10) (oi := ⟨some 56, _, _, _, _, _⟩) (v := ?vh110) rfl (by kernel_rfl) (by kernel_rfl) (by kernel_rfl) (fun _ _ _ h => h) (Or.inl ⟨by rfl, ?yh110⟩) (by assumption) ?_
    case yh110 => (intro w hSw; (try dsimp only at hSw); go_simp; (try with_reducible rfl))
    (try simp only [Act.put, List.setIfInBounds_toArray, List.set_cons_zero, List.set_cons_succ])
    refine wpAnyH_ready (rs := [0]) (by kernel_rfl) (by simp) ?_
    refine AllReadyH.cons (o := ⟨some 46, _, _, _, _, _⟩) rfl (fun K hK => ?_) AllReadyH.nil
    go_simp
    refine hK.out _ _ (by exact KS _ (Below.drew ((Below.refl _ w5).alloc (Nat.le_refl _) _))) (fun hHeld => ?_)
    clear hK K
    (try simp only [Act.put, List.setIfInBounds_toArray, List.set_cons_zero, List.set_cons_succ])
    refine wpAnyH_ready (rs := [5]) (by kernel_rfl) (by simp) ?_
    refine AllReadyH.cons (o := ⟨some 51, _, _, _, _, _⟩) rfl (fun K hK => ?_) AllReadyH.nil
    refine step_append_k (by rfl) (.tmp 46) (.tmp 50) 23 rfl elemW (xs := []) (ad := ⟨g, 0, none⟩) (m := k) (c := cc) (g := w5.heap.size) (n := 0) (cap := 0) (by simp [Act.eval]) (Own.new w5 #[] 61 3 0 (by unfold maxLen; omega) rfl) (by simp [Act.eval]) ((zs.take k).map VWaiting.cells).flatten Htk.out (cells_alloc Hsrc.out) wait_one (by omega) ?_
    intro g9 cp9 w9 o9 hg9 hat9
    have B9 := fst_belowD (wr := w5) hg9
    have S9 := fst_atD (wr := w5) hat9
    have O9 := hide (o9.convn (n' := k) (Nat.zero_add k))
    rw [Nat.zero_add]
    clear o9
    refine hK.out _ _ (by exact KS _ B9) (fun hHeld => ?_)
    clear hK K
    (try simp only [Act.put, List.setIfInBounds_toArray, List.set_cons_zero, List.set_cons_succ])
    refine wpAnyH_ready (rs := [11]) (by kernel_rfl) (by simp) ?_
    refine AllReadyH.cons (o := ⟨some 57, _, _, _, _, _⟩) rfl (fun K hK => ?_) AllReadyH.nil
    refine step_append_k (by rfl) (.tmp 51) (.tmp 56) 23 rfl elemW (xs := [] ++ ((zs.take k).map VWaiting.cells).flatten) (ad := ⟨g, j * 3, none⟩) (m := m - j) (c := cc - j) (g := g9) (n := k) (cap := cp9) (by simp [Act.eval]) O9.out (by simp [Act.eval]) ((zs.drop j).map VWaiting.cells).flatten Hdk.out (cells_below B9 Hsr1.out) wait_one (by omega) ?_
    intro g10 cp10 w10 o10 hg10 hat10
    have B10 : Below w5.heap.size w5 w10 := snd_below B9 S9 hg10
    have S10 : w5.heap.size ≤ g10 := snd_at B9 S9 hat10
    have O10 : Hid (Own w10 61 3 g10 (k + (m - j)) cp10 ((delW zs k).map VWaiting.cells).flatten) := hide (o10.conv (by rw [← Hj.out]; exact Hdel.out))
    clear o10
    refine hK.out _ _ (by exact KS _ B10) (fun hHeld => ?_)
    clear hK K
    (try simp only [Act.put, List.setIfInBounds_toArray, List.set_cons_zero, List.set_cons_succ])
    refine wpAnyH_take (i := 12) (oi := ⟨some 58, _, _, _, _, _⟩) (v := ?vh112) rfl (by kernel_rfl) (by kernel_rfl) (by kernel_rfl) (fun _ _ _ h => h) (Or.inl ⟨by rfl, ?yh112⟩) (by assumption) ?_
    case yh112 => (intro w hSw; (try dsimp only at hSw); go_simp; (try with_reducible rfl))
    (try simp only [Act.put, List.setIfInBounds_toArray, List.set_cons_zero, List.set_cons_succ])
    refine wpAnyH_ready (rs := [13]) (by kernel_rfl) (by simp) ?_
    refine AllReadyH.cons (o := ⟨none, _, _, _, _, _⟩) rfl (fun K hK => ?_) AllReadyH.nil
    have rX : Row w10 X _ := Row.below (Row.mk cX5 fX5 lX5) B10
    have rY : Row w10 Y _ := Row.below (Row.mk cY5 fY5 lY5) B10
    obtain ⟨cXt, fXt, lXt⟩ := rX
    obtain ⟨cYt, fYt, lYt⟩ := rY
    go_simp
    refine hK.out _ _ (by refine (World.cell?_setCell_far _ _ _ _ (by show Y ≠ X; omega)).trans (cXt 2)) (fun hHeld => ?_)
    clear hK K
    (try simp only [Act.put, List.setIfInBounds_toArray, List.set_cons_zero, List.set_cons_succ])
    refine wpAnyH_done (by kernel_rfl) ?_ _
    have HB10 := hide B10
    have s10 := B10.size
    clear KS Hsrc Htk Hdk Hsr1 Hdel B9 S9 hg9 hat9 B10 hg10 hat10 cX5 fX5 lX5 cY5 fY5 lY5 O9 hwj f1 f2 f3 f4
    go_wp2_with fail
    have SV := Value.slice (some ⟨g10, 0, none⟩) (k + (m - j)) cp10
    clear SV
    have hgY : g10 ≠ Y := by omega
    have hgY2 : g ≠ Y := by omega
    have b5W := ((B5.out.trans (HB10.out.mono s5)).setCell (p := ⟨Y, 2, none⟩) (show W.heap.size ≤ Y by omega) (.slice (some ⟨g10, 0, none⟩) (k + (m - j)) cp10))
    have b6W := b5W.alloc b5W.size (.cells #[.int .i64 ea, .int .i64 3001, .slice (some ⟨g, 0, none⟩) m cc] 25)
    have oD := ((O10.out.far (a := ⟨Y, 2, none⟩) hgY (.slice (some ⟨g10, 0, none⟩) (k + (m - j)) cp10)).alloc (.cells #[.int .i64 ea, .int .i64 3001, .slice (some ⟨g, 0, none⟩) m cc] 25))
    have oG := (((O5.out.below HB10.out).far (a := ⟨Y, 2, none⟩) hgY2 (.slice (some ⟨g10, 0, none⟩) (k + (m - j)) cp10)).alloc (.cells #[.int .i64 ea, .int .i64 3001, .slice (some ⟨g, 0, none⟩) m cc] 25))
    have hsz : (w10.setCell ⟨Y, 2, none⟩ (.slice (some ⟨g10, 0, none⟩) (k + (m - j)) cp10)).heap.size = w10.heap.size := by simp [World.setCell]
    have rZ := Row.new (w10.setCell ⟨Y, 2, none⟩ (.slice (some ⟨g10, 0, none⟩) (k + (m - j)) cp10)) #[.int .i64 ea, .int .i64 3001, .slice (some ⟨g, 0, none⟩) m cc] 25
    rw [hsz] at rZ
    refine (HKD.out g10 cp10 _ (ownWaiting oD (by rw [delW_len zs k (by rw [Hm.out]; exact hkm), Hm.out, Hj.out]))).mono ?_
    rintro e w13 ⟨rfl, hb⟩
    have rZ := rZ.below hb
    have OG2 := hide (RecAt.below (ownWaiting oG Hm.out) hb)
    have BW2 := hide (b6W.trans (hb.mono b6W.size))
    clear hb oD oG b5W b6W hsz
    obtain ⟨Z, hZ⟩ : ∃ Z, w10.heap.size = Z := ⟨_, rfl⟩
    rw [hZ] at rZ ⊢
    obtain ⟨cZ, fZ, lZ⟩ := rZ
    clear hZ
    go_wp2_with fail
    refine (HKL.out _ OG2.out).mono ?_
    rintro e w14 ⟨rfl, hb⟩
    have BW3 := hide (BW2.out.trans (hb.mono BW2.out.size))
    clear hb
    go_wp2_with fail
    go_ret
    exact ⟨by first | rfl | (simp; done), BW3.out⟩
end Go.Proofs.Ytjbengphioankaa
