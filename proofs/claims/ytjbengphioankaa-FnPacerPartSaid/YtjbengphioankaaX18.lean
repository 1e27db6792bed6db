/- What l92Pacer draws. -/
import Derived.Test.YtjbengphioankaaX17
namespace Go.Proofs.Ytjbengphioankaa
open Go.ChangeShapes Go.WideShapes Go.ChangeAt Go.RowKit Go.Deep

/-- What a draw of a pacer leaves. -/
def DrewPac (R : Nat) (w : World) (en : Ending) (w' : World) : Prop :=
  ∃ e c g zs cp, en = .returned (.agg #[.int .i64 e, .int .i64 c, .slice (some ⟨g, 0, none⟩) (List.length zs) cp]) ∧ zs.length ≤ 12 ∧ w.heap.size ≤ g ∧ Own w' 61 3 g zs.length cp (zs.map VWaiting.cells).flatten ∧ w.grownBy w' (some R)
theorem drewPac_mk {R g cp m : Nat} {e c : Int} {zs : List VWaiting} {w w' : World} (hm : zs.length = m) (h1 : m ≤ 12) (h2 : w.heap.size ≤ g) (h3 : Own w' 61 3 g m cp (zs.map VWaiting.cells).flatten) (h4 : w.grownBy w' (some R)) :
    DrewPac R w (.returned (.agg #[.int .i64 e, .int .i64 c, .slice (some ⟨g, 0, none⟩) m cp])) w' := by
  subst hm; exact ⟨e, c, g, zs, cp, rfl, h1, h2, h3, h4⟩
set_option maxRecDepth 10000 in
set_option maxHeartbeats 8000000 in
theorem l92Pacer_any (B R : Nat) (w : World) (hr : Rd w B R 0) :
    Calls Try.prog 30 #[.pointer (some ⟨R, 0, none⟩)] w (DrewPac R w) := by
  have lR := hr.lt
  have Hr := hide hr
  obtain ⟨Z, hZ⟩ : ∃ Z, w.heap.size = Z := ⟨_, rfl⟩
  have RZ := Row.new w #[.int .i64 0, .int .i64 0, .slice none 0 0] 25
  clear hr
  go_enter Try.func30, Try.ntmps30
  go_wp2_with fail
  refine (pick_any B R 0 250 _ (Hr.out.alloc _) (by omega) (by omega) (by omega)).mono ?_
  rintro e w1 ⟨ee, rfl, he0, he1, hs1, hr1, hg1⟩
  have RZ1 := RZ.grown hg1 (by omega)
  have G1 := hide (grown_trans (grown_alloc (World.grownBy.refl w (some R)) _) hg1)
  clear hg1 hs1 Hr
  obtain ⟨cZ, fZ, lZ⟩ := RZ1
  have v1 : IntKind.i64.wrap (20 + ee) = 20 + ee := IntWalk.i64_in _ (by omega)
  go_wp2_with fail
  obtain ⟨ea, hea⟩ : ∃ y, 20 + ee = y := ⟨_, rfl⟩
  rw [hea]
  have ha0 : 20 ≤ ea := by omega
  have ha1 : ea ≤ 269 := by omega
  clear v1 hea
  refine (pick_any B R _ 250 _ hr1 (by omega) (by omega) (by omega)).mono ?_
  rintro e w2 ⟨cc, rfl, hd0, hd1, hs2, hr2, hg2⟩
  have RZ2 := (Row.mk cZ fZ lZ).grown hg2 (by omega)
  have G2 := hide (grown_trans G1.out hg2)
  clear hg2 hs2 hr1 G1 cZ fZ lZ
  have v2 : IntKind.i64.wrap (cc * 2) = cc * 2 := IntWalk.i64_in _ (by omega)
  have Hr2 := hide hr2
  have RZh := hide RZ2
  clear hr2 RZ2
  go_wp2_with fail
  obtain ⟨cr, hcr⟩ : ∃ y, cc * 2 = y := ⟨_, rfl⟩
  rw [hcr]
  have hc0 : 0 ≤ cr := by omega
  have hc1 : cr ≤ 500 := by omega
  clear v2 hcr
  have s2 := G2.out.size
  have F : ∃ (wx : World), wx = (w2.alloc (.cells #[] 61)).alloc (.cells #[.int .i64 ea, .int .i64 cr, .slice (some ⟨w2.heap.size, 0, none⟩) 0 0] 25) := ⟨_, rfl⟩
  obtain ⟨wx, hwx⟩ := F
  have F2 : Row wx Z #[.int .i64 0, .int .i64 0, .slice none 0 0] ∧ Row wx (w2.heap.size + 1) #[.int .i64 ea, .int .i64 cr, .slice (some ⟨w2.heap.size, 0, none⟩) 0 0] ∧ Own wx 61 3 w2.heap.size 0 0 (([] : List VWaiting).map VWaiting.cells).flatten ∧ Rd wx B R 2 ∧ w.grownBy wx (some R) := by
    rw [hwx, ← hZ]
    exact ⟨(RZh.out.alloc _).alloc _, Row.new1 _ _ _ _, (Own.new w2 #[] 61 3 0 (by unfold maxLen; omega) rfl).alloc _, (Hr2.out.alloc _).alloc _, grown_alloc (grown_alloc G2.out _) _⟩
  rw [← hwx]
  have l2Z : w.heap.size < w2.heap.size := RZh.out.2.2
  clear hwx RZh Hr2 G2 RZ
  obtain ⟨rZ, rD, oi, hr3, G3⟩ := F2
  obtain ⟨gi, hgi⟩ : ∃ gi, w2.heap.size = gi := ⟨_, rfl⟩
  rw [hgi] at rD oi l2Z ⊢
  obtain ⟨D, hD⟩ : ∃ D, gi + 1 = D := ⟨_, rfl⟩
  rw [hD] at rD ⊢
  clear hgi
  have nDR : D ≠ R := by omega
  have hDw : w.heap.size ≤ D := by omega
  have hZw : w.heap.size ≤ Z := by omega
  have nZR : Z ≠ R := by omega
  have nDZ : ¬ D = Z := by omega
  have nZD : ¬ Z = D := by omega
  have lRD : R < D := by omega
  have lZD : Z < D := by omega
  refine (pick_any B R _ 9 _ hr3 (by omega) (by omega) (by omega)).mono ?_
  rintro e w4 ⟨n0, rfl, hq0, hq1, -, hr4, hg4⟩
  have rZ := rZ.grown hg4 (by omega)
  have rD := rD.grown hg4 nDR
  have oi := oi.grown hg4 (by omega)
  have G4 := grown_trans G3 hg4
  clear hg4 hr3 G3
  have Oi := hide oi
  have HrZ := hide rZ
  have HrD := hide rD
  clear oi rZ rD
  go_wp2_with fail
  refine (pick_any B R _ 12 _ hr4 (by omega) (by omega) (by omega)).mono ?_
  rintro e w6 ⟨t0, rfl, _, _, -, hr6, hg6⟩
  have HrZ := hide (HrZ.out.grown hg6 (by omega))
  have HrD := hide (HrD.out.grown hg6 nDR)
  have Oi := hide (Oi.out.grown hg6 (by omega))
  have G6 := hide (grown_trans G4 hg6)
  have Hr6 := hide hr6
  clear hg6 hr4 G4 hr6
  have hv0 : pacB ea cr [] = true := pacB_yes (n := 0) rfl (by omega) (by omega) (fun i hi => by omega)
  have HV0 := hide hv0
  clear hv0
  go_upto_if 20 with (fail)
  go_cut [4] (fun s wx => ∃ n : Int, s = .int .i64 n ∧ 0 ≤ n ∧ n ≤ 14 ∧ wx = w6)
  case first =>
    by_cases h0 : t0 = 0
    · subst h0
      go_wp2_with fail
      go_meet
      exact ⟨14, rfl, by omega, by omega, rfl⟩
    · have e0 : (t0 == 0) = false := by simpa using h0
      clear h0
      go_wp2_with fail
      go_meet
      exact ⟨n0, rfl, by omega, by omega, rfl⟩
  case rest =>
  obtain ⟨n, rfl, hn0', hn14, rfl⟩ := hcut
  go_wp2_with fail
  go_loopw [5] (fun i wr => ∃ (k m gi ci : Nat) (zs : List VWaiting), i = .int .i64 k ∧ (k : Int) ≤ n ∧ zs.length = m ∧ pacB ea cr zs = true ∧ w.heap.size ≤ gi ∧ gi ≠ D ∧ gi ≠ Z ∧ Row wr Z #[.int .i64 0, .int .i64 0, .slice none 0 0] ∧ Row wr D #[.int .i64 ea, .int .i64 cr, .slice (some ⟨gi, 0, none⟩) m ci] ∧ Own wr 61 3 gi m ci (zs.map VWaiting.cells).flatten ∧ Rd wr B R (4 + 5 * k) ∧ w.grownBy wr (some R)) (fun i _ => (n - intOf i).toNat)
  case atStart => exact ⟨0, 0, gi, 0, [], rfl, by omega, rfl, HV0.out, by omega, by omega, by omega, HrZ.out, HrD.out, Oi.out, Hr6.out, G6.out⟩
  case round =>
    clear HrZ HrD Oi G6 Hr6 HV0
    obtain ⟨k, m, gi, ci, zs, rfl, hk, hm, hv, hgi, hgD, hgZ, rZ, rD, oi, hr0, hG⟩ := hrel
    have Hm := hide hm
    have HV := hide hv
    have hm12 : m ≤ 12 := by have := (of_decide_eq_true hv).2.1; omega
    have Hoi := hide oi
    have HrZ := hide rZ
    have HG := hide hG
    have lD := rD.2.2
    have nGR : gi ≠ R := by omega
    clear hm hv oi rZ hG
    by_cases hk' : (k : Int) < n
    · obtain ⟨cD, fD, _⟩ := rD
      have rD := Row.mk cD fD lD
      go_upto_region 8 with (fail)
      go_cut [6, 7] (fun p q wx => ∃ (X : Nat) (e' c' : Int) (A' : Option Addr) (n' cp : Nat) (b : Bool), p = .pointer (some ⟨X, 0, none⟩) ∧ q = .bool b ∧ X ≠ D ∧ w.heap.size ≤ X ∧ Row wx X #[.int .i64 e', .int .i64 c', .slice A' n' cp] ∧ Row wx D #[.int .i64 ea, .int .i64 cr, .slice (some ⟨gi, 0, none⟩) m ci] ∧ Row wx Z #[.int .i64 0, .int .i64 0, .slice none 0 0] ∧ Own wx 61 3 gi m ci (zs.map VWaiting.cells).flatten ∧ PutFar X ea cr (D + 1) e' c' A' n' cp b wx ∧ Rd wx B R (4 + 5 * k + 5) ∧ w.grownBy wx (some R))
      case first =>
        go_wp2_with fail
        refine wp_region_held_drew (S := fun w' => w'.cell? ⟨D, 0, none⟩ = some (.int .i64 ea) ∧ w'.cell? ⟨D, 1, none⟩ = some (.int .i64 cr) ∧ w'.cell? ⟨D, 2, none⟩ = some (.slice (some ⟨gi, 0, none⟩) m ci)) (by kernel_rfl) (by exact ⟨cD 0, cD 1, cD 2⟩) (fun hHeld => ?_)
        have HD := hide (Row.drew (Row.mk cD fD lD))
        have HZ := hide (Row.drew HrZ.out)
        have HO := hide (Own.drew Hoi.out)
        have HR := hide (Rd.drew hr0)
        have HG := hide (grown_drew HG.out)
        clear cD fD rD HrZ Hoi hr0
        refine wpAnyH_take (i := 0) (oi := ⟨some 27, _, _, _, _, _⟩) (v := ?vh1) rfl (by kernel_rfl) (by kernel_rfl) (by kernel_rfl) (fun _ _ _ h => h) (Or.inl ⟨by rfl, ?yh1⟩) (by assumption) ?_
        case yh1 => (intro w hSw; (try dsimp only at hSw); go_simp; (try with_reducible rfl))
        (try simp only [Act.put, List.setIfInBounds_toArray, List.set_cons_zero, List.set_cons_succ])
        refine wpAnyH_take (i := 1) (oi := ⟨some 28, _, _, _, _, _⟩) (v := ?vh2) rfl (by kernel_rfl) (by kernel_rfl) (by kernel_rfl) (fun _ _ _ h => h) (Or.inl ⟨by rfl, ?yh2⟩) (by assumption) ?_
        case yh2 => (intro w hSw; (try dsimp only at hSw); go_simp; (try with_reducible rfl))
        (try simp only [Act.put, List.setIfInBounds_toArray, List.set_cons_zero, List.set_cons_succ])
        refine wpAnyH_ready (rs := [2, 7]) (by kernel_rfl) (by simp) ?_
        refine (AllReadyH.cons (o := ⟨some 29, _, _, _, _, _⟩) rfl (fun K hK => ?_) (AllReadyH.cons (o := ⟨some 6, _, _, _, _, _⟩) rfl (fun K hK => ?_) AllReadyH.nil))
        · go_simp
          refine (l92Waiting_any B R _ _ HR.out (by omega)).mono ?_
          rintro e wa ⟨x, rfl, hrw, hgw⟩
          have HD := hide (HD.out.grown hgw nDR)
          have HZ := hide (HZ.out.grown hgw nZR)
          have HO := hide (HO.out.grown hgw nGR)
          have HR := hide hrw
          have HG := hide (grown_trans HG.out hgw)
          clear hgw hrw
          go_wp2_with fail
          refine hK.out _ _ (by exact ⟨HD.out.1 0, HD.out.1 1, HD.out.1 2⟩) (fun hHeld => ?_)
          clear hK K
          (try simp only [Act.put, List.setIfInBounds_toArray, List.set_cons_zero, List.set_cons_succ])
          refine wpAnyH_ready (rs := [3, 7]) (by kernel_rfl) (by simp) ?_
          refine (AllReadyH.cons (o := ⟨some 30, _, _, _, _, _⟩) rfl (fun K hK => ?_) (AllReadyH.cons (o := ⟨some 6, _, _, _, _, _⟩) rfl (fun K hK => ?_) AllReadyH.nil))
          · have lDp := HD.out.2.2
            have lZp := HZ.out.2.2
            have lRp := HR.out.lt
            have lWp := HG.out.size
            go_simp
            refine (specPacerPut gi m ci ea cr zs x _ HO.out Hm.out HV.out).mono ?_
            rintro e wd ⟨e', c', A', n', cp, b, rfl, hbd, hput⟩
            have HP := hide hput
            have HD := hide (HD.out.below hbd)
            have HZ := hide (HZ.out.below hbd)
            have HO := hide (HO.out.below hbd)
            have HR := hide (HR.out.below hbd)
            have HG := hide (grown_below HG.out hbd)
            clear hbd hput
            have hDp := lDp
            go_wp2_with fail
            refine hK.out _ _ (by exact ⟨HD.out.1 0, HD.out.1 1, HD.out.1 2⟩) (fun hHeld => ?_)
            clear hK K
            (try simp only [Act.put, List.setIfInBounds_toArray, List.set_cons_zero, List.set_cons_succ])
            refine wpAnyH_take (i := 4) (oi := ⟨some 26, _, _, _, _, _⟩) (v := ?vh3) rfl (by kernel_rfl) (by kernel_rfl) (by kernel_rfl) (fun _ _ _ h => h) (Or.inl ⟨by rfl, ?yh3⟩) (by assumption) ?_
            case yh3 => (intro w hSw; (try dsimp only at hSw); go_simp; (try with_reducible rfl))
            (try simp only [Act.put, List.setIfInBounds_toArray, List.set_cons_zero, List.set_cons_succ])
            refine wpAnyH_take (i := 5) (oi := ⟨some 31, _, _, _, _, _⟩) (v := ?vh4) rfl (by kernel_rfl) (by kernel_rfl) (by kernel_rfl) (fun _ _ _ h => h) (Or.inl ⟨by rfl, ?yh4⟩) (by assumption) ?_
            case yh4 => (intro w hSw; (try dsimp only at hSw); go_simp; (try with_reducible rfl))
            (try simp only [Act.put, List.setIfInBounds_toArray, List.set_cons_zero, List.set_cons_succ])
            refine wpAnyH_take (i := 6) (oi := ⟨some 32, _, _, _, _, _⟩) (v := ?vh5) rfl (by kernel_rfl) (by kernel_rfl) (by kernel_rfl) (fun _ _ _ h => h) (Or.inl ⟨by rfl, ?yh5⟩) (by assumption) ?_
            case yh5 => (intro w hSw; (try dsimp only at hSw); go_simp; (try with_reducible rfl))
            (try simp only [Act.put, List.setIfInBounds_toArray, List.set_cons_zero, List.set_cons_succ])
            refine wpAnyH_ready (rs := [7]) (by kernel_rfl) (by simp) ?_
            refine (AllReadyH.cons (o := ⟨some 6, _, _, _, _, _⟩) rfl (fun K hK => ?_) AllReadyH.nil)
            go_simp
            have hGs0 := hide (show w.heap.size ≤ wd.heap.size from HG.out.size)
            have hZs0 := hide (show Z < wd.heap.size from HZ.out.2.2)
            have lOp : gi < wd.heap.size := HO.out.lt
            have lDp : D < wd.heap.size := HD.out.2.2
            have lRp : R < wd.heap.size := HR.out.lt
            have HDo := HD
            have HZo := HZ
            have HOo := HO
            have HRo := HR
            have HGo := HG
            have HPo := HP
            have HX : Hid (Row (wd.alloc (.cells #[.int .i64 0, .int .i64 0, .slice none 0 0] 25)) wd.heap.size _) := hide (Row.new wd _ 25)
            have HD := hide (HD.out.alloc (.cells #[.int .i64 0, .int .i64 0, .slice none 0 0] 25))
            have HZ := hide (HZ.out.alloc (.cells #[.int .i64 0, .int .i64 0, .slice none 0 0] 25))
            have HO := hide (HO.out.alloc (.cells #[.int .i64 0, .int .i64 0, .slice none 0 0] 25))
            have HR := hide (HR.out.alloc (.cells #[.int .i64 0, .int .i64 0, .slice none 0 0] 25))
            have HG := hide (grown_alloc HG.out (.cells #[.int .i64 0, .int .i64 0, .slice none 0 0] 25))
            have HP := hide (HP.out.new (lo' := D + 1) hDp (.cells #[.int .i64 0, .int .i64 0, .slice none 0 0] 25))
            refine hK.out _ _ (by exact ⟨HD.out.1 0, HD.out.1 1, HD.out.1 2⟩) (fun hHeld => ?_)
            clear hK K
            (try simp only [Act.put, List.setIfInBounds_toArray, List.set_cons_zero, List.set_cons_succ])
            have nXR : wd.heap.size ≠ R := by omega
            have nXD : wd.heap.size ≠ D := by omega
            have nXG : wd.heap.size ≠ gi := by omega
            have lRX : R < wd.heap.size := by omega
            have lWX : w.heap.size ≤ wd.heap.size := (by have := hGs0.out; omega)
            have nZX : Z ≠ wd.heap.size := (by have := hZs0.out; omega)
            have nDX : D ≠ wd.heap.size := nXD.symm
            have nGX : gi ≠ wd.heap.size := nXG.symm
            refine wpAnyH_ready (rs := [8]) (by kernel_rfl) (by simp) ?_
            refine (AllReadyH.cons (o := ⟨none, _, _, _, _, _⟩) rfl (fun K hK => ?_) AllReadyH.nil)
            have RX := HX.out
            obtain ⟨cX, fX, lX⟩ := RX
            go_simp
            first
              | (have HX := hide (((((Row.mk cX fX lX).set 0 (by simp) (.int .i64 e')).set 1 (by simp) (.int .i64 c')).set 2 (by simp) (.slice A' n' cp)).conv (cs' := #[.int .i64 e', .int .i64 c', .slice A' n' cp]) rfl); have HD := hide (((HD.out.far (a := ⟨wd.heap.size, 0, none⟩) nDX (.int .i64 e')).far (a := ⟨wd.heap.size, 1, none⟩) nDX (.int .i64 c')).far (a := ⟨wd.heap.size, 2, none⟩) nDX (.slice A' n' cp)); have HZ := hide (((HZ.out.far (a := ⟨wd.heap.size, 0, none⟩) nZX (.int .i64 e')).far (a := ⟨wd.heap.size, 1, none⟩) nZX (.int .i64 c')).far (a := ⟨wd.heap.size, 2, none⟩) nZX (.slice A' n' cp)); have HO := hide (((HO.out.far (a := ⟨wd.heap.size, 0, none⟩) nGX (.int .i64 e')).far (a := ⟨wd.heap.size, 1, none⟩) nGX (.int .i64 c')).far (a := ⟨wd.heap.size, 2, none⟩) nGX (.slice A' n' cp)); have HR := hide (((HR.out.setCell (a := ⟨wd.heap.size, 0, none⟩) lRX (.int .i64 e')).setCell (a := ⟨wd.heap.size, 1, none⟩) lRX (.int .i64 c')).setCell (a := ⟨wd.heap.size, 2, none⟩) lRX (.slice A' n' cp)); have HG := hide (grown_setCell (grown_setCell (grown_setCell HG.out (p := ⟨wd.heap.size, 0, none⟩) (.inr lWX) (.int .i64 e')) (p := ⟨wd.heap.size, 1, none⟩) (.inr lWX) (.int .i64 c')) (p := ⟨wd.heap.size, 2, none⟩) (.inr lWX) (.slice A' n' cp)); have HP := hide (((HP.out.set 0 (.int .i64 e')).set 1 (.int .i64 c')).set 2 (.slice A' n' cp)); refine hK.out _ _ (by exact ⟨HD.out.1 0, HD.out.1 1, HD.out.1 2⟩) (fun hHeld => ?_))
              | (have HX := hide (Row.new wd #[.int .i64 e', .int .i64 c', .slice A' n' cp] 25); have HD := hide (HDo.out.alloc (.cells #[.int .i64 e', .int .i64 c', .slice A' n' cp] 25)); have HZ := hide (HZo.out.alloc (.cells #[.int .i64 e', .int .i64 c', .slice A' n' cp] 25)); have HO := hide (HOo.out.alloc (.cells #[.int .i64 e', .int .i64 c', .slice A' n' cp] 25)); have HR := hide (HRo.out.alloc (.cells #[.int .i64 e', .int .i64 c', .slice A' n' cp] 25)); have HG := hide (grown_alloc HGo.out (.cells #[.int .i64 e', .int .i64 c', .slice A' n' cp] 25)); have HP := hide (HPo.out.new (lo' := D + 1) hDp (.cells #[.int .i64 e', .int .i64 c', .slice A' n' cp] 25)); refine hK.out _ _ (by exact ⟨HD.out.1 0, HD.out.1 1, HD.out.1 2⟩) (fun hHeld => ?_))
            clear hK K
            (try simp only [Act.put, List.setIfInBounds_toArray, List.set_cons_zero, List.set_cons_succ])
            refine wpAnyH_take (i := 9) (oi := ⟨some 7, _, _, _, _, _⟩) (v := ?vh6) rfl (by kernel_rfl) (by kernel_rfl) (by kernel_rfl) (fun _ _ _ h => h) (Or.inl ⟨by rfl, ?yh6⟩) (by assumption) ?_
            case yh6 => (intro w hSw; (try dsimp only at hSw); go_simp; (try with_reducible rfl))
            (try simp only [Act.put, List.setIfInBounds_toArray, List.set_cons_zero, List.set_cons_succ])
            refine wpAnyH_done (by kernel_rfl) ?_ _
            first | go_meet | (go_wp2_with fail; go_meet)
            exact ⟨wd.heap.size, e', c', A', n', cp, b, rfl, rfl, nXD, lWX, HX.out, HD.out, HZ.out, HO.out, HP.out, HR.out.more (by omega), HG.out⟩
          · go_simp
            have hGs0 := hide (show w.heap.size ≤ wa.heap.size from HG.out.size)
            have hZs0 := hide (show Z < wa.heap.size from HZ.out.2.2)
            have lOp : gi < wa.heap.size := HO.out.lt
            have lDp : D < wa.heap.size := HD.out.2.2
            have lRp : R < wa.heap.size := HR.out.lt
            have HX : Hid (Row (wa.alloc (.cells #[.int .i64 0, .int .i64 0, .slice none 0 0] 25)) wa.heap.size _) := hide (Row.new wa _ 25)
            have HD := hide (HD.out.alloc (.cells #[.int .i64 0, .int .i64 0, .slice none 0 0] 25))
            have HZ := hide (HZ.out.alloc (.cells #[.int .i64 0, .int .i64 0, .slice none 0 0] 25))
            have HO := hide (HO.out.alloc (.cells #[.int .i64 0, .int .i64 0, .slice none 0 0] 25))
            have HR := hide (HR.out.alloc (.cells #[.int .i64 0, .int .i64 0, .slice none 0 0] 25))
            have HG := hide (grown_alloc HG.out (.cells #[.int .i64 0, .int .i64 0, .slice none 0 0] 25))
            refine hK.out _ _ (by exact ⟨HD.out.1 0, HD.out.1 1, HD.out.1 2⟩) (fun hHeld => ?_)
            clear hK K
            (try simp only [Act.put, List.setIfInBounds_toArray, List.set_cons_zero, List.set_cons_succ])
            have nXR : wa.heap.size ≠ R := by omega
            have nXD : wa.heap.size ≠ D := by omega
            have nXG : wa.heap.size ≠ gi := by omega
            have lRX : R < wa.heap.size := by omega
            have lWX : w.heap.size ≤ wa.heap.size := (by have := hGs0.out; omega)
            have nZX : Z ≠ wa.heap.size := (by have := hZs0.out; omega)
            have nDX : D ≠ wa.heap.size := nXD.symm
            have nGX : gi ≠ wa.heap.size := nXG.symm
            refine wpAnyH_ready (rs := [3]) (by kernel_rfl) (by simp) ?_
            refine (AllReadyH.cons (o := ⟨some 30, _, _, _, _, _⟩) rfl (fun K hK => ?_) AllReadyH.nil)
            have lDp := HD.out.2.2
            have lZp := HZ.out.2.2
            have lRp := HR.out.lt
            have lWp := HG.out.size
            have lXp := HX.out.2.2
            go_simp
            refine (specPacerPut gi m ci ea cr zs x _ HO.out Hm.out HV.out).mono ?_
            rintro e wd ⟨e', c', A', n', cp, b, rfl, hbd, hput⟩
            have HX := hide (HX.out.below hbd)
            have HP := hide (hput.old (lo' := D + 1) lXp (by omega))
            have HD := hide (HD.out.below hbd)
            have HZ := hide (HZ.out.below hbd)
            have HO := hide (HO.out.below hbd)
            have HR := hide (HR.out.below hbd)
            have HG := hide (grown_below HG.out hbd)
            clear hbd hput
            go_wp2_with fail
            refine hK.out _ _ (by exact ⟨HD.out.1 0, HD.out.1 1, HD.out.1 2⟩) (fun hHeld => ?_)
            clear hK K
            (try simp only [Act.put, List.setIfInBounds_toArray, List.set_cons_zero, List.set_cons_succ])
            refine wpAnyH_take (i := 4) (oi := ⟨some 26, _, _, _, _, _⟩) (v := ?vh7) rfl (by kernel_rfl) (by kernel_rfl) (by kernel_rfl) (fun _ _ _ h => h) (Or.inl ⟨by rfl, ?yh7⟩) (by assumption) ?_
            case yh7 => (intro w hSw; (try dsimp only at hSw); go_simp; (try with_reducible rfl))
            (try simp only [Act.put, List.setIfInBounds_toArray, List.set_cons_zero, List.set_cons_succ])
            refine wpAnyH_take (i := 5) (oi := ⟨some 31, _, _, _, _, _⟩) (v := ?vh8) rfl (by kernel_rfl) (by kernel_rfl) (by kernel_rfl) (fun _ _ _ h => h) (Or.inl ⟨by rfl, ?yh8⟩) (by assumption) ?_
            case yh8 => (intro w hSw; (try dsimp only at hSw); go_simp; (try with_reducible rfl))
            (try simp only [Act.put, List.setIfInBounds_toArray, List.set_cons_zero, List.set_cons_succ])
            refine wpAnyH_take (i := 6) (oi := ⟨some 32, _, _, _, _, _⟩) (v := ?vh9) rfl (by kernel_rfl) (by kernel_rfl) (by kernel_rfl) (fun _ _ _ h => h) (Or.inl ⟨by rfl, ?yh9⟩) (by assumption) ?_
            case yh9 => (intro w hSw; (try dsimp only at hSw); go_simp; (try with_reducible rfl))
            (try simp only [Act.put, List.setIfInBounds_toArray, List.set_cons_zero, List.set_cons_succ])
            refine wpAnyH_ready (rs := [8]) (by kernel_rfl) (by simp) ?_
            refine (AllReadyH.cons (o := ⟨none, _, _, _, _, _⟩) rfl (fun K hK => ?_) AllReadyH.nil)
            have RX := HX.out
            obtain ⟨cX, fX, lX⟩ := RX
            go_simp
            have HX := hide (((((Row.mk cX fX lX).set 0 (by simp) (.int .i64 e')).set 1 (by simp) (.int .i64 c')).set 2 (by simp) (.slice A' n' cp)).conv (cs' := #[.int .i64 e', .int .i64 c', .slice A' n' cp]) rfl)
            have HD := hide (((HD.out.far (a := ⟨wa.heap.size, 0, none⟩) nDX (.int .i64 e')).far (a := ⟨wa.heap.size, 1, none⟩) nDX (.int .i64 c')).far (a := ⟨wa.heap.size, 2, none⟩) nDX (.slice A' n' cp))
            have HZ := hide (((HZ.out.far (a := ⟨wa.heap.size, 0, none⟩) nZX (.int .i64 e')).far (a := ⟨wa.heap.size, 1, none⟩) nZX (.int .i64 c')).far (a := ⟨wa.heap.size, 2, none⟩) nZX (.slice A' n' cp))
            have HO := hide (((HO.out.far (a := ⟨wa.heap.size, 0, none⟩) nGX (.int .i64 e')).far (a := ⟨wa.heap.size, 1, none⟩) nGX (.int .i64 c')).far (a := ⟨wa.heap.size, 2, none⟩) nGX (.slice A' n' cp))
            have HR := hide (((HR.out.setCell (a := ⟨wa.heap.size, 0, none⟩) lRX (.int .i64 e')).setCell (a := ⟨wa.heap.size, 1, none⟩) lRX (.int .i64 c')).setCell (a := ⟨wa.heap.size, 2, none⟩) lRX (.slice A' n' cp))
            have HG := hide (grown_setCell (grown_setCell (grown_setCell HG.out (p := ⟨wa.heap.size, 0, none⟩) (.inr lWX) (.int .i64 e')) (p := ⟨wa.heap.size, 1, none⟩) (.inr lWX) (.int .i64 c')) (p := ⟨wa.heap.size, 2, none⟩) (.inr lWX) (.slice A' n' cp))
            have HP := hide (((HP.out.set 0 (.int .i64 e')).set 1 (.int .i64 c')).set 2 (.slice A' n' cp))
            refine hK.out _ _ (by exact ⟨HD.out.1 0, HD.out.1 1, HD.out.1 2⟩) (fun hHeld => ?_)
            clear hK K
            (try simp only [Act.put, List.setIfInBounds_toArray, List.set_cons_zero, List.set_cons_succ])
            refine wpAnyH_take (i := 9) (oi := ⟨some 7, _, _, _, _, _⟩) (v := ?vh10) rfl (by kernel_rfl) (by kernel_rfl) (by kernel_rfl) (fun _ _ _ h => h) (Or.inl ⟨by rfl, ?yh10⟩) (by assumption) ?_
            case yh10 => (intro w hSw; (try dsimp only at hSw); go_simp; (try with_reducible rfl))
            (try simp only [Act.put, List.setIfInBounds_toArray, List.set_cons_zero, List.set_cons_succ])
            refine wpAnyH_done (by kernel_rfl) ?_ _
            first | go_meet | (go_wp2_with fail; go_meet)
            exact ⟨wa.heap.size, e', c', A', n', cp, b, rfl, rfl, nXD, lWX, HX.out, HD.out, HZ.out, HO.out, HP.out, HR.out.more (by omega), HG.out⟩
        · go_simp
          have hGs0 := hide (show w.heap.size ≤ wr.heap.size from HG.out.size)
          have hZs0 := hide (show Z < wr.heap.size from HZ.out.2.2)
          have lOp : gi < wr.heap.size := HO.out.lt
          have lDp : D < wr.heap.size := HD.out.2.2
          have lRp : R < wr.heap.size := HR.out.lt
          have HX : Hid (Row (wr.drew.alloc (.cells #[.int .i64 0, .int .i64 0, .slice none 0 0] 25)) wr.heap.size _) := hide (Row.new wr.drew _ 25)
          have HD := hide (HD.out.alloc (.cells #[.int .i64 0, .int .i64 0, .slice none 0 0] 25))
          have HZ := hide (HZ.out.alloc (.cells #[.int .i64 0, .int .i64 0, .slice none 0 0] 25))
          have HO := hide (HO.out.alloc (.cells #[.int .i64 0, .int .i64 0, .slice none 0 0] 25))
          have HR := hide (HR.out.alloc (.cells #[.int .i64 0, .int .i64 0, .slice none 0 0] 25))
          have HG := hide (grown_alloc HG.out (.cells #[.int .i64 0, .int .i64 0, .slice none 0 0] 25))
          refine hK.out _ _ (by exact ⟨HD.out.1 0, HD.out.1 1, HD.out.1 2⟩) (fun hHeld => ?_)
          clear hK K
          (try simp only [Act.put, List.setIfInBounds_toArray, List.set_cons_zero, List.set_cons_succ])
          have nXR : wr.heap.size ≠ R := by omega
          have nXD : wr.heap.size ≠ D := by omega
          have nXG : wr.heap.size ≠ gi := by omega
          have lRX : R < wr.heap.size := by omega
          have lWX : w.heap.size ≤ wr.heap.size := (by have := hGs0.out; omega)
          have nZX : Z ≠ wr.heap.size := (by have := hZs0.out; omega)
          have nDX : D ≠ wr.heap.size := nXD.symm
          have nGX : gi ≠ wr.heap.size := nXG.symm
          refine wpAnyH_ready (rs := [2]) (by kernel_rfl) (by simp) ?_
          refine (AllReadyH.cons (o := ⟨some 29, _, _, _, _, _⟩) rfl (fun K hK => ?_) AllReadyH.nil)
          go_simp
          refine (l92Waiting_any B R _ _ HR.out (by omega)).mono ?_
          rintro e wa ⟨x, rfl, hrw, hgw⟩
          have HD := hide (HD.out.grown hgw nDR)
          have HZ := hide (HZ.out.grown hgw nZR)
          have HO := hide (HO.out.grown hgw nGR)
          have HR := hide hrw
          have HG := hide (grown_trans HG.out hgw)
          have HX := hide (HX.out.grown hgw nXR)
          clear hgw hrw
          go_wp2_with fail
          refine hK.out _ _ (by exact ⟨HD.out.1 0, HD.out.1 1, HD.out.1 2⟩) (fun hHeld => ?_)
          clear hK K
          (try simp only [Act.put, List.setIfInBounds_toArray, List.set_cons_zero, List.set_cons_succ])
          refine wpAnyH_ready (rs := [3]) (by kernel_rfl) (by simp) ?_
          refine (AllReadyH.cons (o := ⟨some 30, _, _, _, _, _⟩) rfl (fun K hK => ?_) AllReadyH.nil)
          have lDp := HD.out.2.2
          have lZp := HZ.out.2.2
          have lRp := HR.out.lt
          have lWp := HG.out.size
          have lXp := HX.out.2.2
          go_simp
          refine (specPacerPut gi m ci ea cr zs x _ HO.out Hm.out HV.out).mono ?_
          rintro e wd ⟨e', c', A', n', cp, b, rfl, hbd, hput⟩
          have HX := hide (HX.out.below hbd)
          have HP := hide (hput.old (lo' := D + 1) lXp (by omega))
          have HD := hide (HD.out.below hbd)
          have HZ := hide (HZ.out.below hbd)
          have HO := hide (HO.out.below hbd)
          have HR := hide (HR.out.below hbd)
          have HG := hide (grown_below HG.out hbd)
          clear hbd hput
          go_wp2_with fail
          refine hK.out _ _ (by exact ⟨HD.out.1 0, HD.out.1 1, HD.out.1 2⟩) (fun hHeld => ?_)
          clear hK K
          (try simp only [Act.put, List.setIfInBounds_toArray, List.set_cons_zero, List.set_cons_succ])
          refine wpAnyH_take (i := 4) (oi := ⟨some 26, _, _, _, _, _⟩) (v := ?vh11) rfl (by kernel_rfl) (by kernel_rfl) (by kernel_rfl) (fun _ _ _ h => h) (Or.inl ⟨by rfl, ?yh11⟩) (by assumption) ?_
          case yh11 => (intro w hSw; (try dsimp only at hSw); go_simp; (try with_reducible rfl))
          (try simp only [Act.put, List.setIfInBounds_toArray, List.set_cons_zero, List.set_cons_succ])
          refine wpAnyH_take (i := 5) (oi := ⟨some 31, _, _, _, _, _⟩) (v := ?vh12) rfl (by kernel_rfl) (by kernel_rfl) (by kernel_rfl) (fun _ _ _ h => h) (Or.inl ⟨by rfl, ?yh12⟩) (by assumption) ?_
          case yh12 => (intro w hSw; (try dsimp only at hSw); go_simp; (try with_reducible rfl))
          (try simp only [Act.put, List.setIfInBounds_toArray, List.set_cons_zero, List.set_cons_succ])
          refine wpAnyH_take (i := 6) (oi := ⟨some 32, _, _, _, _, _⟩) (v := ?vh13) rfl (by kernel_rfl) (by kernel_rfl) (by kernel_rfl) (fun _ _ _ h => h) (Or.inl ⟨by rfl, ?yh13⟩) (by assumption) ?_
          case yh13 => (intro w hSw; (try dsimp only at hSw); go_simp; (try with_reducible rfl))
          (try simp only [Act.put, List.setIfInBounds_toArray, List.set_cons_zero, List.set_cons_succ])
          refine wpAnyH_ready (rs := [8]) (by kernel_rfl) (by simp) ?_
          refine (AllReadyH.cons (o := ⟨none, _, _, _, _, _⟩) rfl (fun K hK => ?_) AllReadyH.nil)
          have RX := HX.out
          obtain ⟨cX, fX, lX⟩ := RX
          go_simp
          have HX := hide (((((Row.mk cX fX lX).set 0 (by simp) (.int .i64 e')).set 1 (by simp) (.int .i64 c')).set 2 (by simp) (.slice A' n' cp)).conv (cs' := #[.int .i64 e', .int .i64 c', .slice A' n' cp]) rfl)
          have HD := hide (((HD.out.far (a := ⟨wr.heap.size, 0, none⟩) nDX (.int .i64 e')).far (a := ⟨wr.heap.size, 1, none⟩) nDX (.int .i64 c')).far (a := ⟨wr.heap.size, 2, none⟩) nDX (.slice A' n' cp))
          have HZ := hide (((HZ.out.far (a := ⟨wr.heap.size, 0, none⟩) nZX (.int .i64 e')).far (a := ⟨wr.heap.size, 1, none⟩) nZX (.int .i64 c')).far (a := ⟨wr.heap.size, 2, none⟩) nZX (.slice A' n' cp))
          have HO := hide (((HO.out.far (a := ⟨wr.heap.size, 0, none⟩) nGX (.int .i64 e')).far (a := ⟨wr.heap.size, 1, none⟩) nGX (.int .i64 c')).far (a := ⟨wr.heap.size, 2, none⟩) nGX (.slice A' n' cp))
          have HR := hide (((HR.out.setCell (a := ⟨wr.heap.size, 0, none⟩) lRX (.int .i64 e')).setCell (a := ⟨wr.heap.size, 1, none⟩) lRX (.int .i64 c')).setCell (a := ⟨wr.heap.size, 2, none⟩) lRX (.slice A' n' cp))
          have HG := hide (grown_setCell (grown_setCell (grown_setCell HG.out (p := ⟨wr.heap.size, 0, none⟩) (.inr lWX) (.int .i64 e')) (p := ⟨wr.heap.size, 1, none⟩) (.inr lWX) (.int .i64 c')) (p := ⟨wr.heap.size, 2, none⟩) (.inr lWX) (.slice A' n' cp))
          have HP := hide (((HP.out.set 0 (.int .i64 e')).set 1 (.int .i64 c')).set 2 (.slice A' n' cp))
          refine hK.out _ _ (by exact ⟨HD.out.1 0, HD.out.1 1, HD.out.1 2⟩) (fun hHeld => ?_)
          clear hK K
          (try simp only [Act.put, List.setIfInBounds_toArray, List.set_cons_zero, List.set_cons_succ])
          refine wpAnyH_take (i := 9) (oi := ⟨some 7, _, _, _, _, _⟩) (v := ?vh14) rfl (by kernel_rfl) (by kernel_rfl) (by kernel_rfl) (fun _ _ _ h => h) (Or.inl ⟨by rfl, ?yh14⟩) (by assumption) ?_
          case yh14 => (intro w hSw; (try dsimp only at hSw); go_simp; (try with_reducible rfl))
          (try simp only [Act.put, List.setIfInBounds_toArray, List.set_cons_zero, List.set_cons_succ])
          refine wpAnyH_done (by kernel_rfl) ?_ _
          first | go_meet | (go_wp2_with fail; go_meet)
          exact ⟨wr.heap.size, e', c', A', n', cp, b, rfl, rfl, nXD, lWX, HX.out, HD.out, HZ.out, HO.out, HP.out, HR.out.more (by omega), HG.out⟩
      case rest =>
      obtain ⟨X, e', c', A', n', cp, b, rfl, rfl, nXD, lWX, ⟨cX, fX, lX⟩, ⟨cD, fD, lD⟩, rZ, oi, hp, hrq, gq⟩ := hcut
      have nDX : ¬ D = X := fun h => nXD h.symm
      have HZ := hide rZ
      have HO := hide oi
      have HP := hide hp
      have HR := hide hrq
      have HG := hide gq
      have RD := hide (Row.mk cD fD lD)
      clear rZ oi hp hrq gq HrZ Hoi hr0
      cases b
      · go_wp2_with fail
        go_roundw
        case rel => exact ⟨k + 1, m, gi, ci, zs, by go_num, by omega, Hm.out, HV.out, hgi, hgD, hgZ, HZ.out, RD.out, HO.out, HR.out.more (by omega), HG.out⟩
        case measure => simp [intOf]; omega
      · rcases HP.out with hno | ⟨rfl, rfl, g', zs', rfl, hl', hv', hlo, hgX, own'⟩
        · cases hno
        have OP := hide own'
        have HL' := hide hl'
        have HV' := hide hv'
        have nGD : g' ≠ D := by omega
        have nGZ : g' ≠ Z := by omega
        clear own' hl' hv' HP HO
        go_wp2_with fail
        go_roundw
        case rel => exact ⟨k + 1, n', g', cp, zs', by go_num, by omega, HL'.out, HV'.out, by omega, nGD, nGZ, (((HZ.out.far (by exact nZD) _).far (by exact nZD) _).far (by exact nZD) _), ((((RD.out.set 0 (by simp) (.int .i64 e')).set 1 (by simp) (.int .i64 c')).set 2 (by simp) (.slice (some ⟨g', 0, none⟩) n' cp)).conv (cs' := #[.int .i64 e', .int .i64 c', .slice (some ⟨g', 0, none⟩) n' cp]) rfl), (((OP.out.far (by exact nGD) _).far (by exact nGD) _).far (by exact nGD) _), ((((HR.out.setCell (by show R < D; omega) _).setCell (by show R < D; omega) _).setCell (by show R < D; omega) _).more (by omega)), grown_setCell (grown_setCell (grown_setCell HG.out (.inr hDw) _) (.inr hDw) _) (.inr hDw) _⟩
        case measure => simp [intOf]; omega
    · obtain ⟨cD, fD, lD⟩ := rD
      have RD := hide (Row.mk cD fD lD)
      go_wp2_with fail
      refine (pick_any B R _ 40 _ hr0 (by omega) (by omega) (by omega)).mono ?_
      rintro e wa ⟨t, rfl, ht0, ht1, -, hra, hga⟩
      have RD := hide (RD.out.grown hga nDR)
      have HrZ := hide (HrZ.out.grown hga nZR)
      have Hoi := hide (Hoi.out.grown hga nGR)
      have HG := hide (grown_trans HG.out hga)
      have Hra := hide hra
      clear hga hra hr0 cD fD lD
      have nGD : gi ≠ D := hgD
      by_cases h0 : t = 0
      · subst h0
        have lDa := RD.out.2.2
        have lOa := Hoi.out.lt
        go_wp2_with fail
        refine (pick_any B R _ 3 _ (Hra.out.alloc _) (by omega) (by omega) (by omega)).mono ?_
        rintro e wb ⟨y, rfl, hy0, hy1, -, hrb, hgb⟩
        have rE := (Row.new wa #[.int .i64 0, .int .i64 1, .int .i64 1501] 3).grown hgb (by omega)
        have rZ := (HrZ.out.alloc _).grown hgb nZR
        have rD := (RD.out.alloc _).grown hgb nDR
        have OB := hide ((Hoi.out.alloc _).grown hgb nGR)
        have GB := hide (grown_trans (grown_alloc HG.out _) hgb)
        clear hgb hrb HrZ RD Hoi HG Hra
        obtain ⟨E, hE⟩ : ∃ E, wa.heap.size = E := ⟨_, rfl⟩
        rw [hE] at rE lDa ⊢
        clear hE
        have nED : ¬ E = D := by omega
        have nDE : ¬ D = E := by omega
        obtain ⟨cZ, fZ, lZ⟩ := rZ
        obtain ⟨cD, fD, lD⟩ := rD
        obtain ⟨cE, fE, lE⟩ := rE
        rcases (show y = 0 ∨ y = 1 ∨ y = 2 by omega) with rfl | rfl | rfl
        all_goals (
          go_wp2_with fail
          refine bodyPost_ret (by first | (simp (maxDischargeDepth := 3) [results, Try.results30, go_sem, *]; done) | (simp (maxDischargeDepth := 3) [results, Try.results30, go_sem, *]; rfl) | (simp (maxDischargeDepth := 7) [results, Try.results30, go_sem, *]; done) | (simp (maxDischargeDepth := 7) [results, Try.results30, go_sem, *]; rfl)) rfl ?_
          exact drewPac_mk Hm.out hm12 hgi ((((OB.out.far (by exact hgD) _).far (by exact hgZ) _).far (by exact hgZ) _).far (by exact hgZ) _) (grown_setCell (grown_setCell (grown_setCell (grown_setCell GB.out (.inr hDw) _) (.inr hZw) _) (.inr hZw) _) (.inr hZw) _))
      · have e0 : (t == 0) = false := by simpa using h0
        clear h0
        by_cases h1 : t = 1
        · subst h1
          have lDa := RD.out.2.2
          have lOa := Hoi.out.lt
          go_wp2_with fail
          refine (pick_any B R _ 3 _ (Hra.out.alloc _) (by omega) (by omega) (by omega)).mono ?_
          rintro e wb ⟨y, rfl, hy0, hy1, -, hrb, hgb⟩
          have rE := (Row.new wa #[.int .i64 (-1), .int .i64 3000, .int .i64 3001] 3).grown hgb (by omega)
          have rZ := (HrZ.out.alloc _).grown hgb nZR
          have rD := (RD.out.alloc _).grown hgb nDR
          have OB := hide ((Hoi.out.alloc _).grown hgb nGR)
          have GB := hide (grown_trans (grown_alloc HG.out _) hgb)
          clear hgb hrb HrZ RD Hoi HG Hra
          obtain ⟨E, hE⟩ : ∃ E, wa.heap.size = E := ⟨_, rfl⟩
          rw [hE] at rE lDa ⊢
          clear hE
          have nED : ¬ E = D := by omega
          have nDE : ¬ D = E := by omega
          obtain ⟨cZ, fZ, lZ⟩ := rZ
          obtain ⟨cD, fD, lD⟩ := rD
          obtain ⟨cE, fE, lE⟩ := rE
          rcases (show y = 0 ∨ y = 1 ∨ y = 2 by omega) with rfl | rfl | rfl
          all_goals (
            go_wp2_with fail
            refine bodyPost_ret (by first | (simp (maxDischargeDepth := 3) [results, Try.results30, go_sem, *]; done) | (simp (maxDischargeDepth := 3) [results, Try.results30, go_sem, *]; rfl) | (simp (maxDischargeDepth := 7) [results, Try.results30, go_sem, *]; done) | (simp (maxDischargeDepth := 7) [results, Try.results30, go_sem, *]; rfl)) rfl ?_
            exact drewPac_mk Hm.out hm12 hgi ((((OB.out.far (by exact hgD) _).far (by exact hgZ) _).far (by exact hgZ) _).far (by exact hgZ) _) (grown_setCell (grown_setCell (grown_setCell (grown_setCell GB.out (.inr hDw) _) (.inr hZw) _) (.inr hZw) _) (.inr hZw) _))
        · have e1 : (t == 1) = false := by simpa using h1
          clear h1
          obtain ⟨cD, fD, lD⟩ := RD.out
          obtain ⟨cZ, fZ, lZ⟩ := HrZ.out
          go_wp2_with fail
          refine bodyPost_ret (by first | (simp (maxDischargeDepth := 3) [results, Try.results30, go_sem, *]; done) | (simp (maxDischargeDepth := 3) [results, Try.results30, go_sem, *]; rfl) | (simp (maxDischargeDepth := 7) [results, Try.results30, go_sem, *]; done) | (simp (maxDischargeDepth := 7) [results, Try.results30, go_sem, *]; rfl)) rfl ?_
          exact drewPac_mk Hm.out hm12 hgi (((Hoi.out.far (by exact hgZ) _).far (by exact hgZ) _).far (by exact hgZ) _) (grown_setCell (grown_setCell (grown_setCell HG.out (.inr hZw) _) (.inr hZw) _) (.inr hZw) _)
end Go.Proofs.Ytjbengphioankaa
