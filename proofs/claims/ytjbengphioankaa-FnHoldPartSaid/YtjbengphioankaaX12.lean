/- What l92Buffer draws. -/
import Derived.Test.YtjbengphioankaaX11
namespace Go.Proofs.Ytjbengphioankaa
open Go.ChangeShapes Go.WideShapes Go.ChangeAt Go.RowKit Go.Deep

theorem own_fieldH {w : World} {g n c y j : Nat} {zs : List VHeld} (h : Own w 72 7 g n c (zs.map VHeld.cells).flatten) (hn : zs.length = n) (hj : j = 0 ∨ j = 6) (v : Int) (p : Addr) (hp : p = ⟨g, y * 7 + j, none⟩) :
    ∃ zs' : List VHeld, zs'.length = n ∧ Own (w.setCell p (.int .i64 v)) 72 7 g n c (zs'.map VHeld.cells).flatten := by
  subst hp
  have e := (flatHeld zs).set y j (by omega) (.int .i64 v)
  rcases hj with rfl | rfl
  · refine ⟨zs.modify y fun x => { x with a0 := v }, by simpa using hn, (h.set (y * 7 + 0) _).conv ?_⟩
    rw [e]
    congr 1
    apply List.ext_getElem?
    intro i
    simp only [List.getElem?_modify, List.getElem?_map]
    cases zs[i]? with
    | none => rfl
    | some x => by_cases hi : y = i <;> simp [hi, VHeld.cells]
  · refine ⟨zs.modify y fun x => { x with a6 := v }, by simpa using hn, (h.set (y * 7 + 6) _).conv ?_⟩
    rw [e]
    congr 1
    apply List.ext_getElem?
    intro i
    simp only [List.getElem?_modify, List.getElem?_map]
    cases zs[i]? with
    | none => rfl
    | some x => by_cases hi : y = i <;> simp [hi, VHeld.cells]
/-- What a draw of a buffer leaves. -/
def DrewBuf (_B R _P : Nat) (w : World) (e : Ending) (w' : World) : Prop :=
  ∃ nx dl g c zs now, e = .returned (.tuple #[.agg #[.int .i64 nx, .int .i64 dl, .slice (some ⟨g, 0, none⟩) (List.length zs) c], .int .i64 now]) ∧ zs.length ≤ 10 ∧ w.heap.size ≤ g ∧ Own w' 72 7 g zs.length c (zs.map VHeld.cells).flatten ∧ w.grownBy w' (some R)
theorem drewBuf_mk {B R P g c m : Nat} {nx dl now : Int} {zs : List VHeld} {w w' : World} (hm : zs.length = m) (h1 : m ≤ 10) (h2 : w.heap.size ≤ g) (h3 : Own w' 72 7 g m c (zs.map VHeld.cells).flatten) (h4 : w.grownBy w' (some R)) :
    DrewBuf B R P w (.returned (.tuple #[.agg #[.int .i64 nx, .int .i64 dl, .slice (some ⟨g, 0, none⟩) m c], .int .i64 now])) w' := by
  subst hm; exact ⟨nx, dl, g, c, zs, now, rfl, h1, h2, h3, h4⟩
set_option maxRecDepth 10000 in
set_option maxHeartbeats 8000000 in
theorem l92Buffer_any (B R : Nat) (w : World) (hr : Rd w B R 0) :
    Calls Try.prog 38 #[.pointer (some ⟨R, 0, none⟩)] w (DrewBuf B R 200 w) := by
  have lR := hr.lt
  have Hr := hide hr
  obtain ⟨Z, hZ⟩ : ∃ Z, w.heap.size = Z := ⟨_, rfl⟩
  have RZ := Row.new w #[.int .i64 0, .int .i64 0, .slice none 0 0] 38
  clear hr
  go_enter Try.func38, Try.ntmps38
  go_wp2_with fail
  refine (pick_any B R 0 10 _ (Hr.out.alloc _) (by omega) (by omega) (by omega)).mono ?_
  rintro e w1 ⟨nx, rfl, hn0, hn1, hs1, hr1, hg1⟩
  have RZ1 := RZ.grown hg1 (by omega)
  have G1 := hide (grown_trans (grown_alloc (World.grownBy.refl w (some R)) _) hg1)
  clear hg1 hs1 Hr
  obtain ⟨cZ, fZ, lZ⟩ := RZ1
  go_wp2_with fail
  refine (pick_any B R _ 4 _ hr1 (by omega) (by omega) (by omega)).mono ?_
  rintro e w2 ⟨dd, rfl, hd0, hd1, hs2, hr2, hg2⟩
  have RZ2 := (Row.mk cZ fZ lZ).grown hg2 (by omega)
  have G2 := hide (grown_trans G1.out hg2)
  clear hg2 hs2 hr1 G1 cZ fZ lZ
  have vd : IntKind.i64.wrap (20 * dd) = 20 * dd := IntWalk.i64_in _ (by omega)
  have Hr2 := hide hr2
  have RZh := hide RZ2
  clear hr2 RZ2
  go_wp2_with fail
  obtain ⟨dl, hdl⟩ : ∃ dl, 20 * dd = dl := ⟨_, rfl⟩
  rw [hdl]
  have hdl0 : 0 ≤ dl := by omega
  have hdl1 : dl ≤ 60 := by omega
  clear vd hdl
  have s2 := G2.out.size
  have F : ∃ (wx : World), wx = (w2.alloc (.cells #[] 72)).alloc (.cells #[.int .i64 nx, .int .i64 dl, .slice (some ⟨w2.heap.size, 0, none⟩) 0 0] 38) := ⟨_, rfl⟩
  obtain ⟨wx, hwx⟩ := F
  have F2 : Row wx Z #[.int .i64 0, .int .i64 0, .slice none 0 0] ∧ Row wx (w2.heap.size + 1) #[.int .i64 nx, .int .i64 dl, .slice (some ⟨w2.heap.size, 0, none⟩) 0 0] ∧ Own wx 72 7 w2.heap.size 0 0 (([] : List VHeld).map VHeld.cells).flatten ∧ Rd wx B R 2 ∧ w.grownBy wx (some R) := by
    rw [hwx, ← hZ]
    exact ⟨(RZh.out.alloc _).alloc _, Row.new1 _ _ _ _, (Own.new w2 #[] 72 7 0 (by unfold maxLen; omega) rfl).alloc _, (Hr2.out.alloc _).alloc _, grown_alloc (grown_alloc G2.out _) _⟩
  rw [← hwx]
  have l2Z : w.heap.size < w2.heap.size := RZh.out.2.2
  clear hwx RZh Hr2 G2 RZ
  obtain ⟨rZ, rD, oi, hr3, G3⟩ := F2
  obtain ⟨gi, hgi⟩ : ∃ gi, w2.heap.size = gi := ⟨_, rfl⟩
  rw [hgi] at rD oi l2Z ⊢
  obtain ⟨D, hD⟩ : ∃ D, gi + 1 = D := ⟨_, rfl⟩
  rw [hD] at rD ⊢
  clear hgi
  have nDR : D ≠ R := by omega
  have hDw : w.heap.size ≤ D := by omega
  have hZw : w.heap.size ≤ Z := by omega
  have nZR : Z ≠ R := by omega
  have nDZ : ¬ D = Z := by omega
  have nZD : ¬ Z = D := by omega
  refine (pick_any B R _ 50 _ hr3 (by omega) (by omega) (by omega)).mono ?_
  rintro e w4 ⟨nw, rfl, hw0, hw1, _, hr4, hg4⟩
  have rZ := rZ.grown hg4 (by omega)
  have rD := rD.grown hg4 nDR
  have oi := oi.grown hg4 (by omega)
  have G4 := grown_trans G3 hg4
  clear hg4 hr3 G3
  have Oi := hide oi
  have HrZ := hide rZ
  have HrD := hide rD
  clear oi rZ rD
  go_wp2_with fail
  refine (pick_any B R _ 9 _ hr4 (by omega) (by omega) (by omega)).mono ?_
  rintro e w5 ⟨n0, rfl, hq0, hq1, _, hr5, hg5⟩
  have HrZ := hide (HrZ.out.grown hg5 (by omega))
  have HrD := hide (HrD.out.grown hg5 nDR)
  have Oi := hide (Oi.out.grown hg5 (by omega))
  have G5 := grown_trans G4 hg5
  clear hg5 hr4 G4
  go_wp2_with fail
  refine (pick_any B R _ 16 _ hr5 (by omega) (by omega) (by omega)).mono ?_
  rintro e w6 ⟨t0, rfl, _, _, _, hr6, hg6⟩
  have HrZ := hide (HrZ.out.grown hg6 (by omega))
  have HrD := hide (HrD.out.grown hg6 nDR)
  have Oi := hide (Oi.out.grown hg6 (by omega))
  have G6 := hide (grown_trans G5 hg6)
  have Hr6 := hide hr6
  clear hg6 hr5 G5 hr6
  have hv0 : bufB nx dl [] = true := bufB_yes (n := 0) rfl (by unfold bufH; omega) (by omega) (fun i hi => by omega)
  have HV0 := hide hv0
  clear hv0
  go_upto_if 24 with (fail)
  go_cut [6] (fun s wx => ∃ n : Int, s = .int .i64 n ∧ 0 ≤ n ∧ n ≤ 14 ∧ wx = w6)
  case first =>
    by_cases h0 : t0 = 0
    · subst h0
      go_wp2_with fail
      go_meet
      exact ⟨14, rfl, by omega, by omega, rfl⟩
    · have e0 : (t0 == 0) = false := by simpa using h0
      clear h0
      go_wp2_with fail
      go_meet
      exact ⟨n0, rfl, by omega, by omega, rfl⟩
  case rest =>
  obtain ⟨n, rfl, hn0', hn14, rfl⟩ := hcut
  go_wp2_with fail
  go_loopw [5, 7] (fun v i wr => ∃ (k : Nat) (nw : Int) (m gi ci : Nat) (zs : List VHeld), v = .int .i64 nw ∧ i = .int .i64 k ∧ (k : Int) ≤ n ∧ 0 ≤ nw ∧ nw ≤ 49 + 11 * k ∧ zs.length = m ∧ bufB nx dl zs = true ∧ w.heap.size ≤ gi ∧ gi ≠ D ∧ gi ≠ Z ∧ Row wr Z #[.int .i64 0, .int .i64 0, .slice none 0 0] ∧ Row wr D #[.int .i64 nx, .int .i64 dl, .slice (some ⟨gi, 0, none⟩) m ci] ∧ Own wr 72 7 gi m ci (zs.map VHeld.cells).flatten ∧ Rd wr B R (5 + 4 * k) ∧ w.grownBy wr (some R)) (fun _ i _ => (n - intOf i).toNat)
  case atStart => exact ⟨0, nw, 0, gi, 0, [], rfl, rfl, by omega, by omega, by omega, rfl, HV0.out, by omega, by omega, by omega, HrZ.out, HrD.out, Oi.out, Hr6.out, G6.out⟩
  case round =>
    clear HrZ HrD Oi G6 Hr6 HV0
    obtain ⟨k, nw, m, gi, ci, zs, rfl, rfl, hk, hnw0, hnw1, hm, hv, hgi, hgD, hgZ, rZ, rD, oi, hr0, hG⟩ := hrel
    have Hm := hide hm
    have HV := hide hv
    have hm10 : m ≤ 10 := by have := (of_decide_eq_true hv).2.1; omega
    have Hoi := hide oi
    have HrZ := hide rZ
    have HG := hide hG
    have lD := rD.2.2
    clear hm hv oi rZ hG
    by_cases hk' : (k : Int) < n
    · obtain ⟨cD, fD, _⟩ := rD
      have rD := Row.mk cD fD lD
      have nGR : gi ≠ R := by omega
      go_upto_region 9 with (fail)
      go_cut [8, 9] (fun p q wx => ∃ (X g' c' m' : Nat) (zs' : List VHeld) (b : Int), p = .pointer (some ⟨X, 0, none⟩) ∧ q = .int .i64 b ∧ zs'.length = m' ∧ bufB nx dl zs' = true ∧ g' ≠ D ∧ g' ≠ Z ∧ g' ≠ R ∧ X ≠ D ∧ w.heap.size ≤ g' ∧ w.heap.size ≤ X ∧ Row wx X #[.int .i64 nx, .int .i64 dl, .slice (some ⟨g', 0, none⟩) m' c'] ∧ Row wx D #[.int .i64 nx, .int .i64 dl, .slice (some ⟨gi, 0, none⟩) m ci] ∧ Row wx Z #[.int .i64 0, .int .i64 0, .slice none 0 0] ∧ Own wx 72 7 g' m' c' (zs'.map VHeld.cells).flatten ∧ Rd wx B R (5 + 4 * k + 3) ∧ w.grownBy wx (some R))
      case first =>
        go_wp2_with fail
        refine wp_region_held_drew (S := fun w' => w'.cell? ⟨D, 0, none⟩ = some (.int .i64 nx) ∧ w'.cell? ⟨D, 1, none⟩ = some (.int .i64 dl) ∧ w'.cell? ⟨D, 2, none⟩ = some (.slice (some ⟨gi, 0, none⟩) m ci)) (by kernel_rfl) (by exact ⟨cD 0, cD 1, cD 2⟩) (fun hHeld => ?_)
        have HD := hide (Row.drew (Row.mk cD fD lD))
        have HZ := hide (Row.drew HrZ.out)
        have HO := hide (Own.drew Hoi.out)
        have HR := hide (Rd.drew hr0)
        have HG := hide (grown_drew HG.out)
        clear cD fD rD HrZ Hoi hr0
        refine wpAnyH_take (i := 0) (oi := ⟨some 31, _, _, _, _, _⟩) (v := ?vh1) rfl (by kernel_rfl) (by kernel_rfl) (by kernel_rfl) (fun _ _ _ h => h) (Or.inl ⟨by rfl, ?yh1⟩) (by assumption) ?_
        case yh1 => (intro w hSw; (try dsimp only at hSw); go_simp; (try with_reducible rfl))
        (try simp only [Act.put, List.setIfInBounds_toArray, List.set_cons_zero, List.set_cons_succ])
        refine wpAnyH_take (i := 1) (oi := ⟨some 32, _, _, _, _, _⟩) (v := ?vh2) rfl (by kernel_rfl) (by kernel_rfl) (by kernel_rfl) (fun _ _ _ h => h) (Or.inl ⟨by rfl, ?yh2⟩) (by assumption) ?_
        case yh2 => (intro w hSw; (try dsimp only at hSw); go_simp; (try with_reducible rfl))
        (try simp only [Act.put, List.setIfInBounds_toArray, List.set_cons_zero, List.set_cons_succ])
        refine wpAnyH_take (i := 2) (oi := ⟨some 33, _, _, _, _, _⟩) (v := ?vh3) rfl (by kernel_rfl) (by kernel_rfl) (by kernel_rfl) (fun _ _ _ h => h) (Or.inl ⟨by rfl, ?yh3⟩) (by assumption) ?_
        case yh3 => (intro w hSw; (try dsimp only at hSw); go_simp; (try with_reducible rfl))
        (try simp only [Act.put, List.setIfInBounds_toArray, List.set_cons_zero, List.set_cons_succ])
        refine wpAnyH_take (i := 3) (oi := ⟨some 34, _, _, _, _, _⟩) (v := ?vh4) rfl (by kernel_rfl) (by kernel_rfl) (by kernel_rfl) (fun _ _ _ h => h) (Or.inl ⟨by rfl, ?yh4⟩) (by assumption) ?_
        case yh4 => (intro w hSw; (try dsimp only at hSw); go_simp; (try with_reducible rfl))
        (try simp only [Act.put, List.setIfInBounds_toArray, List.set_cons_zero, List.set_cons_succ])
        refine wpAnyH_take (i := 6) (oi := ⟨some 37, _, _, _, _, _⟩) (v := ?vh5) rfl (by kernel_rfl) (by kernel_rfl) (by kernel_rfl) (fun _ _ _ h => h) (Or.inl ⟨by rfl, ?yh5⟩) (by assumption) ?_
        case yh5 => (intro w hSw; (try dsimp only at hSw); go_simp; (try with_reducible rfl))
        (try simp only [Act.put, List.setIfInBounds_toArray, List.set_cons_zero, List.set_cons_succ])
        refine wpAnyH_take (i := 11) (oi := ⟨some 42, _, _, _, _, _⟩) (v := ?vh6) rfl (by kernel_rfl) (by kernel_rfl) (by kernel_rfl) (fun _ _ _ h => h) (Or.inl ⟨by rfl, ?yh6⟩) (by assumption) ?_
        case yh6 => (intro w hSw; (try dsimp only at hSw); go_simp; (try with_reducible rfl))
        (try simp only [Act.put, List.setIfInBounds_toArray, List.set_cons_zero, List.set_cons_succ])
        refine wpAnyH_take (i := 15) (oi := ⟨some 46, _, _, _, _, _⟩) (v := ?vh7) rfl (by kernel_rfl) (by kernel_rfl) (by kernel_rfl) (fun _ _ _ h => h) (Or.inl ⟨by rfl, ?yh7⟩) (by assumption) ?_
        case yh7 => (intro w hSw; (try dsimp only at hSw); go_simp; (try with_reducible rfl))
        (try simp only [Act.put, List.setIfInBounds_toArray, List.set_cons_zero, List.set_cons_succ])
        refine wpAnyH_ready (rs := [4, 20]) (by kernel_rfl) (by simp) ?_
        refine AllReadyH.cons (o := ⟨some 35, _, _, _, _, _⟩) rfl (fun K hK => ?_) (AllReadyH.cons (o := ⟨some 8, _, _, _, _, _⟩) rfl (fun K hK => ?_) AllReadyH.nil)
        · go_simp
          refine (pick_any B R _ 8 _ HR.out (by omega) (by omega) (by omega)).mono ?_
          rintro e wa ⟨z1, rfl, hz10, hz11, hsq, hrw, hgw⟩
          clear hsq
          have HD := hide (HD.out.grown hgw nDR)
          have HZ := hide (HZ.out.grown hgw nZR)
          have HO := hide (HO.out.grown hgw nGR)
          have HR := hide hrw
          have HG := hide (grown_trans HG.out hgw)
          clear hgw hrw
          have v1 : IntKind.i64.wrap (nx + z1) = nx + z1 := IntWalk.i64_in _ (by omega)
          go_wp2_with fail
          refine hK.out _ _ (by exact ⟨HD.out.1 0, HD.out.1 1, HD.out.1 2⟩) (fun hHeld => ?_)
          clear hK K
          (try simp only [Act.put, List.setIfInBounds_toArray, List.set_cons_zero, List.set_cons_succ])
          refine wpAnyH_take (i := 5) (oi := ⟨some 36, _, _, _, _, _⟩) (v := ?vh8) rfl (by kernel_rfl) (by kernel_rfl) (by kernel_rfl) (fun _ _ _ h => h) (Or.inl ⟨by rfl, ?yh8⟩) (by assumption) ?_
          case yh8 => (intro w hSw; (try dsimp only at hSw); go_simp; (try with_reducible rfl))
          (try simp only [Act.put, List.setIfInBounds_toArray, List.set_cons_zero, List.set_cons_succ])
          refine wpAnyH_ready (rs := [7, 20]) (by kernel_rfl) (by simp) ?_
          refine AllReadyH.cons (o := ⟨some 38, _, _, _, _, _⟩) rfl (fun K hK => ?_) (AllReadyH.cons (o := ⟨some 8, _, _, _, _, _⟩) rfl (fun K hK => ?_) AllReadyH.nil)
          · go_simp
            refine (pick_any B R _ 14 _ HR.out (by omega) (by omega) (by omega)).mono ?_
            rintro e wb ⟨z2, rfl, hz20, hz21, hsq, hrw, hgw⟩
            clear hsq
            have HD := hide (HD.out.grown hgw nDR)
            have HZ := hide (HZ.out.grown hgw nZR)
            have HO := hide (HO.out.grown hgw nGR)
            have HR := hide hrw
            have HG := hide (grown_trans HG.out hgw)
            clear hgw hrw
            obtain ⟨y2, hy2⟩ : ∃ y, z2.tdiv 13 = y := ⟨_, rfl⟩
            have hy3 : 0 ≤ y2 ∧ y2 ≤ 1 := by rw [← hy2, Int.tdiv_eq_ediv_of_nonneg hz20]; omega
            have hy20 := hy3.1
            have hy21 := hy3.2
            have v2 : IntKind.i64.wrap (y2 * 9) = y2 * 9 := IntWalk.i64_in _ (by omega)
            have v4 : IntKind.i64.wrap y2 = y2 := IntWalk.i64_in _ (by omega)
            have v3 : IntKind.i64.wrap (nx + z1 + y2 * 9) = nx + z1 + y2 * 9 := IntWalk.i64_in _ (by omega)
            go_wp2_with fail
            refine hK.out _ _ (by exact ⟨HD.out.1 0, HD.out.1 1, HD.out.1 2⟩) (fun hHeld => ?_)
            clear hK K
            (try simp only [Act.put, List.setIfInBounds_toArray, List.set_cons_zero, List.set_cons_succ])
            refine wpAnyH_take (i := 8) (oi := ⟨some 39, _, _, _, _, _⟩) (v := ?vh9) rfl (by kernel_rfl) (by kernel_rfl) (by kernel_rfl) (fun _ _ _ h => h) (Or.inl ⟨by rfl, ?yh9⟩) (by assumption) ?_
            case yh9 => (intro w hSw; (try dsimp only at hSw); go_simp; (try with_reducible rfl))
            (try simp only [Act.put, List.setIfInBounds_toArray, List.set_cons_zero, List.set_cons_succ])
            refine wpAnyH_take (i := 9) (oi := ⟨some 40, _, _, _, _, _⟩) (v := ?vh10) rfl (by kernel_rfl) (by kernel_rfl) (by kernel_rfl) (fun _ _ _ h => h) (Or.inl ⟨by rfl, ?yh10⟩) (by assumption) ?_
            case yh10 => (intro w hSw; (try dsimp only at hSw); go_simp; (try with_reducible rfl))
            (try simp only [Act.put, List.setIfInBounds_toArray, List.set_cons_zero, List.set_cons_succ])
            refine wpAnyH_take (i := 10) (oi := ⟨some 41, _, _, _, _, _⟩) (v := ?vh11) rfl (by kernel_rfl) (by kernel_rfl) (by kernel_rfl) (fun _ _ _ h => h) (Or.inl ⟨by rfl, ?yh11⟩) (by assumption) ?_
            case yh11 => (intro w hSw; (try dsimp only at hSw); go_simp; (try with_reducible rfl))
            (try simp only [Act.put, List.setIfInBounds_toArray, List.set_cons_zero, List.set_cons_succ])
            refine wpAnyH_ready (rs := [12, 20]) (by kernel_rfl) (by simp) ?_
            refine AllReadyH.cons (o := ⟨some 43, _, _, _, _, _⟩) rfl (fun K hK => ?_) (AllReadyH.cons (o := ⟨some 8, _, _, _, _, _⟩) rfl (fun K hK => ?_) AllReadyH.nil)
            · go_simp
              refine (pick_any B R _ 9 _ HR.out (by omega) (by omega) (by omega)).mono ?_
              rintro e wc ⟨z3, rfl, hz30, hz31, hsq, hrw, hgw⟩
              clear hsq
              have HD := hide (HD.out.grown hgw nDR)
              have HZ := hide (HZ.out.grown hgw nZR)
              have HO := hide (HO.out.grown hgw nGR)
              have HR := hide hrw
              have HG := hide (grown_trans HG.out hgw)
              clear hgw hrw
              have v5 : IntKind.i64.wrap (30 * z3) = 30 * z3 := IntWalk.i64_in _ (by omega)
              go_wp2_with fail
              refine hK.out _ _ (by exact ⟨HD.out.1 0, HD.out.1 1, HD.out.1 2⟩) (fun hHeld => ?_)
              clear hK K
              (try simp only [Act.put, List.setIfInBounds_toArray, List.set_cons_zero, List.set_cons_succ])
              refine wpAnyH_take (i := 13) (oi := ⟨some 44, _, _, _, _, _⟩) (v := ?vh12) rfl (by kernel_rfl) (by kernel_rfl) (by kernel_rfl) (fun _ _ _ h => h) (Or.inl ⟨by rfl, ?yh12⟩) (by assumption) ?_
              case yh12 => (intro w hSw; (try dsimp only at hSw); go_simp; (try with_reducible rfl))
              (try simp only [Act.put, List.setIfInBounds_toArray, List.set_cons_zero, List.set_cons_succ])
              refine wpAnyH_take (i := 14) (oi := ⟨some 45, _, _, _, _, _⟩) (v := ?vh13) rfl (by kernel_rfl) (by kernel_rfl) (by kernel_rfl) (fun _ _ _ h => h) (Or.inl ⟨by rfl, ?yh13⟩) (by assumption) ?_
              case yh13 => (intro w hSw; (try dsimp only at hSw); go_simp; (try with_reducible rfl))
              (try simp only [Act.put, List.setIfInBounds_toArray, List.set_cons_zero, List.set_cons_succ])
              refine wpAnyH_ready (rs := [16, 20]) (by kernel_rfl) (by simp) ?_
              refine AllReadyH.cons (o := ⟨some 47, _, _, _, _, _⟩) rfl (fun K hK => ?_) (AllReadyH.cons (o := ⟨some 8, _, _, _, _, _⟩) rfl (fun K hK => ?_) AllReadyH.nil)
              · have lDp := HD.out.2.2
                have lZp := HZ.out.2.2
                have lRp := HR.out.lt
                have lWp := HG.out.size
                go_simp
                refine (specBufferPut gi m ci nx dl nw zs ⟨nx + z1 + y2 * 9, 30 * z3, 0, 10, false, false, nw⟩ _ HO.out Hm.out HV.out (decide_eq_true (by show _ ∧ _ ∧ _ ∧ _ ∧ _ ∧ _ ∧ _ ∧ _; exact ⟨by show 0 ≤ nx + z1 + y2 * 9; omega, by show nx + z1 + y2 * 9 ≤ 999999; omega, by show 0 ≤ 30 * z3; omega, by show 30 * z3 ≤ 99999; omega, by show (0 : Int) ≤ 0; decide, by show (0 : Int) ≤ 2; decide, by show (1 : Int) ≤ 10; decide, by show (10 : Int) ≤ 1500; decide⟩)) (by omega) rfl).mono ?_
                rintro e wd ⟨g', c', zs', kk, rfl, hv', hg', own', hbd⟩
                have hgD : g' ≠ D := by omega
                have hgZ : g' ≠ Z := by omega
                have hgR : g' ≠ R := by omega
                have hgW : w.heap.size ≤ g' := by omega
                have HD := hide (HD.out.below hbd)
                have HZ := hide (HZ.out.below hbd)
                have HP := hide own'
                have HR := hide (HR.out.below hbd)
                have HG := hide (grown_below HG.out hbd)
                have HV' := hide hv'
                clear hbd own' hv'
                go_wp2_with fail
                refine hK.out _ _ (by exact ⟨HD.out.1 0, HD.out.1 1, HD.out.1 2⟩) (fun hHeld => ?_)
                clear hK K
                (try simp only [Act.put, List.setIfInBounds_toArray, List.set_cons_zero, List.set_cons_succ])
                refine wpAnyH_take (i := 17) (oi := ⟨some 30, _, _, _, _, _⟩) (v := ?vh14) rfl (by kernel_rfl) (by kernel_rfl) (by kernel_rfl) (fun _ _ _ h => h) (Or.inl ⟨by rfl, ?yh14⟩) (by assumption) ?_
                case yh14 => (intro w hSw; (try dsimp only at hSw); go_simp; (try with_reducible rfl))
                (try simp only [Act.put, List.setIfInBounds_toArray, List.set_cons_zero, List.set_cons_succ])
                refine wpAnyH_take (i := 18) (oi := ⟨some 48, _, _, _, _, _⟩) (v := ?vh15) rfl (by kernel_rfl) (by kernel_rfl) (by kernel_rfl) (fun _ _ _ h => h) (Or.inl ⟨by rfl, ?yh15⟩) (by assumption) ?_
                case yh15 => (intro w hSw; (try dsimp only at hSw); go_simp; (try with_reducible rfl))
                (try simp only [Act.put, List.setIfInBounds_toArray, List.set_cons_zero, List.set_cons_succ])
                refine wpAnyH_take (i := 19) (oi := ⟨some 49, _, _, _, _, _⟩) (v := ?vh16) rfl (by kernel_rfl) (by kernel_rfl) (by kernel_rfl) (fun _ _ _ h => h) (Or.inl ⟨by rfl, ?yh16⟩) (by assumption) ?_
                case yh16 => (intro w hSw; (try dsimp only at hSw); go_simp; (try with_reducible rfl))
                (try simp only [Act.put, List.setIfInBounds_toArray, List.set_cons_zero, List.set_cons_succ])
                refine wpAnyH_ready (rs := [20]) (by kernel_rfl) (by simp) ?_
                refine AllReadyH.cons (o := ⟨some 8, _, _, _, _, _⟩) rfl (fun K hK => ?_) AllReadyH.nil
                go_simp
                have hGs0 := hide (show w.heap.size ≤ wd.heap.size from HG.out.size)
                have hZs0 := hide (show Z < wd.heap.size from HZ.out.2.2)
                have lDp := HD.out.2.2
                have lRp := HR.out.lt
                have HDo := HD
                have HZo := HZ
                have HPo := HP
                have HRo := HR
                have HGo := HG
                have HX : Hid (Row (wd.alloc (.cells #[.int .i64 0, .int .i64 0, .slice none 0 0] 38)) wd.heap.size _) := hide (Row.new wd _ 38)
                have HD := hide (HD.out.alloc (.cells #[.int .i64 0, .int .i64 0, .slice none 0 0] 38))
                have HZ := hide (HZ.out.alloc (.cells #[.int .i64 0, .int .i64 0, .slice none 0 0] 38))
                have HR := hide (HR.out.alloc (.cells #[.int .i64 0, .int .i64 0, .slice none 0 0] 38))
                have HG := hide (grown_alloc HG.out (.cells #[.int .i64 0, .int .i64 0, .slice none 0 0] 38))
                have lgp := HP.out.lt
                have HP := hide (HP.out.alloc (.cells #[.int .i64 0, .int .i64 0, .slice none 0 0] 38))
                refine hK.out _ _ (by exact ⟨HD.out.1 0, HD.out.1 1, HD.out.1 2⟩) (fun hHeld => ?_)
                clear hK K
                (try simp only [Act.put, List.setIfInBounds_toArray, List.set_cons_zero, List.set_cons_succ])
                have nXR : wd.heap.size ≠ R := by omega
                have nXD : wd.heap.size ≠ D := by omega
                have hgX : g' ≠ wd.heap.size := by omega
                have lRX : R < wd.heap.size := by omega
                have lWX : w.heap.size ≤ wd.heap.size := (by have := hGs0.out; omega)
                have nZX : Z ≠ wd.heap.size := (by have := hZs0.out; omega)
                have nDX : D ≠ wd.heap.size := nXD.symm
                refine wpAnyH_ready (rs := [21]) (by kernel_rfl) (by simp) ?_
                refine AllReadyH.cons (o := ⟨none, _, _, _, _, _⟩) rfl (fun K hK => ?_) AllReadyH.nil
                have RX := HX.out
                obtain ⟨cX, fX, lX⟩ := RX
                go_simp
                first
                  | (have HX := hide (((((Row.mk cX fX lX).set 0 (by simp) (.int .i64 nx)).set 1 (by simp) (.int .i64 dl)).set 2 (by simp) (.slice (some ⟨g', 0, none⟩) zs'.length c')).conv (cs' := #[.int .i64 nx, .int .i64 dl, .slice (some ⟨g', 0, none⟩) zs'.length c']) rfl); have nDX := nXD.symm; have HD := hide (((HD.out.far (a := ⟨wd.heap.size, 0, none⟩) nDX (.int .i64 nx)).far (a := ⟨wd.heap.size, 1, none⟩) nDX (.int .i64 dl)).far (a := ⟨wd.heap.size, 2, none⟩) nDX (.slice (some ⟨g', 0, none⟩) zs'.length c')); have HZ := hide (((HZ.out.far (a := ⟨wd.heap.size, 0, none⟩) nZX (.int .i64 nx)).far (a := ⟨wd.heap.size, 1, none⟩) nZX (.int .i64 dl)).far (a := ⟨wd.heap.size, 2, none⟩) nZX (.slice (some ⟨g', 0, none⟩) zs'.length c')); have HP := hide (((HP.out.far (a := ⟨wd.heap.size, 0, none⟩) hgX (.int .i64 nx)).far (a := ⟨wd.heap.size, 1, none⟩) hgX (.int .i64 dl)).far (a := ⟨wd.heap.size, 2, none⟩) hgX (.slice (some ⟨g', 0, none⟩) zs'.length c')); have HR := hide (((HR.out.setCell (a := ⟨wd.heap.size, 0, none⟩) lRX (.int .i64 nx)).setCell (a := ⟨wd.heap.size, 1, none⟩) lRX (.int .i64 dl)).setCell (a := ⟨wd.heap.size, 2, none⟩) lRX (.slice (some ⟨g', 0, none⟩) zs'.length c')); have HG := hide (grown_setCell (grown_setCell (grown_setCell HG.out (p := ⟨wd.heap.size, 0, none⟩) (.inr lWX) (.int .i64 nx)) (p := ⟨wd.heap.size, 1, none⟩) (.inr lWX) (.int .i64 dl)) (p := ⟨wd.heap.size, 2, none⟩) (.inr lWX) (.slice (some ⟨g', 0, none⟩) zs'.length c')); refine hK.out _ _ (by exact ⟨HD.out.1 0, HD.out.1 1, HD.out.1 2⟩) (fun hHeld => ?_))
                  | (have nDX := nXD.symm; have HX := hide (Row.new wd #[.int .i64 nx, .int .i64 dl, .slice (some ⟨g', 0, none⟩) zs'.length c'] 38); have HD := hide (HDo.out.alloc (.cells #[.int .i64 nx, .int .i64 dl, .slice (some ⟨g', 0, none⟩) zs'.length c'] 38)); have HZ := hide (HZo.out.alloc (.cells #[.int .i64 nx, .int .i64 dl, .slice (some ⟨g', 0, none⟩) zs'.length c'] 38)); have HP := hide (HPo.out.alloc (.cells #[.int .i64 nx, .int .i64 dl, .slice (some ⟨g', 0, none⟩) zs'.length c'] 38)); have HR := hide (HRo.out.alloc (.cells #[.int .i64 nx, .int .i64 dl, .slice (some ⟨g', 0, none⟩) zs'.length c'] 38)); have HG := hide (grown_alloc HGo.out (.cells #[.int .i64 nx, .int .i64 dl, .slice (some ⟨g', 0, none⟩) zs'.length c'] 38)); refine hK.out _ _ (by exact ⟨HD.out.1 0, HD.out.1 1, HD.out.1 2⟩) (fun hHeld => ?_))
                clear hK K
                (try simp only [Act.put, List.setIfInBounds_toArray, List.set_cons_zero, List.set_cons_succ])
                refine wpAnyH_take (i := 22) (oi := ⟨some 9, _, _, _, _, _⟩) (v := ?vh17) rfl (by kernel_rfl) (by kernel_rfl) (by kernel_rfl) (fun _ _ _ h => h) (Or.inl ⟨by rfl, ?yh17⟩) (by assumption) ?_
                case yh17 => (intro w hSw; (try dsimp only at hSw); go_simp; (try with_reducible rfl))
                (try simp only [Act.put, List.setIfInBounds_toArray, List.set_cons_zero, List.set_cons_succ])
                refine wpAnyH_done (by kernel_rfl) ?_ _
                first | go_meet | (go_wp2_with fail; go_meet)
                exact ⟨wd.heap.size, g', c', _, zs', kk, rfl, rfl, rfl, HV'.out, hgD, hgZ, hgR, nXD, hgW, lWX, HX.out, HD.out, HZ.out, HP.out, HR.out.more (by omega), HG.out⟩
              · go_simp
                have hGs0 := hide (show w.heap.size ≤ wc.heap.size from HG.out.size)
                have hZs0 := hide (show Z < wc.heap.size from HZ.out.2.2)
                have lDp := HD.out.2.2
                have lRp := HR.out.lt
                have HX : Hid (Row (wc.alloc (.cells #[.int .i64 0, .int .i64 0, .slice none 0 0] 38)) wc.heap.size _) := hide (Row.new wc _ 38)
                have HD := hide (HD.out.alloc (.cells #[.int .i64 0, .int .i64 0, .slice none 0 0] 38))
                have HZ := hide (HZ.out.alloc (.cells #[.int .i64 0, .int .i64 0, .slice none 0 0] 38))
                have HR := hide (HR.out.alloc (.cells #[.int .i64 0, .int .i64 0, .slice none 0 0] 38))
                have HG := hide (grown_alloc HG.out (.cells #[.int .i64 0, .int .i64 0, .slice none 0 0] 38))
                have HO := hide (HO.out.alloc (.cells #[.int .i64 0, .int .i64 0, .slice none 0 0] 38))
                refine hK.out _ _ (by exact ⟨HD.out.1 0, HD.out.1 1, HD.out.1 2⟩) (fun hHeld => ?_)
                clear hK K
                (try simp only [Act.put, List.setIfInBounds_toArray, List.set_cons_zero, List.set_cons_succ])
                have nXR : wc.heap.size ≠ R := by omega
                have nXD : wc.heap.size ≠ D := by omega
                have lRX : R < wc.heap.size := by omega
                have lWX : w.heap.size ≤ wc.heap.size := (by have := hGs0.out; omega)
                have nZX : Z ≠ wc.heap.size := (by have := hZs0.out; omega)
                have nDX : D ≠ wc.heap.size := nXD.symm
                refine wpAnyH_ready (rs := [16]) (by kernel_rfl) (by simp) ?_
                refine AllReadyH.cons (o := ⟨some 47, _, _, _, _, _⟩) rfl (fun K hK => ?_) AllReadyH.nil
                have lDp := HD.out.2.2
                have lZp := HZ.out.2.2
                have lRp := HR.out.lt
                have lWp := HG.out.size
                have lXp := HX.out.2.2
                go_simp
                refine (specBufferPut gi m ci nx dl nw zs ⟨nx + z1 + y2 * 9, 30 * z3, 0, 10, false, false, nw⟩ _ HO.out Hm.out HV.out (decide_eq_true (by show _ ∧ _ ∧ _ ∧ _ ∧ _ ∧ _ ∧ _ ∧ _; exact ⟨by show 0 ≤ nx + z1 + y2 * 9; omega, by show nx + z1 + y2 * 9 ≤ 999999; omega, by show 0 ≤ 30 * z3; omega, by show 30 * z3 ≤ 99999; omega, by show (0 : Int) ≤ 0; decide, by show (0 : Int) ≤ 2; decide, by show (1 : Int) ≤ 10; decide, by show (10 : Int) ≤ 1500; decide⟩)) (by omega) rfl).mono ?_
                rintro e wd ⟨g', c', zs', kk, rfl, hv', hg', own', hbd⟩
                have hgD : g' ≠ D := by omega
                have hgZ : g' ≠ Z := by omega
                have hgR : g' ≠ R := by omega
                have hgW : w.heap.size ≤ g' := by omega
                have hgX : g' ≠ wc.heap.size := by omega
                have HX := hide (HX.out.below hbd)
                have HD := hide (HD.out.below hbd)
                have HZ := hide (HZ.out.below hbd)
                have HP := hide own'
                have HR := hide (HR.out.below hbd)
                have HG := hide (grown_below HG.out hbd)
                have HV' := hide hv'
                clear hbd own' hv'
                go_wp2_with fail
                refine hK.out _ _ (by exact ⟨HD.out.1 0, HD.out.1 1, HD.out.1 2⟩) (fun hHeld => ?_)
                clear hK K
                (try simp only [Act.put, List.setIfInBounds_toArray, List.set_cons_zero, List.set_cons_succ])
                refine wpAnyH_take (i := 17) (oi := ⟨some 30, _, _, _, _, _⟩) (v := ?vh18) rfl (by kernel_rfl) (by kernel_rfl) (by kernel_rfl) (fun _ _ _ h => h) (Or.inl ⟨by rfl, ?yh18⟩) (by assumption) ?_
                case yh18 => (intro w hSw; (try dsimp only at hSw); go_simp; (try with_reducible rfl))
                (try simp only [Act.put, List.setIfInBounds_toArray, List.set_cons_zero, List.set_cons_succ])
                refine wpAnyH_take (i := 18) (oi := ⟨some 48, _, _, _, _, _⟩) (v := ?vh19) rfl (by kernel_rfl) (by kernel_rfl) (by kernel_rfl) (fun _ _ _ h => h) (Or.inl ⟨by rfl, ?yh19⟩) (by assumption) ?_
                case yh19 => (intro w hSw; (try dsimp only at hSw); go_simp; (try with_reducible rfl))
                (try simp only [Act.put, List.setIfInBounds_toArray, List.set_cons_zero, List.set_cons_succ])
                refine wpAnyH_take (i := 19) (oi := ⟨some 49, _, _, _, _, _⟩) (v := ?vh20) rfl (by kernel_rfl) (by kernel_rfl) (by kernel_rfl) (fun _ _ _ h => h) (Or.inl ⟨by rfl, ?yh20⟩) (by assumption) ?_
                case yh20 => (intro w hSw; (try dsimp only at hSw); go_simp; (try with_reducible rfl))
                (try simp only [Act.put, List.setIfInBounds_toArray, List.set_cons_zero, List.set_cons_succ])
                refine wpAnyH_ready (rs := [21]) (by kernel_rfl) (by simp) ?_
                refine AllReadyH.cons (o := ⟨none, _, _, _, _, _⟩) rfl (fun K hK => ?_) AllReadyH.nil
                have RX := HX.out
                obtain ⟨cX, fX, lX⟩ := RX
                go_simp
                have HX := hide (((((Row.mk cX fX lX).set 0 (by simp) (.int .i64 nx)).set 1 (by simp) (.int .i64 dl)).set 2 (by simp) (.slice (some ⟨g', 0, none⟩) zs'.length c')).conv (cs' := #[.int .i64 nx, .int .i64 dl, .slice (some ⟨g', 0, none⟩) zs'.length c']) rfl)
                clear cX fX lX
                have nDX := nXD.symm
                have HD := hide (((HD.out.far (a := ⟨wc.heap.size, 0, none⟩) nDX (.int .i64 nx)).far (a := ⟨wc.heap.size, 1, none⟩) nDX (.int .i64 dl)).far (a := ⟨wc.heap.size, 2, none⟩) nDX (.slice (some ⟨g', 0, none⟩) zs'.length c'))
                have HZ := hide (((HZ.out.far (a := ⟨wc.heap.size, 0, none⟩) nZX (.int .i64 nx)).far (a := ⟨wc.heap.size, 1, none⟩) nZX (.int .i64 dl)).far (a := ⟨wc.heap.size, 2, none⟩) nZX (.slice (some ⟨g', 0, none⟩) zs'.length c'))
                have HP := hide (((HP.out.far (a := ⟨wc.heap.size, 0, none⟩) hgX (.int .i64 nx)).far (a := ⟨wc.heap.size, 1, none⟩) hgX (.int .i64 dl)).far (a := ⟨wc.heap.size, 2, none⟩) hgX (.slice (some ⟨g', 0, none⟩) zs'.length c'))
                have HR := hide (((HR.out.setCell (a := ⟨wc.heap.size, 0, none⟩) lRX (.int .i64 nx)).setCell (a := ⟨wc.heap.size, 1, none⟩) lRX (.int .i64 dl)).setCell (a := ⟨wc.heap.size, 2, none⟩) lRX (.slice (some ⟨g', 0, none⟩) zs'.length c'))
                have HG := hide (grown_setCell (grown_setCell (grown_setCell HG.out (p := ⟨wc.heap.size, 0, none⟩) (.inr lWX) (.int .i64 nx)) (p := ⟨wc.heap.size, 1, none⟩) (.inr lWX) (.int .i64 dl)) (p := ⟨wc.heap.size, 2, none⟩) (.inr lWX) (.slice (some ⟨g', 0, none⟩) zs'.length c'))
                refine hK.out _ _ (by exact ⟨HD.out.1 0, HD.out.1 1, HD.out.1 2⟩) (fun hHeld => ?_)
                clear hK K
                (try simp only [Act.put, List.setIfInBounds_toArray, List.set_cons_zero, List.set_cons_succ])
                refine wpAnyH_take (i := 22) (oi := ⟨some 9, _, _, _, _, _⟩) (v := ?vh21) rfl (by kernel_rfl) (by kernel_rfl) (by kernel_rfl) (fun _ _ _ h => h) (Or.inl ⟨by rfl, ?yh21⟩) (by assumption) ?_
                case yh21 => (intro w hSw; (try dsimp only at hSw); go_simp; (try with_reducible rfl))
                (try simp only [Act.put, List.setIfInBounds_toArray, List.set_cons_zero, List.set_cons_succ])
                refine wpAnyH_done (by kernel_rfl) ?_ _
                first | go_meet | (go_wp2_with fail; go_meet)
                exact ⟨wc.heap.size, g', c', _, zs', kk, rfl, rfl, rfl, HV'.out, hgD, hgZ, hgR, nXD, hgW, lWX, HX.out, HD.out, HZ.out, HP.out, HR.out.more (by omega), HG.out⟩
            · go_simp
              have hGs0 := hide (show w.heap.size ≤ wb.heap.size from HG.out.size)
              have hZs0 := hide (show Z < wb.heap.size from HZ.out.2.2)
              have lDp := HD.out.2.2
              have lRp := HR.out.lt
              have HX : Hid (Row (wb.alloc (.cells #[.int .i64 0, .int .i64 0, .slice none 0 0] 38)) wb.heap.size _) := hide (Row.new wb _ 38)
              have HD := hide (HD.out.alloc (.cells #[.int .i64 0, .int .i64 0, .slice none 0 0] 38))
              have HZ := hide (HZ.out.alloc (.cells #[.int .i64 0, .int .i64 0, .slice none 0 0] 38))
              have HR := hide (HR.out.alloc (.cells #[.int .i64 0, .int .i64 0, .slice none 0 0] 38))
              have HG := hide (grown_alloc HG.out (.cells #[.int .i64 0, .int .i64 0, .slice none 0 0] 38))
              have HO := hide (HO.out.alloc (.cells #[.int .i64 0, .int .i64 0, .slice none 0 0] 38))
              refine hK.out _ _ (by exact ⟨HD.out.1 0, HD.out.1 1, HD.out.1 2⟩) (fun hHeld => ?_)
              clear hK K
              (try simp only [Act.put, List.setIfInBounds_toArray, List.set_cons_zero, List.set_cons_succ])
              have nXR : wb.heap.size ≠ R := by omega
              have nXD : wb.heap.size ≠ D := by omega
              have lRX : R < wb.heap.size := by omega
              have lWX : w.heap.size ≤ wb.heap.size := (by have := hGs0.out; omega)
              have nZX : Z ≠ wb.heap.size := (by have := hZs0.out; omega)
              have nDX : D ≠ wb.heap.size := nXD.symm
              refine wpAnyH_ready (rs := [12]) (by kernel_rfl) (by simp) ?_
              refine AllReadyH.cons (o := ⟨some 43, _, _, _, _, _⟩) rfl (fun K hK => ?_) AllReadyH.nil
              go_simp
              refine (pick_any B R _ 9 _ HR.out (by omega) (by omega) (by omega)).mono ?_
              rintro e wc ⟨z3, rfl, hz30, hz31, hsq, hrw, hgw⟩
              clear hsq
              have HD := hide (HD.out.grown hgw nDR)
              have HZ := hide (HZ.out.grown hgw nZR)
              have HO := hide (HO.out.grown hgw nGR)
              have HR := hide hrw
              have HG := hide (grown_trans HG.out hgw)
              have HX := hide (HX.out.grown hgw nXR)
              clear hgw hrw
              have v5 : IntKind.i64.wrap (30 * z3) = 30 * z3 := IntWalk.i64_in _ (by omega)
              go_wp2_with fail
              refine hK.out _ _ (by exact ⟨HD.out.1 0, HD.out.1 1, HD.out.1 2⟩) (fun hHeld => ?_)
              clear hK K
              (try simp only [Act.put, List.setIfInBounds_toArray, List.set_cons_zero, List.set_cons_succ])
              refine wpAnyH_take (i := 13) (oi := ⟨some 44, _, _, _, _, _⟩) (v := ?vh22) rfl (by kernel_rfl) (by kernel_rfl) (by kernel_rfl) (fun _ _ _ h => h) (Or.inl ⟨by rfl, ?yh22⟩) (by assumption) ?_
              case yh22 => (intro w hSw; (try dsimp only at hSw); go_simp; (try with_reducible rfl))
              (try simp only [Act.put, List.setIfInBounds_toArray, List.set_cons_zero, List.set_cons_succ])
              refine wpAnyH_take (i := 14) (oi := ⟨some 45, _, _, _, _, _⟩) (v := ?vh23) rfl (by kernel_rfl) (by kernel_rfl) (by kernel_rfl) (fun _ _ _ h => h) (Or.inl ⟨by rfl, ?yh23⟩) (by assumption) ?_
              case yh23 => (intro w hSw; (try dsimp only at hSw); go_simp; (try with_reducible rfl))
              (try simp only [Act.put, List.setIfInBounds_toArray, List.set_cons_zero, List.set_cons_succ])
              refine wpAnyH_ready (rs := [16]) (by kernel_rfl) (by simp) ?_
              refine AllReadyH.cons (o := ⟨some 47, _, _, _, _, _⟩) rfl (fun K hK => ?_) AllReadyH.nil
              have lDp := HD.out.2.2
              have lZp := HZ.out.2.2
              have lRp := HR.out.lt
              have lWp := HG.out.size
              have lXp := HX.out.2.2
              go_simp
              refine (specBufferPut gi m ci nx dl nw zs ⟨nx + z1 + y2 * 9, 30 * z3, 0, 10, false, false, nw⟩ _ HO.out Hm.out HV.out (decide_eq_true (by show _ ∧ _ ∧ _ ∧ _ ∧ _ ∧ _ ∧ _ ∧ _; exact ⟨by show 0 ≤ nx + z1 + y2 * 9; omega, by show nx + z1 + y2 * 9 ≤ 999999; omega, by show 0 ≤ 30 * z3; omega, by show 30 * z3 ≤ 99999; omega, by show (0 : Int) ≤ 0; decide, by show (0 : Int) ≤ 2; decide, by show (1 : Int) ≤ 10; decide, by show (10 : Int) ≤ 1500; decide⟩)) (by omega) rfl).mono ?_
              rintro e wd ⟨g', c', zs', kk, rfl, hv', hg', own', hbd⟩
              have hgD : g' ≠ D := by omega
              have hgZ : g' ≠ Z := by omega
              have hgR : g' ≠ R := by omega
              have hgW : w.heap.size ≤ g' := by omega
              have hgX : g' ≠ wb.heap.size := by omega
              have HX := hide (HX.out.below hbd)
              have HD := hide (HD.out.below hbd)
              have HZ := hide (HZ.out.below hbd)
              have HP := hide own'
              have HR := hide (HR.out.below hbd)
              have HG := hide (grown_below HG.out hbd)
              have HV' := hide hv'
              clear hbd own' hv'
              go_wp2_with fail
              refine hK.out _ _ (by exact ⟨HD.out.1 0, HD.out.1 1, HD.out.1 2⟩) (fun hHeld => ?_)
              clear hK K
              (try simp only [Act.put, List.setIfInBounds_toArray, List.set_cons_zero, List.set_cons_succ])
              refine wpAnyH_take (i := 17) (oi := ⟨some 30, _, _, _, _, _⟩) (v := ?vh24) rfl (by kernel_rfl) (by kernel_rfl) (by kernel_rfl) (fun _ _ _ h => h) (Or.inl ⟨by rfl, ?yh24⟩) (by assumption) ?_
              case yh24 => (intro w hSw; (try dsimp only at hSw); go_simp; (try with_reducible rfl))
              (try simp only [Act.put, List.setIfInBounds_toArray, List.set_cons_zero, List.set_cons_succ])
              refine wpAnyH_take (i := 18) (oi := ⟨some 48, _, _, _, _, _⟩) (v := ?vh25) rfl (by kernel_rfl) (by kernel_rfl) (by kernel_rfl) (fun _ _ _ h => h) (Or.inl ⟨by rfl, ?yh25⟩) (by assumption) ?_
              case yh25 => (intro w hSw; (try dsimp only at hSw); go_simp; (try with_reducible rfl))
              (try simp only [Act.put, List.setIfInBounds_toArray, List.set_cons_zero, List.set_cons_succ])
              refine wpAnyH_take (i := 19) (oi := ⟨some 49, _, _, _, _, _⟩) (v := ?vh26) rfl (by kernel_rfl) (by kernel_rfl) (by kernel_rfl) (fun _ _ _ h => h) (Or.inl ⟨by rfl, ?yh26⟩) (by assumption) ?_
              case yh26 => (intro w hSw; (try dsimp only at hSw); go_simp; (try with_reducible rfl))
              (try simp only [Act.put, List.setIfInBounds_toArray, List.set_cons_zero, List.set_cons_succ])
              refine wpAnyH_ready (rs := [21]) (by kernel_rfl) (by simp) ?_
              refine AllReadyH.cons (o := ⟨none, _, _, _, _, _⟩) rfl (fun K hK => ?_) AllReadyH.nil
              have RX := HX.out
              obtain ⟨cX, fX, lX⟩ := RX
              go_simp
              have HX := hide (((((Row.mk cX fX lX).set 0 (by simp) (.int .i64 nx)).set 1 (by simp) (.int .i64 dl)).set 2 (by simp) (.slice (some ⟨g', 0, none⟩) zs'.length c')).conv (cs' := #[.int .i64 nx, .int .i64 dl, .slice (some ⟨g', 0, none⟩) zs'.length c']) rfl)
              clear cX fX lX
              have nDX := nXD.symm
              have HD := hide (((HD.out.far (a := ⟨wb.heap.size, 0, none⟩) nDX (.int .i64 nx)).far (a := ⟨wb.heap.size, 1, none⟩) nDX (.int .i64 dl)).far (a := ⟨wb.heap.size, 2, none⟩) nDX (.slice (some ⟨g', 0, none⟩) zs'.length c'))
              have HZ := hide (((HZ.out.far (a := ⟨wb.heap.size, 0, none⟩) nZX (.int .i64 nx)).far (a := ⟨wb.heap.size, 1, none⟩) nZX (.int .i64 dl)).far (a := ⟨wb.heap.size, 2, none⟩) nZX (.slice (some ⟨g', 0, none⟩) zs'.length c'))
              have HP := hide (((HP.out.far (a := ⟨wb.heap.size, 0, none⟩) hgX (.int .i64 nx)).far (a := ⟨wb.heap.size, 1, none⟩) hgX (.int .i64 dl)).far (a := ⟨wb.heap.size, 2, none⟩) hgX (.slice (some ⟨g', 0, none⟩) zs'.length c'))
              have HR := hide (((HR.out.setCell (a := ⟨wb.heap.size, 0, none⟩) lRX (.int .i64 nx)).setCell (a := ⟨wb.heap.size, 1, none⟩) lRX (.int .i64 dl)).setCell (a := ⟨wb.heap.size, 2, none⟩) lRX (.slice (some ⟨g', 0, none⟩) zs'.length c'))
              have HG := hide (grown_setCell (grown_setCell (grown_setCell HG.out (p := ⟨wb.heap.size, 0, none⟩) (.inr lWX) (.int .i64 nx)) (p := ⟨wb.heap.size, 1, none⟩) (.inr lWX) (.int .i64 dl)) (p := ⟨wb.heap.size, 2, none⟩) (.inr lWX) (.slice (some ⟨g', 0, none⟩) zs'.length c'))
              refine hK.out _ _ (by exact ⟨HD.out.1 0, HD.out.1 1, HD.out.1 2⟩) (fun hHeld => ?_)
              clear hK K
              (try simp only [Act.put, List.setIfInBounds_toArray, List.set_cons_zero, List.set_cons_succ])
              refine wpAnyH_take (i := 22) (oi := ⟨some 9, _, _, _, _, _⟩) (v := ?vh27) rfl (by kernel_rfl) (by kernel_rfl) (by kernel_rfl) (fun _ _ _ h => h) (Or.inl ⟨by rfl, ?yh27⟩) (by assumption) ?_
              case yh27 => (intro w hSw; (try dsimp only at hSw); go_simp; (try with_reducible rfl))
              (try simp only [Act.put, List.setIfInBounds_toArray, List.set_cons_zero, List.set_cons_succ])
              refine wpAnyH_done (by kernel_rfl) ?_ _
              first | go_meet | (go_wp2_with fail; go_meet)
              exact ⟨wb.heap.size, g', c', _, zs', kk, rfl, rfl, rfl, HV'.out, hgD, hgZ, hgR, nXD, hgW, lWX, HX.out, HD.out, HZ.out, HP.out, HR.out.more (by omega), HG.out⟩
          · go_simp
            have hGs0 := hide (show w.heap.size ≤ wa.heap.size from HG.out.size)
            have hZs0 := hide (show Z < wa.heap.size from HZ.out.2.2)
            have lDp := HD.out.2.2
            have lRp := HR.out.lt
            have HX : Hid (Row (wa.alloc (.cells #[.int .i64 0, .int .i64 0, .slice none 0 0] 38)) wa.heap.size _) := hide (Row.new wa _ 38)
            have HD := hide (HD.out.alloc (.cells #[.int .i64 0, .int .i64 0, .slice none 0 0] 38))
            have HZ := hide (HZ.out.alloc (.cells #[.int .i64 0, .int .i64 0, .slice none 0 0] 38))
            have HR := hide (HR.out.alloc (.cells #[.int .i64 0, .int .i64 0, .slice none 0 0] 38))
            have HG := hide (grown_alloc HG.out (.cells #[.int .i64 0, .int .i64 0, .slice none 0 0] 38))
            have HO := hide (HO.out.alloc (.cells #[.int .i64 0, .int .i64 0, .slice none 0 0] 38))
            refine hK.out _ _ (by exact ⟨HD.out.1 0, HD.out.1 1, HD.out.1 2⟩) (fun hHeld => ?_)
            clear hK K
            (try simp only [Act.put, List.setIfInBounds_toArray, List.set_cons_zero, List.set_cons_succ])
            have nXR : wa.heap.size ≠ R := by omega
            have nXD : wa.heap.size ≠ D := by omega
            have lRX : R < wa.heap.size := by omega
            have lWX : w.heap.size ≤ wa.heap.size := (by have := hGs0.out; omega)
            have nZX : Z ≠ wa.heap.size := (by have := hZs0.out; omega)
            have nDX : D ≠ wa.heap.size := nXD.symm
            refine wpAnyH_ready (rs := [7]) (by kernel_rfl) (by simp) ?_
            refine AllReadyH.cons (o := ⟨some 38, _, _, _, _, _⟩) rfl (fun K hK => ?_) AllReadyH.nil
            go_simp
            refine (pick_any B R _ 14 _ HR.out (by omega) (by omega) (by omega)).mono ?_
            rintro e wb ⟨z2, rfl, hz20, hz21, hsq, hrw, hgw⟩
            clear hsq
            have HD := hide (HD.out.grown hgw nDR)
            have HZ := hide (HZ.out.grown hgw nZR)
            have HO := hide (HO.out.grown hgw nGR)
            have HR := hide hrw
            have HG := hide (grown_trans HG.out hgw)
            have HX := hide (HX.out.grown hgw nXR)
            clear hgw hrw
            obtain ⟨y2, hy2⟩ : ∃ y, z2.tdiv 13 = y := ⟨_, rfl⟩
            have hy3 : 0 ≤ y2 ∧ y2 ≤ 1 := by rw [← hy2, Int.tdiv_eq_ediv_of_nonneg hz20]; omega
            have hy20 := hy3.1
            have hy21 := hy3.2
            have v2 : IntKind.i64.wrap (y2 * 9) = y2 * 9 := IntWalk.i64_in _ (by omega)
            have v4 : IntKind.i64.wrap y2 = y2 := IntWalk.i64_in _ (by omega)
            have v3 : IntKind.i64.wrap (nx + z1 + y2 * 9) = nx + z1 + y2 * 9 := IntWalk.i64_in _ (by omega)
            go_wp2_with fail
            refine hK.out _ _ (by exact ⟨HD.out.1 0, HD.out.1 1, HD.out.1 2⟩) (fun hHeld => ?_)
            clear hK K
            (try simp only [Act.put, List.setIfInBounds_toArray, List.set_cons_zero, List.set_cons_succ])
            refine wpAnyH_take (i := 8) (oi := ⟨some 39, _, _, _, _, _⟩) (v := ?vh28) rfl (by kernel_rfl) (by kernel_rfl) (by kernel_rfl) (fun _ _ _ h => h) (Or.inl ⟨by rfl, ?yh28⟩) (by assumption) ?_
            case yh28 => (intro w hSw; (try dsimp only at hSw); go_simp; (try with_reducible rfl))
            (try simp only [Act.put, List.setIfInBounds_toArray, List.set_cons_zero, List.set_cons_succ])
            refine wpAnyH_take (i := 9) (oi := ⟨some 40, _, _, _, _, _⟩) (v := ?vh29) rfl (by kernel_rfl) (by kernel_rfl) (by kernel_rfl) (fun _ _ _ h => h) (Or.inl ⟨by rfl, ?yh29⟩) (by assumption) ?_
            case yh29 => (intro w hSw; (try dsimp only at hSw); go_simp; (try with_reducible rfl))
            (try simp only [Act.put, List.setIfInBounds_toArray, List.set_cons_zero, List.set_cons_succ])
            refine wpAnyH_take (i := 10) (oi := ⟨some 41, _, _, _, _, _⟩) (v := ?vh30) rfl (by kernel_rfl) (by kernel_rfl) (by kernel_rfl) (fun _ _ _ h => h) (Or.inl ⟨by rfl, ?yh30⟩) (by assumption) ?_
            case yh30 => (intro w hSw; (try dsimp only at hSw); go_simp; (try with_reducible rfl))
            (try simp only [Act.put, List.setIfInBounds_toArray, List.set_cons_zero, List.set_cons_succ])
            refine wpAnyH_ready (rs := [12]) (by kernel_rfl) (by simp) ?_
            refine AllReadyH.cons (o := ⟨some 43, _, _, _, _, _⟩) rfl (fun K hK => ?_) AllReadyH.nil
            go_simp
            refine (pick_any B R _ 9 _ HR.out (by omega) (by omega) (by omega)).mono ?_
            rintro e wc ⟨z3, rfl, hz30, hz31, hsq, hrw, hgw⟩
            clear hsq
            have HD := hide (HD.out.grown hgw nDR)
            have HZ := hide (HZ.out.grown hgw nZR)
            have HO := hide (HO.out.grown hgw nGR)
            have HR := hide hrw
            have HG := hide (grown_trans HG.out hgw)
            have HX := hide (HX.out.grown hgw nXR)
            clear hgw hrw
            have v5 : IntKind.i64.wrap (30 * z3) = 30 * z3 := IntWalk.i64_in _ (by omega)
            go_wp2_with fail
            refine hK.out _ _ (by exact ⟨HD.out.1 0, HD.out.1 1, HD.out.1 2⟩) (fun hHeld => ?_)
            clear hK K
            (try simp only [Act.put, List.setIfInBounds_toArray, List.set_cons_zero, List.set_cons_succ])
            refine wpAnyH_take (i := 13) (oi := ⟨some 44, _, _, _, _, _⟩) (v := ?vh31) rfl (by kernel_rfl) (by kernel_rfl) (by kernel_rfl) (fun _ _ _ h => h) (Or.inl ⟨by rfl, ?yh31⟩) (by assumption) ?_
            case yh31 => (intro w hSw; (try dsimp only at hSw); go_simp; (try with_reducible rfl))
            (try simp only [Act.put, List.setIfInBounds_toArray, List.set_cons_zero, List.set_cons_succ])
            refine wpAnyH_take (i := 14) (oi := ⟨some 45, _, _, _, _, _⟩) (v := ?vh32) rfl (by kernel_rfl) (by kernel_rfl) (by kernel_rfl) (fun _ _ _ h => h) (Or.inl ⟨by rfl, ?yh32⟩) (by assumption) ?_
            case yh32 => (intro w hSw; (try dsimp only at hSw); go_simp; (try with_reducible rfl))
            (try simp only [Act.put, List.setIfInBounds_toArray, List.set_cons_zero, List.set_cons_succ])
            refine wpAnyH_ready (rs := [16]) (by kernel_rfl) (by simp) ?_
            refine AllReadyH.cons (o := ⟨some 47, _, _, _, _, _⟩) rfl (fun K hK => ?_) AllReadyH.nil
            have lDp := HD.out.2.2
            have lZp := HZ.out.2.2
            have lRp := HR.out.lt
            have lWp := HG.out.size
            have lXp := HX.out.2.2
            go_simp
            refine (specBufferPut gi m ci nx dl nw zs ⟨nx + z1 + y2 * 9, 30 * z3, 0, 10, false, false, nw⟩ _ HO.out Hm.out HV.out (decide_eq_true (by show _ ∧ _ ∧ _ ∧ _ ∧ _ ∧ _ ∧ _ ∧ _; exact ⟨by show 0 ≤ nx + z1 + y2 * 9; omega, by show nx + z1 + y2 * 9 ≤ 999999; omega, by show 0 ≤ 30 * z3; omega, by show 30 * z3 ≤ 99999; omega, by show (0 : Int) ≤ 0; decide, by show (0 : Int) ≤ 2; decide, by show (1 : Int) ≤ 10; decide, by show (10 : Int) ≤ 1500; decide⟩)) (by omega) rfl).mono ?_
            rintro e wd ⟨g', c', zs', kk, rfl, hv', hg', own', hbd⟩
            have hgD : g' ≠ D := by omega
            have hgZ : g' ≠ Z := by omega
            have hgR : g' ≠ R := by omega
            have hgW : w.heap.size ≤ g' := by omega
            have hgX : g' ≠ wa.heap.size := by omega
            have HX := hide (HX.out.below hbd)
            have HD := hide (HD.out.below hbd)
            have HZ := hide (HZ.out.below hbd)
            have HP := hide own'
            have HR := hide (HR.out.below hbd)
            have HG := hide (grown_below HG.out hbd)
            have HV' := hide hv'
            clear hbd own' hv'
            go_wp2_with fail
            refine hK.out _ _ (by exact ⟨HD.out.1 0, HD.out.1 1, HD.out.1 2⟩) (fun hHeld => ?_)
            clear hK K
            (try simp only [Act.put, List.setIfInBounds_toArray, List.set_cons_zero, List.set_cons_succ])
            refine wpAnyH_take (i := 17) (oi := ⟨some 30, _, _, _, _, _⟩) (v := ?vh33) rfl (by kernel_rfl) (by kernel_rfl) (by kernel_rfl) (fun _ _ _ h => h) (Or.inl ⟨by rfl, ?yh33⟩) (by assumption) ?_
            case yh33 => (intro w hSw; (try dsimp only at hSw); go_simp; (try with_reducible rfl))
            (try simp only [Act.put, List.setIfInBounds_toArray, List.set_cons_zero, List.set_cons_succ])
            refine wpAnyH_take (i := 18) (oi := ⟨some 48, _, _, _, _, _⟩) (v := ?vh34) rfl (by kernel_rfl) (by kernel_rfl) (by kernel_rfl) (fun _ _ _ h => h) (Or.inl ⟨by rfl, ?yh34⟩) (by assumption) ?_
            case yh34 => (intro w hSw; (try dsimp only at hSw); go_simp; (try with_reducible rfl))
            (try simp only [Act.put, List.setIfInBounds_toArray, List.set_cons_zero, List.set_cons_succ])
            refine wpAnyH_take (i := 19) (oi := ⟨some 49, _, _, _, _, _⟩) (v := ?vh35) rfl (by kernel_rfl) (by kernel_rfl) (by kernel_rfl) (fun _ _ _ h => h) (Or.inl ⟨by rfl, ?yh35⟩) (by assumption) ?_
            case yh35 => (intro w hSw; (try dsimp only at hSw); go_simp; (try with_reducible rfl))
            (try simp only [Act.put, List.setIfInBounds_toArray, List.set_cons_zero, List.set_cons_succ])
            refine wpAnyH_ready (rs := [21]) (by kernel_rfl) (by simp) ?_
            refine AllReadyH.cons (o := ⟨none, _, _, _, _, _⟩) rfl (fun K hK => ?_) AllReadyH.nil
            have RX := HX.out
            obtain ⟨cX, fX, lX⟩ := RX
            go_simp
            have HX := hide (((((Row.mk cX fX lX).set 0 (by simp) (.int .i64 nx)).set 1 (by simp) (.int .i64 dl)).set 2 (by simp) (.slice (some ⟨g', 0, none⟩) zs'.length c')).conv (cs' := #[.int .i64 nx, .int .i64 dl, .slice (some ⟨g', 0, none⟩) zs'.length c']) rfl)
            clear cX fX lX
            have nDX := nXD.symm
            have HD := hide (((HD.out.far (a := ⟨wa.heap.size, 0, none⟩) nDX (.int .i64 nx)).far (a := ⟨wa.heap.size, 1, none⟩) nDX (.int .i64 dl)).far (a := ⟨wa.heap.size, 2, none⟩) nDX (.slice (some ⟨g', 0, none⟩) zs'.length c'))
            have HZ := hide (((HZ.out.far (a := ⟨wa.heap.size, 0, none⟩) nZX (.int .i64 nx)).far (a := ⟨wa.heap.size, 1, none⟩) nZX (.int .i64 dl)).far (a := ⟨wa.heap.size, 2, none⟩) nZX (.slice (some ⟨g', 0, none⟩) zs'.length c'))
            have HP := hide (((HP.out.far (a := ⟨wa.heap.size, 0, none⟩) hgX (.int .i64 nx)).far (a := ⟨wa.heap.size, 1, none⟩) hgX (.int .i64 dl)).far (a := ⟨wa.heap.size, 2, none⟩) hgX (.slice (some ⟨g', 0, none⟩) zs'.length c'))
            have HR := hide (((HR.out.setCell (a := ⟨wa.heap.size, 0, none⟩) lRX (.int .i64 nx)).setCell (a := ⟨wa.heap.size, 1, none⟩) lRX (.int .i64 dl)).setCell (a := ⟨wa.heap.size, 2, none⟩) lRX (.slice (some ⟨g', 0, none⟩) zs'.length c'))
            have HG := hide (grown_setCell (grown_setCell (grown_setCell HG.out (p := ⟨wa.heap.size, 0, none⟩) (.inr lWX) (.int .i64 nx)) (p := ⟨wa.heap.size, 1, none⟩) (.inr lWX) (.int .i64 dl)) (p := ⟨wa.heap.size, 2, none⟩) (.inr lWX) (.slice (some ⟨g', 0, none⟩) zs'.length c'))
            refine hK.out _ _ (by exact ⟨HD.out.1 0, HD.out.1 1, HD.out.1 2⟩) (fun hHeld => ?_)
            clear hK K
            (try simp only [Act.put, List.setIfInBounds_toArray, List.set_cons_zero, List.set_cons_succ])
            refine wpAnyH_take (i := 22) (oi := ⟨some 9, _, _, _, _, _⟩) (v := ?vh36) rfl (by kernel_rfl) (by kernel_rfl) (by kernel_rfl) (fun _ _ _ h => h) (Or.inl ⟨by rfl, ?yh36⟩) (by assumption) ?_
            case yh36 => (intro w hSw; (try dsimp only at hSw); go_simp; (try with_reducible rfl))
            (try simp only [Act.put, List.setIfInBounds_toArray, List.set_cons_zero, List.set_cons_succ])
            refine wpAnyH_done (by kernel_rfl) ?_ _
            first | go_meet | (go_wp2_with fail; go_meet)
            exact ⟨wa.heap.size, g', c', _, zs', kk, rfl, rfl, rfl, HV'.out, hgD, hgZ, hgR, nXD, hgW, lWX, HX.out, HD.out, HZ.out, HP.out, HR.out.more (by omega), HG.out⟩
        · go_simp
          have hGs0 := hide (show w.heap.size ≤ wr.heap.size from HG.out.size)
          have hZs0 := hide (show Z < wr.heap.size from HZ.out.2.2)
          have lDp := HD.out.2.2
          have lRp := HR.out.lt
          have HX : Hid (Row (wr.drew.alloc (.cells #[.int .i64 0, .int .i64 0, .slice none 0 0] 38)) wr.heap.size _) := hide (Row.new wr.drew _ 38)
          have HD := hide (HD.out.alloc (.cells #[.int .i64 0, .int .i64 0, .slice none 0 0] 38))
          have HZ := hide (HZ.out.alloc (.cells #[.int .i64 0, .int .i64 0, .slice none 0 0] 38))
          have HR := hide (HR.out.alloc (.cells #[.int .i64 0, .int .i64 0, .slice none 0 0] 38))
          have HG := hide (grown_alloc HG.out (.cells #[.int .i64 0, .int .i64 0, .slice none 0 0] 38))
          have HO := hide (HO.out.alloc (.cells #[.int .i64 0, .int .i64 0, .slice none 0 0] 38))
          refine hK.out _ _ (by exact ⟨HD.out.1 0, HD.out.1 1, HD.out.1 2⟩) (fun hHeld => ?_)
          clear hK K
          (try simp only [Act.put, List.setIfInBounds_toArray, List.set_cons_zero, List.set_cons_succ])
          have nXR : wr.heap.size ≠ R := by omega
          have nXD : wr.heap.size ≠ D := by omega
          have lRX : R < wr.heap.size := by omega
          have lWX : w.heap.size ≤ wr.heap.size := (by have := hGs0.out; omega)
          have nZX : Z ≠ wr.heap.size := (by have := hZs0.out; omega)
          have nDX : D ≠ wr.heap.size := nXD.symm
          refine wpAnyH_ready (rs := [4]) (by kernel_rfl) (by simp) ?_
          refine AllReadyH.cons (o := ⟨some 35, _, _, _, _, _⟩) rfl (fun K hK => ?_) AllReadyH.nil
          go_simp
          refine (pick_any B R _ 8 _ HR.out (by omega) (by omega) (by omega)).mono ?_
          rintro e wa ⟨z1, rfl, hz10, hz11, hsq, hrw, hgw⟩
          clear hsq
          have HD := hide (HD.out.grown hgw nDR)
          have HZ := hide (HZ.out.grown hgw nZR)
          have HO := hide (HO.out.grown hgw nGR)
          have HR := hide hrw
          have HG := hide (grown_trans HG.out hgw)
          have HX := hide (HX.out.grown hgw nXR)
          clear hgw hrw
          have v1 : IntKind.i64.wrap (nx + z1) = nx + z1 := IntWalk.i64_in _ (by omega)
          go_wp2_with fail
          refine hK.out _ _ (by exact ⟨HD.out.1 0, HD.out.1 1, HD.out.1 2⟩) (fun hHeld => ?_)
          clear hK K
          (try simp only [Act.put, List.setIfInBounds_toArray, List.set_cons_zero, List.set_cons_succ])
          refine wpAnyH_take (i := 5) (oi := ⟨some 36, _, _, _, _, _⟩) (v := ?vh37) rfl (by kernel_rfl) (by kernel_rfl) (by kernel_rfl) (fun _ _ _ h => h) (Or.inl ⟨by rfl, ?yh37⟩) (by assumption) ?_
          case yh37 => (intro w hSw; (try dsimp only at hSw); go_simp; (try with_reducible rfl))
          (try simp only [Act.put, List.setIfInBounds_toArray, List.set_cons_zero, List.set_cons_succ])
          refine wpAnyH_ready (rs := [7]) (by kernel_rfl) (by simp) ?_
          refine AllReadyH.cons (o := ⟨some 38, _, _, _, _, _⟩) rfl (fun K hK => ?_) AllReadyH.nil
          go_simp
          refine (pick_any B R _ 14 _ HR.out (by omega) (by omega) (by omega)).mono ?_
          rintro e wb ⟨z2, rfl, hz20, hz21, hsq, hrw, hgw⟩
          clear hsq
          have HD := hide (HD.out.grown hgw nDR)
          have HZ := hide (HZ.out.grown hgw nZR)
          have HO := hide (HO.out.grown hgw nGR)
          have HR := hide hrw
          have HG := hide (grown_trans HG.out hgw)
          have HX := hide (HX.out.grown hgw nXR)
          clear hgw hrw
          obtain ⟨y2, hy2⟩ : ∃ y, z2.tdiv 13 = y := ⟨_, rfl⟩
          have hy3 : 0 ≤ y2 ∧ y2 ≤ 1 := by rw [← hy2, Int.tdiv_eq_ediv_of_nonneg hz20]; omega
          have hy20 := hy3.1
          have hy21 := hy3.2
          have v2 : IntKind.i64.wrap (y2 * 9) = y2 * 9 := IntWalk.i64_in _ (by omega)
          have v4 : IntKind.i64.wrap y2 = y2 := IntWalk.i64_in _ (by omega)
          have v3 : IntKind.i64.wrap (nx + z1 + y2 * 9) = nx + z1 + y2 * 9 := IntWalk.i64_in _ (by omega)
          go_wp2_with fail
          refine hK.out _ _ (by exact ⟨HD.out.1 0, HD.out.1 1, HD.out.1 2⟩) (fun hHeld => ?_)
          clear hK K
          (try simp only [Act.put, List.setIfInBounds_toArray, List.set_cons_zero, List.set_cons_succ])
          refine wpAnyH_take (i := 8) (oi := ⟨some 39, _, _, _, _, _⟩) (v := ?vh38) rfl (by kernel_rfl) (by kernel_rfl) (by kernel_rfl) (fun _ _ _ h => h) (Or.inl ⟨by rfl, ?yh38⟩) (by assumption) ?_
          case yh38 => (intro w hSw; (try dsimp only at hSw); go_simp; (try with_reducible rfl))
          (try simp only [Act.put, List.setIfInBounds_toArray, List.set_cons_zero, List.set_cons_succ])
          refine wpAnyH_take (i := 9) (oi := ⟨some 40, _, _, _, _, _⟩) (v := ?vh39) rfl (by kernel_rfl) (by kernel_rfl) (by kernel_rfl) (fun _ _ _ h => h) (Or.inl ⟨by rfl, ?yh39⟩) (by assumption) ?_
          case yh39 => (intro w hSw; (try dsimp only at hSw); go_simp; (try with_reducible rfl))
          (try simp only [Act.put, List.setIfInBounds_toArray, List.set_cons_zero, List.set_cons_succ])
          refine wpAnyH_take (i := 10) (oi := ⟨some 41, _, _, _, _, _⟩) (v := ?vh40) rfl (by kernel_rfl) (by kernel_rfl) (by kernel_rfl) (fun _ _ _ h => h) (Or.inl ⟨by rfl, ?yh40⟩) (by assumption) ?_
          case yh40 => (intro w hSw; (try dsimp only at hSw); go_simp; (try with_reducible rfl))
          (try simp only [Act.put, List.setIfInBounds_toArray, List.set_cons_zero, List.set_cons_succ])
          refine wpAnyH_ready (rs := [12]) (by kernel_rfl) (by simp) ?_
          refine AllReadyH.cons (o := ⟨some 43, _, _, _, _, _⟩) rfl (fun K hK => ?_) AllReadyH.nil
          go_simp
          refine (pick_any B R _ 9 _ HR.out (by omega) (by omega) (by omega)).mono ?_
          rintro e wc ⟨z3, rfl, hz30, hz31, hsq, hrw, hgw⟩
          clear hsq
          have HD := hide (HD.out.grown hgw nDR)
          have HZ := hide (HZ.out.grown hgw nZR)
          have HO := hide (HO.out.grown hgw nGR)
          have HR := hide hrw
          have HG := hide (grown_trans HG.out hgw)
          have HX := hide (HX.out.grown hgw nXR)
          clear hgw hrw
          have v5 : IntKind.i64.wrap (30 * z3) = 30 * z3 := IntWalk.i64_in _ (by omega)
          go_wp2_with fail
          refine hK.out _ _ (by exact ⟨HD.out.1 0, HD.out.1 1, HD.out.1 2⟩) (fun hHeld => ?_)
          clear hK K
          (try simp only [Act.put, List.setIfInBounds_toArray, List.set_cons_zero, List.set_cons_succ])
          refine wpAnyH_take (i := 13) (oi := ⟨some 44, _, _, _, _, _⟩) (v := ?vh41) rfl (by kernel_rfl) (by kernel_rfl) (by kernel_rfl) (fun _ _ _ h => h) (Or.inl ⟨by rfl, ?yh41⟩) (by assumption) ?_
          case yh41 => (intro w hSw; (try dsimp only at hSw); go_simp; (try with_reducible rfl))
          (try simp only [Act.put, List.setIfInBounds_toArray, List.set_cons_zero, List.set_cons_succ])
          refine wpAnyH_take (i := 14) (oi := ⟨some 45, _, _, _, _, _⟩) (v := ?vh42) rfl (by kernel_rfl) (by kernel_rfl) (by kernel_rfl) (fun _ _ _ h => h) (Or.inl ⟨by rfl, ?yh42⟩) (by assumption) ?_
          case yh42 => (intro w hSw; (try dsimp only at hSw); go_simp; (try with_reducible rfl))
          (try simp only [Act.put, List.setIfInBounds_toArray, List.set_cons_zero, List.set_cons_succ])
          refine wpAnyH_ready (rs := [16]) (by kernel_rfl) (by simp) ?_
          refine AllReadyH.cons (o := ⟨some 47, _, _, _, _, _⟩) rfl (fun K hK => ?_) AllReadyH.nil
          have lDp := HD.out.2.2
          have lZp := HZ.out.2.2
          have lRp := HR.out.lt
          have lWp := HG.out.size
          have lXp := HX.out.2.2
          go_simp
          refine (specBufferPut gi m ci nx dl nw zs ⟨nx + z1 + y2 * 9, 30 * z3, 0, 10, false, false, nw⟩ _ HO.out Hm.out HV.out (decide_eq_true (by show _ ∧ _ ∧ _ ∧ _ ∧ _ ∧ _ ∧ _ ∧ _; exact ⟨by show 0 ≤ nx + z1 + y2 * 9; omega, by show nx + z1 + y2 * 9 ≤ 999999; omega, by show 0 ≤ 30 * z3; omega, by show 30 * z3 ≤ 99999; omega, by show (0 : Int) ≤ 0; decide, by show (0 : Int) ≤ 2; decide, by show (1 : Int) ≤ 10; decide, by show (10 : Int) ≤ 1500; decide⟩)) (by omega) rfl).mono ?_
          rintro e wd ⟨g', c', zs', kk, rfl, hv', hg', own', hbd⟩
          have hgD : g' ≠ D := by omega
          have hgZ : g' ≠ Z := by omega
          have hgR : g' ≠ R := by omega
          have hgW : w.heap.size ≤ g' := by omega
          have hgX : g' ≠ wr.heap.size := by omega
          have HX := hide (HX.out.below hbd)
          have HD := hide (HD.out.below hbd)
          have HZ := hide (HZ.out.below hbd)
          have HP := hide own'
          have HR := hide (HR.out.below hbd)
          have HG := hide (grown_below HG.out hbd)
          have HV' := hide hv'
          clear hbd own' hv'
          go_wp2_with fail
          refine hK.out _ _ (by exact ⟨HD.out.1 0, HD.out.1 1, HD.out.1 2⟩) (fun hHeld => ?_)
          clear hK K
          (try simp only [Act.put, List.setIfInBounds_toArray, List.set_cons_zero, List.set_cons_succ])
          refine wpAnyH_take (i := 17) (oi := ⟨some 30, _, _, _, _, _⟩) (v := ?vh43) rfl (by kernel_rfl) (by kernel_rfl) (by kernel_rfl) (fun _ _ _ h => h) (Or.inl ⟨by rfl, ?yh43⟩) (by assumption) ?_
          case yh43 => (intro w hSw; (try dsimp only at hSw); go_simp; (try with_reducible rfl))
          (try simp only [Act.put, List.setIfInBounds_toArray, List.set_cons_zero, List.set_cons_succ])
          refine wpAnyH_take (i := 18) (oi := ⟨some 48, _, _, _, _, _⟩) (v := ?vh44) rfl (by kernel_rfl) (by kernel_rfl) (by kernel_rfl) (fun _ _ _ h => h) (Or.inl ⟨by rfl, ?yh44⟩) (by assumption) ?_
          case yh44 => (intro w hSw; (try dsimp only at hSw); go_simp; (try with_reducible rfl))
          (try simp only [Act.put, List.setIfInBounds_toArray, List.set_cons_zero, List.set_cons_succ])
          refine wpAnyH_take (i := 19) (oi := ⟨some 49, _, _, _, _, _⟩) (v := ?vh45) rfl (by kernel_rfl) (by kernel_rfl) (by kernel_rfl) (fun _ _ _ h => h) (Or.inl ⟨by rfl, ?yh45⟩) (by assumption) ?_
          case yh45 => (intro w hSw; (try dsimp only at hSw); go_simp; (try with_reducible rfl))
          (try simp only [Act.put, List.setIfInBounds_toArray, List.set_cons_zero, List.set_cons_succ])
          refine wpAnyH_ready (rs := [21]) (by kernel_rfl) (by simp) ?_
          refine AllReadyH.cons (o := ⟨none, _, _, _, _, _⟩) rfl (fun K hK => ?_) AllReadyH.nil
          have RX := HX.out
          obtain ⟨cX, fX, lX⟩ := RX
          go_simp
          have HX := hide (((((Row.mk cX fX lX).set 0 (by simp) (.int .i64 nx)).set 1 (by simp) (.int .i64 dl)).set 2 (by simp) (.slice (some ⟨g', 0, none⟩) zs'.length c')).conv (cs' := #[.int .i64 nx, .int .i64 dl, .slice (some ⟨g', 0, none⟩) zs'.length c']) rfl)
          clear cX fX lX
          have nDX := nXD.symm
          have HD := hide (((HD.out.far (a := ⟨wr.heap.size, 0, none⟩) nDX (.int .i64 nx)).far (a := ⟨wr.heap.size, 1, none⟩) nDX (.int .i64 dl)).far (a := ⟨wr.heap.size, 2, none⟩) nDX (.slice (some ⟨g', 0, none⟩) zs'.length c'))
          have HZ := hide (((HZ.out.far (a := ⟨wr.heap.size, 0, none⟩) nZX (.int .i64 nx)).far (a := ⟨wr.heap.size, 1, none⟩) nZX (.int .i64 dl)).far (a := ⟨wr.heap.size, 2, none⟩) nZX (.slice (some ⟨g', 0, none⟩) zs'.length c'))
          have HP := hide (((HP.out.far (a := ⟨wr.heap.size, 0, none⟩) hgX (.int .i64 nx)).far (a := ⟨wr.heap.size, 1, none⟩) hgX (.int .i64 dl)).far (a := ⟨wr.heap.size, 2, none⟩) hgX (.slice (some ⟨g', 0, none⟩) zs'.length c'))
          have HR := hide (((HR.out.setCell (a := ⟨wr.heap.size, 0, none⟩) lRX (.int .i64 nx)).setCell (a := ⟨wr.heap.size, 1, none⟩) lRX (.int .i64 dl)).setCell (a := ⟨wr.heap.size, 2, none⟩) lRX (.slice (some ⟨g', 0, none⟩) zs'.length c'))
          have HG := hide (grown_setCell (grown_setCell (grown_setCell HG.out (p := ⟨wr.heap.size, 0, none⟩) (.inr lWX) (.int .i64 nx)) (p := ⟨wr.heap.size, 1, none⟩) (.inr lWX) (.int .i64 dl)) (p := ⟨wr.heap.size, 2, none⟩) (.inr lWX) (.slice (some ⟨g', 0, none⟩) zs'.length c'))
          refine hK.out _ _ (by exact ⟨HD.out.1 0, HD.out.1 1, HD.out.1 2⟩) (fun hHeld => ?_)
          clear hK K
          (try simp only [Act.put, List.setIfInBounds_toArray, List.set_cons_zero, List.set_cons_succ])
          refine wpAnyH_take (i := 22) (oi := ⟨some 9, _, _, _, _, _⟩) (v := ?vh46) rfl (by kernel_rfl) (by kernel_rfl) (by kernel_rfl) (fun _ _ _ h => h) (Or.inl ⟨by rfl, ?yh46⟩) (by assumption) ?_
          case yh46 => (intro w hSw; (try dsimp only at hSw); go_simp; (try with_reducible rfl))
          (try simp only [Act.put, List.setIfInBounds_toArray, List.set_cons_zero, List.set_cons_succ])
          refine wpAnyH_done (by kernel_rfl) ?_ _
          first | go_meet | (go_wp2_with fail; go_meet)
          exact ⟨wr.heap.size, g', c', _, zs', kk, rfl, rfl, rfl, HV'.out, hgD, hgZ, hgR, nXD, hgW, lWX, HX.out, HD.out, HZ.out, HP.out, HR.out.more (by omega), HG.out⟩
      case rest =>
      obtain ⟨E, g', c', m', zs', b, rfl, rfl, hm', hv', hgD2, hgZ2, hgR2, nED0, hgw2, hEw, ⟨cE, fE, lE⟩, rD2, rZ2, own2, hrq, gq⟩ := hcut
      have nED : ¬ E = D := nED0
      have nDE : ¬ D = E := fun h => nED0 h.symm
      have hl' : m' ≤ 10 := by have := (of_decide_eq_true hv').2.1; omega
      have HV' := hide hv'
      have Own2 := hide own2
      have RZ2 := hide rZ2
      have RD2 := hide rD2
      have Hrq := hide hrq
      have Gq := hide gq
      have Hm' := hide hm'
      clear own2 rZ2 rD2 hrq gq hv' hm' cD fD rD HrZ Hoi HG hr0
      obtain ⟨cD2, fD2, lD2⟩ := RD2.out
      go_wp2_with fail
      refine (pick_any B R _ 12 _ (((Hrq.out.setCell (by show R < D; omega) _).setCell (by show R < D; omega) _).setCell (by show R < D; omega) _) (by omega) (by omega) (by omega)).mono ?_
      rintro e wf ⟨z4, rfl, h40, h41, _, hrf, hgf⟩
      have RDf := hide ((((((Row.mk cD2 fD2 lD2).set 0 (by simp) (.int .i64 nx)).set 1 (by simp) (.int .i64 dl)).set 2 (by simp) (.slice (some ⟨g', 0, none⟩) m' c')).grown hgf nDR).conv (cs' := #[.int .i64 nx, .int .i64 dl, .slice (some ⟨g', 0, none⟩) m' c']) rfl)
      have RZf := hide ((((RZ2.out.far (by exact nZD) _).far (by exact nZD) _).far (by exact nZD) _).grown hgf nZR)
      have Ownf := hide ((((Own2.out.far (by exact hgD2) _).far (by exact hgD2) _).far (by exact hgD2) _).grown hgf hgR2)
      have Gf := hide (grown_trans (grown_setCell (grown_setCell (grown_setCell Gq.out (.inr hDw) _) (.inr hDw) _) (.inr hDw) _) hgf)
      have Hrf := hide (hrf.more (show 5 + 4 * k + 3 + 1 ≤ 5 + 4 * (k + 1) by omega))
      have v6 : IntKind.i64.wrap (nw + z4) = nw + z4 := IntWalk.i64_in _ (by omega)
      clear hrf hgf cD2 fD2 lD2 cE fE lE Own2 RZ2 RD2 Hrq Gq
      go_wp2_with fail
      go_roundw
      case rel => exact ⟨k + 1, nw + z4, m', g', c', zs', rfl, by go_num, by omega, by omega, by omega, Hm'.out, HV'.out, hgw2, hgD2, hgZ2, RZf.out, RDf.out, Ownf.out, Hrf.out, Gf.out⟩
      case measure => simp [intOf]; omega
    · obtain ⟨cD, fD, lD⟩ := rD
      obtain ⟨cZ, fZ, lZ⟩ := HrZ.out
      have hgR : gi ≠ R := by omega
      by_cases hm0 : m = 0
      · have g4 : ¬ (0 : Int) < (m : Int) := by omega
        have g5 : ¬ 0 < m := by omega
        have Hm0 := hide hm0
        clear hm0
        go_wp2_with fail
        refine bodyPost_ret (by first | (simp (maxDischargeDepth := 3) [results, Try.results38, go_sem, *]; done) | (simp (maxDischargeDepth := 3) [results, Try.results38, go_sem, *]; rfl) | (simp (maxDischargeDepth := 7) [results, Try.results38, go_sem, *]; done) | (simp (maxDischargeDepth := 7) [results, Try.results38, go_sem, *]; rfl)) rfl ?_
        exact drewBuf_mk Hm.out hm10 hgi (((Hoi.out.far (by exact hgZ) _).far (by exact hgZ) _).far (by exact hgZ) _) (grown_setCell (grown_setCell (grown_setCell HG.out (.inr hZw) _) (.inr hZw) _) (.inr hZw) _)
      · have g4 : (0 : Int) < (m : Int) := by omega
        go_wp2_with fail
        refine (pick_any B R _ (m : Int) _ hr0 (by omega) (by omega) (by omega)).mono ?_
        rintro e wa ⟨y, rfl, hy0, hy1, _, hra, hga⟩
        obtain ⟨y, rfl⟩ := Int.eq_ofNat_of_zero_le hy0
        have rDa := (Row.mk cD fD lD).grown hga nDR
        have rZa := (Row.mk cZ fZ lZ).grown hga nZR
        have Oa := hide (Hoi.out.grown hga hgR)
        have Ga := hide (grown_trans HG.out hga)
        clear hga cD fD lD cZ fZ lZ Hoi HG
        obtain ⟨cD, fD, lD⟩ := rDa
        go_wp2_with fail
        refine (pick_any B R _ 40 _ hra (by omega) (by omega) (by omega)).mono ?_
        rintro e wb ⟨tt, rfl, ht0, ht1, _, hrb, hgb⟩
        have rDb := (Row.mk cD fD lD).grown hgb nDR
        have rZb := rZa.grown hgb nZR
        have Ob := hide (Oa.out.grown hgb hgR)
        have Gb := hide (grown_trans Ga.out hgb)
        clear hgb cD fD lD Oa Ga hra rZa
        obtain ⟨cD, fD, lD⟩ := rDb
        obtain ⟨cZ, fZ, lZ⟩ := rZb
        have hyn : y < m := by omega
        have g6 : (y : Int) < (m : Int) := by omega
        obtain ⟨u0, q0⟩ := own_some Ob.out (show y * 7 < m * 7 by omega)
        obtain ⟨u6, q6⟩ := own_some Ob.out (show y * 7 + 6 < m * 7 by omega)
        have f0 := Ob.out.frozen (y * 7)
        have f6 := Ob.out.frozen (y * 7 + 6)
        have v7 : IntKind.i64.wrap (nx - 1) = nx - 1 := IntWalk.i64_in _ (by omega)
        have nDg : ¬ D = gi := fun h => hgD h.symm
        have nZg : ¬ Z = gi := fun h => hgZ h.symm
        have nGD : ¬ gi = D := hgD
        have nGZ : ¬ gi = Z := hgZ
        by_cases ht : tt = 0
        · subst ht
          obtain ⟨zs2, hz2, o2⟩ := own_fieldH (y := y) (j := 6) Ob.out Hm.out (.inr rfl) (-1) _ rfl
          have O2 := hide o2
          have Hz2 := hide hz2
          clear o2 hz2
          go_wp2_with fail
          refine bodyPost_ret (by first | (simp (maxDischargeDepth := 3) [results, Try.results38, go_sem, *]; done) | (simp (maxDischargeDepth := 3) [results, Try.results38, go_sem, *]; rfl) | (simp (maxDischargeDepth := 7) [results, Try.results38, go_sem, *]; done) | (simp (maxDischargeDepth := 7) [results, Try.results38, go_sem, *]; rfl)) rfl ?_
          exact drewBuf_mk Hz2.out hm10 hgi (((O2.out.far (by exact hgZ) _).far (by exact hgZ) _).far (by exact hgZ) _) (grown_setCell (grown_setCell (grown_setCell (grown_setCell Gb.out (.inr hgi) _) (.inr hZw) _) (.inr hZw) _) (.inr hZw) _)
        · have e0 : (tt == 0) = false := by simpa using ht
          by_cases ht1' : tt = 1
          · subst ht1'
            obtain ⟨zs2, hz2, o2⟩ := own_fieldH (y := y) (j := 0) Ob.out Hm.out (.inl rfl) (nx - 1) ⟨gi, y * 7, none⟩ rfl
            have O2 := hide o2
            have Hz2 := hide hz2
            clear o2 hz2 ht
            go_wp2_with fail
            refine bodyPost_ret (by first | (simp (maxDischargeDepth := 3) [results, Try.results38, go_sem, *]; done) | (simp (maxDischargeDepth := 3) [results, Try.results38, go_sem, *]; rfl) | (simp (maxDischargeDepth := 7) [results, Try.results38, go_sem, *]; done) | (simp (maxDischargeDepth := 7) [results, Try.results38, go_sem, *]; rfl)) rfl ?_
            exact drewBuf_mk Hz2.out hm10 hgi (((O2.out.far (by exact hgZ) _).far (by exact hgZ) _).far (by exact hgZ) _) (grown_setCell (grown_setCell (grown_setCell (grown_setCell Gb.out (.inr hgi) _) (.inr hZw) _) (.inr hZw) _) (.inr hZw) _)
          · have e1 : (tt == 1) = false := by simpa using ht1'
            clear ht ht1'
            go_wp2_with fail
            refine bodyPost_ret (by first | (simp (maxDischargeDepth := 3) [results, Try.results38, go_sem, *]; done) | (simp (maxDischargeDepth := 3) [results, Try.results38, go_sem, *]; rfl) | (simp (maxDischargeDepth := 7) [results, Try.results38, go_sem, *]; done) | (simp (maxDischargeDepth := 7) [results, Try.results38, go_sem, *]; rfl)) rfl ?_
            exact drewBuf_mk Hm.out hm10 hgi (((Ob.out.far (by exact hgZ) _).far (by exact hgZ) _).far (by exact hgZ) _) (grown_setCell (grown_setCell (grown_setCell Gb.out (.inr hZw) _) (.inr hZw) _) (.inr hZw) _)
end Go.Proofs.Ytjbengphioankaa
