/- What l92Waiting draws. -/
import Derived.Test.YtjbengphioankaaX16
namespace Go.Proofs.Ytjbengphioankaa
open Go.ChangeShapes Go.WideShapes Go.ChangeAt Go.RowKit Go.Deep

def DrewWait (B R P : Nat) (w : World) (e : Ending) (w' : World) : Prop :=
  ∃ x : VWaiting, e = .returned (.agg #[.int .i64 x.a0, .int .i64 x.a1, .int .i64 x.a2]) ∧ Rd w' B R P ∧ w.grownBy w' (some R)
theorem drewWait_mk {B R P P' : Nat} {a b c : Int} {w w' : World} (h1 : Rd w' B R P') (hp : P' ≤ P) (h2 : w.grownBy w' (some R)) : DrewWait B R P w (.returned (.agg #[.int .i64 a, .int .i64 b, .int .i64 c])) w' :=
  ⟨⟨a, b, c⟩, rfl, h1.more hp, h2⟩
set_option maxRecDepth 10000 in
set_option maxHeartbeats 8000000 in
theorem l92Waiting_any (B R P : Nat) (w : World) (hr : Rd w B R P) (hP : P ≤ 1000) :
    Calls Try.prog 52 #[.pointer (some ⟨R, 0, none⟩)] w (DrewWait B R (P + 5) w) := by
  have lR := hr.lt
  have Hr := hide hr
  obtain ⟨Z, hZ⟩ : ∃ Z, w.heap.size = Z := ⟨_, rfl⟩
  have RZ := Row.new w #[.int .i64 0, .int .i64 0, .int .i64 0] 61
  clear hr
  go_enter Try.func52, Try.ntmps52
  go_wp2_with fail
  refine (pick_any B R P 100 _ (Hr.out.alloc _) (by omega) (by omega) (by omega)).mono ?_
  rintro e w1 ⟨a0, rfl, h00, h01, hs1, hr1, hg1⟩
  have RZ1 := RZ.grown hg1 (by omega)
  have G1 := hide (grown_trans (grown_alloc (World.grownBy.refl w (some R)) _) hg1)
  clear hg1 hs1 Hr
  obtain ⟨cZ, fZ, lZ⟩ := RZ1
  go_wp2_with fail
  refine (pick_any B R _ 3 _ hr1 (by omega) (by omega) (by omega)).mono ?_
  rintro e w2 ⟨a1, rfl, h10, h11, hs2, hr2, hg2⟩
  have RZ2 := (Row.mk cZ fZ lZ).grown hg2 (by omega)
  have G2 := hide (grown_trans G1.out hg2)
  clear hg2 hs2 hr1 G1 cZ fZ lZ
  obtain ⟨cZ, fZ, lZ⟩ := RZ2
  go_wp2_with fail
  refine (pick_any B R _ 250 _ hr2 (by omega) (by omega) (by omega)).mono ?_
  rintro e w3 ⟨a2, rfl, h20, h21, hs3, hr3, hg3⟩
  have RZ3 := (Row.mk cZ fZ lZ).grown hg3 (by omega)
  have G3 := hide (grown_trans G2.out hg3)
  clear hg3 hs3 hr2 G2 cZ fZ lZ
  have v1 : IntKind.i64.wrap (a2 * 4) = a2 * 4 := IntWalk.i64_in _ (by omega)
  have v2 : IntKind.i64.wrap (1 + a2 * 4) = 1 + a2 * 4 := IntWalk.i64_in _ (by omega)
  have Hr3 := hide hr3
  have RZh := hide RZ3
  clear hr3 RZ3
  go_wp2_with fail
  obtain ⟨s, hs⟩ : ∃ s, 1 + a2 * 4 = s := ⟨_, rfl⟩
  rw [hs]
  clear v1 v2 hs
  have F : ∃ (wx : World), wx = w3.alloc (.cells #[.int .i64 a0, .int .i64 a1, .int .i64 s] 61) := ⟨_, rfl⟩
  obtain ⟨wx, hwx⟩ := F
  have F2 : Row wx Z #[.int .i64 0, .int .i64 0, .int .i64 0] ∧ Row wx w3.heap.size #[.int .i64 a0, .int .i64 a1, .int .i64 s] ∧ Rd wx B R (P + 3) ∧ w.grownBy wx (some R) := by
    rw [hwx, ← hZ]
    exact ⟨RZh.out.alloc _, Row.new _ _ _, Hr3.out.alloc _, grown_alloc G3.out _⟩
  rw [← hwx]
  have lw3 : w.heap.size < w3.heap.size := RZh.out.2.2
  clear hwx RZh Hr3 G3 RZ
  obtain ⟨rZ, rD, hr4, G4⟩ := F2
  obtain ⟨D, hD⟩ : ∃ D, w3.heap.size = D := ⟨_, rfl⟩
  rw [hD] at rD lw3 ⊢
  clear hD
  have nDR : D ≠ R := by omega
  have nZR : Z ≠ R := by omega
  have nDZ : ¬ D = Z := by omega
  have nZD : ¬ Z = D := by omega
  have hDw : w.heap.size ≤ D := by omega
  have hZw : w.heap.size ≤ Z := by omega
  have lRZ : R < Z := by omega
  have lRD : R < D := by omega
  refine (pick_any B R _ 40 _ hr4 (by omega) (by omega) (by omega)).mono ?_
  rintro e w4 ⟨t, rfl, ht0, ht1, -, hr5, hg4⟩
  have rZ := rZ.grown hg4 nZR
  have rD := rD.grown hg4 nDR
  have G5 := grown_trans G4 hg4
  clear hg4 hr4 G4
  by_cases h0 : t = 0
  · subst h0
    have HR5 := hide hr5
    have HG5 := hide G5
    have HZ := hide rZ
    have HD := hide rD
    clear hr5 G5 rZ rD
    have lD4 := HD.out.2.2
    go_wp2_with fail
    refine (pick_any B R _ 3 _ (HR5.out.alloc _) (by omega) (by omega) (by omega)).mono ?_
    rintro e w5 ⟨y, rfl, hy0, hy1, -, hr6, hg5⟩
    have rE := (Row.new w4 #[.int .i64 0, .int .i64 1500, .int .i64 1501] 3).grown hg5 (by omega)
    have rZ := (HZ.out.alloc _).grown hg5 nZR
    have rD := (HD.out.alloc _).grown hg5 nDR
    have G6 := hide (grown_trans (grown_alloc HG5.out _) hg5)
    have HR6 := hide hr6
    clear hg5 hr6 HZ HD HG5 HR5
    obtain ⟨E, hE⟩ : ∃ E, w4.heap.size = E := ⟨_, rfl⟩
    rw [hE] at rE lD4 ⊢
    clear hE
    have nED : ¬ E = D := by omega
    have nDE : ¬ D = E := by omega
    obtain ⟨cZ, fZ, lZ⟩ := rZ
    obtain ⟨cD, fD, lD⟩ := rD
    obtain ⟨cE, fE, lE⟩ := rE
    rcases (show y = 0 ∨ y = 1 ∨ y = 2 by omega) with rfl | rfl | rfl
    all_goals (
      go_wp2_with fail
      refine bodyPost_ret (by first | (simp (maxDischargeDepth := 3) [results, Try.results52, go_sem, *]; done) | (simp (maxDischargeDepth := 3) [results, Try.results52, go_sem, *]; rfl) | (simp (maxDischargeDepth := 7) [results, Try.results52, go_sem, *]; done) | (simp (maxDischargeDepth := 7) [results, Try.results52, go_sem, *]; rfl)) rfl ?_
      exact drewWait_mk ((((HR6.out.setCell lRD _).setCell lRZ _).setCell lRZ _).setCell lRZ _) (by omega) (grown_setCell (grown_setCell (grown_setCell (grown_setCell G6.out (.inr hDw) _) (.inr hZw) _) (.inr hZw) _) (.inr hZw) _))
  · have e0 : (t == 0) = false := by simpa using h0
    clear h0
    obtain ⟨cZ, fZ, lZ⟩ := rZ
    obtain ⟨cD, fD, lD⟩ := rD
    have HR5 := hide hr5
    have HG5 := hide G5
    clear hr5 G5
    go_wp2_with fail
    refine bodyPost_ret (by first | (simp (maxDischargeDepth := 3) [results, Try.results52, go_sem, *]; done) | (simp (maxDischargeDepth := 3) [results, Try.results52, go_sem, *]; rfl) | (simp (maxDischargeDepth := 7) [results, Try.results52, go_sem, *]; done) | (simp (maxDischargeDepth := 7) [results, Try.results52, go_sem, *]; rfl)) rfl ?_
    exact drewWait_mk (((HR5.out.setCell lRZ _).setCell lRZ _).setCell lRZ _) (by omega) (grown_setCell (grown_setCell (grown_setCell HG5.out (.inr hZw) _) (.inr hZw) _) (.inr hZw) _)
end Go.Proofs.Ytjbengphioankaa
