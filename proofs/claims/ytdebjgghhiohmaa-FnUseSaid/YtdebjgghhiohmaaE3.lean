/- The contract of DelayUse, of the program and of the reference. -/
import Derived.Test.YtdebjgghhiohmaaI2
namespace Go.Proofs.Ytdebjgghhiohmaa
open Go.ChangeShapes Go.WideShapes Go.ChangeAt Go.RowKit

def trend (s c : List Int) : Int := c.getD (s.length - 1) 0 - s.getD (s.length - 1) 0 - c.getD 0 0 + s.getD 0 0
def useR (s c : List Int) : Int :=
  if s.length = c.length ∧ timesR s = true ∧ timesR c = true then (if 12 < trend s c then 1 else if trend s c < -12 then 2 else 0) else -1
theorem use_bad {s c : List Int} (h : ¬ (s.length = c.length ∧ timesR s = true ∧ timesR c = true)) : useR s c = -1 := if_neg h
set_option maxHeartbeats 1000000 in
theorem implUse_bad (A B : Option Addr) (c1 c2 : Nat) (s c : List Int) (w : World) (hA : IntsAt w A s) (hB : IntsAt w B c) (hm : s.length ≤ 1048576) (hm2 : c.length ≤ 1048576) (h : ¬ (s.length = c.length ∧ timesR s = true ∧ timesR c = true)) :
    Calls Try.prog 14 #[.slice A s.length c1, .slice B c.length c2] w (RetQ (.int .i64 (-1)) w) := by
  have HA := hide hA
  have HB := hide hB
  clear hA hB
  by_cases h1 : s.length = c.length
  · by_cases h2 : timesR s = true
    · have h3 : timesR c = false := by
        cases hx : timesR c
        · rfl
        · exact absurd ⟨h1, h2, hx⟩ h
      have g1 : ((s.length : Int) != (c.length : Int)) = false := by simp [h1]
      clear h h1
      go_enter Try.func14, Try.ntmps14
      go_wp2_with fail
      refine (timesValid_any A c1 s w HA.out (by omega)).mono ?_
      rintro e w' ⟨rfl, rfl⟩
      go_wp2_with fail
      refine (timesValid_any B c2 c _ HB.out (by omega)).mono ?_
      rintro e w' ⟨rfl, rfl⟩
      go_wp2_with fail
      go_ret
      exact ⟨rfl, 0, rfl⟩
    · have h3 : timesR s = false := by simpa using h2
      have g1 : ((s.length : Int) != (c.length : Int)) = false := by simp [h1]
      clear h h1 h2
      go_enter Try.func14, Try.ntmps14
      go_wp2_with fail
      refine (timesValid_any A c1 s w HA.out (by omega)).mono ?_
      rintro e w' ⟨rfl, rfl⟩
      go_wp2_with fail
      go_ret
      exact ⟨rfl, 0, rfl⟩
  · have g1 : ((s.length : Int) != (c.length : Int)) = true := by simp; omega
    clear h h1
    go_enter Try.func14, Try.ntmps14
    go_wp2_with fail
    go_ret
    exact ⟨rfl, 0, rfl⟩
theorem timesR_bd {s : List Int} (h : timesR s = true) : 1 ≤ s.length ∧ s.length ≤ 20 ∧ ∀ i, i < s.length → 0 ≤ s.getD i 0 ∧ s.getD i 0 ≤ 99999 := by
  have := of_decide_eq_true h
  exact ⟨this.1.1, this.1.2, fun i hi => ⟨(this.2 i hi).1, (this.2 i hi).2.1⟩⟩
theorem ints_cell {w : World} {A : Option Addr} {zs : List Int} (h : IntsAt w A zs) (h1 : 1 ≤ zs.length) : ∃ b off, A = some ⟨b, off, none⟩ ∧ ∀ i, i < zs.length → w.cell? ⟨b, off + i, none⟩ = some (.int .i64 (zs.getD i 0)) := by
  rcases h with rfl | ⟨b, off, hA, _, hc⟩
  · simp at h1
  · exact ⟨b, off, hA, hc⟩
/-- What is known of the ends of two lists of times. -/
theorem ends {s c : List Int} (h1 : s.length = c.length) (h2 : timesR s = true) (h3 : timesR c = true) (r : Int) (hr : r = useR s c) :
    1 ≤ s.length ∧ s.length ≤ 20 ∧ (0 ≤ s.getD 0 0 ∧ s.getD 0 0 ≤ 99999) ∧ (0 ≤ s.getD (s.length - 1) 0 ∧ s.getD (s.length - 1) 0 ≤ 99999) ∧ (0 ≤ c.getD 0 0 ∧ c.getD 0 0 ≤ 99999) ∧ (0 ≤ c.getD (s.length - 1) 0 ∧ c.getD (s.length - 1) 0 ≤ 99999) ∧
    r = (if 12 < c.getD (s.length - 1) 0 - s.getD (s.length - 1) 0 - c.getD 0 0 + s.getD 0 0 then 1 else if c.getD (s.length - 1) 0 - s.getD (s.length - 1) 0 - c.getD 0 0 + s.getD 0 0 < -12 then 2 else 0) := by
  obtain ⟨a1, a2, a3⟩ := timesR_bd h2
  obtain ⟨b1, b2, b3⟩ := timesR_bd h3
  refine ⟨a1, a2, a3 0 (by omega), a3 _ (by omega), b3 0 (by omega), b3 _ (by omega), ?_⟩
  rw [hr]
  exact if_pos ⟨h1, h2, h3⟩
set_option maxHeartbeats 1000000 in
theorem implUse_core (ba oa bb ob : Nat) (c1 c2 n : Nat) (s0 s1 c0 c9 r : Int) (w : World) (s c : List Int) (hA : IntsAt w (some ⟨ba, oa, none⟩) s) (hB : IntsAt w (some ⟨bb, ob, none⟩) c)
    (hs : s.length = n) (hc : c.length = n) (tA : timesR s = true) (tB : timesR c = true)
    (x1 : w.cell? ⟨ba, oa, none⟩ = some (.int .i64 s0)) (x2 : w.cell? ⟨ba, oa + (n - 1), none⟩ = some (.int .i64 s1)) (x3 : w.cell? ⟨bb, ob, none⟩ = some (.int .i64 c0)) (x4 : w.cell? ⟨bb, ob + (n - 1), none⟩ = some (.int .i64 c9))
    (a1 : 1 ≤ n) (a2 : n ≤ 20) (y1 : 0 ≤ s0 ∧ s0 ≤ 99999) (y2 : 0 ≤ s1 ∧ s1 ≤ 99999) (y3 : 0 ≤ c0 ∧ c0 ≤ 99999) (y4 : 0 ≤ c9 ∧ c9 ≤ 99999)
    (hr : r = (if 12 < c9 - s1 - c0 + s0 then 1 else if c9 - s1 - c0 + s0 < -12 then 2 else 0)) :
    Calls Try.prog 14 #[.slice (some ⟨ba, oa, none⟩) n c1, .slice (some ⟨bb, ob, none⟩) n c2] w (RetQ (.int .i64 r) w) := by
  have KA := timesValid_any (some ⟨ba, oa, none⟩) c1 s w hA (by omega)
  have KB := timesValid_any (some ⟨bb, ob, none⟩) c2 c w hB (by omega)
  rw [hs, tA] at KA
  rw [hc, tB] at KB
  have HKA := hide KA
  have HKB := hide KB
  clear KA KB hA hB hs hc tA tB
  have g3 : (n : Int) - 1 < (n : Int) := by omega
  have g4 : 0 ≤ (n : Int) - 1 := by omega
  have g5 : IntKind.i64.wrap ((n : Int) - 1) = (n : Int) - 1 := IntWalk.i64_in _ (by omega)
  have g6 : ((n : Int) - 1).toNat = n - 1 := by omega
  have g7 : (0 : Int) < (n : Int) := by omega
  obtain ⟨D1, hD1⟩ : ∃ a, a = c9 - s1 := ⟨_, rfl⟩
  obtain ⟨D0, hD0⟩ : ∃ a, a = c0 - s0 := ⟨_, rfl⟩
  obtain ⟨D, hD⟩ : ∃ a, a = D1 - D0 := ⟨_, rfl⟩
  have b1 : IntKind.i64.wrap (c9 - s1) = D1 := by rw [IntWalk.i64_in _ (by omega)]; omega
  have b2 : IntKind.i64.wrap (c0 - s0) = D0 := by rw [IntWalk.i64_in _ (by omega)]; omega
  have b3 : IntKind.i64.wrap (D1 - D0) = D := by rw [IntWalk.i64_in _ (by omega)]; omega
  have hr' : 12 < D ∧ r = 1 ∨ ¬ 12 < D ∧ D < -12 ∧ r = 2 ∨ ¬ 12 < D ∧ ¬ D < -12 ∧ r = 0 := by
    by_cases k1 : 12 < D
    · exact .inl ⟨k1, by rw [hr, if_pos (by omega)]⟩
    · by_cases k2 : D < -12
      · exact .inr (.inl ⟨k1, k2, by rw [hr, if_neg (by omega), if_pos (by omega)]⟩)
      · exact .inr (.inr ⟨k1, k2, by rw [hr, if_neg (by omega), if_neg (by omega)]⟩)
  clear hr hD1 hD0 hD
  go_enter Try.func14, Try.ntmps14
  go_wp2_with fail
  refine HKA.out.mono ?_
  rintro e w' ⟨rfl, rfl⟩
  go_wp2_with fail
  refine HKB.out.mono ?_
  rintro e w' ⟨rfl, rfl⟩
  go_wp2_with fail
  go_quiet (fail)
  clear b1 b2 b3 g5 g6
  rcases hr' with ⟨k1, rfl⟩ | ⟨k1, k2, rfl⟩ | ⟨k1, k2, rfl⟩
  all_goals
    go_wp2_with fail
    go_ret
    exact ⟨rfl, nq, rfl⟩
end Go.Proofs.Ytdebjgghhiohmaa
