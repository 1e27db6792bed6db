/- Contracts of DelayUse, of both; walks of the three laws on it. -/
import Derived.Test.YtdebjgghhiohmaaE11
namespace Go.Proofs.Ytdebjgghhiohmaa
open Go.ChangeShapes Go.WideShapes Go.ChangeAt Go.RowKit

theorem implUse_any (A B : Option Addr) (c1 c2 : Nat) (s c : List Int) (w : World) (hA : IntsAt w A s) (hB : IntsAt w B c) (hm : s.length ≤ 1048576) (hm2 : c.length ≤ 1048576) :
    Calls Try.prog 14 #[.slice A s.length c1, .slice B c.length c2] w (RetQ (.int .i64 (useR s c)) w) := by
  by_cases h : s.length = c.length ∧ timesR s = true ∧ timesR c = true
  · obtain ⟨h1, h2, h3⟩ := h
    obtain ⟨a1, a2, y1, y2, y3, y4, hr⟩ := ends h1 h2 h3 (useR s c) rfl
    obtain ⟨ba, oa, rfl, ca⟩ := ints_cell hA a1
    obtain ⟨bb, ob, rfl, cb⟩ := ints_cell hB (by omega)
    have := implUse_core ba oa bb ob c1 c2 s.length _ _ _ _ (useR s c) w s c hA hB rfl h1.symm h2 h3 (by simpa using ca 0 (by omega)) (ca (s.length - 1) (by omega)) (by simpa using cb 0 (by omega)) (cb (s.length - 1) (by omega)) a1 a2 y1 y2 y3 y4 hr
    rwa [← h1]
  · rw [use_bad h]
    exact implUse_bad A B c1 c2 s c w hA hB hm hm2 h
def ltR (s : List Int) : Bool := decide (okT s s.length ∧ s.length ≤ 20)
theorem times_lt (s : List Int) : timesR s = true ↔ 1 ≤ s.length ∧ ltR s = true := by
  unfold timesR ltR
  simp
  constructor
  · rintro ⟨⟨a, b⟩, c⟩; exact ⟨a, c, b⟩
  · rintro ⟨a, c, b⟩; exact ⟨⟨a, b⟩, c⟩
theorem drewN_two {w : World} {v : Value} {a b : Nat} {e : Ending} (h : e = .returned v) : RetQ v w e ((w.drewN a).drewN b) := ⟨h, a + b, by rw [World.drewN_drewN]⟩
set_option maxHeartbeats 1000000 in
theorem specUse_bad (A B : Option Addr) (c1 c2 : Nat) (s c : List Int) (w : World) (hA : IntsAt w A s) (hB : IntsAt w B c) (hm : s.length ≤ 1048576) (hm2 : c.length ≤ 1048576) (h : ¬ (s.length = c.length ∧ timesR s = true ∧ timesR c = true)) :
    Calls Try.prog 12 #[.slice A s.length c1, .slice B c.length c2] w (RetQ (.int .i64 (-1)) w) := by
  have HA := hide hA
  have HB := hide hB
  clear hA hB
  by_cases h1 : ltR s = true
  · by_cases h2 : ltR c = true
    · have h3 : s.length = 0 ∨ ¬ s.length = 0 ∧ s.length ≠ c.length := by
        by_cases h0 : s.length = 0
        · exact .inl h0
        · refine .inr ⟨h0, fun he => h ⟨he, (times_lt s).2 ⟨by omega, h1⟩, (times_lt c).2 ⟨by omega, h2⟩⟩⟩
      clear h
      have h4 : ((s.length : Int) == 0) = true ∨ ((s.length : Int) == 0) = false ∧ ((s.length : Int) != (c.length : Int)) = true := by
        rcases h3 with h3 | ⟨h3, h4⟩
        · exact .inl (by simp [h3])
        · exact .inr ⟨by simp only [beq_eq_false_iff_ne, ne_eq]; omega, by simp only [bne_iff_ne, ne_eq]; omega⟩
      clear h3
      have K1 := hide (l21Times_any A c1 s w HA.out (by omega))
      have K2 := hide (fun n => l21Times_any B c2 c (w.drewN n) HB.out (by omega))
      unfold ltR at h1 h2
      rw [h1] at K1
      rw [h2] at K2
      clear h1 h2
      rcases h4 with h4 | ⟨h4, h5⟩
      all_goals
        go_enter Try.func12, Try.ntmps12
        go_wp2_with fail
        refine K1.out.mono ?_
        rintro e w' ⟨rfl, n1, rfl⟩
        go_wp2_with fail
        refine (K2.out n1).mono ?_
        rintro e w' ⟨rfl, n2, rfl⟩
        go_wp2_with fail
        go_ret
        exact ⟨rfl, n1 + n2, by simp⟩
    · have h2' : ltR c = false := by simpa using h2
      have K1 := hide (l21Times_any A c1 s w HA.out (by omega))
      have K2 := hide (fun n => l21Times_any B c2 c (w.drewN n) HB.out (by omega))
      unfold ltR at h1 h2'
      rw [h1] at K1
      rw [h2'] at K2
      clear h1 h2 h2' h
      go_enter Try.func12, Try.ntmps12
      go_wp2_with fail
      refine K1.out.mono ?_
      rintro e w' ⟨rfl, n1, rfl⟩
      go_wp2_with fail
      refine (K2.out n1).mono ?_
      rintro e w' ⟨rfl, n2, rfl⟩
      go_wp2_with fail
      go_ret
      exact ⟨rfl, n1 + n2, by simp⟩
  · have h1' : ltR s = false := by simpa using h1
    have K1 := hide (l21Times_any A c1 s w HA.out (by omega))
    unfold ltR at h1'
    rw [h1'] at K1
    clear h1 h1' h
    go_enter Try.func12, Try.ntmps12
    go_wp2_with fail
    refine K1.out.mono ?_
    rintro e w' ⟨rfl, n1, rfl⟩
    go_wp2_with fail
    go_ret
    exact ⟨rfl, n1, rfl⟩
set_option maxHeartbeats 1000000 in
theorem specUse_core (ba oa bb ob : Nat) (c1 c2 n : Nat) (s0 s1 c0 c9 r : Int) (w : World) (s c : List Int) (hA : IntsAt w (some ⟨ba, oa, none⟩) s) (hB : IntsAt w (some ⟨bb, ob, none⟩) c)
    (hs : s.length = n) (hc : c.length = n) (tA : timesR s = true) (tB : timesR c = true)
    (x1 : w.cell? ⟨ba, oa, none⟩ = some (.int .i64 s0)) (x2 : w.cell? ⟨ba, oa + (n - 1), none⟩ = some (.int .i64 s1)) (x3 : w.cell? ⟨bb, ob, none⟩ = some (.int .i64 c0)) (x4 : w.cell? ⟨bb, ob + (n - 1), none⟩ = some (.int .i64 c9))
    (a1 : 1 ≤ n) (a2 : n ≤ 20) (y1 : 0 ≤ s0 ∧ s0 ≤ 99999) (y2 : 0 ≤ s1 ∧ s1 ≤ 99999) (y3 : 0 ≤ c0 ∧ c0 ≤ 99999) (y4 : 0 ≤ c9 ∧ c9 ≤ 99999)
    (hr : r = (if 12 < c9 - s1 - c0 + s0 then 1 else if c9 - s1 - c0 + s0 < -12 then 2 else 0)) :
    Calls Try.prog 12 #[.slice (some ⟨ba, oa, none⟩) n c1, .slice (some ⟨bb, ob, none⟩) n c2] w (RetQ (.int .i64 r) w) := by
  have KA := l21Times_any (some ⟨ba, oa, none⟩) c1 s w hA (by omega)
  have KB := fun k => l21Times_any (some ⟨bb, ob, none⟩) c2 c (w.drewN k) hB (by omega)
  have l1 := ((times_lt s).1 tA).2
  have l2 := ((times_lt c).1 tB).2
  unfold ltR at l1 l2
  rw [l1, hs] at KA
  rw [l2, hc] at KB
  have HKA := hide KA
  have HKB := hide KB
  clear KA KB hA hB hs hc tA tB l1 l2
  have g3 : (n : Int) - 1 < (n : Int) := by omega
  have g4 : 0 ≤ (n : Int) - 1 := by omega
  have g5 : IntKind.i64.wrap ((n : Int) - 1) = (n : Int) - 1 := IntWalk.i64_in _ (by omega)
  have g6 : ((n : Int) - 1).toNat = n - 1 := by omega
  have g7 : (0 : Int) < (n : Int) := by omega
  have g8 : ((n : Int) == 0) = false := by simp; omega
  obtain ⟨D1, hD1⟩ : ∃ a, a = c9 - s1 := ⟨_, rfl⟩
  obtain ⟨D0, hD0⟩ : ∃ a, a = D1 - c0 := ⟨_, rfl⟩
  obtain ⟨D, hD⟩ : ∃ a, a = D0 + s0 := ⟨_, rfl⟩
  have b1 : IntKind.i64.wrap (c9 - s1) = D1 := by rw [IntWalk.i64_in _ (by omega)]; omega
  have b2 : IntKind.i64.wrap (D1 - c0) = D0 := by rw [IntWalk.i64_in _ (by omega)]; omega
  have b3 : IntKind.i64.wrap (D0 + s0) = D := by rw [IntWalk.i64_in _ (by omega)]; omega
  have hr' : 12 < D ∧ r = 1 ∨ ¬ 12 < D ∧ D < -12 ∧ r = 2 ∨ ¬ 12 < D ∧ ¬ D < -12 ∧ r = 0 := by
    by_cases k1 : 12 < D
    · exact .inl ⟨k1, by rw [hr, if_pos (by omega)]⟩
    · by_cases k2 : D < -12
      · exact .inr (.inl ⟨k1, k2, by rw [hr, if_neg (by omega), if_pos (by omega)]⟩)
      · exact .inr (.inr ⟨k1, k2, by rw [hr, if_neg (by omega), if_neg (by omega)]⟩)
  clear hr hD1 hD0 hD
  go_enter Try.func12, Try.ntmps12
  go_wp2_with fail
  refine HKA.out.mono ?_
  rintro e w' ⟨rfl, n1, rfl⟩
  go_wp2_with fail
  refine (HKB.out n1).mono ?_
  rintro e w' ⟨rfl, n2, rfl⟩
  go_wp2_with fail
  go_quiet (fail)
  clear b1 b2 b3 g5 g6
  rcases hr' with ⟨k1, rfl⟩ | ⟨k1, k2, rfl⟩ | ⟨k1, k2, rfl⟩
  all_goals
    go_wp2_with fail
    go_ret
    exact ⟨rfl, _, rfl⟩
theorem specUse_any (A B : Option Addr) (c1 c2 : Nat) (s c : List Int) (w : World) (hA : IntsAt w A s) (hB : IntsAt w B c) (hm : s.length ≤ 1048576) (hm2 : c.length ≤ 1048576) :
    Calls Try.prog 12 #[.slice A s.length c1, .slice B c.length c2] w (RetQ (.int .i64 (useR s c)) w) := by
  by_cases h : s.length = c.length ∧ timesR s = true ∧ timesR c = true
  · obtain ⟨h1, h2, h3⟩ := h
    obtain ⟨a1, a2, y1, y2, y3, y4, hr⟩ := ends h1 h2 h3 (useR s c) rfl
    obtain ⟨ba, oa, rfl, ca⟩ := ints_cell hA a1
    obtain ⟨bb, ob, rfl, cb⟩ := ints_cell hB (by omega)
    have := specUse_core ba oa bb ob c1 c2 s.length _ _ _ _ (useR s c) w s c hA hB rfl h1.symm h2 h3 (by simpa using ca 0 (by omega)) (ca (s.length - 1) (by omega)) (by simpa using cb 0 (by omega)) (cb (s.length - 1) (by omega)) a1 a2 y1 y2 y3 y4 hr
    rwa [← h1]
  · rw [use_bad h]
    exact specUse_bad A B c1 c2 s c w hA hB hm hm2 h
end Go.Proofs.Ytdebjgghhiohmaa
