/- Ascending numbers: the contracts of what asks for them. -/
import Derived.Test.YtibedadmogadhaaI
import Derived.Test.YtibedadmogadhaaNK
namespace Go.Proofs.Ytibedadmogadhaa
open Go.ChangeShapes Go.WideShapes Go.ChangeAt Go.RowKit

def ascB (zs : List Int) : Bool := decide (okA zs zs.length ∧ zs.length ≤ 60)
set_option maxHeartbeats 1000000 in
theorem l15Numbers_any (A : Option Addr) (c : Nat) (zs : List Int) (w : World) (h : IntsAt w A zs) (hm : zs.length ≤ 9223372036854775807) :
    Calls Try.prog 53 #[.slice A zs.length c] w (RetQ (.bool (decide (okA zs zs.length ∧ zs.length ≤ 60))) w) := by
  have Hh := hide h
  clear h
  obtain ⟨n, hn⟩ : ∃ n, zs.length = n := ⟨_, rfl⟩
  rw [hn] at hm ⊢
  have Hn := hide hn
  clear hn
  go_enter Try.func53, Try.ntmps53
  go_wp2_with fail
  go_loopw [3] (fun i wr => ∃ k m : Nat, k ≤ n ∧ i = .int .i64 k ∧ wr = w.drewN m ∧ okA zs k) (fun i _ => n - (intOf i).toNat)
  case atStart => exact ⟨0, 0, by omega, rfl, rfl, fun i hi => by omega⟩
  case round =>
    obtain ⟨k, m, hk, rfl, rfl, hok⟩ := hrel
    have Hok := hide hok
    clear hok
    by_cases hk' : k < n
    · rcases Hh.out with h0 | ⟨b, off, rfl, hlt, hc⟩
      · have := Hn.out
        simp [h0] at this
        omega
      · have hz := hc k (by have := Hn.out; omega)
        obtain ⟨z, hzz⟩ : ∃ z, zs.getD k 0 = z := ⟨_, rfl⟩
        rw [hzz] at hz
        have Hzz := hide hzz
        clear hzz
        by_cases h1 : 0 ≤ z ∧ z ≤ 999999
        · have d1 : decide (0 ≤ z ∧ z ≤ 999999) = true := decide_eq_true h1
          by_cases hk0 : k = 0
          · have g1 : decide (0 < k) = false := by simp; omega
            have g2 : (k : Int) < (n : Int) := by omega
            have Hk0 := hide hk0
            clear hc hk0
            go_wp2_with fail
            go_quiet ((go_at_call 56; first | exact quiet_add_same (l6In_any _ _ _ _) | exact Calls.quiet_of_same (l6In_any _ _ _ _)))
            clear d1 g1
            go_wp2_with fail
            go_roundw
            case rel =>
              refine ⟨k + 1, m + nq, by omega, by go_num, by simp, ?_⟩
              intro i hi
              rcases Nat.lt_succ_iff_lt_or_eq.1 hi with hi | rfl
              · exact Hok.out i hi
              · rw [Hzz.out]; exact ⟨h1.1, h1.2, fun h => absurd Hk0.out (by omega)⟩
            case measure => simp [intOf]; omega
          · have hz0 := hc (k - 1) (by have := Hn.out; omega)
            obtain ⟨z0, hzz0⟩ : ∃ z, zs.getD (k - 1) 0 = z := ⟨_, rfl⟩
            rw [hzz0] at hz0
            have Hzz0 := hide hzz0
            clear hzz0
            have g1 : decide (0 < k) = true := by simp; omega
            have g2 : (k : Int) < (n : Int) := by omega
            have g3 : (k : Int) - 1 < (n : Int) := by omega
            have g4 : 0 ≤ (k : Int) - 1 := by omega
            have g5 : IntKind.i64.wrap ((k : Int) - 1) = (k : Int) - 1 := IntWalk.i64_in _ (by omega)
            have g6 : ((k : Int) - 1).toNat = k - 1 := by omega
            have Hk0 := hide hk0
            clear hc hk0
            by_cases h2 : z ≤ z0
            · have g7 : decide (z ≤ z0) = true := decide_eq_true h2
              go_wp2_with fail
              go_quiet ((go_at_call 56; first | exact quiet_add_same (l6In_any _ _ _ _) | exact Calls.quiet_of_same (l6In_any _ _ _ _)))
              clear d1 g1 g5 g6 g7
              go_wp2_with fail
              go_ret
              refine ⟨ret_bool ?_, m + nq, by simp⟩
              symm
              apply decide_eq_false
              rintro ⟨hok, _⟩
              have := (hok k (by have := Hn.out; omega)).2.2 (by have := Hk0.out; omega)
              rw [Hzz.out, Hzz0.out] at this
              omega
            · have g7 : decide (z ≤ z0) = false := decide_eq_false h2
              go_wp2_with fail
              go_quiet ((go_at_call 56; first | exact quiet_add_same (l6In_any _ _ _ _) | exact Calls.quiet_of_same (l6In_any _ _ _ _)))
              clear d1 g1 g5 g6 g7
              go_wp2_with fail
              go_roundw
              case rel =>
                refine ⟨k + 1, m + nq, by omega, by go_num, by simp, ?_⟩
                intro i hi
                rcases Nat.lt_succ_iff_lt_or_eq.1 hi with hi | rfl
                · exact Hok.out i hi
                · rw [Hzz.out, Hzz0.out]; exact ⟨h1.1, h1.2, fun _ => by omega⟩
              case measure => simp [intOf]; omega
        · have d1 : decide (0 ≤ z ∧ z ≤ 999999) = false := decide_eq_false h1
          have g2 : (k : Int) < (n : Int) := by omega
          clear hc
          go_wp2_with fail
          go_quiet ((go_at_call 56; first | exact quiet_add_same (l6In_any _ _ _ _) | exact Calls.quiet_of_same (l6In_any _ _ _ _)))
          clear d1
          go_wp2_with fail
          go_ret
          refine ⟨ret_bool ?_, m + nq, by simp⟩
          symm
          apply decide_eq_false
          rintro ⟨hok, _⟩
          have := hok k (by have := Hn.out; omega)
          rw [Hzz.out] at this
          omega
    · go_wp2_with fail
      go_ret
      have hkn : k = n := by omega
      subst hkn
      refine ⟨ret_bool ?_, m, rfl⟩
      rw [Bool.eq_iff_iff]
      have := Hok.out
      simp [this]
      omega
theorem wideValid_any (n : Int) (w : World) : Calls Try.prog 55 #[.int .i64 n] w fun e w' => e = .returned (.bool (decide (0 ≤ n ∧ n ≤ 999999))) ∧ w' = w := by
  go_enter Try.func55, Try.ntmps55
  go_wp2
  all_goals
    go_ret
    refine ⟨ret_bool (by rw [Bool.eq_iff_iff]; simp; try omega), rfl⟩
set_option maxHeartbeats 1000000 in
theorem ascendValid_any (A : Option Addr) (c : Nat) (zs : List Int) (w : World) (h : IntsAt w A zs) (hm : zs.length ≤ 9223372036854775807) :
    Calls Try.prog 47 #[.slice A zs.length c] w fun e w' => e = .returned (.bool (ascB zs)) ∧ w' = w := by
  have Hh := hide h
  clear h
  obtain ⟨n, hn⟩ : ∃ n, zs.length = n := ⟨_, rfl⟩
  have hR : ascB zs = decide (okA zs n ∧ n ≤ 60) := by unfold ascB; rw [hn]
  rw [hR, hn]
  rw [hn] at hm
  have Hn := hide hn
  clear hn hR
  by_cases hb2 : n ≤ 60
  · have q2 : ¬ (60 : Int) < (n : Int) := by omega
    go_enter Try.func47, Try.ntmps47
    go_wp2_with fail
    go_loop [10] (fun i => ∃ k : Nat, k ≤ n ∧ i = .int .i64 k ∧ okA zs k) (fun i => n - (intOf i).toNat)
    case atStart => exact ⟨0, by omega, rfl, fun i hi => by omega⟩
    case round =>
      obtain ⟨k, hk, rfl, hok⟩ := hrel
      have Hok := hide hok
      clear hok
      by_cases hk' : k < n
      · rcases Hh.out with h0 | ⟨b, off, rfl, hlt, hc⟩
        · have := Hn.out
          simp [h0] at this
          omega
        · have hz := hc k (by have := Hn.out; omega)
          obtain ⟨z, hzz⟩ : ∃ z, zs.getD k 0 = z := ⟨_, rfl⟩
          rw [hzz] at hz
          have Hzz := hide hzz
          clear hzz
          have g2 : (k : Int) < (n : Int) := by omega
          by_cases h1 : 0 ≤ z ∧ z ≤ 999999
          · have d1 : decide (0 ≤ z ∧ z ≤ 999999) = true := decide_eq_true h1
            by_cases hk0 : k = 0
            · have g1 : ¬ 0 < k := by omega
              have Hk0 := hide hk0
              clear hc hk0
              go_wp2_with (go_at_call 55; refine (wideValid_any _ _).mono ?_; rintro e w' ⟨rfl, rfl⟩)
              go_round
              case rel =>
                refine ⟨k + 1, by omega, by go_num, ?_⟩
                intro i hi
                rcases Nat.lt_succ_iff_lt_or_eq.1 hi with hi | rfl
                · exact Hok.out i hi
                · rw [Hzz.out]; exact ⟨h1.1, h1.2, fun h => absurd Hk0.out (by omega)⟩
              case measure => simp [intOf]; omega
            · have hz0 := hc (k - 1) (by have := Hn.out; omega)
              obtain ⟨z0, hzz0⟩ : ∃ z, zs.getD (k - 1) 0 = z := ⟨_, rfl⟩
              rw [hzz0] at hz0
              have Hzz0 := hide hzz0
              clear hzz0
              have g1 : 0 < k := by omega
              have g3 : (k : Int) - 1 < (n : Int) := by omega
              have g4 : 0 ≤ (k : Int) - 1 := by omega
              have Hk0 := hide hk0
              clear hc hk0
              by_cases h2 : z ≤ z0
              · go_wp2_with (go_at_call 55; refine (wideValid_any _ _).mono ?_; rintro e w' ⟨rfl, rfl⟩)
                go_ret
                refine ⟨ret_bool ?_, rfl⟩
                symm
                apply decide_eq_false
                rintro ⟨hok, _⟩
                have := (hok k (by omega)).2.2 (by omega)
                rw [Hzz.out, Hzz0.out] at this
                omega
              · go_wp2_with (go_at_call 55; refine (wideValid_any _ _).mono ?_; rintro e w' ⟨rfl, rfl⟩)
                go_round
                case rel =>
                  refine ⟨k + 1, by omega, by go_num, ?_⟩
                  intro i hi
                  rcases Nat.lt_succ_iff_lt_or_eq.1 hi with hi | rfl
                  · exact Hok.out i hi
                  · rw [Hzz.out, Hzz0.out]; exact ⟨h1.1, h1.2, fun _ => by omega⟩
                case measure => simp [intOf]; omega
          · have d1 : decide (0 ≤ z ∧ z ≤ 999999) = false := decide_eq_false h1
            clear hc
            go_wp2_with (go_at_call 55; refine (wideValid_any _ _).mono ?_; rintro e w' ⟨rfl, rfl⟩)
            go_ret
            refine ⟨ret_bool ?_, rfl⟩
            symm
            apply decide_eq_false
            rintro ⟨hok, _⟩
            have := hok k (by omega)
            rw [Hzz.out] at this
            omega
      · have hkn : k = n := by omega
        subst hkn
        go_wp2_with fail
        go_ret
        refine ⟨ret_bool ?_, rfl⟩
        symm
        first | exact decide_eq_true ⟨Hok.out, hb2⟩ | exact decide_eq_true Hok.out
  · have q2 : (60 : Int) < (n : Int) := by omega
    go_enter Try.func47, Try.ntmps47
    go_wp2_with fail
    go_ret
    refine ⟨ret_bool ?_, rfl⟩
    symm
    exact decide_eq_false fun h => by omega
end Go.Proofs.Ytibedadmogadhaa
