/- Slices of ints that are read: what they are in memory, and contracts of functions that go over them. -/
import Derived.Test.YtdebjgghhiohmaaB
import Derived.Test.YtdebjgghhiohmaaProg
import Derived.Deep.QuietTactic
import Derived.BigQuiet
namespace Go.Proofs.Ytdebjgghhiohmaa
open Go.ChangeShapes Go.WideShapes Go.ChangeAt Go.RowKit

/-- The slice at A has the elements zs. -/
def IntsAt (w : World) (A : Option Addr) (zs : List Int) : Prop :=
  zs = [] ∨ ∃ b off, A = some ⟨b, off, none⟩ ∧ b < w.heap.size ∧ ∀ i, i < zs.length → w.cell? ⟨b, off + i, none⟩ = some (.int .i64 (zs.getD i 0))
theorem IntsAt.below {w w' : World} {A : Option Addr} {zs : List Int} (h : IntsAt w A zs) (hb : Below w.heap.size w w') : IntsAt w' A zs := by
  rcases h with h | ⟨b, off, hA, hlt, hc⟩
  · exact .inl h
  · exact .inr ⟨b, off, hA, Nat.lt_of_lt_of_le hlt hb.size, fun i hi => (hb.cell (p := ⟨b, off + i, none⟩) hlt).trans (hc i hi)⟩
theorem IntsAt.drewN {w : World} {A : Option Addr} {zs : List Int} (h : IntsAt w A zs) (n : Nat) : IntsAt (w.drewN n) A zs := h

def RetQ (v : Value) (w : World) (e : Ending) (w' : World) : Prop := e = .returned v ∧ ∃ n, w' = w.drewN n

theorem quiet_add_same {P : Program} {f : FuncId} {args : Array Value} {w : World} {a n : Nat} {v : Value}
    (h : Calls P f args (w.drewN (a + n)) fun e w' => e = .returned v ∧ w' = w.drewN (a + n)) :
    Calls P f args (w.drewN (a + n)) fun e w'' => e = .returned v ∧ ∃ m, w'' = w.drewN (a + m) :=
  h.mono fun _ _ ⟨he, hm⟩ => ⟨he, n, hm⟩
theorem ret_bool {a b : Bool} (h : a = b) : Ending.returned (.bool a) = .returned (.bool b) := by rw [h]
theorem l6In_any (n a b : Int) (w : World) : Calls Try.prog 17 #[.int .i64 n, .int .i64 a, .int .i64 b] w fun e w' => e = .returned (.bool (decide (a ≤ n ∧ n ≤ b))) ∧ w' = w := by
  go_enter Try.func17, Try.ntmps17
  go_wp2
  all_goals
    go_ret
    refine ⟨ret_bool (by rw [Bool.eq_iff_iff]; simp; try omega), rfl⟩
def okT (zs : List Int) (k : Nat) : Prop := ∀ i, i < k → 0 ≤ zs.getD i 0 ∧ zs.getD i 0 ≤ 99999 ∧ (0 < i → zs.getD (i - 1) 0 ≤ zs.getD i 0)
instance (zs : List Int) (k : Nat) : Decidable (okT zs k) := by unfold okT; infer_instance
set_option maxHeartbeats 1000000 in
theorem l21Times_any (A : Option Addr) (c : Nat) (zs : List Int) (w : World) (h : IntsAt w A zs) (hm : zs.length ≤ 9223372036854775807) :
    Calls Try.prog 20 #[.slice A zs.length c] w (RetQ (.bool (decide (okT zs zs.length ∧ zs.length ≤ 20))) w) := by
  have Hh := hide h
  clear h
  obtain ⟨n, hn⟩ : ∃ n, zs.length = n := ⟨_, rfl⟩
  rw [hn] at hm ⊢
  have Hn := hide hn
  clear hn
  go_enter Try.func20, Try.ntmps20
  go_wp2_with fail
  go_loopw [3] (fun i wr => ∃ k m : Nat, k ≤ n ∧ i = .int .i64 k ∧ wr = w.drewN m ∧ okT zs k) (fun i _ => n - (intOf i).toNat)
  case atStart => exact ⟨0, 0, by omega, rfl, rfl, fun i hi => by omega⟩
  case round =>
    obtain ⟨k, m, hk, rfl, rfl, hok⟩ := hrel
    have Hok := hide hok
    clear hok
    by_cases hk' : k < n
    · rcases Hh.out with h0 | ⟨b, off, rfl, hlt, hc⟩
      · have := Hn.out
        simp [h0] at this
        omega
      · have hz := hc k (by have := Hn.out; omega)
        obtain ⟨z, hzz⟩ : ∃ z, zs.getD k 0 = z := ⟨_, rfl⟩
        rw [hzz] at hz
        have Hzz := hide hzz
        clear hzz
        by_cases h1 : 0 ≤ z ∧ z ≤ 99999
        · have d1 : decide (0 ≤ z ∧ z ≤ 99999) = true := decide_eq_true h1
          by_cases hk0 : k = 0
          · have g1 : decide (0 < k) = false := by simp; omega
            have g2 : (k : Int) < (n : Int) := by omega
            have Hk0 := hide hk0
            clear hc hk0
            go_wp2_with fail
            go_quiet ((go_at_call 17; first | exact quiet_add_same (l6In_any _ _ _ _) | exact Calls.quiet_of_same (l6In_any _ _ _ _)))
            clear d1 g1
            go_wp2_with fail
            go_roundw
            case rel =>
              refine ⟨k + 1, m + nq, by omega, by go_num, by simp, ?_⟩
              intro i hi
              rcases Nat.lt_succ_iff_lt_or_eq.1 hi with hi | rfl
              · exact Hok.out i hi
              · rw [Hzz.out]; exact ⟨h1.1, h1.2, fun h => absurd Hk0.out (by omega)⟩
            case measure => simp [intOf]; omega
          · have hz0 := hc (k - 1) (by have := Hn.out; omega)
            obtain ⟨z0, hzz0⟩ : ∃ z, zs.getD (k - 1) 0 = z := ⟨_, rfl⟩
            rw [hzz0] at hz0
            have Hzz0 := hide hzz0
            clear hzz0
            have g1 : decide (0 < k) = true := by simp; omega
            have g2 : (k : Int) < (n : Int) := by omega
            have g3 : (k : Int) - 1 < (n : Int) := by omega
            have g4 : 0 ≤ (k : Int) - 1 := by omega
            have g5 : IntKind.i64.wrap ((k : Int) - 1) = (k : Int) - 1 := IntWalk.i64_in _ (by omega)
            have g6 : ((k : Int) - 1).toNat = k - 1 := by omega
            have Hk0 := hide hk0
            clear hc hk0
            by_cases h2 : z < z0
            · have g7 : decide (z < z0) = true := decide_eq_true h2
              go_wp2_with fail
              go_quiet ((go_at_call 17; first | exact quiet_add_same (l6In_any _ _ _ _) | exact Calls.quiet_of_same (l6In_any _ _ _ _)))
              clear d1 g1 g5 g6 g7
              go_wp2_with fail
              go_ret
              refine ⟨ret_bool ?_, m + nq, by simp⟩
              symm
              apply decide_eq_false
              rintro ⟨hok, _⟩
              have := (hok k (by have := Hn.out; omega)).2.2 (by have := Hk0.out; omega)
              rw [Hzz.out, Hzz0.out] at this
              omega
            · have g7 : decide (z < z0) = false := decide_eq_false h2
              go_wp2_with fail
              go_quiet ((go_at_call 17; first | exact quiet_add_same (l6In_any _ _ _ _) | exact Calls.quiet_of_same (l6In_any _ _ _ _)))
              clear d1 g1 g5 g6 g7
              go_wp2_with fail
              go_roundw
              case rel =>
                refine ⟨k + 1, m + nq, by omega, by go_num, by simp, ?_⟩
                intro i hi
                rcases Nat.lt_succ_iff_lt_or_eq.1 hi with hi | rfl
                · exact Hok.out i hi
                · rw [Hzz.out, Hzz0.out]; exact ⟨h1.1, h1.2, fun _ => by omega⟩
              case measure => simp [intOf]; omega
        · have d1 : decide (0 ≤ z ∧ z ≤ 99999) = false := decide_eq_false h1
          have g2 : (k : Int) < (n : Int) := by omega
          clear hc
          go_wp2_with fail
          go_quiet ((go_at_call 17; first | exact quiet_add_same (l6In_any _ _ _ _) | exact Calls.quiet_of_same (l6In_any _ _ _ _)))
          clear d1
          go_wp2_with fail
          go_ret
          refine ⟨ret_bool ?_, m + nq, by simp⟩
          symm
          apply decide_eq_false
          rintro ⟨hok, _⟩
          have := hok k (by have := Hn.out; omega)
          rw [Hzz.out] at this
          omega
    · go_wp2_with fail
      go_ret
      have hkn : k = n := by omega
      subst hkn
      refine ⟨ret_bool ?_, m, rfl⟩
      rw [Bool.eq_iff_iff]
      have := Hok.out
      simp [this]
      omega
theorem timeValid_any (n : Int) (w : World) : Calls Try.prog 23 #[.int .i64 n] w fun e w' => e = .returned (.bool (decide (0 ≤ n ∧ n ≤ 99999))) ∧ w' = w := by
  go_enter Try.func23, Try.ntmps23
  go_wp2
  all_goals
    go_ret
    refine ⟨ret_bool (by rw [Bool.eq_iff_iff]; simp; try omega), rfl⟩
def timesR (zs : List Int) : Bool := decide ((1 ≤ zs.length ∧ zs.length ≤ 20) ∧ okT zs zs.length)
set_option maxHeartbeats 1000000 in
theorem timesValid_any (A : Option Addr) (c : Nat) (zs : List Int) (w : World) (h : IntsAt w A zs) (hm : zs.length ≤ 9223372036854775807) :
    Calls Try.prog 21 #[.slice A zs.length c] w fun e w' => e = .returned (.bool (timesR zs)) ∧ w' = w := by
  have Hh := hide h
  clear h
  obtain ⟨n, hn⟩ : ∃ n, zs.length = n := ⟨_, rfl⟩
  have hR : timesR zs = decide ((1 ≤ n ∧ n ≤ 20) ∧ okT zs n) := by unfold timesR; rw [hn]
  rw [hR, hn]
  rw [hn] at hm
  have Hn := hide hn
  clear hn hR
  by_cases hb : 1 ≤ n ∧ n ≤ 20
  · obtain ⟨hb1, hb2⟩ := hb
    have q1 : ¬ (n : Int) < 1 := by omega
    have q2 : ¬ (20 : Int) < (n : Int) := by omega
    go_enter Try.func21, Try.ntmps21
    go_wp2_with fail
    go_loop [15] (fun i => ∃ k : Nat, k ≤ n ∧ i = .int .i64 k ∧ okT zs k) (fun i => n - (intOf i).toNat)
    case atStart => exact ⟨0, by omega, rfl, fun i hi => by omega⟩
    case round =>
      obtain ⟨k, hk, rfl, hok⟩ := hrel
      have Hok := hide hok
      clear hok
      by_cases hk' : k < n
      · rcases Hh.out with h0 | ⟨b, off, rfl, hlt, hc⟩
        · have := Hn.out
          simp [h0] at this
          omega
        · have hz := hc k (by have := Hn.out; omega)
          obtain ⟨z, hzz⟩ : ∃ z, zs.getD k 0 = z := ⟨_, rfl⟩
          rw [hzz] at hz
          have Hzz := hide hzz
          clear hzz
          have g2 : (k : Int) < (n : Int) := by omega
          by_cases h1 : 0 ≤ z ∧ z ≤ 99999
          · have d1 : decide (0 ≤ z ∧ z ≤ 99999) = true := decide_eq_true h1
            by_cases hk0 : k = 0
            · have g1 : ¬ 0 < k := by omega
              have Hk0 := hide hk0
              clear hc hk0
              go_wp2_with (go_at_call 23; refine (timeValid_any _ _).mono ?_; rintro e w' ⟨rfl, rfl⟩)
              go_round
              case rel =>
                refine ⟨k + 1, by omega, by go_num, ?_⟩
                intro i hi
                rcases Nat.lt_succ_iff_lt_or_eq.1 hi with hi | rfl
                · exact Hok.out i hi
                · rw [Hzz.out]; exact ⟨h1.1, h1.2, fun h => absurd Hk0.out (by omega)⟩
              case measure => simp [intOf]; omega
            · have hz0 := hc (k - 1) (by have := Hn.out; omega)
              obtain ⟨z0, hzz0⟩ : ∃ z, zs.getD (k - 1) 0 = z := ⟨_, rfl⟩
              rw [hzz0] at hz0
              have Hzz0 := hide hzz0
              clear hzz0
              have g1 : 0 < k := by omega
              have g3 : (k : Int) - 1 < (n : Int) := by omega
              have g4 : 0 ≤ (k : Int) - 1 := by omega
              have Hk0 := hide hk0
              clear hc hk0
              by_cases h2 : z < z0
              · go_wp2_with (go_at_call 23; refine (timeValid_any _ _).mono ?_; rintro e w' ⟨rfl, rfl⟩)
                go_ret
                refine ⟨ret_bool ?_, rfl⟩
                symm
                apply decide_eq_false
                rintro ⟨_, hok⟩
                have := (hok k (by omega)).2.2 (by omega)
                rw [Hzz.out, Hzz0.out] at this
                omega
              · go_wp2_with (go_at_call 23; refine (timeValid_any _ _).mono ?_; rintro e w' ⟨rfl, rfl⟩)
                go_round
                case rel =>
                  refine ⟨k + 1, by omega, by go_num, ?_⟩
                  intro i hi
                  rcases Nat.lt_succ_iff_lt_or_eq.1 hi with hi | rfl
                  · exact Hok.out i hi
                  · rw [Hzz.out, Hzz0.out]; exact ⟨h1.1, h1.2, fun _ => by omega⟩
                case measure => simp [intOf]; omega
          · have d1 : decide (0 ≤ z ∧ z ≤ 99999) = false := decide_eq_false h1
            clear hc
            go_wp2_with (go_at_call 23; refine (timeValid_any _ _).mono ?_; rintro e w' ⟨rfl, rfl⟩)
            go_ret
            refine ⟨ret_bool ?_, rfl⟩
            symm
            apply decide_eq_false
            rintro ⟨_, hok⟩
            have := hok k (by omega)
            rw [Hzz.out] at this
            omega
      · have hkn : k = n := by omega
        subst hkn
        go_wp2_with fail
        go_ret
        refine ⟨ret_bool ?_, rfl⟩
        symm
        first | exact decide_eq_true ⟨⟨hb1, hb2⟩, Hok.out⟩ | exact decide_eq_true Hok.out
  · go_enter Try.func21, Try.ntmps21
    rcases (show n < 1 ∨ 20 < n from by omega) with h1 | h1
    · have q1 : (n : Int) < 1 := by omega
      go_wp2_with fail
      go_ret
      refine ⟨ret_bool ?_, rfl⟩
      symm
      exact decide_eq_false fun h => by omega
    · have q1 : ¬ (n : Int) < 1 := by omega
      have q2 : (20 : Int) < (n : Int) := by omega
      go_wp2_with fail
      go_ret
      refine ⟨ret_bool ?_, rfl⟩
      symm
      exact decide_eq_false fun h => by omega
end Go.Proofs.Ytdebjgghhiohmaa
