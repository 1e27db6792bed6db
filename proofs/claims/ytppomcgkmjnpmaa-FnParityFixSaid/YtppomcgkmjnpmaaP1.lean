/- bytesValid, bodiesValid, l16Bytes, l16Bodies: contracts. -/
import Derived.Test.YtppomcgkmjnpmaaBD
namespace Go.Proofs.Ytppomcgkmjnpmaa
open Go.ChangeShapes Go.WideShapes Go.ChangeAt Go.RowKit Go.Deep

def okB (zs : List Int) (k : Nat) : Prop := ∀ i, i < k → 0 ≤ zs.getD i 0 ∧ zs.getD i 0 ≤ 255
theorem okB_full {zs : List Int} {n : Nat} (hn : zs.length = n) (h : okB zs n) : decide (bytesOk zs) = true := decide_eq_true fun i hi => h i (by omega)
theorem okB_not {zs : List Int} {k : Nat} {z : Int} (hk : k < zs.length) (hz : zs.getD k 0 = z) (h : ¬ (0 ≤ z ∧ z ≤ 255)) : decide (bytesOk zs) = false := by
  apply decide_eq_false
  intro hok
  have := hok k hk
  rw [hz] at this
  exact h this
theorem okB_next {zs : List Int} {k : Nat} {z : Int} (h : okB zs k) (hz : zs.getD k 0 = z) (h1 : 0 ≤ z ∧ z ≤ 255) : okB zs (k + 1) := by
  intro i hi
  rcases Nat.lt_succ_iff_lt_or_eq.1 hi with hi | rfl
  · exact h i hi
  · rw [hz]; exact h1
set_option maxHeartbeats 1000000 in
theorem bytesValid_any (A : Option Addr) (c : Nat) (zs : List Int) (w : World) (h : IntsAt w A zs) (hm : zs.length ≤ 9223372036854775807) :
    Calls Try.prog 37 #[.slice A zs.length c] w fun e w' => e = .returned (.bool (decide (bytesOk zs))) ∧ w' = w := by
  have Hh := hide h
  clear h
  obtain ⟨n, hn⟩ : ∃ n, zs.length = n := ⟨_, rfl⟩
  rw [hn] at hm ⊢
  have Hn := hide hn
  clear hn
  go_enter Try.func37, Try.ntmps37
  go_wp2_with fail
  go_loop [7] (fun i => ∃ k : Nat, k ≤ n ∧ i = .int .i64 k ∧ okB zs k) (fun i => n - (intOf i).toNat)
  case atStart => exact ⟨0, by omega, rfl, fun i hi => by omega⟩
  case round =>
    obtain ⟨k, hk, rfl, hok⟩ := hrel
    have Hok := hide hok
    clear hok
    by_cases hk' : k < n
    · rcases Hh.out with h0 | ⟨b, off, rfl, hlt, hc⟩
      · have := Hn.out
        simp [h0] at this
        omega
      · have hz := hc k (by have := Hn.out; omega)
        obtain ⟨z, hzz⟩ : ∃ z, zs.getD k 0 = z := ⟨_, rfl⟩
        rw [hzz] at hz
        have Hzz := hide hzz
        clear hzz hc
        have g2 : (k : Int) < (n : Int) := by omega
        by_cases h1 : z < 0
        · go_wp2_with fail
          go_ret
          exact ⟨ret_bool (okB_not (by have := Hn.out; omega) Hzz.out (by omega)).symm, rfl⟩
        · by_cases h2 : 255 < z
          · go_wp2_with fail
            go_ret
            exact ⟨ret_bool (okB_not (by have := Hn.out; omega) Hzz.out (by omega)).symm, rfl⟩
          · go_wp2_with fail
            go_round
            case rel => exact ⟨k + 1, by omega, by go_num, okB_next Hok.out Hzz.out (by omega)⟩
            case measure => simp [intOf]; omega
    · have hkn : k = n := by omega
      subst hkn
      go_wp2_with fail
      go_ret
      exact ⟨ret_bool (okB_full Hn.out Hok.out).symm, rfl⟩
set_option maxHeartbeats 1000000 in
theorem l16Bytes_any (A : Option Addr) (c : Nat) (zs : List Int) (w : World) (h : IntsAt w A zs) (hm : zs.length ≤ 9223372036854775807) :
    Calls Try.prog 40 #[.slice A zs.length c] w fun e w' => e = .returned (.bool (decide (bytesOk zs))) ∧ w' = w := by
  have Hh := hide h
  clear h
  obtain ⟨n, hn⟩ : ∃ n, zs.length = n := ⟨_, rfl⟩
  rw [hn] at hm ⊢
  have Hn := hide hn
  clear hn
  go_enter Try.func40, Try.ntmps40
  go_wp2_with fail
  go_loop [3] (fun i => ∃ k : Nat, k ≤ n ∧ i = .int .i64 k ∧ okB zs k) (fun i => n - (intOf i).toNat)
  case atStart => exact ⟨0, by omega, rfl, fun i hi => by omega⟩
  case round =>
    obtain ⟨k, hk, rfl, hok⟩ := hrel
    have Hok := hide hok
    clear hok
    by_cases hk' : k < n
    · rcases Hh.out with h0 | ⟨b, off, rfl, hlt, hc⟩
      · have := Hn.out
        simp [h0] at this
        omega
      · have hz := hc k (by have := Hn.out; omega)
        obtain ⟨z, hzz⟩ : ∃ z, zs.getD k 0 = z := ⟨_, rfl⟩
        rw [hzz] at hz
        have Hzz := hide hzz
        clear hzz hc
        have g2 : (k : Int) < (n : Int) := by omega
        by_cases h1 : 0 ≤ z ∧ z ≤ 255
        · have d1 : decide (0 ≤ z ∧ z ≤ 255) = true := decide_eq_true h1
          go_wp2_with (go_at_call 41; refine (l6In_any _ _ _ _).mono ?_; rintro e w' ⟨rfl, rfl⟩)
          go_round
          case rel => exact ⟨k + 1, by omega, by go_num, okB_next Hok.out Hzz.out h1⟩
          case measure => simp [intOf]; omega
        · have d1 : decide (0 ≤ z ∧ z ≤ 255) = false := decide_eq_false h1
          go_wp2_with (go_at_call 41; refine (l6In_any _ _ _ _).mono ?_; rintro e w' ⟨rfl, rfl⟩)
          go_ret
          exact ⟨ret_bool (okB_not (by have := Hn.out; omega) Hzz.out h1).symm, rfl⟩
    · have hkn : k = n := by omega
      subst hkn
      go_wp2_with fail
      go_ret
      exact ⟨ret_bool (okB_full Hn.out Hok.out).symm, rfl⟩

def okL (ls : List (List Int)) (k : Nat) : Prop := ∀ i, i < k → bodyB (ls.getD i []) = true
theorem okL_full {ls : List (List Int)} {n : Nat} (hn : ls.length = n) (h : okL ls n) : ls.all bodyB = true := by
  rw [List.all_eq_true]
  intro x hx
  obtain ⟨i, hi, rfl⟩ := List.mem_iff_getElem.1 hx
  have := h i (by omega)
  rwa [List.getD_eq_getElem?_getD, List.getElem?_eq_getElem hi] at this
theorem okL_not {ls : List (List Int)} {k : Nat} {x : List Int} (hk : k < ls.length) (hx : ls.getD k [] = x) (h : bodyB x = false) : ls.all bodyB = false := by
  rw [List.all_eq_false]
  refine ⟨ls[k], List.getElem_mem hk, ?_⟩
  have : ls.getD k [] = ls[k] := by rw [List.getD_eq_getElem?_getD, List.getElem?_eq_getElem hk]; rfl
  rw [← this, hx, h]
  simp
theorem okL_next {ls : List (List Int)} {k : Nat} {x : List Int} (h : okL ls k) (hx : ls.getD k [] = x) (h1 : bodyB x = true) : okL ls (k + 1) := by
  intro i hi
  rcases Nat.lt_succ_iff_lt_or_eq.1 hi with hi | rfl
  · exact h i hi
  · rw [hx]; exact h1
theorem bodyB_of {x : List Int} {m : Nat} (hm : x.length = m) (h1 : m ≤ 12) (h2 : decide (bytesOk x) = true) : bodyB x = true := decide_eq_true ⟨by omega, of_decide_eq_true h2⟩
theorem bodyB_no1 {x : List Int} {m : Nat} (hm : x.length = m) (h1 : 12 < m) : bodyB x = false := decide_eq_false fun h => by omega
theorem bodyB_no2 {x : List Int} (h2 : decide (bytesOk x) = false) : bodyB x = false := decide_eq_false fun h => of_decide_eq_false h2 h.2
set_option maxHeartbeats 1000000 in
theorem bodiesValid_any (A : Option Addr) (c : Nat) (ls : List (List Int)) (w : World) (h : BodAt w A ls) (hm : ls.length ≤ 9223372036854775807) :
    Calls Try.prog 33 #[.slice A ls.length c] w fun e w' => e = .returned (.bool (ls.all bodyB)) ∧ ∃ d, w' = w.drewN d := by
  have Hh := hide h
  clear h
  obtain ⟨n, hn⟩ : ∃ n, ls.length = n := ⟨_, rfl⟩
  rw [hn] at hm ⊢
  have Hn := hide hn
  clear hn
  go_enter Try.func33, Try.ntmps33
  go_wp2_with fail
  go_loopw [7] (fun i wr => ∃ k d : Nat, k ≤ n ∧ i = .int .i64 k ∧ okL ls k ∧ wr = w.drewN d) (fun i _ => n - (intOf i).toNat)
  case atStart => exact ⟨0, 0, by omega, rfl, fun i hi => by omega, rfl⟩
  case round =>
    obtain ⟨k, d, hk, rfl, hok, rfl⟩ := hrel
    have Hok := hide hok
    clear hok
    by_cases hk' : k < n
    · obtain ⟨b, off, rfl, hlt, A', c', hz, hcap, hc63, hnil, hI⟩ := BodAt.at Hh.out (k := k) (by have := Hn.out; omega)
      obtain ⟨x, hx⟩ : ∃ x, ls.getD k [] = x := ⟨_, rfl⟩
      rw [hx] at hz hcap hI
      have HI := hide hI
      have Hx := hide hx
      obtain ⟨m, hmm⟩ : ∃ m, x.length = m := ⟨_, rfl⟩
      rw [hmm] at hz hcap
      have K := fun w h => bytesValid_any A' c' x w h (by omega)
      rw [hmm] at K
      have HK := hide K
      have Hm := hide hmm
      clear hx hI hmm K hnil
      have g2 : (k : Int) < (n : Int) := by omega
      by_cases h1 : 12 < (m : Int)
      · have g3 : decide (12 < (m : Int)) = true := decide_eq_true h1
        have g4 : decide (12 < m) = true := decide_eq_true (by omega)
        go_wp2_with (go_at_call 37; refine (HK.out _ (HI.out.drewN _)).mono ?_; rintro e w' ⟨rfl, rfl⟩)
        go_ret
        exact ⟨ret_bool (okL_not (by have := Hn.out; omega) Hx.out (bodyB_no1 Hm.out (by omega))).symm, d, rfl⟩
      · have g3 : decide (12 < (m : Int)) = false := decide_eq_false h1
        have g4 : decide (12 < m) = false := decide_eq_false (by omega)
        by_cases h2 : decide (bytesOk x) = true
        · have H2 := hide h2
          clear h2
          go_wp2_with (go_at_call 37; refine (HK.out _ (HI.out.drewN _)).mono ?_; rintro e w' ⟨rfl, rfl⟩; rw [H2.out])
          go_roundw
          case rel => exact ⟨k + 1, d, by omega, by go_num, okL_next Hok.out Hx.out (bodyB_of Hm.out (by omega) H2.out), rfl⟩
          case measure => simp [intOf]; omega
        · have H2 := hide (show decide (bytesOk x) = false by simpa using h2)
          clear h2
          go_wp2_with (go_at_call 37; refine (HK.out _ (HI.out.drewN _)).mono ?_; rintro e w' ⟨rfl, rfl⟩; rw [H2.out])
          go_ret
          exact ⟨ret_bool (okL_not (by have := Hn.out; omega) Hx.out (bodyB_no2 H2.out)).symm, d, rfl⟩
    · have hkn : k = n := by omega
      subst hkn
      go_wp2_with fail
      go_ret
      exact ⟨ret_bool (okL_full Hn.out Hok.out).symm, d, rfl⟩
set_option maxHeartbeats 1000000 in
theorem l16Bodies_any (A : Option Addr) (c : Nat) (ls : List (List Int)) (w : World) (h : BodAt w A ls) (hm : ls.length ≤ 9223372036854775807) :
    Calls Try.prog 35 #[.slice A ls.length c] w fun e w' => e = .returned (.bool (ls.all bodyB && decide (ls.length ≤ 8))) ∧ ∃ d, w' = w.drewN d := by
  have Hh := hide h
  clear h
  obtain ⟨n, hn⟩ : ∃ n, ls.length = n := ⟨_, rfl⟩
  rw [hn] at hm ⊢
  have Hn := hide hn
  clear hn
  go_enter Try.func35, Try.ntmps35
  go_wp2_with fail
  go_loopw [3] (fun i wr => ∃ k d : Nat, k ≤ n ∧ i = .int .i64 k ∧ okL ls k ∧ wr = w.drewN d) (fun i _ => n - (intOf i).toNat)
  case atStart => exact ⟨0, 0, by omega, rfl, fun i hi => by omega, rfl⟩
  case round =>
    obtain ⟨k, d, hk, rfl, hok, rfl⟩ := hrel
    have Hok := hide hok
    clear hok
    by_cases hk' : k < n
    · obtain ⟨b, off, rfl, hlt, A', c', hz, hcap, hc63, hnil, hI⟩ := BodAt.at Hh.out (k := k) (by have := Hn.out; omega)
      obtain ⟨x, hx⟩ : ∃ x, ls.getD k [] = x := ⟨_, rfl⟩
      rw [hx] at hz hcap hI
      have HI := hide hI
      have Hx := hide hx
      obtain ⟨m, hmm⟩ : ∃ m, x.length = m := ⟨_, rfl⟩
      rw [hmm] at hz hcap
      have K := fun w h => l16Bytes_any A' c' x w h (by omega)
      rw [hmm] at K
      have HK := hide K
      have Hm := hide hmm
      clear hx hI hmm K hnil
      have g2 : (k : Int) < (n : Int) := by omega
      by_cases h2 : decide (bytesOk x) = true
      · have H2 := hide h2
        clear h2
        by_cases h1 : 12 < (m : Int)
        · have g3 : decide (12 < (m : Int)) = true := decide_eq_true h1
          have g4 : decide (12 < m) = true := decide_eq_true (by omega)
          go_wp2_with (go_at_call 40; refine (HK.out _ (HI.out.drewN _)).mono ?_; rintro e w' ⟨rfl, rfl⟩; rw [H2.out])
          go_ret
          exact ⟨ret_bool (by rw [okL_not (by have := Hn.out; omega) Hx.out (bodyB_no1 Hm.out (by omega))]; rfl), d, rfl⟩
        · have g3 : decide (12 < (m : Int)) = false := decide_eq_false h1
          have g4 : decide (12 < m) = false := decide_eq_false (by omega)
          go_wp2_with (go_at_call 40; refine (HK.out _ (HI.out.drewN _)).mono ?_; rintro e w' ⟨rfl, rfl⟩; rw [H2.out])
          go_roundw
          case rel => exact ⟨k + 1, d, by omega, by go_num, okL_next Hok.out Hx.out (bodyB_of Hm.out (by omega) H2.out), rfl⟩
          case measure => simp [intOf]; omega
      · have H2 := hide (show decide (bytesOk x) = false by simpa using h2)
        clear h2
        go_wp2_with (go_at_call 40; refine (HK.out _ (HI.out.drewN _)).mono ?_; rintro e w' ⟨rfl, rfl⟩; rw [H2.out])
        go_ret
        exact ⟨ret_bool (by rw [okL_not (by have := Hn.out; omega) Hx.out (bodyB_no2 H2.out)]; rfl), d, rfl⟩
    · have hkn : k = n := by omega
      subst hkn
      go_wp2_with fail
      go_ret
      exact ⟨ret_bool (by rw [okL_full Hn.out Hok.out, Bool.true_and]; first | rfl | (rw [Bool.eq_iff_iff]; simp; done) | (rw [Bool.eq_iff_iff]; simp; omega)), d, rfl⟩
end Go.Proofs.Ytppomcgkmjnpmaa
