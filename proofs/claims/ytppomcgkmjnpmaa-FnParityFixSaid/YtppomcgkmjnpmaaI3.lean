/- Slices of ints that grow, are marked, are compared. -/
import Derived.Test.YtppomcgkmjnpmaaI2
import Derived.Test.YtppomcgkmjnpmaaRC
namespace Go.Proofs.Ytppomcgkmjnpmaa
open Go.ChangeShapes Go.WideShapes Go.ChangeAt Go.RowKit

theorem elemI : ElemOf Try.prog 25 3 1 8 := elemOf Try.underlying25 intInfo rfl (by omega) (by omega)
theorem own_ints {w : World} {g n cap : Nat} {zs : List Int} (h : Own w 3 1 g n cap (zs.map (Value.int .i64))) : IntsAt w (some ⟨g, 0, none⟩) zs := by
  have hl := h.len
  simp at hl
  refine .inr ⟨g, 0, rfl, h.lt, fun i hi => ?_⟩
  have := h.cell (j := i) (by omega)
  rw [show 0 + i = i by omega, this]
  simp [List.getElem?_eq_getElem hi]
def marksI (s : Int) (n : Nat) : List Int := (List.range n).map fun k => s + (k : Nat)
set_option maxHeartbeats 2000000 in
theorem markIntS_any (g c n : Nat) (s : Int) (zs : List Int) (w : World) (h : Own w 3 1 g n c (zs.map (Value.int .i64))) (hn : zs.length = n) (hm : n ≤ 1048576) (hs0 : 0 ≤ s) (hs1 : s ≤ 4611686018427387904) :
    Calls Try.prog 26 #[.slice (some ⟨g, 0, none⟩) n c, .int .i64 s] w fun e w' => e = .returned (.int .i64 (s + (n : Nat))) ∧ Own w' 3 1 g n c ((marksI s n).map (Value.int .i64)) ∧ w.grownBy w' (some g) := by
  have Hn := hide hn
  have H0 := hide h
  clear hn h
  go_enter Try.func26, Try.ntmps26
  go_wp2_with fail
  go_loopw [1, 5] (fun p i wr => ∃ k : Nat, k ≤ n ∧ p = .int .i64 (s + (k : Nat)) ∧ i = .int .i64 k ∧ Own wr 3 1 g n c (((List.range k).map (fun k => s + (k : Nat)) ++ zs.drop k).map (Value.int .i64)) ∧ w.grownBy wr (some g)) (fun _ i _ => n - (intOf i).toNat)
  case atStart => exact ⟨0, by omega, by simp, rfl, H0.out.conv (by simp), World.grownBy.refl _ _⟩
  case round =>
    obtain ⟨k, hk, rfl, rfl, hrow, hgr⟩ := hrel
    have lrow := hrow.lt
    by_cases hk' : k < n
    · have g2 : (k : Int) < (n : Int) := by omega
      obtain ⟨p0, hp0⟩ : ∃ p : Int, s + (k : Nat) = p := ⟨_, rfl⟩
      obtain ⟨p1, hp1⟩ : ∃ p : Int, s + (k : Nat) + 1 = p := ⟨_, rfl⟩
      have Hp := hide (show p1 = s + ((k + 1 : Nat) : Int) from by omega)
      have w0 : IntKind.i64.wrap (p0 + 1) = p1 := by rw [IntWalk.i64_in _ (by omega)]; omega
      have q0 : ∃ v, wr.cell? ⟨g, k, none⟩ = some v := own_some hrow (by omega)
      obtain ⟨v0, q0⟩ := q0
      have f0 := hrow.frozen k
      rw [hp0]
      have Hx := hide hp0
      have Hrow := hide hrow
      have Hgr := hide hgr
      clear hrow hgr hp0 hp1
      go_wp2_with fail
      go_roundw
      case rel =>
        refine ⟨k + 1, by omega, by rw [Hp.out], by go_num, ?_, ?_⟩
        · refine (Hrow.out.set k (.int .i64 p0)).conv ?_
          rw [← Hx.out, ← List.map_set]
          congr 1
          exact marks_set (fun k => s + ((k : Nat) : Int)) zs k (by have := Hn.out; omega)
        · have hgr := Hgr.out
          (repeat' (first | (with_reducible assumption) | (with_reducible refine grown_setCell ?_ ?_ _) | (left; rfl)))
      case measure => simp [intOf]; omega
    · have hkn : k = n := by omega
      subst hkn
      have Hrow := hide hrow
      have Hgr := hide hgr
      clear hrow hgr
      go_wp2_with fail
      go_ret
      exact ⟨rfl, Hrow.out.conv (by rw [List.drop_of_length_le (by have := Hn.out; omega), List.append_nil]; rfl), Hgr.out⟩
set_option maxHeartbeats 2000000 in
theorem heldIntS_any (A : Option Addr) (c n : Nat) (s : Int) (w : World) (h : IntsAt w A (marksI s n)) (hm : n ≤ 1048576) (hs0 : 0 ≤ s) (hs1 : s ≤ 4611686018427387904) :
    Calls Try.prog 27 #[.slice A n c, .int .i64 s] w fun e w' => e = .returned (.int .i64 (s + (n : Nat))) ∧ w' = w := by
  have H0 := hide h
  clear h
  have Hl := hide (show (marksI s n).length = n from by simp [marksI])
  go_enter Try.func27, Try.ntmps27
  go_wp2_with fail
  go_loopw [1, 5] (fun p i wr => ∃ k : Nat, k ≤ n ∧ p = .int .i64 (s + (k : Nat)) ∧ i = .int .i64 k ∧ wr = w) (fun _ i _ => n - (intOf i).toNat)
  case atStart => exact ⟨0, by omega, by simp, rfl, rfl⟩
  case round =>
    obtain ⟨k, hk, rfl, rfl, rfl⟩ := hrel
    by_cases hk' : k < n
    · have g2 : (k : Int) < (n : Int) := by omega
      rcases H0.out with h0 | ⟨b, off, rfl, hlt, hc⟩
      · have := Hl.out
        rw [h0] at this
        simp at this
        omega
      · have hA := hc k (by have := Hl.out; omega)
        clear hc
        have hg : (marksI s n).getD k 0 = s + (k : Nat) := by simp [marksI, List.getD_eq_getElem?_getD, hk']
        rw [hg] at hA
        clear hg
        obtain ⟨p0, hp0⟩ : ∃ p : Int, s + (k : Nat) = p := ⟨_, rfl⟩
        obtain ⟨p1, hp1⟩ : ∃ p : Int, s + (k : Nat) + 1 = p := ⟨_, rfl⟩
        have Hp := hide (show p1 = s + ((k + 1 : Nat) : Int) from by omega)
        have w0 : IntKind.i64.wrap (p0 + 1) = p1 := by rw [IntWalk.i64_in _ (by omega)]; omega
        rw [hp0] at hA ⊢
        clear hp0 hp1
        go_wp2_with fail
        go_roundw
        case rel => exact ⟨k + 1, by omega, by rw [Hp.out], by go_num, by first | rfl | trivial⟩
        case measure => simp [intOf]; omega
    · have hkn : k = n := by omega
      subst hkn
      go_wp2_with fail
      go_ret
      exact ⟨rfl, rfl⟩
set_option maxHeartbeats 1000000 in
theorem sameInts_same (A B : Option Addr) (c1 c2 : Nat) (zs : List Int) (w : World) (hA : IntsAt w A zs) (hB : IntsAt w B zs) (hm : zs.length ≤ 1048576) :
    Calls Try.prog 16 #[.slice A zs.length c1, .slice B zs.length c2] w (RetQ (.bool true) w) := by
  have HA := hide hA
  have HB := hide hB
  clear hA hB
  obtain ⟨n, hn⟩ : ∃ n, zs.length = n := ⟨_, rfl⟩
  rw [hn] at hm ⊢
  have Hn := hide hn
  clear hn
  go_enter Try.func16, Try.ntmps16
  go_wp2_with fail
  go_loopw [5] (fun i wr => ∃ k m : Nat, k ≤ n ∧ i = .int .i64 k ∧ wr = w.drewN m) (fun i _ => n - (intOf i).toNat)
  case atStart => exact ⟨0, 0, by omega, rfl, rfl⟩
  case round =>
    obtain ⟨k, m, hk, rfl, rfl⟩ := hrel
    by_cases hk' : k < n
    · rcases HA.out with h0 | ⟨b, off, rfl, hlt, hc⟩
      · have := Hn.out
        simp [h0] at this
        omega
      · rcases HB.out with h0 | ⟨b2, off2, rfl, hlt2, hc2⟩
        · have := Hn.out
          simp [h0] at this
          omega
        · have hz := hc k (by have := Hn.out; omega)
          have hz2 := hc2 k (by have := Hn.out; omega)
          obtain ⟨z, hzz⟩ : ∃ z, zs.getD k 0 = z := ⟨_, rfl⟩
          rw [hzz] at hz hz2
          have g2 : (k : Int) < (n : Int) := by omega
          clear hzz hc hc2
          go_wp2_with fail
          go_quiet (fail)
          go_wp2_with fail
          go_roundw
          case rel => exact ⟨k + 1, m + nq, by omega, by go_num, by simp⟩
          case measure => simp [intOf]; omega
    · go_wp2_with fail
      go_ret
      exact ⟨rfl, m, rfl⟩
end Go.Proofs.Ytppomcgkmjnpmaa
