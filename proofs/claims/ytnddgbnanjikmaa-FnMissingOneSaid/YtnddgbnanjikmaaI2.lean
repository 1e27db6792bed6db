/- Slices of ints that a law copies and compares: toIntS, eqIntS. -/
import Derived.Test.YtnddgbnanjikmaaI
import Derived.Deep.OwnRows
namespace Go.Proofs.Ytnddgbnanjikmaa
open Go.ChangeShapes Go.WideShapes Go.ChangeAt Go.RowKit

theorem intInfo : (Try.prog.info? 3).map (fun i => (i.zero, i.size, i.bytes)) = some (some (.int .i64 0), 1, 8) := by kernel_rfl
/-- A copy: a new row that holds the elements. -/
def Copied (zs : List Int) (w : World) (e : Ending) (w' : World) : Prop :=
  ∃ g, e = .returned (.slice (some ⟨g, 0, none⟩) zs.length zs.length) ∧ w.heap.size ≤ g ∧ w'.rowIs g 3 zs.length (fun i => .int .i64 (zs.getD i 0)) ∧ Below w.heap.size w w'
theorem ints_of_row {w : World} {g : Nat} {zs : List Int} (h : w.rowIs g 3 zs.length (fun i => .int .i64 (zs.getD i 0))) : IntsAt w (some ⟨g, 0, none⟩) zs :=
  .inr ⟨g, 0, rfl, h.lt, fun i hi => by simpa using h.cell hi⟩
set_option maxHeartbeats 1000000 in
theorem eqIntS_same (A B : Option Addr) (c1 c2 : Nat) (zs : List Int) (w : World) (hA : IntsAt w A zs) (hB : IntsAt w B zs) (hm : zs.length ≤ 1048576) :
    Calls Try.prog 14 #[.slice A zs.length c1, .slice B zs.length c2] w (RetQ (.bool true) w) := by
  have HA := hide hA
  have HB := hide hB
  clear hA hB
  obtain ⟨n, hn⟩ : ∃ n, zs.length = n := ⟨_, rfl⟩
  rw [hn] at hm ⊢
  have Hn := hide hn
  clear hn
  go_enter Try.func14, Try.ntmps14
  go_wp2_with fail
  go_loopw [5] (fun i wr => ∃ k m : Nat, k ≤ n ∧ i = .int .i64 k ∧ wr = w.drewN m) (fun i _ => n - (intOf i).toNat)
  case atStart => exact ⟨0, 0, by omega, rfl, rfl⟩
  case round =>
    obtain ⟨k, m, hk, rfl, rfl⟩ := hrel
    by_cases hk' : k < n
    · rcases HA.out with h0 | ⟨b, off, rfl, hlt, hc⟩
      · have := Hn.out
        simp [h0] at this
        omega
      · rcases HB.out with h0 | ⟨b2, off2, rfl, hlt2, hc2⟩
        · have := Hn.out
          simp [h0] at this
          omega
        · have hz := hc k (by have := Hn.out; omega)
          have hz2 := hc2 k (by have := Hn.out; omega)
          obtain ⟨z, hzz⟩ : ∃ z, zs.getD k 0 = z := ⟨_, rfl⟩
          rw [hzz] at hz hz2
          have g2 : (k : Int) < (n : Int) := by omega
          clear hzz hc hc2
          go_wp2_with fail
          go_quiet (fail)
          go_wp2_with fail
          go_roundw
          case rel => exact ⟨k + 1, m + nq, by omega, by go_num, by simp⟩
          case measure => simp [intOf]; omega
    · go_wp2_with fail
      go_ret
      exact ⟨rfl, m, rfl⟩
end Go.Proofs.Ytnddgbnanjikmaa
