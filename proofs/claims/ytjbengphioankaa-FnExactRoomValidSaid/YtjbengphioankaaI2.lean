/- Slices of ints that a law copies and compares: toIntS, eqIntS. -/
import Derived.Test.YtjbengphioankaaI
import Derived.Deep.OwnRows
namespace Go.Proofs.Ytjbengphioankaa
open Go.ChangeShapes Go.WideShapes Go.ChangeAt Go.RowKit

theorem intInfo : (Try.prog.info? 3).map (fun i => (i.zero, i.size, i.bytes)) = some (some (.int .i64 0), 1, 8) := by kernel_rfl
/-- A copy: a new row that holds the elements. -/
def Copied (zs : List Int) (w : World) (e : Ending) (w' : World) : Prop :=
  ∃ g, e = .returned (.slice (some ⟨g, 0, none⟩) zs.length zs.length) ∧ w.heap.size ≤ g ∧ w'.rowIs g 3 zs.length (fun i => .int .i64 (zs.getD i 0)) ∧ Below w.heap.size w w'
theorem ints_of_row {w : World} {g : Nat} {zs : List Int} (h : w.rowIs g 3 zs.length (fun i => .int .i64 (zs.getD i 0))) : IntsAt w (some ⟨g, 0, none⟩) zs :=
  .inr ⟨g, 0, rfl, h.lt, fun i hi => by simpa using h.cell hi⟩
set_option maxHeartbeats 1000000 in
theorem toIntS_any (A : Option Addr) (c : Nat) (zs : List Int) (w : World) (h : IntsAt w A zs) (hm : zs.length ≤ 1048576) :
    Calls Try.prog 59 #[.slice A zs.length c] w (Copied zs w) := by
  have Hh := hide h
  clear h
  obtain ⟨n, hn⟩ : ∃ n, zs.length = n := ⟨_, rfl⟩
  rw [hn] at hm
  have Hn := hide hn
  rw [hn]
  clear hn
  have hmk := run_make_row' (P := Try.prog) 76 3 (.int .i64 0) 8 Try.underlying76 intInfo rfl .i64 .i64 n (by omega) (by omega)
  go_enter Try.func59, Try.ntmps59
  go_wp2_with fail
  go_loopw [4] (fun i wr => ∃ k : Nat, k ≤ n ∧ i = .int .i64 k ∧ wr.rowIs w.heap.size 3 n (fun j => if j < k then .int .i64 (zs.getD j 0) else .int .i64 0) ∧ Below w.heap.size w wr) (fun i _ => n - (intOf i).toNat)
  case atStart =>
    refine ⟨0, by omega, rfl, ?_, ?_⟩
    · exact (World.rowIs_made _ _ _ _).congr fun i _ => by simp
    · (repeat' (first | (with_reducible exact Below.refl _ _) | (with_reducible assumption) | (with_reducible refine Below.alloc ?_ ?_ _) | (with_reducible refine Below.setCell ?_ ?_ _) | (with_reducible refine Below.drew ?_) | (with_reducible refine below_drewN' ?_ _) | (with_reducible refine below_step (by assumption) ?_ ?_) | (with_reducible refine below_gstep (by assumption) ?_ ?_ ?_) | (with_reducible exact Below.size (by assumption)) | omega | (simp; done) | (simp; omega)))
  case round =>
    obtain ⟨k, hk, rfl, hrow, hbel⟩ := hrel
    by_cases hk' : k < n
    · rcases Hh.out with h0 | ⟨b, off, rfl, hlt, hc⟩
      · have := Hn.out
        simp [h0] at this
        omega
      · have hz := (hbel.cell (p := ⟨b, off + k, none⟩) hlt).trans (hc k (by have := Hn.out; omega))
        obtain ⟨z, hzz⟩ : ∃ z, zs.getD k 0 = z := ⟨_, rfl⟩
        rw [hzz] at hz
        have Hzz := hide hzz
        have hd := hrow.cell hk'
        simp only [Nat.lt_irrefl, if_false] at hd
        have hf := hrow.frozen k
        have HR := hide (hrow.set k (.int .i64 z))
        have Hbel := hide hbel
        have g2 : (k : Int) < (n : Int) := by omega
        clear hzz hrow hbel hc
        go_wp2_with fail
        go_roundw
        case rel =>
          refine ⟨k + 1, by omega, by go_num, HR.out.congr ?_, Hbel.out.setCell (Nat.le_refl _) _⟩
          intro j hj
          by_cases hjk : j = k
          · subst hjk
            simpa using Hzz.out.symm
          · have : (j < k) = (j < k + 1) := by rw [eq_iff_iff]; omega
            simp [hjk, this]
        case measure => simp [intOf]; omega
    · have hkn : k = n := by omega
      subst hkn
      have Hrow := hide hrow
      have Hbel := hide hbel
      clear hrow hbel
      go_wp2_with fail
      go_ret
      have e := Hn.out
      refine ⟨w.heap.size, by rw [e]; rfl, Nat.le_refl _, ?_, Hbel.out⟩
      rw [e]
      exact Hrow.out.congr fun j hj => by simp [hj]
set_option maxHeartbeats 1000000 in
theorem eqIntS_same (A B : Option Addr) (c1 c2 : Nat) (zs : List Int) (w : World) (hA : IntsAt w A zs) (hB : IntsAt w B zs) (hm : zs.length ≤ 1048576) :
    Calls Try.prog 61 #[.slice A zs.length c1, .slice B zs.length c2] w (RetQ (.bool true) w) := by
  have HA := hide hA
  have HB := hide hB
  clear hA hB
  obtain ⟨n, hn⟩ : ∃ n, zs.length = n := ⟨_, rfl⟩
  rw [hn] at hm ⊢
  have Hn := hide hn
  clear hn
  go_enter Try.func61, Try.ntmps61
  go_wp2_with fail
  go_loopw [5] (fun i wr => ∃ k m : Nat, k ≤ n ∧ i = .int .i64 k ∧ wr = w.drewN m) (fun i _ => n - (intOf i).toNat)
  case atStart => exact ⟨0, 0, by omega, rfl, rfl⟩
  case round =>
    obtain ⟨k, m, hk, rfl, rfl⟩ := hrel
    by_cases hk' : k < n
    · rcases HA.out with h0 | ⟨b, off, rfl, hlt, hc⟩
      · have := Hn.out
        simp [h0] at this
        omega
      · rcases HB.out with h0 | ⟨b2, off2, rfl, hlt2, hc2⟩
        · have := Hn.out
          simp [h0] at this
          omega
        · have hz := hc k (by have := Hn.out; omega)
          have hz2 := hc2 k (by have := Hn.out; omega)
          obtain ⟨z, hzz⟩ : ∃ z, zs.getD k 0 = z := ⟨_, rfl⟩
          rw [hzz] at hz hz2
          have g2 : (k : Int) < (n : Int) := by omega
          clear hzz hc hc2
          go_wp2_with fail
          go_quiet (fail)
          go_wp2_with fail
          go_roundw
          case rel => exact ⟨k + 1, m + nq, by omega, by go_num, by simp⟩
          case measure => simp [intOf]; omega
    · go_wp2_with fail
      go_ret
      exact ⟨rfl, m, rfl⟩
end Go.Proofs.Ytjbengphioankaa
