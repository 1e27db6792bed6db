/- The law that a rate is within its limits: a walk over the contracts. -/
import Derived.Test.YtdebjgghhiohmaaE1
import Derived.Test.YtdebjgghhiohmaaDE1
namespace Go.Proofs.Ytdebjgghhiohmaa
open Go.ChangeShapes Go.WideShapes Go.ChangeAt Go.RowKit

theorem walk_fnEstimatePart {H : Type} {enc : TypeId × Value → H} (W : World) (base : Nat) (v : Value) (d : DataW H) (p : List MemPlace) (o : Value.okWide Try.prog W .any base 28 v) (h : DataW.Trod enc Try.prog W 0 (fun _ => true) true 28 v d p) :
    Calls Try.prog 4 #[v] W (RetB true W) := by
  obtain ⟨A, n, c, rfl, hn, hm, hcode⟩ := open_code W base v d p o h
  clear o h
  by_cases hbig : 1048576 < (n : Int)
  · clear hcode
    go_enter Try.func4, Try.ntmps4
    go_wp2
    go_ret
    refine ⟨rfl, ?_⟩
    (repeat' (first | (with_reducible exact Below.refl _ _) | (with_reducible assumption) | (with_reducible refine Below.alloc ?_ ?_ _) | (with_reducible refine Below.setCell ?_ ?_ _) | (with_reducible refine Below.drew ?_) | (with_reducible refine below_step (by assumption) ?_ ?_) | (with_reducible refine below_gstep (by assumption) ?_ ?_ ?_) | omega | (simp; done) | (simp; omega)))
  · have Hcode := hide hcode
    clear hcode
    go_enter Try.func4, Try.ntmps4
    go_wp2_with fail
    refine (drawEstimateValid W.heap.size A n c _ Hcode.out hn hm (Nat.le_refl _)).mono ?_
    rintro e w1 ⟨v, rfl, ⟨r, l, k, rfl⟩, hb1⟩
    have hz1 := hb1.size
    (try simp at hz1)
    go_wp2_with fail
    refine (implEstimateValid _ _ _ _).mono ?_
    rintro e w2 ⟨rfl, hb2⟩
    have hz2 := hb2.size
    (try simp at hz2)
    obtain ⟨hc, hf⟩ := bkeep hb2 (w1.heap.size) (by first | omega | (simp; done) | (simp; omega))
    have hlt : w1.heap.size < w2.heap.size := by omega
    have hle : w1.heap.size ≤ w2.heap.size := by omega
    go_wp2_with fail
    refine (specEstimateValid _ _ _ _).mono ?_
    rintro e w3 ⟨rfl, hb3⟩
    have hz3 := hb3.size
    (try simp at hz3)
    obtain ⟨hc, hf⟩ := bkeep hb3 (w1.heap.size) (by first | omega | (simp; done) | (simp; omega))
    have hlt : w1.heap.size < w3.heap.size := by omega
    have hle : w1.heap.size ≤ w3.heap.size := by omega
    by_cases hv : estB r l k = true
    · have hbd : 1 ≤ l ∧ l ≤ r ∧ r ≤ k ∧ k ≤ 999999 := of_decide_eq_true hv
      obtain ⟨q1, q2, q3, q4⟩ := hbd
      have e1 : estB (l - 1) l k = false := by unfold estB; simp; omega
      have e2 : estB (k + 1) l k = false := by unfold estB; simp; omega
      go_wp2_with fail
      refine (implEstimateValid _ _ _ _).mono ?_
      rintro e w4 ⟨rfl, hb4⟩
      have hz4 := hb4.size
      (try simp at hz4)
      obtain ⟨hc, hf⟩ := bkeep hb4 (w3.heap.size) (by first | omega | (simp; done) | (simp; omega))
      have hlt : w3.heap.size < w4.heap.size := by omega
      have hle : w3.heap.size ≤ w4.heap.size := by omega
      obtain ⟨hc, hf⟩ := bkeep hb4 (w3.heap.size + 1) (by first | omega | (simp; done) | (simp; omega))
      have hlt : w3.heap.size + 1 < w4.heap.size := by omega
      have hle : w3.heap.size + 1 ≤ w4.heap.size := by omega
      go_wp2_with fail
      refine (implEstimateValid _ _ _ _).mono ?_
      rintro e w5 ⟨rfl, hb5⟩
      have hz5 := hb5.size
      (try simp at hz5)
      go_wp2_with fail
      go_ret
      refine ⟨rfl, ?_⟩
      (repeat' (first | (with_reducible exact Below.refl _ _) | (with_reducible assumption) | (with_reducible refine Below.alloc ?_ ?_ _) | (with_reducible refine Below.setCell ?_ ?_ _) | (with_reducible refine Below.drew ?_) | (with_reducible refine below_step (by assumption) ?_ ?_) | (with_reducible refine below_gstep (by assumption) ?_ ?_ ?_) | omega | (simp; done) | (simp; omega)))
    · have hv' : estB r l k = false := by simpa using hv
      clear hv
      go_wp2_with fail
      go_ret
      refine ⟨rfl, ?_⟩
      (repeat' (first | (with_reducible exact Below.refl _ _) | (with_reducible assumption) | (with_reducible refine Below.alloc ?_ ?_ _) | (with_reducible refine Below.setCell ?_ ?_ _) | (with_reducible refine Below.drew ?_) | (with_reducible refine below_step (by assumption) ?_ ?_) | (with_reducible refine below_gstep (by assumption) ?_ ?_ ?_) | omega | (simp; done) | (simp; omega)))
end Go.Proofs.Ytdebjgghhiohmaa
