/- Two laws on layers that are drawn: walks over the contracts. -/
import Derived.Test.YticelpaicenbkaaL1
import Derived.Test.YticelpaicenbkaaDL3
namespace Go.Proofs.Yticelpaicenbkaa
open Go.ChangeShapes Go.WideShapes Go.ChangeAt Go.RowKit

theorem walk_fnLayeredPart {H : Type} {enc : TypeId × Value → H} (W : World) (base : Nat) (v : Value) (d : DataW H) (p : List MemPlace) (o : Value.okWide Try.prog W .any base 28 v) (h : DataW.Trod enc Try.prog W 0 (fun _ => true) true 28 v d p) :
    Calls Try.prog 5 #[v] W (RetB true W) := by
  obtain ⟨A, n, c, rfl, hn, hm, hcode⟩ := open_code W base v d p o h
  clear o h
  by_cases hbig : 1048576 < (n : Int)
  · clear hcode
    go_enter Try.func5, Try.ntmps5
    go_wp2
    go_ret
    refine ⟨rfl, ?_⟩
    (repeat' (first | (with_reducible exact Below.refl _ _) | (with_reducible refine Below.alloc ?_ ?_ _) | (with_reducible refine Below.setCell ?_ ?_ _) | (with_reducible refine Below.drew ?_) | (with_reducible refine below_step (by assumption) ?_ ?_) | (with_reducible refine below_gstep (by assumption) ?_ ?_ ?_) | omega | (simp; done) | (simp; omega)))
  · have Hcode := hide hcode
    clear hcode
    go_enter Try.func5, Try.ntmps5
    go_wp2_with fail
    refine (drawLayeredValid W.heap.size A n c _ Hcode.out hn hm (Nat.le_refl _)).mono ?_
    rintro e w1 ⟨v, rfl, ⟨a, b, rfl⟩, hb1⟩
    have hz1 := hb1.size
    (try simp at hz1)
    go_wp2_with fail
    refine (implLayeredValid _ _ _).mono ?_
    rintro e w2 ⟨rfl, hb2⟩
    have hz2 := hb2.size
    (try simp at hz2)
    obtain ⟨hc, hf⟩ := bkeep hb2 (w1.heap.size) (by first | omega | (simp; done) | (simp; omega))
    have hlt : w1.heap.size < w2.heap.size := by omega
    have hle : w1.heap.size ≤ w2.heap.size := by omega
    go_wp2_with fail
    refine (specLayeredValid _ _ _).mono ?_
    rintro e w3 ⟨rfl, hb3⟩
    have hz3 := hb3.size
    (try simp at hz3)
    obtain ⟨hc, hf⟩ := bkeep hb3 (w1.heap.size) (by first | omega | (simp; done) | (simp; omega))
    have hlt : w1.heap.size < w3.heap.size := by omega
    have hle : w1.heap.size ≤ w3.heap.size := by omega
    have e1 : layB a 3 = false := by simp [layB]
    have e2 : layB (-2) b = false := by simp [layB]
    by_cases hv : layB a b = true
    · go_wp2_with fail
      refine (implLayeredValid _ _ _).mono ?_
      rintro e w4 ⟨rfl, hb4⟩
      have hz4 := hb4.size
      (try simp at hz4)
      obtain ⟨hc, hf⟩ := bkeep hb4 (w3.heap.size) (by first | omega | (simp; done) | (simp; omega))
      have hlt : w3.heap.size < w4.heap.size := by omega
      have hle : w3.heap.size ≤ w4.heap.size := by omega
      obtain ⟨hc, hf⟩ := bkeep hb4 (w3.heap.size + 1) (by first | omega | (simp; done) | (simp; omega))
      have hlt : w3.heap.size + 1 < w4.heap.size := by omega
      have hle : w3.heap.size + 1 ≤ w4.heap.size := by omega
      go_wp2_with fail
      refine (implLayeredValid _ _ _).mono ?_
      rintro e w5 ⟨rfl, hb5⟩
      have hz5 := hb5.size
      (try simp at hz5)
      go_wp2_with fail
      go_ret
      refine ⟨rfl, ?_⟩
      (repeat' (first | (with_reducible exact Below.refl _ _) | (with_reducible refine Below.alloc ?_ ?_ _) | (with_reducible refine Below.setCell ?_ ?_ _) | (with_reducible refine Below.drew ?_) | (with_reducible refine below_step (by assumption) ?_ ?_) | (with_reducible refine below_gstep (by assumption) ?_ ?_ ?_) | omega | (simp; done) | (simp; omega)))
    · have hv' : layB a b = false := by simpa using hv
      clear hv
      go_wp2_with fail
      go_ret
      refine ⟨rfl, ?_⟩
      (repeat' (first | (with_reducible exact Below.refl _ _) | (with_reducible refine Below.alloc ?_ ?_ _) | (with_reducible refine Below.setCell ?_ ?_ _) | (with_reducible refine Below.drew ?_) | (with_reducible refine below_step (by assumption) ?_ ?_) | (with_reducible refine below_gstep (by assumption) ?_ ?_ ?_) | omega | (simp; done) | (simp; omega)))
theorem walk_fnLayeredAsks {H : Type} {enc : TypeId × Value → H} (W : World) (base : Nat) (v : Value) (d : DataW H) (p : List MemPlace) (o : Value.okWide Try.prog W .any base 28 v) (h : DataW.Trod enc Try.prog W 0 (fun _ => true) true 28 v d p) :
    Calls Try.prog 6 #[v] W (RetB true W) := by
  obtain ⟨A, n, c, rfl, hn, hm, hcode⟩ := open_code W base v d p o h
  clear o h
  by_cases hbig : 1048576 < (n : Int)
  · clear hcode
    go_enter Try.func6, Try.ntmps6
    go_wp2
    go_ret
    refine ⟨rfl, ?_⟩
    (repeat' (first | (with_reducible exact Below.refl _ _) | (with_reducible refine Below.alloc ?_ ?_ _) | (with_reducible refine Below.setCell ?_ ?_ _) | (with_reducible refine Below.drew ?_) | (with_reducible refine below_step (by assumption) ?_ ?_) | (with_reducible refine below_gstep (by assumption) ?_ ?_ ?_) | omega | (simp; done) | (simp; omega)))
  · have Hcode := hide hcode
    clear hcode
    go_enter Try.func6, Try.ntmps6
    go_wp2_with fail
    refine (drawLayeredAsks W.heap.size A n c _ Hcode.out hn hm (Nat.le_refl _)).mono ?_
    rintro e w1 ⟨v, rfl, ⟨a, b, rfl⟩, hb1⟩
    have hz1 := hb1.size
    (try simp at hz1)
    go_wp2_with fail
    refine (implLayeredAsks _ _ _).mono ?_
    rintro e w2 ⟨rfl, hb2⟩
    have hz2 := hb2.size
    (try simp at hz2)
    obtain ⟨hc, hf⟩ := bkeep hb2 (w1.heap.size) (by first | omega | (simp; done) | (simp; omega))
    have hlt : w1.heap.size < w2.heap.size := by omega
    have hle : w1.heap.size ≤ w2.heap.size := by omega
    go_wp2_with fail
    refine (specLayeredAsks _ _ _).mono ?_
    rintro e w3 ⟨rfl, hb3⟩
    have hz3 := hb3.size
    (try simp at hz3)
    obtain ⟨hc, hf⟩ := bkeep hb3 (w1.heap.size) (by first | omega | (simp; done) | (simp; omega))
    have hlt : w1.heap.size < w3.heap.size := by omega
    have hle : w1.heap.size ≤ w3.heap.size := by omega
    go_wp2_with fail
    refine (implLayeredValid _ _ _).mono ?_
    rintro e w4 ⟨rfl, hb4⟩
    have hz4 := hb4.size
    (try simp at hz4)
    obtain ⟨hc, hf⟩ := bkeep hb4 (w1.heap.size) (by first | omega | (simp; done) | (simp; omega))
    have hlt : w1.heap.size < w4.heap.size := by omega
    have hle : w1.heap.size ≤ w4.heap.size := by omega
    by_cases hv : layB a b = true
    · go_wp2_with fail
      go_ret
      refine retB_mk (by simp) ?_
      (repeat' (first | (with_reducible exact Below.refl _ _) | (with_reducible refine Below.alloc ?_ ?_ _) | (with_reducible refine Below.setCell ?_ ?_ _) | (with_reducible refine Below.drew ?_) | (with_reducible refine below_step (by assumption) ?_ ?_) | (with_reducible refine below_gstep (by assumption) ?_ ?_ ?_) | omega | (simp; done) | (simp; omega)))
    · have hv' : layB a b = false := by simpa using hv
      clear hv
      go_wp2_with fail
      go_ret
      refine retB_mk (by simp) ?_
      (repeat' (first | (with_reducible exact Below.refl _ _) | (with_reducible refine Below.alloc ?_ ?_ _) | (with_reducible refine Below.setCell ?_ ?_ _) | (with_reducible refine Below.drew ?_) | (with_reducible refine below_step (by assumption) ?_ ?_) | (with_reducible refine below_gstep (by assumption) ?_ ?_ ?_) | omega | (simp; done) | (simp; omega)))
end Go.Proofs.Yticelpaicenbkaa
