/- Three laws on a step that is drawn: walks over the contracts. -/
import Derived.Test.YticelpaicenbkaaLS
import Derived.Test.YticelpaicenbkaaDL4
namespace Go.Proofs.Yticelpaicenbkaa
open Go.ChangeShapes Go.WideShapes Go.ChangeAt Go.RowKit

set_option maxHeartbeats 2000000 in
theorem walk_fnLayeredForward {H : Type} {enc : TypeId × Value → H} (W : World) (base : Nat) (v : Value) (d : DataW H) (p : List MemPlace) (o : Value.okWide Try.prog W .any base 28 v) (h : DataW.Trod enc Try.prog W 0 (fun _ => true) true 28 v d p) :
    Calls Try.prog 8 #[v] W (RetB true W) := by
  obtain ⟨A, n, c, rfl, hn, hm, hcode⟩ := open_code W base v d p o h
  clear o h
  by_cases hbig : 1048576 < (n : Int)
  · clear hcode
    go_enter Try.func8, Try.ntmps8
    go_wp2
    go_ret
    refine ⟨rfl, ?_⟩
    (repeat' (first | (with_reducible exact Below.refl _ _) | (with_reducible assumption) | (with_reducible refine Below.alloc ?_ ?_ _) | (with_reducible refine Below.setCell ?_ ?_ _) | (with_reducible refine Below.drew ?_) | (with_reducible refine below_step (by assumption) ?_ ?_) | (with_reducible refine below_gstep (by assumption) ?_ ?_ ?_) | omega | (simp; done) | (simp; omega)))
  · have Hcode := hide hcode
    clear hcode
    go_enter Try.func8, Try.ntmps8
    go_wp2_with fail
    refine (drawLayeredStep W.heap.size A n c _ Hcode.out hn hm (Nat.le_refl _)).mono ?_
    rintro e w1 ⟨v, rfl, ⟨a, b, wd, tm, ly, sz, ky, la, rfl⟩, hb1⟩
    have hz1 := hb1.size
    (try simp at hz1)
    by_cases hv : layB a b = true
    · by_cases hp : pkB wd tm ly sz = true
      · obtain ⟨N, hN⟩ : ∃ N, N = stepN a b ly ky := ⟨_, rfl⟩
        have HN := hide hN
        clear hN
        go_wp2_with fail
        refine (implStep_yes a b N _ _ _ _ _ _ _ hv hp HN.out).mono ?_
        rintro e w2 ⟨rfl, hb2⟩
        have hz2 := hb2.size
        (try simp at hz2)
        obtain ⟨hc, hf⟩ := bkeep hb2 (w1.heap.size) (by first | omega | (simp; done) | (simp; omega))
        have hlt : w1.heap.size < w2.heap.size := by omega
        have hle : w1.heap.size ≤ w2.heap.size := by omega
        obtain ⟨hc, hf⟩ := bkeep hb2 (w1.heap.size + 1) (by first | omega | (simp; done) | (simp; omega))
        have hlt : w1.heap.size + 1 < w2.heap.size := by omega
        have hle : w1.heap.size + 1 ≤ w2.heap.size := by omega
        go_wp2_with fail
        refine (specStep_yes a b N _ _ _ _ _ _ _ hv hp HN.out).mono ?_
        rintro e w3 ⟨rfl, hb3⟩
        have hz3 := hb3.size
        (try simp at hz3)
        obtain ⟨hc, hf⟩ := bkeep hb3 (w1.heap.size) (by first | omega | (simp; done) | (simp; omega))
        have hlt : w1.heap.size < w3.heap.size := by omega
        have hle : w1.heap.size ≤ w3.heap.size := by omega
        obtain ⟨hc, hf⟩ := bkeep hb3 (w1.heap.size + 1) (by first | omega | (simp; done) | (simp; omega))
        have hlt : w1.heap.size + 1 < w3.heap.size := by omega
        have hle : w1.heap.size + 1 ≤ w3.heap.size := by omega
        obtain ⟨hc, hf⟩ := bkeep hb3 (w2.heap.size) (by first | omega | (simp; done) | (simp; omega))
        have hlt : w2.heap.size < w3.heap.size := by omega
        have hle : w2.heap.size ≤ w3.heap.size := by omega
        go_wp2_with fail
        refine (specLayeredValid _ _ _).mono ?_
        rintro e w4 ⟨rfl, hb4⟩
        have hz4 := hb4.size
        (try simp at hz4)
        obtain ⟨hc, hf⟩ := bkeep hb4 (w1.heap.size) (by first | omega | (simp; done) | (simp; omega))
        have hlt : w1.heap.size < w4.heap.size := by omega
        have hle : w1.heap.size ≤ w4.heap.size := by omega
        obtain ⟨hc, hf⟩ := bkeep hb4 (w1.heap.size + 1) (by first | omega | (simp; done) | (simp; omega))
        have hlt : w1.heap.size + 1 < w4.heap.size := by omega
        have hle : w1.heap.size + 1 ≤ w4.heap.size := by omega
        obtain ⟨hc, hf⟩ := bkeep hb4 (w2.heap.size) (by first | omega | (simp; done) | (simp; omega))
        have hlt : w2.heap.size < w4.heap.size := by omega
        have hle : w2.heap.size ≤ w4.heap.size := by omega
        obtain ⟨hc, hf⟩ := bkeep hb4 (w3.heap.size) (by first | omega | (simp; done) | (simp; omega))
        have hlt : w3.heap.size < w4.heap.size := by omega
        have hle : w3.heap.size ≤ w4.heap.size := by omega
        go_wp2_with fail
        refine (specPacketValid _ _ _ _ _ _ _).mono ?_
        rintro e w5 ⟨rfl, hb5⟩
        have hz5 := hb5.size
        (try simp at hz5)
        obtain ⟨hc, hf⟩ := bkeep hb5 (w1.heap.size) (by first | omega | (simp; done) | (simp; omega))
        have hlt : w1.heap.size < w5.heap.size := by omega
        have hle : w1.heap.size ≤ w5.heap.size := by omega
        obtain ⟨hc, hf⟩ := bkeep hb5 (w1.heap.size + 1) (by first | omega | (simp; done) | (simp; omega))
        have hlt : w1.heap.size + 1 < w5.heap.size := by omega
        have hle : w1.heap.size + 1 ≤ w5.heap.size := by omega
        obtain ⟨hc, hf⟩ := bkeep hb5 (w2.heap.size) (by first | omega | (simp; done) | (simp; omega))
        have hlt : w2.heap.size < w5.heap.size := by omega
        have hle : w2.heap.size ≤ w5.heap.size := by omega
        obtain ⟨hc, hf⟩ := bkeep hb5 (w3.heap.size) (by first | omega | (simp; done) | (simp; omega))
        have hlt : w3.heap.size < w5.heap.size := by omega
        have hle : w3.heap.size ≤ w5.heap.size := by omega
        go_wp2_with fail
        go_ret
        refine retB_mk (by first | rfl | simp) ?_
        (repeat' (first | (with_reducible exact Below.refl _ _) | (with_reducible assumption) | (with_reducible refine Below.alloc ?_ ?_ _) | (with_reducible refine Below.setCell ?_ ?_ _) | (with_reducible refine Below.drew ?_) | (with_reducible refine below_step (by assumption) ?_ ?_) | (with_reducible refine below_gstep (by assumption) ?_ ?_ ?_) | omega | (simp; done) | (simp; omega)))
      · have hp' : pkB wd tm ly sz = false := by simpa using hp
        clear hp
        go_wp2_with fail
        refine (implStep_no a b _ _ _ _ _ _ _ (.inr ⟨hv, hp'⟩)).mono ?_
        rintro e w2 ⟨rfl, hb2⟩
        have hz2 := hb2.size
        (try simp at hz2)
        obtain ⟨hc, hf⟩ := bkeep hb2 (w1.heap.size) (by first | omega | (simp; done) | (simp; omega))
        have hlt : w1.heap.size < w2.heap.size := by omega
        have hle : w1.heap.size ≤ w2.heap.size := by omega
        obtain ⟨hc, hf⟩ := bkeep hb2 (w1.heap.size + 1) (by first | omega | (simp; done) | (simp; omega))
        have hlt : w1.heap.size + 1 < w2.heap.size := by omega
        have hle : w1.heap.size + 1 ≤ w2.heap.size := by omega
        go_wp2_with fail
        refine (specStep_no a b _ _ _ _ _ _ _ (.inr ⟨hv, hp'⟩)).mono ?_
        rintro e w3 ⟨rfl, hb3⟩
        have hz3 := hb3.size
        (try simp at hz3)
        obtain ⟨hc, hf⟩ := bkeep hb3 (w1.heap.size) (by first | omega | (simp; done) | (simp; omega))
        have hlt : w1.heap.size < w3.heap.size := by omega
        have hle : w1.heap.size ≤ w3.heap.size := by omega
        obtain ⟨hc, hf⟩ := bkeep hb3 (w1.heap.size + 1) (by first | omega | (simp; done) | (simp; omega))
        have hlt : w1.heap.size + 1 < w3.heap.size := by omega
        have hle : w1.heap.size + 1 ≤ w3.heap.size := by omega
        obtain ⟨hc, hf⟩ := bkeep hb3 (w2.heap.size) (by first | omega | (simp; done) | (simp; omega))
        have hlt : w2.heap.size < w3.heap.size := by omega
        have hle : w2.heap.size ≤ w3.heap.size := by omega
        go_wp2_with fail
        refine (specLayeredValid _ _ _).mono ?_
        rintro e w4 ⟨rfl, hb4⟩
        have hz4 := hb4.size
        (try simp at hz4)
        obtain ⟨hc, hf⟩ := bkeep hb4 (w1.heap.size) (by first | omega | (simp; done) | (simp; omega))
        have hlt : w1.heap.size < w4.heap.size := by omega
        have hle : w1.heap.size ≤ w4.heap.size := by omega
        obtain ⟨hc, hf⟩ := bkeep hb4 (w1.heap.size + 1) (by first | omega | (simp; done) | (simp; omega))
        have hlt : w1.heap.size + 1 < w4.heap.size := by omega
        have hle : w1.heap.size + 1 ≤ w4.heap.size := by omega
        obtain ⟨hc, hf⟩ := bkeep hb4 (w2.heap.size) (by first | omega | (simp; done) | (simp; omega))
        have hlt : w2.heap.size < w4.heap.size := by omega
        have hle : w2.heap.size ≤ w4.heap.size := by omega
        obtain ⟨hc, hf⟩ := bkeep hb4 (w3.heap.size) (by first | omega | (simp; done) | (simp; omega))
        have hlt : w3.heap.size < w4.heap.size := by omega
        have hle : w3.heap.size ≤ w4.heap.size := by omega
        go_wp2_with fail
        refine (specPacketValid _ _ _ _ _ _ _).mono ?_
        rintro e w5 ⟨rfl, hb5⟩
        have hz5 := hb5.size
        (try simp at hz5)
        obtain ⟨hc, hf⟩ := bkeep hb5 (w1.heap.size) (by first | omega | (simp; done) | (simp; omega))
        have hlt : w1.heap.size < w5.heap.size := by omega
        have hle : w1.heap.size ≤ w5.heap.size := by omega
        obtain ⟨hc, hf⟩ := bkeep hb5 (w1.heap.size + 1) (by first | omega | (simp; done) | (simp; omega))
        have hlt : w1.heap.size + 1 < w5.heap.size := by omega
        have hle : w1.heap.size + 1 ≤ w5.heap.size := by omega
        obtain ⟨hc, hf⟩ := bkeep hb5 (w2.heap.size) (by first | omega | (simp; done) | (simp; omega))
        have hlt : w2.heap.size < w5.heap.size := by omega
        have hle : w2.heap.size ≤ w5.heap.size := by omega
        obtain ⟨hc, hf⟩ := bkeep hb5 (w3.heap.size) (by first | omega | (simp; done) | (simp; omega))
        have hlt : w3.heap.size < w5.heap.size := by omega
        have hle : w3.heap.size ≤ w5.heap.size := by omega
        go_wp2_with fail
        go_ret
        refine retB_mk (by first | rfl | simp) ?_
        (repeat' (first | (with_reducible exact Below.refl _ _) | (with_reducible assumption) | (with_reducible refine Below.alloc ?_ ?_ _) | (with_reducible refine Below.setCell ?_ ?_ _) | (with_reducible refine Below.drew ?_) | (with_reducible refine below_step (by assumption) ?_ ?_) | (with_reducible refine below_gstep (by assumption) ?_ ?_ ?_) | omega | (simp; done) | (simp; omega)))
    · have hv' : layB a b = false := by simpa using hv
      clear hv
      go_wp2_with fail
      refine (implStep_no a b _ _ _ _ _ _ _ (.inl hv')).mono ?_
      rintro e w2 ⟨rfl, hb2⟩
      have hz2 := hb2.size
      (try simp at hz2)
      obtain ⟨hc, hf⟩ := bkeep hb2 (w1.heap.size) (by first | omega | (simp; done) | (simp; omega))
      have hlt : w1.heap.size < w2.heap.size := by omega
      have hle : w1.heap.size ≤ w2.heap.size := by omega
      obtain ⟨hc, hf⟩ := bkeep hb2 (w1.heap.size + 1) (by first | omega | (simp; done) | (simp; omega))
      have hlt : w1.heap.size + 1 < w2.heap.size := by omega
      have hle : w1.heap.size + 1 ≤ w2.heap.size := by omega
      go_wp2_with fail
      refine (specStep_no a b _ _ _ _ _ _ _ (.inl hv')).mono ?_
      rintro e w3 ⟨rfl, hb3⟩
      have hz3 := hb3.size
      (try simp at hz3)
      obtain ⟨hc, hf⟩ := bkeep hb3 (w1.heap.size) (by first | omega | (simp; done) | (simp; omega))
      have hlt : w1.heap.size < w3.heap.size := by omega
      have hle : w1.heap.size ≤ w3.heap.size := by omega
      obtain ⟨hc, hf⟩ := bkeep hb3 (w1.heap.size + 1) (by first | omega | (simp; done) | (simp; omega))
      have hlt : w1.heap.size + 1 < w3.heap.size := by omega
      have hle : w1.heap.size + 1 ≤ w3.heap.size := by omega
      obtain ⟨hc, hf⟩ := bkeep hb3 (w2.heap.size) (by first | omega | (simp; done) | (simp; omega))
      have hlt : w2.heap.size < w3.heap.size := by omega
      have hle : w2.heap.size ≤ w3.heap.size := by omega
      go_wp2_with fail
      refine (specLayeredValid _ _ _).mono ?_
      rintro e w4 ⟨rfl, hb4⟩
      have hz4 := hb4.size
      (try simp at hz4)
      obtain ⟨hc, hf⟩ := bkeep hb4 (w1.heap.size) (by first | omega | (simp; done) | (simp; omega))
      have hlt : w1.heap.size < w4.heap.size := by omega
      have hle : w1.heap.size ≤ w4.heap.size := by omega
      obtain ⟨hc, hf⟩ := bkeep hb4 (w1.heap.size + 1) (by first | omega | (simp; done) | (simp; omega))
      have hlt : w1.heap.size + 1 < w4.heap.size := by omega
      have hle : w1.heap.size + 1 ≤ w4.heap.size := by omega
      obtain ⟨hc, hf⟩ := bkeep hb4 (w2.heap.size) (by first | omega | (simp; done) | (simp; omega))
      have hlt : w2.heap.size < w4.heap.size := by omega
      have hle : w2.heap.size ≤ w4.heap.size := by omega
      obtain ⟨hc, hf⟩ := bkeep hb4 (w3.heap.size) (by first | omega | (simp; done) | (simp; omega))
      have hlt : w3.heap.size < w4.heap.size := by omega
      have hle : w3.heap.size ≤ w4.heap.size := by omega
      go_wp2_with fail
      go_ret
      refine retB_mk (by first | rfl | simp) ?_
      (repeat' (first | (with_reducible exact Below.refl _ _) | (with_reducible assumption) | (with_reducible refine Below.alloc ?_ ?_ _) | (with_reducible refine Below.setCell ?_ ?_ _) | (with_reducible refine Below.drew ?_) | (with_reducible refine below_step (by assumption) ?_ ?_) | (with_reducible refine below_gstep (by assumption) ?_ ?_ ?_) | omega | (simp; done) | (simp; omega)))
set_option maxHeartbeats 2000000 in
theorem walk_fnLayeredKey {H : Type} {enc : TypeId × Value → H} (W : World) (base : Nat) (v : Value) (d : DataW H) (p : List MemPlace) (o : Value.okWide Try.prog W .any base 28 v) (h : DataW.Trod enc Try.prog W 0 (fun _ => true) true 28 v d p) :
    Calls Try.prog 9 #[v] W (RetB true W) := by
  obtain ⟨A, n, c, rfl, hn, hm, hcode⟩ := open_code W base v d p o h
  clear o h
  by_cases hbig : 1048576 < (n : Int)
  · clear hcode
    go_enter Try.func9, Try.ntmps9
    go_wp2
    go_ret
    refine ⟨rfl, ?_⟩
    (repeat' (first | (with_reducible exact Below.refl _ _) | (with_reducible assumption) | (with_reducible refine Below.alloc ?_ ?_ _) | (with_reducible refine Below.setCell ?_ ?_ _) | (with_reducible refine Below.drew ?_) | (with_reducible refine below_step (by assumption) ?_ ?_) | (with_reducible refine below_gstep (by assumption) ?_ ?_ ?_) | omega | (simp; done) | (simp; omega)))
  · have Hcode := hide hcode
    clear hcode
    go_enter Try.func9, Try.ntmps9
    go_wp2_with fail
    refine (drawLayeredStep W.heap.size A n c _ Hcode.out hn hm (Nat.le_refl _)).mono ?_
    rintro e w1 ⟨v, rfl, ⟨a, b, wd, tm, ly, sz, ky, la, rfl⟩, hb1⟩
    have hz1 := hb1.size
    (try simp at hz1)
    by_cases hv : layB a b = true
    · by_cases hp : pkB wd tm ly sz = true
      · obtain ⟨N, hN⟩ : ∃ N, N = stepN a b ly ky := ⟨_, rfl⟩
        have HN := hide hN
        clear hN
        go_wp2_with fail
        refine (implStep_yes a b N _ _ _ _ _ _ _ hv hp HN.out).mono ?_
        rintro e w2 ⟨rfl, hb2⟩
        have hz2 := hb2.size
        (try simp at hz2)
        obtain ⟨hc, hf⟩ := bkeep hb2 (w1.heap.size) (by first | omega | (simp; done) | (simp; omega))
        have hlt : w1.heap.size < w2.heap.size := by omega
        have hle : w1.heap.size ≤ w2.heap.size := by omega
        obtain ⟨hc, hf⟩ := bkeep hb2 (w1.heap.size + 1) (by first | omega | (simp; done) | (simp; omega))
        have hlt : w1.heap.size + 1 < w2.heap.size := by omega
        have hle : w1.heap.size + 1 ≤ w2.heap.size := by omega
        go_wp2_with fail
        refine (specStep_yes a b N _ _ _ _ _ _ _ hv hp HN.out).mono ?_
        rintro e w3 ⟨rfl, hb3⟩
        have hz3 := hb3.size
        (try simp at hz3)
        obtain ⟨hc, hf⟩ := bkeep hb3 (w1.heap.size) (by first | omega | (simp; done) | (simp; omega))
        have hlt : w1.heap.size < w3.heap.size := by omega
        have hle : w1.heap.size ≤ w3.heap.size := by omega
        obtain ⟨hc, hf⟩ := bkeep hb3 (w1.heap.size + 1) (by first | omega | (simp; done) | (simp; omega))
        have hlt : w1.heap.size + 1 < w3.heap.size := by omega
        have hle : w1.heap.size + 1 ≤ w3.heap.size := by omega
        obtain ⟨hc, hf⟩ := bkeep hb3 (w2.heap.size) (by first | omega | (simp; done) | (simp; omega))
        have hlt : w2.heap.size < w3.heap.size := by omega
        have hle : w2.heap.size ≤ w3.heap.size := by omega
        go_wp2_with fail
        refine (specLayeredValid _ _ _).mono ?_
        rintro e w4 ⟨rfl, hb4⟩
        have hz4 := hb4.size
        (try simp at hz4)
        obtain ⟨hc, hf⟩ := bkeep hb4 (w1.heap.size) (by first | omega | (simp; done) | (simp; omega))
        have hlt : w1.heap.size < w4.heap.size := by omega
        have hle : w1.heap.size ≤ w4.heap.size := by omega
        obtain ⟨hc, hf⟩ := bkeep hb4 (w1.heap.size + 1) (by first | omega | (simp; done) | (simp; omega))
        have hlt : w1.heap.size + 1 < w4.heap.size := by omega
        have hle : w1.heap.size + 1 ≤ w4.heap.size := by omega
        obtain ⟨hc, hf⟩ := bkeep hb4 (w2.heap.size) (by first | omega | (simp; done) | (simp; omega))
        have hlt : w2.heap.size < w4.heap.size := by omega
        have hle : w2.heap.size ≤ w4.heap.size := by omega
        obtain ⟨hc, hf⟩ := bkeep hb4 (w3.heap.size) (by first | omega | (simp; done) | (simp; omega))
        have hlt : w3.heap.size < w4.heap.size := by omega
        have hle : w3.heap.size ≤ w4.heap.size := by omega
        go_wp2_with fail
        refine (specPacketValid _ _ _ _ _ _ _).mono ?_
        rintro e w5 ⟨rfl, hb5⟩
        have hz5 := hb5.size
        (try simp at hz5)
        obtain ⟨hc, hf⟩ := bkeep hb5 (w1.heap.size) (by first | omega | (simp; done) | (simp; omega))
        have hlt : w1.heap.size < w5.heap.size := by omega
        have hle : w1.heap.size ≤ w5.heap.size := by omega
        obtain ⟨hc, hf⟩ := bkeep hb5 (w1.heap.size + 1) (by first | omega | (simp; done) | (simp; omega))
        have hlt : w1.heap.size + 1 < w5.heap.size := by omega
        have hle : w1.heap.size + 1 ≤ w5.heap.size := by omega
        obtain ⟨hc, hf⟩ := bkeep hb5 (w2.heap.size) (by first | omega | (simp; done) | (simp; omega))
        have hlt : w2.heap.size < w5.heap.size := by omega
        have hle : w2.heap.size ≤ w5.heap.size := by omega
        obtain ⟨hc, hf⟩ := bkeep hb5 (w3.heap.size) (by first | omega | (simp; done) | (simp; omega))
        have hlt : w3.heap.size < w5.heap.size := by omega
        have hle : w3.heap.size ≤ w5.heap.size := by omega
        by_cases hk : ly = b ∧ ky = true
        · obtain ⟨rfl, rfl⟩ := hk
          obtain rfl : N = ly := HN.out.trans (if_pos ⟨rfl, rfl⟩)
          clear HN
          go_wp2_with fail
          all_goals
            go_ret
            refine retB_mk (by first | rfl | simp | simp_all) ?_
            (repeat' (first | (with_reducible exact Below.refl _ _) | (with_reducible assumption) | (with_reducible refine Below.alloc ?_ ?_ _) | (with_reducible refine Below.setCell ?_ ?_ _) | (with_reducible refine Below.drew ?_) | (with_reducible refine below_step (by assumption) ?_ ?_) | (with_reducible refine below_gstep (by assumption) ?_ ?_ ?_) | omega | (simp; done) | (simp; omega)))
        · obtain rfl : N = a := HN.out.trans (if_neg hk)
          clear HN hk
          go_wp2_with fail
          all_goals
            go_ret
            refine retB_mk (by first | rfl | simp | simp_all) ?_
            (repeat' (first | (with_reducible exact Below.refl _ _) | (with_reducible assumption) | (with_reducible refine Below.alloc ?_ ?_ _) | (with_reducible refine Below.setCell ?_ ?_ _) | (with_reducible refine Below.drew ?_) | (with_reducible refine below_step (by assumption) ?_ ?_) | (with_reducible refine below_gstep (by assumption) ?_ ?_ ?_) | omega | (simp; done) | (simp; omega)))
      · have hp' : pkB wd tm ly sz = false := by simpa using hp
        clear hp
        go_wp2_with fail
        refine (implStep_no a b _ _ _ _ _ _ _ (.inr ⟨hv, hp'⟩)).mono ?_
        rintro e w2 ⟨rfl, hb2⟩
        have hz2 := hb2.size
        (try simp at hz2)
        obtain ⟨hc, hf⟩ := bkeep hb2 (w1.heap.size) (by first | omega | (simp; done) | (simp; omega))
        have hlt : w1.heap.size < w2.heap.size := by omega
        have hle : w1.heap.size ≤ w2.heap.size := by omega
        obtain ⟨hc, hf⟩ := bkeep hb2 (w1.heap.size + 1) (by first | omega | (simp; done) | (simp; omega))
        have hlt : w1.heap.size + 1 < w2.heap.size := by omega
        have hle : w1.heap.size + 1 ≤ w2.heap.size := by omega
        go_wp2_with fail
        refine (specStep_no a b _ _ _ _ _ _ _ (.inr ⟨hv, hp'⟩)).mono ?_
        rintro e w3 ⟨rfl, hb3⟩
        have hz3 := hb3.size
        (try simp at hz3)
        obtain ⟨hc, hf⟩ := bkeep hb3 (w1.heap.size) (by first | omega | (simp; done) | (simp; omega))
        have hlt : w1.heap.size < w3.heap.size := by omega
        have hle : w1.heap.size ≤ w3.heap.size := by omega
        obtain ⟨hc, hf⟩ := bkeep hb3 (w1.heap.size + 1) (by first | omega | (simp; done) | (simp; omega))
        have hlt : w1.heap.size + 1 < w3.heap.size := by omega
        have hle : w1.heap.size + 1 ≤ w3.heap.size := by omega
        obtain ⟨hc, hf⟩ := bkeep hb3 (w2.heap.size) (by first | omega | (simp; done) | (simp; omega))
        have hlt : w2.heap.size < w3.heap.size := by omega
        have hle : w2.heap.size ≤ w3.heap.size := by omega
        go_wp2_with fail
        refine (specLayeredValid _ _ _).mono ?_
        rintro e w4 ⟨rfl, hb4⟩
        have hz4 := hb4.size
        (try simp at hz4)
        obtain ⟨hc, hf⟩ := bkeep hb4 (w1.heap.size) (by first | omega | (simp; done) | (simp; omega))
        have hlt : w1.heap.size < w4.heap.size := by omega
        have hle : w1.heap.size ≤ w4.heap.size := by omega
        obtain ⟨hc, hf⟩ := bkeep hb4 (w1.heap.size + 1) (by first | omega | (simp; done) | (simp; omega))
        have hlt : w1.heap.size + 1 < w4.heap.size := by omega
        have hle : w1.heap.size + 1 ≤ w4.heap.size := by omega
        obtain ⟨hc, hf⟩ := bkeep hb4 (w2.heap.size) (by first | omega | (simp; done) | (simp; omega))
        have hlt : w2.heap.size < w4.heap.size := by omega
        have hle : w2.heap.size ≤ w4.heap.size := by omega
        obtain ⟨hc, hf⟩ := bkeep hb4 (w3.heap.size) (by first | omega | (simp; done) | (simp; omega))
        have hlt : w3.heap.size < w4.heap.size := by omega
        have hle : w3.heap.size ≤ w4.heap.size := by omega
        go_wp2_with fail
        refine (specPacketValid _ _ _ _ _ _ _).mono ?_
        rintro e w5 ⟨rfl, hb5⟩
        have hz5 := hb5.size
        (try simp at hz5)
        obtain ⟨hc, hf⟩ := bkeep hb5 (w1.heap.size) (by first | omega | (simp; done) | (simp; omega))
        have hlt : w1.heap.size < w5.heap.size := by omega
        have hle : w1.heap.size ≤ w5.heap.size := by omega
        obtain ⟨hc, hf⟩ := bkeep hb5 (w1.heap.size + 1) (by first | omega | (simp; done) | (simp; omega))
        have hlt : w1.heap.size + 1 < w5.heap.size := by omega
        have hle : w1.heap.size + 1 ≤ w5.heap.size := by omega
        obtain ⟨hc, hf⟩ := bkeep hb5 (w2.heap.size) (by first | omega | (simp; done) | (simp; omega))
        have hlt : w2.heap.size < w5.heap.size := by omega
        have hle : w2.heap.size ≤ w5.heap.size := by omega
        obtain ⟨hc, hf⟩ := bkeep hb5 (w3.heap.size) (by first | omega | (simp; done) | (simp; omega))
        have hlt : w3.heap.size < w5.heap.size := by omega
        have hle : w3.heap.size ≤ w5.heap.size := by omega
        go_wp2_with fail
        go_ret
        refine retB_mk (by first | rfl | simp) ?_
        (repeat' (first | (with_reducible exact Below.refl _ _) | (with_reducible assumption) | (with_reducible refine Below.alloc ?_ ?_ _) | (with_reducible refine Below.setCell ?_ ?_ _) | (with_reducible refine Below.drew ?_) | (with_reducible refine below_step (by assumption) ?_ ?_) | (with_reducible refine below_gstep (by assumption) ?_ ?_ ?_) | omega | (simp; done) | (simp; omega)))
    · have hv' : layB a b = false := by simpa using hv
      clear hv
      go_wp2_with fail
      refine (implStep_no a b _ _ _ _ _ _ _ (.inl hv')).mono ?_
      rintro e w2 ⟨rfl, hb2⟩
      have hz2 := hb2.size
      (try simp at hz2)
      obtain ⟨hc, hf⟩ := bkeep hb2 (w1.heap.size) (by first | omega | (simp; done) | (simp; omega))
      have hlt : w1.heap.size < w2.heap.size := by omega
      have hle : w1.heap.size ≤ w2.heap.size := by omega
      obtain ⟨hc, hf⟩ := bkeep hb2 (w1.heap.size + 1) (by first | omega | (simp; done) | (simp; omega))
      have hlt : w1.heap.size + 1 < w2.heap.size := by omega
      have hle : w1.heap.size + 1 ≤ w2.heap.size := by omega
      go_wp2_with fail
      refine (specStep_no a b _ _ _ _ _ _ _ (.inl hv')).mono ?_
      rintro e w3 ⟨rfl, hb3⟩
      have hz3 := hb3.size
      (try simp at hz3)
      obtain ⟨hc, hf⟩ := bkeep hb3 (w1.heap.size) (by first | omega | (simp; done) | (simp; omega))
      have hlt : w1.heap.size < w3.heap.size := by omega
      have hle : w1.heap.size ≤ w3.heap.size := by omega
      obtain ⟨hc, hf⟩ := bkeep hb3 (w1.heap.size + 1) (by first | omega | (simp; done) | (simp; omega))
      have hlt : w1.heap.size + 1 < w3.heap.size := by omega
      have hle : w1.heap.size + 1 ≤ w3.heap.size := by omega
      obtain ⟨hc, hf⟩ := bkeep hb3 (w2.heap.size) (by first | omega | (simp; done) | (simp; omega))
      have hlt : w2.heap.size < w3.heap.size := by omega
      have hle : w2.heap.size ≤ w3.heap.size := by omega
      go_wp2_with fail
      refine (specLayeredValid _ _ _).mono ?_
      rintro e w4 ⟨rfl, hb4⟩
      have hz4 := hb4.size
      (try simp at hz4)
      obtain ⟨hc, hf⟩ := bkeep hb4 (w1.heap.size) (by first | omega | (simp; done) | (simp; omega))
      have hlt : w1.heap.size < w4.heap.size := by omega
      have hle : w1.heap.size ≤ w4.heap.size := by omega
      obtain ⟨hc, hf⟩ := bkeep hb4 (w1.heap.size + 1) (by first | omega | (simp; done) | (simp; omega))
      have hlt : w1.heap.size + 1 < w4.heap.size := by omega
      have hle : w1.heap.size + 1 ≤ w4.heap.size := by omega
      obtain ⟨hc, hf⟩ := bkeep hb4 (w2.heap.size) (by first | omega | (simp; done) | (simp; omega))
      have hlt : w2.heap.size < w4.heap.size := by omega
      have hle : w2.heap.size ≤ w4.heap.size := by omega
      obtain ⟨hc, hf⟩ := bkeep hb4 (w3.heap.size) (by first | omega | (simp; done) | (simp; omega))
      have hlt : w3.heap.size < w4.heap.size := by omega
      have hle : w3.heap.size ≤ w4.heap.size := by omega
      go_wp2_with fail
      go_ret
      refine retB_mk (by first | rfl | simp) ?_
      (repeat' (first | (with_reducible exact Below.refl _ _) | (with_reducible assumption) | (with_reducible refine Below.alloc ?_ ?_ _) | (with_reducible refine Below.setCell ?_ ?_ _) | (with_reducible refine Below.drew ?_) | (with_reducible refine below_step (by assumption) ?_ ?_) | (with_reducible refine below_gstep (by assumption) ?_ ?_ ?_) | omega | (simp; done) | (simp; omega)))
set_option maxHeartbeats 2000000 in
theorem walk_fnLayeredTwice {H : Type} {enc : TypeId × Value → H} (W : World) (base : Nat) (v : Value) (d : DataW H) (p : List MemPlace) (o : Value.okWide Try.prog W .any base 28 v) (h : DataW.Trod enc Try.prog W 0 (fun _ => true) true 28 v d p) :
    Calls Try.prog 10 #[v] W (RetB true W) := by
  obtain ⟨A, n, c, rfl, hn, hm, hcode⟩ := open_code W base v d p o h
  clear o h
  by_cases hbig : 1048576 < (n : Int)
  · clear hcode
    go_enter Try.func10, Try.ntmps10
    go_wp2
    go_ret
    refine ⟨rfl, ?_⟩
    (repeat' (first | (with_reducible exact Below.refl _ _) | (with_reducible assumption) | (with_reducible refine Below.alloc ?_ ?_ _) | (with_reducible refine Below.setCell ?_ ?_ _) | (with_reducible refine Below.drew ?_) | (with_reducible refine below_step (by assumption) ?_ ?_) | (with_reducible refine below_gstep (by assumption) ?_ ?_ ?_) | omega | (simp; done) | (simp; omega)))
  · have Hcode := hide hcode
    clear hcode
    go_enter Try.func10, Try.ntmps10
    go_wp2_with fail
    refine (drawLayeredStep W.heap.size A n c _ Hcode.out hn hm (Nat.le_refl _)).mono ?_
    rintro e w1 ⟨v, rfl, ⟨a, b, wd, tm, ly, sz, ky, la, rfl⟩, hb1⟩
    have hz1 := hb1.size
    (try simp at hz1)
    by_cases hv : layB a b = true
    · by_cases hp : pkB wd tm ly sz = true
      · obtain ⟨N, hN⟩ : ∃ N, N = stepN a b ly ky := ⟨_, rfl⟩
        have HN := hide hN
        clear hN
        go_wp2_with fail
        refine (implStep_yes a b N _ _ _ _ _ _ _ hv hp HN.out).mono ?_
        rintro e w2 ⟨rfl, hb2⟩
        have hz2 := hb2.size
        (try simp at hz2)
        obtain ⟨hc, hf⟩ := bkeep hb2 (w1.heap.size) (by first | omega | (simp; done) | (simp; omega))
        have hlt : w1.heap.size < w2.heap.size := by omega
        have hle : w1.heap.size ≤ w2.heap.size := by omega
        obtain ⟨hc, hf⟩ := bkeep hb2 (w1.heap.size + 1) (by first | omega | (simp; done) | (simp; omega))
        have hlt : w1.heap.size + 1 < w2.heap.size := by omega
        have hle : w1.heap.size + 1 ≤ w2.heap.size := by omega
        go_wp2_with fail
        refine (specStep_yes a b N _ _ _ _ _ _ _ hv hp HN.out).mono ?_
        rintro e w3 ⟨rfl, hb3⟩
        have hz3 := hb3.size
        (try simp at hz3)
        obtain ⟨hc, hf⟩ := bkeep hb3 (w1.heap.size) (by first | omega | (simp; done) | (simp; omega))
        have hlt : w1.heap.size < w3.heap.size := by omega
        have hle : w1.heap.size ≤ w3.heap.size := by omega
        obtain ⟨hc, hf⟩ := bkeep hb3 (w1.heap.size + 1) (by first | omega | (simp; done) | (simp; omega))
        have hlt : w1.heap.size + 1 < w3.heap.size := by omega
        have hle : w1.heap.size + 1 ≤ w3.heap.size := by omega
        obtain ⟨hc, hf⟩ := bkeep hb3 (w2.heap.size) (by first | omega | (simp; done) | (simp; omega))
        have hlt : w2.heap.size < w3.heap.size := by omega
        have hle : w2.heap.size ≤ w3.heap.size := by omega
        go_wp2_with fail
        refine (specLayeredValid _ _ _).mono ?_
        rintro e w4 ⟨rfl, hb4⟩
        have hz4 := hb4.size
        (try simp at hz4)
        obtain ⟨hc, hf⟩ := bkeep hb4 (w1.heap.size) (by first | omega | (simp; done) | (simp; omega))
        have hlt : w1.heap.size < w4.heap.size := by omega
        have hle : w1.heap.size ≤ w4.heap.size := by omega
        obtain ⟨hc, hf⟩ := bkeep hb4 (w1.heap.size + 1) (by first | omega | (simp; done) | (simp; omega))
        have hlt : w1.heap.size + 1 < w4.heap.size := by omega
        have hle : w1.heap.size + 1 ≤ w4.heap.size := by omega
        obtain ⟨hc, hf⟩ := bkeep hb4 (w2.heap.size) (by first | omega | (simp; done) | (simp; omega))
        have hlt : w2.heap.size < w4.heap.size := by omega
        have hle : w2.heap.size ≤ w4.heap.size := by omega
        obtain ⟨hc, hf⟩ := bkeep hb4 (w3.heap.size) (by first | omega | (simp; done) | (simp; omega))
        have hlt : w3.heap.size < w4.heap.size := by omega
        have hle : w3.heap.size ≤ w4.heap.size := by omega
        go_wp2_with fail
        refine (specPacketValid _ _ _ _ _ _ _).mono ?_
        rintro e w5 ⟨rfl, hb5⟩
        have hz5 := hb5.size
        (try simp at hz5)
        obtain ⟨hc, hf⟩ := bkeep hb5 (w1.heap.size) (by first | omega | (simp; done) | (simp; omega))
        have hlt : w1.heap.size < w5.heap.size := by omega
        have hle : w1.heap.size ≤ w5.heap.size := by omega
        obtain ⟨hc, hf⟩ := bkeep hb5 (w1.heap.size + 1) (by first | omega | (simp; done) | (simp; omega))
        have hlt : w1.heap.size + 1 < w5.heap.size := by omega
        have hle : w1.heap.size + 1 ≤ w5.heap.size := by omega
        obtain ⟨hc, hf⟩ := bkeep hb5 (w2.heap.size) (by first | omega | (simp; done) | (simp; omega))
        have hlt : w2.heap.size < w5.heap.size := by omega
        have hle : w2.heap.size ≤ w5.heap.size := by omega
        obtain ⟨hc, hf⟩ := bkeep hb5 (w3.heap.size) (by first | omega | (simp; done) | (simp; omega))
        have hlt : w3.heap.size < w5.heap.size := by omega
        have hle : w3.heap.size ≤ w5.heap.size := by omega
        have hvN : layB N b = true := by
          rw [HN.out]
          unfold stepN layB at *
          simp at *
          split <;> omega
        have HN2 : Hid (N = stepN N b ly ky) := by
          show N = stepN N b ly ky
          have := HN.out
          unfold stepN at *
          split at this <;> simp_all
        go_wp2_with fail
        refine (implStep_yes N b N _ _ _ _ _ _ _ hvN hp HN2.out).mono ?_
        rintro e w6 ⟨rfl, hb6⟩
        have hz6 := hb6.size
        (try simp at hz6)
        obtain ⟨hc, hf⟩ := bkeep hb6 (w1.heap.size) (by first | omega | (simp; done) | (simp; omega))
        have hlt : w1.heap.size < w6.heap.size := by omega
        have hle : w1.heap.size ≤ w6.heap.size := by omega
        obtain ⟨hc, hf⟩ := bkeep hb6 (w1.heap.size + 1) (by first | omega | (simp; done) | (simp; omega))
        have hlt : w1.heap.size + 1 < w6.heap.size := by omega
        have hle : w1.heap.size + 1 ≤ w6.heap.size := by omega
        obtain ⟨hc, hf⟩ := bkeep hb6 (w2.heap.size) (by first | omega | (simp; done) | (simp; omega))
        have hlt : w2.heap.size < w6.heap.size := by omega
        have hle : w2.heap.size ≤ w6.heap.size := by omega
        obtain ⟨hc, hf⟩ := bkeep hb6 (w3.heap.size) (by first | omega | (simp; done) | (simp; omega))
        have hlt : w3.heap.size < w6.heap.size := by omega
        have hle : w3.heap.size ≤ w6.heap.size := by omega
        go_wp2_with fail
        go_ret
        refine retB_mk (by first | rfl | simp) ?_
        (repeat' (first | (with_reducible exact Below.refl _ _) | (with_reducible assumption) | (with_reducible refine Below.alloc ?_ ?_ _) | (with_reducible refine Below.setCell ?_ ?_ _) | (with_reducible refine Below.drew ?_) | (with_reducible refine below_step (by assumption) ?_ ?_) | (with_reducible refine below_gstep (by assumption) ?_ ?_ ?_) | omega | (simp; done) | (simp; omega)))
      · have hp' : pkB wd tm ly sz = false := by simpa using hp
        clear hp
        go_wp2_with fail
        refine (implStep_no a b _ _ _ _ _ _ _ (.inr ⟨hv, hp'⟩)).mono ?_
        rintro e w2 ⟨rfl, hb2⟩
        have hz2 := hb2.size
        (try simp at hz2)
        obtain ⟨hc, hf⟩ := bkeep hb2 (w1.heap.size) (by first | omega | (simp; done) | (simp; omega))
        have hlt : w1.heap.size < w2.heap.size := by omega
        have hle : w1.heap.size ≤ w2.heap.size := by omega
        obtain ⟨hc, hf⟩ := bkeep hb2 (w1.heap.size + 1) (by first | omega | (simp; done) | (simp; omega))
        have hlt : w1.heap.size + 1 < w2.heap.size := by omega
        have hle : w1.heap.size + 1 ≤ w2.heap.size := by omega
        go_wp2_with fail
        refine (specStep_no a b _ _ _ _ _ _ _ (.inr ⟨hv, hp'⟩)).mono ?_
        rintro e w3 ⟨rfl, hb3⟩
        have hz3 := hb3.size
        (try simp at hz3)
        obtain ⟨hc, hf⟩ := bkeep hb3 (w1.heap.size) (by first | omega | (simp; done) | (simp; omega))
        have hlt : w1.heap.size < w3.heap.size := by omega
        have hle : w1.heap.size ≤ w3.heap.size := by omega
        obtain ⟨hc, hf⟩ := bkeep hb3 (w1.heap.size + 1) (by first | omega | (simp; done) | (simp; omega))
        have hlt : w1.heap.size + 1 < w3.heap.size := by omega
        have hle : w1.heap.size + 1 ≤ w3.heap.size := by omega
        obtain ⟨hc, hf⟩ := bkeep hb3 (w2.heap.size) (by first | omega | (simp; done) | (simp; omega))
        have hlt : w2.heap.size < w3.heap.size := by omega
        have hle : w2.heap.size ≤ w3.heap.size := by omega
        go_wp2_with fail
        refine (specLayeredValid _ _ _).mono ?_
        rintro e w4 ⟨rfl, hb4⟩
        have hz4 := hb4.size
        (try simp at hz4)
        obtain ⟨hc, hf⟩ := bkeep hb4 (w1.heap.size) (by first | omega | (simp; done) | (simp; omega))
        have hlt : w1.heap.size < w4.heap.size := by omega
        have hle : w1.heap.size ≤ w4.heap.size := by omega
        obtain ⟨hc, hf⟩ := bkeep hb4 (w1.heap.size + 1) (by first | omega | (simp; done) | (simp; omega))
        have hlt : w1.heap.size + 1 < w4.heap.size := by omega
        have hle : w1.heap.size + 1 ≤ w4.heap.size := by omega
        obtain ⟨hc, hf⟩ := bkeep hb4 (w2.heap.size) (by first | omega | (simp; done) | (simp; omega))
        have hlt : w2.heap.size < w4.heap.size := by omega
        have hle : w2.heap.size ≤ w4.heap.size := by omega
        obtain ⟨hc, hf⟩ := bkeep hb4 (w3.heap.size) (by first | omega | (simp; done) | (simp; omega))
        have hlt : w3.heap.size < w4.heap.size := by omega
        have hle : w3.heap.size ≤ w4.heap.size := by omega
        go_wp2_with fail
        refine (specPacketValid _ _ _ _ _ _ _).mono ?_
        rintro e w5 ⟨rfl, hb5⟩
        have hz5 := hb5.size
        (try simp at hz5)
        obtain ⟨hc, hf⟩ := bkeep hb5 (w1.heap.size) (by first | omega | (simp; done) | (simp; omega))
        have hlt : w1.heap.size < w5.heap.size := by omega
        have hle : w1.heap.size ≤ w5.heap.size := by omega
        obtain ⟨hc, hf⟩ := bkeep hb5 (w1.heap.size + 1) (by first | omega | (simp; done) | (simp; omega))
        have hlt : w1.heap.size + 1 < w5.heap.size := by omega
        have hle : w1.heap.size + 1 ≤ w5.heap.size := by omega
        obtain ⟨hc, hf⟩ := bkeep hb5 (w2.heap.size) (by first | omega | (simp; done) | (simp; omega))
        have hlt : w2.heap.size < w5.heap.size := by omega
        have hle : w2.heap.size ≤ w5.heap.size := by omega
        obtain ⟨hc, hf⟩ := bkeep hb5 (w3.heap.size) (by first | omega | (simp; done) | (simp; omega))
        have hlt : w3.heap.size < w5.heap.size := by omega
        have hle : w3.heap.size ≤ w5.heap.size := by omega
        go_wp2_with fail
        go_ret
        refine retB_mk (by first | rfl | simp) ?_
        (repeat' (first | (with_reducible exact Below.refl _ _) | (with_reducible assumption) | (with_reducible refine Below.alloc ?_ ?_ _) | (with_reducible refine Below.setCell ?_ ?_ _) | (with_reducible refine Below.drew ?_) | (with_reducible refine below_step (by assumption) ?_ ?_) | (with_reducible refine below_gstep (by assumption) ?_ ?_ ?_) | omega | (simp; done) | (simp; omega)))
    · have hv' : layB a b = false := by simpa using hv
      clear hv
      go_wp2_with fail
      refine (implStep_no a b _ _ _ _ _ _ _ (.inl hv')).mono ?_
      rintro e w2 ⟨rfl, hb2⟩
      have hz2 := hb2.size
      (try simp at hz2)
      obtain ⟨hc, hf⟩ := bkeep hb2 (w1.heap.size) (by first | omega | (simp; done) | (simp; omega))
      have hlt : w1.heap.size < w2.heap.size := by omega
      have hle : w1.heap.size ≤ w2.heap.size := by omega
      obtain ⟨hc, hf⟩ := bkeep hb2 (w1.heap.size + 1) (by first | omega | (simp; done) | (simp; omega))
      have hlt : w1.heap.size + 1 < w2.heap.size := by omega
      have hle : w1.heap.size + 1 ≤ w2.heap.size := by omega
      go_wp2_with fail
      refine (specStep_no a b _ _ _ _ _ _ _ (.inl hv')).mono ?_
      rintro e w3 ⟨rfl, hb3⟩
      have hz3 := hb3.size
      (try simp at hz3)
      obtain ⟨hc, hf⟩ := bkeep hb3 (w1.heap.size) (by first | omega | (simp; done) | (simp; omega))
      have hlt : w1.heap.size < w3.heap.size := by omega
      have hle : w1.heap.size ≤ w3.heap.size := by omega
      obtain ⟨hc, hf⟩ := bkeep hb3 (w1.heap.size + 1) (by first | omega | (simp; done) | (simp; omega))
      have hlt : w1.heap.size + 1 < w3.heap.size := by omega
      have hle : w1.heap.size + 1 ≤ w3.heap.size := by omega
      obtain ⟨hc, hf⟩ := bkeep hb3 (w2.heap.size) (by first | omega | (simp; done) | (simp; omega))
      have hlt : w2.heap.size < w3.heap.size := by omega
      have hle : w2.heap.size ≤ w3.heap.size := by omega
      go_wp2_with fail
      refine (specLayeredValid _ _ _).mono ?_
      rintro e w4 ⟨rfl, hb4⟩
      have hz4 := hb4.size
      (try simp at hz4)
      obtain ⟨hc, hf⟩ := bkeep hb4 (w1.heap.size) (by first | omega | (simp; done) | (simp; omega))
      have hlt : w1.heap.size < w4.heap.size := by omega
      have hle : w1.heap.size ≤ w4.heap.size := by omega
      obtain ⟨hc, hf⟩ := bkeep hb4 (w1.heap.size + 1) (by first | omega | (simp; done) | (simp; omega))
      have hlt : w1.heap.size + 1 < w4.heap.size := by omega
      have hle : w1.heap.size + 1 ≤ w4.heap.size := by omega
      obtain ⟨hc, hf⟩ := bkeep hb4 (w2.heap.size) (by first | omega | (simp; done) | (simp; omega))
      have hlt : w2.heap.size < w4.heap.size := by omega
      have hle : w2.heap.size ≤ w4.heap.size := by omega
      obtain ⟨hc, hf⟩ := bkeep hb4 (w3.heap.size) (by first | omega | (simp; done) | (simp; omega))
      have hlt : w3.heap.size < w4.heap.size := by omega
      have hle : w3.heap.size ≤ w4.heap.size := by omega
      go_wp2_with fail
      go_ret
      refine retB_mk (by first | rfl | simp) ?_
      (repeat' (first | (with_reducible exact Below.refl _ _) | (with_reducible assumption) | (with_reducible refine Below.alloc ?_ ?_ _) | (with_reducible refine Below.setCell ?_ ?_ _) | (with_reducible refine Below.drew ?_) | (with_reducible refine below_step (by assumption) ?_ ?_) | (with_reducible refine below_gstep (by assumption) ?_ ?_ ?_) | omega | (simp; done) | (simp; omega)))
end Go.Proofs.Yticelpaicenbkaa
