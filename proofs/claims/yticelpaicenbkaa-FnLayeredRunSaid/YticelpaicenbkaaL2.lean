/- Contracts of the steps on layers and packets. -/
import Derived.Test.YticelpaicenbkaaProg
import Derived.Test.YticelpaicenbkaaL1
import Derived.Test.YticelpaicenbkaaD0
import Derived.Deep.QuietTactic
import Derived.BigQuiet
import Derived.OneCell
namespace Go.Proofs.Yticelpaicenbkaa
open Go.ChangeShapes Go.WideShapes Go.ChangeAt Go.RowKit

def pkB (wd tm ly sz : Int) : Bool := decide (0 ≤ wd ∧ wd ≤ 999999 ∧ 0 ≤ tm ∧ tm ≤ 99999 ∧ 0 ≤ ly ∧ ly ≤ 2 ∧ 1 ≤ sz ∧ sz ≤ 1500)
def pkV (wd tm ly sz : Int) (ky la : Bool) : Value := .agg #[.int .i64 wd, .int .i64 tm, .int .i64 ly, .int .i64 sz, .bool ky, .bool la]
def stepN (a b ly : Int) (ky : Bool) : Int := if ly = b ∧ ky = true then b else a

theorem specPacketValid (wd tm ly sz : Int) (ky la : Bool) (w : World) : Calls Try.prog 27 #[.agg #[.int .i64 wd, .int .i64 tm, .int .i64 ly, .int .i64 sz, .bool ky, .bool la]] w (RetB (pkB wd tm ly sz) w) := by
  go_enter Try.func27, Try.ntmps27
  go_wp2
  all_goals
    go_ret
    refine retB_mk (by unfold pkB; rw [Bool.eq_iff_iff]; simp; try omega) ?_
    (repeat' (first | (with_reducible exact Below.refl _ _) | (with_reducible assumption) | (with_reducible refine Below.alloc ?_ ?_ _) | (with_reducible refine Below.setCell ?_ ?_ _) | (with_reducible refine Below.drew ?_) | (with_reducible refine below_drewN' ?_ _) | (with_reducible refine below_step (by assumption) ?_ ?_) | (with_reducible refine below_gstep (by assumption) ?_ ?_ ?_) | (with_reducible exact Below.size (by assumption)) | omega | (simp; done) | (simp; omega)))
theorem implPacketValid (wd tm ly sz : Int) (ky la : Bool) (w : World) : Calls Try.prog 42 #[.agg #[.int .i64 wd, .int .i64 tm, .int .i64 ly, .int .i64 sz, .bool ky, .bool la]] w (RetB (pkB wd tm ly sz) w) := by
  go_enter Try.func42, Try.ntmps42
  go_wp2
  all_goals
    go_ret
    refine retB_mk (by unfold pkB; rw [Bool.eq_iff_iff]; simp; try omega) ?_
    (repeat' (first | (with_reducible exact Below.refl _ _) | (with_reducible assumption) | (with_reducible refine Below.alloc ?_ ?_ _) | (with_reducible refine Below.setCell ?_ ?_ _) | (with_reducible refine Below.drew ?_) | (with_reducible refine below_drewN' ?_ _) | (with_reducible refine below_step (by assumption) ?_ ?_) | (with_reducible refine below_gstep (by assumption) ?_ ?_ ?_) | (with_reducible exact Below.size (by assumption)) | omega | (simp; done) | (simp; omega)))
theorem toPacket (wd tm ly sz : Int) (ky la : Bool) (w : World) : Calls Try.prog 23 #[.agg #[.int .i64 wd, .int .i64 tm, .int .i64 ly, .int .i64 sz, .bool ky, .bool la]] w (RetV (.agg #[.int .i64 wd, .int .i64 tm, .int .i64 ly, .int .i64 sz, .bool ky, .bool la]) w) := by
  go_enter Try.func23, Try.ntmps23
  go_wp2
  go_returns
  refine ⟨rfl, ?_⟩
  (repeat' (first | (with_reducible exact Below.refl _ _) | (with_reducible assumption) | (with_reducible refine Below.alloc ?_ ?_ _) | (with_reducible refine Below.setCell ?_ ?_ _) | (with_reducible refine Below.drew ?_) | (with_reducible refine below_drewN' ?_ _) | (with_reducible refine below_step (by assumption) ?_ ?_) | (with_reducible refine below_gstep (by assumption) ?_ ?_ ?_) | (with_reducible exact Below.size (by assumption)) | omega | (simp; done) | (simp; omega)))
theorem eqLayered_same (a b : Int) (w : World) : Calls Try.prog 25 #[.agg #[.int .i64 a, .int .i64 b], .agg #[.int .i64 a, .int .i64 b]] w (RetB true w) := by
  go_enter Try.func25, Try.ntmps25
  go_wp2
  go_ret
  refine ⟨rfl, ?_⟩
  (repeat' (first | (with_reducible exact Below.refl _ _) | (with_reducible assumption) | (with_reducible refine Below.alloc ?_ ?_ _) | (with_reducible refine Below.setCell ?_ ?_ _) | (with_reducible refine Below.drew ?_) | (with_reducible refine below_drewN' ?_ _) | (with_reducible refine below_step (by assumption) ?_ ?_) | (with_reducible refine below_gstep (by assumption) ?_ ?_ ?_) | (with_reducible exact Below.size (by assumption)) | omega | (simp; done) | (simp; omega)))
theorem l12Step (a b wd tm ly sz : Int) (ky la : Bool) (w : World) : Calls Try.prog 41 #[.agg #[.int .i64 a, .int .i64 b], .agg #[.int .i64 wd, .int .i64 tm, .int .i64 ly, .int .i64 sz, .bool ky, .bool la]] w (RetV (.tuple #[.agg #[.int .i64 (stepN a b ly ky), .int .i64 b], .bool (ly == stepN a b ly ky)]) w) := by
  by_cases h : ly = b ∧ ky = true
  · have e : stepN a b ly ky = b := if_pos h
    obtain ⟨rfl, rfl⟩ := h
    rw [e]
    clear e
    go_enter Try.func41, Try.ntmps41
    go_wp2
    go_region
    go_wp2
    go_returns
    refine retV_mk (by first | rfl | (simp; done) | (simp_all; done)) ?_
    (repeat' (first | (with_reducible exact Below.refl _ _) | (with_reducible assumption) | (with_reducible refine Below.alloc ?_ ?_ _) | (with_reducible refine Below.setCell ?_ ?_ _) | (with_reducible refine Below.drew ?_) | (with_reducible refine below_drewN' ?_ _) | (with_reducible refine below_step (by assumption) ?_ ?_) | (with_reducible refine below_gstep (by assumption) ?_ ?_ ?_) | (with_reducible exact Below.size (by assumption)) | omega | (simp; done) | (simp; omega)))
  · have e : stepN a b ly ky = a := if_neg h
    rw [e]
    clear e
    have h1 : (ly == b) = false ∨ ky = false := by
      cases ky
      · exact .inr rfl
      · exact .inl (by simpa using h)
    clear h
    rcases h1 with h1 | rfl
    · go_enter Try.func41, Try.ntmps41
      go_wp2
      go_region
      go_wp2
      go_returns
      refine retV_mk (by first | rfl | (simp; done) | (simp_all; done)) ?_
      (repeat' (first | (with_reducible exact Below.refl _ _) | (with_reducible assumption) | (with_reducible refine Below.alloc ?_ ?_ _) | (with_reducible refine Below.setCell ?_ ?_ _) | (with_reducible refine Below.drew ?_) | (with_reducible refine below_drewN' ?_ _) | (with_reducible refine below_step (by assumption) ?_ ?_) | (with_reducible refine below_gstep (by assumption) ?_ ?_ ?_) | (with_reducible exact Below.size (by assumption)) | omega | (simp; done) | (simp; omega)))
    · go_enter Try.func41, Try.ntmps41
      go_wp2
      all_goals
        go_region
        go_wp2
        go_returns
        refine retV_mk (by first | rfl | (simp; done) | (simp_all; done)) ?_
        (repeat' (first | (with_reducible exact Below.refl _ _) | (with_reducible assumption) | (with_reducible refine Below.alloc ?_ ?_ _) | (with_reducible refine Below.setCell ?_ ?_ _) | (with_reducible refine Below.drew ?_) | (with_reducible refine below_drewN' ?_ _) | (with_reducible refine below_step (by assumption) ?_ ?_) | (with_reducible refine below_gstep (by assumption) ?_ ?_ ?_) | (with_reducible exact Below.size (by assumption)) | omega | (simp; done) | (simp; omega)))

/-! ### forwards, by a pointer to the layers -/
def Fwd (g : Nat) (n1 b ly : Int) (w : World) (e : Ending) (w' : World) : Prop :=
  e = .returned (.bool (ly == n1)) ∧ w'.heap[g]? = some (.cells #[.int .i64 n1, .int .i64 b] 25 (0, 0)) ∧ w.grownBy w' (some g)
set_option maxHeartbeats 1000000 in
theorem forwards_any (g : Nat) (a b n1 wd tm ly sz : Int) (ky la : Bool) (w : World) (hg : w.heap[g]? = some (.cells #[.int .i64 a, .int .i64 b] 25 (0, 0))) (hn : n1 = stepN a b ly ky) :
    Calls Try.prog 43 #[.pointer (some ⟨g, 0, none⟩), .agg #[.int .i64 wd, .int .i64 tm, .int .i64 ly, .int .i64 sz, .bool ky, .bool la]] w (Fwd g n1 b ly w) := by
  have hlt : g < w.heap.size := lt_of_block hg
  have hne : ¬ g = w.heap.size := by omega
  have hne' : ¬ w.heap.size = g := by omega
  have c0 := cell_of_row w g 0 _ _ _ hg
  have c1 := cell_of_row w g 1 _ _ _ hg
  have f0 := frozen_of_row w g 0 _ _ hg
  simp at c0 c1
  have hA : ∀ o, (w.alloc o).heap[g]? = some (.cells #[.int .i64 a, .int .i64 b] 25 (0, 0)) := fun o => (Below.heap_alloc w o g hlt).trans hg
  have hS : ∀ o v, ((w.alloc o).setCell ⟨g, 0, none⟩ v).heap[g]? = some (.cells #[v, .int .i64 b] 25 (0, 0)) := fun o v => by
    rw [heap_setCell_same _ g 0 _ _ _ (hA o)]; simp
  have HA := hide hA
  have HS := hide hS
  clear hA hS hg
  by_cases h : ly = b ∧ ky = true
  · obtain ⟨rfl, rfl⟩ := h
    have e : n1 = ly := hn.trans (if_pos ⟨rfl, rfl⟩)
    subst e
    clear hn
    go_enter Try.func43, Try.ntmps43
    go_wp2
    go_quiet (fail)
    go_wp2
    go_quiet (fail)
    go_wp2
    go_ret
    refine ⟨by simp, HS.out _ _, ?_⟩
    (repeat' (first | (with_reducible exact World.grownBy.refl _ _) | (with_reducible assumption) | (with_reducible refine grown_alloc ?_ _) | (with_reducible refine grown_setCell ?_ ?_ _) | (with_reducible refine grown_drew ?_) | (with_reducible refine grown_drewN ?_ _) | (with_reducible refine grown_step (by assumption) ?_) | (with_reducible refine grown_below ?_ (by assumption)) | (left; rfl) | (right; omega) | (right; simp; done) | (right; simp; omega)))
  · have e : n1 = a := hn.trans (if_neg h)
    subst e
    clear hn
    by_cases h1 : ly = b
    · subst h1
      have hk : ky = false := by cases ky <;> simp_all
      subst hk
      clear h
      go_enter Try.func43, Try.ntmps43
      go_wp2
      go_quiet (fail)
      go_wp2
      go_quiet (fail)
      go_wp2
      go_ret
      refine ⟨by simp, HA.out _, ?_⟩
      (repeat' (first | (with_reducible exact World.grownBy.refl _ _) | (with_reducible assumption) | (with_reducible refine grown_alloc ?_ _) | (with_reducible refine grown_setCell ?_ ?_ _) | (with_reducible refine grown_drew ?_) | (with_reducible refine grown_drewN ?_ _) | (with_reducible refine grown_step (by assumption) ?_) | (with_reducible refine grown_below ?_ (by assumption)) | (left; rfl) | (right; omega) | (right; simp; done) | (right; simp; omega)))
    · have h2 : (ly == b) = false := by simpa using h1
      clear h h1
      go_enter Try.func43, Try.ntmps43
      go_wp2
      go_quiet (fail)
      go_wp2
      go_quiet (fail)
      go_wp2
      go_ret
      refine ⟨by simp, HA.out _, ?_⟩
      (repeat' (first | (with_reducible exact World.grownBy.refl _ _) | (with_reducible assumption) | (with_reducible refine grown_alloc ?_ _) | (with_reducible refine grown_setCell ?_ ?_ _) | (with_reducible refine grown_drew ?_) | (with_reducible refine grown_drewN ?_ _) | (with_reducible refine grown_step (by assumption) ?_) | (with_reducible refine grown_below ?_ (by assumption)) | (left; rfl) | (right; omega) | (right; simp; done) | (right; simp; omega)))

/-! ### LayeredStep, of the program and of the reference -/
set_option maxHeartbeats 1000000 in
theorem implStep_yes (a b n1 wd tm ly sz : Int) (ky la : Bool) (w : World) (hv : layB a b = true) (hp : pkB wd tm ly sz = true) (hn : n1 = stepN a b ly ky) :
    Calls Try.prog 24 #[.agg #[.int .i64 a, .int .i64 b], .agg #[.int .i64 wd, .int .i64 tm, .int .i64 ly, .int .i64 sz, .bool ky, .bool la]] w (RetV (.tuple #[.agg #[.int .i64 n1, .int .i64 b], .bool (ly == n1)]) w) := by
  have Hn := hide hn
  clear hn
  go_enter Try.func24, Try.ntmps24
  go_wp2_with fail
  refine (implLayeredValid _ _ _).mono ?_
  rintro e w1 ⟨rfl, hb1⟩
  have hz1 := hb1.size
  (try simp at hz1)
  obtain ⟨hc, hf⟩ := bkeep hb1 (w.heap.size) (by first | omega | (simp; done) | (simp; omega))
  have hlt : w.heap.size < w1.heap.size := by omega
  have hle : w.heap.size ≤ w1.heap.size := by omega
  obtain ⟨hc, hf⟩ := bkeep hb1 (w.heap.size + 1) (by first | omega | (simp; done) | (simp; omega))
  have hlt : w.heap.size + 1 < w1.heap.size := by omega
  have hle : w.heap.size + 1 ≤ w1.heap.size := by omega
  obtain ⟨hc, hf⟩ := bkeep hb1 (w.heap.size + 2) (by first | omega | (simp; done) | (simp; omega))
  have hlt : w.heap.size + 2 < w1.heap.size := by omega
  have hle : w.heap.size + 2 ≤ w1.heap.size := by omega
  go_wp2_with fail
  refine (implPacketValid _ _ _ _ _ _ _).mono ?_
  rintro e w2 ⟨rfl, hb2⟩
  have hz2 := hb2.size
  (try simp at hz2)
  obtain ⟨hc, hf⟩ := bkeep hb2 (w.heap.size) (by first | omega | (simp; done) | (simp; omega))
  have hlt : w.heap.size < w2.heap.size := by omega
  have hle : w.heap.size ≤ w2.heap.size := by omega
  obtain ⟨hc, hf⟩ := bkeep hb2 (w.heap.size + 1) (by first | omega | (simp; done) | (simp; omega))
  have hlt : w.heap.size + 1 < w2.heap.size := by omega
  have hle : w.heap.size + 1 ≤ w2.heap.size := by omega
  obtain ⟨hc, hf⟩ := bkeep hb2 (w.heap.size + 2) (by first | omega | (simp; done) | (simp; omega))
  have hlt : w.heap.size + 2 < w2.heap.size := by omega
  have hle : w.heap.size + 2 ≤ w2.heap.size := by omega
  have hh : w2.heap[w.heap.size]? = some (.cells #[.int .i64 a, .int .i64 b] 25 (0, 0)) :=
    (hb2.block _ (by first | omega | (simp; done) | (simp; omega))).trans ((hb1.block _ (by first | omega | (simp; done) | (simp; omega))).trans ((Below.heap_alloc _ _ _ (by first | omega | (simp; done) | (simp; omega))).trans ((Below.heap_alloc _ _ _ (by first | omega | (simp; done) | (simp; omega))).trans (heap_alloc_new _ _))))
  have Hh := hide hh
  clear hh
  go_wp2_with fail
  refine (forwards_any w.heap.size a b n1 _ _ _ _ _ _ _ Hh.out Hn.out).mono ?_
  rintro e w3 ⟨rfl, hh3, hg3⟩
  have c0 := cell_of_row w3 w.heap.size 0 _ _ _ hh3
  have c1 := cell_of_row w3 w.heap.size 1 _ _ _ hh3
  simp at c0 c1
  have hz3 := hg3.size
  obtain ⟨hc, hf⟩ := gkeep hg3 (w.heap.size + 2) (by first | omega | (simp; done) | (simp; omega)) (by omega)
  clear hh3
  go_wp2_with fail
  refine bodyPost_ret (by first | (simp (maxDischargeDepth := 3) [results, Try.results24, go_sem, *]; done) | (simp (maxDischargeDepth := 3) [results, Try.results24, go_sem, *]; rfl) | (simp (maxDischargeDepth := 7) [results, Try.results24, go_sem, *]; done) | (simp (maxDischargeDepth := 7) [results, Try.results24, go_sem, *]; rfl)) rfl ?_
  refine retV_mk rfl ?_
  (repeat' (first | (with_reducible exact Below.refl _ _) | (with_reducible assumption) | (with_reducible refine Below.alloc ?_ ?_ _) | (with_reducible refine Below.setCell ?_ ?_ _) | (with_reducible refine Below.drew ?_) | (with_reducible refine below_drewN' ?_ _) | (with_reducible refine below_step (by assumption) ?_ ?_) | (with_reducible refine below_gstep (by assumption) ?_ ?_ ?_) | (with_reducible exact Below.size (by assumption)) | omega | (simp; done) | (simp; omega)))
theorem implStep_no (a b wd tm ly sz : Int) (ky la : Bool) (w : World) (h : layB a b = false ∨ layB a b = true ∧ pkB wd tm ly sz = false) :
    Calls Try.prog 24 #[.agg #[.int .i64 a, .int .i64 b], .agg #[.int .i64 wd, .int .i64 tm, .int .i64 ly, .int .i64 sz, .bool ky, .bool la]] w (RetV (.tuple #[.agg #[.int .i64 0, .int .i64 0], .bool false]) w) := by
  rcases h with hv | ⟨hv, hp⟩
  all_goals
    go_enter Try.func24, Try.ntmps24
    go_wp2_with (first | (go_at_call 17; refine (implLayeredValid _ _ _).mono ?_; rintro e w1 ⟨rfl, hb⟩; obtain ⟨hc, hf⟩ := bkeep hb (w.heap.size) (by first | omega | (simp; done) | (simp; omega)); obtain ⟨hc, hf⟩ := bkeep hb (w.heap.size + 1) (by first | omega | (simp; done) | (simp; omega)); obtain ⟨hc, hf⟩ := bkeep hb (w.heap.size + 2) (by first | omega | (simp; done) | (simp; omega)); have hz : w.heap.size + 3 ≤ w1.heap.size := Nat.le_trans (by first | omega | (simp; done) | (simp; omega)) hb.size) | (go_at_call 42; refine (implPacketValid _ _ _ _ _ _ _).mono ?_; rintro e w1 ⟨rfl, hb⟩; obtain ⟨hc, hf⟩ := bkeep hb (w.heap.size) (by first | omega | (simp; done) | (simp; omega)); obtain ⟨hc, hf⟩ := bkeep hb (w.heap.size + 1) (by first | omega | (simp; done) | (simp; omega)); obtain ⟨hc, hf⟩ := bkeep hb (w.heap.size + 2) (by first | omega | (simp; done) | (simp; omega)); have hz : w.heap.size + 3 ≤ w1.heap.size := Nat.le_trans (by first | omega | (simp; done) | (simp; omega)) hb.size))
    refine bodyPost_ret (by first | (simp (maxDischargeDepth := 3) [results, Try.results24, go_sem, *]; done) | (simp (maxDischargeDepth := 3) [results, Try.results24, go_sem, *]; rfl) | (simp (maxDischargeDepth := 7) [results, Try.results24, go_sem, *]; done) | (simp (maxDischargeDepth := 7) [results, Try.results24, go_sem, *]; rfl)) rfl ?_
    refine retV_mk rfl ?_
    (repeat' (first | (with_reducible exact Below.refl _ _) | (with_reducible assumption) | (with_reducible refine Below.alloc ?_ ?_ _) | (with_reducible refine Below.setCell ?_ ?_ _) | (with_reducible refine Below.drew ?_) | (with_reducible refine below_drewN' ?_ _) | (with_reducible refine below_step (by assumption) ?_ ?_) | (with_reducible refine below_gstep (by assumption) ?_ ?_ ?_) | (with_reducible exact Below.size (by assumption)) | omega | (simp; done) | (simp; omega)))
theorem specStep_yes (a b n1 wd tm ly sz : Int) (ky la : Bool) (w : World) (hv : layB a b = true) (hp : pkB wd tm ly sz = true) (hn : n1 = stepN a b ly ky) :
    Calls Try.prog 22 #[.agg #[.int .i64 a, .int .i64 b], .agg #[.int .i64 wd, .int .i64 tm, .int .i64 ly, .int .i64 sz, .bool ky, .bool la]] w (RetV (.tuple #[.agg #[.int .i64 n1, .int .i64 b], .bool (ly == n1)]) w) := by
  have hl := fun w => l12Step a b wd tm ly sz ky la w
  rw [← hn] at hl
  have Hl := hide hl
  clear hl hn
  go_enter Try.func22, Try.ntmps22
  go_wp2_with (first | (go_at_call 15; refine (specLayeredValid _ _ _).mono ?_; rintro e w1 ⟨rfl, hb⟩; obtain ⟨hc, hf⟩ := bkeep hb (w.heap.size) (by first | omega | (simp; done) | (simp; omega)); obtain ⟨hc, hf⟩ := bkeep hb (w.heap.size + 1) (by first | omega | (simp; done) | (simp; omega)); obtain ⟨hc, hf⟩ := bkeep hb (w.heap.size + 2) (by first | omega | (simp; done) | (simp; omega)); have hz : w.heap.size + 3 ≤ w1.heap.size := Nat.le_trans (by first | omega | (simp; done) | (simp; omega)) hb.size) | (go_at_call 27; refine (specPacketValid _ _ _ _ _ _ _).mono ?_; rintro e w1 ⟨rfl, hb⟩; obtain ⟨hc, hf⟩ := bkeep hb (w.heap.size) (by first | omega | (simp; done) | (simp; omega)); obtain ⟨hc, hf⟩ := bkeep hb (w.heap.size + 1) (by first | omega | (simp; done) | (simp; omega)); obtain ⟨hc, hf⟩ := bkeep hb (w.heap.size + 2) (by first | omega | (simp; done) | (simp; omega)); have hz : w.heap.size + 3 ≤ w1.heap.size := Nat.le_trans (by first | omega | (simp; done) | (simp; omega)) hb.size) | (go_at_call 41; refine (Hl.out _).mono ?_; rintro e w1 ⟨rfl, hb⟩; obtain ⟨hc, hf⟩ := bkeep hb (w.heap.size) (by first | omega | (simp; done) | (simp; omega)); obtain ⟨hc, hf⟩ := bkeep hb (w.heap.size + 1) (by first | omega | (simp; done) | (simp; omega)); obtain ⟨hc, hf⟩ := bkeep hb (w.heap.size + 2) (by first | omega | (simp; done) | (simp; omega)); have hz : w.heap.size + 3 ≤ w1.heap.size := Nat.le_trans (by first | omega | (simp; done) | (simp; omega)) hb.size))
  refine bodyPost_ret (by first | (simp (maxDischargeDepth := 3) [results, Try.results22, go_sem, *]; done) | (simp (maxDischargeDepth := 3) [results, Try.results22, go_sem, *]; rfl) | (simp (maxDischargeDepth := 7) [results, Try.results22, go_sem, *]; done) | (simp (maxDischargeDepth := 7) [results, Try.results22, go_sem, *]; rfl)) rfl ?_
  refine retV_mk rfl ?_
  (repeat' (first | (with_reducible exact Below.refl _ _) | (with_reducible assumption) | (with_reducible refine Below.alloc ?_ ?_ _) | (with_reducible refine Below.setCell ?_ ?_ _) | (with_reducible refine Below.drew ?_) | (with_reducible refine below_drewN' ?_ _) | (with_reducible refine below_step (by assumption) ?_ ?_) | (with_reducible refine below_gstep (by assumption) ?_ ?_ ?_) | (with_reducible exact Below.size (by assumption)) | omega | (simp; done) | (simp; omega)))
theorem specStep_no (a b wd tm ly sz : Int) (ky la : Bool) (w : World) (h : layB a b = false ∨ layB a b = true ∧ pkB wd tm ly sz = false) :
    Calls Try.prog 22 #[.agg #[.int .i64 a, .int .i64 b], .agg #[.int .i64 wd, .int .i64 tm, .int .i64 ly, .int .i64 sz, .bool ky, .bool la]] w (RetV (.tuple #[.agg #[.int .i64 0, .int .i64 0], .bool false]) w) := by
  rcases h with hv | ⟨hv, hp⟩
  all_goals
    go_enter Try.func22, Try.ntmps22
    go_wp2_with (first | (go_at_call 15; refine (specLayeredValid _ _ _).mono ?_; rintro e w1 ⟨rfl, hb⟩; obtain ⟨hc, hf⟩ := bkeep hb (w.heap.size) (by first | omega | (simp; done) | (simp; omega)); obtain ⟨hc, hf⟩ := bkeep hb (w.heap.size + 1) (by first | omega | (simp; done) | (simp; omega)); obtain ⟨hc, hf⟩ := bkeep hb (w.heap.size + 2) (by first | omega | (simp; done) | (simp; omega)); have hz : w.heap.size + 3 ≤ w1.heap.size := Nat.le_trans (by first | omega | (simp; done) | (simp; omega)) hb.size) | (go_at_call 27; refine (specPacketValid _ _ _ _ _ _ _).mono ?_; rintro e w1 ⟨rfl, hb⟩; obtain ⟨hc, hf⟩ := bkeep hb (w.heap.size) (by first | omega | (simp; done) | (simp; omega)); obtain ⟨hc, hf⟩ := bkeep hb (w.heap.size + 1) (by first | omega | (simp; done) | (simp; omega)); obtain ⟨hc, hf⟩ := bkeep hb (w.heap.size + 2) (by first | omega | (simp; done) | (simp; omega)); have hz : w.heap.size + 3 ≤ w1.heap.size := Nat.le_trans (by first | omega | (simp; done) | (simp; omega)) hb.size))
    refine bodyPost_ret (by first | (simp (maxDischargeDepth := 3) [results, Try.results22, go_sem, *]; done) | (simp (maxDischargeDepth := 3) [results, Try.results22, go_sem, *]; rfl) | (simp (maxDischargeDepth := 7) [results, Try.results22, go_sem, *]; done) | (simp (maxDischargeDepth := 7) [results, Try.results22, go_sem, *]; rfl)) rfl ?_
    refine retV_mk rfl ?_
    (repeat' (first | (with_reducible exact Below.refl _ _) | (with_reducible assumption) | (with_reducible refine Below.alloc ?_ ?_ _) | (with_reducible refine Below.setCell ?_ ?_ _) | (with_reducible refine Below.drew ?_) | (with_reducible refine below_drewN' ?_ _) | (with_reducible refine below_step (by assumption) ?_ ?_) | (with_reducible refine below_gstep (by assumption) ?_ ?_ ?_) | (with_reducible exact Below.size (by assumption)) | omega | (simp; done) | (simp; omega)))
end Go.Proofs.Yticelpaicenbkaa
