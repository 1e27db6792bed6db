/- Contracts of the functions on layers that only compute. -/
import Derived.Test.YticelpaicenbkaaProg
import Derived.Test.YticelpaicenbkaaB
namespace Go.Proofs.Yticelpaicenbkaa
open Go.ChangeShapes Go.WideShapes Go.ChangeAt Go.RowKit

def layB (a b : Int) : Bool := decide (-1 ≤ a ∧ a ≤ 2 ∧ 0 ≤ b ∧ b ≤ 2)

theorem specLayeredValid (a b : Int) (w : World) : Calls Try.prog 15 #[.agg #[.int .i64 a, .int .i64 b]] w (RetB (layB a b) w) := by
  go_enter Try.func15, Try.ntmps15
  go_wp2
  all_goals
    go_ret
    refine retB_mk (by unfold layB; rw [Bool.eq_iff_iff]; simp; try omega) ?_
    (repeat' (first | (with_reducible exact Below.refl _ _) | (with_reducible assumption) | (with_reducible refine Below.alloc ?_ ?_ _) | (with_reducible refine Below.setCell ?_ ?_ _) | (with_reducible refine Below.drew ?_) | (with_reducible refine below_drewN' ?_ _) | (with_reducible refine below_step (by assumption) ?_ ?_) | (with_reducible refine below_gstep (by assumption) ?_ ?_ ?_) | (with_reducible exact Below.size (by assumption)) | omega | (simp; done) | (simp; omega)))
theorem implLayeredValid (a b : Int) (w : World) : Calls Try.prog 17 #[.agg #[.int .i64 a, .int .i64 b]] w (RetB (layB a b) w) := by
  go_enter Try.func17, Try.ntmps17
  go_wp2
  all_goals
    go_ret
    refine retB_mk (by unfold layB; rw [Bool.eq_iff_iff]; simp; try omega) ?_
    (repeat' (first | (with_reducible exact Below.refl _ _) | (with_reducible assumption) | (with_reducible refine Below.alloc ?_ ?_ _) | (with_reducible refine Below.setCell ?_ ?_ _) | (with_reducible refine Below.drew ?_) | (with_reducible refine below_drewN' ?_ _) | (with_reducible refine below_step (by assumption) ?_ ?_) | (with_reducible refine below_gstep (by assumption) ?_ ?_ ?_) | (with_reducible exact Below.size (by assumption)) | omega | (simp; done) | (simp; omega)))
theorem toLayered (a b : Int) (w : World) : Calls Try.prog 16 #[.agg #[.int .i64 a, .int .i64 b]] w (RetV (.agg #[.int .i64 a, .int .i64 b]) w) := by
  go_enter Try.func16, Try.ntmps16
  go_wp2
  go_returns
  refine ⟨rfl, ?_⟩
  (repeat' (first | (with_reducible exact Below.refl _ _) | (with_reducible assumption) | (with_reducible refine Below.alloc ?_ ?_ _) | (with_reducible refine Below.setCell ?_ ?_ _) | (with_reducible refine Below.drew ?_) | (with_reducible refine below_drewN' ?_ _) | (with_reducible refine below_step (by assumption) ?_ ?_) | (with_reducible refine below_gstep (by assumption) ?_ ?_ ?_) | (with_reducible exact Below.size (by assumption)) | omega | (simp; done) | (simp; omega)))
theorem specLayeredAsks (a b : Int) (w : World) : Calls Try.prog 18 #[.agg #[.int .i64 a, .int .i64 b]] w (RetB (layB a b && a != b) w) := by
  go_enter Try.func18, Try.ntmps18
  go_wp2_with (first | (go_at_call 15; refine (specLayeredValid _ _ _).mono ?_; rintro e w1 ⟨rfl, hb⟩; obtain ⟨hc, hf⟩ := bkeep hb (w.heap.size) (by first | omega | (simp; done) | (simp; omega)); have hz : w.heap.size + 1 ≤ w1.heap.size := Nat.le_trans (by first | omega | (simp; done) | (simp; omega)) hb.size))
  all_goals
    go_ret
    refine retB_mk (by simp [*]) ?_
    (repeat' (first | (with_reducible exact Below.refl _ _) | (with_reducible assumption) | (with_reducible refine Below.alloc ?_ ?_ _) | (with_reducible refine Below.setCell ?_ ?_ _) | (with_reducible refine Below.drew ?_) | (with_reducible refine below_drewN' ?_ _) | (with_reducible refine below_step (by assumption) ?_ ?_) | (with_reducible refine below_gstep (by assumption) ?_ ?_ ?_) | (with_reducible exact Below.size (by assumption)) | omega | (simp; done) | (simp; omega)))
theorem implLayeredAsks (a b : Int) (w : World) : Calls Try.prog 19 #[.agg #[.int .i64 a, .int .i64 b]] w (RetB (layB a b && a != b) w) := by
  go_enter Try.func19, Try.ntmps19
  go_wp2_with (first | (go_at_call 17; refine (implLayeredValid _ _ _).mono ?_; rintro e w1 ⟨rfl, hb⟩; obtain ⟨hc, hf⟩ := bkeep hb (w.heap.size) (by first | omega | (simp; done) | (simp; omega)); have hz : w.heap.size + 1 ≤ w1.heap.size := Nat.le_trans (by first | omega | (simp; done) | (simp; omega)) hb.size))
  all_goals
    go_ret
    refine retB_mk (by simp [*]) ?_
    (repeat' (first | (with_reducible exact Below.refl _ _) | (with_reducible assumption) | (with_reducible refine Below.alloc ?_ ?_ _) | (with_reducible refine Below.setCell ?_ ?_ _) | (with_reducible refine Below.drew ?_) | (with_reducible refine below_drewN' ?_ _) | (with_reducible refine below_step (by assumption) ?_ ?_) | (with_reducible refine below_gstep (by assumption) ?_ ?_ ?_) | (with_reducible exact Below.size (by assumption)) | omega | (simp; done) | (simp; omega)))

theorem open_layered {H : Type} {enc : TypeId × Value → H} (W : World) (base : Nat) (v : Value) (d : DataW H) (p : List MemPlace) (o : Value.okWide Try.prog W .any base 23 v) (h : DataW.Trod enc Try.prog W 0 (fun _ => true) true 23 v d p) :
    ∃ a b : Int, v = .agg #[.int .i64 a, .int .i64 b] ∧ (Lit.int .i64 a).wf = true ∧ (Lit.int .i64 b).wf = true := by
  obtain ⟨l, rfl, hl, hf⟩ := open_cells Try.underlying23 (by kernel_rfl) (by kernel_rfl) o h
  obtain ⟨c0, c1, rfl⟩ := len2 (by simpa using hl)
  obtain ⟨a, rfl, wa⟩ := int_cell Try.underlying3 (hf 0 _ _ rfl rfl)
  obtain ⟨b, rfl, wb⟩ := int_cell Try.underlying3 (hf 1 _ _ rfl rfl)
  exact ⟨a, b, rfl, wa, wb⟩

theorem walk_fnExactLayeredValid {H : Type} {enc : TypeId × Value → H} (W : World) (base : Nat) (v : Value) (d : DataW H) (p : List MemPlace) (o : Value.okWide Try.prog W .any base 23 v) (h : DataW.Trod enc Try.prog W 0 (fun _ => true) true 23 v d p) :
    Calls Try.prog 3 #[v] W (RetB true W) := by
  obtain ⟨a, b, rfl, _, _⟩ := open_layered W base v d p o h
  clear o h
  go_enter Try.func3, Try.ntmps3
  go_wp2_with (first
    | (go_at_call 16; refine (toLayered _ _ _).mono ?_; rintro e w1 ⟨rfl, hb⟩; obtain ⟨hc, hf⟩ := bkeep hb (W.heap.size) (by first | omega | (simp; done) | (simp; omega)); have hz : W.heap.size + 1 ≤ w1.heap.size := Nat.le_trans (by first | omega | (simp; done) | (simp; omega)) hb.size)
    | (go_at_call 15; refine (specLayeredValid _ _ _).mono ?_; rintro e w1 ⟨rfl, hb⟩; obtain ⟨hc, hf⟩ := bkeep hb (W.heap.size) (by first | omega | (simp; done) | (simp; omega)); have hz : W.heap.size + 1 ≤ w1.heap.size := Nat.le_trans (by first | omega | (simp; done) | (simp; omega)) hb.size)
    | (go_at_call 17; refine (implLayeredValid _ _ _).mono ?_; rintro e w1 ⟨rfl, hb⟩; obtain ⟨hc, hf⟩ := bkeep hb (W.heap.size) (by first | omega | (simp; done) | (simp; omega)); have hz : W.heap.size + 1 ≤ w1.heap.size := Nat.le_trans (by first | omega | (simp; done) | (simp; omega)) hb.size))
  go_ret
  refine ⟨rfl, ?_⟩
  (repeat' (first | (with_reducible exact Below.refl _ _) | (with_reducible assumption) | (with_reducible refine Below.alloc ?_ ?_ _) | (with_reducible refine Below.setCell ?_ ?_ _) | (with_reducible refine Below.drew ?_) | (with_reducible refine below_drewN' ?_ _) | (with_reducible refine below_step (by assumption) ?_ ?_) | (with_reducible refine below_gstep (by assumption) ?_ ?_ ?_) | (with_reducible exact Below.size (by assumption)) | omega | (simp; done) | (simp; omega)))
theorem walk_fnExactLayeredAsks {H : Type} {enc : TypeId × Value → H} (W : World) (base : Nat) (v : Value) (d : DataW H) (p : List MemPlace) (o : Value.okWide Try.prog W .any base 23 v) (h : DataW.Trod enc Try.prog W 0 (fun _ => true) true 23 v d p) :
    Calls Try.prog 4 #[v] W (RetB true W) := by
  obtain ⟨a, b, rfl, _, _⟩ := open_layered W base v d p o h
  clear o h
  go_enter Try.func4, Try.ntmps4
  go_wp2_with (first
    | (go_at_call 16; refine (toLayered _ _ _).mono ?_; rintro e w1 ⟨rfl, hb⟩; obtain ⟨hc, hf⟩ := bkeep hb (W.heap.size) (by first | omega | (simp; done) | (simp; omega)); have hz : W.heap.size + 1 ≤ w1.heap.size := Nat.le_trans (by first | omega | (simp; done) | (simp; omega)) hb.size)
    | (go_at_call 18; refine (specLayeredAsks _ _ _).mono ?_; rintro e w1 ⟨rfl, hb⟩; obtain ⟨hc, hf⟩ := bkeep hb (W.heap.size) (by first | omega | (simp; done) | (simp; omega)); have hz : W.heap.size + 1 ≤ w1.heap.size := Nat.le_trans (by first | omega | (simp; done) | (simp; omega)) hb.size)
    | (go_at_call 19; refine (implLayeredAsks _ _ _).mono ?_; rintro e w1 ⟨rfl, hb⟩; obtain ⟨hc, hf⟩ := bkeep hb (W.heap.size) (by first | omega | (simp; done) | (simp; omega)); have hz : W.heap.size + 1 ≤ w1.heap.size := Nat.le_trans (by first | omega | (simp; done) | (simp; omega)) hb.size))
  go_ret
  refine ⟨rfl, ?_⟩
  (repeat' (first | (with_reducible exact Below.refl _ _) | (with_reducible assumption) | (with_reducible refine Below.alloc ?_ ?_ _) | (with_reducible refine Below.setCell ?_ ?_ _) | (with_reducible refine Below.drew ?_) | (with_reducible refine below_drewN' ?_ _) | (with_reducible refine below_step (by assumption) ?_ ?_) | (with_reducible refine below_gstep (by assumption) ?_ ?_ ?_) | (with_reducible exact Below.size (by assumption)) | omega | (simp; done) | (simp; omega)))
end Go.Proofs.Yticelpaicenbkaa
