/- BufferPut of the reference: contract, for a buffer that is valid. -/
import Derived.Test.YtjbengphioankaaX9
namespace Go.Proofs.Ytjbengphioankaa
open Go.ChangeShapes Go.WideShapes Go.ChangeAt Go.RowKit Go.Deep

/-- The list with x at place a. -/
def insA (zs : List VHeld) (a : Nat) (x : VHeld) : List VHeld := zs.take a ++ x :: zs.drop a
theorem insA_len (zs : List VHeld) (a : Nat) (x : VHeld) (ha : a ≤ zs.length) : (insA zs a x).length = zs.length + 1 := by
  unfold insA; rw [List.length_append, List.length_take, List.length_cons, List.length_drop]; omega
theorem insA_get (zs : List VHeld) (a : Nat) (x : VHeld) (ha : a ≤ zs.length) (i : Nat) : (insA zs a x).getD i default = if i < a then zs.getD i default else if i = a then x else zs.getD (i - 1) default := by
  unfold insA
  have hl : (zs.take a).length = a := by rw [List.length_take]; omega
  rw [List.getD_eq_getElem?_getD]
  by_cases h1 : i < a
  · rw [if_pos h1, List.getElem?_append_left (by omega), List.getElem?_take_of_lt h1, List.getD_eq_getElem?_getD]
  · rw [if_neg h1, List.getElem?_append_right (by omega), hl]
    by_cases h2 : i = a
    · subst h2; simp
    · rw [if_neg h2]
      obtain ⟨j, hj⟩ : ∃ j, i - a = j + 1 := ⟨i - a - 1, by omega⟩
      rw [hj, List.getElem?_cons_succ, List.getElem?_drop, List.getD_eq_getElem?_getD, show a + j = i - 1 by omega]
/-- A packet that is put into its place leaves a valid buffer. -/
theorem bufT_ins {nx : Int} {zs : List VHeld} {a : Nat} {x : VHeld} (h : bufT nx zs zs.length) (ha : a ≤ zs.length) (hx : heldOK nx x) (hlo : ∀ i, i < a → (zs.getD i default).a0 < x.a0) (hhi : a < zs.length → x.a0 < (zs.getD a default).a0) : bufT nx (insA zs a x) (zs.length + 1) := by
  intro i hi
  rw [insA_get zs a x ha, insA_get zs a x ha]
  by_cases h1 : i < a
  · rw [if_pos h1, if_pos (show i - 1 < a by omega)]
    exact h i (by omega)
  · rw [if_neg h1]
    by_cases h2 : i = a
    · rw [if_pos h2]
      refine ⟨hx, fun h0 => ?_⟩
      rw [if_pos (show i - 1 < a by omega)]
      exact hlo (i - 1) (by omega)
    · rw [if_neg h2]
      refine ⟨(h (i - 1) (by omega)).1, fun _ => ?_⟩
      rw [if_neg (show ¬ i - 1 < a by omega)]
      by_cases h3 : i - 1 = a
      · rw [if_pos h3, h3]
        exact hhi (by omega)
      · rw [if_neg h3]
        have := (h (i - 1) (by omega)).2 (by omega)
        exact this
theorem bufB_ins {nx dl : Int} {zs : List VHeld} {a : Nat} {x : VHeld} (h : bufB nx dl zs = true) (h10 : zs.length ≠ 10) (ha : a ≤ zs.length) (hx : heldOK nx x) (hlo : ∀ i, i < a → (zs.getD i default).a0 < x.a0) (hhi : a < zs.length → x.a0 < (zs.getD a default).a0) : bufB nx dl (insA zs a x) = true := by
  obtain ⟨h1, h2, h3⟩ := of_decide_eq_true h
  refine bufB_yes (n := zs.length + 1) (insA_len zs a x ha) h1 (by omega) (bufT_ins h3 ha hx hlo hhi)
theorem insA_cells (zs : List VHeld) (a : Nat) (x : VHeld) : ((zs.take a).map VHeld.cells).flatten ++ x.cells ++ ((zs.drop a).map VHeld.cells).flatten = ((insA zs a x).map VHeld.cells).flatten := by
  unfold insA; simp
/-- What a put leaves of a valid buffer: a valid one. -/
def PutBuffer (nx dl : Int) (w : World) (e : Ending) (w' : World) : Prop :=
  ∃ g c zs' k, e = .returned (.tuple #[.agg #[.int .i64 nx, .int .i64 dl, .slice (some ⟨g, 0, none⟩) (List.length zs') c], .int .i64 k]) ∧ bufB nx dl zs' = true ∧ w.heap.size ≤ g ∧ Own w' 72 7 g zs'.length c (zs'.map VHeld.cells).flatten ∧ Below w.heap.size w w'
end Go.Proofs.Ytjbengphioankaa
