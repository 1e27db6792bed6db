/- Helpers of the walks of the parity laws. -/
import Derived.Test.YtppomcgkmjnpmaaP5
namespace Go.Proofs.Ytppomcgkmjnpmaa
open Go.ChangeShapes Go.WideShapes Go.ChangeAt Go.RowKit Go.Deep

theorem implParOwn {w : World} {B g n cap : Nat} {bs : List VBod} {ys : List Int} {b : Bool} (ob : OwnBod w B g n cap bs) (hR : relPar (bs.map VBod.zs) ys b) (hn : n ≤ 1048576) :
    Calls Try.prog 14 #[.slice (some ⟨g, 0, none⟩) n cap] w (NewIntsB ys b w) := by
  have e : (bs.map VBod.zs).length = n := by rw [List.length_map]; exact ob.len
  have := implParityOf (some ⟨g, 0, none⟩) cap (bs.map VBod.zs) ys b w hR (bod_of ob) (by omega)
  rwa [e] at this
theorem specParOwn {w : World} {B g n cap : Nat} {bs : List VBod} {ys : List Int} {b : Bool} (ob : OwnBod w B g n cap bs) (hR : relPar (bs.map VBod.zs) ys b) (hn : n ≤ 1048576) :
    Calls Try.prog 15 #[.slice (some ⟨g, 0, none⟩) n cap] w (NewIntsB ys b w) := by
  have e : (bs.map VBod.zs).length = n := by rw [List.length_map]; exact ob.len
  have := specParityOf (some ⟨g, 0, none⟩) cap (bs.map VBod.zs) ys b w hR (bod_of ob) (by omega)
  rwa [e] at this
theorem relPar_true {ls : List (List Int)} {ys : List Int} (h : relPar ls ys true) : ls.all bodyB = true ∧ 1 ≤ ls.length ∧ ls.length ≤ 8 ∧ ys = par [0] ls := by
  rcases h with ⟨a, b, _⟩ | ⟨_, _, c⟩
  · obtain ⟨x, y, z⟩ := parB_all a
    exact ⟨x, y, z, b⟩
  · cases c
theorem bod_getD {bs : List VBod} {k : Nat} (hk : k < bs.length) : (bs.map VBod.zs).getD k [] = (bs.getD k default).zs := by
  simp [List.getD_eq_getElem?_getD, hk]
theorem bod_mem {bs : List VBod} {k : Nat} (hk : k < bs.length) : bs.getD k default ∈ bs := by
  rw [List.getD_eq_getElem?_getD, List.getElem?_eq_getElem hk]
  exact List.getElem_mem hk
theorem bod_cell {w : World} {B g n cap k : Nat} {bs : List VBod} (h : OwnBod w B g n cap bs) (hk : k < n) : w.cell? ⟨g, k, none⟩ = some (bs.getD k default).val := by
  have hl := h.len
  rw [h.1.cell (by omega), List.getElem?_map, List.getD_eq_getElem?_getD, List.getElem?_eq_getElem (by omega)]
  rfl
theorem bod_get {w : World} {B g n cap k : Nat} {bs : List VBod} {x : VBod} (h : OwnBod w B g n cap bs) (hk : k < bs.length) (hx : bs.getD k default = x) :
    w.cell? ⟨g, k, none⟩ = some x.val ∧ x ∈ bs ∧ Own w 3 1 x.g x.zs.length x.c (x.zs.map (Value.int .i64)) ∧ B ≤ x.g ∧ x.g ≠ g := by
  subst hx
  have hm := bod_mem hk
  have hl := h.len
  exact ⟨bod_cell h (by omega), hm, (h.2 _ hm).2.2, (h.2 _ hm).1, (h.2 _ hm).2.1⟩
theorem maxL_next (ls : List (List Int)) {k : Nat} (hk : k < ls.length) : maxL (ls.take (k + 1)) = max (maxL (ls.take k)) (ls.getD k []).length := by
  rw [List.take_add_one, List.getElem?_eq_getElem hk, List.getD_eq_getElem?_getD, List.getElem?_eq_getElem hk]
  exact maxL_snoc _ _
theorem BodAt.take {w : World} {A : Option Addr} {ls : List (List Int)} (h : BodAt w A ls) (k : Nat) : BodAt w A (ls.take k) := by
  rcases h with h | ⟨b, off, hA, hlt, hc⟩
  · subst h; exact .inl (by simp)
  · refine .inr ⟨b, off, hA, hlt, fun i hi => ?_⟩
    rw [List.length_take] at hi
    have e : (ls.take k).getD i [] = ls.getD i [] := by
      rw [List.getD_eq_getElem?_getD, List.getD_eq_getElem?_getD, List.getElem?_take_of_lt (by omega)]
    rw [e]
    exact hc i (by omega)
theorem take_one {bs : List VBod} {x : VBod} (h : 0 < bs.length) (hx : bs.getD 0 default = x) : (bs.map VBod.zs).take 1 = [x.zs] := by
  cases bs with
  | nil => simp at h
  | cons y t => simp at hx; subst hx; simp
theorem rel_one {x : List Int} (h : bodyB x = true) : relPar [x] (frm x) true := by
  refine .inl ⟨?_, ?_, rfl⟩
  · unfold parB; simp [h]
  · have hf := frm_nn (bytes_nn (of_decide_eq_true h).2)
    show frm x = par (xorL [0] (frm x)) []
    rw [xorL_comm, xorL_one hf (by simp [frm])]
    rfl
theorem sameOwn {w : World} {g g2 n cp cp2 : Nat} {zs : List Int} (o1 : Own w 3 1 g n cp (zs.map (Value.int .i64))) (o2 : Own w 3 1 g2 n cp2 (zs.map (Value.int .i64))) (hn : n ≤ 1048576) :
    Calls Try.prog 16 #[.slice (some ⟨g, 0, none⟩) n cp, .slice (some ⟨g2, 0, none⟩) n cp2] w (RetQ (.bool true) w) := by
  have e : zs.length = n := by have := o1.len; simpa using this
  have := sameInts_same (some ⟨g, 0, none⟩) (some ⟨g2, 0, none⟩) cp cp2 zs w (own_ints o1) (own_ints o2) (by omega)
  rwa [e] at this
theorem drop_rev {bs : List VBod} {k : Nat} {x : VBod} (hk : k < bs.length) (hx : bs.getD k default = x) : (bs.drop k).reverse = (bs.drop (k + 1)).reverse ++ [x] := by
  rw [List.getD_eq_getElem?_getD, List.getElem?_eq_getElem hk] at hx
  rw [List.drop_eq_getElem_cons hk, List.reverse_cons]
  have : bs[k] = x := hx
  rw [this]
theorem rel_rev {bs : List VBod} (h : (bs.map VBod.zs).all bodyB = true) (h1 : 1 ≤ (bs.map VBod.zs).length) (h2 : (bs.map VBod.zs).length ≤ 8) : relPar (bs.reverse.map VBod.zs) (par [0] (bs.map VBod.zs)) true := by
  rw [List.map_reverse]
  refine .inl ⟨?_, (par_reverse _ _).symm, rfl⟩
  unfold parB
  rw [List.length_reverse, List.all_reverse, decide_eq_true ⟨h1, h2⟩, h]
  rfl
end Go.Proofs.Ytppomcgkmjnpmaa
