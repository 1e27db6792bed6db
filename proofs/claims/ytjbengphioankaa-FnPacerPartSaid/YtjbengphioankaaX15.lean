/- Rows of Waiting as sources of appends; a valid pacer with one packet more, and with one less. -/
import Derived.Test.YtjbengphioankaaX9
namespace Go.Proofs.Ytjbengphioankaa
open Go.ChangeShapes Go.WideShapes Go.ChangeAt Go.RowKit Go.Deep

theorem wait_one {zs : List VWaiting} : ∀ u ∈ (zs.map VWaiting.cells).flatten, u.oneCell' = true := by
  intro u hu
  obtain ⟨c, hc, hu⟩ := List.mem_flatten.1 hu
  obtain ⟨x, _, rfl⟩ := List.mem_map.1 hc
  simp only [VWaiting.cells, List.mem_cons, List.not_mem_nil, or_false] at hu
  rcases hu with rfl | rfl | rfl <;> rfl
theorem elemW : ElemOf Try.prog 23 61 3 24 := elemOf Try.underlying23 infoWaiting rfl (by omega) (by omega)
theorem waitSrc {w : World} {g n cap : Nat} {zs : List VWaiting} (h : Own w 61 3 g n cap (zs.map VWaiting.cells).flatten) (a m : Nat) : ∀ j u, (((zs.drop a).take m).map VWaiting.cells).flatten[j]? = some u → w.cell? ((⟨g, a * 3, none⟩ : Addr).add j) = some u := by
  have := own_src h (flatWaiting zs) a m
  rwa [← List.map_drop, ← List.map_take] at this
theorem waitSrc0 {w : World} {g n cap : Nat} {zs : List VWaiting} (h : Own w 61 3 g n cap (zs.map VWaiting.cells).flatten) (m : Nat) : ∀ j u, ((zs.take m).map VWaiting.cells).flatten[j]? = some u → w.cell? ((⟨g, 0, none⟩ : Addr).add j) = some u := by
  have := waitSrc h 0 m
  rwa [Nat.zero_mul, List.drop_zero] at this
theorem waitSrc1 {w : World} {g n cap : Nat} {zs : List VWaiting} (h : Own w 61 3 g n cap (zs.map VWaiting.cells).flatten) (a : Nat) : ∀ j u, ((zs.drop a).map VWaiting.cells).flatten[j]? = some u → w.cell? ((⟨g, a * 3, none⟩ : Addr).add j) = some u := by
  have := waitSrc h a (zs.drop a).length
  rwa [List.take_length] at this
theorem wait_len (zs : List VWaiting) : (zs.map VWaiting.cells).flatten.length = zs.length * 3 := by rw [(flatWaiting zs).len, List.length_map]
/-- The list with x at place a. -/
def insW (zs : List VWaiting) (a : Nat) (x : VWaiting) : List VWaiting := zs.take a ++ x :: zs.drop a
theorem insW_len (zs : List VWaiting) (a : Nat) (x : VWaiting) (ha : a ≤ zs.length) : (insW zs a x).length = zs.length + 1 := by
  unfold insW; rw [List.length_append, List.length_take, List.length_cons, List.length_drop]; omega
theorem insW_get (zs : List VWaiting) (a : Nat) (x : VWaiting) (ha : a ≤ zs.length) (i : Nat) : (insW zs a x).getD i default = if i < a then zs.getD i default else if i = a then x else zs.getD (i - 1) default := by
  unfold insW
  have hl : (zs.take a).length = a := by rw [List.length_take]; omega
  rw [List.getD_eq_getElem?_getD]
  by_cases h1 : i < a
  · rw [if_pos h1, List.getElem?_append_left (by omega), List.getElem?_take_of_lt h1, List.getD_eq_getElem?_getD]
  · rw [if_neg h1, List.getElem?_append_right (by omega), hl]
    by_cases h2 : i = a
    · subst h2; simp
    · rw [if_neg h2]
      obtain ⟨j, hj⟩ : ∃ j, i - a = j + 1 := ⟨i - a - 1, by omega⟩
      rw [hj, List.getElem?_cons_succ, List.getElem?_drop, List.getD_eq_getElem?_getD, show a + j = i - 1 by omega]
/-- A packet that is put into its place leaves a valid pacer. -/
theorem pacT_ins {zs : List VWaiting} {a : Nat} {x : VWaiting} (h : pacT zs zs.length) (ha : a ≤ zs.length) (hx : waitB x = true) (hlo : ∀ i, i < a → (zs.getD i default).a1 ≤ x.a1) (hhi : a < zs.length → x.a1 ≤ (zs.getD a default).a1) : pacT (insW zs a x) (zs.length + 1) := by
  intro i hi
  rw [insW_get zs a x ha, insW_get zs a x ha]
  by_cases h1 : i < a
  · rw [if_pos h1, if_pos (show i - 1 < a by omega)]
    exact h i (by omega)
  · rw [if_neg h1]
    by_cases h2 : i = a
    · rw [if_pos h2]
      refine ⟨hx, fun h0 => ?_⟩
      rw [if_pos (show i - 1 < a by omega)]
      exact hlo (i - 1) (by omega)
    · rw [if_neg h2]
      refine ⟨(h (i - 1) (by omega)).1, fun _ => ?_⟩
      rw [if_neg (show ¬ i - 1 < a by omega)]
      by_cases h3 : i - 1 = a
      · rw [if_pos h3, h3]
        exact hhi (by omega)
      · rw [if_neg h3]
        exact (h (i - 1) (by omega)).2 (by omega)
theorem pacB_ins {e c : Int} {zs : List VWaiting} {a : Nat} {x : VWaiting} (h : pacB e c zs = true) (h12 : zs.length ≠ 12) (ha : a ≤ zs.length) (hx : waitB x = true) (hlo : ∀ i, i < a → (zs.getD i default).a1 ≤ x.a1) (hhi : a < zs.length → x.a1 ≤ (zs.getD a default).a1) : pacB e c (insW zs a x) = true := by
  obtain ⟨h1, h2, h3⟩ := of_decide_eq_true h
  exact pacB_yes (n := zs.length + 1) (insW_len zs a x ha) h1 (by omega) (pacT_ins h3 ha hx hlo hhi)
theorem insW_cells (zs : List VWaiting) (a : Nat) (x : VWaiting) : ((zs.take a).map VWaiting.cells).flatten ++ x.cells ++ ((zs.drop a).map VWaiting.cells).flatten = ((insW zs a x).map VWaiting.cells).flatten := by
  unfold insW; simp
/-- The list without what lies at place k. -/
def delW (zs : List VWaiting) (k : Nat) : List VWaiting := zs.take k ++ zs.drop (k + 1)
theorem delW_len (zs : List VWaiting) (k : Nat) (hk : k < zs.length) : (delW zs k).length = k + (zs.length - (k + 1)) := by
  unfold delW; rw [List.length_append, List.length_take, List.length_drop]; omega
theorem delW_get (zs : List VWaiting) (k : Nat) (hk : k < zs.length) (i : Nat) : (delW zs k).getD i default = if i < k then zs.getD i default else zs.getD (i + 1) default := by
  unfold delW
  have hl : (zs.take k).length = k := by rw [List.length_take]; omega
  rw [List.getD_eq_getElem?_getD]
  by_cases h1 : i < k
  · rw [if_pos h1, List.getElem?_append_left (by omega), List.getElem?_take_of_lt h1, List.getD_eq_getElem?_getD]
  · rw [if_neg h1, List.getElem?_append_right (by omega), hl, List.getElem?_drop, List.getD_eq_getElem?_getD, show k + 1 + (i - k) = i + 1 by omega]
/-- Without one of its packets a pacer stays valid. -/
theorem pacB_del {e c : Int} {zs : List VWaiting} {k : Nat} (h : pacB e c zs = true) (hk : k < zs.length) : pacB e c (delW zs k) = true := by
  obtain ⟨h1, h2, h3⟩ := of_decide_eq_true h
  refine pacB_yes (delW_len zs k hk) h1 (by omega) ?_
  intro i hi
  rw [delW_get zs k hk, delW_get zs k hk]
  by_cases c1 : i < k
  · rw [if_pos c1, if_pos (show i - 1 < k by omega)]
    exact h3 i (by omega)
  · rw [if_neg c1]
    refine ⟨(h3 (i + 1) (by omega)).1, fun h0 => ?_⟩
    by_cases c2 : i - 1 < k
    · rw [if_pos c2]
      have e : i = k := by omega
      subst e
      have a := (h3 i (by omega)).2 h0
      have b := (h3 (i + 1) (by omega)).2 (by omega)
      rw [Nat.add_sub_cancel] at b
      omega
    · rw [if_neg c2]
      have b := (h3 (i + 1) (by omega)).2 (by omega)
      rw [Nat.add_sub_cancel] at b
      rwa [show i - 1 + 1 = i by omega]
theorem pacB_rich (e : Int) (zs : List VWaiting) : pacB e 3001 zs = false := pacB_no1 (by omega)
theorem delW_cells (zs : List VWaiting) (k : Nat) : [] ++ ((zs.take k).map VWaiting.cells).flatten ++ ((zs.drop (k + 1)).map VWaiting.cells).flatten = ((delW zs k).map VWaiting.cells).flatten := by
  unfold delW; simp
/-- What is behind a put into a valid pacer: nothing, or a valid pacer in a row of its own, from block lo on. -/
def PutOk (e c : Int) (lo : Nat) (e' c' : Int) (A : Option Addr) (n cp : Nat) (b : Bool) (w : World) : Prop :=
  b = false ∨ (e' = e ∧ c' = c ∧ ∃ g zs', A = some ⟨g, 0, none⟩ ∧ List.length zs' = n ∧ pacB e c zs' = true ∧ lo ≤ g ∧ Own w 61 3 g n cp (zs'.map VWaiting.cells).flatten)
/-- The same, and the row is not block X. -/
def PutFar (X : Nat) (e c : Int) (lo : Nat) (e' c' : Int) (A : Option Addr) (n cp : Nat) (b : Bool) (w : World) : Prop :=
  b = false ∨ (e' = e ∧ c' = c ∧ ∃ g zs', A = some ⟨g, 0, none⟩ ∧ List.length zs' = n ∧ pacB e c zs' = true ∧ lo ≤ g ∧ g ≠ X ∧ Own w 61 3 g n cp (zs'.map VWaiting.cells).flatten)
section
variable {X lo lo' n cp : Nat} {e c e' c' : Int} {A : Option Addr} {b : Bool} {w : World}
theorem PutOk.old (h : PutOk e c lo e' c' A n cp b w) (hX : X < lo) (hl : lo' ≤ lo) : PutFar X e c lo' e' c' A n cp b w := by
  rcases h with h | ⟨h1, h2, g, zs, h3, h4, h5, h6, h7⟩
  · exact .inl h
  · exact .inr ⟨h1, h2, g, zs, h3, h4, h5, by omega, by omega, h7⟩
theorem PutOk.new (h : PutOk e c lo e' c' A n cp b w) (hl : lo' ≤ lo) (o : Obj) : PutFar w.heap.size e c lo' e' c' A n cp b (w.alloc o) := by
  rcases h with h | ⟨h1, h2, g, zs, h3, h4, h5, h6, h7⟩
  · exact .inl h
  · have := h7.lt
    exact .inr ⟨h1, h2, g, zs, h3, h4, h5, by omega, by omega, h7.alloc o⟩
theorem PutFar.set (h : PutFar X e c lo e' c' A n cp b w) (i : Nat) (v : Value) : PutFar X e c lo e' c' A n cp b (w.setCell ⟨X, i, none⟩ v) := by
  rcases h with h | ⟨h1, h2, g, zs, h3, h4, h5, h6, h7, h8⟩
  · exact .inl h
  · exact .inr ⟨h1, h2, g, zs, h3, h4, h5, h6, h7, h8.far h7 v⟩
end
/-- What a put into a valid pacer returns. -/
def PutPacer (e c : Int) (w : World) (en : Ending) (w' : World) : Prop :=
  ∃ e' c' A n cp b, en = .returned (.tuple #[.agg #[.int .i64 e', .int .i64 c', .slice A n cp], .bool b]) ∧ Below w.heap.size w w' ∧ PutOk e c w.heap.size e' c' A n cp b w'
theorem putPacer_no {e c : Int} {w w' : World} (h : Below w.heap.size w w') : PutPacer e c w (.returned (.tuple #[.agg #[.int .i64 0, .int .i64 0, .slice none 0 0], .bool false])) w' :=
  ⟨0, 0, none, 0, 0, false, rfl, h, .inl rfl⟩
theorem putPacer_yes {e c : Int} {g n cp : Nat} {zs : List VWaiting} {w w' : World} (h1 : zs.length = n) (h2 : pacB e c zs = true) (h3 : w.heap.size ≤ g) (h4 : Own w' 61 3 g n cp (zs.map VWaiting.cells).flatten) (h5 : Below w.heap.size w w') :
    PutPacer e c w (.returned (.tuple #[.agg #[.int .i64 e, .int .i64 c, .slice (some ⟨g, 0, none⟩) n cp], .bool true])) w' :=
  ⟨e, c, some ⟨g, 0, none⟩, n, cp, true, rfl, h5, .inr ⟨rfl, rfl, g, zs, rfl, h1, h2, h3, h4⟩⟩
end Go.Proofs.Ytjbengphioankaa
