/- Rows of the call's own that grow by append: the law of an append, and what is kept of a row. -/
import Derived.Test.YtjbengphioankaaRW
import Derived.Maps.AppendAt
import Derived.OwnWalk
import Derived.Laws.OwnMore
namespace Go.Proofs.Ytjbengphioankaa
open Go.RowKit

/-- t is a slice type whose elements, of type e, have size cells and bytes bytes. -/
structure ElemOf (P : Program) (t e : TypeId) (size bytes : Nat) : Prop where
  ht : P.underlying t = some (.slice e)
  ex : ∃ i z, P.info? e = some i ∧ i.zero = some z ∧ i.size = size ∧ i.bytes = bytes ∧ z.cells.size = size
  pos : 0 < size
  pos2 : 0 < bytes
theorem elemOf {P : Program} {t e : TypeId} {z : Value} {size bytes : Nat} (ht : P.underlying t = some (.slice e)) (h : (P.info? e).map (fun i => (i.zero, i.size, i.bytes)) = some (some z, size, bytes)) (hz : z.cells.size = size) (h1 : 0 < size) (h2 : 0 < bytes) : ElemOf P t e size bytes := by
  obtain ⟨i, a, b, c, d⟩ := info_parts h
  exact ⟨ht, ⟨i, z, a, b, c, d, hz⟩, h1, h2⟩

/-- Block g is a row of n elements of type e, of size cells each, with room for cap; xs are all cells. -/
def Own (w : World) (e size g n cap : Nat) (xs : List Value) : Prop := w.ownsRow 0 e size (.slice (some ⟨g, 0, none⟩) n cap) n xs
section
variable {w w' : World} {e size g n cap : Nat} {xs : List Value}
theorem Own.lt (h : Own w e size g n cap xs) : g < w.heap.size := (World.ownsRow.lt h g rfl).2
theorem Own.len (h : Own w e size g n cap xs) : xs.length = n * size := h.1
theorem Own.room (h : Own w e size g n cap xs) : n ≤ cap ∧ cap ≤ maxLen := by
  rcases h.2 with ⟨h', _⟩ | ⟨g', cap', cur, h', _, _, h1, h2, _⟩
  · simp at h'
  · simp only [Value.slice.injEq, Option.some.injEq, Addr.mk.injEq, and_true, true_and] at h'
    obtain ⟨_, rfl⟩ := h'
    exact ⟨h1, h2⟩
theorem Own.cell (h : Own w e size g n cap xs) {j : Nat} (hj : j < n * size) : w.cell? ⟨g, j, none⟩ = xs[j]? := World.ownsRow.cellAt h j hj
theorem Own.frozen (h : Own w e size g n cap xs) (j : Nat) : w.frozen? ⟨g, j, none⟩ = false := World.ownsRow.frozenAt h j
theorem Own.of_block (h : Own w e size g n cap xs) (hb : w'.heap[g]? = w.heap[g]?) : Own w' e size g n cap xs := by
  refine ⟨h.1, ?_⟩
  rcases h.2 with ⟨h', _⟩ | ⟨g', cap', cur, h', h0, h1, h2⟩
  · simp at h'
  · have h'' := h'
    simp only [Value.slice.injEq, Option.some.injEq, Addr.mk.injEq, and_true, true_and] at h''
    obtain ⟨rfl, rfl⟩ := h''
    exact .inr ⟨g, cap, cur, rfl, h0, hb.trans h1, h2⟩
theorem Own.alloc (h : Own w e size g n cap xs) (o : Obj) : Own (w.alloc o) e size g n cap xs := h.of_block (Below.heap_alloc w o g h.lt)
theorem Own.far (h : Own w e size g n cap xs) {a : Addr} (ha : g ≠ a.block) (v : Value) : Own (w.setCell a v) e size g n cap xs := h.of_block (Below.heap_setCell w a v g ha)
theorem Own.drew (h : Own w e size g n cap xs) : Own w.drew e size g n cap xs := h
theorem Own.drewN (h : Own w e size g n cap xs) (k : Nat) : Own (w.drewN k) e size g n cap xs := h
theorem Own.below (h : Own w e size g n cap xs) (hb : Below w.heap.size w w') : Own w' e size g n cap xs := h.of_block (hb.block g h.lt)
theorem Own.grown {r : Nat} (h : Own w e size g n cap xs) (hg : w.grownBy w' (some r)) (hne : g ≠ r) : Own w' e size g n cap xs := h.of_block (hg.block g h.lt (by simpa using hne))
theorem Own.set (h : Own w e size g n cap xs) (j : Nat) (u : Value) : Own (w.setCell ⟨g, j, none⟩ u) e size g n cap (xs.set j u) := (World.ownsRow.stored h j u).1
theorem Own.new (w : World) (cs : Array Value) (e size n : Nat) (hm : n ≤ maxLen) (hs : cs.size = n * size) : Own (w.alloc (.cells cs e)) e size w.heap.size n n cs.toList := World.ownsRow_lit w cs n (Nat.zero_le _) hm hs
theorem Own.new1 (w : World) (a : Obj) (cs : Array Value) (e size n : Nat) (hm : n ≤ maxLen) (hs : cs.size = n * size) : Own ((w.alloc a).alloc (.cells cs e)) e size (w.heap.size + 1) n n cs.toList := by
  have h := Own.new (w.alloc a) cs e size n hm hs
  rwa [World.size_alloc] at h
theorem Own.conv {xs' : List Value} (h : Own w e size g n cap xs) (hx : xs = xs') : Own w e size g n cap xs' := hx ▸ h
theorem Own.convn {n' : Nat} (h : Own w e size g n cap xs) (hx : n = n') : Own w e size g n' cap xs := hx ▸ h
end
theorem grown_of_below {a w : World} (h : Below a.heap.size a w) (r : Nat) : a.grownBy w (some r) := ⟨h.os, h.tape, h.output, h.size, fun i hi _ => h.block i hi⟩
theorem Row.grown_ow {w w' : World} {g R : Nat} {cs : Array Value} (h : Row w g cs) (hg : w.grownBy w' (some R)) (hne : g ≠ R) : Row w' g cs := h.grown hg hne
theorem Rd.grown {w w' : World} {B R P r : Nat} (h : Rd w B R P) (hg : w.grownBy w' (some r)) (hr : R < r) : Rd w' B R P :=
  h.keep hg.size fun k hk hlt => hg.block k hlt (by simp; omega)

/-- 'append(s, x)' onto a row of the call's own; x has just been laid in a block of its own. -/
theorem wpList_append_1 {P : Program} {wr : World} {ops : Array Oper} {rest : List Oper} {o : Oper} {a : Act} {Q : Exit → Act → World → Prop} (hgd : o.guard = none) (s x : Operand) (t : TypeId)
    (ho : o.op = .call { callee := .builtin .append, args := #[s, x], argTypes := #[t, t] })
    {e size bytes : Nat} (he : ElemOf P t e size bytes) {g n cap : Nat} {xs : List Value} (hs : a.eval s = .slice (some ⟨g, 0, none⟩) n cap) (hown : Own wr e size g n cap xs)
    (cs : Array Value) (hx : a.eval x = .slice (some ⟨wr.heap.size, 0, none⟩) 1 1) (hcs : cs.size = size) (h1 : (cs.toList.all fun u => u.oneCell') = true)
    (hbytes : (n + 1) * bytes ≤ 140737488355328)
    (h : ∀ g' cap' w', Own w' e size g' (n + 1) cap' (xs ++ cs.toList) → wr.grownBy w' (some g) → (g' = g ∨ wr.heap.size ≤ g') → wpList P ops Q rest (a.put o.dst (.slice (some ⟨g', 0, none⟩) (n + 1) cap')) w') :
    wpList P ops Q (o :: rest) a (wr.alloc (.cells cs e)) := by
  obtain ⟨i, z, hi, hz, hz1, hz2, hz3⟩ := he.ex
  have hp := he.pos2
  have h63 : n + 1 ≤ maxLen := by
    have : (n + 1) * 1 ≤ (n + 1) * bytes := Nat.mul_le_mul_left _ hp
    unfold maxLen; omega
  obtain ⟨v', w', hrun, h2, h3, h4, h5⟩ := run_append_own_at (P := P) (wr.alloc (.cells cs e)) 0 t o.type e i z size bytes he.ht hi hz hz1 hz2 hz3 he.pos _ n xs (hown.alloc (.cells cs e))
    ⟨wr.heap.size, 0, none⟩ 1 1 cs.toList (by simpa using hcs) (fun j u hu => by
      have := row_cells wr cs e j
      rw [show (⟨wr.heap.size, 0, none⟩ : Addr).add j = ⟨wr.heap.size, j, none⟩ from by cases j <;> simp [Addr.add]]
      rw [this]; simpa using hu) (fun u hu => by simpa using List.all_eq_true.1 h1 u hu) h63 hbytes (Nat.zero_le _)
  obtain ⟨g', cap', rfl, hg'⟩ : ∃ g' cap', v' = .slice (some ⟨g', 0, none⟩) (n + 1) cap' ∧ (g' = g ∨ wr.heap.size ≤ g') := by
    rcases h2.2 with ⟨_, hn⟩ | ⟨g', cap', cur, hv, _⟩
    · omega
    · refine ⟨g', cap', hv, ?_⟩
      rw [hv] at h5
      simp [Value.ownBlock] at h5
      omega
  refine wpList_plain hgd fun K hK => ?_
  unfold Oper.wp execOp
  simp only [ho, resolve, invoke, builtin, Sem.run_bind, Sem.run_pure, Result.andThen_ok, List.map_toArray, List.map_cons, List.map_nil, hs, hx, hrun]
  exact hK _ _ (h g' cap' w' h2 (grown_trans (World.grownBy_alloc wr _ _) (by simpa [Value.ownBlock] using h3)) hg')
end Go.Proofs.Ytjbengphioankaa
