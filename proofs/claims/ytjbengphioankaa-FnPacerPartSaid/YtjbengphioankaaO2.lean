/- Appending several elements to a row of the call's own. -/
import Derived.Test.YtjbengphioankaaI3
namespace Go.Proofs.Ytjbengphioankaa
open Go.ChangeShapes Go.WideShapes Go.ChangeAt Go.RowKit

/-- 'append(s, x...)' onto a row of the call's own; x has an address. -/
theorem wpList_append_m {P : Program} {wr : World} {ops : Array Oper} {rest : List Oper} {o : Oper} {a : Act} {Q : Exit → Act → World → Prop} (hgd : o.guard = none) (s x : Operand) (t : TypeId)
    (ho : o.op = .call { callee := .builtin .append, args := #[s, x], argTypes := #[t, t] })
    {e size bytes : Nat} (he : ElemOf P t e size bytes) {g n cap : Nat} {xs : List Value} (hs : a.eval s = .slice (some ⟨g, 0, none⟩) n cap) (hown : Own wr e size g n cap xs)
    (ad : Addr) (m c : Nat) (hx : a.eval x = .slice (some ad) m c) (cs : List Value) (hcs : cs.length = m * size) (hcell : ∀ j u, cs[j]? = some u → wr.cell? (ad.add j) = some u) (h1 : ∀ u ∈ cs, u.oneCell' = true)
    (hbytes : (n + m) * bytes ≤ 140737488355328)
    (h : ∀ g' cap' w', Own w' e size g' (n + m) cap' (xs ++ cs) → wr.grownBy w' (some g) → (g' = g ∨ wr.heap.size ≤ g') → wpList P ops Q rest (a.put o.dst (.slice (some ⟨g', 0, none⟩) (n + m) cap')) w') :
    wpList P ops Q (o :: rest) a wr := by
  obtain ⟨i, z, hi, hz, hz1, hz2, hz3⟩ := he.ex
  have hp := he.pos2
  have h63 : n + m ≤ maxLen := by
    have : (n + m) * 1 ≤ (n + m) * bytes := Nat.mul_le_mul_left _ hp
    unfold maxLen; omega
  obtain ⟨v', w', hrun, h2, h3, h4, h5⟩ := run_append_own_at (P := P) wr 0 t o.type e i z size bytes he.ht hi hz hz1 hz2 hz3 he.pos _ n xs hown ad m c cs hcs hcell h1 h63 hbytes (Nat.zero_le _)
  obtain ⟨g', cap', rfl, hg'⟩ : ∃ g' cap', v' = .slice (some ⟨g', 0, none⟩) (n + m) cap' ∧ (g' = g ∨ wr.heap.size ≤ g') := by
    rcases h2.2 with ⟨hv, _⟩ | ⟨g', cap', cur, hv, _⟩
    · have := (h4.1 hv).1
      simp at this
    · refine ⟨g', cap', hv, ?_⟩
      rw [hv] at h5
      simp [Value.ownBlock] at h5
      omega
  refine wpList_plain hgd fun K hK => ?_
  unfold Oper.wp execOp
  simp only [ho, resolve, invoke, builtin, Sem.run_bind, Sem.run_pure, Result.andThen_ok, List.map_toArray, List.map_cons, List.map_nil, hs, hx, hrun]
  exact hK _ _ (h g' cap' w' h2 (by simpa [Value.ownBlock] using h3) hg')
end Go.Proofs.Ytjbengphioankaa
