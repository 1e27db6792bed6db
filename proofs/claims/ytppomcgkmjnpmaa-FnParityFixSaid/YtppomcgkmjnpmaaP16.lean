/- Slices of bodies put together; what DrawParityFix draws. -/
import Derived.Test.YtppomcgkmjnpmaaP15
namespace Go.Proofs.Ytppomcgkmjnpmaa
open Go.ChangeShapes Go.WideShapes Go.ChangeAt Go.RowKit Go.Deep

/-- 'append(s, x...)' of elements of one cell onto a row of the call's own, as a step of a region that draws its order. -/
theorem step_append_m {P : Program} {wr : World} {ops : Array Oper} {o : Oper} {a : Act} {K : Act → World → Prop} {Q : Exit → Act → World → Prop} {E : Prop} (hw : Region.wanted o (yielded ops a.tmps) = true) (s x : Operand) (t : TypeId)
    (ho : o.op = .call { callee := .builtin .append, args := #[s, x], argTypes := #[t, t] })
    {e bytes : Nat} (he : ElemOf P t e 1 bytes) {g n cap : Nat} {xs : List Value} (hs : a.eval s = .slice (some ⟨g, 0, none⟩) n cap) (hown : Own wr e 1 g n cap xs)
    {ad : Addr} {m c : Nat} (hx : a.eval x = .slice (some ad) m c) (cs : List Value) (hcs : cs.length = m) (hcell : ∀ j u, cs[j]? = some u → wr.cell? (ad.add j) = some u) (h1 : ∀ u ∈ cs, u.oneCell' = true)
    (hbytes : (n + m) * bytes ≤ 140737488355328)
    (h : ∀ g' cap' w', Own w' e 1 g' (n + m) cap' (xs ++ cs) → wr.grownBy w' (some g) → (g' = g ∨ wr.heap.size ≤ g') → K (a.put o.dst (.slice (some ⟨g', 0, none⟩) (n + m) cap')) w') :
    if Region.wanted o (yielded ops a.tmps) = true then Oper.wp P o a wr K Q else E := by
  rw [if_pos hw]
  obtain ⟨i, z, hi, hzz, hz1, hz2, hz3⟩ := he.ex
  have hp := he.pos2
  have h63 : n + m ≤ maxLen := by
    have : (n + m) * 1 ≤ (n + m) * bytes := Nat.mul_le_mul_left _ hp
    unfold maxLen; omega
  obtain ⟨v', w', hrun, h2, h3, h4, h5⟩ := run_append_own_at (P := P) wr 0 t o.type e i z 1 bytes he.ht hi hzz hz1 hz2 hz3 he.pos _ n _ hown ad m c cs (by omega) hcell h1 h63 hbytes (Nat.zero_le _)
  obtain ⟨g', cap', rfl, hg'⟩ : ∃ g' cap', v' = .slice (some ⟨g', 0, none⟩) (n + m) cap' ∧ (g' = g ∨ wr.heap.size ≤ g') := by
    rcases h2.2 with ⟨hv, _⟩ | ⟨g', cap', cur, hv, _⟩
    · have := (h4.1 hv).1
      simp at this
    · refine ⟨g', cap', hv, ?_⟩
      rw [hv] at h5
      simp [Value.ownBlock] at h5
      omega
  unfold Oper.wp execOp
  simp only [ho, resolve, invoke, builtin, Sem.run_bind, Sem.run_pure, Result.andThen_ok, List.map_toArray, List.map_cons, List.map_nil, hs, hx, hrun]
  exact h g' cap' w' h2 (by simpa [Value.ownBlock] using h3) hg'
/-- The values of bodies, as cells of a source that begins at place k of their row. -/
theorem vals_cell {w : World} {B g n cap : Nat} {bs : List VBod} (h : OwnBod w B g n cap bs) (k m : Nat) : ∀ j u, (((bs.drop k).take m).map VBod.val)[j]? = some u → w.cell? ((⟨g, k, none⟩ : Addr).add j) = some u := by
  intro j u hu
  rw [List.getElem?_map] at hu
  obtain ⟨x, hx, rfl⟩ := Option.map_eq_some_iff.1 hu
  have hj := (List.getElem?_eq_some_iff.1 hx).1
  rw [List.length_take] at hj
  rw [List.getElem?_take_of_lt (by omega), List.getElem?_drop] at hx
  have hl := h.len
  have hk := (List.getElem?_eq_some_iff.1 hx).1
  rw [addr_add, h.1.cell (by omega), List.getElem?_map, hx]
  rfl
theorem vals_one {bs : List VBod} : ∀ u ∈ bs.map VBod.val, u.oneCell' = true := by
  intro u hu
  obtain ⟨x, _, rfl⟩ := List.mem_map.1 hu
  rfl
/-- Some of the bodies, in a row of its own. -/
theorem OwnBod.part {w w7 : World} {B g n cap g7 n7 c7 S : Nat} {bs bs' : List VBod} (h : OwnBod w B g n cap bs) (hsub : ∀ x ∈ bs', x ∈ bs) (hb : Below S w w7) (hS : w.heap.size ≤ S) (o7 : Own w7 25 1 g7 n7 c7 (bs'.map VBod.val)) (hg7 : w.heap.size ≤ g7) : OwnBod w7 B g7 n7 c7 bs' := by
  refine ⟨o7, fun x hx => ?_⟩
  obtain ⟨a, b, c⟩ := h.2 x (hsub x hx)
  have := c.lt
  exact ⟨a, by omega, c.below (hb.mono hS)⟩
theorem less_len {bs : List VBod} {n k : Nat} (hn : bs.length = n) (hk : k < n) : (bs.take k ++ bs.drop (k + 1)).length = n - 1 := by
  rw [List.length_append, List.length_take, List.length_drop]; omega
theorem less_sub {bs : List VBod} {k : Nat} : ∀ x ∈ bs.take k ++ bs.drop (k + 1), x ∈ bs := by
  intro x hx
  rcases List.mem_append.1 hx with hx | hx
  · exact List.mem_of_mem_take hx
  · exact List.mem_of_mem_drop hx
theorem less_few {bs : List VBod} {k : Nat} (h : fewB bs) : fewB (bs.take k ++ bs.drop (k + 1)) := fun x hx => h x (less_sub x hx)
end Go.Proofs.Ytppomcgkmjnpmaa
