/- Slices whose elements have several cells: what they are in memory, as lists of lists of cells; nothing of the program stands here. -/
import Derived.Test.YtjbengphioankaaOW
import Derived.Laws.MakeOwn
namespace Go.Proofs.Ytjbengphioankaa
open Go.ChangeShapes Go.WideShapes Go.ChangeAt Go.RowKit Go.Deep

section
variable {α : Type}
/-- Each of the lists has k entries. -/
def Flat (k : Nat) (css : List (List α)) : Prop := ∀ c ∈ css, c.length = k
theorem Flat.len {k : Nat} {css : List (List α)} (h : Flat k css) : css.flatten.length = css.length * k := by
  induction css with
  | nil => simp
  | cons c t ih =>
    have h1 := h c (List.mem_cons_self ..)
    have h2 := ih fun x hx => h x (List.mem_cons_of_mem _ hx)
    simp [h1, h2, Nat.add_mul, Nat.add_comm]
theorem Flat.get {k : Nat} {css : List (List α)} (h : Flat k css) (i j : Nat) (hj : j < k) : css.flatten[i * k + j]? = (css[i]?.bind fun c => c[j]?) := by
  induction css generalizing i with
  | nil => simp
  | cons c t ih =>
    have h1 := h c (List.mem_cons_self ..)
    have h2 : Flat k t := fun x hx => h x (List.mem_cons_of_mem _ hx)
    cases i with
    | zero => simp [List.getElem?_append, h1, hj]
    | succ i =>
      have e : (i + 1) * k + j = k + (i * k + j) := by rw [Nat.add_mul, Nat.one_mul]; omega
      rw [List.flatten_cons, e, ← h1, List.getElem?_append_right (by omega), h1]
      simp [ih h2]
theorem Flat.set {k : Nat} {css : List (List α)} (h : Flat k css) (i j : Nat) (hj : j < k) (v : α) : css.flatten.set (i * k + j) v = (css.modify i fun c => c.set j v).flatten := by
  induction css generalizing i with
  | nil => simp
  | cons c t ih =>
    have h1 := h c (List.mem_cons_self ..)
    have h2 : Flat k t := fun x hx => h x (List.mem_cons_of_mem _ hx)
    cases i with
    | zero => simp [h1, hj]
    | succ i =>
      have e : (i + 1) * k + j = c.length + (i * k + j) := by rw [Nat.add_mul, Nat.one_mul]; omega
      rw [List.flatten_cons, e, List.set_append_right _ _ (by omega)]
      simp [ih h2]
theorem Flat.modify {k : Nat} {css : List (List α)} (h : Flat k css) (i j : Nat) (v : α) : Flat k (css.modify i fun c => c.set j v) := by
  intro c hc
  obtain ⟨n, hn, rfl⟩ := List.mem_iff_getElem.1 hc
  simp only [List.length_modify] at hn
  rw [List.getElem_modify]
  split
  · simpa using h _ (List.getElem_mem hn)
  · exact h _ (List.getElem_mem hn)
theorem Flat.map {β : Type} {k : Nat} {f : β → List α} (hf : ∀ x, (f x).length = k) (zs : List β) : Flat k (zs.map f) := by
  intro c hc
  obtain ⟨x, _, rfl⟩ := List.mem_map.1 hc
  exact hf x
end
theorem addr_add (b off n : Nat) : (⟨b, off, none⟩ : Addr).add n = ⟨b, off + n, none⟩ := by cases n <;> simp [Addr.add]
theorem made_flat (z : Array Value) (k n : Nat) (hz : z.size = k) (hk : 0 < k) : (madeCells z (n * k)).toList = (List.replicate n z.toList).flatten := by
  apply List.ext_getElem?
  intro j
  have hF : Flat k (List.replicate n z.toList) := fun c hc => by rw [List.eq_of_mem_replicate hc]; simpa using hz
  have hd : j / k * k + j % k = j := Nat.div_add_mod' j k
  have hm := Nat.mod_lt j hk
  have h := hF.get (j / k) (j % k) hm
  rw [hd] at h
  rw [h]
  by_cases hj : j < n * k
  · have h1 : j / k < n := Nat.div_lt_of_lt_mul (by rwa [Nat.mul_comm])
    have hm' : j % k < z.size := by omega
    have e : some z[j % k]! = z[j % k]? := by rw [getElem!_pos z (j % k) hm', Array.getElem?_eq_getElem hm']
    simp [madeCells, hj, h1, hz, e]
  · have h1 : ¬ j / k < n := by
      intro h1
      apply hj
      calc j < (j / k + 1) * k := by rw [Nat.add_mul, Nat.one_mul]; omega
        _ ≤ n * k := Nat.mul_le_mul_right _ h1
    simp [madeCells, hj, h1]
/-- 'make([]T, n)', for every world. -/
theorem run_make_recs {P : Program} {t e : TypeId} (z : Value) (size bytes : Nat) (ht : P.underlying t = some (.slice e)) (hinfo : (P.info? e).map (fun i => (i.zero, i.size, i.bytes)) = some (some z, size, bytes))
    (kl kc : IntKind) (n : Nat) (hbytes : bytes * n ≤ 281474976710656) (h63 : n ≤ 9223372036854775807) (w : World) :
    (Instr.makeSlice t (.int kl (n : Int)) (.int kc (n : Int))).run P w = .ok (.slice (some ⟨w.heap.size, 0, none⟩) n n) (w.alloc (.cells (madeCells z.cells (n * size)) e)) := by
  obtain ⟨i, hi, hzz⟩ := Option.map_eq_some_iff.1 hinfo
  simp only [Prod.mk.injEq] at hzz
  obtain ⟨hz, hs, hb⟩ := hzz
  subst hs
  have hb' : (i.bytes : Int) * (n : Int) ≤ 281474976710656 := by
    have h : ((i.bytes * n : Nat) : Int) ≤ 281474976710656 := by rw [hb]; omega
    rwa [Int.natCast_mul] at h
  have hr := run_make (P := P) w t e i z ht hi hz kl kc n n (by omega) (Int.le_refl _) hb' (by omega)
  simp only [Int.toNat_natCast] at hr
  exact hr
theorem own_made (w : World) (z : Value) (e : TypeId) (size n : Nat) (hz : z.cells.size = size) (hp : 0 < size) (hm : n ≤ maxLen) : Own (w.alloc (.cells (madeCells z.cells (n * size)) e)) e size w.heap.size n n (List.replicate n z.cells.toList).flatten :=
  (Own.new w _ e size n hm (size_madeCells _ _)).conv (made_flat _ _ _ hz hp)

/-- The slice at A has elements whose cells are css, each k of them. -/
def RecAt (k : Nat) (w : World) (A : Option Addr) (css : List (List Value)) : Prop :=
  css = [] ∨ ∃ b off, A = some ⟨b, off, none⟩ ∧ b < w.heap.size ∧ ∀ i j, i < css.length → j < k → w.cell? ⟨b, off + i * k + j, none⟩ = (css[i]?.bind fun c => c[j]?)
theorem RecAt.below {k : Nat} {w w' : World} {A : Option Addr} {css : List (List Value)} (h : RecAt k w A css) (hb : Below w.heap.size w w') : RecAt k w' A css := by
  rcases h with h | ⟨b, off, hA, hlt, hc⟩
  · exact .inl h
  · exact .inr ⟨b, off, hA, Nat.lt_of_lt_of_le hlt hb.size, fun i j hi hj => (hb.cell (p := ⟨b, off + i * k + j, none⟩) hlt).trans (hc i j hi hj)⟩
theorem RecAt.drewN {k : Nat} {w : World} {A : Option Addr} {css : List (List Value)} (h : RecAt k w A css) (n : Nat) : RecAt k (w.drewN n) A css := h
theorem own_recs {w : World} {e k g n cap : Nat} {css : List (List Value)} (h : Own w e k g n cap css.flatten) (hF : Flat k css) (hn : css.length = n) : RecAt k w (some ⟨g, 0, none⟩) css := by
  refine .inr ⟨g, 0, rfl, h.lt, fun i j hi hj => ?_⟩
  have hlt : i * k + j < n * k := by
    calc i * k + j < (i + 1) * k := by rw [Nat.add_mul, Nat.one_mul]; omega
      _ ≤ n * k := Nat.mul_le_mul_right _ (by omega)
  have := h.cell hlt
  rw [show 0 + i * k + j = i * k + j by omega, this]
  exact hF.get i j hj
theorem own_some {w : World} {e k g n cap j : Nat} {xs : List Value} (h : Own w e k g n cap xs) (hj : j < n * k) : ∃ v, w.cell? ⟨g, j, none⟩ = some v := by
  have hl := h.len
  exact ⟨xs[j]'(by omega), by rw [h.cell hj]; exact List.getElem?_eq_getElem (by omega)⟩
theorem lift_map {β : Type} {f : β → List Value} {css : List (List Value)} (h : ∀ i, i < css.length → ∃ x, css[i]? = some (f x)) : ∃ zs : List β, css = zs.map f := by
  induction css with
  | nil => exact ⟨[], rfl⟩
  | cons c t ih =>
    obtain ⟨x, hx⟩ := h 0 (by simp)
    obtain ⟨zs, hz⟩ := ih fun i hi => by
      obtain ⟨y, hy⟩ := h (i + 1) (by simpa using hi)
      exact ⟨y, by simpa using hy⟩
    simp at hx
    exact ⟨x :: zs, by simp [hx, hz]⟩
theorem take_set_next {β : Type} (zs : List β) (n k : Nat) (d : β) (hn : zs.length = n) (hk : k < n) : (zs.take k ++ List.replicate (n - k) d).set k (zs.getD k d) = zs.take (k + 1) ++ List.replicate (n - (k + 1)) d := by
  have hl : (zs.take k).length = k := by simp; omega
  rw [show n - k = (n - (k + 1)) + 1 by omega, List.replicate_succ, List.set_append_right _ _ (by omega), hl, Nat.sub_self, List.set_cons_zero, List.take_add_one]
  rw [List.append_assoc, List.getD_eq_getElem?_getD, List.getElem?_eq_getElem (show k < zs.length by omega)]
  rfl
theorem marks_set {β : Type} (f : Nat → β) (zs : List β) (k : Nat) (hk : k < zs.length) : ((List.range k).map f ++ zs.drop k).set k (f k) = (List.range (k + 1)).map f ++ zs.drop (k + 1) := by
  have hl : ((List.range k).map f).length = k := by simp
  rw [List.drop_eq_getElem_cons hk, List.set_append_right _ _ (by omega), hl, Nat.sub_self, List.set_cons_zero, List.range_succ, List.map_append, List.append_assoc]
  rfl
/-- An argument that is a slice of structs of one-cell fields. -/
theorem open_recs {H : Type} {enc : TypeId × Value → H} {P : Program} {w : World} {b0 : Nat} {r : Reach} {held : Bool} {t e : TypeId} {fs : Array Field} {v : Value} {d : DataW H} {p : List MemPlace} (ht : P.underlying t = some (.slice e)) (he : P.underlying e = some (.struct fs))
    (hone : oneCellFields P fs = true) (hC : P.cellsOf e = fs.size) (hpos : 0 < fs.size) (o : Value.okWide P w r b0 t v) (h : DataW.Trod enc P w 0 (fun _ => true) held t v d p) :
    ∃ A c css, v = .slice A (List.length css) c ∧ css.length ≤ c ∧ c ≤ 9223372036854775807 ∧ RecAt fs.size w A css ∧
      ∀ i, i < css.length → ∃ cs : List Value, css[i]? = some cs ∧ cs.length = fs.size ∧ ∀ (j : Nat) (f : Field), fs[j]? = some f → ∃ c n y, cs[j]? = some c ∧ DataW.trod enc P w 0 (fun _ => true) held n f.type [c] = some y := by
  obtain ⟨A, n, c, rfl⟩ := okWide_slice ht o
  obtain ⟨fuel, hf⟩ := h
  rcases open_slice ht hf with ⟨hcs, _⟩ | ⟨a, len, cap, m, nn, D, Pl, hcs, _, hl, hm, hmm, _, hi⟩
  · simp [Value.cells] at hcs
    obtain ⟨rfl, rfl, rfl⟩ := hcs
    exact ⟨none, 0, [], rfl, by simp, by omega, .inl rfl, fun i hi => by simp at hi⟩
  · simp [Value.cells] at hcs
    obtain ⟨rfl, rfl, rfl⟩ := hcs
    simp at hmm
    subst hmm
    unfold maxLen at hm
    rw [hC] at hi
    have hall : ∀ i, i < n → ∃ cs : List Value, cs.length = fs.size ∧ (∀ j, j < fs.size → w.cell? (a.add (i * fs.size + j)) = cs[j]?) ∧ ∀ (j : Nat) (f : Field), fs[j]? = some f → ∃ c n y, cs[j]? = some c ∧ DataW.trod enc P w 0 (fun _ => true) held n f.type [c] = some y := by
      intro i hin
      obtain ⟨cs', hc, ht'⟩ := hi i (by omega)
      obtain ⟨ys, n', hn', hy, hlen, hyl, hg⟩ := DataW.trod_struct he ht'
      obtain ⟨_, hcl, hat⟩ := World.cells?_some hc
      refine ⟨cs', by omega, fun j hj => ?_, fun j f hj => ?_⟩
      · rw [← Go.Deep.add_add, hat j hj]
      · obtain ⟨ho, hk⟩ := hone_of hone j f hj
        have hjl : j < fs.size := (Array.getElem?_eq_some_iff.1 hj).1
        have hv : cs'[j]? = some (cs'[j]'(by omega)) := List.getElem?_eq_getElem (by omega)
        have h1 := hg j f hj
        rw [ho, hk] at h1
        have hone' : (cs'.drop j).take 1 = [cs'[j]'(by omega)] := by
          rw [List.drop_eq_getElem_cons (by omega)]
          rfl
        rw [hone'] at h1
        exact ⟨_, n', ys[j]'(by omega), hv, by rw [h1]; exact List.getElem?_eq_getElem (by omega)⟩
    obtain ⟨css, hlen, hcss⟩ : ∃ css : List (List Value), css.length = n ∧ ∀ i, i < n → ∃ cs, css[i]? = some cs ∧ cs.length = fs.size ∧ (∀ j, j < fs.size → w.cell? (a.add (i * fs.size + j)) = cs[j]?) ∧ ∀ (j : Nat) (f : Field), fs[j]? = some f → ∃ c n y, cs[j]? = some c ∧ DataW.trod enc P w 0 (fun _ => true) held n f.type [c] = some y := by
      refine ⟨(List.range n).pmap (fun i (hi : i < n) => Classical.choose (hall i hi)) (fun i hi => List.mem_range.1 hi), by simp, fun i hin => ⟨Classical.choose (hall i hin), by simp [hin], Classical.choose_spec (hall i hin)⟩⟩
    refine ⟨some a, _, css, by rw [hlen], by omega, hm, ?_, fun i hi => ?_⟩
    · rcases Nat.eq_zero_or_pos n with h0 | h0
      · exact .inl (List.eq_nil_of_length_eq_zero (by omega))
      · obtain ⟨cs, _, hl0, hc0, _⟩ := hcss 0 h0
        obtain ⟨b, off, spot⟩ := a
        have hx := hc0 0 hpos
        rw [List.getElem?_eq_getElem (by omega)] at hx
        have hspot : spot = none := by simpa [Addr.add] using World.cell?_spot hx
        subst hspot
        rw [addr_add] at hx
        refine .inr ⟨b, off, rfl, block_lt_of_cell hx, fun i j hi hj => ?_⟩
        obtain ⟨cs, hcs, _, hc, _⟩ := hcss i (by omega)
        rw [hcs, ← (show w.cell? _ = (some cs).bind (fun c => c[j]?) from hc j hj)]
        rw [addr_add, Nat.add_assoc]
    · obtain ⟨cs, h1, h2, _, h3⟩ := hcss i (by omega)
      exact ⟨cs, h1, h2, h3⟩
end Go.Proofs.Ytjbengphioankaa
