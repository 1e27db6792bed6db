/- Members of a room: what they are in memory, such a list that came in, and the contracts of what counts, copies, compares them. -/
import Derived.Test.YtjbengphioankaaOP
import Derived.Deep.RegionHeld3
import Derived.Deep.DeepCutAuto
namespace Go.Proofs.Ytjbengphioankaa
open Go.ChangeShapes Go.WideShapes Go.ChangeAt Go.RowKit Go.Deep

structure VMem where
  id : Int
  sends : Bool
  hs : List Int
instance : Inhabited VMem := ⟨⟨0, false, []⟩⟩
/-- The cells from o on in block b are those of the member x. -/
def MemCells (w : World) (b o : Nat) (x : VMem) : Prop :=
  w.cell? ⟨b, o, none⟩ = some (.int .i64 x.id) ∧ w.cell? ⟨b, o + 1, none⟩ = some (.bool x.sends) ∧ ∃ H c, w.cell? ⟨b, o + 2, none⟩ = some (.slice H x.hs.length c) ∧ x.hs.length ≤ c ∧ c ≤ 9223372036854775807 ∧ IntsAt w H x.hs
theorem MemCells.below {w w' : World} {b o : Nat} {x : VMem} (h : MemCells w b o x) (hlt : b < w.heap.size) (hb : Below w.heap.size w w') : MemCells w' b o x := by
  obtain ⟨h1, h2, H, c, h3, h4, h5, h6⟩ := h
  exact ⟨(hb.cell (p := ⟨b, o, none⟩) hlt).trans h1, (hb.cell (p := ⟨b, o + 1, none⟩) hlt).trans h2, H, c, (hb.cell (p := ⟨b, o + 2, none⟩) hlt).trans h3, h4, h5, h6.below hb⟩
/-- The slice at A has the members ms. -/
def MemAt (w : World) (A : Option Addr) (ms : List VMem) : Prop :=
  ms = [] ∨ ∃ b off, A = some ⟨b, off, none⟩ ∧ b < w.heap.size ∧ ∀ i, i < ms.length → MemCells w b (off + i * 3) (ms.getD i default)
theorem MemAt.below {w w' : World} {A : Option Addr} {ms : List VMem} (h : MemAt w A ms) (hb : Below w.heap.size w w') : MemAt w' A ms := by
  rcases h with h | ⟨b, off, hA, hlt, hc⟩
  · exact .inl h
  · exact .inr ⟨b, off, hA, Nat.lt_of_lt_of_le hlt hb.size, fun i hi => (hc i hi).below hlt hb⟩
theorem MemAt.drewN {w : World} {A : Option Addr} {ms : List VMem} (h : MemAt w A ms) (n : Nat) : MemAt (w.drewN n) A ms := h
theorem MemAt.at {w : World} {A : Option Addr} {ms : List VMem} (h : MemAt w A ms) {k : Nat} (hk : k < ms.length) : ∃ b off, A = some ⟨b, off, none⟩ ∧ b < w.heap.size ∧ MemCells w b (off + k * 3) (ms.getD k default) := by
  rcases h with h | ⟨b, off, hA, hlt, hc⟩
  · subst h; simp at hk
  · exact ⟨b, off, hA, hlt, hc k hk⟩

/-! ### An argument -/
theorem trod_fldM {H : Type} {enc : TypeId × Value → H} {P : Program} {W : World} {b n' : Nat} {sp : Nat → Bool} {hd : Bool} {fs : Array Field} {cs : List Value} {ys : List (DataW H × List MemPlace)}
    (hg : ∀ (j : Nat) (f : Field), fs[j]? = some f → DataW.trod enc P W b sp hd n' f.type ((cs.drop f.offset).take (P.cellsOf f.type)) = ys[j]?) (j t o k : Nat) (h : (fs[j]?).map (fun f => (f.type, f.offset)) = some (t, o)) (hk : P.cellsOf t = k) :
    DataW.trod enc P W b sp hd n' t ((cs.drop o).take k) = ys[j]? := by
  obtain ⟨f, hf, he⟩ := Option.map_eq_some_iff.1 h
  simp only [Prod.mk.injEq] at he
  obtain ⟨rfl, rfl⟩ := he
  rw [← hk]
  exact hg j f hf
set_option maxRecDepth 100000 in
/-- A slice of ints that lies in a cell. -/
theorem ints_cell1 {H : Type} {enc : TypeId × Value → H} {W : World} {cs : List Value} (h : ∃ n y, DataW.trod enc Try.prog W 0 (fun _ => true) true n 76 cs = some y) :
    ∃ (zs : List Int) (A : Option Addr) (c : Nat), cs = [.slice A zs.length c] ∧ zs.length ≤ c ∧ c ≤ 9223372036854775807 ∧ IntsAt W A zs := by
  obtain ⟨n, y, ht⟩ := h
  rcases open_ints Try.underlying76 Try.underlying3 (by kernel_rfl) ht with ⟨hcs, _⟩ | ⟨x, l, cp, zs, hcs, _, hl', hm', hz', _, hcell, hwz⟩
  · exact ⟨[], none, 0, by simpa using hcs, by simp, by omega, .inl rfl⟩
  · unfold maxLen at hm'
    have hz'' : zs.length = cp := by simpa using hz'
    have htake : (zs.take l).length = l := by simp; omega
    refine ⟨zs.take l, some x, cp, by rw [htake]; exact hcs, by rw [htake]; exact hl', hm', ?_⟩
    rcases Nat.eq_zero_or_pos l with h00 | h00
    · subst h00; exact .inl (by simp)
    · obtain ⟨b, off, spot⟩ := x
      have hc0 := hcell 0 (by omega)
      have hspot : spot = none := by simpa [Addr.add] using World.cell?_spot hc0
      subst hspot
      have hall : ∀ i, i < l → W.cell? ⟨b, off + i, none⟩ = some (.int .i64 (zs.getD i 0)) := by
        intro i hi
        have := hcell i (by omega)
        rwa [addr_add] at this
      refine .inr ⟨b, off, rfl, block_lt_of_cell (hall 0 h00), fun i hi => ?_⟩
      rw [htake] at hi
      rw [hall i hi]
      simp [List.getD_eq_getElem?_getD, hi]
set_option maxRecDepth 100000 in
theorem mem_elem {H : Type} {enc : TypeId × Value → H} {W : World} {cs : List Value} (hl : cs.length = 3) (h : ∃ n y, DataW.trod enc Try.prog W 0 (fun _ => true) true n 78 cs = some y) :
    ∃ (x : VMem) (A : Option Addr) (c : Nat), cs = [.int .i64 x.id, .bool x.sends, .slice A x.hs.length c] ∧ x.hs.length ≤ c ∧ c ≤ 9223372036854775807 ∧ IntsAt W A x.hs := by
  obtain ⟨n, y, h⟩ := h
  obtain ⟨ys, n', _, _, hlen, hyl, hg⟩ := DataW.trod_struct Try.underlying78 h
  have c1 : Try.prog.cellsOf 3 = 1 := by kernel_rfl
  have c1b : Try.prog.cellsOf 4 = 1 := by kernel_rfl
  have c1s : Try.prog.cellsOf 76 = 1 := by kernel_rfl
  match cs, hl with
  | [a0, a1, a2], _ =>
    have h0 := trod_fldM hg 0 3 0 1 (by rfl) c1
    have h1 := trod_fldM hg 1 4 1 1 (by rfl) c1b
    have h2 := trod_fldM hg 2 76 2 1 (by rfl) c1s
    simp only [List.take, List.drop] at h0 h1 h2
    have k : ∀ j, j < 3 → ∃ y, ys[j]? = some y := fun j hj => ⟨_, List.getElem?_eq_getElem (by rw [hyl]; exact hj)⟩
    obtain ⟨z0, e0⟩ := k 0 (by omega)
    obtain ⟨z1, e1⟩ := k 1 (by omega)
    obtain ⟨z2, e2⟩ := k 2 (by omega)
    rw [e0] at h0
    rw [e1] at h1
    rw [e2] at h2
    obtain ⟨b0, rfl, _⟩ := int_cell Try.underlying3 ⟨_, _, h0⟩
    obtain ⟨b1, rfl⟩ := bool_cell Try.underlying4 ⟨_, _, h1⟩
    obtain ⟨zs, A, c, he, q1, q2, q3⟩ := ints_cell1 ⟨_, _, h2⟩
    simp only [List.cons.injEq, and_true] at he
    subst he
    exact ⟨⟨b0, b1, zs⟩, A, c, rfl, q1, q2, q3⟩
set_option maxRecDepth 100000 in
theorem openMemberS {H : Type} {enc : TypeId × Value → H} (W : World) (base : Nat) (v : Value) (d : DataW H) (p : List MemPlace) (o : Value.okWide Try.prog W .any base 43 v) (h : DataW.Trod enc Try.prog W 0 (fun _ => true) true 43 v d p) :
    ∃ A c ms, v = .slice A (List.length ms) c ∧ ms.length ≤ c ∧ c ≤ 9223372036854775807 ∧ MemAt W A ms := by
  obtain ⟨A, n, c, rfl⟩ := okWide_slice Try.underlying43 o
  obtain ⟨fuel, hf⟩ := h
  have hC : Try.prog.cellsOf 78 = 3 := by kernel_rfl
  rcases open_slice Try.underlying43 hf with ⟨hcs, _⟩ | ⟨a, len, cap, m, nn, D, Pl, hcs, _, hl, hm, hmm, _, hi⟩
  · simp [Value.cells] at hcs
    obtain ⟨rfl, rfl, rfl⟩ := hcs
    exact ⟨none, 0, [], rfl, by simp, by omega, .inl rfl⟩
  · simp [Value.cells] at hcs
    obtain ⟨rfl, rfl, rfl⟩ := hcs
    simp at hmm
    subst hmm
    unfold maxLen at hm
    rw [hC] at hi
    have hall : ∀ i, i < n → ∃ x : VMem, ∃ (A' : Option Addr) (c' : Nat), W.cell? (a.add (i * 3 + 0)) = some (.int .i64 x.id) ∧ W.cell? (a.add (i * 3 + 1)) = some (.bool x.sends) ∧ W.cell? (a.add (i * 3 + 2)) = some (.slice A' x.hs.length c') ∧ x.hs.length ≤ c' ∧ c' ≤ 9223372036854775807 ∧ IntsAt W A' x.hs := by
      intro i hin
      obtain ⟨cs', hc, ht'⟩ := hi i (by omega)
      obtain ⟨_, hcl, hat⟩ := World.cells?_some hc
      obtain ⟨x, A', c', rfl, q1, q2, q3⟩ := mem_elem (by omega) ⟨_, _, ht'⟩
      refine ⟨x, A', c', ?_, ?_, ?_, q1, q2, q3⟩
      · rw [← Go.Deep.add_add, hat 0 (by simp)]; rfl
      · rw [← Go.Deep.add_add, hat 1 (by simp)]; rfl
      · rw [← Go.Deep.add_add, hat 2 (by simp)]; rfl
    obtain ⟨ms, hlen, hms⟩ : ∃ ms : List VMem, ms.length = n ∧ ∀ i, i < n → ∃ (A' : Option Addr) (c' : Nat), W.cell? (a.add (i * 3 + 0)) = some (.int .i64 (ms.getD i default).id) ∧ W.cell? (a.add (i * 3 + 1)) = some (.bool (ms.getD i default).sends) ∧ W.cell? (a.add (i * 3 + 2)) = some (.slice A' (ms.getD i default).hs.length c') ∧ (ms.getD i default).hs.length ≤ c' ∧ c' ≤ 9223372036854775807 ∧ IntsAt W A' (ms.getD i default).hs := by
      refine ⟨(List.range n).pmap (fun i (hi : i < n) => Classical.choose (hall i hi)) (fun i hi => List.mem_range.1 hi), by simp, fun i hin => ?_⟩
      have e : ((List.range n).pmap (fun i (hi : i < n) => Classical.choose (hall i hi)) (fun i hi => List.mem_range.1 hi)).getD i default = Classical.choose (hall i hin) := by
        rw [List.getD_eq_getElem?_getD, List.getElem?_eq_getElem (by simp; omega)]
        simp
      rw [e]
      exact Classical.choose_spec (hall i hin)
    refine ⟨some a, _, ms, by rw [hlen], by omega, hm, ?_⟩
    rcases Nat.eq_zero_or_pos n with h0 | h0
    · exact .inl (List.eq_nil_of_length_eq_zero (by omega))
    · obtain ⟨b, off, spot⟩ := a
      obtain ⟨_, _, hx, _⟩ := hms 0 h0
      have hspot : spot = none := by simpa [Addr.add] using World.cell?_spot hx
      subst hspot
      rw [addr_add] at hx
      refine .inr ⟨b, off, rfl, block_lt_of_cell hx, fun i hi => ?_⟩
      obtain ⟨A', c', r0, r1, r2, r3, r4, r5⟩ := hms i (by omega)
      rw [addr_add] at r0 r1 r2
      exact ⟨r0, r1, A', c', r2, r3, r4, r5⟩
end Go.Proofs.Ytjbengphioankaa
