/- Slices of ints that a law copies: as rows of its own; slices of ints that came in. -/
import Derived.Test.YtjbengphioankaaI3
namespace Go.Proofs.Ytjbengphioankaa
open Go.ChangeShapes Go.WideShapes Go.ChangeAt Go.RowKit Go.Deep

theorem own_of_row {w : World} {g : Nat} {zs : List Int} (hm : zs.length ≤ maxLen) (h : w.rowIs g 3 zs.length (fun i => .int .i64 (zs.getD i 0))) : Own w 3 1 g zs.length zs.length (zs.map (Value.int .i64)) := by
  obtain ⟨cs, h1, h2, h3⟩ := h
  refine ⟨by simp, .inr ⟨g, zs.length, cs, rfl, Nat.zero_le _, h1, Nat.le_refl _, hm, by omega, ?_⟩⟩
  rw [Nat.mul_one, ← h2, ← Array.length_toList, List.take_length]
  apply List.ext_getElem?
  intro i
  by_cases hi : i < zs.length
  · have := h3 i hi
    rw [Array.getElem?_toList, this, List.getElem?_map, List.getElem?_eq_getElem hi]
    show some (Value.int .i64 (zs.getD i 0)) = some (Value.int .i64 zs[i])
    rw [List.getD_eq_getElem?_getD, List.getElem?_eq_getElem hi]
    rfl
  · rw [List.getElem?_eq_none (by rw [Array.length_toList]; omega), List.getElem?_eq_none (by rw [List.length_map]; omega)]
set_option maxRecDepth 100000 in
theorem open_intS {H : Type} {enc : TypeId × Value → H} (W : World) (base : Nat) (v : Value) (d : DataW H) (p : List MemPlace) (o : Value.okWide Try.prog W .any base 76 v) (h : DataW.Trod enc Try.prog W 0 (fun _ => true) true 76 v d p) :
    ∃ A c zs, v = .slice A (List.length zs) c ∧ zs.length ≤ c ∧ c ≤ 9223372036854775807 ∧ IntsAt W A zs := by
  obtain ⟨A, n, c, rfl⟩ := okWide_slice Try.underlying76 o
  obtain ⟨fuel, hf⟩ := h
  rcases open_ints Try.underlying76 Try.underlying3 (by kernel_rfl) hf with ⟨hcs, _⟩ | ⟨x, l, cp, zs, hcs, _, hl, hm, hz, _, hcell, hwz⟩
  · simp [Value.cells] at hcs
    obtain ⟨rfl, rfl, rfl⟩ := hcs
    exact ⟨none, 0, [], rfl, by simp, by omega, .inl rfl⟩
  · simp [Value.cells] at hcs
    obtain ⟨rfl, rfl, rfl⟩ := hcs
    have hz' : zs.length = c := by simpa using hz
    unfold maxLen at hm
    have htake : (zs.take n).length = n := by simp; omega
    refine ⟨some x, c, zs.take n, by rw [htake], by rw [htake]; exact hl, hm, ?_⟩
    rcases Nat.eq_zero_or_pos n with h0 | h0
    · subst h0; exact .inl (by simp)
    · obtain ⟨b, off, spot⟩ := x
      have hc0 := hcell 0 (by omega)
      have hspot : spot = none := by simpa [Addr.add] using World.cell?_spot hc0
      subst hspot
      have hall : ∀ i, i < n → W.cell? ⟨b, off + i, none⟩ = some (.int .i64 (zs.getD i 0)) := by
        intro i hi
        have := hcell i (by omega)
        rcases Nat.eq_zero_or_pos i with rfl | hi0
        · simpa [Addr.add] using this
        · simpa [Addr.add, Nat.ne_of_gt hi0] using this
      refine .inr ⟨b, off, rfl, block_lt_of_cell (hall 0 h0), fun i hi => ?_⟩
      rw [htake] at hi
      rw [hall i hi]
      simp [List.getD_eq_getElem?_getD, hi]
theorem toIntS_own (A : Option Addr) (c : Nat) (zs : List Int) (w : World) (h : IntsAt w A zs) (hm : zs.length ≤ 1048576) :
    Calls Try.prog 59 #[.slice A zs.length c] w fun e w' => ∃ g, e = .returned (.slice (some ⟨g, 0, none⟩) zs.length zs.length) ∧ w.heap.size ≤ g ∧ Own w' 3 1 g zs.length zs.length (zs.map (Value.int .i64)) ∧ Below w.heap.size w w' :=
  (toIntS_any A c zs w h hm).mono fun _ _ ⟨g, he, hg, hr, hb⟩ => ⟨g, he, hg, own_of_row (by unfold maxLen; omega) hr, hb⟩
theorem eqIntS_b (A B : Option Addr) (c1 c2 : Nat) (zs : List Int) (w : World) (hA : IntsAt w A zs) (hB : IntsAt w B zs) (hm : zs.length ≤ 1048576) :
    Calls Try.prog 61 #[.slice A zs.length c1, .slice B zs.length c2] w (RetB true w) :=
  (eqIntS_same A B c1 c2 zs w hA hB hm).mono fun _ _ ⟨he, n, hw⟩ => ⟨he, by rw [hw]; exact below_drewN' (Below.refl _ _) n⟩
end Go.Proofs.Ytjbengphioankaa
