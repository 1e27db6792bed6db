/- A block that is known whole, as rules for a walk; what is kept of it. -/
import Derived.Test.YtjbengphioankaaB
import Derived.Test.YtjbengphioankaaD0
import Derived.Deep.RegionHeld3
import Derived.Deep.DeepCutAuto
namespace Go.Proofs.Ytjbengphioankaa
open Go.RowKit

/-- Block g has the cells cs, none frozen. -/
def Row (w : World) (g : Nat) (cs : Array Value) : Prop := (∀ o, w.cell? ⟨g, o, none⟩ = cs[o]?) ∧ (∀ o, w.frozen? ⟨g, o, none⟩ = false) ∧ g < w.heap.size
theorem Row.below {w w' : World} {g : Nat} {cs : Array Value} (h : Row w g cs) (hb : Below w.heap.size w w') : Row w' g cs :=
  ⟨fun o => (hb.cell (p := ⟨g, o, none⟩) h.2.2).trans (h.1 o), fun o => (hb.frozen (p := ⟨g, o, none⟩) h.2.2).trans (h.2.1 o), Nat.lt_of_lt_of_le h.2.2 hb.size⟩
theorem Row.grown {w w' : World} {g R : Nat} {cs : Array Value} (h : Row w g cs) (hg : w.grownBy w' (some R)) (hne : g ≠ R) : Row w' g cs :=
  ⟨fun o => ((gkeep hg g h.2.2 hne).1 o).trans (h.1 o), fun o => ((gkeep hg g h.2.2 hne).2 o).trans (h.2.1 o), Nat.lt_of_lt_of_le h.2.2 hg.size⟩
theorem Row.new (w : World) (cs : Array Value) (t : TypeId) : Row (w.alloc (.cells cs t)) w.heap.size cs := ⟨row_cells w cs t, row_frozen w cs t, by simp⟩
theorem Row.alloc {w : World} {g : Nat} {cs : Array Value} (h : Row w g cs) (o : Obj) : Row (w.alloc o) g cs :=
  ⟨fun k => (World.cell?_of_block (a := ⟨g, k, none⟩) (Below.heap_alloc w o g h.2.2)).trans (h.1 k), fun k => (World.frozen?_of_block (a := ⟨g, k, none⟩) (Below.heap_alloc w o g h.2.2)).trans (h.2.1 k), by have := h.2.2; simp; omega⟩
theorem Row.far {w : World} {g : Nat} {cs : Array Value} (h : Row w g cs) {a : Addr} (ha : g ≠ a.block) (v : Value) : Row (w.setCell a v) g cs :=
  ⟨fun k => (World.cell?_of_block (a := ⟨g, k, none⟩) (Below.heap_setCell w a v g ha)).trans (h.1 k), fun k => (World.frozen?_of_block (a := ⟨g, k, none⟩) (Below.heap_setCell w a v g ha)).trans (h.2.1 k), by have := h.2.2; simpa [World.setCell] using this⟩
theorem Row.drew {w : World} {g : Nat} {cs : Array Value} (h : Row w g cs) : Row w.drew g cs := h
theorem Row.drewN {w : World} {g : Nat} {cs : Array Value} (h : Row w g cs) (n : Nat) : Row (w.drewN n) g cs := h
theorem Row.mk {w : World} {g : Nat} {cs : Array Value} (h1 : ∀ o, w.cell? ⟨g, o, none⟩ = cs[o]?) (h2 : ∀ o, w.frozen? ⟨g, o, none⟩ = false) (h3 : g < w.heap.size) : Row w g cs := ⟨h1, h2, h3⟩
theorem Row.set {w : World} {g : Nat} {cs : Array Value} (h : Row w g cs) (i : Nat) (hi : i < cs.size) (v : Value) : Row (w.setCell ⟨g, i, none⟩ v) g (cs.setIfInBounds i v) := by
  have h0 : w.cell? ⟨g, i, none⟩ = some cs[i] := by rw [h.1 i]; simp [hi]
  refine ⟨fun k => ?_, fun k => (World.frozen?_setCell _ _ _ _).trans (h.2.1 k), by have := h.2.2; simpa [World.setCell] using this⟩
  by_cases hk : k = i
  · subst hk
    rw [World.cell?_setCell_same w _ v h0]
    simp [hi]
  · rw [World.cell?_setCell_other w _ _ v (by intro e; injection e; omega), h.1 k]
    rw [Array.getElem?_setIfInBounds, if_neg (Ne.symm hk)]
theorem Row.new1 (w : World) (a : Obj) (cs : Array Value) (t : TypeId) : Row ((w.alloc a).alloc (.cells cs t)) (w.heap.size + 1) cs := by
  have h := Row.new (w.alloc a) cs t
  rwa [World.size_alloc] at h
theorem Row.new2 (w : World) (a b : Obj) (cs : Array Value) (t : TypeId) : Row (((w.alloc a).alloc b).alloc (.cells cs t)) (w.heap.size + 2) cs := by
  have h := Row.new1 (w.alloc a) b cs t
  rwa [World.size_alloc] at h
theorem Row.new2' (w : World) (a b : Obj) (cs : Array Value) (t : TypeId) : Row (((w.alloc a).alloc b).alloc (.cells cs t)) (w.heap.size + 1 + 1) cs := Row.new2 w a b cs t
theorem Row.conv {w : World} {g : Nat} {cs cs' : Array Value} (h : Row w g cs) (e : cs = cs') : Row w g cs' := e ▸ h
end Go.Proofs.Ytjbengphioankaa
