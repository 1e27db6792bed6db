/- What a call keeps of blocks that were made ahead of it. -/
import Derived.Test.YticelpaicenbkaaB
import Derived.Deep.RegionHeld3
import Derived.Deep.DeepCutAuto
namespace Go.Proofs.Yticelpaicenbkaa
open Go.RowKit
/-- What a call keeps of a block that was made just ahead of it, or earlier. -/
theorem bk_new {X w1 : World} {o : Obj} (hb : Below (X.alloc o).heap.size (X.alloc o) w1) : X.heap.size < w1.heap.size ∧ (∀ k, w1.cell? ⟨X.heap.size, k, none⟩ = (X.alloc o).cell? ⟨X.heap.size, k, none⟩) ∧ (∀ k, w1.frozen? ⟨X.heap.size, k, none⟩ = (X.alloc o).frozen? ⟨X.heap.size, k, none⟩) := by
  have h : X.heap.size < (X.alloc o).heap.size := by simp
  exact ⟨Nat.lt_of_lt_of_le h hb.size, bkeep hb _ h⟩
theorem bk_newd {X w1 : World} {o : Obj} (hb : Below (X.alloc o).drew.heap.size (X.alloc o).drew w1) : X.heap.size < w1.heap.size ∧ (∀ k, w1.cell? ⟨X.heap.size, k, none⟩ = (X.alloc o).cell? ⟨X.heap.size, k, none⟩) ∧ (∀ k, w1.frozen? ⟨X.heap.size, k, none⟩ = (X.alloc o).frozen? ⟨X.heap.size, k, none⟩) := by
  have h : X.heap.size < (X.alloc o).drew.heap.size := by simp
  exact ⟨Nat.lt_of_lt_of_le h hb.size, bkeep hb _ h⟩
theorem bk_old {W w1 : World} {g : Nat} (hb : Below W.heap.size W w1) (hA : g < W.heap.size) : g < w1.heap.size ∧ (∀ k, w1.cell? ⟨g, k, none⟩ = W.cell? ⟨g, k, none⟩) ∧ (∀ k, w1.frozen? ⟨g, k, none⟩ = W.frozen? ⟨g, k, none⟩) :=
  ⟨Nat.lt_of_lt_of_le hA hb.size, bkeep hb _ hA⟩
end Go.Proofs.Yticelpaicenbkaa
