/- Lemmas on worlds, on values that came in, and on endings; nothing of the program stands here. -/
import Derived.WalkKit
import Derived.ProofKit
import Derived.OpenShut
import Derived.ShutString
import Derived.ChangeOld
import Derived.Below
import Derived.Handy
import Derived.Deep.Slices
import Derived.Deep.Draws
import Derived.Deep.Fields
import Derived.ChangeSame
import Derived.Laws.BitsAllLaws
import Derived.Laws.BitsLemmas
namespace Go.Proofs.Ytjbengphioankaa
open Go.ChangeShapes Go.WideShapes Go.ChangeAt Go.RowKit
open Go.Deep (oneCellFields hone_of)

theorem hide {p : Prop} (h : p) : Hid p := h

/-! ### Endings -/
def RetV (v : Value) (w : World) (e : Ending) (w' : World) : Prop := e = .returned v ∧ Below w.heap.size w w'
def RetB (v : Bool) (w : World) (e : Ending) (w' : World) : Prop := e = .returned (.bool v) ∧ Below w.heap.size w w'
theorem retB_mk {x y : Bool} {w w' : World} (h : x = y) (hb : Below w.heap.size w w') : RetB y w (.returned (.bool x)) w' := ⟨by rw [h], hb⟩
theorem retV_mk {x y : Value} {w w' : World} (h : x = y) (hb : Below w.heap.size w w') : RetV y w (.returned x) w' := ⟨by rw [h], hb⟩

/-! ### Worlds -/
theorem bkeep {W w1 : World} (hb : Below W.heap.size W w1) (g : Nat) (hg : g < W.heap.size) : (∀ o, w1.cell? ⟨g, o, none⟩ = W.cell? ⟨g, o, none⟩) ∧ (∀ o, w1.frozen? ⟨g, o, none⟩ = W.frozen? ⟨g, o, none⟩) :=
  ⟨fun o => hb.cell (p := ⟨g, o, none⟩) hg, fun o => hb.frozen (p := ⟨g, o, none⟩) hg⟩
theorem below_step {B : Nat} {w0 W w1 : World} (hb : Below W.heap.size W w1) (h : Below B w0 W) (hB : B ≤ W.heap.size) : Below B w0 w1 := h.trans (hb.mono hB)

theorem below_gstep {B R : Nat} {w0 W w1 : World} (hg : W.grownBy w1 (some R)) (h : Below B w0 W) (hB : B ≤ W.heap.size) (hR : B ≤ R) : Below B w0 w1 :=
  h.grown hg hB fun k hk => by simp at hk; omega
theorem below_drewN' {B : Nat} {a w : World} (h : Below B a w) (n : Nat) : Below B a (w.drewN n) := ⟨h.os, h.tape, h.output, h.size, h.block⟩
def Drawn (φ : Value → Prop) (w : World) (e : Ending) (w' : World) : Prop := ∃ v, e = .returned v ∧ φ v ∧ Below w.heap.size w w'
theorem drawn_mk {φ : Value → Prop} {v : Value} {w w' : World} (hv : φ v) (hb : Below w.heap.size w w') : Drawn φ w (.returned v) w' := ⟨v, rfl, hv, hb⟩

/-- The world at hand is given a new name, and only what F says of it stays known. -/
theorem rebase {P : Program} {c : Code} {Q : Exit → Act → World → Prop} {a : Act} {w : World} (F : World → Prop) (hF : F w) (h : ∀ wx, F wx → c.wp P Q a wx) : c.wp P Q a w := h w hF
theorem row_cells (w : World) (cs : Array Value) (t : TypeId) (o : Nat) : (w.alloc (.cells cs t)).cell? ⟨w.heap.size, o, none⟩ = cs[o]? := cell_of_row _ _ o _ _ _ (heap_alloc_new _ _)
theorem row_frozen (w : World) (cs : Array Value) (t : TypeId) (o : Nat) : (w.alloc (.cells cs t)).frozen? ⟨w.heap.size, o, none⟩ = false := frozen_of_row _ _ o _ _ (heap_alloc_new _ _)

/-! ### Arguments -/
theorem len1 {α : Type} {l : List α} (h : l.length = 1) : ∃ a, l = [a] := by
  match l, h with
  | [a], _ => exact ⟨a, rfl⟩
theorem len2 {α : Type} {l : List α} (h : l.length = 2) : ∃ a b, l = [a, b] := by
  match l, h with
  | [a, b], _ => exact ⟨a, b, rfl⟩
theorem len3 {α : Type} {l : List α} (h : l.length = 3) : ∃ a b c, l = [a, b, c] := by
  match l, h with
  | [a, b, c], _ => exact ⟨a, b, c, rfl⟩
theorem len5 {α : Type} {l : List α} (h : l.length = 5) : ∃ a b c d e, l = [a, b, c, d, e] := by
  match l, h with
  | [a, b, c, d, e], _ => exact ⟨a, b, c, d, e, rfl⟩
theorem len6 {α : Type} {l : List α} (h : l.length = 6) : ∃ a b c d e f, l = [a, b, c, d, e, f] := by
  match l, h with
  | [a, b, c, d, e, f], _ => exact ⟨a, b, c, d, e, f, rfl⟩

section
variable {H : Type} {enc : TypeId × Value → H} {P : Program} {w : World} {base : Nat} {spare : Nat → Bool} {held : Bool}
theorem open_cells {r : Reach} {b0 : Nat} {t : TypeId} {fs : Array Field} {v : Value} {d : DataW H} {p : List MemPlace} (hs : P.underlying t = some (.struct fs)) (hone : oneCellFields P fs = true) (hC : P.cellsOf t = fs.size)
    (hv : Value.okWide P w r b0 t v) (h : DataW.Trod enc P w base spare held t v d p) :
    ∃ l : List Value, v = .agg ⟨l⟩ ∧ l.length = fs.size ∧ ∀ (j : Nat) (f : Field) (c : Value), fs[j]? = some f → l[j]? = some c → ∃ n y, DataW.trod enc P w base spare held n f.type [c] = some y := by
  obtain ⟨cs, rfl, hsz⟩ := okWide_struct hs hv
  obtain ⟨l⟩ := cs
  obtain ⟨fuel, hf⟩ := h
  obtain ⟨xs, n, _, hx, hcl, hlen, hg⟩ := DataW.trod_struct hs hf
  refine ⟨l, rfl, by simpa using hsz.trans hC, fun j f c hj hc => ?_⟩
  obtain ⟨o0, k0⟩ := hone_of hone j f hj
  have h1 := hg j f hj
  rw [o0, k0] at h1
  have hjl : j < l.length := (List.getElem?_eq_some_iff.1 hc).1
  have h2 : ((Value.agg ⟨l⟩).cells.toList.drop j).take 1 = [c] := by
    show (l.drop j).take 1 = [c]
    rw [List.drop_eq_getElem_cons hjl]
    have := (List.getElem?_eq_some_iff.1 hc).2
    simp [this]
  rw [h2] at h1
  have hjx : j < xs.length := by rw [hlen]; exact (Array.getElem?_eq_some_iff.1 hj).1
  exact ⟨n, xs[j], by rw [h1, List.getElem?_eq_getElem hjx]⟩
theorem int_cell {t : TypeId} {k : IntKind} {c : Value} (hu : P.underlying t = some (.int k)) (h : ∃ n y, DataW.trod enc P w base spare held n t [c] = some y) : ∃ a : Int, c = .int k a ∧ (Lit.int k a).wf = true := by
  obtain ⟨n, y, h⟩ := h
  obtain ⟨a, e, _, wa⟩ := DataW.trod_int hu h
  simp at e
  exact ⟨a, e, wa⟩
theorem bool_cell {t : TypeId} {c : Value} (hu : P.underlying t = some .bool) (h : ∃ n y, DataW.trod enc P w base spare held n t [c] = some y) : ∃ a : Bool, c = .bool a := by
  obtain ⟨n, y, h⟩ := h
  obtain ⟨a, e, _⟩ := DataW.trod_bool hu h
  simp at e
  exact ⟨a, e⟩
end
end Go.Proofs.Ytjbengphioankaa
