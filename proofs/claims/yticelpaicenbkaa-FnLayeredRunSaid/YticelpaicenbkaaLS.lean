/- What a step gives, whatever the arguments; a packet that came in. -/
import Derived.Test.YticelpaicenbkaaL2
namespace Go.Proofs.Yticelpaicenbkaa
open Go.ChangeShapes Go.WideShapes Go.ChangeAt Go.RowKit

theorem open_packet {H : Type} {enc : TypeId × Value → H} (W : World) (base : Nat) (v : Value) (d : DataW H) (p : List MemPlace) (o : Value.okWide Try.prog W .any base 32 v) (h : DataW.Trod enc Try.prog W 0 (fun _ => true) true 32 v d p) :
    ∃ (wd tm ly sz : Int) (ky la : Bool), v = .agg #[.int .i64 wd, .int .i64 tm, .int .i64 ly, .int .i64 sz, .bool ky, .bool la] := by
  obtain ⟨l, rfl, hl, hf⟩ := open_cells Try.underlying32 (by kernel_rfl) (by kernel_rfl) o h
  obtain ⟨c0, c1, c2, c3, c4, c5, rfl⟩ := len6 (by simpa using hl)
  obtain ⟨a0, rfl, _⟩ := int_cell Try.underlying3 (hf 0 _ _ rfl rfl)
  obtain ⟨a1, rfl, _⟩ := int_cell Try.underlying3 (hf 1 _ _ rfl rfl)
  obtain ⟨a2, rfl, _⟩ := int_cell Try.underlying3 (hf 2 _ _ rfl rfl)
  obtain ⟨a3, rfl, _⟩ := int_cell Try.underlying3 (hf 3 _ _ rfl rfl)
  obtain ⟨a4, rfl⟩ := bool_cell Try.underlying4 (hf 4 _ _ rfl rfl)
  obtain ⟨a5, rfl⟩ := bool_cell Try.underlying4 (hf 5 _ _ rfl rfl)
  exact ⟨_, _, _, _, _, _, rfl⟩

/-- A step's result, whatever the arguments. -/
def stepV (a b wd tm ly sz : Int) (ky : Bool) (N : Int) (M : Int) (B : Bool) : Prop :=
  (layB a b = true ∧ pkB wd tm ly sz = true ∧ N = stepN a b ly ky ∧ M = b ∧ B = (ly == N)) ∨ ((layB a b = false ∨ layB a b = true ∧ pkB wd tm ly sz = false) ∧ N = 0 ∧ M = 0 ∧ B = false)
theorem stepV_some (a b wd tm ly sz : Int) (ky : Bool) : ∃ N M B, stepV a b wd tm ly sz ky N M B := by
  by_cases h1 : layB a b = true
  · by_cases h2 : pkB wd tm ly sz = true
    · exact ⟨_, _, _, .inl ⟨h1, h2, rfl, rfl, rfl⟩⟩
    · exact ⟨_, _, _, .inr ⟨.inr ⟨h1, by simpa using h2⟩, rfl, rfl, rfl⟩⟩
  · exact ⟨_, _, _, .inr ⟨.inl (by simpa using h1), rfl, rfl, rfl⟩⟩
theorem implStep_any (a b wd tm ly sz : Int) (ky la : Bool) (N M : Int) (B : Bool) (w : World) (h : stepV a b wd tm ly sz ky N M B) :
    Calls Try.prog 24 #[.agg #[.int .i64 a, .int .i64 b], .agg #[.int .i64 wd, .int .i64 tm, .int .i64 ly, .int .i64 sz, .bool ky, .bool la]] w (RetV (.tuple #[.agg #[.int .i64 N, .int .i64 M], .bool B]) w) := by
  rcases h with ⟨h1, h2, h3, rfl, rfl⟩ | ⟨h1, rfl, rfl, rfl⟩
  · exact implStep_yes _ _ _ _ _ _ _ _ _ _ h1 h2 h3
  · exact implStep_no _ _ _ _ _ _ _ _ _ h1
theorem specStep_any (a b wd tm ly sz : Int) (ky la : Bool) (N M : Int) (B : Bool) (w : World) (h : stepV a b wd tm ly sz ky N M B) :
    Calls Try.prog 22 #[.agg #[.int .i64 a, .int .i64 b], .agg #[.int .i64 wd, .int .i64 tm, .int .i64 ly, .int .i64 sz, .bool ky, .bool la]] w (RetV (.tuple #[.agg #[.int .i64 N, .int .i64 M], .bool B]) w) := by
  rcases h with ⟨h1, h2, h3, rfl, rfl⟩ | ⟨h1, rfl, rfl, rfl⟩
  · exact specStep_yes _ _ _ _ _ _ _ _ _ _ h1 h2 h3
  · exact specStep_no _ _ _ _ _ _ _ _ _ h1

end Go.Proofs.Yticelpaicenbkaa
