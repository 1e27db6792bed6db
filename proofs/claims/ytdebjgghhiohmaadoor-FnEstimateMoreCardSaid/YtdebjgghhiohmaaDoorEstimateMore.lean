/- The law FnEstimateMore of package laws returns true for every input, and each argument reads afterwards as it read before: the tied card Rows.FnEstimateMoreCardSaid; the listed variable is tied to the pruned copy of the text. -/
import Derived.Test.YtdebjgghhiohmaaDoorRows
import Derived.Test.YtdebjgghhiohmaaDoorTie
import Derived.Test.YtdebjgghhiohmaaDoorCards
import Derived.LaidMore
import Derived.Stop.Joined
import Derived.Stop.LaidErr
import Derived.SevenTiedAt
import Derived.WalkSmall
import Derived.Test.YtdebjgghhiohmaaDoorE10
namespace Go.Proofs.YtdebjgghhiohmaaDoor.fnEstimateMore
open Go.ChangeShapes Go.WideShapes Go.ChangeAt Go.RowKit
set_option linter.unusedVariables false

theorem own : ownKnob Tryd.prog.godebug = none := by kernel_rfl
theorem laidOut : laidOutB Tryd.prog = true := by kernel_rfl
theorem gN : Tryd.prog.globalNamed "loop.example/mediarelay/impl.errEstimate" = some 0 := by kernel_rfl
theorem gT : (Tryd.prog.globals[0]?).map (·.type) = some 43 := by kernel_rfl
theorem cE : Tryd.prog.cellsOf 99 = 1 := by kernel_rfl
theorem cS : Tryd.prog.cellsOf 9 = 1 := by kernel_rfl
theorem star : "*" ++ "errors.errorString" = "*errors.errorString" := by decide
theorem rowE (u : TypeId) (h : Tryd.prog.typeName? 3 u = some "*errors.errorString") : u = 73 :=
  typeName_ptr_named (nm := "errors.errorString") (by rw [star]; kernel_rfl) (by kernel_rfl) (by decide) u (by rw [star]; exact h)
theorem door_met (os : Os) (args : Array Value) : laidMetH Tryd.prog [("loop.example/mediarelay/impl.errEstimate", Rows.laid_loop_example_mediarelay_impl_errEstimate)] ((World.doorLaid Tryd.prog 28 os).forCall (fun _ _ => 0) ⟨#[], args, []⟩).memory :=
  laidMetH_of_parts3 (fuel := 8) (laidMet_of_run' 8 (by kernel_rfl) (by kernel_rfl)) (by kernel_rfl) (by kernel_rfl)

set_option maxRecDepth 100000 in
theorem lifted (os : Os) (started : os.Started) (H : Type) (enc : TypeId × Value → H) :
    ReturnsInHanded {} Tryd.checked os 6 .any (fun w args => (Rows.fnEstimateMoreSpec.pre enc Tryd.prog Tryd.f6 [] false w args ∧ laidMetH Tryd.prog [("loop.example/mediarelay/impl.errEstimate", Rows.laid_loop_example_mediarelay_impl_errEstimate)] w) ∧ sizedMet enc Tryd.prog Tryd.f6 (OpenSpec.ofChange Rows.fnEstimateMoreSpec) false w args) (Rows.fnEstimateMoreSpec.post enc Tryd.prog Tryd.f6 false true false false) := by
  refine returnsInHanded_of_change_and (C := Tryd.checked) (X := fun w _ => laidMetH Tryd.prog [("loop.example/mediarelay/impl.errEstimate", Rows.laid_loop_example_mediarelay_impl_errEstimate)] w) (fun _ _ _ hh h => h.of_heap hh) own started (by kernel_rfl) Tryd.func6
    (ChangeSpec.witness_shaped (enc := enc) (C := Tryd.checked) (os := os) (X := fun w _ => laidMetH Tryd.prog [("loop.example/mediarelay/impl.errEstimate", Rows.laid_loop_example_mediarelay_impl_errEstimate)] w) false (World.doorLaid Tryd.prog 28 os) #[.slice none 0 0] 8 rfl (World.shaped_of_RefB (by kernel_rfl) (by kernel_rfl)) (by kernel_rfl) (by kernel_rfl) (by kernel_rfl) (door_met os _)) ?_
  intro W base args ds gs before hval0 hW _ _ hL _
  have hval : ∀ (j : Nat) t v, Tryd.f6.params[j]? = some t → args[j]? = some v → Value.okWide Tryd.prog W .any base t v := hval0
  have hW' := hW
  obtain ⟨p, q, hA0, hV0, rfl, hfz, hnd⟩ := hW
  have hA : DataW.TrodAll enc Tryd.prog W 0 (fun _ => true) true Tryd.f6.params.toList args.toList ds p := hA0
  have hV : DataW.TrodVars enc Tryd.prog W (fun _ => true) ["loop.example/mediarelay/impl.errEstimate"] gs q := hV0
  rw [Tryd.params6] at hA hval
  obtain ⟨v0, vs0, d0, ds0, p0, q0, hargs, rfl, rfl, h0, r0⟩ := trodAll_cons hA
  obtain ⟨rfl, rfl, rfl⟩ := trodAll_nil r0
  obtain rfl : args = #[v0] := by cases args; simp_all
  rw [MakeChecks.laidMetH_plain _ _ _ (by kernel_rfl)] at hL
  obtain ⟨a0, s0, hv0, hc0, hs0, hz0⟩ := laid_sentinel hL gN gT Tryd.underlying43 rowE Tryd.underlying73 Tryd.underlying99 rfl rfl Tryd.underlying9 cE cS
  obtain ⟨rfl, rfl⟩ := hV.unique (vars_read1 enc gN gT Tryd.underlying43 hv0 trivial _)
  have hg0 : W.cell? ⟨0, 0, none⟩ = some (.iface 73 (.pointer (some a0))) := by simpa using World.var?_cell gN hv0 0
  have hg1 : 0 < W.heap.size := World.block_lt_of_cell? _ _ hg0
  have o0 : Value.okWide Tryd.prog W .any base 30 v0 := hval 0 30 v0 rfl rfl
  have lt0 : ∀ x ∈ p0, x.block < W.heap.size := by obtain ⟨m, hm⟩ := h0; exact DataW.trod_lt m _ _ _ hm
  clear hA0 hV0 hval0
  refine (walk_fnEstimateMore a0 W base hg0 hg1 v0 d0 p0 o0 h0).mono fun e W' ⟨he, bel⟩ => ?_
  subst he
  have hvW : W'.var? Tryd.prog "loop.example/mediarelay/impl.errEstimate" = some #[.iface 73 (.pointer (some a0))] := var?_below bel gN hg1 hv0
  exact ⟨_, rfl, _, _, _, [], _, _, hW', trodAll_mk1 (shut_bool Tryd.underlying4 _), (trodAll_cons_mk (Below.trod laidOut (by kernel_rfl) (of_decide_eq_true (by kernel_rfl)) h0 bel lt0) trodAll_mk0), vars_read1 enc gN gT Tryd.underlying43 hvW trivial _, bel.frame _, fun h => by cases h⟩

theorem over : Rows.fnEstimateMoreRow.holds Tryd.pinned (OpenSpec.ofChange Rows.fnEstimateMoreSpec) :=
  OpenClaim.holds_of_wide 6 Tryd.f6 rfl rfl rfl rfl rfl rfl rfl ⟨rfl, rfl, rfl, rfl, rfl⟩ rfl rfl rfl rfl rfl (by kernel_rfl) Tryd.func6 (by kernel_rfl)
    (of_decide_eq_true (by kernel_rfl)) (by unfold Func.isWrapper; first | (rw [if_pos (by decide +kernel)]; kernel_rfl) | (rw [if_neg (by decide +kernel)]; exact ⟨rfl, rfl⟩))
    (fun os started H enc _ => lifted os started H enc)

theorem proved : Rows.FnEstimateMoreCardSaid :=
  Claim7.holds_tied_plain_at .later [] [.sentinel] true (true, "a809585f881caa4c1b7a7efffa86c682fdd0d35718efdf5a7f62a53f2592e9d8") true
    over (fun _ h => by cases h) (by kernel_rfl) (fun _ h => by cases h) fnEstimateMore_row_tie rfl ⟨rfl, rfl⟩ (by kernel_rfl) rfl
    (fun f fn hf hfn => by
      obtain rfl : f = 6 := Option.some.inj ((show Tryd.prog.funcNamed "loop.example/mediarelay/laws.FnEstimateMore" = some 6 by kernel_rfl).symm.trans hf) |>.symm
      obtain rfl : fn = Tryd.f6 := (Option.some.inj (Tryd.func6.symm.trans hfn)).symm
      exact ⟨by kernel_rfl, fun j t ht => by
        rw [Tryd.params6] at ht
        have hm : t ∈ [30] := by simpa using Array.mem_of_getElem? ht
        have hall : ([30].all fun u => !Tryd.prog.wantsStandIn u) = true := by kernel_rfl
        exact (show Tryd.prog.wantsStandIn t = false by simpa using List.all_eq_true.1 hall t hm)⟩)
    (by kernel_rfl)
#print axioms proved
end Go.Proofs.YtdebjgghhiohmaaDoor.fnEstimateMore
