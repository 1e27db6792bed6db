/- Slices of Waiting: what they are in memory, and the contracts of what copies, compares, marks them. -/
import Derived.Test.YtjbengphioankaaRC
import Derived.Deep.RegionHeld3
import Derived.Deep.DeepCutAuto
namespace Go.Proofs.Ytjbengphioankaa
open Go.ChangeShapes Go.WideShapes Go.ChangeAt Go.RowKit Go.Deep

structure VWaiting where
  a0 : Int
  a1 : Int
  a2 : Int
instance : Inhabited VWaiting := ⟨⟨0, 0, 0⟩⟩
def VWaiting.cells (x : VWaiting) : List Value := [.int .i64 x.a0, .int .i64 x.a1, .int .i64 x.a2]
theorem flatWaiting (zs : List VWaiting) : Flat 3 (zs.map VWaiting.cells) := Flat.map (k := 3) (f := VWaiting.cells) (fun _ => rfl) zs
def WaitingAt (w : World) (A : Option Addr) (zs : List VWaiting) : Prop := RecAt 3 w A (zs.map VWaiting.cells)
theorem WaitingAt.at {w : World} {A : Option Addr} {zs : List VWaiting} (h : WaitingAt w A zs) (h1 : 1 ≤ zs.length) : ∃ b off, A = some ⟨b, off, none⟩ ∧ b < w.heap.size ∧ ∀ k, k < zs.length → w.cell? ⟨b, off + k * 3, none⟩ = some (.int .i64 (zs.getD k default).a0) ∧ w.cell? ⟨b, off + k * 3 + 1, none⟩ = some (.int .i64 (zs.getD k default).a1) ∧ w.cell? ⟨b, off + k * 3 + 2, none⟩ = some (.int .i64 (zs.getD k default).a2) := by
  rcases h with h | ⟨b, off, hA, hlt, hc⟩
  · simp at h
    simp [h] at h1
  · refine ⟨b, off, hA, hlt, fun k hk => ?_⟩
    have hx : zs[k]? = some (zs.getD k default) := by simp [List.getD_eq_getElem?_getD, hk]
    have hy : (zs.map VWaiting.cells)[k]? = some (zs.getD k default).cells := by simp only [List.getElem?_map, hx, Option.map_some]
    have h0 := hc k 0 (by simpa using hk) (by omega)
    have h1 := hc k 1 (by simpa using hk) (by omega)
    have h2 := hc k 2 (by simpa using hk) (by omega)
    rw [hy] at h0 h1 h2
    exact ⟨h0, h1, h2⟩
theorem ownWaiting {w : World} {g n cap : Nat} {zs : List VWaiting} (h : Own w 61 3 g n cap (zs.map VWaiting.cells).flatten) (hn : zs.length = n) : WaitingAt w (some ⟨g, 0, none⟩) zs :=
  own_recs h (flatWaiting zs) (by simpa using hn)
theorem modifyWaiting (zs : List VWaiting) (k : Nat) (hk : k < zs.length) (x : VWaiting) : ((((zs.map VWaiting.cells).flatten.set (k * 3) (.int .i64 x.a0)).set (k * 3 + 1) (.int .i64 x.a1)).set (k * 3 + 2) (.int .i64 x.a2)) = ((zs.set k x).map VWaiting.cells).flatten := by
  have F := flatWaiting zs
  have e : ∀ (j : Nat) (v : Value) (css : List (List Value)), Flat 3 css → j < 3 → css.flatten.set (k * 3 + j) v = (css.modify k fun c => c.set j v).flatten := fun j v css h hj => h.set k j hj v
  have e0 : ∀ (v : Value) (css : List (List Value)), Flat 3 css → css.flatten.set (k * 3) v = (css.modify k fun c => c.set 0 v).flatten := fun v css h => e 0 v css h (by omega)
  rw [e0 _ _ F]
  rw [e 1 _ _ (Flat.modify F k 0 _) (by omega)]
  rw [e 2 _ _ (Flat.modify (Flat.modify F k 0 _) k 1 _) (by omega)]
  congr 1
  apply List.ext_getElem?
  intro i
  simp only [List.getElem?_modify, List.getElem?_map, List.getElem?_set]
  by_cases hi : k = i
  · subst hi
    simp [hk, VWaiting.cells]
  · simp [hi]

theorem infoWaiting : (Try.prog.info? 61).map (fun i => (i.zero, i.size, i.bytes)) = some (some (.agg #[.int .i64 0, .int .i64 0, .int .i64 0]), 3, 24) := by kernel_rfl
set_option maxRecDepth 100000 in
theorem openWaitingS {H : Type} {enc : TypeId × Value → H} (W : World) (base : Nat) (v : Value) (d : DataW H) (p : List MemPlace) (o : Value.okWide Try.prog W .any base 29 v) (h : DataW.Trod enc Try.prog W 0 (fun _ => true) true 29 v d p) :
    ∃ A c zs, v = .slice A (List.length zs) c ∧ zs.length ≤ c ∧ c ≤ 9223372036854775807 ∧ WaitingAt W A zs := by
  obtain ⟨A, c, css, rfl, hl, hm, hr, hf⟩ := open_recs Try.underlying29 Try.underlying93 (by kernel_rfl) (by kernel_rfl) (by show 0 < 3; omega) o h
  obtain ⟨zs, rfl⟩ : ∃ zs : List VWaiting, css = zs.map VWaiting.cells := by
    refine lift_map fun i hi => ?_
    obtain ⟨cs, h0, hlen, hcs⟩ := hf i hi
    match cs, (show cs.length = 3 from hlen) with
    | [c0, c1, c2], _ =>
      obtain ⟨_, n0, y0, e0, t0⟩ := hcs 0 _ rfl
      simp at e0
      subst e0
      obtain ⟨b0, rfl, _⟩ := int_cell Try.underlying3 ⟨_, _, t0⟩
      obtain ⟨_, n1, y1, e1, t1⟩ := hcs 1 _ rfl
      simp at e1
      subst e1
      obtain ⟨b1, rfl, _⟩ := int_cell Try.underlying3 ⟨_, _, t1⟩
      obtain ⟨_, n2, y2, e2, t2⟩ := hcs 2 _ rfl
      simp at e2
      subst e2
      obtain ⟨b2, rfl, _⟩ := int_cell Try.underlying3 ⟨_, _, t2⟩
      exact ⟨⟨b0, b1, b2⟩, h0⟩
  exact ⟨A, c, zs, by simp, by simpa using hl, hm, hr⟩
theorem toWaiting_any (x : VWaiting) (w : World) : Calls Try.prog 54 #[.agg #[.int .i64 x.a0, .int .i64 x.a1, .int .i64 x.a2]] w (RetV (.agg #[.int .i64 x.a0, .int .i64 x.a1, .int .i64 x.a2]) w) := by
  go_enter Try.func54, Try.ntmps54
  go_wp2
  go_returns
  refine ⟨rfl, ?_⟩
  (repeat' (first | (with_reducible exact Below.refl _ _) | (with_reducible assumption) | (with_reducible refine Below.alloc ?_ ?_ _) | (with_reducible refine Below.setCell ?_ ?_ _) | (with_reducible refine Below.drew ?_) | (with_reducible refine below_drewN' ?_ _) | (with_reducible refine below_step (by assumption) ?_ ?_) | (with_reducible refine below_gstep (by assumption) ?_ ?_ ?_) | (with_reducible exact Below.size (by assumption)) | omega | (simp; done) | (simp; omega)))
/-- A copy: a new row that holds the elements. -/
def CopiedWaiting (zs : List VWaiting) (w : World) (e : Ending) (w' : World) : Prop :=
  ∃ g, e = .returned (.slice (some ⟨g, 0, none⟩) zs.length zs.length) ∧ w.heap.size ≤ g ∧ Own w' 61 3 g zs.length zs.length (zs.map VWaiting.cells).flatten ∧ Below w.heap.size w w'
set_option maxHeartbeats 2000000 in
theorem toWaitingS_any (A : Option Addr) (c : Nat) (zs : List VWaiting) (w : World) (h : WaitingAt w A zs) (hm : zs.length ≤ 1048576) :
    Calls Try.prog 36 #[.slice A zs.length c] w (CopiedWaiting zs w) := by
  have Hh := hide h
  clear h
  obtain ⟨n, hn⟩ : ∃ n, zs.length = n := ⟨_, rfl⟩
  rw [hn] at hm
  have Hn := hide hn
  rw [hn]
  clear hn
  have hmk := run_make_recs (P := Try.prog) (.agg #[.int .i64 0, .int .i64 0, .int .i64 0]) 3 24 Try.underlying23 infoWaiting .i64 .i64 n (by omega) (by omega)
  have ho : ∀ e, Own (w.alloc (.cells (madeCells (Value.cells (.agg #[.int .i64 0, .int .i64 0, .int .i64 0])) (n * 3)) e)) e 3 w.heap.size n n ((List.replicate n (default : VWaiting)).map VWaiting.cells).flatten := fun e => (own_made w (.agg #[.int .i64 0, .int .i64 0, .int .i64 0]) e 3 n rfl (by omega) (by unfold maxLen; omega)).conv (by rw [List.map_replicate]; rfl)
  have HO := hide ho
  clear ho
  go_enter Try.func36, Try.ntmps36
  go_wp2_with fail
  go_loopw [4] (fun i wr => ∃ k : Nat, k ≤ n ∧ i = .int .i64 k ∧ Own wr 61 3 w.heap.size n n ((zs.take k ++ List.replicate (n - k) default).map VWaiting.cells).flatten ∧ Below w.heap.size w wr) (fun i _ => n - (intOf i).toNat)
  case atStart =>
    refine ⟨0, by omega, rfl, (HO.out _).conv (by simp), ?_⟩
    (repeat' (first | (with_reducible exact Below.refl _ _) | (with_reducible assumption) | (with_reducible refine Below.alloc ?_ ?_ _) | (with_reducible refine Below.setCell ?_ ?_ _) | (with_reducible refine Below.drew ?_) | (with_reducible refine below_drewN' ?_ _) | (with_reducible refine below_step (by assumption) ?_ ?_) | (with_reducible refine below_gstep (by assumption) ?_ ?_ ?_) | (with_reducible exact Below.size (by assumption)) | omega | (simp; done) | (simp; omega)))
  case round =>
    obtain ⟨k, hk, rfl, hrow, hbel⟩ := hrel
    by_cases hk' : k < n
    · obtain ⟨b, off, rfl, hlt, hc⟩ := WaitingAt.at Hh.out (by have := Hn.out; omega)
      have hA := hc k (by have := Hn.out; omega)
      clear hc
      obtain ⟨x, hx⟩ : ∃ x, zs.getD k default = x := ⟨_, rfl⟩
      rw [hx] at hA
      have Hx := hide hx
      clear hx
      obtain ⟨s0, s1, s2⟩ := hA
      replace s0 := (hbel.cell (p := ⟨b, off + k * 3, none⟩) hlt).trans s0
      replace s1 := (hbel.cell (p := ⟨b, off + k * 3 + 1, none⟩) hlt).trans s1
      replace s2 := (hbel.cell (p := ⟨b, off + k * 3 + 2, none⟩) hlt).trans s2
      have g2 : (k : Int) < (n : Int) := by omega
      have lrow := hrow.lt
      have sbel := hbel.size
      have Hrow := hide hrow
      have Hbel := hide hbel
      clear hrow hbel hmk
      go_wp2_with fail
      refine (toWaiting_any x _).mono ?_
      rintro e w1 ⟨rfl, hb1⟩
      have o1 := Hrow.out.below hb1
      have lo := o1.lt
      have b1 : Below w.heap.size w w1 := Hbel.out.trans (hb1.mono sbel)
      have q0 : ∃ v, w1.cell? ⟨w.heap.size, k * 3, none⟩ = some v := own_some o1 (by omega)
      have q1 : ∃ v, w1.cell? ⟨w.heap.size, k * 3 + 1, none⟩ = some v := own_some o1 (by omega)
      have q2 : ∃ v, w1.cell? ⟨w.heap.size, k * 3 + 2, none⟩ = some v := own_some o1 (by omega)
      obtain ⟨v0, q0⟩ := q0
      obtain ⟨v1, q1⟩ := q1
      obtain ⟨v2, q2⟩ := q2
      have f0 := o1.frozen (k * 3)
      have f1 := o1.frozen (k * 3 + 1)
      have f2 := o1.frozen (k * 3 + 2)
      have O1 := hide o1
      have B1 := hide b1
      clear o1 b1 hb1
      go_wp2_with fail
      go_roundw
      case rel =>
        refine ⟨k + 1, by omega, by go_num, ?_, ?_⟩
        · refine ((((O1.out.set (k * 3) (.int .i64 x.a0)).set (k * 3 + 1) (.int .i64 x.a1)).set (k * 3 + 2) (.int .i64 x.a2))).conv ?_
          rw [modifyWaiting _ k (by have := Hn.out; simp; omega) x]
          congr 2
          rw [← Hx.out]
          exact take_set_next zs n k default Hn.out hk'
        · have b1 := B1.out
          (repeat' (first | (with_reducible exact Below.refl _ _) | (with_reducible assumption) | (with_reducible refine Below.alloc ?_ ?_ _) | (with_reducible refine Below.setCell ?_ ?_ _) | (with_reducible refine Below.drew ?_) | (with_reducible refine below_drewN' ?_ _) | (with_reducible refine below_step (by assumption) ?_ ?_) | (with_reducible refine below_gstep (by assumption) ?_ ?_ ?_) | (with_reducible exact Below.size (by assumption)) | omega | (simp; done) | (simp; omega)))
      case measure => simp [intOf]; omega
    · have hkn : k = n := by omega
      subst hkn
      have Hrow := hide hrow
      have Hbel := hide hbel
      clear hrow hbel
      go_wp2_with fail
      go_ret
      have e := Hn.out
      refine ⟨w.heap.size, by rw [e]; rfl, Nat.le_refl _, ?_, Hbel.out⟩
      rw [e]
      exact Hrow.out.conv (by rw [← e]; simp)

theorem szWaitingS_any (A : Option Addr) (n c : Nat) (m : Int) (w : World) (h0 : 0 ≤ m) (h1 : m ≤ 4611686018427387904) (hn : n ≤ 9223372036854775807) :
    Calls Try.prog 35 #[.slice A n c, .int .i64 m] w fun e w' => e = .returned (.int .i64 (if m - (n : Int) < 0 then -1 else m - (n : Int))) ∧ w' = w := by
  obtain ⟨r, hr⟩ : ∃ r, m - (n : Int) = r := ⟨_, rfl⟩
  have hw : IntKind.i64.wrap (m - (n : Int)) = r := by rw [IntWalk.i64_in _ (by omega)]; exact hr
  rw [hr]
  clear hr
  by_cases hneg : r < 0
  · rw [if_pos hneg]
    go_enter Try.func35, Try.ntmps35
    go_wp2_with fail
    go_ret
    exact ⟨rfl, rfl⟩
  · rw [if_neg hneg]
    go_enter Try.func35, Try.ntmps35
    go_wp2_with fail
    go_ret
    exact ⟨rfl, rfl⟩
theorem eqWaiting_same (x : VWaiting) (w : World) : Calls Try.prog 55 #[.agg #[.int .i64 x.a0, .int .i64 x.a1, .int .i64 x.a2], .agg #[.int .i64 x.a0, .int .i64 x.a1, .int .i64 x.a2]] w (RetB true w) := by
  go_enter Try.func55, Try.ntmps55
  go_wp2
  go_ret
  refine ⟨rfl, ?_⟩
  (repeat' (first | (with_reducible exact Below.refl _ _) | (with_reducible assumption) | (with_reducible refine Below.alloc ?_ ?_ _) | (with_reducible refine Below.setCell ?_ ?_ _) | (with_reducible refine Below.drew ?_) | (with_reducible refine below_drewN' ?_ _) | (with_reducible refine below_step (by assumption) ?_ ?_) | (with_reducible refine below_gstep (by assumption) ?_ ?_ ?_) | (with_reducible exact Below.size (by assumption)) | omega | (simp; done) | (simp; omega)))
set_option maxHeartbeats 2000000 in
theorem eqWaitingS_same (A B : Option Addr) (c1 c2 : Nat) (zs : List VWaiting) (w : World) (hA : WaitingAt w A zs) (hB : WaitingAt w B zs) (hm : zs.length ≤ 1048576) :
    Calls Try.prog 37 #[.slice A zs.length c1, .slice B zs.length c2] w (RetB true w) := by
  have HA := hide hA
  have HB := hide hB
  clear hA hB
  obtain ⟨n, hn⟩ : ∃ n, zs.length = n := ⟨_, rfl⟩
  rw [hn] at hm ⊢
  have Hn := hide hn
  clear hn
  go_enter Try.func37, Try.ntmps37
  go_wp2_with fail
  go_loopw [5] (fun i wr => ∃ k : Nat, k ≤ n ∧ i = .int .i64 k ∧ Below w.heap.size w wr) (fun i _ => n - (intOf i).toNat)
  case atStart => exact ⟨0, by omega, rfl, Below.refl _ _⟩
  case round =>
    obtain ⟨k, hk, rfl, hbel⟩ := hrel
    by_cases hk' : k < n
    · obtain ⟨b, off, rfl, hlt, hc⟩ := WaitingAt.at HA.out (by have := Hn.out; omega)
      obtain ⟨b2, off2, rfl, hlt2, hc2⟩ := WaitingAt.at HB.out (by have := Hn.out; omega)
      have hA := hc k (by have := Hn.out; omega)
      have hB := hc2 k (by have := Hn.out; omega)
      clear hc hc2
      obtain ⟨x, hx⟩ : ∃ x, zs.getD k default = x := ⟨_, rfl⟩
      rw [hx] at hA hB
      clear hx
      obtain ⟨s0, s1, s2⟩ := hA
      obtain ⟨t0, t1, t2⟩ := hB
      replace s0 := (hbel.cell (p := ⟨b, off + k * 3, none⟩) hlt).trans s0
      replace s1 := (hbel.cell (p := ⟨b, off + k * 3 + 1, none⟩) hlt).trans s1
      replace s2 := (hbel.cell (p := ⟨b, off + k * 3 + 2, none⟩) hlt).trans s2
      replace t0 := (hbel.cell (p := ⟨b2, off2 + k * 3, none⟩) hlt2).trans t0
      replace t1 := (hbel.cell (p := ⟨b2, off2 + k * 3 + 1, none⟩) hlt2).trans t1
      replace t2 := (hbel.cell (p := ⟨b2, off2 + k * 3 + 2, none⟩) hlt2).trans t2
      have g2 : (k : Int) < (n : Int) := by omega
      have hl1 : b < wr.heap.size := Nat.lt_of_lt_of_le hlt hbel.size
      have hl2 : b2 < wr.heap.size := Nat.lt_of_lt_of_le hlt2 hbel.size
      have sbel := hbel.size
      have Hbel := hide hbel
      clear hbel hlt hlt2
      go_upto_region 6 with (fail)
      go_cut [26] (fun b wx => b = .bool false ∧ Below w.heap.size w wx)
      case first =>
        go_region_held3 (fun w' => w'.cell? ⟨b, off + k * 3, none⟩ = some (.int .i64 x.a0) ∧ w'.cell? ⟨b, off + k * 3 + 1, none⟩ = some (.int .i64 x.a1) ∧ w'.cell? ⟨b, off + k * 3 + 2, none⟩ = some (.int .i64 x.a2) ∧ w'.cell? ⟨b2, off2 + k * 3, none⟩ = some (.int .i64 x.a0) ∧ w'.cell? ⟨b2, off2 + k * 3 + 1, none⟩ = some (.int .i64 x.a1) ∧ w'.cell? ⟨b2, off2 + k * 3 + 2, none⟩ = some (.int .i64 x.a2)) (go_keep) (first | (go_at_call 55; refine (eqWaiting_same x _).mono ?_; rintro e w1 ⟨rfl, hb1⟩; have u0 := (hb1.cell (p := ⟨b, off + k * 3, none⟩) hl1).trans s0; have u1 := (hb1.cell (p := ⟨b, off + k * 3 + 1, none⟩) hl1).trans s1; have u2 := (hb1.cell (p := ⟨b, off + k * 3 + 2, none⟩) hl1).trans s2; have v0 := (hb1.cell (p := ⟨b2, off2 + k * 3, none⟩) hl2).trans t0; have v1 := (hb1.cell (p := ⟨b2, off2 + k * 3 + 1, none⟩) hl2).trans t1; have v2 := (hb1.cell (p := ⟨b2, off2 + k * 3 + 2, none⟩) hl2).trans t2))
        go_wp2_with fail
        go_meet
        have B0 := Hbel.out
        refine ⟨rfl, ?_⟩
        (repeat' (first | (with_reducible exact Below.refl _ _) | (with_reducible assumption) | (with_reducible refine Below.alloc ?_ ?_ _) | (with_reducible refine Below.setCell ?_ ?_ _) | (with_reducible refine Below.drew ?_) | (with_reducible refine below_drewN' ?_ _) | (with_reducible refine below_step (by assumption) ?_ ?_) | (with_reducible refine below_gstep (by assumption) ?_ ?_ ?_) | (with_reducible exact Below.size (by assumption)) | omega | (simp; done) | (simp; omega)))
      case rest =>
        obtain ⟨rfl, hb9⟩ := hcut
        have Hb9 := hide hb9
        clear hb9
        go_wp2_with fail
        go_roundw
        case rel => exact ⟨k + 1, by omega, by go_num, Hb9.out⟩
        case measure => simp [intOf]; omega
    · have B0 := hide hbel
      clear hbel
      go_wp2_with fail
      go_ret
      exact ⟨rfl, B0.out⟩


end Go.Proofs.Ytjbengphioankaa
