/- Slices of Held: what they are in memory, and the contracts of what copies, compares, marks them. -/
import Derived.Test.YtjbengphioankaaX3
import Derived.Deep.RegionHeld3
import Derived.Deep.DeepCutAuto
namespace Go.Proofs.Ytjbengphioankaa
open Go.ChangeShapes Go.WideShapes Go.ChangeAt Go.RowKit Go.Deep

structure VHeld where
  a0 : Int
  a1 : Int
  a2 : Int
  a3 : Int
  a4 : Bool
  a5 : Bool
  a6 : Int
instance : Inhabited VHeld := ⟨⟨0, 0, 0, 0, false, false, 0⟩⟩
def VHeld.cells (x : VHeld) : List Value := [.int .i64 x.a0, .int .i64 x.a1, .int .i64 x.a2, .int .i64 x.a3, .bool x.a4, .bool x.a5, .int .i64 x.a6]
theorem flatHeld (zs : List VHeld) : Flat 7 (zs.map VHeld.cells) := Flat.map (k := 7) (f := VHeld.cells) (fun _ => rfl) zs
def HeldAt (w : World) (A : Option Addr) (zs : List VHeld) : Prop := RecAt 7 w A (zs.map VHeld.cells)
theorem HeldAt.at {w : World} {A : Option Addr} {zs : List VHeld} (h : HeldAt w A zs) (h1 : 1 ≤ zs.length) : ∃ b off, A = some ⟨b, off, none⟩ ∧ b < w.heap.size ∧ ∀ k, k < zs.length → w.cell? ⟨b, off + k * 7, none⟩ = some (.int .i64 (zs.getD k default).a0) ∧ w.cell? ⟨b, off + k * 7 + 1, none⟩ = some (.int .i64 (zs.getD k default).a1) ∧ w.cell? ⟨b, off + k * 7 + 2, none⟩ = some (.int .i64 (zs.getD k default).a2) ∧ w.cell? ⟨b, off + k * 7 + 3, none⟩ = some (.int .i64 (zs.getD k default).a3) ∧ w.cell? ⟨b, off + k * 7 + 4, none⟩ = some (.bool (zs.getD k default).a4) ∧ w.cell? ⟨b, off + k * 7 + 5, none⟩ = some (.bool (zs.getD k default).a5) ∧ w.cell? ⟨b, off + k * 7 + 6, none⟩ = some (.int .i64 (zs.getD k default).a6) := by
  rcases h with h | ⟨b, off, hA, hlt, hc⟩
  · simp at h
    simp [h] at h1
  · refine ⟨b, off, hA, hlt, fun k hk => ?_⟩
    have hx : zs[k]? = some (zs.getD k default) := by simp [List.getD_eq_getElem?_getD, hk]
    have hy : (zs.map VHeld.cells)[k]? = some (zs.getD k default).cells := by simp only [List.getElem?_map, hx, Option.map_some]
    have h0 := hc k 0 (by simpa using hk) (by omega)
    have h1 := hc k 1 (by simpa using hk) (by omega)
    have h2 := hc k 2 (by simpa using hk) (by omega)
    have h3 := hc k 3 (by simpa using hk) (by omega)
    have h4 := hc k 4 (by simpa using hk) (by omega)
    have h5 := hc k 5 (by simpa using hk) (by omega)
    have h6 := hc k 6 (by simpa using hk) (by omega)
    rw [hy] at h0 h1 h2 h3 h4 h5 h6
    exact ⟨h0, h1, h2, h3, h4, h5, h6⟩
theorem ownHeld {w : World} {g n cap : Nat} {zs : List VHeld} (h : Own w 72 7 g n cap (zs.map VHeld.cells).flatten) (hn : zs.length = n) : HeldAt w (some ⟨g, 0, none⟩) zs :=
  own_recs h (flatHeld zs) (by simpa using hn)
theorem modifyHeld (zs : List VHeld) (k : Nat) (hk : k < zs.length) (x : VHeld) : ((((((((zs.map VHeld.cells).flatten.set (k * 7) (.int .i64 x.a0)).set (k * 7 + 1) (.int .i64 x.a1)).set (k * 7 + 2) (.int .i64 x.a2)).set (k * 7 + 3) (.int .i64 x.a3)).set (k * 7 + 4) (.bool x.a4)).set (k * 7 + 5) (.bool x.a5)).set (k * 7 + 6) (.int .i64 x.a6)) = ((zs.set k x).map VHeld.cells).flatten := by
  have F := flatHeld zs
  have e : ∀ (j : Nat) (v : Value) (css : List (List Value)), Flat 7 css → j < 7 → css.flatten.set (k * 7 + j) v = (css.modify k fun c => c.set j v).flatten := fun j v css h hj => h.set k j hj v
  have e0 : ∀ (v : Value) (css : List (List Value)), Flat 7 css → css.flatten.set (k * 7) v = (css.modify k fun c => c.set 0 v).flatten := fun v css h => e 0 v css h (by omega)
  rw [e0 _ _ F]
  rw [e 1 _ _ (Flat.modify F k 0 _) (by omega)]
  rw [e 2 _ _ (Flat.modify (Flat.modify F k 0 _) k 1 _) (by omega)]
  rw [e 3 _ _ (Flat.modify (Flat.modify (Flat.modify F k 0 _) k 1 _) k 2 _) (by omega)]
  rw [e 4 _ _ (Flat.modify (Flat.modify (Flat.modify (Flat.modify F k 0 _) k 1 _) k 2 _) k 3 _) (by omega)]
  rw [e 5 _ _ (Flat.modify (Flat.modify (Flat.modify (Flat.modify (Flat.modify F k 0 _) k 1 _) k 2 _) k 3 _) k 4 _) (by omega)]
  rw [e 6 _ _ (Flat.modify (Flat.modify (Flat.modify (Flat.modify (Flat.modify (Flat.modify F k 0 _) k 1 _) k 2 _) k 3 _) k 4 _) k 5 _) (by omega)]
  congr 1
  apply List.ext_getElem?
  intro i
  simp only [List.getElem?_modify, List.getElem?_map, List.getElem?_set]
  by_cases hi : k = i
  · subst hi
    simp [hk, VHeld.cells]
  · simp [hi]

theorem infoHeld : (Try.prog.info? 72).map (fun i => (i.zero, i.size, i.bytes)) = some (some (.agg #[.int .i64 0, .int .i64 0, .int .i64 0, .int .i64 0, .bool false, .bool false, .int .i64 0]), 7, 48) := by kernel_rfl
theorem toHeld_any (x : VHeld) (w : World) : Calls Try.prog 62 #[.agg #[.int .i64 x.a0, .int .i64 x.a1, .int .i64 x.a2, .int .i64 x.a3, .bool x.a4, .bool x.a5, .int .i64 x.a6]] w (RetV (.agg #[.int .i64 x.a0, .int .i64 x.a1, .int .i64 x.a2, .int .i64 x.a3, .bool x.a4, .bool x.a5, .int .i64 x.a6]) w) := by
  go_enter Try.func62, Try.ntmps62
  go_wp2
  go_returns
  refine ⟨rfl, ?_⟩
  (repeat' (first | (with_reducible exact Below.refl _ _) | (with_reducible assumption) | (with_reducible refine Below.alloc ?_ ?_ _) | (with_reducible refine Below.setCell ?_ ?_ _) | (with_reducible refine Below.drew ?_) | (with_reducible refine below_drewN' ?_ _) | (with_reducible refine below_step (by assumption) ?_ ?_) | (with_reducible refine below_gstep (by assumption) ?_ ?_ ?_) | (with_reducible exact Below.size (by assumption)) | omega | (simp; done) | (simp; omega)))
/-- A copy: a new row that holds the elements. -/
def CopiedHeld (zs : List VHeld) (w : World) (e : Ending) (w' : World) : Prop :=
  ∃ g, e = .returned (.slice (some ⟨g, 0, none⟩) zs.length zs.length) ∧ w.heap.size ≤ g ∧ Own w' 72 7 g zs.length zs.length (zs.map VHeld.cells).flatten ∧ Below w.heap.size w w'
set_option maxHeartbeats 2000000 in
theorem toHeldS_any (A : Option Addr) (c : Nat) (zs : List VHeld) (w : World) (h : HeldAt w A zs) (hm : zs.length ≤ 1048576) :
    Calls Try.prog 48 #[.slice A zs.length c] w (CopiedHeld zs w) := by
  have Hh := hide h
  clear h
  obtain ⟨n, hn⟩ : ∃ n, zs.length = n := ⟨_, rfl⟩
  rw [hn] at hm
  have Hn := hide hn
  rw [hn]
  clear hn
  have hmk := run_make_recs (P := Try.prog) (.agg #[.int .i64 0, .int .i64 0, .int .i64 0, .int .i64 0, .bool false, .bool false, .int .i64 0]) 7 48 Try.underlying36 infoHeld .i64 .i64 n (by omega) (by omega)
  have ho : ∀ e, Own (w.alloc (.cells (madeCells (Value.cells (.agg #[.int .i64 0, .int .i64 0, .int .i64 0, .int .i64 0, .bool false, .bool false, .int .i64 0])) (n * 7)) e)) e 7 w.heap.size n n ((List.replicate n (default : VHeld)).map VHeld.cells).flatten := fun e => (own_made w (.agg #[.int .i64 0, .int .i64 0, .int .i64 0, .int .i64 0, .bool false, .bool false, .int .i64 0]) e 7 n rfl (by omega) (by unfold maxLen; omega)).conv (by rw [List.map_replicate]; rfl)
  have HO := hide ho
  clear ho
  go_enter Try.func48, Try.ntmps48
  go_wp2_with fail
  go_loopw [4] (fun i wr => ∃ k : Nat, k ≤ n ∧ i = .int .i64 k ∧ Own wr 72 7 w.heap.size n n ((zs.take k ++ List.replicate (n - k) default).map VHeld.cells).flatten ∧ Below w.heap.size w wr) (fun i _ => n - (intOf i).toNat)
  case atStart =>
    refine ⟨0, by omega, rfl, (HO.out _).conv (by simp), ?_⟩
    (repeat' (first | (with_reducible exact Below.refl _ _) | (with_reducible assumption) | (with_reducible refine Below.alloc ?_ ?_ _) | (with_reducible refine Below.setCell ?_ ?_ _) | (with_reducible refine Below.drew ?_) | (with_reducible refine below_drewN' ?_ _) | (with_reducible refine below_step (by assumption) ?_ ?_) | (with_reducible refine below_gstep (by assumption) ?_ ?_ ?_) | (with_reducible exact Below.size (by assumption)) | omega | (simp; done) | (simp; omega)))
  case round =>
    obtain ⟨k, hk, rfl, hrow, hbel⟩ := hrel
    by_cases hk' : k < n
    · obtain ⟨b, off, rfl, hlt, hc⟩ := HeldAt.at Hh.out (by have := Hn.out; omega)
      have hA := hc k (by have := Hn.out; omega)
      clear hc
      obtain ⟨x, hx⟩ : ∃ x, zs.getD k default = x := ⟨_, rfl⟩
      rw [hx] at hA
      have Hx := hide hx
      clear hx
      obtain ⟨s0, s1, s2, s3, s4, s5, s6⟩ := hA
      replace s0 := (hbel.cell (p := ⟨b, off + k * 7, none⟩) hlt).trans s0
      replace s1 := (hbel.cell (p := ⟨b, off + k * 7 + 1, none⟩) hlt).trans s1
      replace s2 := (hbel.cell (p := ⟨b, off + k * 7 + 2, none⟩) hlt).trans s2
      replace s3 := (hbel.cell (p := ⟨b, off + k * 7 + 3, none⟩) hlt).trans s3
      replace s4 := (hbel.cell (p := ⟨b, off + k * 7 + 4, none⟩) hlt).trans s4
      replace s5 := (hbel.cell (p := ⟨b, off + k * 7 + 5, none⟩) hlt).trans s5
      replace s6 := (hbel.cell (p := ⟨b, off + k * 7 + 6, none⟩) hlt).trans s6
      have g2 : (k : Int) < (n : Int) := by omega
      have lrow := hrow.lt
      have sbel := hbel.size
      have Hrow := hide hrow
      have Hbel := hide hbel
      clear hrow hbel hmk
      go_wp2_with fail
      refine (toHeld_any x _).mono ?_
      rintro e w1 ⟨rfl, hb1⟩
      have o1 := Hrow.out.below hb1
      have lo := o1.lt
      have b1 : Below w.heap.size w w1 := Hbel.out.trans (hb1.mono sbel)
      have q0 : ∃ v, w1.cell? ⟨w.heap.size, k * 7, none⟩ = some v := own_some o1 (by omega)
      have q1 : ∃ v, w1.cell? ⟨w.heap.size, k * 7 + 1, none⟩ = some v := own_some o1 (by omega)
      have q2 : ∃ v, w1.cell? ⟨w.heap.size, k * 7 + 2, none⟩ = some v := own_some o1 (by omega)
      have q3 : ∃ v, w1.cell? ⟨w.heap.size, k * 7 + 3, none⟩ = some v := own_some o1 (by omega)
      have q4 : ∃ v, w1.cell? ⟨w.heap.size, k * 7 + 4, none⟩ = some v := own_some o1 (by omega)
      have q5 : ∃ v, w1.cell? ⟨w.heap.size, k * 7 + 5, none⟩ = some v := own_some o1 (by omega)
      have q6 : ∃ v, w1.cell? ⟨w.heap.size, k * 7 + 6, none⟩ = some v := own_some o1 (by omega)
      obtain ⟨v0, q0⟩ := q0
      obtain ⟨v1, q1⟩ := q1
      obtain ⟨v2, q2⟩ := q2
      obtain ⟨v3, q3⟩ := q3
      obtain ⟨v4, q4⟩ := q4
      obtain ⟨v5, q5⟩ := q5
      obtain ⟨v6, q6⟩ := q6
      have f0 := o1.frozen (k * 7)
      have f1 := o1.frozen (k * 7 + 1)
      have f2 := o1.frozen (k * 7 + 2)
      have f3 := o1.frozen (k * 7 + 3)
      have f4 := o1.frozen (k * 7 + 4)
      have f5 := o1.frozen (k * 7 + 5)
      have f6 := o1.frozen (k * 7 + 6)
      have O1 := hide o1
      have B1 := hide b1
      clear o1 b1 hb1
      go_wp2_with fail
      go_roundw
      case rel =>
        refine ⟨k + 1, by omega, by go_num, ?_, ?_⟩
        · refine ((((((((O1.out.set (k * 7) (.int .i64 x.a0)).set (k * 7 + 1) (.int .i64 x.a1)).set (k * 7 + 2) (.int .i64 x.a2)).set (k * 7 + 3) (.int .i64 x.a3)).set (k * 7 + 4) (.bool x.a4)).set (k * 7 + 5) (.bool x.a5)).set (k * 7 + 6) (.int .i64 x.a6))).conv ?_
          rw [modifyHeld _ k (by have := Hn.out; simp; omega) x]
          congr 2
          rw [← Hx.out]
          exact take_set_next zs n k default Hn.out hk'
        · have b1 := B1.out
          (repeat' (first | (with_reducible exact Below.refl _ _) | (with_reducible assumption) | (with_reducible refine Below.alloc ?_ ?_ _) | (with_reducible refine Below.setCell ?_ ?_ _) | (with_reducible refine Below.drew ?_) | (with_reducible refine below_drewN' ?_ _) | (with_reducible refine below_step (by assumption) ?_ ?_) | (with_reducible refine below_gstep (by assumption) ?_ ?_ ?_) | (with_reducible exact Below.size (by assumption)) | omega | (simp; done) | (simp; omega)))
      case measure => simp [intOf]; omega
    · have hkn : k = n := by omega
      subst hkn
      have Hrow := hide hrow
      have Hbel := hide hbel
      clear hrow hbel
      go_wp2_with fail
      go_ret
      have e := Hn.out
      refine ⟨w.heap.size, by rw [e]; rfl, Nat.le_refl _, ?_, Hbel.out⟩
      rw [e]
      exact Hrow.out.conv (by rw [← e]; simp)

theorem szHeldS_any (A : Option Addr) (n c : Nat) (m : Int) (w : World) (h0 : 0 ≤ m) (h1 : m ≤ 4611686018427387904) (hn : n ≤ 9223372036854775807) :
    Calls Try.prog 47 #[.slice A n c, .int .i64 m] w fun e w' => e = .returned (.int .i64 (if m - (n : Int) < 0 then -1 else m - (n : Int))) ∧ w' = w := by
  obtain ⟨r, hr⟩ : ∃ r, m - (n : Int) = r := ⟨_, rfl⟩
  have hw : IntKind.i64.wrap (m - (n : Int)) = r := by rw [IntWalk.i64_in _ (by omega)]; exact hr
  rw [hr]
  clear hr
  by_cases hneg : r < 0
  · rw [if_pos hneg]
    go_enter Try.func47, Try.ntmps47
    go_wp2_with fail
    go_ret
    exact ⟨rfl, rfl⟩
  · rw [if_neg hneg]
    go_enter Try.func47, Try.ntmps47
    go_wp2_with fail
    go_ret
    exact ⟨rfl, rfl⟩
theorem eqHeld_same (x : VHeld) (w : World) : Calls Try.prog 63 #[.agg #[.int .i64 x.a0, .int .i64 x.a1, .int .i64 x.a2, .int .i64 x.a3, .bool x.a4, .bool x.a5, .int .i64 x.a6], .agg #[.int .i64 x.a0, .int .i64 x.a1, .int .i64 x.a2, .int .i64 x.a3, .bool x.a4, .bool x.a5, .int .i64 x.a6]] w (RetB true w) := by
  go_enter Try.func63, Try.ntmps63
  go_wp2
  go_ret
  refine ⟨rfl, ?_⟩
  (repeat' (first | (with_reducible exact Below.refl _ _) | (with_reducible assumption) | (with_reducible refine Below.alloc ?_ ?_ _) | (with_reducible refine Below.setCell ?_ ?_ _) | (with_reducible refine Below.drew ?_) | (with_reducible refine below_drewN' ?_ _) | (with_reducible refine below_step (by assumption) ?_ ?_) | (with_reducible refine below_gstep (by assumption) ?_ ?_ ?_) | (with_reducible exact Below.size (by assumption)) | omega | (simp; done) | (simp; omega)))
set_option maxHeartbeats 2000000 in
theorem eqHeldS_same (A B : Option Addr) (c1 c2 : Nat) (zs : List VHeld) (w : World) (hA : HeldAt w A zs) (hB : HeldAt w B zs) (hm : zs.length ≤ 1048576) :
    Calls Try.prog 49 #[.slice A zs.length c1, .slice B zs.length c2] w (RetB true w) := by
  have HA := hide hA
  have HB := hide hB
  clear hA hB
  obtain ⟨n, hn⟩ : ∃ n, zs.length = n := ⟨_, rfl⟩
  rw [hn] at hm ⊢
  have Hn := hide hn
  clear hn
  go_enter Try.func49, Try.ntmps49
  go_wp2_with fail
  go_loopw [5] (fun i wr => ∃ k : Nat, k ≤ n ∧ i = .int .i64 k ∧ Below w.heap.size w wr) (fun i _ => n - (intOf i).toNat)
  case atStart => exact ⟨0, by omega, rfl, Below.refl _ _⟩
  case round =>
    obtain ⟨k, hk, rfl, hbel⟩ := hrel
    by_cases hk' : k < n
    · obtain ⟨b, off, rfl, hlt, hc⟩ := HeldAt.at HA.out (by have := Hn.out; omega)
      obtain ⟨b2, off2, rfl, hlt2, hc2⟩ := HeldAt.at HB.out (by have := Hn.out; omega)
      have hA := hc k (by have := Hn.out; omega)
      have hB := hc2 k (by have := Hn.out; omega)
      clear hc hc2
      obtain ⟨x, hx⟩ : ∃ x, zs.getD k default = x := ⟨_, rfl⟩
      rw [hx] at hA hB
      clear hx
      obtain ⟨s0, s1, s2, s3, s4, s5, s6⟩ := hA
      obtain ⟨t0, t1, t2, t3, t4, t5, t6⟩ := hB
      replace s0 := (hbel.cell (p := ⟨b, off + k * 7, none⟩) hlt).trans s0
      replace s1 := (hbel.cell (p := ⟨b, off + k * 7 + 1, none⟩) hlt).trans s1
      replace s2 := (hbel.cell (p := ⟨b, off + k * 7 + 2, none⟩) hlt).trans s2
      replace s3 := (hbel.cell (p := ⟨b, off + k * 7 + 3, none⟩) hlt).trans s3
      replace s4 := (hbel.cell (p := ⟨b, off + k * 7 + 4, none⟩) hlt).trans s4
      replace s5 := (hbel.cell (p := ⟨b, off + k * 7 + 5, none⟩) hlt).trans s5
      replace s6 := (hbel.cell (p := ⟨b, off + k * 7 + 6, none⟩) hlt).trans s6
      replace t0 := (hbel.cell (p := ⟨b2, off2 + k * 7, none⟩) hlt2).trans t0
      replace t1 := (hbel.cell (p := ⟨b2, off2 + k * 7 + 1, none⟩) hlt2).trans t1
      replace t2 := (hbel.cell (p := ⟨b2, off2 + k * 7 + 2, none⟩) hlt2).trans t2
      replace t3 := (hbel.cell (p := ⟨b2, off2 + k * 7 + 3, none⟩) hlt2).trans t3
      replace t4 := (hbel.cell (p := ⟨b2, off2 + k * 7 + 4, none⟩) hlt2).trans t4
      replace t5 := (hbel.cell (p := ⟨b2, off2 + k * 7 + 5, none⟩) hlt2).trans t5
      replace t6 := (hbel.cell (p := ⟨b2, off2 + k * 7 + 6, none⟩) hlt2).trans t6
      have g2 : (k : Int) < (n : Int) := by omega
      have hl1 : b < wr.heap.size := Nat.lt_of_lt_of_le hlt hbel.size
      have hl2 : b2 < wr.heap.size := Nat.lt_of_lt_of_le hlt2 hbel.size
      have sbel := hbel.size
      have Hbel := hide hbel
      clear hbel hlt hlt2
      go_upto_region 6 with (fail)
      go_cut [26] (fun b wx => b = .bool false ∧ Below w.heap.size w wx)
      case first =>
        go_region_held3 (fun w' => w'.cell? ⟨b, off + k * 7, none⟩ = some (.int .i64 x.a0) ∧ w'.cell? ⟨b, off + k * 7 + 1, none⟩ = some (.int .i64 x.a1) ∧ w'.cell? ⟨b, off + k * 7 + 2, none⟩ = some (.int .i64 x.a2) ∧ w'.cell? ⟨b, off + k * 7 + 3, none⟩ = some (.int .i64 x.a3) ∧ w'.cell? ⟨b, off + k * 7 + 4, none⟩ = some (.bool x.a4) ∧ w'.cell? ⟨b, off + k * 7 + 5, none⟩ = some (.bool x.a5) ∧ w'.cell? ⟨b, off + k * 7 + 6, none⟩ = some (.int .i64 x.a6) ∧ w'.cell? ⟨b2, off2 + k * 7, none⟩ = some (.int .i64 x.a0) ∧ w'.cell? ⟨b2, off2 + k * 7 + 1, none⟩ = some (.int .i64 x.a1) ∧ w'.cell? ⟨b2, off2 + k * 7 + 2, none⟩ = some (.int .i64 x.a2) ∧ w'.cell? ⟨b2, off2 + k * 7 + 3, none⟩ = some (.int .i64 x.a3) ∧ w'.cell? ⟨b2, off2 + k * 7 + 4, none⟩ = some (.bool x.a4) ∧ w'.cell? ⟨b2, off2 + k * 7 + 5, none⟩ = some (.bool x.a5) ∧ w'.cell? ⟨b2, off2 + k * 7 + 6, none⟩ = some (.int .i64 x.a6)) (go_keep) (first | (go_at_call 63; refine (eqHeld_same x _).mono ?_; rintro e w1 ⟨rfl, hb1⟩; have u0 := (hb1.cell (p := ⟨b, off + k * 7, none⟩) hl1).trans s0; have u1 := (hb1.cell (p := ⟨b, off + k * 7 + 1, none⟩) hl1).trans s1; have u2 := (hb1.cell (p := ⟨b, off + k * 7 + 2, none⟩) hl1).trans s2; have u3 := (hb1.cell (p := ⟨b, off + k * 7 + 3, none⟩) hl1).trans s3; have u4 := (hb1.cell (p := ⟨b, off + k * 7 + 4, none⟩) hl1).trans s4; have u5 := (hb1.cell (p := ⟨b, off + k * 7 + 5, none⟩) hl1).trans s5; have u6 := (hb1.cell (p := ⟨b, off + k * 7 + 6, none⟩) hl1).trans s6; have v0 := (hb1.cell (p := ⟨b2, off2 + k * 7, none⟩) hl2).trans t0; have v1 := (hb1.cell (p := ⟨b2, off2 + k * 7 + 1, none⟩) hl2).trans t1; have v2 := (hb1.cell (p := ⟨b2, off2 + k * 7 + 2, none⟩) hl2).trans t2; have v3 := (hb1.cell (p := ⟨b2, off2 + k * 7 + 3, none⟩) hl2).trans t3; have v4 := (hb1.cell (p := ⟨b2, off2 + k * 7 + 4, none⟩) hl2).trans t4; have v5 := (hb1.cell (p := ⟨b2, off2 + k * 7 + 5, none⟩) hl2).trans t5; have v6 := (hb1.cell (p := ⟨b2, off2 + k * 7 + 6, none⟩) hl2).trans t6))
        go_wp2_with fail
        go_meet
        have B0 := Hbel.out
        refine ⟨rfl, ?_⟩
        (repeat' (first | (with_reducible exact Below.refl _ _) | (with_reducible assumption) | (with_reducible refine Below.alloc ?_ ?_ _) | (with_reducible refine Below.setCell ?_ ?_ _) | (with_reducible refine Below.drew ?_) | (with_reducible refine below_drewN' ?_ _) | (with_reducible refine below_step (by assumption) ?_ ?_) | (with_reducible refine below_gstep (by assumption) ?_ ?_ ?_) | (with_reducible exact Below.size (by assumption)) | omega | (simp; done) | (simp; omega)))
      case rest =>
        obtain ⟨rfl, hb9⟩ := hcut
        have Hb9 := hide hb9
        clear hb9
        go_wp2_with fail
        go_roundw
        case rel => exact ⟨k + 1, by omega, by go_num, Hb9.out⟩
        case measure => simp [intOf]; omega
    · have B0 := hide hbel
      clear hbel
      go_wp2_with fail
      go_ret
      exact ⟨rfl, B0.out⟩


end Go.Proofs.Ytjbengphioankaa
