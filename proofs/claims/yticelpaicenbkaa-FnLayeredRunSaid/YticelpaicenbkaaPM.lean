/- Slices of Packet: what they are in memory, and the contracts of what copies, compares, marks them. -/
import Derived.Test.YticelpaicenbkaaRC
import Derived.Deep.RegionHeld3
import Derived.Deep.DeepCutAuto
namespace Go.Proofs.Yticelpaicenbkaa
open Go.ChangeShapes Go.WideShapes Go.ChangeAt Go.RowKit Go.Deep

structure VPacket where
  a0 : Int
  a1 : Int
  a2 : Int
  a3 : Int
  a4 : Bool
  a5 : Bool
instance : Inhabited VPacket := ⟨⟨0, 0, 0, 0, false, false⟩⟩
def VPacket.cells (x : VPacket) : List Value := [.int .i64 x.a0, .int .i64 x.a1, .int .i64 x.a2, .int .i64 x.a3, .bool x.a4, .bool x.a5]
theorem flatPacket (zs : List VPacket) : Flat 6 (zs.map VPacket.cells) := Flat.map (k := 6) (f := VPacket.cells) (fun _ => rfl) zs
def PacketAt (w : World) (A : Option Addr) (zs : List VPacket) : Prop := RecAt 6 w A (zs.map VPacket.cells)
theorem PacketAt.at {w : World} {A : Option Addr} {zs : List VPacket} (h : PacketAt w A zs) (h1 : 1 ≤ zs.length) : ∃ b off, A = some ⟨b, off, none⟩ ∧ b < w.heap.size ∧ ∀ k, k < zs.length → w.cell? ⟨b, off + k * 6, none⟩ = some (.int .i64 (zs.getD k default).a0) ∧ w.cell? ⟨b, off + k * 6 + 1, none⟩ = some (.int .i64 (zs.getD k default).a1) ∧ w.cell? ⟨b, off + k * 6 + 2, none⟩ = some (.int .i64 (zs.getD k default).a2) ∧ w.cell? ⟨b, off + k * 6 + 3, none⟩ = some (.int .i64 (zs.getD k default).a3) ∧ w.cell? ⟨b, off + k * 6 + 4, none⟩ = some (.bool (zs.getD k default).a4) ∧ w.cell? ⟨b, off + k * 6 + 5, none⟩ = some (.bool (zs.getD k default).a5) := by
  rcases h with h | ⟨b, off, hA, hlt, hc⟩
  · simp at h
    simp [h] at h1
  · refine ⟨b, off, hA, hlt, fun k hk => ?_⟩
    have hx : zs[k]? = some (zs.getD k default) := by simp [List.getD_eq_getElem?_getD, hk]
    have hy : (zs.map VPacket.cells)[k]? = some (zs.getD k default).cells := by simp only [List.getElem?_map, hx, Option.map_some]
    have h0 := hc k 0 (by simpa using hk) (by omega)
    have h1 := hc k 1 (by simpa using hk) (by omega)
    have h2 := hc k 2 (by simpa using hk) (by omega)
    have h3 := hc k 3 (by simpa using hk) (by omega)
    have h4 := hc k 4 (by simpa using hk) (by omega)
    have h5 := hc k 5 (by simpa using hk) (by omega)
    rw [hy] at h0 h1 h2 h3 h4 h5
    exact ⟨h0, h1, h2, h3, h4, h5⟩
theorem ownPacket {w : World} {g n cap : Nat} {zs : List VPacket} (h : Own w 35 6 g n cap (zs.map VPacket.cells).flatten) (hn : zs.length = n) : PacketAt w (some ⟨g, 0, none⟩) zs :=
  own_recs h (flatPacket zs) (by simpa using hn)
theorem modifyPacket (zs : List VPacket) (k : Nat) (hk : k < zs.length) (x : VPacket) : (((((((zs.map VPacket.cells).flatten.set (k * 6) (.int .i64 x.a0)).set (k * 6 + 1) (.int .i64 x.a1)).set (k * 6 + 2) (.int .i64 x.a2)).set (k * 6 + 3) (.int .i64 x.a3)).set (k * 6 + 4) (.bool x.a4)).set (k * 6 + 5) (.bool x.a5)) = ((zs.set k x).map VPacket.cells).flatten := by
  have F := flatPacket zs
  have e : ∀ (j : Nat) (v : Value) (css : List (List Value)), Flat 6 css → j < 6 → css.flatten.set (k * 6 + j) v = (css.modify k fun c => c.set j v).flatten := fun j v css h hj => h.set k j hj v
  have e0 : ∀ (v : Value) (css : List (List Value)), Flat 6 css → css.flatten.set (k * 6) v = (css.modify k fun c => c.set 0 v).flatten := fun v css h => e 0 v css h (by omega)
  rw [e0 _ _ F]
  rw [e 1 _ _ (Flat.modify F k 0 _) (by omega)]
  rw [e 2 _ _ (Flat.modify (Flat.modify F k 0 _) k 1 _) (by omega)]
  rw [e 3 _ _ (Flat.modify (Flat.modify (Flat.modify F k 0 _) k 1 _) k 2 _) (by omega)]
  rw [e 4 _ _ (Flat.modify (Flat.modify (Flat.modify (Flat.modify F k 0 _) k 1 _) k 2 _) k 3 _) (by omega)]
  rw [e 5 _ _ (Flat.modify (Flat.modify (Flat.modify (Flat.modify (Flat.modify F k 0 _) k 1 _) k 2 _) k 3 _) k 4 _) (by omega)]
  congr 1
  apply List.ext_getElem?
  intro i
  simp only [List.getElem?_modify, List.getElem?_map, List.getElem?_set]
  by_cases hi : k = i
  · subst hi
    simp [hk, VPacket.cells]
  · simp [hi]

theorem infoPacket : (Try.prog.info? 35).map (fun i => (i.zero, i.size, i.bytes)) = some (some (.agg #[.int .i64 0, .int .i64 0, .int .i64 0, .int .i64 0, .bool false, .bool false]), 6, 40) := by kernel_rfl
theorem openPacketS {H : Type} {enc : TypeId × Value → H} (W : World) (base : Nat) (v : Value) (d : DataW H) (p : List MemPlace) (o : Value.okWide Try.prog W .any base 49 v) (h : DataW.Trod enc Try.prog W 0 (fun _ => true) true 49 v d p) :
    ∃ A c zs, v = .slice A (List.length zs) c ∧ zs.length ≤ c ∧ c ≤ 9223372036854775807 ∧ PacketAt W A zs := by
  obtain ⟨A, c, css, rfl, hl, hm, hr, hf⟩ := open_recs Try.underlying49 Try.underlying32 (by kernel_rfl) (by kernel_rfl) (by show 0 < 6; omega) o h
  obtain ⟨zs, rfl⟩ : ∃ zs : List VPacket, css = zs.map VPacket.cells := by
    refine lift_map fun i hi => ?_
    obtain ⟨cs, h0, hlen, hcs⟩ := hf i hi
    match cs, (show cs.length = 6 from hlen) with
    | [c0, c1, c2, c3, c4, c5], _ =>
      obtain ⟨_, n0, y0, e0, t0⟩ := hcs 0 _ rfl
      simp at e0
      subst e0
      obtain ⟨b0, rfl, _⟩ := int_cell Try.underlying3 ⟨_, _, t0⟩
      obtain ⟨_, n1, y1, e1, t1⟩ := hcs 1 _ rfl
      simp at e1
      subst e1
      obtain ⟨b1, rfl, _⟩ := int_cell Try.underlying3 ⟨_, _, t1⟩
      obtain ⟨_, n2, y2, e2, t2⟩ := hcs 2 _ rfl
      simp at e2
      subst e2
      obtain ⟨b2, rfl, _⟩ := int_cell Try.underlying3 ⟨_, _, t2⟩
      obtain ⟨_, n3, y3, e3, t3⟩ := hcs 3 _ rfl
      simp at e3
      subst e3
      obtain ⟨b3, rfl, _⟩ := int_cell Try.underlying3 ⟨_, _, t3⟩
      obtain ⟨_, n4, y4, e4, t4⟩ := hcs 4 _ rfl
      simp at e4
      subst e4
      obtain ⟨b4, rfl⟩ := bool_cell Try.underlying4 ⟨_, _, t4⟩
      obtain ⟨_, n5, y5, e5, t5⟩ := hcs 5 _ rfl
      simp at e5
      subst e5
      obtain ⟨b5, rfl⟩ := bool_cell Try.underlying4 ⟨_, _, t5⟩
      exact ⟨⟨b0, b1, b2, b3, b4, b5⟩, h0⟩
  exact ⟨A, c, zs, by simp, by simpa using hl, hm, hr⟩
theorem toPacket_any (x : VPacket) (w : World) : Calls Try.prog 23 #[.agg #[.int .i64 x.a0, .int .i64 x.a1, .int .i64 x.a2, .int .i64 x.a3, .bool x.a4, .bool x.a5]] w (RetV (.agg #[.int .i64 x.a0, .int .i64 x.a1, .int .i64 x.a2, .int .i64 x.a3, .bool x.a4, .bool x.a5]) w) := by
  go_enter Try.func23, Try.ntmps23
  go_wp2
  go_returns
  refine ⟨rfl, ?_⟩
  (repeat' (first | (with_reducible exact Below.refl _ _) | (with_reducible assumption) | (with_reducible refine Below.alloc ?_ ?_ _) | (with_reducible refine Below.setCell ?_ ?_ _) | (with_reducible refine Below.drew ?_) | (with_reducible refine below_drewN' ?_ _) | (with_reducible refine below_step (by assumption) ?_ ?_) | (with_reducible refine below_gstep (by assumption) ?_ ?_ ?_) | (with_reducible exact Below.size (by assumption)) | omega | (simp; done) | (simp; omega)))
/-- A copy: a new row that holds the elements. -/
def CopiedPacket (zs : List VPacket) (w : World) (e : Ending) (w' : World) : Prop :=
  ∃ g, e = .returned (.slice (some ⟨g, 0, none⟩) zs.length zs.length) ∧ w.heap.size ≤ g ∧ Own w' 35 6 g zs.length zs.length (zs.map VPacket.cells).flatten ∧ Below w.heap.size w w'
set_option maxHeartbeats 2000000 in
theorem toPacketS_any (A : Option Addr) (c : Nat) (zs : List VPacket) (w : World) (h : PacketAt w A zs) (hm : zs.length ≤ 1048576) :
    Calls Try.prog 34 #[.slice A zs.length c] w (CopiedPacket zs w) := by
  have Hh := hide h
  clear h
  obtain ⟨n, hn⟩ : ∃ n, zs.length = n := ⟨_, rfl⟩
  rw [hn] at hm
  have Hn := hide hn
  rw [hn]
  clear hn
  have hmk := run_make_recs (P := Try.prog) (.agg #[.int .i64 0, .int .i64 0, .int .i64 0, .int .i64 0, .bool false, .bool false]) 6 40 Try.underlying42 infoPacket .i64 .i64 n (by omega) (by omega)
  have ho : ∀ e, Own (w.alloc (.cells (madeCells (Value.cells (.agg #[.int .i64 0, .int .i64 0, .int .i64 0, .int .i64 0, .bool false, .bool false])) (n * 6)) e)) e 6 w.heap.size n n ((List.replicate n (default : VPacket)).map VPacket.cells).flatten := fun e => (own_made w (.agg #[.int .i64 0, .int .i64 0, .int .i64 0, .int .i64 0, .bool false, .bool false]) e 6 n rfl (by omega) (by unfold maxLen; omega)).conv (by rw [List.map_replicate]; rfl)
  have HO := hide ho
  clear ho
  go_enter Try.func34, Try.ntmps34
  go_wp2_with fail
  go_loopw [4] (fun i wr => ∃ k : Nat, k ≤ n ∧ i = .int .i64 k ∧ Own wr 35 6 w.heap.size n n ((zs.take k ++ List.replicate (n - k) default).map VPacket.cells).flatten ∧ Below w.heap.size w wr) (fun i _ => n - (intOf i).toNat)
  case atStart =>
    refine ⟨0, by omega, rfl, (HO.out _).conv (by simp), ?_⟩
    (repeat' (first | (with_reducible exact Below.refl _ _) | (with_reducible assumption) | (with_reducible refine Below.alloc ?_ ?_ _) | (with_reducible refine Below.setCell ?_ ?_ _) | (with_reducible refine Below.drew ?_) | (with_reducible refine below_drewN' ?_ _) | (with_reducible refine below_step (by assumption) ?_ ?_) | (with_reducible refine below_gstep (by assumption) ?_ ?_ ?_) | (with_reducible exact Below.size (by assumption)) | omega | (simp; done) | (simp; omega)))
  case round =>
    obtain ⟨k, hk, rfl, hrow, hbel⟩ := hrel
    by_cases hk' : k < n
    · obtain ⟨b, off, rfl, hlt, hc⟩ := PacketAt.at Hh.out (by have := Hn.out; omega)
      have hA := hc k (by have := Hn.out; omega)
      clear hc
      obtain ⟨x, hx⟩ : ∃ x, zs.getD k default = x := ⟨_, rfl⟩
      rw [hx] at hA
      have Hx := hide hx
      clear hx
      obtain ⟨s0, s1, s2, s3, s4, s5⟩ := hA
      replace s0 := (hbel.cell (p := ⟨b, off + k * 6, none⟩) hlt).trans s0
      replace s1 := (hbel.cell (p := ⟨b, off + k * 6 + 1, none⟩) hlt).trans s1
      replace s2 := (hbel.cell (p := ⟨b, off + k * 6 + 2, none⟩) hlt).trans s2
      replace s3 := (hbel.cell (p := ⟨b, off + k * 6 + 3, none⟩) hlt).trans s3
      replace s4 := (hbel.cell (p := ⟨b, off + k * 6 + 4, none⟩) hlt).trans s4
      replace s5 := (hbel.cell (p := ⟨b, off + k * 6 + 5, none⟩) hlt).trans s5
      have g2 : (k : Int) < (n : Int) := by omega
      have lrow := hrow.lt
      have sbel := hbel.size
      have Hrow := hide hrow
      have Hbel := hide hbel
      clear hrow hbel hmk
      go_wp2_with fail
      refine (toPacket_any x _).mono ?_
      rintro e w1 ⟨rfl, hb1⟩
      have o1 := Hrow.out.below hb1
      have lo := o1.lt
      have b1 : Below w.heap.size w w1 := Hbel.out.trans (hb1.mono sbel)
      have q0 : ∃ v, w1.cell? ⟨w.heap.size, k * 6, none⟩ = some v := own_some o1 (by omega)
      have q1 : ∃ v, w1.cell? ⟨w.heap.size, k * 6 + 1, none⟩ = some v := own_some o1 (by omega)
      have q2 : ∃ v, w1.cell? ⟨w.heap.size, k * 6 + 2, none⟩ = some v := own_some o1 (by omega)
      have q3 : ∃ v, w1.cell? ⟨w.heap.size, k * 6 + 3, none⟩ = some v := own_some o1 (by omega)
      have q4 : ∃ v, w1.cell? ⟨w.heap.size, k * 6 + 4, none⟩ = some v := own_some o1 (by omega)
      have q5 : ∃ v, w1.cell? ⟨w.heap.size, k * 6 + 5, none⟩ = some v := own_some o1 (by omega)
      obtain ⟨v0, q0⟩ := q0
      obtain ⟨v1, q1⟩ := q1
      obtain ⟨v2, q2⟩ := q2
      obtain ⟨v3, q3⟩ := q3
      obtain ⟨v4, q4⟩ := q4
      obtain ⟨v5, q5⟩ := q5
      have f0 := o1.frozen (k * 6)
      have f1 := o1.frozen (k * 6 + 1)
      have f2 := o1.frozen (k * 6 + 2)
      have f3 := o1.frozen (k * 6 + 3)
      have f4 := o1.frozen (k * 6 + 4)
      have f5 := o1.frozen (k * 6 + 5)
      have O1 := hide o1
      have B1 := hide b1
      clear o1 b1 hb1
      go_wp2_with fail
      go_roundw
      case rel =>
        refine ⟨k + 1, by omega, by go_num, ?_, ?_⟩
        · refine (((((((O1.out.set (k * 6) (.int .i64 x.a0)).set (k * 6 + 1) (.int .i64 x.a1)).set (k * 6 + 2) (.int .i64 x.a2)).set (k * 6 + 3) (.int .i64 x.a3)).set (k * 6 + 4) (.bool x.a4)).set (k * 6 + 5) (.bool x.a5))).conv ?_
          rw [modifyPacket _ k (by have := Hn.out; simp; omega) x]
          congr 2
          rw [← Hx.out]
          exact take_set_next zs n k default Hn.out hk'
        · have b1 := B1.out
          (repeat' (first | (with_reducible exact Below.refl _ _) | (with_reducible assumption) | (with_reducible refine Below.alloc ?_ ?_ _) | (with_reducible refine Below.setCell ?_ ?_ _) | (with_reducible refine Below.drew ?_) | (with_reducible refine below_drewN' ?_ _) | (with_reducible refine below_step (by assumption) ?_ ?_) | (with_reducible refine below_gstep (by assumption) ?_ ?_ ?_) | (with_reducible exact Below.size (by assumption)) | omega | (simp; done) | (simp; omega)))
      case measure => simp [intOf]; omega
    · have hkn : k = n := by omega
      subst hkn
      have Hrow := hide hrow
      have Hbel := hide hbel
      clear hrow hbel
      go_wp2_with fail
      go_ret
      have e := Hn.out
      refine ⟨w.heap.size, by rw [e]; rfl, Nat.le_refl _, ?_, Hbel.out⟩
      rw [e]
      exact Hrow.out.conv (by rw [← e]; simp)

theorem szPacketS_any (A : Option Addr) (n c : Nat) (m : Int) (w : World) (h0 : 0 ≤ m) (h1 : m ≤ 4611686018427387904) (hn : n ≤ 9223372036854775807) :
    Calls Try.prog 33 #[.slice A n c, .int .i64 m] w fun e w' => e = .returned (.int .i64 (if m - (n : Int) < 0 then -1 else m - (n : Int))) ∧ w' = w := by
  obtain ⟨r, hr⟩ : ∃ r, m - (n : Int) = r := ⟨_, rfl⟩
  have hw : IntKind.i64.wrap (m - (n : Int)) = r := by rw [IntWalk.i64_in _ (by omega)]; exact hr
  rw [hr]
  clear hr
  by_cases hneg : r < 0
  · rw [if_pos hneg]
    go_enter Try.func33, Try.ntmps33
    go_wp2_with fail
    go_ret
    exact ⟨rfl, rfl⟩
  · rw [if_neg hneg]
    go_enter Try.func33, Try.ntmps33
    go_wp2_with fail
    go_ret
    exact ⟨rfl, rfl⟩
theorem eqPacket_same (x : VPacket) (w : World) : Calls Try.prog 48 #[.agg #[.int .i64 x.a0, .int .i64 x.a1, .int .i64 x.a2, .int .i64 x.a3, .bool x.a4, .bool x.a5], .agg #[.int .i64 x.a0, .int .i64 x.a1, .int .i64 x.a2, .int .i64 x.a3, .bool x.a4, .bool x.a5]] w (RetB true w) := by
  go_enter Try.func48, Try.ntmps48
  go_wp2
  go_ret
  refine ⟨rfl, ?_⟩
  (repeat' (first | (with_reducible exact Below.refl _ _) | (with_reducible assumption) | (with_reducible refine Below.alloc ?_ ?_ _) | (with_reducible refine Below.setCell ?_ ?_ _) | (with_reducible refine Below.drew ?_) | (with_reducible refine below_drewN' ?_ _) | (with_reducible refine below_step (by assumption) ?_ ?_) | (with_reducible refine below_gstep (by assumption) ?_ ?_ ?_) | (with_reducible exact Below.size (by assumption)) | omega | (simp; done) | (simp; omega)))
set_option maxHeartbeats 2000000 in
theorem eqPacketS_same (A B : Option Addr) (c1 c2 : Nat) (zs : List VPacket) (w : World) (hA : PacketAt w A zs) (hB : PacketAt w B zs) (hm : zs.length ≤ 1048576) :
    Calls Try.prog 35 #[.slice A zs.length c1, .slice B zs.length c2] w (RetB true w) := by
  have HA := hide hA
  have HB := hide hB
  clear hA hB
  obtain ⟨n, hn⟩ : ∃ n, zs.length = n := ⟨_, rfl⟩
  rw [hn] at hm ⊢
  have Hn := hide hn
  clear hn
  go_enter Try.func35, Try.ntmps35
  go_wp2_with fail
  go_loopw [5] (fun i wr => ∃ k : Nat, k ≤ n ∧ i = .int .i64 k ∧ Below w.heap.size w wr) (fun i _ => n - (intOf i).toNat)
  case atStart => exact ⟨0, by omega, rfl, Below.refl _ _⟩
  case round =>
    obtain ⟨k, hk, rfl, hbel⟩ := hrel
    by_cases hk' : k < n
    · obtain ⟨b, off, rfl, hlt, hc⟩ := PacketAt.at HA.out (by have := Hn.out; omega)
      obtain ⟨b2, off2, rfl, hlt2, hc2⟩ := PacketAt.at HB.out (by have := Hn.out; omega)
      have hA := hc k (by have := Hn.out; omega)
      have hB := hc2 k (by have := Hn.out; omega)
      clear hc hc2
      obtain ⟨x, hx⟩ : ∃ x, zs.getD k default = x := ⟨_, rfl⟩
      rw [hx] at hA hB
      clear hx
      obtain ⟨s0, s1, s2, s3, s4, s5⟩ := hA
      obtain ⟨t0, t1, t2, t3, t4, t5⟩ := hB
      replace s0 := (hbel.cell (p := ⟨b, off + k * 6, none⟩) hlt).trans s0
      replace s1 := (hbel.cell (p := ⟨b, off + k * 6 + 1, none⟩) hlt).trans s1
      replace s2 := (hbel.cell (p := ⟨b, off + k * 6 + 2, none⟩) hlt).trans s2
      replace s3 := (hbel.cell (p := ⟨b, off + k * 6 + 3, none⟩) hlt).trans s3
      replace s4 := (hbel.cell (p := ⟨b, off + k * 6 + 4, none⟩) hlt).trans s4
      replace s5 := (hbel.cell (p := ⟨b, off + k * 6 + 5, none⟩) hlt).trans s5
      replace t0 := (hbel.cell (p := ⟨b2, off2 + k * 6, none⟩) hlt2).trans t0
      replace t1 := (hbel.cell (p := ⟨b2, off2 + k * 6 + 1, none⟩) hlt2).trans t1
      replace t2 := (hbel.cell (p := ⟨b2, off2 + k * 6 + 2, none⟩) hlt2).trans t2
      replace t3 := (hbel.cell (p := ⟨b2, off2 + k * 6 + 3, none⟩) hlt2).trans t3
      replace t4 := (hbel.cell (p := ⟨b2, off2 + k * 6 + 4, none⟩) hlt2).trans t4
      replace t5 := (hbel.cell (p := ⟨b2, off2 + k * 6 + 5, none⟩) hlt2).trans t5
      have g2 : (k : Int) < (n : Int) := by omega
      have hl1 : b < wr.heap.size := Nat.lt_of_lt_of_le hlt hbel.size
      have hl2 : b2 < wr.heap.size := Nat.lt_of_lt_of_le hlt2 hbel.size
      have sbel := hbel.size
      have Hbel := hide hbel
      clear hbel hlt hlt2
      go_upto_region 6 with (fail)
      go_cut [26] (fun b wx => b = .bool false ∧ Below w.heap.size w wx)
      case first =>
        go_region_held3 (fun w' => w'.cell? ⟨b, off + k * 6, none⟩ = some (.int .i64 x.a0) ∧ w'.cell? ⟨b, off + k * 6 + 1, none⟩ = some (.int .i64 x.a1) ∧ w'.cell? ⟨b, off + k * 6 + 2, none⟩ = some (.int .i64 x.a2) ∧ w'.cell? ⟨b, off + k * 6 + 3, none⟩ = some (.int .i64 x.a3) ∧ w'.cell? ⟨b, off + k * 6 + 4, none⟩ = some (.bool x.a4) ∧ w'.cell? ⟨b, off + k * 6 + 5, none⟩ = some (.bool x.a5) ∧ w'.cell? ⟨b2, off2 + k * 6, none⟩ = some (.int .i64 x.a0) ∧ w'.cell? ⟨b2, off2 + k * 6 + 1, none⟩ = some (.int .i64 x.a1) ∧ w'.cell? ⟨b2, off2 + k * 6 + 2, none⟩ = some (.int .i64 x.a2) ∧ w'.cell? ⟨b2, off2 + k * 6 + 3, none⟩ = some (.int .i64 x.a3) ∧ w'.cell? ⟨b2, off2 + k * 6 + 4, none⟩ = some (.bool x.a4) ∧ w'.cell? ⟨b2, off2 + k * 6 + 5, none⟩ = some (.bool x.a5)) (go_keep) (first | (go_at_call 48; refine (eqPacket_same x _).mono ?_; rintro e w1 ⟨rfl, hb1⟩; have u0 := (hb1.cell (p := ⟨b, off + k * 6, none⟩) hl1).trans s0; have u1 := (hb1.cell (p := ⟨b, off + k * 6 + 1, none⟩) hl1).trans s1; have u2 := (hb1.cell (p := ⟨b, off + k * 6 + 2, none⟩) hl1).trans s2; have u3 := (hb1.cell (p := ⟨b, off + k * 6 + 3, none⟩) hl1).trans s3; have u4 := (hb1.cell (p := ⟨b, off + k * 6 + 4, none⟩) hl1).trans s4; have u5 := (hb1.cell (p := ⟨b, off + k * 6 + 5, none⟩) hl1).trans s5; have v0 := (hb1.cell (p := ⟨b2, off2 + k * 6, none⟩) hl2).trans t0; have v1 := (hb1.cell (p := ⟨b2, off2 + k * 6 + 1, none⟩) hl2).trans t1; have v2 := (hb1.cell (p := ⟨b2, off2 + k * 6 + 2, none⟩) hl2).trans t2; have v3 := (hb1.cell (p := ⟨b2, off2 + k * 6 + 3, none⟩) hl2).trans t3; have v4 := (hb1.cell (p := ⟨b2, off2 + k * 6 + 4, none⟩) hl2).trans t4; have v5 := (hb1.cell (p := ⟨b2, off2 + k * 6 + 5, none⟩) hl2).trans t5))
        go_wp2_with fail
        go_meet
        have B0 := Hbel.out
        refine ⟨rfl, ?_⟩
        (repeat' (first | (with_reducible exact Below.refl _ _) | (with_reducible assumption) | (with_reducible refine Below.alloc ?_ ?_ _) | (with_reducible refine Below.setCell ?_ ?_ _) | (with_reducible refine Below.drew ?_) | (with_reducible refine below_drewN' ?_ _) | (with_reducible refine below_step (by assumption) ?_ ?_) | (with_reducible refine below_gstep (by assumption) ?_ ?_ ?_) | (with_reducible exact Below.size (by assumption)) | omega | (simp; done) | (simp; omega)))
      case rest =>
        obtain ⟨rfl, hb9⟩ := hcut
        have Hb9 := hide hb9
        clear hb9
        go_wp2_with fail
        go_roundw
        case rel => exact ⟨k + 1, by omega, by go_num, Hb9.out⟩
        case measure => simp [intOf]; omega
    · have B0 := hide hbel
      clear hbel
      go_wp2_with fail
      go_ret
      exact ⟨rfl, B0.out⟩

/-- What the marks that begin at s lay into element k. -/
def markOfPacket (s : Int) (k : Nat) : VPacket := ⟨s + (k * 6 : Nat), s + (k * 6 : Nat) + 1, s + (k * 6 : Nat) + 2, s + (k * 6 : Nat) + 3, ((s + (k * 6 : Nat) + 4).tmod 3 == 0), ((s + (k * 6 : Nat) + 5).tmod 3 == 0)⟩
def marksPacket (s : Int) (n : Nat) : List VPacket := (List.range n).map (markOfPacket s)
set_option maxHeartbeats 2000000 in
theorem markPacketS_any (g c n : Nat) (s : Int) (zs : List VPacket) (w : World) (h : Own w 35 6 g n c (zs.map VPacket.cells).flatten) (hn : zs.length = n) (hm : n ≤ 1048576) (hs0 : 0 ≤ s) (hs1 : s ≤ 4611686018427387904) :
    Calls Try.prog 36 #[.slice (some ⟨g, 0, none⟩) n c, .int .i64 s] w fun e w' => e = .returned (.int .i64 (s + (n * 6 : Nat))) ∧ Own w' 35 6 g n c ((marksPacket s n).map VPacket.cells).flatten ∧ w.grownBy w' (some g) := by
  have Hn := hide hn
  have H0 := hide h
  clear hn h
  go_enter Try.func36, Try.ntmps36
  go_wp2_with fail
  go_loopw [1, 5] (fun p i wr => ∃ k : Nat, k ≤ n ∧ p = .int .i64 (s + (k * 6 : Nat)) ∧ i = .int .i64 k ∧ Own wr 35 6 g n c (((List.range k).map (markOfPacket s) ++ zs.drop k).map VPacket.cells).flatten ∧ w.grownBy wr (some g)) (fun _ i _ => n - (intOf i).toNat)
  case atStart => exact ⟨0, by omega, by simp, rfl, H0.out.conv (by simp), World.grownBy.refl _ _⟩
  case round =>
    obtain ⟨k, hk, rfl, rfl, hrow, hgr⟩ := hrel
    have lrow := hrow.lt
    by_cases hk' : k < n
    · have g2 : (k : Int) < (n : Int) := by omega
      obtain ⟨p0, hp0⟩ : ∃ p : Int, s + (k * 6 : Nat) = p := ⟨_, rfl⟩
      obtain ⟨p1, hp1⟩ : ∃ p : Int, s + (k * 6 : Nat) + 1 = p := ⟨_, rfl⟩
      obtain ⟨p2, hp2⟩ : ∃ p : Int, s + (k * 6 : Nat) + 2 = p := ⟨_, rfl⟩
      obtain ⟨p3, hp3⟩ : ∃ p : Int, s + (k * 6 : Nat) + 3 = p := ⟨_, rfl⟩
      obtain ⟨p4, hp4⟩ : ∃ p : Int, s + (k * 6 : Nat) + 4 = p := ⟨_, rfl⟩
      obtain ⟨p5, hp5⟩ : ∃ p : Int, s + (k * 6 : Nat) + 5 = p := ⟨_, rfl⟩
      obtain ⟨p6, hp6⟩ : ∃ p : Int, s + (k * 6 : Nat) + 6 = p := ⟨_, rfl⟩
      have hx : markOfPacket s k = ⟨p0, p1, p2, p3, (p4.tmod 3 == 0), (p5.tmod 3 == 0)⟩ := by unfold markOfPacket; rw [hp5, hp4, hp3, hp2, hp1, hp0]
      have Hp := hide (show p6 = s + ((k + 1) * 6 : Nat) from by omega)
      have w0 : IntKind.i64.wrap (p0 + 1) = p1 := by rw [IntWalk.i64_in _ (by omega)]; omega
      have w1 : IntKind.i64.wrap (p1 + 1) = p2 := by rw [IntWalk.i64_in _ (by omega)]; omega
      have w2 : IntKind.i64.wrap (p2 + 1) = p3 := by rw [IntWalk.i64_in _ (by omega)]; omega
      have w3 : IntKind.i64.wrap (p3 + 1) = p4 := by rw [IntWalk.i64_in _ (by omega)]; omega
      have w4 : IntKind.i64.wrap (p4 + 1) = p5 := by rw [IntWalk.i64_in _ (by omega)]; omega
      have w5 : IntKind.i64.wrap (p5 + 1) = p6 := by rw [IntWalk.i64_in _ (by omega)]; omega
      have q0 : ∃ v, wr.cell? ⟨g, k * 6, none⟩ = some v := own_some hrow (by omega)
      have q1 : ∃ v, wr.cell? ⟨g, k * 6 + 1, none⟩ = some v := own_some hrow (by omega)
      have q2 : ∃ v, wr.cell? ⟨g, k * 6 + 2, none⟩ = some v := own_some hrow (by omega)
      have q3 : ∃ v, wr.cell? ⟨g, k * 6 + 3, none⟩ = some v := own_some hrow (by omega)
      have q4 : ∃ v, wr.cell? ⟨g, k * 6 + 4, none⟩ = some v := own_some hrow (by omega)
      have q5 : ∃ v, wr.cell? ⟨g, k * 6 + 5, none⟩ = some v := own_some hrow (by omega)
      obtain ⟨v0, q0⟩ := q0
      obtain ⟨v1, q1⟩ := q1
      obtain ⟨v2, q2⟩ := q2
      obtain ⟨v3, q3⟩ := q3
      obtain ⟨v4, q4⟩ := q4
      obtain ⟨v5, q5⟩ := q5
      have f0 := hrow.frozen (k * 6)
      have f1 := hrow.frozen (k * 6 + 1)
      have f2 := hrow.frozen (k * 6 + 2)
      have f3 := hrow.frozen (k * 6 + 3)
      have f4 := hrow.frozen (k * 6 + 4)
      have f5 := hrow.frozen (k * 6 + 5)
      rw [hp0]
      have Hx := hide hx
      have Hrow := hide hrow
      have Hgr := hide hgr
      clear hx hrow hgr hp0 hp1 hp2 hp3 hp4 hp5 hp6
      go_wp2_with fail
      go_roundw
      case rel =>
        refine ⟨k + 1, by omega, by rw [Hp.out], by go_num, ?_, ?_⟩
        · refine (((((((Hrow.out.set (k * 6) (.int .i64 p0)).set (k * 6 + 1) (.int .i64 p1)).set (k * 6 + 2) (.int .i64 p2)).set (k * 6 + 3) (.int .i64 p3)).set (k * 6 + 4) (.bool (p4.tmod 3 == 0))).set (k * 6 + 5) (.bool (p5.tmod 3 == 0)))).conv ?_
          rw [modifyPacket _ k (by have := Hn.out; simp; omega) ⟨p0, p1, p2, p3, (p4.tmod 3 == 0), (p5.tmod 3 == 0)⟩]
          congr 2
          rw [← Hx.out]
          exact marks_set _ zs k (by have := Hn.out; omega)
        · have hgr := Hgr.out
          (repeat' (first | (with_reducible assumption) | (with_reducible refine grown_setCell ?_ ?_ _) | (left; rfl)))
      case measure => simp [intOf]; omega
    · have hkn : k = n := by omega
      subst hkn
      have Hrow := hide hrow
      have Hgr := hide hgr
      clear hrow hgr
      go_wp2_with fail
      go_ret
      exact ⟨rfl, Hrow.out.conv (by rw [List.drop_of_length_le (by have := Hn.out; omega), List.append_nil]; rfl), Hgr.out⟩
set_option maxHeartbeats 2000000 in
theorem heldPacketS_any (A : Option Addr) (c n : Nat) (s : Int) (w : World) (h : PacketAt w A (marksPacket s n)) (hm : n ≤ 1048576) (hs0 : 0 ≤ s) (hs1 : s ≤ 4611686018427387904) :
    Calls Try.prog 37 #[.slice A n c, .int .i64 s] w fun e w' => e = .returned (.int .i64 (s + (n * 6 : Nat))) ∧ w' = w := by
  have H0 := hide h
  clear h
  have Hl := hide (show (marksPacket s n).length = n from by simp [marksPacket])
  go_enter Try.func37, Try.ntmps37
  go_wp2_with fail
  go_loopw [1, 5] (fun p i wr => ∃ k : Nat, k ≤ n ∧ p = .int .i64 (s + (k * 6 : Nat)) ∧ i = .int .i64 k ∧ wr = w) (fun _ i _ => n - (intOf i).toNat)
  case atStart => exact ⟨0, by omega, by simp, rfl, rfl⟩
  case round =>
    obtain ⟨k, hk, rfl, rfl, rfl⟩ := hrel
    by_cases hk' : k < n
    · have g2 : (k : Int) < (n : Int) := by omega
      obtain ⟨b, off, rfl, hlt, hc⟩ := PacketAt.at H0.out (by have := Hl.out; omega)
      have hA := hc k (by have := Hl.out; omega)
      clear hc
      have hg : (marksPacket s n).getD k default = markOfPacket s k := by simp [marksPacket, List.getD_eq_getElem?_getD, hk']
      rw [hg] at hA
      clear hg
      obtain ⟨p0, hp0⟩ : ∃ p : Int, s + (k * 6 : Nat) = p := ⟨_, rfl⟩
      obtain ⟨p1, hp1⟩ : ∃ p : Int, s + (k * 6 : Nat) + 1 = p := ⟨_, rfl⟩
      obtain ⟨p2, hp2⟩ : ∃ p : Int, s + (k * 6 : Nat) + 2 = p := ⟨_, rfl⟩
      obtain ⟨p3, hp3⟩ : ∃ p : Int, s + (k * 6 : Nat) + 3 = p := ⟨_, rfl⟩
      obtain ⟨p4, hp4⟩ : ∃ p : Int, s + (k * 6 : Nat) + 4 = p := ⟨_, rfl⟩
      obtain ⟨p5, hp5⟩ : ∃ p : Int, s + (k * 6 : Nat) + 5 = p := ⟨_, rfl⟩
      obtain ⟨p6, hp6⟩ : ∃ p : Int, s + (k * 6 : Nat) + 6 = p := ⟨_, rfl⟩
      have hx : markOfPacket s k = ⟨p0, p1, p2, p3, (p4.tmod 3 == 0), (p5.tmod 3 == 0)⟩ := by unfold markOfPacket; rw [hp5, hp4, hp3, hp2, hp1, hp0]
      rw [hx] at hA
      simp only at hA
      obtain ⟨s0, s1, s2, s3, s4, s5⟩ := hA
      have Hp := hide (show p6 = s + ((k + 1) * 6 : Nat) from by omega)
      have w0 : IntKind.i64.wrap (p0 + 1) = p1 := by rw [IntWalk.i64_in _ (by omega)]; omega
      have w1 : IntKind.i64.wrap (p1 + 1) = p2 := by rw [IntWalk.i64_in _ (by omega)]; omega
      have w2 : IntKind.i64.wrap (p2 + 1) = p3 := by rw [IntWalk.i64_in _ (by omega)]; omega
      have w3 : IntKind.i64.wrap (p3 + 1) = p4 := by rw [IntWalk.i64_in _ (by omega)]; omega
      have w4 : IntKind.i64.wrap (p4 + 1) = p5 := by rw [IntWalk.i64_in _ (by omega)]; omega
      have w5 : IntKind.i64.wrap (p5 + 1) = p6 := by rw [IntWalk.i64_in _ (by omega)]; omega
      rw [hp0]
      clear hx hp0 hp1 hp2 hp3 hp4 hp5 hp6
      go_wp2_with fail
      go_roundw
      case rel => exact ⟨k + 1, by omega, by rw [Hp.out], by go_num, by first | rfl | trivial⟩
      case measure => simp [intOf]; omega
    · have hkn : k = n := by omega
      subst hkn
      go_wp2_with fail
      go_ret
      exact ⟨rfl, rfl⟩

end Go.Proofs.Yticelpaicenbkaa
