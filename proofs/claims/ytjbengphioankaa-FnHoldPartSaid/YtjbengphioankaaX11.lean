/- BufferPut of the reference: contract, for a buffer that is valid. -/
import Derived.Test.YtjbengphioankaaX10
import Derived.Test.YtjbengphioankaaO2
namespace Go.Proofs.Ytjbengphioankaa
open Go.ChangeShapes Go.WideShapes Go.ChangeAt Go.RowKit Go.Deep

set_option maxRecDepth 10000 in
set_option maxHeartbeats 8000000 in
theorem specBufferPut (g n c : Nat) (nx dl now : Int) (zs : List VHeld) (x : VHeld) (w : World) (h : Own w 72 7 g n c (zs.map VHeld.cells).flatten) (hn : zs.length = n) (hB : bufB nx dl zs = true) (hp : pk7 x = true) (ht : 0 ≤ now ∧ now ≤ 99999) (hx6 : x.a6 = now) :
    Calls Try.prog 56 #[.agg #[.int .i64 nx, .int .i64 dl, .slice (some ⟨g, 0, none⟩) n c], .agg #[.int .i64 x.a0, .int .i64 x.a1, .int .i64 x.a2, .int .i64 x.a3, .bool x.a4, .bool x.a5], .int .i64 now] w (PutBuffer nx dl w) := by
  have Hh := hide h
  have lg := h.lt
  have hn10 : n ≤ 10 := by have := (of_decide_eq_true hB).2.1; omega
  have hrm := h.room.1
  have hcell : ∀ k, k < n → w.cell? ⟨g, k * 7, none⟩ = some (.int .i64 (zs.getD k default).a0) := by
    intro k hk
    obtain ⟨b, off, e, _, hc⟩ := HeldAt.at (ownHeld h hn) (by omega)
    cases e
    have := (hc k (by omega)).1
    rwa [Nat.zero_add] at this
  have Hcell := hide hcell
  have Hn := hide hn
  have HBB := hide hB
  have Hp := hide hp
  have D2 := hide (decide_eq_true ht)
  have KB := fun w h => specBufferValid (some ⟨g, 0, none⟩) c nx dl zs w h (by omega)
  rw [hn, hB] at KB
  have HKB := hide KB
  have KC := fun w h => l13Copy_any g n c nx dl zs w h hn (by omega)
  unfold NewBuffer at KC
  rw [hn] at KC
  have HKC := hide KC
  have HOK := hide (fun (h : nx ≤ x.a0) => (⟨hp, by rw [hx6]; exact ht, h⟩ : heldOK nx x))
  have hcs : ([.int .i64 x.a0, .int .i64 x.a1, .int .i64 x.a2, .int .i64 x.a3, .bool x.a4, .bool x.a5, .int .i64 now] : List Value) = x.cells := by rw [← hx6]; rfl
  have Hcs := hide hcs
  obtain ⟨S, hS⟩ : ∃ S, w.heap.size = S := ⟨_, rfl⟩
  clear h hn hcell hB hp ht KB KC hcs
  go_enter Try.func56, Try.ntmps56
  go_wp2_with fail
  have F : ∃ wx : World, wx = ((w.alloc (.cells #[.int .i64 nx, .int .i64 dl, .slice (some ⟨g, 0, none⟩) n c] 38)).alloc (.cells #[.int .i64 x.a0, .int .i64 x.a1, .int .i64 x.a2, .int .i64 x.a3, .bool x.a4, .bool x.a5] 70)).alloc (.cells #[.int .i64 0, .int .i64 0, .slice none 0 0] 38) := ⟨_, rfl⟩
  obtain ⟨wx, hwx⟩ := F
  have F2 : Row wx S #[.int .i64 nx, .int .i64 dl, .slice (some ⟨g, 0, none⟩) n c] ∧ Row wx (S + 1) #[.int .i64 x.a0, .int .i64 x.a1, .int .i64 x.a2, .int .i64 x.a3, .bool x.a4, .bool x.a5] ∧ Row wx (S + 1 + 1) #[.int .i64 0, .int .i64 0, .slice none 0 0] ∧ Own wx 72 7 g n c (zs.map VHeld.cells).flatten ∧ Below w.heap.size w wx := by
    rw [hwx, ← hS]
    exact ⟨((Row.new _ _ _).alloc _).alloc _, (Row.new1 _ _ _ _).alloc _, Row.new2' _ _ _ _ _, ((Hh.out.alloc _).alloc _).alloc _, (((Below.refl _ w).alloc (Nat.le_refl _) _).alloc (by simp) _).alloc (by simp; omega) _⟩
  rw [← hwx]
  clear hwx Hh
  obtain ⟨⟨cX, fX, lX⟩, ⟨cY, fY, lY⟩, ⟨cZ, fZ, lZ⟩, ox, bx⟩ := F2
  refine (HKB.out _ (ownHeld ox Hn.out)).mono ?_
  rintro e w1 ⟨rfl, hb⟩
  have b1 := bx.trans (hb.mono bx.size)
  have o1 := ox.below hb
  have rX : Row w1 (S) _ := Row.below (by (repeat' (first | (with_reducible assumption) | (with_reducible exact Row.new _ _ _) | (with_reducible exact Row.new1 _ _ _ _) | (with_reducible exact Row.new2 _ _ _ _ _) | (with_reducible exact Row.new2' _ _ _ _ _) | ((with_reducible apply Row.mk) <;> (with_reducible assumption)) | (with_reducible apply Row.alloc) | (with_reducible apply Row.set) | (with_reducible apply Row.far) | (with_reducible apply Row.drew) | (with_reducible apply Row.drewN) | omega | (simp; done) | (simp; omega)))) hb
  have rY : Row w1 (S + 1) _ := Row.below (by (repeat' (first | (with_reducible assumption) | (with_reducible exact Row.new _ _ _) | (with_reducible exact Row.new1 _ _ _ _) | (with_reducible exact Row.new2 _ _ _ _ _) | (with_reducible exact Row.new2' _ _ _ _ _) | ((with_reducible apply Row.mk) <;> (with_reducible assumption)) | (with_reducible apply Row.alloc) | (with_reducible apply Row.set) | (with_reducible apply Row.far) | (with_reducible apply Row.drew) | (with_reducible apply Row.drewN) | omega | (simp; done) | (simp; omega)))) hb
  have rZ : Row w1 (S + 1 + 1) _ := Row.below (by (repeat' (first | (with_reducible assumption) | (with_reducible exact Row.new _ _ _) | (with_reducible exact Row.new1 _ _ _ _) | (with_reducible exact Row.new2 _ _ _ _ _) | (with_reducible exact Row.new2' _ _ _ _ _) | ((with_reducible apply Row.mk) <;> (with_reducible assumption)) | (with_reducible apply Row.alloc) | (with_reducible apply Row.set) | (with_reducible apply Row.far) | (with_reducible apply Row.drew) | (with_reducible apply Row.drewN) | omega | (simp; done) | (simp; omega)))) hb
  (try clear cX fX lX)
  (try clear cY fY lY)
  (try clear cZ fZ lZ)
  obtain ⟨cX, fX, lX⟩ := rX
  obtain ⟨cY, fY, lY⟩ := rY
  obtain ⟨cZ, fZ, lZ⟩ := rZ
  clear hb bx ox
  go_wp2_with fail
  refine (specPacketV x _).mono ?_
  rintro e w2 ⟨rfl, hb⟩
  have b2 := b1.trans (hb.mono b1.size)
  have o2 := o1.below hb
  have rX : Row w2 (S) _ := Row.below (by (repeat' (first | (with_reducible assumption) | (with_reducible exact Row.new _ _ _) | (with_reducible exact Row.new1 _ _ _ _) | (with_reducible exact Row.new2 _ _ _ _ _) | (with_reducible exact Row.new2' _ _ _ _ _) | ((with_reducible apply Row.mk) <;> (with_reducible assumption)) | (with_reducible apply Row.alloc) | (with_reducible apply Row.set) | (with_reducible apply Row.far) | (with_reducible apply Row.drew) | (with_reducible apply Row.drewN) | omega | (simp; done) | (simp; omega)))) hb
  have rY : Row w2 (S + 1) _ := Row.below (by (repeat' (first | (with_reducible assumption) | (with_reducible exact Row.new _ _ _) | (with_reducible exact Row.new1 _ _ _ _) | (with_reducible exact Row.new2 _ _ _ _ _) | (with_reducible exact Row.new2' _ _ _ _ _) | ((with_reducible apply Row.mk) <;> (with_reducible assumption)) | (with_reducible apply Row.alloc) | (with_reducible apply Row.set) | (with_reducible apply Row.far) | (with_reducible apply Row.drew) | (with_reducible apply Row.drewN) | omega | (simp; done) | (simp; omega)))) hb
  have rZ : Row w2 (S + 1 + 1) _ := Row.below (by (repeat' (first | (with_reducible assumption) | (with_reducible exact Row.new _ _ _) | (with_reducible exact Row.new1 _ _ _ _) | (with_reducible exact Row.new2 _ _ _ _ _) | (with_reducible exact Row.new2' _ _ _ _ _) | ((with_reducible apply Row.mk) <;> (with_reducible assumption)) | (with_reducible apply Row.alloc) | (with_reducible apply Row.set) | (with_reducible apply Row.far) | (with_reducible apply Row.drew) | (with_reducible apply Row.drewN) | omega | (simp; done) | (simp; omega)))) hb
  (try clear cX fX lX)
  (try clear cY fY lY)
  (try clear cZ fZ lZ)
  obtain ⟨cX, fX, lX⟩ := rX
  obtain ⟨cY, fY, lY⟩ := rY
  obtain ⟨cZ, fZ, lZ⟩ := rZ
  clear hb b1 o1
  rw [Hp.out]
  have O2 := hide o2
  have B2 := hide b2
  clear o2 b2
  go_wp2_with (go_at_call 34; refine (l6In_e _ _ _ _).mono ?_; rintro e w' ⟨rfl, rfl⟩; rw [D2.out])
  refine (HKC.out _ O2.out).mono ?_
  rintro e w4 ⟨gc, cc, rfl, hgc, oc, hb⟩
  have s2 := B2.out.size
  have B4 := hide (B2.out.trans (hb.mono s2))
  have O4 := hide (O2.out.below hb)
  have lgc : S + 1 + 1 < gc := by omega
  have rX : Row w4 (S) _ := Row.below (by (repeat' (first | (with_reducible assumption) | (with_reducible exact Row.new _ _ _) | (with_reducible exact Row.new1 _ _ _ _) | (with_reducible exact Row.new2 _ _ _ _ _) | (with_reducible exact Row.new2' _ _ _ _ _) | ((with_reducible apply Row.mk) <;> (with_reducible assumption)) | (with_reducible apply Row.alloc) | (with_reducible apply Row.set) | (with_reducible apply Row.far) | (with_reducible apply Row.drew) | (with_reducible apply Row.drewN) | omega | (simp; done) | (simp; omega)))) hb
  have rY : Row w4 (S + 1) _ := Row.below (by (repeat' (first | (with_reducible assumption) | (with_reducible exact Row.new _ _ _) | (with_reducible exact Row.new1 _ _ _ _) | (with_reducible exact Row.new2 _ _ _ _ _) | (with_reducible exact Row.new2' _ _ _ _ _) | ((with_reducible apply Row.mk) <;> (with_reducible assumption)) | (with_reducible apply Row.alloc) | (with_reducible apply Row.set) | (with_reducible apply Row.far) | (with_reducible apply Row.drew) | (with_reducible apply Row.drewN) | omega | (simp; done) | (simp; omega)))) hb
  have rZ : Row w4 (S + 1 + 1) _ := Row.below (by (repeat' (first | (with_reducible assumption) | (with_reducible exact Row.new _ _ _) | (with_reducible exact Row.new1 _ _ _ _) | (with_reducible exact Row.new2 _ _ _ _ _) | (with_reducible exact Row.new2' _ _ _ _ _) | ((with_reducible apply Row.mk) <;> (with_reducible assumption)) | (with_reducible apply Row.alloc) | (with_reducible apply Row.set) | (with_reducible apply Row.far) | (with_reducible apply Row.drew) | (with_reducible apply Row.drewN) | omega | (simp; done) | (simp; omega)))) hb
  (try clear cX fX lX)
  (try clear cY fY lY)
  (try clear cZ fZ lZ)
  obtain ⟨cX, fX, lX⟩ := rX
  obtain ⟨cY, fY, lY⟩ := rY
  obtain ⟨cZ, fZ, lZ⟩ := rZ
  have Oc := hide oc
  have lc4 := oc.lt
  clear hb oc O2 B2
  have s4 := B4.out.size
  have AL := (.cells #[.int .i64 nx, .int .i64 dl, .slice (some ⟨gc, 0, none⟩) n cc] 38 : Obj)
  have RX := hide (Row.mk cX fX lX)
  have RY := hide (Row.mk cY fY lY)
  have RZ := hide (Row.mk cZ fZ lZ)
  have hVS : S + 1 + 1 < w4.heap.size := lZ
  clear AL
  go_upto_region 4 with (fail)
  refine rebase (fun wx => Row wx S #[.int .i64 nx, .int .i64 dl, .slice (some ⟨g, 0, none⟩) n c] ∧ Row wx (S + 1) #[.int .i64 x.a0, .int .i64 x.a1, .int .i64 x.a2, .int .i64 x.a3, .bool x.a4, .bool x.a5] ∧ Row wx (S + 1 + 1) #[.int .i64 0, .int .i64 0, .slice none 0 0] ∧ Row wx w4.heap.size #[.int .i64 nx, .int .i64 dl, .slice (some ⟨gc, 0, none⟩) n cc] ∧ Own wx 72 7 g n c (zs.map VHeld.cells).flatten ∧ Own wx 72 7 gc n cc (zs.map VHeld.cells).flatten ∧ Below w.heap.size w wx) ⟨RX.out.alloc _, RY.out.alloc _, RZ.out.alloc _, Row.new _ _ _, O4.out.alloc _, Oc.out.alloc _, B4.out.alloc s4 _⟩ ?_
  rintro w5 ⟨⟨cX5, fX5, lX5⟩, ⟨cY5, fY5, lY5⟩, ⟨cZ5, fZ5, lZ5⟩, ⟨cV, fV, lV⟩, o5, oc5, b5⟩
  clear cX fX lX cY fY lY cZ fZ lZ RX RY RZ
  obtain ⟨V, hV⟩ : ∃ V, w4.heap.size = V := ⟨_, rfl⟩
  rw [hV] at lc4 hVS s4 cV fV lV ⊢
  have nZV : ¬ S + 1 + 1 = V := by omega
  have nVZ : ¬ V = S + 1 + 1 := by omega
  have nYV : ¬ S + 1 = V := by omega
  have nXV : ¬ S = V := by omega
  have O5 := hide o5
  have Oc5 := hide oc5
  have B5 := hide b5
  have Hc5 := hide (fun k (hk : k < n) => (b5.cell (p := ⟨g, k * 7, none⟩) lg).trans (Hcell.out k hk))
  clear o5 oc5 b5 O4 Oc B4 hV
  by_cases hlate : x.a0 < nx
  · go_wp2_with fail
    refine bodyPost_ret (by first | (simp (maxDischargeDepth := 3) [results, Try.results56, go_sem, *]; done) | (simp (maxDischargeDepth := 3) [results, Try.results56, go_sem, *]; rfl) | (simp (maxDischargeDepth := 7) [results, Try.results56, go_sem, *]; done) | (simp (maxDischargeDepth := 7) [results, Try.results56, go_sem, *]; rfl)) rfl ?_
    exact ⟨gc, cc, zs, 1, by rw [Hn.out], HBB.out, by omega, by rw [Hn.out]; exact (((Oc5.out.far (by show gc ≠ S + 1 + 1; omega) _).far (by show gc ≠ S + 1 + 1; omega) _).far (by show gc ≠ S + 1 + 1; omega) _), ((B5.out.setCell (by show w.heap.size ≤ S + 1 + 1; omega) _).setCell (by show w.heap.size ≤ S + 1 + 1; omega) _).setCell (by show w.heap.size ≤ S + 1 + 1; omega) _⟩
  have HOKx := hide (HOK.out (by omega))
  go_wp2_with fail
  go_loopw [9] (fun i wr => ∃ k d : Nat, k ≤ n ∧ i = .int .i64 k ∧ (∀ j, j < k → (zs.getD j default).a0 < x.a0) ∧ wr = w5.drewN d) (fun i _ => n - (intOf i).toNat)
  case atStart => exact ⟨0, 0, by omega, rfl, (fun j hj => by omega), rfl⟩
  case round =>
    obtain ⟨k, d, hk, rfl, hlo, rfl⟩ := hrel
    have Hlo := hide hlo
    clear hlo
    by_cases hk' : k < n
    · have hz := Hc5.out k hk'
      obtain ⟨y, hy⟩ : ∃ y, (zs.getD k default).a0 = y := ⟨_, rfl⟩
      rw [hy] at hz
      have Hy := hide hy
      have g2 : (k : Int) < (n : Int) := by omega
      have e0 : decide ((k : Int) < (n : Int)) = true := decide_eq_true g2
      have e1 : decide (k < n) = true := decide_eq_true hk'
      clear hy
      by_cases hyx : y < x.a0
      · have e2 : decide (y < x.a0) = true := decide_eq_true hyx
        go_wp2_with fail
        go_quiet (fail)
        clear e0 e1 e2
        go_wp2_with fail
        go_roundw
        case rel =>
          refine ⟨k + 1, d + nq, by omega, by go_num, ?_, by first | rfl | simp⟩
          intro j hj
          rcases Nat.lt_succ_iff_lt_or_eq.1 hj with hj | rfl
          · exact Hlo.out j hj
          · rw [Hy.out]; exact hyx
        case measure => simp [intOf]; omega
      · have e2 : decide (y < x.a0) = false := decide_eq_false hyx
        by_cases hyx2 : y = x.a0
        · have e3 : (y == x.a0) = true := by simpa using hyx2
          clear hyx2 hyx
          go_wp2_with fail
          go_quiet (fail)
          clear e2
          go_wp2_with fail
          go_quiet (fail)
          clear e0 e1 e3
          go_wp2_with fail
          refine bodyPost_ret (by first | (simp (maxDischargeDepth := 3) [results, Try.results56, go_sem, *]; done) | (simp (maxDischargeDepth := 3) [results, Try.results56, go_sem, *]; rfl) | (simp (maxDischargeDepth := 7) [results, Try.results56, go_sem, *]; done) | (simp (maxDischargeDepth := 7) [results, Try.results56, go_sem, *]; rfl)) rfl ?_
          exact ⟨gc, cc, zs, 2, by rw [Hn.out], HBB.out, by omega, by rw [Hn.out]; exact ((((Oc5.out.drewN _).far (by show gc ≠ S + 1 + 1; omega) _).far (by show gc ≠ S + 1 + 1; omega) _).far (by show gc ≠ S + 1 + 1; omega) _), ((((below_drewN' B5.out _).setCell (by show w.heap.size ≤ S + 1 + 1; omega) _).setCell (by show w.heap.size ≤ S + 1 + 1; omega) _).setCell (by show w.heap.size ≤ S + 1 + 1; omega) _)⟩
        · have e3 : (y == x.a0) = false := by simpa using hyx2
          have hhi : Hid (k < zs.length → x.a0 < (zs.getD k default).a0) := fun _ => by rw [Hy.out]; omega
          clear hyx2 hyx
          go_wp2_with fail
          go_quiet (fail)
          clear e2
          go_wp2_with fail
          go_quiet (fail)
          clear e0 e1 e3
          by_cases h10 : n = 10
          · have e10 : ((n : Int) == 10) = true := by simp [h10]
            clear h10
            go_wp2_with fail
            refine bodyPost_ret (by first | (simp (maxDischargeDepth := 3) [results, Try.results56, go_sem, *]; done) | (simp (maxDischargeDepth := 3) [results, Try.results56, go_sem, *]; rfl) | (simp (maxDischargeDepth := 7) [results, Try.results56, go_sem, *]; done) | (simp (maxDischargeDepth := 7) [results, Try.results56, go_sem, *]; rfl)) rfl ?_
            exact ⟨gc, cc, zs, 3, by rw [Hn.out], HBB.out, by omega, by rw [Hn.out]; exact ((((Oc5.out.drewN _).far (by show gc ≠ S + 1 + 1; omega) _).far (by show gc ≠ S + 1 + 1; omega) _).far (by show gc ≠ S + 1 + 1; omega) _), ((((below_drewN' B5.out _).setCell (by show w.heap.size ≤ S + 1 + 1; omega) _).setCell (by show w.heap.size ≤ S + 1 + 1; omega) _).setCell (by show w.heap.size ≤ S + 1 + 1; omega) _)⟩
          have e10 : ((n : Int) == 10) = false := by simp only [beq_eq_false_iff_ne, ne_eq]; omega
          go_wp2_with fail
          refine rebase (fun wx => Row wx S #[.int .i64 nx, .int .i64 dl, .slice (some ⟨g, 0, none⟩) n c] ∧ Row wx (S + 1) #[.int .i64 x.a0, .int .i64 x.a1, .int .i64 x.a2, .int .i64 x.a3, .bool x.a4, .bool x.a5] ∧ Row wx (S + 1 + 1) #[.int .i64 0, .int .i64 0, .slice none 0 0] ∧ Row wx V #[.int .i64 nx, .int .i64 dl, .slice (some ⟨gc, 0, none⟩) n cc] ∧ Own wx 72 7 g n c (zs.map VHeld.cells).flatten ∧ Below w.heap.size w wx) ⟨Row.mk cX5 fX5 lX5, Row.mk cY5 fY5 lY5, Row.mk cZ5 fZ5 lZ5, Row.mk cV fV lV, O5.out, below_drewN' B5.out _⟩ ?_
          rintro w6 ⟨⟨cX, fX, lX⟩, ⟨cY, fY, lY⟩, ⟨cZ, fZ, lZ⟩, ⟨cV6, fV6, lV6⟩, o6, b6⟩
          clear cX5 fX5 lX5 cY5 fY5 lY5 cZ5 fZ5 lZ5 cV fV lV O5 B5 Oc5 Hc5 Hcell HKB HKC HOK
          have O6 := hide o6
          have B6 := hide b6
          have s6 := b6.size
          have KS : ∀ w' : World, Below w6.heap.size w6 w' → (w'.cell? ⟨S, 2, none⟩ = some (.slice (some ⟨g, 0, none⟩) n c) ∧ w'.cell? ⟨S + 1, 0, none⟩ = some (.int .i64 x.a0) ∧ w'.cell? ⟨S + 1, 1, none⟩ = some (.int .i64 x.a1) ∧ w'.cell? ⟨S + 1, 2, none⟩ = some (.int .i64 x.a2) ∧ w'.cell? ⟨S + 1, 3, none⟩ = some (.int .i64 x.a3) ∧ w'.cell? ⟨S + 1, 4, none⟩ = some (.bool x.a4) ∧ w'.cell? ⟨S + 1, 5, none⟩ = some (.bool x.a5)) := fun w' hb => ⟨(hb.cell (p := ⟨S, 2, none⟩) lX).trans (cX 2), (hb.cell (p := ⟨S + 1, 0, none⟩) lY).trans (cY 0), (hb.cell (p := ⟨S + 1, 1, none⟩) lY).trans (cY 1), (hb.cell (p := ⟨S + 1, 2, none⟩) lY).trans (cY 2), (hb.cell (p := ⟨S + 1, 3, none⟩) lY).trans (cY 3), (hb.cell (p := ⟨S + 1, 4, none⟩) lY).trans (cY 4), (hb.cell (p := ⟨S + 1, 5, none⟩) lY).trans (cY 5)⟩
          have Hsrc := hide (heldSrc0 o6 k)
          have Htk := hide (show ((zs.take k).map VHeld.cells).flatten.length = k * 7 by rw [held_len, List.length_take, Hn.out]; congr 1; omega)
          have f1 : (k : Int) ≤ (c : Int) := by omega
          have f2 : k ≤ c := by omega
          clear o6 b6
          go_cut [10] (fun s wx => ∃ g10 c10, s = .slice (some ⟨g10, 0, none⟩) (k + 1) c10 ∧ Own wx 72 7 g10 (k + 1) c10 (((zs.take k).map VHeld.cells).flatten ++ x.cells) ∧ w6.heap.size ≤ g10 ∧ Below w6.heap.size w6 wx)
          case first =>
            refine wp_region_held_drew (S := fun w' => w'.cell? ⟨S, 2, none⟩ = some (.slice (some ⟨g, 0, none⟩) n c) ∧ w'.cell? ⟨S + 1, 0, none⟩ = some (.int .i64 x.a0) ∧ w'.cell? ⟨S + 1, 1, none⟩ = some (.int .i64 x.a1) ∧ w'.cell? ⟨S + 1, 2, none⟩ = some (.int .i64 x.a2) ∧ w'.cell? ⟨S + 1, 3, none⟩ = some (.int .i64 x.a3) ∧ w'.cell? ⟨S + 1, 4, none⟩ = some (.bool x.a4) ∧ w'.cell? ⟨S + 1, 5, none⟩ = some (.bool x.a5)) (by kernel_rfl) (by exact KS _ (Below.drew (Below.refl _ w6))) (fun hHeld => ?_)
            refine wpAnyH_take (i := 1) (oi := ⟨some 76, _, _, _, _, _⟩) (v := ?vr101) rfl (by kernel_rfl) (by kernel_rfl) (by kernel_rfl) (fun _ _ _ h => h) (Or.inl ⟨by rfl, ?yr101⟩) (by assumption) ?_
            case yr101 => (intro w hSw; (try dsimp only at hSw); go_simp; (try with_reducible rfl))
            (try simp only [Act.put, List.setIfInBounds_toArray, List.set_cons_zero, List.set_cons_succ])
            refine wpAnyH_take (i := 2) (oi := ⟨some 77, _, _, _, _, _⟩) (v := ?vr102) rfl (by kernel_rfl) (by kernel_rfl) (by kernel_rfl) (fun _ _ _ h => h) (Or.inl ⟨by rfl, ?yr102⟩) (by assumption) ?_
            case yr102 => (intro w hSw; (try dsimp only at hSw); go_simp; (try with_reducible rfl))
            (try simp only [Act.put, List.setIfInBounds_toArray, List.set_cons_zero, List.set_cons_succ])
            refine wpAnyH_take (i := 3) (oi := ⟨some 78, _, _, _, _, _⟩) (v := ?vr103) rfl (by kernel_rfl) (by kernel_rfl) (by kernel_rfl) (fun _ _ _ h => h) (Or.inl ⟨by rfl, ?yr103⟩) (by assumption) ?_
            case yr103 => (intro w hSw; (try dsimp only at hSw); go_simp; (try with_reducible rfl))
            (try simp only [Act.put, List.setIfInBounds_toArray, List.set_cons_zero, List.set_cons_succ])
            refine wpAnyH_take (i := 4) (oi := ⟨some 79, _, _, _, _, _⟩) (v := ?vr104) rfl (by kernel_rfl) (by kernel_rfl) (by kernel_rfl) (fun _ _ _ h => h) (Or.inl ⟨by rfl, ?yr104⟩) (by assumption) ?_
            case yr104 => (intro w hSw; (try dsimp only at hSw); go_simp; (try with_reducible rfl))
            (try simp only [Act.put, List.setIfInBounds_toArray, List.set_cons_zero, List.set_cons_succ])
            refine wpAnyH_take (i := 6) (oi := ⟨some 81, _, _, _, _, _⟩) (v := ?vr106) rfl (by kernel_rfl) (by kernel_rfl) (by kernel_rfl) (fun _ _ _ h => h) (Or.inl ⟨by rfl, ?yr106⟩) (by assumption) ?_
            case yr106 => (intro w hSw; (try dsimp only at hSw); go_simp; (try with_reducible rfl))
            (try simp only [Act.put, List.setIfInBounds_toArray, List.set_cons_zero, List.set_cons_succ])
            refine wpAnyH_take (i := 7) (oi := ⟨some 82, _, _, _, _, _⟩) (v := ?vr107) rfl (by kernel_rfl) (by kernel_rfl) (by kernel_rfl) (fun _ _ _ h => h) (Or.inl ⟨by rfl, ?yr107⟩) (by assumption) ?_
            case yr107 => (intro w hSw; (try dsimp only at hSw); go_simp; (try with_reducible rfl))
            (try simp only [Act.put, List.setIfInBounds_toArray, List.set_cons_zero, List.set_cons_succ])
            refine wpAnyH_take (i := 8) (oi := ⟨some 83, _, _, _, _, _⟩) (v := ?vr108) rfl (by kernel_rfl) (by kernel_rfl) (by kernel_rfl) (fun _ _ _ h => h) (Or.inl ⟨by rfl, ?yr108⟩) (by assumption) ?_
            case yr108 => (intro w hSw; (try dsimp only at hSw); go_simp; (try with_reducible rfl))
            (try simp only [Act.put, List.setIfInBounds_toArray, List.set_cons_zero, List.set_cons_succ])
            refine wpAnyH_ready (rs := [0, 9]) (by kernel_rfl) (by simp) ?_
            refine AllReadyH.cons (o := ⟨some 75, _, _, _, _, _⟩) rfl (fun K hK => ?_) (AllReadyH.cons (o := ⟨some 84, _, _, _, _, _⟩) rfl (fun K hK => ?_) AllReadyH.nil)
            · go_simp
              refine hK.out _ _ (by exact KS _ ((Below.drew ((Below.refl _ w6).alloc (Nat.le_refl _) _)))) (fun hHeld => ?_)
              clear hK K
              (try simp only [Act.put, List.setIfInBounds_toArray, List.set_cons_zero, List.set_cons_succ])
              refine wpAnyH_ready (rs := [5, 9]) (by kernel_rfl) (by simp) ?_
              refine AllReadyH.cons (o := ⟨some 80, _, _, _, _, _⟩) rfl (fun K hK => ?_) (AllReadyH.cons (o := ⟨some 84, _, _, _, _, _⟩) rfl (fun K hK => ?_) AllReadyH.nil)
              · refine step_append_k (by rfl) (.tmp 75) (.tmp 79) 36 rfl elemH (xs := []) (ad := ⟨g, 0, none⟩) (m := k) (c := c) (g := w6.heap.size) (n := 0) (cap := 0) (by simp [Act.eval]) (Own.new w6 #[] 72 7 0 (by unfold maxLen; omega) rfl) (by simp [Act.eval]) ((zs.take k).map VHeld.cells).flatten Htk.out (cells_alloc Hsrc.out) held_one (by omega) ?_
                intro g9 cp9 w9 o9 hg9 hat9
                have B9 := fst_belowD (wr := w6) hg9
                have S9 := fst_atD (wr := w6) hat9
                have O9 := (o9.convn (n' := k) (Nat.zero_add k)).conv (List.nil_append _)
                rw [Nat.zero_add]
                refine hK.out _ _ (by exact KS _ (B9)) (fun hHeld => ?_)
                clear hK K
                (try simp only [Act.put, List.setIfInBounds_toArray, List.set_cons_zero, List.set_cons_succ])
                refine wpAnyH_ready (rs := [9]) (by kernel_rfl) (by simp) ?_
                refine AllReadyH.cons (o := ⟨some 84, _, _, _, _, _⟩) rfl (fun K hK => ?_) AllReadyH.nil
                go_simp
                refine hK.out _ _ (by exact KS _ (B9.alloc B9.size _)) (fun hHeld => ?_)
                clear hK K
                (try simp only [Act.put, List.setIfInBounds_toArray, List.set_cons_zero, List.set_cons_succ])
                refine wpAnyH_ready (rs := [10]) (by kernel_rfl) (by simp) ?_
                refine AllReadyH.cons (o := ⟨some 85, _, _, _, _, _⟩) rfl (fun K hK => ?_) AllReadyH.nil
                refine step_append_k (by rfl) (.tmp 80) (.tmp 84) 36 rfl elemH (xs := ((zs.take k).map VHeld.cells).flatten) (ad := ⟨w9.heap.size, 0, none⟩) (m := 1) (c := 1) (g := g9) (n := k) (cap := cp9) (by simp [Act.eval]) (O9.alloc _) (by simp [Act.eval]) [.int .i64 x.a0, .int .i64 x.a1, .int .i64 x.a2, .int .i64 x.a3, .bool x.a4, .bool x.a5, .int .i64 now] (by rfl) ((fun j u hu => by have h0 := row_cells w9 #[.int .i64 x.a0, .int .i64 x.a1, .int .i64 x.a2, .int .i64 x.a3, .bool x.a4, .bool x.a5, .int .i64 now] 72 j; rw [addr_add, Nat.zero_add]; rw [h0]; simpa using hu)) (fun u hu => by simp at hu; rcases hu with rfl | rfl | rfl | rfl | rfl | rfl | rfl <;> rfl) (by omega) ?_
                intro g10 cp10 w10 o10 hg10 hat10
                have B10 : Below w6.heap.size w6 w10 := snd_below (B9.alloc B9.size _) S9 hg10
                have S10 : w6.heap.size ≤ g10 := snd_at (B9.alloc B9.size _) S9 hat10
                refine hK.out _ _ (by exact KS _ (B10)) (fun hHeld => ?_)
                clear hK K
                (try simp only [Act.put, List.setIfInBounds_toArray, List.set_cons_zero, List.set_cons_succ])
                refine wpAnyH_take (i := 11) (oi := ⟨some 10, _, _, _, _, _⟩) (v := ?vz10) rfl (by kernel_rfl) (by kernel_rfl) (by kernel_rfl) (fun _ _ _ h => h) (Or.inl ⟨by rfl, ?yz10⟩) (by assumption) ?_
                case yz10 => (intro w hSw; (try dsimp only at hSw); go_simp; (try with_reducible rfl))
                (try simp only [Act.put, List.setIfInBounds_toArray, List.set_cons_zero, List.set_cons_succ])
                refine wpAnyH_done (by kernel_rfl) ?_ _
                clear KS
                first | go_meet | (go_wp2_with fail; go_meet)
                exact ⟨g10, cp10, rfl, o10.conv (by rw [← Hcs.out]), by omega, B10⟩
              · go_simp
                refine hK.out _ _ (by exact KS _ ((Below.drew (((Below.refl _ w6).alloc (Nat.le_refl _) _).alloc (by simp) _)))) (fun hHeld => ?_)
                clear hK K
                (try simp only [Act.put, List.setIfInBounds_toArray, List.set_cons_zero, List.set_cons_succ])
                refine wpAnyH_ready (rs := [5]) (by kernel_rfl) (by simp) ?_
                refine AllReadyH.cons (o := ⟨some 80, _, _, _, _, _⟩) rfl (fun K hK => ?_) AllReadyH.nil
                refine step_append_k (by rfl) (.tmp 75) (.tmp 79) 36 rfl elemH (xs := []) (ad := ⟨g, 0, none⟩) (m := k) (c := c) (g := w6.heap.size) (n := 0) (cap := 0) (by simp [Act.eval]) ((Own.new w6 #[] 72 7 0 (by unfold maxLen; omega) rfl).alloc _) (by simp [Act.eval]) ((zs.take k).map VHeld.cells).flatten Htk.out (cells_below (w := w6) (Below.drew (((Below.refl _ w6).alloc (Nat.le_refl _) _).alloc (by simp) _)) Hsrc.out) held_one (by omega) ?_
                intro g9 cp9 w9 o9 hg9 hat9
                have B9 : Below w6.heap.size w6 w9 := (((Below.refl _ w6).alloc (Nat.le_refl _) _).alloc (by simp) _).grown (grown_trans (grown_drew (World.grownBy.refl _ _)) hg9) (by simp; omega) (by intro q hq; simp at hq; omega)
                have S9 : w6.heap.size ≤ g9 := (by simp at hat9; omega)
                have rE : Row w9 (w6.heap.size + 1) #[.int .i64 x.a0, .int .i64 x.a1, .int .i64 x.a2, .int .i64 x.a3, .bool x.a4, .bool x.a5, .int .i64 now] := Row.grown (Row.drew (Row.new1 w6 _ #[.int .i64 x.a0, .int .i64 x.a1, .int .i64 x.a2, .int .i64 x.a3, .bool x.a4, .bool x.a5, .int .i64 now] 72)) hg9 (by omega)
                have O9 := (o9.convn (n' := k) (Nat.zero_add k)).conv (List.nil_append _)
                rw [Nat.zero_add]
                refine hK.out _ _ (by exact KS _ (B9)) (fun hHeld => ?_)
                clear hK K
                (try simp only [Act.put, List.setIfInBounds_toArray, List.set_cons_zero, List.set_cons_succ])
                refine wpAnyH_ready (rs := [10]) (by kernel_rfl) (by simp) ?_
                refine AllReadyH.cons (o := ⟨some 85, _, _, _, _, _⟩) rfl (fun K hK => ?_) AllReadyH.nil
                refine step_append_k (by rfl) (.tmp 80) (.tmp 84) 36 rfl elemH (xs := ((zs.take k).map VHeld.cells).flatten) (ad := ⟨w6.heap.size + 1, 0, none⟩) (m := 1) (c := 1) (g := g9) (n := k) (cap := cp9) (by simp [Act.eval]) (O9) (by simp [Act.eval]) [.int .i64 x.a0, .int .i64 x.a1, .int .i64 x.a2, .int .i64 x.a3, .bool x.a4, .bool x.a5, .int .i64 now] (by rfl) (fun j u hu => by rw [addr_add, Nat.zero_add, rE.1 j]; simpa using hu) (fun u hu => by simp at hu; rcases hu with rfl | rfl | rfl | rfl | rfl | rfl | rfl <;> rfl) (by omega) ?_
                intro g10 cp10 w10 o10 hg10 hat10
                have B10 : Below w6.heap.size w6 w10 := snd_below B9 S9 hg10
                have S10 : w6.heap.size ≤ g10 := snd_at B9 S9 hat10
                refine hK.out _ _ (by exact KS _ (B10)) (fun hHeld => ?_)
                clear hK K
                (try simp only [Act.put, List.setIfInBounds_toArray, List.set_cons_zero, List.set_cons_succ])
                refine wpAnyH_take (i := 11) (oi := ⟨some 10, _, _, _, _, _⟩) (v := ?vzb10) rfl (by kernel_rfl) (by kernel_rfl) (by kernel_rfl) (fun _ _ _ h => h) (Or.inl ⟨by rfl, ?yzb10⟩) (by assumption) ?_
                case yzb10 => (intro w hSw; (try dsimp only at hSw); go_simp; (try with_reducible rfl))
                (try simp only [Act.put, List.setIfInBounds_toArray, List.set_cons_zero, List.set_cons_succ])
                refine wpAnyH_done (by kernel_rfl) ?_ _
                clear KS
                first | go_meet | (go_wp2_with fail; go_meet)
                exact ⟨g10, cp10, rfl, o10.conv (by rw [← Hcs.out]), by omega, B10⟩
            · go_simp
              refine hK.out _ _ (by exact KS _ ((Below.drew ((Below.refl _ w6).alloc (Nat.le_refl _) _)))) (fun hHeld => ?_)
              clear hK K
              (try simp only [Act.put, List.setIfInBounds_toArray, List.set_cons_zero, List.set_cons_succ])
              refine wpAnyH_ready (rs := [0]) (by kernel_rfl) (by simp) ?_
              refine AllReadyH.cons (o := ⟨some 75, _, _, _, _, _⟩) rfl (fun K hK => ?_) AllReadyH.nil
              go_simp
              refine hK.out _ _ (by exact KS _ ((Below.drew (((Below.refl _ w6).alloc (Nat.le_refl _) _).alloc (by simp) _)))) (fun hHeld => ?_)
              clear hK K
              (try simp only [Act.put, List.setIfInBounds_toArray, List.set_cons_zero, List.set_cons_succ])
              refine wpAnyH_ready (rs := [5]) (by kernel_rfl) (by simp) ?_
              refine AllReadyH.cons (o := ⟨some 80, _, _, _, _, _⟩) rfl (fun K hK => ?_) AllReadyH.nil
              refine step_append_k (by rfl) (.tmp 75) (.tmp 79) 36 rfl elemH (xs := []) (ad := ⟨g, 0, none⟩) (m := k) (c := c) (g := w6.heap.size + 1) (n := 0) (cap := 0) (by simp [Act.eval]) (Own.new1 w6 _ #[] 72 7 0 (by unfold maxLen; omega) rfl) (by simp [Act.eval]) ((zs.take k).map VHeld.cells).flatten Htk.out (cells_below (w := w6) (Below.drew (((Below.refl _ w6).alloc (Nat.le_refl _) _).alloc (by simp) _)) Hsrc.out) held_one (by omega) ?_
              intro g9 cp9 w9 o9 hg9 hat9
              have B9 : Below w6.heap.size w6 w9 := (((Below.refl _ w6).alloc (Nat.le_refl _) _).alloc (by simp) _).grown (grown_trans (grown_drew (World.grownBy.refl _ _)) hg9) (by simp; omega) (by intro q hq; simp at hq; omega)
              have S9 : w6.heap.size ≤ g9 := (by simp at hat9; omega)
              have rE : Row w9 w6.heap.size #[.int .i64 x.a0, .int .i64 x.a1, .int .i64 x.a2, .int .i64 x.a3, .bool x.a4, .bool x.a5, .int .i64 now] := Row.grown (Row.drew ((Row.new w6 #[.int .i64 x.a0, .int .i64 x.a1, .int .i64 x.a2, .int .i64 x.a3, .bool x.a4, .bool x.a5, .int .i64 now] 72).alloc _)) hg9 (by omega)
              have O9 := (o9.convn (n' := k) (Nat.zero_add k)).conv (List.nil_append _)
              rw [Nat.zero_add]
              refine hK.out _ _ (by exact KS _ (B9)) (fun hHeld => ?_)
              clear hK K
              (try simp only [Act.put, List.setIfInBounds_toArray, List.set_cons_zero, List.set_cons_succ])
              refine wpAnyH_ready (rs := [10]) (by kernel_rfl) (by simp) ?_
              refine AllReadyH.cons (o := ⟨some 85, _, _, _, _, _⟩) rfl (fun K hK => ?_) AllReadyH.nil
              refine step_append_k (by rfl) (.tmp 80) (.tmp 84) 36 rfl elemH (xs := ((zs.take k).map VHeld.cells).flatten) (ad := ⟨w6.heap.size, 0, none⟩) (m := 1) (c := 1) (g := g9) (n := k) (cap := cp9) (by simp [Act.eval]) (O9) (by simp [Act.eval]) [.int .i64 x.a0, .int .i64 x.a1, .int .i64 x.a2, .int .i64 x.a3, .bool x.a4, .bool x.a5, .int .i64 now] (by rfl) (fun j u hu => by rw [addr_add, Nat.zero_add, rE.1 j]; simpa using hu) (fun u hu => by simp at hu; rcases hu with rfl | rfl | rfl | rfl | rfl | rfl | rfl <;> rfl) (by omega) ?_
              intro g10 cp10 w10 o10 hg10 hat10
              have B10 : Below w6.heap.size w6 w10 := snd_below B9 S9 hg10
              have S10 : w6.heap.size ≤ g10 := snd_at B9 S9 hat10
              refine hK.out _ _ (by exact KS _ (B10)) (fun hHeld => ?_)
              clear hK K
              (try simp only [Act.put, List.setIfInBounds_toArray, List.set_cons_zero, List.set_cons_succ])
              refine wpAnyH_take (i := 11) (oi := ⟨some 10, _, _, _, _, _⟩) (v := ?vzc10) rfl (by kernel_rfl) (by kernel_rfl) (by kernel_rfl) (fun _ _ _ h => h) (Or.inl ⟨by rfl, ?yzc10⟩) (by assumption) ?_
              case yzc10 => (intro w hSw; (try dsimp only at hSw); go_simp; (try with_reducible rfl))
              (try simp only [Act.put, List.setIfInBounds_toArray, List.set_cons_zero, List.set_cons_succ])
              refine wpAnyH_done (by kernel_rfl) ?_ _
              clear KS
              first | go_meet | (go_wp2_with fail; go_meet)
              exact ⟨g10, cp10, rfl, o10.conv (by rw [← Hcs.out]), by omega, B10⟩
          case rest =>
            obtain ⟨g10, c10, rfl, o10, hg10, b10⟩ := hcut
            have Hdk := hide (show ((zs.drop k).map VHeld.cells).flatten.length = (n - k) * 7 by rw [held_len, List.length_drop, Hn.out])
            have Hsr1 := hide (cells_below b10 (heldSrc1 O6.out k))
            have Hln := hide (show (insA zs k x).length = n + 1 by rw [insA_len zs k x (by rw [Hn.out]; exact hk), Hn.out])
            have Hval := hide (bufB_ins HBB.out (by rw [Hn.out]; exact h10) (by rw [Hn.out]; exact hk) HOKx.out Hlo.out hhi.out)
            have rX := Row.below (Row.mk cX fX lX) b10
            have rZ := Row.below (Row.mk cZ fZ lZ) b10
            have rV := Row.below (Row.mk cV6 fV6 lV6) b10
            have O10 := hide o10
            clear KS o10 Hsrc Htk hhi
            have lZ6 : S + 1 + 1 < w6.heap.size := lZ
            have R6X := hide (Row.mk cX fX lX)
            have R6Z := hide (Row.mk cZ fZ lZ)
            have R6V := hide (Row.mk cV6 fV6 lV6)
            have lV66 : V < w6.heap.size := lV6
            clear cX fX lX cZ fZ lZ cV6 fV6 lV6 cY fY lY
            obtain ⟨cX, fX, lX⟩ := rX
            obtain ⟨cZ, fZ, lZ⟩ := rZ
            obtain ⟨cV6, fV6, lV6⟩ := rV
            have f3 : (k : Int) ≤ (n : Int) := by omega
            by_cases hc : c = k
            · exfalso; have hnc := hrm; omega
            · have hck : ¬ c - k = 0 := by omega
              go_wp2_with (first | (at_builtin; refine wpList_append_m rfl _ _ _ rfl elemH rfl O10.out ⟨g, k * 7, none⟩ (n - k) (c - k) rfl ((zs.drop k).map VHeld.cells).flatten Hdk.out (Hsr1.out) held_one (by omega) ?_; intro g11 c11 w11 o11 hg11 hat11; have O11 := hide ((o11.conv (insA_cells zs k x)).convn (n' := n + 1) (by omega)); have B11 := hide (b10.grown hg11 b10.size (by intro q hq; simp at hq; omega)); have S11 := hide (show w6.heap.size ≤ g11 by have := b10.size; omega); have rX := Row.below R6X.out B11.out; have rZ := Row.below R6Z.out B11.out; have rV := Row.below R6V.out B11.out; obtain ⟨cX, fX, lX⟩ := rX; obtain ⟨cZ, fZ, lZ⟩ := rZ; obtain ⟨cV6, fV6, lV6⟩ := rV; clear o11 hg11 hat11; (try rw [show k + 1 + (n - k) = n + 1 by omega])))
              have sB := S11.out
              have bb := B6.out.trans (B11.out.mono s6)
              refine bodyPost_ret (by first | (simp (maxDischargeDepth := 3) [results, Try.results56, go_sem, *]; done) | (simp (maxDischargeDepth := 3) [results, Try.results56, go_sem, *]; rfl) | (simp (maxDischargeDepth := 7) [results, Try.results56, go_sem, *]; done) | (simp (maxDischargeDepth := 7) [results, Try.results56, go_sem, *]; rfl)) rfl ?_
              exact ⟨g11, c11, insA zs k x, 0, by rw [Hln.out], Hval.out, by omega, by rw [Hln.out]; exact ((((O11.out.far (by show g11 ≠ V; omega) _).far (by show g11 ≠ S + 1 + 1; omega) _).far (by show g11 ≠ S + 1 + 1; omega) _).far (by show g11 ≠ S + 1 + 1; omega) _), (((bb.setCell (by show w.heap.size ≤ V; omega) _).setCell (by show w.heap.size ≤ S + 1 + 1; omega) _).setCell (by show w.heap.size ≤ S + 1 + 1; omega) _).setCell (by show w.heap.size ≤ S + 1 + 1; omega) _⟩
    · have e0 : decide ((k : Int) < (n : Int)) = false := decide_eq_false (by omega)
      have e1 : decide (k < n) = false := decide_eq_false hk'
      have hhi : Hid (k < zs.length → x.a0 < (zs.getD k default).a0) := fun h => by have := Hn.out; omega
      go_wp2_with fail
      go_quiet (fail)
      go_wp2_with fail
      go_quiet (fail)
      clear e0 e1
      by_cases h10 : n = 10
      · have e10 : ((n : Int) == 10) = true := by simp [h10]
        clear h10
        go_wp2_with fail
        refine bodyPost_ret (by first | (simp (maxDischargeDepth := 3) [results, Try.results56, go_sem, *]; done) | (simp (maxDischargeDepth := 3) [results, Try.results56, go_sem, *]; rfl) | (simp (maxDischargeDepth := 7) [results, Try.results56, go_sem, *]; done) | (simp (maxDischargeDepth := 7) [results, Try.results56, go_sem, *]; rfl)) rfl ?_
        exact ⟨gc, cc, zs, 3, by rw [Hn.out], HBB.out, by omega, by rw [Hn.out]; exact ((((Oc5.out.drewN _).far (by show gc ≠ S + 1 + 1; omega) _).far (by show gc ≠ S + 1 + 1; omega) _).far (by show gc ≠ S + 1 + 1; omega) _), ((((below_drewN' B5.out _).setCell (by show w.heap.size ≤ S + 1 + 1; omega) _).setCell (by show w.heap.size ≤ S + 1 + 1; omega) _).setCell (by show w.heap.size ≤ S + 1 + 1; omega) _)⟩
      have e10 : ((n : Int) == 10) = false := by simp only [beq_eq_false_iff_ne, ne_eq]; omega
      go_wp2_with fail
      refine rebase (fun wx => Row wx S #[.int .i64 nx, .int .i64 dl, .slice (some ⟨g, 0, none⟩) n c] ∧ Row wx (S + 1) #[.int .i64 x.a0, .int .i64 x.a1, .int .i64 x.a2, .int .i64 x.a3, .bool x.a4, .bool x.a5] ∧ Row wx (S + 1 + 1) #[.int .i64 0, .int .i64 0, .slice none 0 0] ∧ Row wx V #[.int .i64 nx, .int .i64 dl, .slice (some ⟨gc, 0, none⟩) n cc] ∧ Own wx 72 7 g n c (zs.map VHeld.cells).flatten ∧ Below w.heap.size w wx) ⟨Row.mk cX5 fX5 lX5, Row.mk cY5 fY5 lY5, Row.mk cZ5 fZ5 lZ5, Row.mk cV fV lV, O5.out, below_drewN' B5.out _⟩ ?_
      rintro w6 ⟨⟨cX, fX, lX⟩, ⟨cY, fY, lY⟩, ⟨cZ, fZ, lZ⟩, ⟨cV6, fV6, lV6⟩, o6, b6⟩
      clear cX5 fX5 lX5 cY5 fY5 lY5 cZ5 fZ5 lZ5 cV fV lV O5 B5 Oc5 Hc5 Hcell HKB HKC HOK
      have O6 := hide o6
      have B6 := hide b6
      have s6 := b6.size
      have KS : ∀ w' : World, Below w6.heap.size w6 w' → (w'.cell? ⟨S, 2, none⟩ = some (.slice (some ⟨g, 0, none⟩) n c) ∧ w'.cell? ⟨S + 1, 0, none⟩ = some (.int .i64 x.a0) ∧ w'.cell? ⟨S + 1, 1, none⟩ = some (.int .i64 x.a1) ∧ w'.cell? ⟨S + 1, 2, none⟩ = some (.int .i64 x.a2) ∧ w'.cell? ⟨S + 1, 3, none⟩ = some (.int .i64 x.a3) ∧ w'.cell? ⟨S + 1, 4, none⟩ = some (.bool x.a4) ∧ w'.cell? ⟨S + 1, 5, none⟩ = some (.bool x.a5)) := fun w' hb => ⟨(hb.cell (p := ⟨S, 2, none⟩) lX).trans (cX 2), (hb.cell (p := ⟨S + 1, 0, none⟩) lY).trans (cY 0), (hb.cell (p := ⟨S + 1, 1, none⟩) lY).trans (cY 1), (hb.cell (p := ⟨S + 1, 2, none⟩) lY).trans (cY 2), (hb.cell (p := ⟨S + 1, 3, none⟩) lY).trans (cY 3), (hb.cell (p := ⟨S + 1, 4, none⟩) lY).trans (cY 4), (hb.cell (p := ⟨S + 1, 5, none⟩) lY).trans (cY 5)⟩
      have Hsrc := hide (heldSrc0 o6 k)
      have Htk := hide (show ((zs.take k).map VHeld.cells).flatten.length = k * 7 by rw [held_len, List.length_take, Hn.out]; congr 1; omega)
      have f1 : (k : Int) ≤ (c : Int) := by omega
      have f2 : k ≤ c := by omega
      clear o6 b6
      go_cut [10] (fun s wx => ∃ g10 c10, s = .slice (some ⟨g10, 0, none⟩) (k + 1) c10 ∧ Own wx 72 7 g10 (k + 1) c10 (((zs.take k).map VHeld.cells).flatten ++ x.cells) ∧ w6.heap.size ≤ g10 ∧ Below w6.heap.size w6 wx)
      case first =>
        refine wp_region_held_drew (S := fun w' => w'.cell? ⟨S, 2, none⟩ = some (.slice (some ⟨g, 0, none⟩) n c) ∧ w'.cell? ⟨S + 1, 0, none⟩ = some (.int .i64 x.a0) ∧ w'.cell? ⟨S + 1, 1, none⟩ = some (.int .i64 x.a1) ∧ w'.cell? ⟨S + 1, 2, none⟩ = some (.int .i64 x.a2) ∧ w'.cell? ⟨S + 1, 3, none⟩ = some (.int .i64 x.a3) ∧ w'.cell? ⟨S + 1, 4, none⟩ = some (.bool x.a4) ∧ w'.cell? ⟨S + 1, 5, none⟩ = some (.bool x.a5)) (by kernel_rfl) (by exact KS _ (Below.drew (Below.refl _ w6))) (fun hHeld => ?_)
        refine wpAnyH_take (i := 1) (oi := ⟨some 76, _, _, _, _, _⟩) (v := ?vr61) rfl (by kernel_rfl) (by kernel_rfl) (by kernel_rfl) (fun _ _ _ h => h) (Or.inl ⟨by rfl, ?yr61⟩) (by assumption) ?_
        case yr61 => (intro w hSw; (try dsimp only at hSw); go_simp; (try with_reducible rfl))
        (try simp only [Act.put, List.setIfInBounds_toArray, List.set_cons_zero, List.set_cons_succ])
        refine wpAnyH_take (i := 2) (oi := ⟨some 77, _, _, _, _, _⟩) (v := ?vr62) rfl (by kernel_rfl) (by kernel_rfl) (by kernel_rfl) (fun _ _ _ h => h) (Or.inl ⟨by rfl, ?yr62⟩) (by assumption) ?_
        case yr62 => (intro w hSw; (try dsimp only at hSw); go_simp; (try with_reducible rfl))
        (try simp only [Act.put, List.setIfInBounds_toArray, List.set_cons_zero, List.set_cons_succ])
        refine wpAnyH_take (i := 3) (oi := ⟨some 78, _, _, _, _, _⟩) (v := ?vr63) rfl (by kernel_rfl) (by kernel_rfl) (by kernel_rfl) (fun _ _ _ h => h) (Or.inl ⟨by rfl, ?yr63⟩) (by assumption) ?_
        case yr63 => (intro w hSw; (try dsimp only at hSw); go_simp; (try with_reducible rfl))
        (try simp only [Act.put, List.setIfInBounds_toArray, List.set_cons_zero, List.set_cons_succ])
        refine wpAnyH_take (i := 4) (oi := ⟨some 79, _, _, _, _, _⟩) (v := ?vr64) rfl (by kernel_rfl) (by kernel_rfl) (by kernel_rfl) (fun _ _ _ h => h) (Or.inl ⟨by rfl, ?yr64⟩) (by assumption) ?_
        case yr64 => (intro w hSw; (try dsimp only at hSw); go_simp; (try with_reducible rfl))
        (try simp only [Act.put, List.setIfInBounds_toArray, List.set_cons_zero, List.set_cons_succ])
        refine wpAnyH_take (i := 6) (oi := ⟨some 81, _, _, _, _, _⟩) (v := ?vr66) rfl (by kernel_rfl) (by kernel_rfl) (by kernel_rfl) (fun _ _ _ h => h) (Or.inl ⟨by rfl, ?yr66⟩) (by assumption) ?_
        case yr66 => (intro w hSw; (try dsimp only at hSw); go_simp; (try with_reducible rfl))
        (try simp only [Act.put, List.setIfInBounds_toArray, List.set_cons_zero, List.set_cons_succ])
        refine wpAnyH_take (i := 7) (oi := ⟨some 82, _, _, _, _, _⟩) (v := ?vr67) rfl (by kernel_rfl) (by kernel_rfl) (by kernel_rfl) (fun _ _ _ h => h) (Or.inl ⟨by rfl, ?yr67⟩) (by assumption) ?_
        case yr67 => (intro w hSw; (try dsimp only at hSw); go_simp; (try with_reducible rfl))
        (try simp only [Act.put, List.setIfInBounds_toArray, List.set_cons_zero, List.set_cons_succ])
        refine wpAnyH_take (i := 8) (oi := ⟨some 83, _, _, _, _, _⟩) (v := ?vr68) rfl (by kernel_rfl) (by kernel_rfl) (by kernel_rfl) (fun _ _ _ h => h) (Or.inl ⟨by rfl, ?yr68⟩) (by assumption) ?_
        case yr68 => (intro w hSw; (try dsimp only at hSw); go_simp; (try with_reducible rfl))
        (try simp only [Act.put, List.setIfInBounds_toArray, List.set_cons_zero, List.set_cons_succ])
        refine wpAnyH_ready (rs := [0, 9]) (by kernel_rfl) (by simp) ?_
        refine AllReadyH.cons (o := ⟨some 75, _, _, _, _, _⟩) rfl (fun K hK => ?_) (AllReadyH.cons (o := ⟨some 84, _, _, _, _, _⟩) rfl (fun K hK => ?_) AllReadyH.nil)
        · go_simp
          refine hK.out _ _ (by exact KS _ ((Below.drew ((Below.refl _ w6).alloc (Nat.le_refl _) _)))) (fun hHeld => ?_)
          clear hK K
          (try simp only [Act.put, List.setIfInBounds_toArray, List.set_cons_zero, List.set_cons_succ])
          refine wpAnyH_ready (rs := [5, 9]) (by kernel_rfl) (by simp) ?_
          refine AllReadyH.cons (o := ⟨some 80, _, _, _, _, _⟩) rfl (fun K hK => ?_) (AllReadyH.cons (o := ⟨some 84, _, _, _, _, _⟩) rfl (fun K hK => ?_) AllReadyH.nil)
          · refine step_append_k (by rfl) (.tmp 75) (.tmp 79) 36 rfl elemH (xs := []) (ad := ⟨g, 0, none⟩) (m := k) (c := c) (g := w6.heap.size) (n := 0) (cap := 0) (by simp [Act.eval]) (Own.new w6 #[] 72 7 0 (by unfold maxLen; omega) rfl) (by simp [Act.eval]) ((zs.take k).map VHeld.cells).flatten Htk.out (cells_alloc Hsrc.out) held_one (by omega) ?_
            intro g9 cp9 w9 o9 hg9 hat9
            have B9 := fst_belowD (wr := w6) hg9
            have S9 := fst_atD (wr := w6) hat9
            have O9 := (o9.convn (n' := k) (Nat.zero_add k)).conv (List.nil_append _)
            rw [Nat.zero_add]
            refine hK.out _ _ (by exact KS _ (B9)) (fun hHeld => ?_)
            clear hK K
            (try simp only [Act.put, List.setIfInBounds_toArray, List.set_cons_zero, List.set_cons_succ])
            refine wpAnyH_ready (rs := [9]) (by kernel_rfl) (by simp) ?_
            refine AllReadyH.cons (o := ⟨some 84, _, _, _, _, _⟩) rfl (fun K hK => ?_) AllReadyH.nil
            go_simp
            refine hK.out _ _ (by exact KS _ (B9.alloc B9.size _)) (fun hHeld => ?_)
            clear hK K
            (try simp only [Act.put, List.setIfInBounds_toArray, List.set_cons_zero, List.set_cons_succ])
            refine wpAnyH_ready (rs := [10]) (by kernel_rfl) (by simp) ?_
            refine AllReadyH.cons (o := ⟨some 85, _, _, _, _, _⟩) rfl (fun K hK => ?_) AllReadyH.nil
            refine step_append_k (by rfl) (.tmp 80) (.tmp 84) 36 rfl elemH (xs := ((zs.take k).map VHeld.cells).flatten) (ad := ⟨w9.heap.size, 0, none⟩) (m := 1) (c := 1) (g := g9) (n := k) (cap := cp9) (by simp [Act.eval]) (O9.alloc _) (by simp [Act.eval]) [.int .i64 x.a0, .int .i64 x.a1, .int .i64 x.a2, .int .i64 x.a3, .bool x.a4, .bool x.a5, .int .i64 now] (by rfl) ((fun j u hu => by have h0 := row_cells w9 #[.int .i64 x.a0, .int .i64 x.a1, .int .i64 x.a2, .int .i64 x.a3, .bool x.a4, .bool x.a5, .int .i64 now] 72 j; rw [addr_add, Nat.zero_add]; rw [h0]; simpa using hu)) (fun u hu => by simp at hu; rcases hu with rfl | rfl | rfl | rfl | rfl | rfl | rfl <;> rfl) (by omega) ?_
            intro g10 cp10 w10 o10 hg10 hat10
            have B10 : Below w6.heap.size w6 w10 := snd_below (B9.alloc B9.size _) S9 hg10
            have S10 : w6.heap.size ≤ g10 := snd_at (B9.alloc B9.size _) S9 hat10
            refine hK.out _ _ (by exact KS _ (B10)) (fun hHeld => ?_)
            clear hK K
            (try simp only [Act.put, List.setIfInBounds_toArray, List.set_cons_zero, List.set_cons_succ])
            refine wpAnyH_take (i := 11) (oi := ⟨some 10, _, _, _, _, _⟩) (v := ?vz6) rfl (by kernel_rfl) (by kernel_rfl) (by kernel_rfl) (fun _ _ _ h => h) (Or.inl ⟨by rfl, ?yz6⟩) (by assumption) ?_
            case yz6 => (intro w hSw; (try dsimp only at hSw); go_simp; (try with_reducible rfl))
            (try simp only [Act.put, List.setIfInBounds_toArray, List.set_cons_zero, List.set_cons_succ])
            refine wpAnyH_done (by kernel_rfl) ?_ _
            clear KS
            first | go_meet | (go_wp2_with fail; go_meet)
            exact ⟨g10, cp10, rfl, o10.conv (by rw [← Hcs.out]), by omega, B10⟩
          · go_simp
            refine hK.out _ _ (by exact KS _ ((Below.drew (((Below.refl _ w6).alloc (Nat.le_refl _) _).alloc (by simp) _)))) (fun hHeld => ?_)
            clear hK K
            (try simp only [Act.put, List.setIfInBounds_toArray, List.set_cons_zero, List.set_cons_succ])
            refine wpAnyH_ready (rs := [5]) (by kernel_rfl) (by simp) ?_
            refine AllReadyH.cons (o := ⟨some 80, _, _, _, _, _⟩) rfl (fun K hK => ?_) AllReadyH.nil
            refine step_append_k (by rfl) (.tmp 75) (.tmp 79) 36 rfl elemH (xs := []) (ad := ⟨g, 0, none⟩) (m := k) (c := c) (g := w6.heap.size) (n := 0) (cap := 0) (by simp [Act.eval]) ((Own.new w6 #[] 72 7 0 (by unfold maxLen; omega) rfl).alloc _) (by simp [Act.eval]) ((zs.take k).map VHeld.cells).flatten Htk.out (cells_below (w := w6) (Below.drew (((Below.refl _ w6).alloc (Nat.le_refl _) _).alloc (by simp) _)) Hsrc.out) held_one (by omega) ?_
            intro g9 cp9 w9 o9 hg9 hat9
            have B9 : Below w6.heap.size w6 w9 := (((Below.refl _ w6).alloc (Nat.le_refl _) _).alloc (by simp) _).grown (grown_trans (grown_drew (World.grownBy.refl _ _)) hg9) (by simp; omega) (by intro q hq; simp at hq; omega)
            have S9 : w6.heap.size ≤ g9 := (by simp at hat9; omega)
            have rE : Row w9 (w6.heap.size + 1) #[.int .i64 x.a0, .int .i64 x.a1, .int .i64 x.a2, .int .i64 x.a3, .bool x.a4, .bool x.a5, .int .i64 now] := Row.grown (Row.drew (Row.new1 w6 _ #[.int .i64 x.a0, .int .i64 x.a1, .int .i64 x.a2, .int .i64 x.a3, .bool x.a4, .bool x.a5, .int .i64 now] 72)) hg9 (by omega)
            have O9 := (o9.convn (n' := k) (Nat.zero_add k)).conv (List.nil_append _)
            rw [Nat.zero_add]
            refine hK.out _ _ (by exact KS _ (B9)) (fun hHeld => ?_)
            clear hK K
            (try simp only [Act.put, List.setIfInBounds_toArray, List.set_cons_zero, List.set_cons_succ])
            refine wpAnyH_ready (rs := [10]) (by kernel_rfl) (by simp) ?_
            refine AllReadyH.cons (o := ⟨some 85, _, _, _, _, _⟩) rfl (fun K hK => ?_) AllReadyH.nil
            refine step_append_k (by rfl) (.tmp 80) (.tmp 84) 36 rfl elemH (xs := ((zs.take k).map VHeld.cells).flatten) (ad := ⟨w6.heap.size + 1, 0, none⟩) (m := 1) (c := 1) (g := g9) (n := k) (cap := cp9) (by simp [Act.eval]) (O9) (by simp [Act.eval]) [.int .i64 x.a0, .int .i64 x.a1, .int .i64 x.a2, .int .i64 x.a3, .bool x.a4, .bool x.a5, .int .i64 now] (by rfl) (fun j u hu => by rw [addr_add, Nat.zero_add, rE.1 j]; simpa using hu) (fun u hu => by simp at hu; rcases hu with rfl | rfl | rfl | rfl | rfl | rfl | rfl <;> rfl) (by omega) ?_
            intro g10 cp10 w10 o10 hg10 hat10
            have B10 : Below w6.heap.size w6 w10 := snd_below B9 S9 hg10
            have S10 : w6.heap.size ≤ g10 := snd_at B9 S9 hat10
            refine hK.out _ _ (by exact KS _ (B10)) (fun hHeld => ?_)
            clear hK K
            (try simp only [Act.put, List.setIfInBounds_toArray, List.set_cons_zero, List.set_cons_succ])
            refine wpAnyH_take (i := 11) (oi := ⟨some 10, _, _, _, _, _⟩) (v := ?vzb6) rfl (by kernel_rfl) (by kernel_rfl) (by kernel_rfl) (fun _ _ _ h => h) (Or.inl ⟨by rfl, ?yzb6⟩) (by assumption) ?_
            case yzb6 => (intro w hSw; (try dsimp only at hSw); go_simp; (try with_reducible rfl))
            (try simp only [Act.put, List.setIfInBounds_toArray, List.set_cons_zero, List.set_cons_succ])
            refine wpAnyH_done (by kernel_rfl) ?_ _
            clear KS
            first | go_meet | (go_wp2_with fail; go_meet)
            exact ⟨g10, cp10, rfl, o10.conv (by rw [← Hcs.out]), by omega, B10⟩
        · go_simp
          refine hK.out _ _ (by exact KS _ ((Below.drew ((Below.refl _ w6).alloc (Nat.le_refl _) _)))) (fun hHeld => ?_)
          clear hK K
          (try simp only [Act.put, List.setIfInBounds_toArray, List.set_cons_zero, List.set_cons_succ])
          refine wpAnyH_ready (rs := [0]) (by kernel_rfl) (by simp) ?_
          refine AllReadyH.cons (o := ⟨some 75, _, _, _, _, _⟩) rfl (fun K hK => ?_) AllReadyH.nil
          go_simp
          refine hK.out _ _ (by exact KS _ ((Below.drew (((Below.refl _ w6).alloc (Nat.le_refl _) _).alloc (by simp) _)))) (fun hHeld => ?_)
          clear hK K
          (try simp only [Act.put, List.setIfInBounds_toArray, List.set_cons_zero, List.set_cons_succ])
          refine wpAnyH_ready (rs := [5]) (by kernel_rfl) (by simp) ?_
          refine AllReadyH.cons (o := ⟨some 80, _, _, _, _, _⟩) rfl (fun K hK => ?_) AllReadyH.nil
          refine step_append_k (by rfl) (.tmp 75) (.tmp 79) 36 rfl elemH (xs := []) (ad := ⟨g, 0, none⟩) (m := k) (c := c) (g := w6.heap.size + 1) (n := 0) (cap := 0) (by simp [Act.eval]) (Own.new1 w6 _ #[] 72 7 0 (by unfold maxLen; omega) rfl) (by simp [Act.eval]) ((zs.take k).map VHeld.cells).flatten Htk.out (cells_below (w := w6) (Below.drew (((Below.refl _ w6).alloc (Nat.le_refl _) _).alloc (by simp) _)) Hsrc.out) held_one (by omega) ?_
          intro g9 cp9 w9 o9 hg9 hat9
          have B9 : Below w6.heap.size w6 w9 := (((Below.refl _ w6).alloc (Nat.le_refl _) _).alloc (by simp) _).grown (grown_trans (grown_drew (World.grownBy.refl _ _)) hg9) (by simp; omega) (by intro q hq; simp at hq; omega)
          have S9 : w6.heap.size ≤ g9 := (by simp at hat9; omega)
          have rE : Row w9 w6.heap.size #[.int .i64 x.a0, .int .i64 x.a1, .int .i64 x.a2, .int .i64 x.a3, .bool x.a4, .bool x.a5, .int .i64 now] := Row.grown (Row.drew ((Row.new w6 #[.int .i64 x.a0, .int .i64 x.a1, .int .i64 x.a2, .int .i64 x.a3, .bool x.a4, .bool x.a5, .int .i64 now] 72).alloc _)) hg9 (by omega)
          have O9 := (o9.convn (n' := k) (Nat.zero_add k)).conv (List.nil_append _)
          rw [Nat.zero_add]
          refine hK.out _ _ (by exact KS _ (B9)) (fun hHeld => ?_)
          clear hK K
          (try simp only [Act.put, List.setIfInBounds_toArray, List.set_cons_zero, List.set_cons_succ])
          refine wpAnyH_ready (rs := [10]) (by kernel_rfl) (by simp) ?_
          refine AllReadyH.cons (o := ⟨some 85, _, _, _, _, _⟩) rfl (fun K hK => ?_) AllReadyH.nil
          refine step_append_k (by rfl) (.tmp 80) (.tmp 84) 36 rfl elemH (xs := ((zs.take k).map VHeld.cells).flatten) (ad := ⟨w6.heap.size, 0, none⟩) (m := 1) (c := 1) (g := g9) (n := k) (cap := cp9) (by simp [Act.eval]) (O9) (by simp [Act.eval]) [.int .i64 x.a0, .int .i64 x.a1, .int .i64 x.a2, .int .i64 x.a3, .bool x.a4, .bool x.a5, .int .i64 now] (by rfl) (fun j u hu => by rw [addr_add, Nat.zero_add, rE.1 j]; simpa using hu) (fun u hu => by simp at hu; rcases hu with rfl | rfl | rfl | rfl | rfl | rfl | rfl <;> rfl) (by omega) ?_
          intro g10 cp10 w10 o10 hg10 hat10
          have B10 : Below w6.heap.size w6 w10 := snd_below B9 S9 hg10
          have S10 : w6.heap.size ≤ g10 := snd_at B9 S9 hat10
          refine hK.out _ _ (by exact KS _ (B10)) (fun hHeld => ?_)
          clear hK K
          (try simp only [Act.put, List.setIfInBounds_toArray, List.set_cons_zero, List.set_cons_succ])
          refine wpAnyH_take (i := 11) (oi := ⟨some 10, _, _, _, _, _⟩) (v := ?vzc6) rfl (by kernel_rfl) (by kernel_rfl) (by kernel_rfl) (fun _ _ _ h => h) (Or.inl ⟨by rfl, ?yzc6⟩) (by assumption) ?_
          case yzc6 => (intro w hSw; (try dsimp only at hSw); go_simp; (try with_reducible rfl))
          (try simp only [Act.put, List.setIfInBounds_toArray, List.set_cons_zero, List.set_cons_succ])
          refine wpAnyH_done (by kernel_rfl) ?_ _
          clear KS
          first | go_meet | (go_wp2_with fail; go_meet)
          exact ⟨g10, cp10, rfl, o10.conv (by rw [← Hcs.out]), by omega, B10⟩
      case rest =>
        obtain ⟨g10, c10, rfl, o10, hg10, b10⟩ := hcut
        have Hdk := hide (show ((zs.drop k).map VHeld.cells).flatten.length = (n - k) * 7 by rw [held_len, List.length_drop, Hn.out])
        have Hsr1 := hide (cells_below b10 (heldSrc1 O6.out k))
        have Hln := hide (show (insA zs k x).length = n + 1 by rw [insA_len zs k x (by rw [Hn.out]; exact hk), Hn.out])
        have Hval := hide (bufB_ins HBB.out (by rw [Hn.out]; exact h10) (by rw [Hn.out]; exact hk) HOKx.out Hlo.out hhi.out)
        have rX := Row.below (Row.mk cX fX lX) b10
        have rZ := Row.below (Row.mk cZ fZ lZ) b10
        have rV := Row.below (Row.mk cV6 fV6 lV6) b10
        have O10 := hide o10
        clear KS o10 Hsrc Htk hhi
        have lZ6 : S + 1 + 1 < w6.heap.size := lZ
        have R6X := hide (Row.mk cX fX lX)
        have R6Z := hide (Row.mk cZ fZ lZ)
        have R6V := hide (Row.mk cV6 fV6 lV6)
        have lV66 : V < w6.heap.size := lV6
        clear cX fX lX cZ fZ lZ cV6 fV6 lV6 cY fY lY
        obtain ⟨cX, fX, lX⟩ := rX
        obtain ⟨cZ, fZ, lZ⟩ := rZ
        obtain ⟨cV6, fV6, lV6⟩ := rV
        have f3 : (k : Int) ≤ (n : Int) := by omega
        by_cases hc : c = k
        · have hnk : n - k = 0 := by omega
          have hck : c - k = 0 := by omega
          go_wp2_with (first | (at_builtin; refine wpList_append_m rfl _ _ _ rfl elemH rfl O10.out ⟨g, 0, none⟩ 0 0 rfl ((zs.drop k).map VHeld.cells).flatten (by have := Hdk.out; omega) (fun j u hu => by rw [List.eq_nil_of_length_eq_zero (show ((zs.drop k).map VHeld.cells).flatten.length = 0 by have := Hdk.out; omega)] at hu; simp at hu) held_one (by omega) ?_; intro g11 c11 w11 o11 hg11 hat11; have O11 := hide ((o11.conv (insA_cells zs k x)).convn (n' := n + 1) (by omega)); have B11 := hide (b10.grown hg11 b10.size (by intro q hq; simp at hq; omega)); have S11 := hide (show w6.heap.size ≤ g11 by have := b10.size; omega); have rX := Row.below R6X.out B11.out; have rZ := Row.below R6Z.out B11.out; have rV := Row.below R6V.out B11.out; obtain ⟨cX, fX, lX⟩ := rX; obtain ⟨cZ, fZ, lZ⟩ := rZ; obtain ⟨cV6, fV6, lV6⟩ := rV; clear o11 hg11 hat11; (try rw [show k + 1 + 0 = n + 1 by omega])))
          have sB := S11.out
          have bb := B6.out.trans (B11.out.mono s6)
          refine bodyPost_ret (by first | (simp (maxDischargeDepth := 3) [results, Try.results56, go_sem, *]; done) | (simp (maxDischargeDepth := 3) [results, Try.results56, go_sem, *]; rfl) | (simp (maxDischargeDepth := 7) [results, Try.results56, go_sem, *]; done) | (simp (maxDischargeDepth := 7) [results, Try.results56, go_sem, *]; rfl)) rfl ?_
          exact ⟨g11, c11, insA zs k x, 0, by rw [Hln.out], Hval.out, by omega, by rw [Hln.out]; exact ((((O11.out.far (by show g11 ≠ V; omega) _).far (by show g11 ≠ S + 1 + 1; omega) _).far (by show g11 ≠ S + 1 + 1; omega) _).far (by show g11 ≠ S + 1 + 1; omega) _), (((bb.setCell (by show w.heap.size ≤ V; omega) _).setCell (by show w.heap.size ≤ S + 1 + 1; omega) _).setCell (by show w.heap.size ≤ S + 1 + 1; omega) _).setCell (by show w.heap.size ≤ S + 1 + 1; omega) _⟩
        · have hck : ¬ c - k = 0 := by omega
          go_wp2_with (first | (at_builtin; refine wpList_append_m rfl _ _ _ rfl elemH rfl O10.out ⟨g, k * 7, none⟩ (n - k) (c - k) rfl ((zs.drop k).map VHeld.cells).flatten Hdk.out (Hsr1.out) held_one (by omega) ?_; intro g11 c11 w11 o11 hg11 hat11; have O11 := hide ((o11.conv (insA_cells zs k x)).convn (n' := n + 1) (by omega)); have B11 := hide (b10.grown hg11 b10.size (by intro q hq; simp at hq; omega)); have S11 := hide (show w6.heap.size ≤ g11 by have := b10.size; omega); have rX := Row.below R6X.out B11.out; have rZ := Row.below R6Z.out B11.out; have rV := Row.below R6V.out B11.out; obtain ⟨cX, fX, lX⟩ := rX; obtain ⟨cZ, fZ, lZ⟩ := rZ; obtain ⟨cV6, fV6, lV6⟩ := rV; clear o11 hg11 hat11; (try rw [show k + 1 + (n - k) = n + 1 by omega])))
          have sB := S11.out
          have bb := B6.out.trans (B11.out.mono s6)
          refine bodyPost_ret (by first | (simp (maxDischargeDepth := 3) [results, Try.results56, go_sem, *]; done) | (simp (maxDischargeDepth := 3) [results, Try.results56, go_sem, *]; rfl) | (simp (maxDischargeDepth := 7) [results, Try.results56, go_sem, *]; done) | (simp (maxDischargeDepth := 7) [results, Try.results56, go_sem, *]; rfl)) rfl ?_
          exact ⟨g11, c11, insA zs k x, 0, by rw [Hln.out], Hval.out, by omega, by rw [Hln.out]; exact ((((O11.out.far (by show g11 ≠ V; omega) _).far (by show g11 ≠ S + 1 + 1; omega) _).far (by show g11 ≠ S + 1 + 1; omega) _).far (by show g11 ≠ S + 1 + 1; omega) _), (((bb.setCell (by show w.heap.size ≤ V; omega) _).setCell (by show w.heap.size ≤ S + 1 + 1; omega) _).setCell (by show w.heap.size ≤ S + 1 + 1; omega) _).setCell (by show w.heap.size ≤ S + 1 + 1; omega) _⟩
end Go.Proofs.Ytjbengphioankaa
