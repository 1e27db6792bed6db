/- BufferValid of the program: contract. -/
import Derived.Test.YtjbengphioankaaHM
namespace Go.Proofs.Ytjbengphioankaa
open Go.ChangeShapes Go.WideShapes Go.ChangeAt Go.RowKit Go.Deep

def pk7 (x : VHeld) : Bool := decide (0 ≤ x.a0 ∧ x.a0 ≤ 999999 ∧ 0 ≤ x.a1 ∧ x.a1 ≤ 99999 ∧ 0 ≤ x.a2 ∧ x.a2 ≤ 2 ∧ 1 ≤ x.a3 ∧ x.a3 ≤ 1500)
theorem specPacketV (x : VHeld) (w : World) : Calls Try.prog 41 #[.agg #[.int .i64 x.a0, .int .i64 x.a1, .int .i64 x.a2, .int .i64 x.a3, .bool x.a4, .bool x.a5]] w (RetB (pk7 x) w) := by
  obtain ⟨a, b, c, d, e, f, g⟩ := x
  go_enter Try.func41, Try.ntmps41
  go_wp2
  all_goals
    go_ret
    refine retB_mk (by unfold pk7; rw [Bool.eq_iff_iff]; simp; try omega) ?_
    (repeat' (first | (with_reducible exact Below.refl _ _) | (with_reducible assumption) | (with_reducible refine Below.alloc ?_ ?_ _) | (with_reducible refine Below.setCell ?_ ?_ _) | (with_reducible refine Below.drew ?_) | (with_reducible refine below_drewN' ?_ _) | (with_reducible refine below_step (by assumption) ?_ ?_) | (with_reducible refine below_gstep (by assumption) ?_ ?_ ?_) | (with_reducible exact Below.size (by assumption)) | omega | (simp; done) | (simp; omega)))
theorem implPacketV (x : VHeld) (w : World) : Calls Try.prog 39 #[.agg #[.int .i64 x.a0, .int .i64 x.a1, .int .i64 x.a2, .int .i64 x.a3, .bool x.a4, .bool x.a5]] w (RetB (pk7 x) w) := by
  obtain ⟨a, b, c, d, e, f, g⟩ := x
  go_enter Try.func39, Try.ntmps39
  go_wp2
  all_goals
    go_ret
    refine retB_mk (by unfold pk7; rw [Bool.eq_iff_iff]; simp; try omega) ?_
    (repeat' (first | (with_reducible exact Below.refl _ _) | (with_reducible assumption) | (with_reducible refine Below.alloc ?_ ?_ _) | (with_reducible refine Below.setCell ?_ ?_ _) | (with_reducible refine Below.drew ?_) | (with_reducible refine below_drewN' ?_ _) | (with_reducible refine below_step (by assumption) ?_ ?_) | (with_reducible refine below_gstep (by assumption) ?_ ?_ ?_) | (with_reducible exact Below.size (by assumption)) | omega | (simp; done) | (simp; omega)))
theorem timeV (n : Int) (w : World) : Calls Try.prog 40 #[.int .i64 n] w fun e w' => e = .returned (.bool (decide (0 ≤ n ∧ n ≤ 99999))) ∧ w' = w := by
  go_enter Try.func40, Try.ntmps40
  go_wp2
  all_goals
    go_ret
    refine ⟨ret_bool (by rw [Bool.eq_iff_iff]; simp; try omega), rfl⟩
/-- What is asked of the element x, behind y if there is one. -/
def heldOK (nx : Int) (x : VHeld) : Prop := pk7 x = true ∧ (0 ≤ x.a6 ∧ x.a6 ≤ 99999) ∧ nx ≤ x.a0
instance (nx : Int) (x : VHeld) : Decidable (heldOK nx x) := by unfold heldOK; infer_instance
def bufT (nx : Int) (zs : List VHeld) (k : Nat) : Prop := ∀ i, i < k → heldOK nx (zs.getD i default) ∧ (0 < i → (zs.getD (i - 1) default).a0 < (zs.getD i default).a0)
instance (nx : Int) (zs : List VHeld) (k : Nat) : Decidable (bufT nx zs k) := by unfold bufT; infer_instance
def bufH (nx dl : Int) : Prop := 0 ≤ nx ∧ nx ≤ 1000000 ∧ 0 ≤ dl ∧ dl ≤ 999
instance (nx dl : Int) : Decidable (bufH nx dl) := by unfold bufH; infer_instance
def bufB (nx dl : Int) (zs : List VHeld) : Bool := decide (bufH nx dl ∧ zs.length ≤ 10 ∧ bufT nx zs zs.length)
theorem bufT_succ {nx : Int} {zs : List VHeld} {k : Nat} {x : VHeld} (h : bufT nx zs k) (hx : zs.getD k default = x) (h1 : heldOK nx x) (h2 : 0 < k → (zs.getD (k - 1) default).a0 < x.a0) : bufT nx zs (k + 1) := by
  intro i hi
  rcases Nat.lt_succ_iff_lt_or_eq.1 hi with hi | rfl
  · exact h i hi
  · rw [hx]; exact ⟨h1, h2⟩
theorem bufB_no1 {nx dl : Int} {zs : List VHeld} (h : ¬ bufH nx dl) : bufB nx dl zs = false := decide_eq_false fun q => h q.1
theorem bufB_no2 {nx dl : Int} {zs : List VHeld} {n : Nat} (hn : zs.length = n) (h : 10 < n) : bufB nx dl zs = false := decide_eq_false fun q => by omega
theorem bufB_no3 {nx dl : Int} {zs : List VHeld} {n k : Nat} {x : VHeld} (hn : zs.length = n) (hk : k < n) (hx : zs.getD k default = x) (h : ¬ (heldOK nx x ∧ (0 < k → (zs.getD (k - 1) default).a0 < x.a0))) : bufB nx dl zs = false :=
  decide_eq_false fun q => by
    have := q.2.2 k (by omega)
    rw [hx] at this
    exact h this
theorem bufB_yes {nx dl : Int} {zs : List VHeld} {n : Nat} (hn : zs.length = n) (h1 : bufH nx dl) (h2 : n ≤ 10) (h : bufT nx zs n) : bufB nx dl zs = true := decide_eq_true ⟨h1, by omega, by rw [hn]; exact h⟩
set_option maxHeartbeats 4000000 in
theorem implBufferValid (A : Option Addr) (c : Nat) (nx dl : Int) (zs : List VHeld) (w : World) (h : HeldAt w A zs) (hm : zs.length ≤ 1048576) :
    Calls Try.prog 17 #[.agg #[.int .i64 nx, .int .i64 dl, .slice A zs.length c]] w (RetB (bufB nx dl zs) w) := by
  have Hh := hide h
  clear h
  obtain ⟨n, hn⟩ : ∃ n, zs.length = n := ⟨_, rfl⟩
  rw [hn] at hm ⊢
  have Hn := hide hn
  clear hn
  by_cases q1 : nx < 0
  · have HF := hide (bufB_no1 (zs := zs) (show ¬ bufH nx dl by unfold bufH; omega))
    go_enter Try.func17, Try.ntmps17
    go_wp2_with fail
    go_ret
    refine retB_mk (by rw [HF.out]) ?_
    (repeat' (first | (with_reducible exact Below.refl _ _) | (with_reducible assumption) | (with_reducible refine Below.alloc ?_ ?_ _) | (with_reducible refine Below.setCell ?_ ?_ _) | (with_reducible refine Below.drew ?_) | (with_reducible refine below_drewN' ?_ _) | (with_reducible refine below_step (by assumption) ?_ ?_) | (with_reducible refine below_gstep (by assumption) ?_ ?_ ?_) | (with_reducible exact Below.size (by assumption)) | omega | (simp; done) | (simp; omega)))
  by_cases q2 : 1000000 < nx
  · have HF := hide (bufB_no1 (zs := zs) (show ¬ bufH nx dl by unfold bufH; omega))
    go_enter Try.func17, Try.ntmps17
    go_wp2_with fail
    go_ret
    refine retB_mk (by rw [HF.out]) ?_
    (repeat' (first | (with_reducible exact Below.refl _ _) | (with_reducible assumption) | (with_reducible refine Below.alloc ?_ ?_ _) | (with_reducible refine Below.setCell ?_ ?_ _) | (with_reducible refine Below.drew ?_) | (with_reducible refine below_drewN' ?_ _) | (with_reducible refine below_step (by assumption) ?_ ?_) | (with_reducible refine below_gstep (by assumption) ?_ ?_ ?_) | (with_reducible exact Below.size (by assumption)) | omega | (simp; done) | (simp; omega)))
  by_cases q3 : dl < 0
  · have HF := hide (bufB_no1 (zs := zs) (show ¬ bufH nx dl by unfold bufH; omega))
    go_enter Try.func17, Try.ntmps17
    go_wp2_with fail
    go_ret
    refine retB_mk (by rw [HF.out]) ?_
    (repeat' (first | (with_reducible exact Below.refl _ _) | (with_reducible assumption) | (with_reducible refine Below.alloc ?_ ?_ _) | (with_reducible refine Below.setCell ?_ ?_ _) | (with_reducible refine Below.drew ?_) | (with_reducible refine below_drewN' ?_ _) | (with_reducible refine below_step (by assumption) ?_ ?_) | (with_reducible refine below_gstep (by assumption) ?_ ?_ ?_) | (with_reducible exact Below.size (by assumption)) | omega | (simp; done) | (simp; omega)))
  by_cases q4 : 999 < dl
  · have HF := hide (bufB_no1 (zs := zs) (show ¬ bufH nx dl by unfold bufH; omega))
    go_enter Try.func17, Try.ntmps17
    go_wp2_with fail
    go_ret
    refine retB_mk (by rw [HF.out]) ?_
    (repeat' (first | (with_reducible exact Below.refl _ _) | (with_reducible assumption) | (with_reducible refine Below.alloc ?_ ?_ _) | (with_reducible refine Below.setCell ?_ ?_ _) | (with_reducible refine Below.drew ?_) | (with_reducible refine below_drewN' ?_ _) | (with_reducible refine below_step (by assumption) ?_ ?_) | (with_reducible refine below_gstep (by assumption) ?_ ?_ ?_) | (with_reducible exact Below.size (by assumption)) | omega | (simp; done) | (simp; omega)))
  by_cases q5 : 10 < (n : Int)
  · have HF := hide (bufB_no2 (nx := nx) (dl := dl) Hn.out (show 10 < n by omega))
    go_enter Try.func17, Try.ntmps17
    go_wp2_with fail
    go_ret
    refine retB_mk (by rw [HF.out]) ?_
    (repeat' (first | (with_reducible exact Below.refl _ _) | (with_reducible assumption) | (with_reducible refine Below.alloc ?_ ?_ _) | (with_reducible refine Below.setCell ?_ ?_ _) | (with_reducible refine Below.drew ?_) | (with_reducible refine below_drewN' ?_ _) | (with_reducible refine below_step (by assumption) ?_ ?_) | (with_reducible refine below_gstep (by assumption) ?_ ?_ ?_) | (with_reducible exact Below.size (by assumption)) | omega | (simp; done) | (simp; omega)))
  have HQ := hide (show bufH nx dl by unfold bufH; omega)
  go_enter Try.func17, Try.ntmps17
  obtain ⟨P, hP⟩ : ∃ P, w.heap.size = P := ⟨_, rfl⟩
  have R0 := Row.new w #[.int .i64 nx, .int .i64 dl, .slice A n c] 38
  rw [hP] at R0
  go_wp2_with fail
  go_loopw [30] (fun i wr => ∃ k : Nat, k ≤ n ∧ i = .int .i64 k ∧ bufT nx zs k ∧ Row wr P #[.int .i64 nx, .int .i64 dl, .slice A n c] ∧ Below w.heap.size w wr) (fun i _ => n - (intOf i).toNat)
  case atStart => exact ⟨0, by omega, rfl, fun i hi => by omega, R0, (Below.refl _ _).alloc (Nat.le_refl _) _⟩
  case round =>
    obtain ⟨k, hk, rfl, hok, hrow, hbl⟩ := hrel
    have Hok := hide hok
    clear hok R0
    obtain ⟨cP, fP, lP⟩ := hrow
    have HP := hide (Row.mk cP fP lP)
    by_cases hk' : k < n
    · obtain ⟨b, off, rfl, hlt, hc⟩ := HeldAt.at Hh.out (by have := Hn.out; omega)
      obtain ⟨s0, s1, s2, s3, s4, s5, s6⟩ := hc k (by have := Hn.out; omega)
      obtain ⟨x, hx⟩ : ∃ x, zs.getD k default = x := ⟨_, rfl⟩
      rw [hx] at s0 s1 s2 s3 s4 s5 s6
      have sbl := hbl.size
      replace s0 := (hbl.cell (p := ⟨b, off + k * 7, none⟩) hlt).trans s0
      replace s1 := (hbl.cell (p := ⟨b, off + k * 7 + 1, none⟩) hlt).trans s1
      replace s2 := (hbl.cell (p := ⟨b, off + k * 7 + 2, none⟩) hlt).trans s2
      replace s3 := (hbl.cell (p := ⟨b, off + k * 7 + 3, none⟩) hlt).trans s3
      replace s4 := (hbl.cell (p := ⟨b, off + k * 7 + 4, none⟩) hlt).trans s4
      replace s5 := (hbl.cell (p := ⟨b, off + k * 7 + 5, none⟩) hlt).trans s5
      replace s6 := (hbl.cell (p := ⟨b, off + k * 7 + 6, none⟩) hlt).trans s6
      have Hx := hide hx
      have Hbl := hide hbl
      have Hlt := hide hlt
      have g2 : (k : Int) < (n : Int) := by omega
      have Hc := hide hc
      clear hx hbl hlt hc
      go_wp2_with fail
      have F : Row (wr.alloc (.cells #[.int .i64 x.a0, .int .i64 x.a1, .int .i64 x.a2, .int .i64 x.a3, .bool x.a4, .bool x.a5, .int .i64 x.a6] 72)) wr.heap.size #[.int .i64 x.a0, .int .i64 x.a1, .int .i64 x.a2, .int .i64 x.a3, .bool x.a4, .bool x.a5, .int .i64 x.a6] ∧ Row (wr.alloc (.cells #[.int .i64 x.a0, .int .i64 x.a1, .int .i64 x.a2, .int .i64 x.a3, .bool x.a4, .bool x.a5, .int .i64 x.a6] 72)) P #[.int .i64 nx, .int .i64 dl, .slice (some ⟨b, off, none⟩) n c] ∧ Below w.heap.size w (wr.alloc (.cells #[.int .i64 x.a0, .int .i64 x.a1, .int .i64 x.a2, .int .i64 x.a3, .bool x.a4, .bool x.a5, .int .i64 x.a6] 72)) := ⟨Row.new _ _ _, HP.out.alloc _, Hbl.out.alloc sbl _⟩
      obtain ⟨⟨cX, fX, lX⟩, hP2, hbl⟩ := F
      have lbb : b < (wr.alloc (.cells #[.int .i64 x.a0, .int .i64 x.a1, .int .i64 x.a2, .int .i64 x.a3, .bool x.a4, .bool x.a5, .int .i64 x.a6] 72)).heap.size := by have := hbl.size; have := Hlt.out; omega
      generalize wr.alloc (.cells #[.int .i64 x.a0, .int .i64 x.a1, .int .i64 x.a2, .int .i64 x.a3, .bool x.a4, .bool x.a5, .int .i64 x.a6] 72) = wq at *
      clear s0 s1 s2 s3 s4 s5 s6 HP cP fP lP Hbl
      obtain ⟨X, hX⟩ : ∃ X, wr.heap.size = X := ⟨_, rfl⟩
      rw [hX] at cX fX lX ⊢
      obtain ⟨cP, fP, lP⟩ := hP2
      have HP := hide (Row.mk cP fP lP)
      have HX := hide (Row.mk cX fX lX)
      have Hbl := hide hbl
      have sbl2 := hbl.size
      have lb : b < wq.heap.size := by have := Hlt.out; omega
      clear hbl sbl hX
      have sbl := sbl2
      clear sbl2
      refine (implPacketV x _).mono ?_
      rintro e w1 ⟨rfl, hb1⟩
      have b1 := hide (Hbl.out.trans (hb1.mono sbl))
      have lb1 : b < w1.heap.size := Nat.lt_of_lt_of_le lb hb1.size
      have rX : Row w1 (X) _ := Row.below (by (repeat' (first | (with_reducible assumption) | (with_reducible exact Row.new _ _ _) | (with_reducible exact Row.new1 _ _ _ _) | (with_reducible exact Row.new2 _ _ _ _ _) | (with_reducible exact Row.new2' _ _ _ _ _) | ((with_reducible apply Row.mk) <;> (with_reducible assumption)) | (with_reducible apply Row.alloc) | (with_reducible apply Row.set) | (with_reducible apply Row.far) | (with_reducible apply Row.drew) | (with_reducible apply Row.drewN) | omega | (simp; done) | (simp; omega)))) hb1
      have rP : Row w1 (P) _ := Row.below (by (repeat' (first | (with_reducible assumption) | (with_reducible exact Row.new _ _ _) | (with_reducible exact Row.new1 _ _ _ _) | (with_reducible exact Row.new2 _ _ _ _ _) | (with_reducible exact Row.new2' _ _ _ _ _) | ((with_reducible apply Row.mk) <;> (with_reducible assumption)) | (with_reducible apply Row.alloc) | (with_reducible apply Row.set) | (with_reducible apply Row.far) | (with_reducible apply Row.drew) | (with_reducible apply Row.drewN) | omega | (simp; done) | (simp; omega)))) hb1
      (try clear cX fX lX)
      (try clear cP fP lP)
      obtain ⟨cX, fX, lX⟩ := rX
      obtain ⟨cP, fP, lP⟩ := rP
      have HP := hide (Row.mk cP fP lP)
      clear hb1 HX Hbl
      by_cases h1 : pk7 x = true
      · rw [h1]
        have H1 := hide h1
        clear h1
        by_cases h2 : 0 ≤ x.a6 ∧ x.a6 ≤ 99999
        · have d2 : decide (0 ≤ x.a6 ∧ x.a6 ≤ 99999) = true := decide_eq_true h2
          have H2 := hide h2
          clear h2
          by_cases h3 : x.a0 < nx
          · go_wp2_with (go_at_call 40; refine (timeV _ _).mono ?_; rintro e w' ⟨rfl, rfl⟩; rw [d2])
            go_ret
            exact retB_mk (by rw [bufB_no3 Hn.out hk' Hx.out (by rintro ⟨q, _⟩; have := q.2.2; omega)]) b1.out
          · have H3 := hide (show heldOK nx x from ⟨H1.out, H2.out, by omega⟩)
            by_cases hk0 : k = 0
            · subst hk0
              have z0 : ¬ (0 : Int) < 0 := by omega
              have z1 : decide ((0 : Int) < 0) = false := by decide
              simp only [Int.natCast_zero] at g2 ⊢
              go_wp2_with (go_at_call 40; refine (timeV _ _).mono ?_; rintro e w' ⟨rfl, rfl⟩; rw [d2])
              go_quiet (fail)
              go_wp2_with fail
              go_roundw
              case rel => exact ⟨1, by omega, rfl, bufT_succ Hok.out Hx.out H3.out (fun h => absurd h (by omega)), HP.out.drewN _, below_drewN' b1.out _⟩
              case measure => simp [intOf]; omega
            · obtain ⟨t0, _⟩ := Hc.out (k - 1) (by have := Hn.out; omega)
              obtain ⟨y, hy⟩ : ∃ y, zs.getD (k - 1) default = y := ⟨_, rfl⟩
              rw [hy] at t0
              have Hy := hide hy
              have Hk0 := hide hk0
              replace t0 := (b1.out.cell (p := ⟨b, off + (k - 1) * 7, none⟩) Hlt.out).trans t0
              have g1 : decide (0 < k) = true := by simp; omega
              have g0 : (0 : Int) < (k : Int) := by omega
              have g3 : (k : Int) - 1 < (n : Int) := by omega
              have g4 : 0 ≤ (k : Int) - 1 := by omega
              have g9 : (1 : Int) ≤ (k : Int) := by omega
              have g5 : IntKind.i64.wrap ((k : Int) - 1) = (k : Int) - 1 := IntWalk.i64_in _ (by omega)
              have g6 : ((k : Int) - 1).toNat = k - 1 := by omega
              clear hy hk0
              by_cases h4 : x.a0 ≤ y.a0
              · have g7 : decide (x.a0 ≤ y.a0) = true := decide_eq_true h4
                go_wp2_with (go_at_call 40; refine (timeV _ _).mono ?_; rintro e w' ⟨rfl, rfl⟩; rw [d2])
                go_quiet (fail)
                clear g5 g6 g7 g1
                go_wp2_with fail
                go_ret
                refine retB_mk ?_ (below_drewN' b1.out _)
                rw [bufB_no3 Hn.out hk' Hx.out]
                rintro ⟨_, q⟩
                have := q (by have := Hk0.out; omega)
                rw [Hy.out] at this
                omega
              · have g7 : decide (x.a0 ≤ y.a0) = false := decide_eq_false h4
                go_wp2_with (go_at_call 40; refine (timeV _ _).mono ?_; rintro e w' ⟨rfl, rfl⟩; rw [d2])
                go_quiet (fail)
                clear g5 g6 g7 g1
                go_wp2_with fail
                go_roundw
                case rel => exact ⟨k + 1, by omega, by go_num, bufT_succ Hok.out Hx.out H3.out (fun _ => by rw [Hy.out]; omega), HP.out.drewN _, below_drewN' b1.out _⟩
                case measure => simp [intOf]; omega
        · have d2 : decide (0 ≤ x.a6 ∧ x.a6 ≤ 99999) = false := decide_eq_false h2
          have H2 := hide h2
          clear h2
          go_wp2_with (go_at_call 40; refine (timeV _ _).mono ?_; rintro e w' ⟨rfl, rfl⟩; rw [d2])
          go_ret
          exact retB_mk (by rw [bufB_no3 Hn.out hk' Hx.out (by rintro ⟨q, _⟩; exact H2.out q.2.1)]) b1.out
      · have h1' : pk7 x = false := by simpa using h1
        rw [h1']
        have H1 := hide h1'
        clear h1 h1'
        go_wp2_with fail
        go_ret
        exact retB_mk (by rw [bufB_no3 Hn.out hk' Hx.out (by rintro ⟨q, _⟩; have q1 := q.1; rw [H1.out] at q1; cases q1)]) b1.out
    · have hkn : k = n := by omega
      subst hkn
      have HF := hide (bufB_yes Hn.out HQ.out (by omega) Hok.out)
      have Hbl := hide hbl
      clear hbl
      go_wp2_with fail
      go_ret
      exact retB_mk (by rw [HF.out]) Hbl.out
end Go.Proofs.Ytjbengphioankaa
