/- BufferTime, of both: contracts. -/
import Derived.Test.YtjbengphioankaaX5
namespace Go.Proofs.Ytjbengphioankaa
open Go.ChangeShapes Go.WideShapes Go.ChangeAt Go.RowKit Go.Deep

def relTime (nx dl : Int) (zs : List VHeld) (r : Int) : Prop :=
  (bufB nx dl zs = false ∨ zs.length = 0) ∧ r = -1 ∨ bufB nx dl zs = true ∧ 0 < zs.length ∧ ((zs.getD 0 default).a0 = nx ∧ r = 0 ∨ (zs.getD 0 default).a0 ≠ nx ∧ r = (zs.getD 0 default).a6 + dl)
theorem relTime_some (nx dl : Int) (zs : List VHeld) : ∃ r, relTime nx dl zs r := by
  by_cases h : bufB nx dl zs = true
  · by_cases h0 : zs.length = 0
    · exact ⟨_, .inl ⟨.inr h0, rfl⟩⟩
    · by_cases h1 : (zs.getD 0 default).a0 = nx
      · exact ⟨_, .inr ⟨h, by omega, .inl ⟨h1, rfl⟩⟩⟩
      · exact ⟨_, .inr ⟨h, by omega, .inr ⟨h1, rfl⟩⟩⟩
  · exact ⟨_, .inl ⟨.inl (by simpa using h), rfl⟩⟩
theorem buf_first {nx dl : Int} {zs : List VHeld} (h : bufB nx dl zs = true) (h0 : 0 < zs.length) : 0 ≤ (zs.getD 0 default).a6 ∧ (zs.getD 0 default).a6 ≤ 99999 ∧ 0 ≤ dl ∧ dl ≤ 999 := by
  obtain ⟨h1, h2, h3⟩ := of_decide_eq_true h
  have := (h3 0 h0).1.2.1
  exact ⟨this.1, this.2, h1.2.2.1, h1.2.2.2⟩
set_option maxHeartbeats 2000000 in
theorem implBufferTime (A : Option Addr) (c : Nat) (nx dl : Int) (zs : List VHeld) (r : Int) (w : World) (hR : relTime nx dl zs r) (h : HeldAt w A zs) (hm : zs.length ≤ 1048576) :
    Calls Try.prog 20 #[.agg #[.int .i64 nx, .int .i64 dl, .slice A zs.length c]] w (RetV (.int .i64 r) w) := by
  have HH := hide h
  have KB := implBufferValid A c nx dl zs (w.alloc (.cells #[.int .i64 nx, .int .i64 dl, .slice A zs.length c] 38)) (RecAt.below h ((Below.refl _ _).alloc (Nat.le_refl _) _)) hm
  have HR := hide hR
  obtain ⟨n, hn⟩ : ∃ n, zs.length = n := ⟨_, rfl⟩
  rw [hn] at hm KB ⊢
  obtain ⟨F, hF⟩ : ∃ F, bufB nx dl zs = F := ⟨_, rfl⟩
  rw [hF] at KB
  have HF := hide hF
  have Hn := hide hn
  have HKB := hide KB
  obtain ⟨S, hS⟩ : ∃ S, w.heap.size = S := ⟨_, rfl⟩
  have b0 := hide ((Below.refl w.heap.size w).alloc (Nat.le_refl _) (.cells #[.int .i64 nx, .int .i64 dl, .slice A n c] 38))
  clear h hR hn hF KB
  go_enter Try.func20, Try.ntmps20
  go_wp2_with fail
  refine HKB.out.mono ?_
  rintro e w1 ⟨rfl, hb⟩
  have b1 := hide (b0.out.trans (hb.mono (by simp)))
  have rX : Row w1 (w.heap.size) _ := Row.below (by (repeat' (first | (with_reducible assumption) | (with_reducible exact Row.new _ _ _) | (with_reducible exact Row.new1 _ _ _ _) | (with_reducible exact Row.new2 _ _ _ _ _) | (with_reducible exact Row.new2' _ _ _ _ _) | ((with_reducible apply Row.mk) <;> (with_reducible assumption)) | (with_reducible apply Row.alloc) | (with_reducible apply Row.set) | (with_reducible apply Row.far) | (with_reducible apply Row.drew) | (with_reducible apply Row.drewN) | omega | (simp; done) | (simp; omega)))) hb
  (try clear cX fX lX)
  obtain ⟨cX, fX, lX⟩ := rX
  rw [hS] at cX fX lX
  clear hb HKB b0
  cases F
  · obtain rfl : r = -1 := by
      rcases HR.out with ⟨_, h⟩ | ⟨h, _⟩
      · exact h
      · rw [HF.out] at h; cases h
    clear HR
    go_wp2_with fail
    go_ret
    exact ⟨rfl, b1.out⟩
  · by_cases h0 : n = 0
    · obtain rfl : r = -1 := by
        rcases HR.out with ⟨_, h⟩ | ⟨_, h, _⟩
        · exact h
        · have := Hn.out; omega
      have e0 : ((n : Int) == 0) = true := by simp [h0]
      clear HR h0
      go_wp2_with fail
      go_ret
      exact ⟨rfl, b1.out⟩
    · have e0 : ((n : Int) == 0) = false := by simp only [beq_eq_false_iff_ne, ne_eq]; omega
      obtain ⟨b, off, rfl, hlt, hc⟩ := HeldAt.at HH.out (by have := Hn.out; omega)
      obtain ⟨s0, s1, s2, s3, s4, s5, s6⟩ := hc 0 (by have := Hn.out; omega)
      have hfst := buf_first HF.out (by have := Hn.out; omega)
      have hr : (zs.getD 0 default).a0 = nx ∧ r = 0 ∨ (zs.getD 0 default).a0 ≠ nx ∧ r = (zs.getD 0 default).a6 + dl := by
        rcases HR.out with ⟨h, _⟩ | ⟨_, _, h⟩
        · rcases h with h | h
          · rw [HF.out] at h; cases h
          · have := Hn.out; omega
        · exact h
      obtain ⟨x, hx⟩ : ∃ x, zs.getD 0 default = x := ⟨_, rfl⟩
      rw [hx] at s0 s1 s2 s3 s4 s5 s6 hfst hr
      simp only [Nat.zero_mul, Nat.add_zero] at s0 s1 s2 s3 s4 s5 s6
      replace s0 := (b1.out.cell (p := ⟨b, off, none⟩) hlt).trans s0
      replace s1 := (b1.out.cell (p := ⟨b, off + 1, none⟩) hlt).trans s1
      replace s2 := (b1.out.cell (p := ⟨b, off + 2, none⟩) hlt).trans s2
      replace s3 := (b1.out.cell (p := ⟨b, off + 3, none⟩) hlt).trans s3
      replace s4 := (b1.out.cell (p := ⟨b, off + 4, none⟩) hlt).trans s4
      replace s5 := (b1.out.cell (p := ⟨b, off + 5, none⟩) hlt).trans s5
      replace s6 := (b1.out.cell (p := ⟨b, off + 6, none⟩) hlt).trans s6
      obtain ⟨f1, f2, f3, f4⟩ := hfst
      have g0 : (0 : Int) < (n : Int) := by omega
      have Hr := hide hr
      have nXY : ¬ S = w1.heap.size := by omega
      clear hx hc hr HR hlt
      by_cases h1 : x.a0 = nx
      · obtain rfl : r = 0 := by
          rcases Hr.out with ⟨_, h⟩ | ⟨h, _⟩
          · exact h
          · exact absurd h1 h
        have e1 : (x.a0 == nx) = true := by simpa using h1
        clear h1
        go_wp2_with fail
        go_ret
        exact ⟨rfl, b1.out.alloc b1.out.size _⟩
      · obtain rfl : r = x.a6 + dl := by
          rcases Hr.out with ⟨h, _⟩ | ⟨_, h⟩
          · exact absurd h h1
          · exact h
        have e1 : (x.a0 == nx) = false := by simpa using h1
        have w0 : IntKind.i64.wrap (x.a6 + dl) = x.a6 + dl := IntWalk.i64_in _ (by omega)
        clear h1
        go_wp2_with fail
        go_ret
        exact ⟨rfl, b1.out.alloc b1.out.size _⟩
set_option maxHeartbeats 2000000 in
theorem specBufferTime (A : Option Addr) (c : Nat) (nx dl : Int) (zs : List VHeld) (r : Int) (w : World) (hR : relTime nx dl zs r) (h : HeldAt w A zs) (hm : zs.length ≤ 1048576) :
    Calls Try.prog 21 #[.agg #[.int .i64 nx, .int .i64 dl, .slice A zs.length c]] w (RetV (.int .i64 r) w) := by
  have HH := hide h
  have KB := specBufferValid A c nx dl zs (w.alloc (.cells #[.int .i64 nx, .int .i64 dl, .slice A zs.length c] 38)) (RecAt.below h ((Below.refl _ _).alloc (Nat.le_refl _) _)) hm
  have HR := hide hR
  obtain ⟨n, hn⟩ : ∃ n, zs.length = n := ⟨_, rfl⟩
  rw [hn] at hm KB ⊢
  obtain ⟨F, hF⟩ : ∃ F, bufB nx dl zs = F := ⟨_, rfl⟩
  rw [hF] at KB
  have HF := hide hF
  have Hn := hide hn
  have HKB := hide KB
  obtain ⟨S, hS⟩ : ∃ S, w.heap.size = S := ⟨_, rfl⟩
  have b0 := hide ((Below.refl w.heap.size w).alloc (Nat.le_refl _) (.cells #[.int .i64 nx, .int .i64 dl, .slice A n c] 38))
  clear h hR hn hF KB
  go_enter Try.func21, Try.ntmps21
  go_wp2_with fail
  refine HKB.out.mono ?_
  rintro e w1 ⟨rfl, hb⟩
  have b1 := hide (b0.out.trans (hb.mono (by simp)))
  have rX : Row w1 (w.heap.size) _ := Row.below (by (repeat' (first | (with_reducible assumption) | (with_reducible exact Row.new _ _ _) | (with_reducible exact Row.new1 _ _ _ _) | (with_reducible exact Row.new2 _ _ _ _ _) | (with_reducible exact Row.new2' _ _ _ _ _) | ((with_reducible apply Row.mk) <;> (with_reducible assumption)) | (with_reducible apply Row.alloc) | (with_reducible apply Row.set) | (with_reducible apply Row.far) | (with_reducible apply Row.drew) | (with_reducible apply Row.drewN) | omega | (simp; done) | (simp; omega)))) hb
  (try clear cX fX lX)
  obtain ⟨cX, fX, lX⟩ := rX
  rw [hS] at cX fX lX
  clear hb HKB b0
  cases F
  · obtain rfl : r = -1 := by
      rcases HR.out with ⟨_, h⟩ | ⟨h, _⟩
      · exact h
      · rw [HF.out] at h; cases h
    clear HR
    go_wp2_with fail
    go_ret
    exact ⟨rfl, b1.out⟩
  · by_cases h0 : n = 0
    · obtain rfl : r = -1 := by
        rcases HR.out with ⟨_, h⟩ | ⟨_, h, _⟩
        · exact h
        · have := Hn.out; omega
      have e0 : ((n : Int) == 0) = true := by simp [h0]
      clear HR h0
      go_wp2_with fail
      go_ret
      exact ⟨rfl, b1.out⟩
    · have e0 : ((n : Int) == 0) = false := by simp only [beq_eq_false_iff_ne, ne_eq]; omega
      obtain ⟨b, off, rfl, hlt, hc⟩ := HeldAt.at HH.out (by have := Hn.out; omega)
      obtain ⟨s0, s1, s2, s3, s4, s5, s6⟩ := hc 0 (by have := Hn.out; omega)
      have hfst := buf_first HF.out (by have := Hn.out; omega)
      have hr : (zs.getD 0 default).a0 = nx ∧ r = 0 ∨ (zs.getD 0 default).a0 ≠ nx ∧ r = (zs.getD 0 default).a6 + dl := by
        rcases HR.out with ⟨h, _⟩ | ⟨_, _, h⟩
        · rcases h with h | h
          · rw [HF.out] at h; cases h
          · have := Hn.out; omega
        · exact h
      obtain ⟨x, hx⟩ : ∃ x, zs.getD 0 default = x := ⟨_, rfl⟩
      rw [hx] at s0 s6 hfst hr
      simp only [Nat.zero_mul, Nat.add_zero] at s0 s6
      replace s0 := (b1.out.cell (p := ⟨b, off, none⟩) hlt).trans s0
      replace s6 := (b1.out.cell (p := ⟨b, off + 6, none⟩) hlt).trans s6
      obtain ⟨f1, f2, f3, f4⟩ := hfst
      have g0 : (0 : Int) < (n : Int) := by omega
      have Hr := hide hr
      clear hx hc hr HR hlt s1 s2 s3 s4 s5
      by_cases h1 : x.a0 = nx
      · obtain rfl : r = 0 := by
          rcases Hr.out with ⟨_, h⟩ | ⟨h, _⟩
          · exact h
          · exact absurd h1 h
        have e1 : (x.a0 == nx) = true := by simpa using h1
        clear h1
        go_wp2_with fail
        go_quiet (fail)
        go_wp2_with fail
        go_ret
        exact ⟨rfl, below_drewN' b1.out _⟩
      · obtain rfl : r = x.a6 + dl := by
          rcases Hr.out with ⟨h, _⟩ | ⟨_, h⟩
          · exact absurd h h1
          · exact h
        have e1 : (x.a0 == nx) = false := by simpa using h1
        have w0 : IntKind.i64.wrap (x.a6 + dl) = x.a6 + dl := IntWalk.i64_in _ (by omega)
        clear h1
        go_wp2_with fail
        go_quiet (fail)
        go_wp2_with fail
        go_quiet (fail)
        go_wp2_with fail
        go_ret
        refine ⟨by first | rfl | (congr 2; omega) | (simp; done), ?_⟩
        have := b1.out
        (repeat' (first | (with_reducible exact Below.refl _ _) | (with_reducible assumption) | (with_reducible refine Below.alloc ?_ ?_ _) | (with_reducible refine Below.setCell ?_ ?_ _) | (with_reducible refine Below.drew ?_) | (with_reducible refine below_drewN' ?_ _) | (with_reducible refine below_step (by assumption) ?_ ?_) | (with_reducible refine below_gstep (by assumption) ?_ ?_ ?_) | (with_reducible exact Below.size (by assumption)) | omega | (simp; done) | (simp; omega)))
end Go.Proofs.Ytjbengphioankaa
