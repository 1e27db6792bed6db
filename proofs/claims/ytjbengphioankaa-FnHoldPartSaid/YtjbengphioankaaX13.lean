/- What DrawBufferValid, DrawBufferTime draw; walk of FnHoldTimeNone. -/
import Derived.Test.YtjbengphioankaaX12
namespace Go.Proofs.Ytjbengphioankaa
open Go.ChangeShapes Go.WideShapes Go.ChangeAt Go.RowKit Go.Deep

def NewBuf (w : World) (e : Ending) (w' : World) : Prop :=
  ∃ nx dl g c zs, e = .returned (.agg #[.int .i64 nx, .int .i64 dl, .slice (some ⟨g, 0, none⟩) (List.length zs) c]) ∧ zs.length ≤ 10 ∧ w.heap.size ≤ g ∧ Own w' 72 7 g zs.length c (zs.map VHeld.cells).flatten ∧ Below w.heap.size w w'
set_option maxHeartbeats 4000000 in
theorem drawBufferValid (B : Nat) (A : Option Addr) (n c : Nat) (w : World) (hcode : Code w B A n) (hn : n ≤ c) (hm : c ≤ 9223372036854775807) (hB : B ≤ w.heap.size) :
    Calls Try.prog 16 #[.slice A n c] w (NewBuf w) := by
  have Hcode := hide hcode
  clear hcode
  obtain ⟨Z, hZ⟩ : ∃ Z, w.heap.size = Z := ⟨_, rfl⟩
  have RZ := Row.new w #[.int .i64 0, .int .i64 0, .slice none 0 0] 38
  have b0 := (Below.refl w.heap.size w).alloc (Nat.le_refl _) (.cells #[.int .i64 0, .int .i64 0, .slice none 0 0] 38)
  have Bh := hide b0
  have RZh := hide RZ
  clear b0 RZ
  go_enter Try.func16, Try.ntmps16
  go_wp2_with fail
  refine (l6Open_any B A n c _ (Hcode.out.alloc _) hn hm (by simp; omega)).mono ?_
  rintro e w1 ⟨R, rfl, hR, hr, hb1⟩
  have rZ := RZh.out.below hb1
  have b1 := Bh.out.trans (hb1.mono (by simp))
  have hR2 : w.heap.size < R := by simp at hR; omega
  have s1 := b1.size
  clear Hcode hb1 hR Bh RZh
  have HrZ := hide rZ
  have B1 := hide b1
  clear rZ b1
  go_wp2_with fail
  have lR := hr.lt
  refine (l92Buffer_any B R _ hr).mono ?_
  rintro e w2 ⟨nx, dl, g, cc, zs, now, rfl, hl, hg, o2, hg2⟩
  have HrZ := hide (HrZ.out.grown hg2 (by omega))
  have B2 := hide (B1.out.grown hg2 s1 (by intro k hk; simp at hk; omega))
  have Hl := hide hl
  have O2 := hide o2
  have lz := HrZ.out.2.2
  have lg := o2.lt
  have hgw : w.heap.size ≤ g := by omega
  have hgZ : g ≠ w.heap.size ∨ g = w.heap.size := by omega
  clear hg2 o2 hl hr B1
  obtain ⟨cZ, fZ, lZ⟩ := HrZ.out
  obtain ⟨m, hmm⟩ : ∃ m, zs.length = m := ⟨_, rfl⟩
  have Hmm := hide hmm
  rw [hmm] at O2 ⊢
  clear hmm
  have hgw1 : w.heap.size < w1.heap.size := by omega
  have sB2 := B2.out.size
  have lW2 : w.heap.size < w2.heap.size := lZ
  have hZle : w.heap.size ≤ Z := by omega
  rw [hZ] at cZ fZ lZ
  have hgz : g ≠ Z := by omega
  have nZ2 : ¬ Z = w2.heap.size := by omega
  have nZ3 : ¬ w2.heap.size = Z := by omega
  clear hZ hgZ lz lW2 hgw1 HrZ
  go_wp2_with fail
  refine bodyPost_ret (by first | (simp (maxDischargeDepth := 3) [results, Try.results16, go_sem, *]; done) | (simp (maxDischargeDepth := 3) [results, Try.results16, go_sem, *]; rfl) | (simp (maxDischargeDepth := 7) [results, Try.results16, go_sem, *]; done) | (simp (maxDischargeDepth := 7) [results, Try.results16, go_sem, *]; rfl)) rfl ?_
  refine ⟨nx, dl, g, cc, zs, by rw [Hmm.out], Hl.out, hgw, ?_, ?_⟩
  · rw [Hmm.out]
    first
      | exact ((((O2.out.alloc _).far (by show g ≠ Z; omega) _).far (by show g ≠ Z; omega) _).far (by show g ≠ Z; omega) _)
      | exact (((O2.out.far (by show g ≠ Z; omega) _).far (by show g ≠ Z; omega) _).far (by show g ≠ Z; omega) _).alloc _
  · have bb := B2.out
    (repeat' (first | (with_reducible exact Below.refl _ _) | (with_reducible assumption) | (with_reducible refine Below.alloc ?_ ?_ _) | (with_reducible refine Below.setCell ?_ ?_ _) | (with_reducible refine Below.drew ?_) | (with_reducible refine below_drewN' ?_ _) | (with_reducible refine below_step (by assumption) ?_ ?_) | (with_reducible refine below_gstep (by assumption) ?_ ?_ ?_) | (with_reducible exact Below.size (by assumption)) | omega | (simp; done) | (simp; omega)))
set_option maxHeartbeats 4000000 in
theorem drawBufferTime (B : Nat) (A : Option Addr) (n c : Nat) (w : World) (hcode : Code w B A n) (hn : n ≤ c) (hm : c ≤ 9223372036854775807) (hB : B ≤ w.heap.size) :
    Calls Try.prog 19 #[.slice A n c] w (NewBuf w) := by
  have Hcode := hide hcode
  clear hcode
  obtain ⟨Z, hZ⟩ : ∃ Z, w.heap.size = Z := ⟨_, rfl⟩
  have RZ := Row.new w #[.int .i64 0, .int .i64 0, .slice none 0 0] 38
  have b0 := (Below.refl w.heap.size w).alloc (Nat.le_refl _) (.cells #[.int .i64 0, .int .i64 0, .slice none 0 0] 38)
  have Bh := hide b0
  have RZh := hide RZ
  clear b0 RZ
  go_enter Try.func19, Try.ntmps19
  go_wp2_with fail
  refine (l6Open_any B A n c _ (Hcode.out.alloc _) hn hm (by simp; omega)).mono ?_
  rintro e w1 ⟨R, rfl, hR, hr, hb1⟩
  have rZ := RZh.out.below hb1
  have b1 := Bh.out.trans (hb1.mono (by simp))
  have hR2 : w.heap.size < R := by simp at hR; omega
  have s1 := b1.size
  clear Hcode hb1 hR Bh RZh
  have HrZ := hide rZ
  have B1 := hide b1
  clear rZ b1
  go_wp2_with fail
  have lR := hr.lt
  refine (l92Buffer_any B R _ hr).mono ?_
  rintro e w2 ⟨nx, dl, g, cc, zs, now, rfl, hl, hg, o2, hg2⟩
  have HrZ := hide (HrZ.out.grown hg2 (by omega))
  have B2 := hide (B1.out.grown hg2 s1 (by intro k hk; simp at hk; omega))
  have Hl := hide hl
  have O2 := hide o2
  have lz := HrZ.out.2.2
  have lg := o2.lt
  have hgw : w.heap.size ≤ g := by omega
  have hgZ : g ≠ w.heap.size ∨ g = w.heap.size := by omega
  clear hg2 o2 hl hr B1
  obtain ⟨cZ, fZ, lZ⟩ := HrZ.out
  obtain ⟨m, hmm⟩ : ∃ m, zs.length = m := ⟨_, rfl⟩
  have Hmm := hide hmm
  rw [hmm] at O2 ⊢
  clear hmm
  have hgw1 : w.heap.size < w1.heap.size := by omega
  have sB2 := B2.out.size
  have lW2 : w.heap.size < w2.heap.size := lZ
  have hZle : w.heap.size ≤ Z := by omega
  rw [hZ] at cZ fZ lZ
  have hgz : g ≠ Z := by omega
  have nZ2 : ¬ Z = w2.heap.size := by omega
  have nZ3 : ¬ w2.heap.size = Z := by omega
  clear hZ hgZ lz lW2 hgw1 HrZ
  go_wp2_with fail
  refine bodyPost_ret (by first | (simp (maxDischargeDepth := 3) [results, Try.results19, go_sem, *]; done) | (simp (maxDischargeDepth := 3) [results, Try.results19, go_sem, *]; rfl) | (simp (maxDischargeDepth := 7) [results, Try.results19, go_sem, *]; done) | (simp (maxDischargeDepth := 7) [results, Try.results19, go_sem, *]; rfl)) rfl ?_
  refine ⟨nx, dl, g, cc, zs, by rw [Hmm.out], Hl.out, hgw, ?_, ?_⟩
  · rw [Hmm.out]
    first
      | exact ((((O2.out.alloc _).far (by show g ≠ Z; omega) _).far (by show g ≠ Z; omega) _).far (by show g ≠ Z; omega) _)
      | exact (((O2.out.far (by show g ≠ Z; omega) _).far (by show g ≠ Z; omega) _).far (by show g ≠ Z; omega) _).alloc _
  · have bb := B2.out
    (repeat' (first | (with_reducible exact Below.refl _ _) | (with_reducible assumption) | (with_reducible refine Below.alloc ?_ ?_ _) | (with_reducible refine Below.setCell ?_ ?_ _) | (with_reducible refine Below.drew ?_) | (with_reducible refine below_drewN' ?_ _) | (with_reducible refine below_step (by assumption) ?_ ?_) | (with_reducible refine below_gstep (by assumption) ?_ ?_ ?_) | (with_reducible exact Below.size (by assumption)) | omega | (simp; done) | (simp; omega)))

set_option maxRecDepth 10000 in
set_option maxHeartbeats 4000000 in
theorem walk_fnHoldTimeNone {H : Type} {enc : TypeId × Value → H} (W : World) (base : Nat) (v : Value) (d : DataW H) (p : List MemPlace) (o : Value.okWide Try.prog W .any base 22 v) (h : DataW.Trod enc Try.prog W 0 (fun _ => true) true 22 v d p) :
    Calls Try.prog 6 #[v] W (RetB true W) := by
  obtain ⟨A, n, c, rfl, hn, hm, hcode⟩ := open_code W base v d p o h
  clear o h
  by_cases hbig : 1048576 < (n : Int)
  · clear hcode
    go_enter Try.func6, Try.ntmps6
    go_wp2_with fail
    go_ret
    refine ⟨rfl, ?_⟩
    (repeat' (first | (with_reducible exact Below.refl _ _) | (with_reducible assumption) | (with_reducible refine Below.alloc ?_ ?_ _) | (with_reducible refine Below.setCell ?_ ?_ _) | (with_reducible refine Below.drew ?_) | (with_reducible refine below_drewN' ?_ _) | (with_reducible refine below_step (by assumption) ?_ ?_) | (with_reducible refine below_gstep (by assumption) ?_ ?_ ?_) | (with_reducible exact Below.size (by assumption)) | omega | (simp; done) | (simp; omega)))
  have Hcode := hide hcode
  clear hcode
  go_enter Try.func6, Try.ntmps6
  go_wp2_with fail
  refine (drawBufferTime W.heap.size A n c _ Hcode.out hn hm (Nat.le_refl _)).mono ?_
  rintro e w1 ⟨nx, dl, g, cc, zs, rfl, hl, hg, o1, bl⟩
  clear Hcode
  obtain ⟨m, hmm⟩ : ∃ m, zs.length = m := ⟨_, rfl⟩
  obtain ⟨r, hR⟩ := relTime_some nx dl zs
  have KI := fun w h => implBufferTime (some ⟨g, 0, none⟩) cc nx dl zs r w hR h (by omega)
  have KS := fun w h => specBufferTime (some ⟨g, 0, none⟩) cc nx dl zs r w hR h (by omega)
  have KV := fun w h => specBufferValid (some ⟨g, 0, none⟩) cc nx dl zs w h (by omega)
  obtain ⟨F, hF⟩ : ∃ F, bufB nx dl zs = F := ⟨_, rfl⟩
  rw [hF] at KV
  rw [hmm] at KI KS KV hl o1 ⊢
  have HKI := hide KI
  have HKS := hide KS
  have HKV := hide KV
  have HR := hide hR
  have HF := hide hF
  have Hm := hide hmm
  have At := hide (ownHeld o1 hmm)
  have s1 := bl.size
  have RX := Row.new w1 #[.int .i64 nx, .int .i64 dl, .slice (some ⟨g, 0, none⟩) m cc] 38
  have bX := hide ((Below.refl w1.heap.size w1).alloc (Nat.le_refl _) (.cells #[.int .i64 nx, .int .i64 dl, .slice (some ⟨g, 0, none⟩) m cc] 38))
  have RXh := hide RX
  have Bl := hide bl
  clear KI KS KV hR hF hmm o1 bl RX
  go_wp2_with fail
  refine (HKI.out _ (RecAt.below At.out bX.out)).mono ?_
  rintro e w2 ⟨rfl, hb⟩
  have rX := RXh.out.below hb
  have b2 := hide (bX.out.trans (hb.mono bX.out.size))
  clear hb bX RXh
  obtain ⟨X, hX⟩ : ∃ X, w1.heap.size = X := ⟨_, rfl⟩
  rw [hX] at rX ⊢
  obtain ⟨cX, fX, lX⟩ := rX
  have hX1 := hide hX
  clear hX
  go_wp2_with fail
  refine (HKS.out _ (RecAt.below At.out b2.out)).mono ?_
  rintro e w3 ⟨rfl, hb⟩
  have rX : Row w3 (X) _ := Row.below (by (repeat' (first | (with_reducible assumption) | (with_reducible exact Row.new _ _ _) | (with_reducible exact Row.new1 _ _ _ _) | (with_reducible exact Row.new2 _ _ _ _ _) | (with_reducible exact Row.new2' _ _ _ _ _) | ((with_reducible apply Row.mk) <;> (with_reducible assumption)) | (with_reducible apply Row.alloc) | (with_reducible apply Row.set) | (with_reducible apply Row.far) | (with_reducible apply Row.drew) | (with_reducible apply Row.drewN) | omega | (simp; done) | (simp; omega)))) hb
  (try clear cX fX lX)
  obtain ⟨cX, fX, lX⟩ := rX
  have b3 := hide (b2.out.trans (hb.mono b2.out.size))
  clear hb b2
  have e0 : (r != r) = false := by simp
  have e1 : (r == r) = true := by simp
  go_wp2_with fail
  refine (HKV.out _ (RecAt.below At.out b3.out)).mono ?_
  rintro e w4 ⟨rfl, hb⟩
  have rX : Row w4 (X) _ := Row.below (by (repeat' (first | (with_reducible assumption) | (with_reducible exact Row.new _ _ _) | (with_reducible exact Row.new1 _ _ _ _) | (with_reducible exact Row.new2 _ _ _ _ _) | (with_reducible exact Row.new2' _ _ _ _ _) | ((with_reducible apply Row.mk) <;> (with_reducible assumption)) | (with_reducible apply Row.alloc) | (with_reducible apply Row.set) | (with_reducible apply Row.far) | (with_reducible apply Row.drew) | (with_reducible apply Row.drewN) | omega | (simp; done) | (simp; omega)))) hb
  (try clear cX fX lX)
  obtain ⟨cX, fX, lX⟩ := rX
  have b4 := hide (b3.out.trans (hb.mono b3.out.size))
  have BB := hide (Bl.out.trans (b4.out.mono s1))
  clear hb b3
  cases F
  · go_wp2_with fail
    go_ret
    exact ⟨by first | rfl | (simp; done), BB.out⟩
  · by_cases hm0 : m = 0
    · have hr : r = -1 := by
        rcases HR.out with ⟨_, h⟩ | ⟨_, h, _⟩
        · exact h
        · have := Hm.out; omega
      subst hr
      have e2 : ((m : Int) == 0) = true := by simp [hm0]
      clear hm0
      go_wp2_with fail
      go_ret
      exact ⟨by first | rfl | (simp; done), BB.out⟩
    · have hr : (r == -1) = false := by
        have hf := buf_first HF.out (by have := Hm.out; omega)
        have : r ≠ -1 := by
          rcases HR.out with ⟨h, _⟩ | ⟨_, _, h⟩
          · rcases h with h | h
            · rw [HF.out] at h; cases h
            · have := Hm.out; omega
          · rcases h with ⟨_, h⟩ | ⟨_, h⟩ <;> omega
        simpa using this
      have e2 : ((m : Int) == 0) = false := by simp only [beq_eq_false_iff_ne, ne_eq]; omega
      clear hm0
      go_wp2_with fail
      go_ret
      exact ⟨by first | rfl | (simp; done), BB.out⟩
end Go.Proofs.Ytjbengphioankaa
