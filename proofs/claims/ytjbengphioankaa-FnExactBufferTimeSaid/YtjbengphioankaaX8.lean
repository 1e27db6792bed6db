/- Walk of FnExactBufferTime. -/
import Derived.Test.YtjbengphioankaaX7
namespace Go.Proofs.Ytjbengphioankaa
open Go.ChangeShapes Go.WideShapes Go.ChangeAt Go.RowKit Go.Deep

set_option maxRecDepth 100000 in
set_option maxHeartbeats 4000000 in
theorem walk_fnExactBufferTime {H : Type} {enc : TypeId × Value → H} (W : World) (base : Nat) (v : Value) (d : DataW H) (p : List MemPlace) (o : Value.okWide Try.prog W .any base 52 v) (h : DataW.Trod enc Try.prog W 0 (fun _ => true) true 52 v d p) :
    Calls Try.prog 9 #[v] W (RetB true W) := by
  obtain ⟨e, cr, A, c, zs, rfl, hn, hm, hA⟩ := openBuffer W base v d p o h
  clear o h
  obtain ⟨F, hRel⟩ := relTime_some e cr zs
  have K1 := fun n w (hn : zs.length = n) (h1 : n ≤ 1048576) => szBuffer_any A n c e cr 1048576 w (by omega) (by omega) (by omega)
  obtain ⟨n, hnn⟩ : ∃ n, zs.length = n := ⟨_, rfl⟩
  have KZ := fun w => szBuffer_any A n c e cr 1048576 w (by omega) (by omega) (by omega)
  have KT := fun w h (hl : zs.length ≤ 1048576) => toBuffer_any A c e cr zs w h hl
  have KS := fun g w h (hl : zs.length ≤ 1048576) => specBufferTime (some ⟨g, 0, none⟩) zs.length e cr zs F w hRel h hl
  have KI := fun g w h (hl : zs.length ≤ 1048576) => implBufferTime (some ⟨g, 0, none⟩) zs.length e cr zs F w hRel h hl
  have KE := fun g g2 w h1 h2 (hl : zs.length ≤ 1048576) => eqBuffer_same (some ⟨g, 0, none⟩) (some ⟨g2, 0, none⟩) zs.length zs.length e cr zs w h1 h2 hl
  unfold CopiedBuffer at KT
  rw [hnn] at KT KS KI KE hn ⊢
  have HA := hide hA
  have Hn := hide hnn
  have e0 : (F != F) = false := by simp
  have HKZ := hide KZ
  have HKT := hide KT
  have HKS := hide KS
  have HKI := hide KI
  have HKE := hide KE
  obtain ⟨S, hS⟩ : ∃ S, W.heap.size = S := ⟨_, rfl⟩
  clear hA hnn hRel K1 KZ KT KS KI KE
  go_enter Try.func9, Try.ntmps9
  go_wp2_with fail
  refine (HKZ.out _).mono ?_
  rintro en w1 ⟨rfl, hb⟩
  have bl := ((Below.refl _ W).alloc (Nat.le_refl _) (.cells #[.int .i64 e, .int .i64 cr, .slice A n c] 52)).trans (hb.mono (by simp))
  have rX : Row w1 (W.heap.size) _ := Row.below (by (repeat' (first | (with_reducible assumption) | (with_reducible exact Row.new _ _ _) | (with_reducible exact Row.new1 _ _ _ _) | (with_reducible exact Row.new2 _ _ _ _ _) | (with_reducible exact Row.new2' _ _ _ _ _) | ((with_reducible apply Row.mk) <;> (with_reducible assumption)) | (with_reducible apply Row.alloc) | (with_reducible apply Row.set) | (with_reducible apply Row.far) | (with_reducible apply Row.drew) | (with_reducible apply Row.drewN) | omega | (simp; done) | (simp; omega)))) hb
  (try clear cX fX lX)
  obtain ⟨cX, fX, lX⟩ := rX
  rw [hS] at cX fX lX
  have Bl := hide bl
  clear hb bl
  by_cases hb : 1048576 - (n : Int) < 0
  · rw [if_pos hb]
    clear hb
    go_wp2_with fail
    go_ret
    exact ⟨rfl, Bl.out⟩
  · rw [if_neg hb]
    have l0 : n ≤ 1048576 := by omega
    have hb' : ¬ 1048576 < (n : Int) := by omega
    obtain ⟨lf, hlf⟩ : ∃ lf : Int, 1048576 - (n : Int) = lf := ⟨_, rfl⟩
    have hlf1 : ¬ lf < 0 := by omega
    rw [hlf]
    clear hlf hb
    go_wp2_with fail
    refine (HKT.out _ (RecAt.below HA.out Bl.out) l0).mono ?_
    rintro en w2 ⟨g2, rfl, hg2, o2, hb⟩
    have rX : Row w2 (S) _ := Row.below (by (repeat' (first | (with_reducible assumption) | (with_reducible exact Row.new _ _ _) | (with_reducible exact Row.new1 _ _ _ _) | (with_reducible exact Row.new2 _ _ _ _ _) | (with_reducible exact Row.new2' _ _ _ _ _) | ((with_reducible apply Row.mk) <;> (with_reducible assumption)) | (with_reducible apply Row.alloc) | (with_reducible apply Row.set) | (with_reducible apply Row.far) | (with_reducible apply Row.drew) | (with_reducible apply Row.drewN) | omega | (simp; done) | (simp; omega)))) hb
    (try clear cX fX lX)
    obtain ⟨cX, fX, lX⟩ := rX
    have Bl := hide (Bl.out.trans (hb.mono Bl.out.size))
    have W2 := hide (ownHeld o2 Hn.out)
    clear hb o2
    go_wp2_with fail
    refine (HKS.out _ _ W2.out l0).mono ?_
    rintro en w3 ⟨rfl, hb⟩
    have rX : Row w3 (S) _ := Row.below (by (repeat' (first | (with_reducible assumption) | (with_reducible exact Row.new _ _ _) | (with_reducible exact Row.new1 _ _ _ _) | (with_reducible exact Row.new2 _ _ _ _ _) | (with_reducible exact Row.new2' _ _ _ _ _) | ((with_reducible apply Row.mk) <;> (with_reducible assumption)) | (with_reducible apply Row.alloc) | (with_reducible apply Row.set) | (with_reducible apply Row.far) | (with_reducible apply Row.drew) | (with_reducible apply Row.drewN) | omega | (simp; done) | (simp; omega)))) hb
    (try clear cX fX lX)
    obtain ⟨cX, fX, lX⟩ := rX
    have Bl := hide (Bl.out.trans (hb.mono Bl.out.size))
    clear hb W2
    go_wp2_with fail
    refine (HKT.out _ (RecAt.below HA.out Bl.out) l0).mono ?_
    rintro en w4 ⟨g4, rfl, hg4, o4, hb⟩
    have rX : Row w4 (S) _ := Row.below (by (repeat' (first | (with_reducible assumption) | (with_reducible exact Row.new _ _ _) | (with_reducible exact Row.new1 _ _ _ _) | (with_reducible exact Row.new2 _ _ _ _ _) | (with_reducible exact Row.new2' _ _ _ _ _) | ((with_reducible apply Row.mk) <;> (with_reducible assumption)) | (with_reducible apply Row.alloc) | (with_reducible apply Row.set) | (with_reducible apply Row.far) | (with_reducible apply Row.drew) | (with_reducible apply Row.drewN) | omega | (simp; done) | (simp; omega)))) hb
    (try clear cX fX lX)
    obtain ⟨cX, fX, lX⟩ := rX
    have Bl := hide (Bl.out.trans (hb.mono Bl.out.size))
    have O4 := hide o4
    clear hb o4
    go_wp2_with fail
    obtain ⟨Y, hY⟩ : ∃ Y, w4.heap.size = Y := ⟨_, rfl⟩
    have nXY : ¬ S = Y := by omega
    have nYX : ¬ Y = S := by omega
    have bY := hide ((Below.refl w4.heap.size w4).alloc (Nat.le_refl _) (.cells #[.int .i64 e, .int .i64 cr, .slice (some ⟨g4, 0, none⟩) n n] 38))
    refine (HKI.out _ _ (RecAt.below (ownHeld O4.out Hn.out) bY.out) l0).mono ?_
    rintro en w5 ⟨rfl, hb⟩
    have b5 := hide (bY.out.trans (hb.mono (by simp)))
    have rX : Row w5 (S) _ := Row.below (by (repeat' (first | (with_reducible assumption) | (with_reducible exact Row.new _ _ _) | (with_reducible exact Row.new1 _ _ _ _) | (with_reducible exact Row.new2 _ _ _ _ _) | (with_reducible exact Row.new2' _ _ _ _ _) | ((with_reducible apply Row.mk) <;> (with_reducible assumption)) | (with_reducible apply Row.alloc) | (with_reducible apply Row.set) | (with_reducible apply Row.far) | (with_reducible apply Row.drew) | (with_reducible apply Row.drewN) | omega | (simp; done) | (simp; omega)))) hb
    have rY : Row w5 (w4.heap.size) _ := Row.below (by (repeat' (first | (with_reducible assumption) | (with_reducible exact Row.new _ _ _) | (with_reducible exact Row.new1 _ _ _ _) | (with_reducible exact Row.new2 _ _ _ _ _) | (with_reducible exact Row.new2' _ _ _ _ _) | ((with_reducible apply Row.mk) <;> (with_reducible assumption)) | (with_reducible apply Row.alloc) | (with_reducible apply Row.set) | (with_reducible apply Row.far) | (with_reducible apply Row.drew) | (with_reducible apply Row.drewN) | omega | (simp; done) | (simp; omega)))) hb
    (try clear cX fX lX)
    (try clear cY fY lY)
    obtain ⟨cX, fX, lX⟩ := rX
    obtain ⟨cY, fY, lY⟩ := rY
    rw [hY] at cY fY lY
    have O5 := hide (O4.out.below b5.out)
    have Bl := hide (Bl.out.trans (b5.out.mono Bl.out.size))
    have l5 := (O4.out.below b5.out).lt
    clear hb bY O4
    go_upto_region 10 with (fail)
    go_region_held3 (fun w' => (∀ o, w'.cell? ⟨S, o, none⟩ = #[Value.int .i64 e, .int .i64 cr, .slice A n c][o]?) ∧ (∀ o, w'.cell? ⟨Y, o, none⟩ = #[Value.int .i64 e, .int .i64 cr, .slice (some ⟨g4, 0, none⟩) n n][o]?)) (first | exact ⟨cX, cY⟩ | go_keep) (first | (go_at_call 28; refine (HKT.out _ (RecAt.below HA.out (Below.drew Bl.out)) l0).mono ?_; rintro en w6 ⟨g6, rfl, hg6, o6, hb6⟩; have hb6' : Below w5.heap.size w5 w6 := (Below.drew (Below.refl _ w5)).trans hb6; have rX : Row w6 S _ := Row.below (Row.mk cX fX lX) hb6'; have rY : Row w6 Y _ := Row.below (Row.mk cY fY lY) hb6'; have O6 := hide o6; have B6 := hide hb6'; clear hb6 hb6' o6; obtain ⟨cX, fX, lX⟩ := rX; obtain ⟨cY, fY, lY⟩ := rY) | (go_at_call 29; refine (HKE.out _ _ _ (ownHeld (O5.out.below B6.out) Hn.out) (ownHeld O6.out Hn.out) l0).mono ?_; rintro en w7 ⟨rfl, hb7⟩; have B7 := hide hb7; have rX : Row w7 S _ := Row.below (Row.mk cX fX lX) hb7; have rY : Row w7 Y _ := Row.below (Row.mk cY fY lY) hb7; clear hb7; obtain ⟨cX, fX, lX⟩ := rX; obtain ⟨cY, fY, lY⟩ := rY))
    all_goals
      go_wp2_with fail
      go_ret
      exact ⟨rfl, Bl.out.trans ((B6.out.mono Bl.out.size).trans (B7.out.mono (by have := Bl.out.size; have := B6.out.size; omega)))⟩
end Go.Proofs.Ytjbengphioankaa
