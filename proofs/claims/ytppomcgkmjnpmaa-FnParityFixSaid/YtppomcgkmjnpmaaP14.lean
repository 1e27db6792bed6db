/- Walks of FnParityFits, FnParityDamage. -/
import Derived.Test.YtppomcgkmjnpmaaP13
namespace Go.Proofs.Ytppomcgkmjnpmaa
open Go.ChangeShapes Go.WideShapes Go.ChangeAt Go.RowKit Go.Deep

theorem implFitsOwn {w : World} {B g n cap g2 m c2 : Nat} {bs : List VBod} {p : List Int} (ob : OwnBod w B g n cap bs) (o2 : Own w 3 1 g2 m c2 (p.map (Value.int .i64))) (hn : n ≤ 1048576) (hm : m ≤ 1048576) :
    Calls Try.prog 19 #[.slice (some ⟨g, 0, none⟩) n cap, .slice (some ⟨g2, 0, none⟩) m c2] w (RetB (fitsB (bs.map VBod.zs) p) w) := by
  have e : (bs.map VBod.zs).length = n := by rw [List.length_map]; exact ob.len
  have e2 : p.length = m := by have := o2.len; simpa using this
  have := implParityFits (some ⟨g, 0, none⟩) (some ⟨g2, 0, none⟩) cap c2 (bs.map VBod.zs) p w (bod_of ob) (own_ints o2) (by omega) (by omega)
  rwa [e, e2] at this
theorem specFitsOwn {w : World} {B g n cap g2 m c2 : Nat} {bs : List VBod} {p : List Int} (ob : OwnBod w B g n cap bs) (o2 : Own w 3 1 g2 m c2 (p.map (Value.int .i64))) (hn : n ≤ 1048576) (hm : m ≤ 1048576) :
    Calls Try.prog 20 #[.slice (some ⟨g, 0, none⟩) n cap, .slice (some ⟨g2, 0, none⟩) m c2] w (RetB (fitsB (bs.map VBod.zs) p) w) := by
  have e : (bs.map VBod.zs).length = n := by rw [List.length_map]; exact ob.len
  have e2 : p.length = m := by have := o2.len; simpa using this
  have := specParityFits (some ⟨g, 0, none⟩) (some ⟨g2, 0, none⟩) cap c2 (bs.map VBod.zs) p w (bod_of ob) (own_ints o2) (by omega) (by omega)
  rwa [e, e2] at this
theorem sameAny {w : World} {g g2 n m cp cp2 : Nat} {a b : List Int} (o1 : Own w 3 1 g n cp (a.map (Value.int .i64))) (o2 : Own w 3 1 g2 m cp2 (b.map (Value.int .i64))) (hn : n ≤ 1048576) (hm : m ≤ 1048576) :
    Calls Try.prog 16 #[.slice (some ⟨g, 0, none⟩) n cp, .slice (some ⟨g2, 0, none⟩) m cp2] w (RetQ (.bool (decide (a = b))) w) := by
  have e : a.length = n := by have := o1.len; simpa using this
  have e2 : b.length = m := by have := o2.len; simpa using this
  have := sameInts_any (some ⟨g, 0, none⟩) (some ⟨g2, 0, none⟩) cp cp2 a b w (own_ints o1) (own_ints o2) (by omega) (by omega)
  rwa [e, e2] at this
set_option maxHeartbeats 4000000 in
theorem walk_fnParityFits {H : Type} {enc : TypeId × Value → H} (W : World) (base : Nat) (v : Value) (d : DataW H) (p : List MemPlace) (o : Value.okWide Try.prog W .any base 22 v) (h : DataW.Trod enc Try.prog W 0 (fun _ => true) true 22 v d p) :
    Calls Try.prog 10 #[v] W (RetB true W) := by
  obtain ⟨A, n, c, rfl, hn, hm, hcode⟩ := open_code W base v d p o h
  clear o h
  by_cases hbig : 1048576 < (n : Int)
  · clear hcode
    go_enter Try.func10, Try.ntmps10
    go_wp2_with fail
    go_ret
    refine ⟨rfl, ?_⟩
    (repeat' (first | (with_reducible exact Below.refl _ _) | (with_reducible assumption) | (with_reducible refine Below.alloc ?_ ?_ _) | (with_reducible refine Below.setCell ?_ ?_ _) | (with_reducible refine Below.drew ?_) | (with_reducible refine below_drewN' ?_ _) | (with_reducible refine below_step (by assumption) ?_ ?_) | (with_reducible refine below_gstep (by assumption) ?_ ?_ ?_) | (with_reducible exact Below.size (by assumption)) | omega | (simp; done) | (simp; omega)))
  have Hcode := hide hcode
  clear hcode
  go_enter Try.func10, Try.ntmps10
  go_wp2_with fail
  refine (drawParityFits W.heap.size A n c _ Hcode.out hn hm (Nat.le_refl _)).mono ?_
  rintro e w1 ⟨g1, c1, bs, g2, c2, pr, rfl, hl1, hf1, hlp, ob, o2, hg1, hg2, bl⟩
  clear Hcode hf1
  obtain ⟨q, hq⟩ : ∃ q, bs.length = q := ⟨_, rfl⟩
  obtain ⟨m, hmm⟩ : ∃ q, pr.length = q := ⟨_, rfl⟩
  rw [hq] at hl1 ob ⊢
  rw [hmm] at hlp o2 ⊢
  obtain ⟨F, hF⟩ : ∃ F, fitsB (bs.map VBod.zs) pr = F := ⟨_, rfl⟩
  have K1 := fun w' (h1 : Below w1.heap.size w1 w') => implFitsOwn (ob.below h1) (o2.below h1) (by omega) (by omega)
  have K2 := fun w' (h1 : Below w1.heap.size w1 w') => specFitsOwn (ob.below h1) (o2.below h1) (by omega) (by omega)
  rw [hF] at K1 K2
  have HF := hide hF
  obtain ⟨ys, b, hR⟩ := relPar_some (bs.map VBod.zs)
  have HR := hide hR
  have hly := (relPar_bd hR).1
  have HK2 := hide K2
  have Ob := hide ob
  have O2 := hide o2
  have Bl := hide bl
  clear hq hmm hF hR ob o2 bl K2
  go_wp2_with fail
  refine (K1 _ (Below.refl _ _)).mono ?_
  rintro e w2 ⟨rfl, b2⟩
  have B2 := hide b2
  clear b2 K1
  go_wp2_with fail
  refine (HK2.out _ B2.out).mono ?_
  rintro e w3 ⟨rfl, b3⟩
  have B3 := hide (B2.out.trans (b3.mono B2.out.size))
  clear b3 B2 HK2
  have e0 : (F != F) = false := by cases F <;> rfl
  go_wp2_with fail
  refine (implParOwn (Ob.out.below B3.out) HR.out (by omega)).mono ?_
  rintro e w4 ⟨g4, c4, rfl, hg4, o4, b4⟩
  have B4 := hide (B3.out.trans (b4.mono B3.out.size))
  have O4 := hide o4
  have BB := hide (Bl.out.trans (B4.out.mono Bl.out.size))
  clear b4 o4 e0
  cases b
  · have hf : F = false := by rw [← HF.out]; exact fits_no HR.out
    subst hf
    go_wp2_with fail
    go_ret
    exact ⟨by first | rfl | (simp; done), BB.out⟩
  · obtain ⟨h1, h2, h3, rfl⟩ := relPar_true HR.out
    have hf : F = decide (par [0] (bs.map VBod.zs) = pr) := by
      rw [← HF.out]
      unfold fitsB
      rw [parB_yes rfl (by omega) (by omega) h1, Bool.true_and]
    have e1 : (F == F) = true := by cases F <;> rfl
    have KS := fun w h1 h2 => sameAny (w := w) (g := g4) (g2 := g2) (n := (par [0] (bs.map VBod.zs)).length) (m := m) (cp := c4) (cp2 := c2) (a := par [0] (bs.map VBod.zs)) (b := pr) h1 h2 (by omega) (by omega)
    rw [← hf] at KS
    have HKS := hide KS
    clear KS hf h1
    go_wp2_with fail
    refine (HKS.out _ O4.out (O2.out.below B4.out)).mono ?_
    rintro e w5 ⟨rfl, n5, rfl⟩
    go_wp2_with fail
    go_ret
    exact ⟨by first | rfl | (simp; done), below_drewN' BB.out n5⟩
end Go.Proofs.Ytppomcgkmjnpmaa
