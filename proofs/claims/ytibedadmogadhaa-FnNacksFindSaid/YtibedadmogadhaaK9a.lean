/- Walks of FnNacks. -/
import Derived.Test.YtibedadmogadhaaK6
import Derived.Test.YtibedadmogadhaaK7
namespace Go.Proofs.Ytibedadmogadhaa
open Go.ChangeShapes Go.WideShapes Go.ChangeAt Go.RowKit Go.Deep

/-- What asks for numbers asks for just these. -/
theorem nacks_back {zs : List Int} (h : ascB zs = true) : relNacksList (nk zs) zs true ∧ (nk zs).length ≤ zs.length := by
  have I := nk_inv zs (of_decide_eq_true h).1
  refine ⟨.inl ⟨?_, I.ex.symm, rfl⟩, I.len⟩
  unfold listB
  rw [Bool.and_eq_true, List.all_eq_true]
  exact ⟨I.ok, by rw [I.ex]; exact h⟩
set_option maxHeartbeats 2000000 in
theorem walk_fnNacks {H : Type} {enc : TypeId × Value → H} (W : World) (base : Nat) (v : Value) (d : DataW H) (p : List MemPlace) (o : Value.okWide Try.prog W .any base 22 v) (h : DataW.Trod enc Try.prog W 0 (fun _ => true) true 22 v d p) :
    Calls Try.prog 9 #[v] W (RetB true W) := by
  obtain ⟨A, n, c, rfl, hn, hm, hcode⟩ := open_code W base v d p o h
  clear o h
  by_cases hbig : 1048576 < (n : Int)
  · clear hcode
    go_enter Try.func9, Try.ntmps9
    go_wp2_with fail
    go_ret
    refine ⟨rfl, ?_⟩
    (repeat' (first | (with_reducible exact Below.refl _ _) | (with_reducible assumption) | (with_reducible refine Below.alloc ?_ ?_ _) | (with_reducible refine Below.setCell ?_ ?_ _) | (with_reducible refine Below.drew ?_) | (with_reducible refine below_drewN' ?_ _) | (with_reducible refine below_step (by assumption) ?_ ?_) | (with_reducible refine below_gstep (by assumption) ?_ ?_ ?_) | (with_reducible exact Below.size (by assumption)) | omega | (simp; done) | (simp; omega)))
  · have Hcode := hide hcode
    clear hcode
    go_enter Try.func9, Try.ntmps9
    go_wp2_with fail
    refine (drawNacksOf W.heap.size A n c _ Hcode.out hn hm (Nat.le_refl _)).mono ?_
    rintro e w1 ⟨g1, c1, zs, rfl, hl1, hg1, o1, bl⟩
    clear Hcode
    obtain ⟨ys, B, hR⟩ := relNacksOf_some zs
    have HR := hide hR
    have hly := relOf_len hR
    clear hR
    go_wp2_with fail
    refine (implNacksOf _ _ zs ys B _ HR.out (own_ints o1) (by omega)).mono ?_
    rintro e w2 ⟨g2, c2, rfl, hg2, o2, hb⟩
    have o1 := o1.below hb
    have bl := bl.trans (hb.mono bl.size)
    clear hb
    go_wp2_with fail
    refine (specNacksOf _ _ zs ys B _ HR.out (own_ints o1) (by omega)).mono ?_
    rintro e w3 ⟨g3, c3, rfl, hg3, o3, hb⟩
    have o1 := o1.below hb
    have o2 := o2.below hb
    have bl := bl.trans (hb.mono bl.size)
    clear hb
    have N2 := hide (ownNack o2 rfl)
    have N3 := hide (ownNack o3 rfl)
    have O1 := hide o1
    clear o1 o2 o3
    cases B
    · go_wp2_with fail
      refine (sameNacks_same _ _ _ _ ys _ N2.out N3.out (by omega)).mono ?_
      rintro e w4 ⟨rfl, n4, rfl⟩
      go_wp2_with fail
      refine (sameNacks_same _ _ _ _ ys _ (N2.out.drewN n4) (N3.out.drewN n4) (by omega)).mono ?_
      rintro e w5 ⟨rfl, n5, rfl⟩
      go_wp2_with fail
      go_ret
      exact ⟨rfl, below_drewN' bl (n4 + n5)⟩
    · go_wp2_with fail
      refine (sameNacks_same _ _ _ _ ys _ N2.out N3.out (by omega)).mono ?_
      rintro e w4 ⟨rfl, n4, rfl⟩
      have bl4 := below_drewN' bl n4
      have N2 := hide (N2.out.drewN n4)
      have O1 := hide (O1.out.drewN n4)
      generalize w3.drewN n4 = w4 at *
      clear bl N3
      have hL : relNacksList ys zs true ∧ ys.length ≤ zs.length := by
        rcases HR.out with ⟨h1, rfl, _⟩ | ⟨_, _, h3⟩
        · exact nacks_back h1
        · cases h3
      have HL := hide hL.1
      have hle := hL.2
      clear hL
      go_wp2_with fail
      refine (implNacksList _ _ ys zs true _ HL.out N2.out (by omega)).mono ?_
      rintro e w5 ⟨g5, c5, rfl, hg5, o5, hb⟩
      have o1 := O1.out.below hb
      have bl5 := bl4.trans (hb.mono bl4.size)
      clear hb
      have q1 : decide ((ys.length : Int) ≤ (zs.length : Int)) = true := decide_eq_true (by omega)
      have q2 : decide (ys.length ≤ zs.length) = true := decide_eq_true hle
      go_wp2_with fail
      refine (sameInts_same _ _ _ _ zs _ (own_ints o5) (own_ints o1) (by omega)).mono ?_
      rintro e w6 ⟨rfl, n6, rfl⟩
      go_wp2_with fail
      go_ret
      exact ⟨by first | rfl | (simp; done) | (simp; omega), below_drewN' bl5 n6⟩
end Go.Proofs.Ytibedadmogadhaa
