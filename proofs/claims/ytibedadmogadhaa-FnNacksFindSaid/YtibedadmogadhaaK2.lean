/- NacksOf of the reference: contract. -/
import Derived.Test.YtibedadmogadhaaK1
import Derived.StillTailTactics
namespace Go.Proofs.Ytibedadmogadhaa
open Go.ChangeShapes Go.WideShapes Go.ChangeAt Go.RowKit Go.Deep

set_option maxHeartbeats 4000000 in
theorem specNacksOf (A : Option Addr) (c : Nat) (zs : List Int) (ys : List VNack) (B : Bool) (w : World) (hR : relNacksOf zs ys B) (h : IntsAt w A zs) (hm : zs.length ≤ 1048576) :
    Calls Try.prog 29 #[.slice A zs.length c] w (NewNackB ys B w) := by
  rcases hR with ⟨ha, rfl, rfl⟩ | ⟨ha, rfl, rfl⟩
  · have HI := nk_inv zs
    obtain ⟨hok, hl60⟩ := of_decide_eq_true ha
    have Hok := hide hok
    clear hok HI
    have K := hide (l15Numbers_any A c zs (w.alloc (.cells #[] 48)) (h.below ((Below.refl _ _).alloc (Nat.le_refl _) _)) (by omega))
    unfold ascB at ha
    rw [ha] at K
    have Hh := hide h
    clear h ha
    obtain ⟨n, hn⟩ : ∃ n, zs.length = n := ⟨_, rfl⟩
    rw [hn] at hm hl60 Hok K ⊢
    have Hn := hide hn
    clear hn
    have Ho := hide (Own.new w #[] 48 2 0 (by unfold maxLen; omega) rfl)
    go_enter Try.func29, Try.ntmps29
    go_wp2_with fail
    refine K.out.mono ?_
    rintro e w1 ⟨rfl, n1, rfl⟩
    go_wp2_with fail
    go_loopw [4, 5] (fun s i wr => ∃ (k m g cp : Nat), s = .slice (some ⟨g, 0, none⟩) m cp ∧ i = .int .i64 k ∧ k ≤ n ∧ w.heap.size ≤ g ∧ m = (nk (zs.take k)).length ∧ Own wr 48 2 g m cp ((nk (zs.take k)).map VNack.cells).flatten ∧ Below w.heap.size w wr) (fun _ i _ => n - (intOf i).toNat)
    case atStart =>
      refine ⟨0, 0, _, _, rfl, rfl, by omega, Nat.le_refl _, rfl, Ho.out.drewN n1, ?_⟩
      (repeat' (first | (with_reducible exact Below.refl _ _) | (with_reducible assumption) | (with_reducible refine Below.alloc ?_ ?_ _) | (with_reducible refine Below.setCell ?_ ?_ _) | (with_reducible refine Below.drew ?_) | (with_reducible refine below_drewN' ?_ _) | (with_reducible refine below_step (by assumption) ?_ ?_) | (with_reducible refine below_gstep (by assumption) ?_ ?_ ?_) | (with_reducible exact Below.size (by assumption)) | omega | (simp; done) | (simp; omega)))
    case round =>
      obtain ⟨k, m, g, cp, rfl, rfl, hk, hg, hmm, oz, hbl⟩ := hrel
      have lz := oz.lt
      have sz := hbl.size
      by_cases hk' : k < n
      · have g2 : (k : Int) < (n : Int) := by omega
        rcases Hh.out with h0 | ⟨b, off, rfl, hlt, hc⟩
        · have := Hn.out
          rw [h0] at this
          simp at this
          omega
        · have hz := (hbl.cell (p := ⟨b, off + k, none⟩) hlt).trans (hc k (by have := Hn.out; omega))
          clear hc
          obtain ⟨x, hx⟩ : ∃ x, zs.getD k 0 = x := ⟨_, rfl⟩
          rw [hx] at hz
          have hs := nk_step (by rw [Hn.out]; exact Hok.out) (by rw [Hn.out]; exact hk') hx
          clear hx
          rcases hs with ⟨e0, e1⟩ | ⟨front, a, msk, e0, hfl, ha0, hax, hx9, hm0, hm1, ⟨hgt, e1⟩ | ⟨d, hd, hdx, hmd, e1⟩⟩
          · rw [e0] at oz hmm
            simp only [List.length_nil] at hmm
            subst hmm
            have E1 := hide e1
            have Hbl := hide hbl
            clear e0 e1 hbl
            go_wp2_with fail
            go_quiet (fail)
            have oz := oz.drewN nq
            go_wp2_with (first | (at_builtin; refine wpList_append_1 rfl _ _ _ rfl elemN rfl oz #[.int .i64 x, .int .i64 0] rfl rfl rfl (by omega) ?_; intro g' cp' w7 oz' hg7 hat7))
            have hat7 : g' = g ∨ wr.heap.size ≤ g' := hat7
            have hb7 : Below w.heap.size w w7 := (below_drewN' Hbl.out nq).grown hg7 sz (by intro k hk; simp at hk; omega)
            clear hg7 oz Hbl
            go_roundw
            case rel =>
              refine ⟨k + 1, 1, g', cp', rfl, by go_num, by omega, by omega, by rw [E1.out]; rfl, oz'.conv (by rw [E1.out]; rfl), hb7⟩
            case measure => simp [intOf]; omega
          · rw [e0] at oz hmm
            simp only [List.length_append, List.length_singleton] at hmm
            subst hmm
            obtain ⟨j, hj⟩ : ∃ j, front.length = j := ⟨_, rfl⟩
            rw [hj] at oz hfl ⊢
            have cA : wr.cell? ⟨g, j * 2, none⟩ = some (.int .i64 a) := by
              rw [oz.cell (by omega)]
              have := (flatNack (front ++ [⟨a, msk⟩])).get j 0 (by omega)
              rw [Nat.add_zero] at this
              rw [this, List.getElem?_map, ← hj]
              simp [VNack.cells]
            have cM : wr.cell? ⟨g, j * 2 + 1, none⟩ = some (.int .i64 msk) := by
              rw [oz.cell (by omega)]
              have := (flatNack (front ++ [⟨a, msk⟩])).get j 1 (by omega)
              rw [this, List.getElem?_map, ← hj]
              simp [VNack.cells]
            have fM := oz.frozen (j * 2 + 1)
            have Hj := hide hj
            have E1 := hide e1
            have Hbl := hide hbl
            clear e0 e1 hbl hj
            have q0 : decide ((j : Int) < 0) = false := decide_eq_false (by omega)
            have q1 : decide (16 < x - a) = true := decide_eq_true hgt
            have q2 : IntKind.i64.wrap (x - a) = x - a := IntWalk.i64_in _ (by omega)
            go_wp2_with fail
            go_quiet (fail)
            clear q2
            have oz := oz.drewN nq
            go_wp2_with (first | (at_builtin; refine wpList_append_1 rfl _ _ _ rfl elemN rfl oz #[.int .i64 x, .int .i64 0] rfl rfl rfl (by omega) ?_; intro g' cp' w7 oz' hg7 hat7))
            have hat7 : g' = g ∨ wr.heap.size ≤ g' := hat7
            have hb7 : Below w.heap.size w w7 := (below_drewN' Hbl.out nq).grown hg7 sz (by intro k hk; simp at hk; omega)
            clear hg7 oz Hbl
            go_roundw
            case rel =>
              refine ⟨k + 1, _, g', cp', rfl, by go_num, by omega, by omega, by rw [E1.out, ← Hj.out]; simp, oz'.conv (by rw [E1.out]; simp [VNack.cells]), hb7⟩
            case measure => simp [intOf]; omega
          · rw [e0] at oz hmm
            simp only [List.length_append, List.length_singleton] at hmm
            subst hmm
            obtain ⟨j, hj⟩ : ∃ j, front.length = j := ⟨_, rfl⟩
            rw [hj] at oz hfl ⊢
            have cA : wr.cell? ⟨g, j * 2, none⟩ = some (.int .i64 a) := by
              rw [oz.cell (by omega)]
              have := (flatNack (front ++ [⟨a, msk⟩])).get j 0 (by omega)
              rw [Nat.add_zero] at this
              rw [this, List.getElem?_map, ← hj]
              simp [VNack.cells]
            have cM : wr.cell? ⟨g, j * 2 + 1, none⟩ = some (.int .i64 msk) := by
              rw [oz.cell (by omega)]
              have := (flatNack (front ++ [⟨a, msk⟩])).get j 1 (by omega)
              rw [this, List.getElem?_map, ← hj]
              simp [VNack.cells]
            have fM := oz.frozen (j * 2 + 1)
            have Hj := hide hj
            have E1 := hide e1
            have Hbl := hide hbl
            clear e0 e1 hbl hj
            have OZ := hide oz
            clear oz
            have q0 : decide ((j : Int) < 0) = false := decide_eq_false (by omega)
            have q1 : decide (16 < x - a) = false := decide_eq_false (by omega)
            have q2 : IntKind.i64.wrap (x - a) = x - a := IntWalk.i64_in _ (by omega)
            have q3 : IntKind.i64.wrap (x - a - 1) = (d : Int) := by rw [IntWalk.i64_in _ (by omega)]; exact hdx
            have q4 : IntKind.i64.wrap (msk + 2 ^ d) = msk + 2 ^ d := wrap_sum msk d hd hm0 hmd
            go_wp2_with fail
            go_quiet (fail)
            go_wp2_with fail
            refine rebase (fun wx => wx.cell? ⟨g, j * 2, none⟩ = some (.int .i64 a) ∧ wx.cell? ⟨g, j * 2 + 1, none⟩ = some (.int .i64 msk) ∧ wx.cell? ⟨b, off + k, none⟩ = some (.int .i64 x) ∧ wx.frozen? ⟨g, j * 2 + 1, none⟩ = false ∧ Own wx 48 2 g (j + 1) cp ((front ++ [(⟨a, msk⟩ : VNack)]).map VNack.cells).flatten ∧ Below w.heap.size w wx) ⟨cA, cM, hz, fM, OZ.out.drewN nq, below_drewN' Hbl.out nq⟩ ?_
            clear cA cM hz fM OZ Hbl lz sz
            rintro wq ⟨cA, cM, hz, fM, oz, hbl⟩
            have OZ := hide oz
            have Hbl := hide hbl
            have q7 : IntKind.i64.wrap (d : Int) = (d : Int) := IntWalk.i64_in _ (by omega)
            have q5 : (j : Int) < (j : Int) + 1 := by omega
            have q6 : 0 ≤ (j : Int) := by omega
            clear oz hbl
            go_still_tail 22, (by kernel_rfl)
            still_call (l15Power_any d _ hd)
            repeat still_step
            refine wpStill_nil ?_
            change wpList _ _ _ _ _ wq.drew
            go_wp2_with fail
            go_roundw
            case rel =>
              refine ⟨k + 1, _, g, cp, rfl, by go_num, by omega, by omega, by rw [E1.out, ← Hj.out]; simp, ?_, ?_⟩
              · exact ((OZ.out.set (j * 2 + 1) _).conv (by rw [← Hj.out, E1.out]; exact set_mask front a msk _)).drew
              · have hbl := Hbl.out
                (repeat' (first | (with_reducible exact Below.refl _ _) | (with_reducible assumption) | (with_reducible refine Below.alloc ?_ ?_ _) | (with_reducible refine Below.setCell ?_ ?_ _) | (with_reducible refine Below.drew ?_) | (with_reducible refine below_drewN' ?_ _) | (with_reducible refine below_step (by assumption) ?_ ?_) | (with_reducible refine below_gstep (by assumption) ?_ ?_ ?_) | (with_reducible exact Below.size (by assumption)) | omega | (simp; done) | (simp; omega)))
            case measure => simp [intOf]; omega
      · have hkn : k = n := by omega
        subst hkn
        have ht : zs.take k = zs := List.take_of_length_le (by have := Hn.out; omega)
        rw [ht] at oz hmm
        have Hm := hide hmm
        have Hbl := hide hbl
        clear hmm ht hbl
        go_wp2_with fail
        go_ret2
        refine ⟨g, cp, by rw [← Hm.out]; rfl, hg, by rw [← Hm.out]; exact oz, Hbl.out⟩
  · have K := hide (l15Numbers_any A c zs (w.alloc (.cells #[] 48)) (h.below ((Below.refl _ _).alloc (Nat.le_refl _) _)) (by omega))
    unfold ascB at ha
    rw [ha] at K
    clear ha h
    go_enter Try.func29, Try.ntmps29
    go_wp2_with fail
    refine K.out.mono ?_
    rintro e w1 ⟨rfl, n1, rfl⟩
    go_wp2_with fail
    go_ret2
    exact ⟨_, _, rfl, Nat.le_refl _, Own.new w #[] 48 2 0 (by unfold maxLen; omega) rfl, by (repeat' (first | (with_reducible exact Below.refl _ _) | (with_reducible assumption) | (with_reducible refine Below.alloc ?_ ?_ _) | (with_reducible refine Below.setCell ?_ ?_ _) | (with_reducible refine Below.drew ?_) | (with_reducible refine below_drewN' ?_ _) | (with_reducible refine below_step (by assumption) ?_ ?_) | (with_reducible refine below_gstep (by assumption) ?_ ?_ ?_) | (with_reducible exact Below.size (by assumption)) | omega | (simp; done) | (simp; omega)))⟩
end Go.Proofs.Ytibedadmogadhaa
