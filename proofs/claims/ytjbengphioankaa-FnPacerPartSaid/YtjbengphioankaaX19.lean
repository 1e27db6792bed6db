/- What DrawPacerValid draws. -/
import Derived.Test.YtjbengphioankaaX18
namespace Go.Proofs.Ytjbengphioankaa
open Go.ChangeShapes Go.WideShapes Go.ChangeAt Go.RowKit Go.Deep

def NewPac (w : World) (en : Ending) (w' : World) : Prop :=
  ∃ e c g cp zs, en = .returned (.agg #[.int .i64 e, .int .i64 c, .slice (some ⟨g, 0, none⟩) (List.length zs) cp]) ∧ zs.length ≤ 12 ∧ w.heap.size ≤ g ∧ Own w' 61 3 g zs.length cp (zs.map VWaiting.cells).flatten ∧ Below w.heap.size w w'
theorem newPac_mk {e c : Int} {g m cp : Nat} {zs : List VWaiting} {w w' : World} (hm : zs.length = m) (h1 : m ≤ 12) (h2 : w.heap.size ≤ g) (h3 : Own w' 61 3 g m cp (zs.map VWaiting.cells).flatten) (h4 : Below w.heap.size w w') :
    NewPac w (.returned (.agg #[.int .i64 e, .int .i64 c, .slice (some ⟨g, 0, none⟩) m cp])) w' := by
  subst hm; exact ⟨e, c, g, cp, zs, rfl, h1, h2, h3, h4⟩
set_option maxRecDepth 10000 in
set_option maxHeartbeats 4000000 in
theorem drawPacerValid (B : Nat) (A : Option Addr) (n c : Nat) (w : World) (hcode : Code w B A n) (hn : n ≤ c) (hm : c ≤ 9223372036854775807) (hB : B ≤ w.heap.size) :
    Calls Try.prog 10 #[.slice A n c] w (NewPac w) := by
  have Hcode := hide hcode
  clear hcode
  obtain ⟨Z, hZ⟩ : ∃ Z, w.heap.size = Z := ⟨_, rfl⟩
  have RZ := Row.new w #[.int .i64 0, .int .i64 0, .slice none 0 0] 25
  have b0 := (Below.refl w.heap.size w).alloc (Nat.le_refl _) (.cells #[.int .i64 0, .int .i64 0, .slice none 0 0] 25)
  have Bh := hide b0
  have RZh := hide RZ
  clear b0 RZ
  go_enter Try.func10, Try.ntmps10
  go_wp2_with fail
  refine (l6Open_any B A n c _ (Hcode.out.alloc _) hn hm (by simp; omega)).mono ?_
  rintro e w1 ⟨R, rfl, hR, hr, hb1⟩
  have rZ := RZh.out.below hb1
  have b1 := Bh.out.trans (hb1.mono (by simp))
  have hR2 : w.heap.size < R := by simp at hR; omega
  have s1 := b1.size
  clear Hcode hb1 hR Bh RZh
  have HrZ := hide rZ
  have B1 := hide b1
  clear rZ b1
  go_wp2_with fail
  have lR := hr.lt
  refine (l92Pacer_any B R _ hr).mono ?_
  rintro e w2 ⟨ea, cr, g, zs, cc, rfl, hl, hg, o2, hg2⟩
  have HrZ := hide (HrZ.out.grown hg2 (by omega))
  have B2 := hide (B1.out.grown hg2 s1 (by intro k hk; simp at hk; omega))
  have O2 := hide o2
  have lz := HrZ.out.2.2
  have lg := o2.lt
  have hgw : w.heap.size ≤ g := by omega
  obtain ⟨m, hmm⟩ : ∃ m, zs.length = m := ⟨_, rfl⟩
  have Hmm := hide hmm
  rw [hmm] at O2 hl ⊢
  clear hg2 o2 hr B1 hmm
  obtain ⟨cZ, fZ, lZ⟩ := HrZ.out
  have hgw1 : w.heap.size < w1.heap.size := by omega
  have sB2 := B2.out.size
  have lW2 : w.heap.size < w2.heap.size := lZ
  have hZle : w.heap.size ≤ Z := by omega
  rw [hZ] at cZ fZ lZ
  have hgz : g ≠ Z := by omega
  clear hZ lz lW2 hgw1 HrZ
  go_wp2_with fail
  refine bodyPost_ret (by first | (simp (maxDischargeDepth := 3) [results, Try.results10, go_sem, *]; done) | (simp (maxDischargeDepth := 3) [results, Try.results10, go_sem, *]; rfl) | (simp (maxDischargeDepth := 7) [results, Try.results10, go_sem, *]; done) | (simp (maxDischargeDepth := 7) [results, Try.results10, go_sem, *]; rfl)) rfl ?_
  exact newPac_mk Hmm.out hl hgw (((O2.out.far (by show g ≠ Z; omega) _).far (by show g ≠ Z; omega) _).far (by show g ≠ Z; omega) _) (((B2.out.setCell (by show w.heap.size ≤ Z; omega) _).setCell (by show w.heap.size ≤ Z; omega) _).setCell (by show w.heap.size ≤ Z; omega) _)
end Go.Proofs.Ytjbengphioankaa
