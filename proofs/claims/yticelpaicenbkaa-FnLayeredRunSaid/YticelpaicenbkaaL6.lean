/- LayeredRun of the program: contract. -/
import Derived.Test.YticelpaicenbkaaM2
import Derived.Test.YticelpaicenbkaaLS
import Derived.Test.YticelpaicenbkaaRW
namespace Go.Proofs.Yticelpaicenbkaa
open Go.ChangeShapes Go.WideShapes Go.ChangeAt Go.RowKit Go.Deep

theorem elemQ : ElemOf Try.prog 42 35 6 40 := elemOf Try.underlying42 infoPacket rfl (by omega) (by omega)
theorem own_snocQ {w : World} {g k c : Nat} {zs : List VPacket} {x : VPacket} {cs : List Value} (hcs : cs = x.cells) (h : Own w 35 6 g (k + 1) c ((zs.map VPacket.cells).flatten ++ cs)) : Own w 35 6 g (k + 1) c ((zs ++ [x]).map VPacket.cells).flatten :=
  h.conv (by rw [hcs]; simp)
def runS (b : Int) (s : Int × List VPacket) (x : VPacket) : Int × List VPacket := (stepN s.1 b x.a2 x.a4, if x.a2 == stepN s.1 b x.a2 x.a4 then s.2 ++ [x] else s.2)
def runL (a b : Int) (zs : List VPacket) (k : Nat) : Int × List VPacket := (zs.take k).foldl (runS b) (a, [])
theorem runL_succ (a b : Int) (zs : List VPacket) (k : Nat) (hk : k < zs.length) : runL a b zs (k + 1) = runS b (runL a b zs k) (zs.getD k default) := by
  unfold runL
  rw [List.take_add_one, List.getElem?_eq_getElem hk, List.getD_eq_getElem?_getD, List.getElem?_eq_getElem hk, List.foldl_append]
  rfl
theorem runL_len (a b : Int) (zs : List VPacket) (k : Nat) : (runL a b zs k).2.length ≤ k := by
  induction k with
  | zero => simp [runL]
  | succ k ih =>
    by_cases hk : k < zs.length
    · rw [runL_succ a b zs k hk]
      unfold runS
      dsimp only
      split
      · rw [List.length_append, List.length_singleton]; omega
      · omega
    · have : runL a b zs (k + 1) = runL a b zs k := by unfold runL; rw [List.take_of_length_le (by omega), List.take_of_length_le (by omega)]
      rw [this]; omega
def relRun (a b : Int) (zs : List VPacket) (N M : Int) (ys : List VPacket) (B : Bool) : Prop :=
  (layB a b = true ∧ pksB zs = true ∧ N = (runL a b zs zs.length).1 ∧ M = b ∧ ys = (runL a b zs zs.length).2 ∧ B = true) ∨ ((layB a b = false ∨ layB a b = true ∧ pksB zs = false) ∧ N = 0 ∧ M = 0 ∧ ys = [] ∧ B = false)
theorem relRun_some (a b : Int) (zs : List VPacket) : ∃ N M ys B, relRun a b zs N M ys B := by
  by_cases h1 : layB a b = true
  · by_cases h2 : pksB zs = true
    · exact ⟨_, _, _, _, .inl ⟨h1, h2, rfl, rfl, rfl, rfl⟩⟩
    · exact ⟨_, _, _, _, .inr ⟨.inr ⟨h1, by simpa using h2⟩, rfl, rfl, rfl, rfl⟩⟩
  · exact ⟨_, _, _, _, .inr ⟨.inl (by simpa using h1), rfl, rfl, rfl, rfl⟩⟩
theorem relRun_len {a b : Int} {zs : List VPacket} {N M : Int} {ys : List VPacket} {B : Bool} (h : relRun a b zs N M ys B) : ys.length ≤ zs.length := by
  rcases h with ⟨_, _, _, _, rfl, _⟩ | ⟨_, _, _, rfl, _⟩
  · exact runL_len _ _ _ _
  · simp
def NewRun (N M : Int) (ys : List VPacket) (B : Bool) (w : World) (e : Ending) (w' : World) : Prop :=
  ∃ g c, e = .returned (.tuple #[.agg #[.int .i64 N, .int .i64 M], .slice (some ⟨g, 0, none⟩) ys.length c, .bool B]) ∧ w.heap.size ≤ g ∧ Own w' 35 6 g ys.length c (ys.map VPacket.cells).flatten ∧ Below w.heap.size w w'
theorem newRun_mk {N M : Int} {ys : List VPacket} {B : Bool} {w w' : World} {g c m : Nat} {xs : List VPacket} {N' M' : Int} (h1 : N' = N) (h2 : M' = M) (hx : xs = ys) (hm : m = xs.length) (hg : w.heap.size ≤ g) (ho : Own w' 35 6 g m c (xs.map VPacket.cells).flatten) (hb : Below w.heap.size w w') :
    NewRun N M ys B w (.returned (.tuple #[.agg #[.int .i64 N', .int .i64 M'], .slice (some ⟨g, 0, none⟩) m c, .bool B])) w' := by subst h1 h2 hx hm; exact ⟨g, c, rfl, hg, ho, hb⟩
theorem own_nil_at {W : World} {g : Nat} (h : W.heap.size = g) : Own (W.alloc (.cells #[] 35)) 35 6 g 0 0 (([] : List VPacket).map VPacket.cells).flatten := h ▸ Own.new W #[] 35 6 0 (by unfold maxLen; omega) rfl
def LBlk (w : World) (g : Nat) (a b : Int) : Prop := w.heap[g]? = some (.cells #[.int .i64 a, .int .i64 b] 25 (0, 0))
theorem LBlk.row {w : World} {g : Nat} {a b : Int} (h : LBlk w g a b) : Row w g #[.int .i64 a, .int .i64 b] := ⟨fun o => cell_of_row w g o _ _ _ h, fun o => frozen_of_row w g o _ _ h, lt_of_block h⟩
theorem LBlk.below {w w' : World} {g : Nat} {a b : Int} (h : LBlk w g a b) (hb : Below w.heap.size w w') : LBlk w' g a b := (hb.block g (lt_of_block h)).trans h
theorem LBlk.alloc {w : World} {g : Nat} {a b : Int} (h : LBlk w g a b) (o : Obj) : LBlk (w.alloc o) g a b := (Below.heap_alloc w o g (lt_of_block h)).trans h
theorem LBlk.grown {w w' : World} {g r : Nat} {a b : Int} (h : LBlk w g a b) (hg : w.grownBy w' (some r)) (hne : g ≠ r) : LBlk w' g a b := (hg.block g (lt_of_block h) (by simpa using hne)).trans h
theorem LBlk.new (w : World) (a b : Int) : LBlk (w.alloc (.cells #[.int .i64 a, .int .i64 b] 25)) w.heap.size a b := heap_alloc_new _ _
set_option maxHeartbeats 4000000 in
theorem implLayeredRun (a b : Int) (A : Option Addr) (c : Nat) (zs : List VPacket) (N M : Int) (ys : List VPacket) (B : Bool) (w : World) (hR : relRun a b zs N M ys B) (h : PacketAt w A zs) (hm : zs.length ≤ 1048576) :
    Calls Try.prog 29 #[.agg #[.int .i64 a, .int .i64 b], .slice A zs.length c] w (NewRun N M ys B w) := by
  have hmf : ∀ (fn : Fn) (first cap : Array Value) (w : World), (Instr.makeFunc fn first cap).run Try.prog w = .ok (.func fn first cap) w := fun _ _ _ _ => rfl
  have H2 := hide h
  clear h
  have B0 := hide (show Below w.heap.size w ((w.alloc (.cells #[.int .i64 a, .int .i64 b] 25)).alloc (.cells #[.int .i64 0, .int .i64 0] 25)) from ((Below.refl _ _).alloc (Nat.le_refl _) _).alloc (by simp) _)
  have L0 := hide (show LBlk ((w.alloc (.cells #[.int .i64 a, .int .i64 b] 25)).alloc (.cells #[.int .i64 0, .int .i64 0] 25)) w.heap.size a b from (LBlk.new w a b).alloc _)
  have R0 := hide (show Row ((w.alloc (.cells #[.int .i64 a, .int .i64 b] 25)).alloc (.cells #[.int .i64 0, .int .i64 0] 25)) (w.heap.size + 1) #[.int .i64 0, .int .i64 0] from Row.new1 _ _ _ _)
  rcases hR with ⟨hl, hp, rfl, rfl, rfl, rfl⟩ | ⟨hno, rfl, rfl, rfl, rfl⟩
  · have Hl := hide hl
    have HV := hide hp
    have hn20 := (of_decide_eq_true hp).2
    clear hl hp
    go_enter Try.func29, Try.ntmps29
    go_wp2_with fail
    refine (implLayeredValid a M _).mono ?_
    rw [Hl.out]
    rintro e w1 ⟨rfl, hb⟩
    have l1 := L0.out.below hb
    have r1 := R0.out.below hb
    have b1 := B0.out.trans (hb.mono (by simp; omega))
    clear hb
    have K := implPacketsValid A c zs w1 (H2.out.below b1) hm
    rw [HV.out] at K
    have KK := hide K
    have R1 := hide r1
    have L1 := hide l1
    clear K r1 l1
    go_wp2_with fail
    refine KK.out.mono ?_
    rintro e w2 ⟨rfl, hb⟩
    have L2 := hide (L1.out.below hb)
    have R2 := hide (R1.out.below hb)
    have b2 := b1.trans (hb.mono b1.size)
    clear hb b1 KK
    obtain ⟨c20, f20, z20⟩ := R2.out
    obtain ⟨c21, f21, z21⟩ := L2.out.row
    have s2 := b2.size
    go_wp2_with fail
    obtain ⟨bs, hbs⟩ : ∃ g, w.heap.size = g := ⟨_, rfl⟩
    obtain ⟨br, hbr⟩ : ∃ g, w.heap.size + 1 = g := ⟨_, rfl⟩
    have Hbs := hide hbs
    have Hbr := hide hbr
    have l3 := hide (L2.out.alloc (.cells #[] 35))
    have r3 := hide (R2.out.alloc (.cells #[] 35))
    have o3 := hide (Own.new w2 #[] 35 6 0 (by unfold maxLen; omega) rfl)
    have b3 := hide (b2.alloc s2 (.cells #[] 35))
    rw [hbs] at l3
    rw [hbr] at r3
    have d1 : bs < br ∧ br < w2.heap.size ∧ w.heap.size ≤ bs := by omega
    obtain ⟨d1, d2, d3⟩ := d1
    rw [hbr, hbs]
    obtain ⟨n, hn⟩ : ∃ n, zs.length = n := ⟨_, rfl⟩
    have Hn := hide hn
    rw [hn] at hn20 ⊢
    clear c20 f20 z20 c21 f21 z21 L2 R2 L1 R1 L0 R0 b2 hbs hbr hn
    go_loopw [8, 25] (fun s i wr => ∃ (k m g cp : Nat), s = .slice (some ⟨g, 0, none⟩) m cp ∧ i = .int .i64 k ∧ k ≤ n ∧ w.heap.size ≤ g ∧ g ≠ bs ∧ g ≠ br ∧ m = (runL a M zs k).2.length ∧ Own wr 35 6 g m cp (((runL a M zs k).2).map VPacket.cells).flatten ∧ LBlk wr bs (runL a M zs k).1 M ∧ Row wr br #[.int .i64 0, .int .i64 0] ∧ Below w.heap.size w wr) (fun _ i _ => n - (intOf i).toNat)
    case atStart => exact ⟨0, 0, _, _, rfl, rfl, by omega, by omega, by omega, by omega, rfl, o3.out, l3.out, r3.out, b3.out⟩
    case round =>
      clear l3 r3 o3 b3
      obtain ⟨k, m, g, cp, rfl, rfl, hk, hg, hgs, hgr, hmm, oz, lb, rr, hbl⟩ := hrel
      have lz := oz.lt
      have sz := hbl.size
      have llb := lt_of_block lb
      have lrr := rr.2.2
      have hrl := runL_len a M zs k
      have hm20 : m ≤ 20 := by omega
      have Hm := hide hmm
      clear hmm hrl
      by_cases hk' : k < n
      · obtain ⟨b, off, rfl, hlt, hc⟩ := PacketAt.at H2.out (by have := Hn.out; omega)
        obtain ⟨s0, s1, s2', s3, s4, s5⟩ := hc k (by have := Hn.out; omega)
        have hst := runL_succ a M zs k (by rw [Hn.out]; exact hk')
        obtain ⟨x, hx⟩ : ∃ x, zs.getD k default = x := ⟨_, rfl⟩
        rw [hx] at s0 s1 s2' s3 s4 s5 hst
        replace s0 := (hbl.cell (p := ⟨b, off + k * 6, none⟩) hlt).trans s0
        replace s1 := (hbl.cell (p := ⟨b, off + k * 6 + 1, none⟩) hlt).trans s1
        replace s2' := (hbl.cell (p := ⟨b, off + k * 6 + 2, none⟩) hlt).trans s2'
        replace s3 := (hbl.cell (p := ⟨b, off + k * 6 + 3, none⟩) hlt).trans s3
        replace s4 := (hbl.cell (p := ⟨b, off + k * 6 + 4, none⟩) hlt).trans s4
        replace s5 := (hbl.cell (p := ⟨b, off + k * 6 + 5, none⟩) hlt).trans s5
        obtain ⟨S, hS⟩ : ∃ S, runL a M zs k = S := ⟨_, rfl⟩
        rw [hS] at oz lb Hm hst
        obtain ⟨nw, ot⟩ := S
        obtain ⟨n1, hn1⟩ : ∃ n1, stepN nw M x.a2 x.a4 = n1 := ⟨_, rfl⟩
        have Hst := hide (show runL a M zs (k + 1) = (n1, if x.a2 == n1 then ot ++ [x] else ot) from by rw [hst, ← hn1]; rfl)
        have g2 : (k : Int) < (n : Int) := by omega
        have LB := hide (lb.alloc (.cells #[.int .i64 x.a0, .int .i64 x.a1, .int .i64 x.a2, .int .i64 x.a3, .bool x.a4, .bool x.a5] 35))
        have RR := hide (rr.alloc (.cells #[.int .i64 x.a0, .int .i64 x.a1, .int .i64 x.a2, .int .i64 x.a3, .bool x.a4, .bool x.a5] 35))
        have RP := hide (Row.new wr #[.int .i64 x.a0, .int .i64 x.a1, .int .i64 x.a2, .int .i64 x.a3, .bool x.a4, .bool x.a5] 35)
        have OZ := hide (oz.alloc (.cells #[.int .i64 x.a0, .int .i64 x.a1, .int .i64 x.a2, .int .i64 x.a3, .bool x.a4, .bool x.a5] 35))
        have BL := hide (hbl.alloc sz (.cells #[.int .i64 x.a0, .int .i64 x.a1, .int .i64 x.a2, .int .i64 x.a3, .bool x.a4, .bool x.a5] 35))
        have Hn1 := hide hn1
        clear hc hx hst hS oz lb rr hbl hn1
        go_wp2_with fail
        refine (forwards_any bs nw M n1 x.a0 x.a1 x.a2 x.a3 x.a4 x.a5 _ LB.out Hn1.out.symm).mono ?_
        rintro e w5 ⟨rfl, hl5, hg5⟩
        have l5 := hide (show LBlk w5 bs n1 M from hl5)
        have r5 := hide (RR.out.grown hg5 (by omega))
        have p5 := RP.out.grown hg5 (by omega)
        have o5 := OZ.out.grown hg5 hgs
        have b5 := hide (BL.out.grown hg5 BL.out.size (by intro k hk; simp at hk; omega))
        have s5z := b5.out.size
        have l5z := o5.lt
        have l5s := hg5.size
        simp at l5s
        obtain ⟨cP, fP, zP⟩ := p5
        clear hl5 hg5 LB RR RP OZ BL s0 s1 s2' s3 s4 s5
        obtain ⟨bp, hbp⟩ : ∃ g, wr.heap.size = g := ⟨_, rfl⟩
        rw [hbp] at cP fP zP l5s lz sz llb lrr ⊢
        clear hbp
        by_cases hon : x.a2 = n1
        · have e0 : (x.a2 == n1) = true := by simpa using hon
          have Hon := hide hon
          clear hon
          go_wp2_with (first | (at_builtin; refine wpList_append_1 rfl _ _ _ rfl elemQ rfl o5 #[.int .i64 x.a0, .int .i64 x.a1, .int .i64 x.a2, .int .i64 x.a3, .bool x.a4, .bool x.a5] rfl rfl rfl (by omega) ?_; intro g7 cp7 w7 oz7 hg7 hat7))
          have o7 := hide (own_snocQ (x := x) rfl oz7)
          have l7 := hide (l5.out.grown hg7 (Ne.symm hgs))
          have r7 := hide (r5.out.grown hg7 (Ne.symm hgr))
          have b7 := hide (b5.out.grown hg7 s5z (by intro k hk; simp at hk; omega))
          clear hg7 oz7 o5 cP fP
          go_roundw
          case rel =>
            have hs := Hst.out
            rw [if_pos (by simpa using Hon.out)] at hs
            refine ⟨k + 1, m + 1, g7, cp7, rfl, by go_num, by omega, by omega, by omega, by omega, ?_, o7.out.conv (by rw [hs]), ?_, r7.out, b7.out⟩
            · rw [hs]; show m + 1 = (ot ++ [x]).length; rw [List.length_append, ← Hm.out]; rfl
            · rw [hs]; exact l7.out
          case measure => simp [intOf]; omega
        · have e0 : (x.a2 == n1) = false := by simpa using hon
          have Hon := hide hon
          have O5 := hide o5
          clear hon o5 cP fP
          go_wp2_with fail
          go_roundw
          case rel =>
            have hs := Hst.out
            rw [if_neg (by simpa using Hon.out)] at hs
            refine ⟨k + 1, m, g, cp, rfl, by go_num, by omega, hg, hgs, hgr, ?_, O5.out.conv (by rw [hs]), ?_, r5.out, b5.out⟩
            · rw [hs]; exact Hm.out
            · rw [hs]; exact l5.out
          case measure => simp [intOf]; omega
      · have hkn : k = n := by omega
        subst hkn
        obtain ⟨cS, fS, _⟩ := lb.row
        obtain ⟨cR, fR, _⟩ := rr
        have OZ := hide oz
        have BL := hide hbl
        have nsr : ¬ bs = br := by omega
        have nrs : ¬ br = bs := by omega
        obtain ⟨NN, hNN⟩ : ∃ NN, (runL a M zs k).1 = NN := ⟨_, rfl⟩
        rw [hNN] at cS
        have HNN := hide hNN
        clear oz hbl lb hNN
        go_wp2_with fail
        refine bodyPost_ret (by first | (simp (maxDischargeDepth := 3) [results, Try.results29, go_sem, *]; done) | (simp (maxDischargeDepth := 3) [results, Try.results29, go_sem, *]; rfl) | (simp (maxDischargeDepth := 7) [results, Try.results29, go_sem, *]; done) | (simp (maxDischargeDepth := 7) [results, Try.results29, go_sem, *]; rfl)) rfl ?_
        refine newRun_mk ?_ rfl ?_ Hm.out hg ((OZ.out.far (by show g ≠ br; exact hgr) _).far (by show g ≠ br; exact hgr) _) ?_
        · rw [Hn.out, HNN.out]
        · rw [Hn.out]
        · exact (BL.out.setCell (by show _ ≤ br; omega) _).setCell (by show _ ≤ br; omega) _
  · rcases hno with hl | ⟨hl, hp⟩
    · have Hl := hide hl
      clear hl
      go_enter Try.func29, Try.ntmps29
      go_wp2_with fail
      refine (implLayeredValid a b _).mono ?_
      rw [Hl.out]
      rintro e w1 ⟨rfl, hb⟩
      have r1 := R0.out.below hb
      have b1 := hide (B0.out.trans (hb.mono (by simp; omega)))
      obtain ⟨cR, fR, lR⟩ := r1
      have ne1 : ¬ w1.heap.size = w.heap.size + 1 := by omega
      have ne2 : ¬ w.heap.size + 1 = w1.heap.size := by omega
      clear hb
      go_wp2_with fail
      refine bodyPost_ret (by first | (simp (maxDischargeDepth := 3) [results, Try.results29, go_sem, *]; done) | (simp (maxDischargeDepth := 3) [results, Try.results29, go_sem, *]; rfl) | (simp (maxDischargeDepth := 7) [results, Try.results29, go_sem, *]; done) | (simp (maxDischargeDepth := 7) [results, Try.results29, go_sem, *]; rfl)) rfl ?_
      refine newRun_mk (xs := []) rfl rfl rfl rfl (by have := b1.out.size; omega) (own_nil_at (by simp)) ?_
      have hb1 := b1.out
      (repeat' (first | (with_reducible exact Below.refl _ _) | (with_reducible assumption) | (with_reducible refine Below.alloc ?_ ?_ _) | (with_reducible refine Below.setCell ?_ ?_ _) | (with_reducible refine Below.drew ?_) | (with_reducible refine below_drewN' ?_ _) | (with_reducible refine below_step (by assumption) ?_ ?_) | (with_reducible refine below_gstep (by assumption) ?_ ?_ ?_) | (with_reducible exact Below.size (by assumption)) | omega | (simp; done) | (simp; omega)))
    · have Hl := hide hl
      have HV := hide hp
      clear hl hp
      go_enter Try.func29, Try.ntmps29
      go_wp2_with fail
      refine (implLayeredValid a b _).mono ?_
      rw [Hl.out]
      rintro e w1 ⟨rfl, hb⟩
      have R1 := hide (R0.out.below hb)
      have b1 := B0.out.trans (hb.mono (by simp; omega))
      have K := implPacketsValid A c zs w1 (H2.out.below b1) hm
      rw [HV.out] at K
      have KK := hide K
      clear hb K
      go_wp2_with fail
      refine KK.out.mono ?_
      rintro e w2 ⟨rfl, hb⟩
      have r2 := R1.out.below hb
      have b2 := hide (b1.trans (hb.mono b1.size))
      obtain ⟨cR, fR, lR⟩ := r2
      have ne1 : ¬ w2.heap.size = w.heap.size + 1 := by omega
      have ne2 : ¬ w.heap.size + 1 = w2.heap.size := by omega
      clear hb KK b1
      go_wp2_with fail
      refine bodyPost_ret (by first | (simp (maxDischargeDepth := 3) [results, Try.results29, go_sem, *]; done) | (simp (maxDischargeDepth := 3) [results, Try.results29, go_sem, *]; rfl) | (simp (maxDischargeDepth := 7) [results, Try.results29, go_sem, *]; done) | (simp (maxDischargeDepth := 7) [results, Try.results29, go_sem, *]; rfl)) rfl ?_
      refine newRun_mk (xs := []) rfl rfl rfl rfl (by have := b2.out.size; omega) (own_nil_at (by simp)) ?_
      have hb1 := b2.out
      (repeat' (first | (with_reducible exact Below.refl _ _) | (with_reducible assumption) | (with_reducible refine Below.alloc ?_ ?_ _) | (with_reducible refine Below.setCell ?_ ?_ _) | (with_reducible refine Below.drew ?_) | (with_reducible refine below_drewN' ?_ _) | (with_reducible refine below_step (by assumption) ?_ ?_) | (with_reducible refine below_gstep (by assumption) ?_ ?_ ?_) | (with_reducible exact Below.size (by assumption)) | omega | (simp; done) | (simp; omega)))
end Go.Proofs.Yticelpaicenbkaa
