/- LayeredRun of the reference: contract. -/
import Derived.Test.YticelpaicenbkaaL6
import Derived.Deep.RegionHeld3
namespace Go.Proofs.Yticelpaicenbkaa
open Go.ChangeShapes Go.WideShapes Go.ChangeAt Go.RowKit Go.Deep

def PkC (w : World) (b o : Nat) (x : VPacket) : Prop := b < w.heap.size ∧ w.cell? ⟨b, o, none⟩ = some (.int .i64 x.a0) ∧ w.cell? ⟨b, o + 1, none⟩ = some (.int .i64 x.a1) ∧ w.cell? ⟨b, o + 2, none⟩ = some (.int .i64 x.a2) ∧ w.cell? ⟨b, o + 3, none⟩ = some (.int .i64 x.a3) ∧ w.cell? ⟨b, o + 4, none⟩ = some (.bool x.a4) ∧ w.cell? ⟨b, o + 5, none⟩ = some (.bool x.a5)
theorem PkC.keep {w w' : World} {b o : Nat} {x : VPacket} (h : PkC w b o x) (hs : w.heap.size ≤ w'.heap.size) (hk : w'.heap[b]? = w.heap[b]?) : PkC w' b o x := by
  obtain ⟨h0, h1, h2, h3, h4, h5, h6⟩ := h
  have e : ∀ j, w'.cell? ⟨b, j, none⟩ = w.cell? ⟨b, j, none⟩ := fun j => World.cell?_of_block (a := ⟨b, j, none⟩) hk
  exact ⟨Nat.lt_of_lt_of_le h0 hs, (e _).trans h1, (e _).trans h2, (e _).trans h3, (e _).trans h4, (e _).trans h5, (e _).trans h6⟩
theorem PkC.alloc {w : World} {b o : Nat} {x : VPacket} (h : PkC w b o x) (ob : Obj) : PkC (w.alloc ob) b o x := h.keep (by simp) (Below.heap_alloc w ob b h.1)
theorem PkC.below {w w' : World} {b o : Nat} {x : VPacket} (h : PkC w b o x) (hb : Below w.heap.size w w') : PkC w' b o x := h.keep hb.size (hb.block b h.1)
theorem PkC.far {w : World} {b o : Nat} {x : VPacket} (h : PkC w b o x) {a : Addr} (ha : b ≠ a.block) (v : Value) : PkC (w.setCell a v) b o x := h.keep (by simp [World.setCell]) (Below.heap_setCell w a v b ha)
theorem PkC.of {w : World} {A : Option Addr} {zs : List VPacket} (h : PacketAt w A zs) {k : Nat} (hk : k < zs.length) : ∃ b off, A = some ⟨b, off, none⟩ ∧ PkC w b (off + k * 6) (zs.getD k default) := by
  obtain ⟨b, off, hA, hlt, hc⟩ := PacketAt.at h (by omega)
  exact ⟨b, off, hA, hlt, hc k hk⟩
theorem LBlk.set {w : World} {g : Nat} {a b : Int} (h : LBlk w g a b) (n m : Int) : LBlk ((w.setCell ⟨g, 0, none⟩ (.int .i64 n)).setCell ⟨g, 1, none⟩ (.int .i64 m)) g n m := by
  unfold LBlk at h ⊢
  have h1 := heap_setCell_same w g 0 _ _ (.int .i64 n) h
  rw [heap_setCell_same _ g 1 _ _ _ h1]
  simp
theorem LBlk.far {w : World} {g : Nat} {a b : Int} (h : LBlk w g a b) {p : Addr} (hp : g ≠ p.block) (v : Value) : LBlk (w.setCell p v) g a b := (Below.heap_setCell w p v g hp).trans h
set_option maxHeartbeats 4000000 in
theorem specLayeredRun (a b : Int) (A : Option Addr) (c : Nat) (zs : List VPacket) (N M : Int) (ys : List VPacket) (B : Bool) (w : World) (hR : relRun a b zs N M ys B) (h : PacketAt w A zs) (hm : zs.length ≤ 1048576) :
    Calls Try.prog 30 #[.agg #[.int .i64 a, .int .i64 b], .slice A zs.length c] w (NewRun N M ys B w) := by
  have H2 := hide h
  clear h
  have B0 := hide (show Below w.heap.size w (((w.alloc (.cells #[.int .i64 a, .int .i64 b] 25)).alloc (.cells #[.int .i64 0, .int .i64 0] 25)).alloc (.cells #[] 35)) from (((Below.refl _ _).alloc (Nat.le_refl _) _).alloc (by simp) _).alloc (by simp; omega) _)
  have L0 := hide (show LBlk (((w.alloc (.cells #[.int .i64 a, .int .i64 b] 25)).alloc (.cells #[.int .i64 0, .int .i64 0] 25)).alloc (.cells #[] 35)) w.heap.size a b from ((LBlk.new w a b).alloc _).alloc _)
  have R0 := hide (show Row (((w.alloc (.cells #[.int .i64 a, .int .i64 b] 25)).alloc (.cells #[.int .i64 0, .int .i64 0] 25)).alloc (.cells #[] 35)) (w.heap.size + 1) #[.int .i64 0, .int .i64 0] from (Row.new1 _ _ _ _).alloc _)
  have O0 := hide (show Own (((w.alloc (.cells #[.int .i64 a, .int .i64 b] 25)).alloc (.cells #[.int .i64 0, .int .i64 0] 25)).alloc (.cells #[] 35)) 35 6 (w.heap.size + 2) 0 0 (([] : List VPacket).map VPacket.cells).flatten from own_nil_at (by simp))
  rcases hR with ⟨hl, hp, rfl, rfl, rfl, rfl⟩ | ⟨hno, rfl, rfl, rfl, rfl⟩
  · have Hl := hide hl
    have HV := hide hp
    have hn20 := (of_decide_eq_true hp).2
    clear hl hp
    go_enter Try.func30, Try.ntmps30
    go_wp2_with fail
    refine (specLayeredValid a M _).mono ?_
    rw [Hl.out]
    rintro e w1 ⟨rfl, hb⟩
    have l1 := L0.out.below hb
    have O1 := hide (O0.out.below hb)
    have r1 := R0.out.below hb
    have b1 := B0.out.trans (hb.mono (by simp; omega))
    clear hb
    have K := specPacketsValid A c zs w1 (H2.out.below b1) hm
    rw [HV.out] at K
    have KK := hide K
    have R1 := hide r1
    have L1 := hide l1
    clear K r1 l1
    go_wp2_with fail
    refine KK.out.mono ?_
    rintro e w2 ⟨rfl, hb⟩
    have L2 := hide (L1.out.below hb)
    have O2 := hide (O1.out.below hb)
    have R2 := hide (R1.out.below hb)
    have b2 := b1.trans (hb.mono b1.size)
    clear hb b1 KK
    have s2 := b2.size
    have zo := O2.out.lt
    go_wp2_with fail
    obtain ⟨bs, hbs⟩ : ∃ g, w.heap.size = g := ⟨_, rfl⟩
    obtain ⟨br, hbr⟩ : ∃ g, w.heap.size + 1 = g := ⟨_, rfl⟩
    obtain ⟨go, hgo⟩ : ∃ g, w.heap.size + 2 = g := ⟨_, rfl⟩
    have l3 := L2.out
    have r3 := R2.out
    have o3 := O2.out
    have b3 := hide b2
    rw [hbs] at l3
    rw [hbr] at r3
    rw [hgo] at o3
    have d1 : bs < br ∧ br < go ∧ w.heap.size ≤ bs := by omega
    obtain ⟨d1, d2, d3⟩ := d1
    rw [hgo, hbr, hbs]
    obtain ⟨n, hn⟩ : ∃ n, zs.length = n := ⟨_, rfl⟩
    have Hn := hide hn
    rw [hn] at hn20 ⊢
    have l3 := hide l3
    have r3 := hide r3
    have o3 := hide o3
    clear L2 R2 L1 R1 L0 R0 b2 hbs hbr hgo hn O0 O1 O2 zo
    go_loopw [7, 8] (fun s i wr => ∃ (k m g cp : Nat), s = .slice (some ⟨g, 0, none⟩) m cp ∧ i = .int .i64 k ∧ k ≤ n ∧ w.heap.size ≤ g ∧ g ≠ bs ∧ g ≠ br ∧ m = (runL a M zs k).2.length ∧ Own wr 35 6 g m cp (((runL a M zs k).2).map VPacket.cells).flatten ∧ LBlk wr bs (runL a M zs k).1 M ∧ Row wr br #[.int .i64 0, .int .i64 0] ∧ Below w.heap.size w wr) (fun _ i _ => n - (intOf i).toNat)
    case atStart => exact ⟨0, 0, _, _, rfl, rfl, by omega, by omega, by omega, by omega, rfl, o3.out, l3.out, r3.out, b3.out⟩
    case round =>
      clear l3 r3 o3 b3
      obtain ⟨k, m, g, cp, rfl, rfl, hk, hg, hgs, hgr, hmm, oz, lb, rr, hbl⟩ := hrel
      have lz := oz.lt
      have sz := hbl.size
      have llb := lt_of_block lb
      have lrr := rr.2.2
      have hrl := runL_len a M zs k
      have hm20 : m ≤ 20 := by omega
      have Hm := hide hmm
      clear hmm hrl
      by_cases hk' : k < n
      · have hpc := PkC.of (H2.out.below hbl) (k := k) (by rw [Hn.out]; exact hk')
        have hst := runL_succ a M zs k (by rw [Hn.out]; exact hk')
        obtain ⟨x, hx⟩ : ∃ x, zs.getD k default = x := ⟨_, rfl⟩
        rw [hx] at hpc hst
        obtain ⟨b, off, rfl, hpc⟩ := hpc
        have hbw : b < w.heap.size := by
          obtain ⟨b', o', eb, hp0⟩ := PkC.of H2.out (k := k) (by rw [Hn.out]; exact hk')
          cases eb
          exact hp0.1
        obtain ⟨S, hS⟩ : ∃ S, runL a M zs k = S := ⟨_, rfl⟩
        rw [hS] at oz lb Hm hst
        obtain ⟨nw, ot⟩ := S
        obtain ⟨n1, hn1⟩ : ∃ n1, stepN nw M x.a2 x.a4 = n1 := ⟨_, rfl⟩
        have Hst := hide (show runL a M zs (k + 1) = (n1, if x.a2 == n1 then ot ++ [x] else ot) from by rw [hst, ← hn1]; rfl)
        have g2 : (k : Int) < (n : Int) := by omega
        have gk0 : (0 : Int) ≤ (k : Int) := by omega
        have LB := hide lb
        have RR := hide rr
        have PC := hide hpc
        have OZ := hide oz
        have BL := hide hbl
        have hstep := fun W => l12Step nw M x.a0 x.a1 x.a2 x.a3 x.a4 x.a5 W
        rw [hn1] at hstep
        have HSt := hide hstep
        clear hx hst hS oz lb rr hbl hn1 hstep hpc
        go_wp2_with fail
        refine wp_region_held_drew (S := fun w' => Row w' bs #[.int .i64 nw, .int .i64 M] ∧ PkC w' b (off + k * 6) x) (by kernel_rfl) (by exact ⟨LB.out.row, PC.out⟩) (fun hHeld => ?_)
        refine wpAnyH_take (i := 0) (oi := ⟨some 29, _, _, _, _, _⟩) (v := ?va0) rfl (by kernel_rfl) (by kernel_rfl) (by kernel_rfl) (fun _ _ _ h => h) (Or.inl ⟨by rfl, ?ya0⟩) (by assumption) ?_
        case ya0 => (intro w hSw; obtain ⟨⟨u1, u2, _⟩, ⟨_, p0, p1, p2, p3, p4, p5⟩⟩ := hSw; go_simp; (try with_reducible rfl))
        (try simp only [Act.put, List.setIfInBounds_toArray, List.set_cons_zero, List.set_cons_succ])
        refine wpAnyH_take (i := 1) (oi := ⟨some 30, _, _, _, _, _⟩) (v := ?va1) rfl (by kernel_rfl) (by kernel_rfl) (by kernel_rfl) (fun _ _ _ h => h) (Or.inl ⟨by rfl, ?ya1⟩) (by assumption) ?_
        case ya1 => (intro w hSw; obtain ⟨⟨u1, u2, _⟩, ⟨_, p0, p1, p2, p3, p4, p5⟩⟩ := hSw; go_simp; (try with_reducible rfl))
        (try simp only [Act.put, List.setIfInBounds_toArray, List.set_cons_zero, List.set_cons_succ])
        refine wpAnyH_take (i := 2) (oi := ⟨some 31, _, _, _, _, _⟩) (v := ?va2) rfl (by kernel_rfl) (by kernel_rfl) (by kernel_rfl) (fun _ _ _ h => h) (Or.inl ⟨by rfl, ?ya2⟩) (by assumption) ?_
        case ya2 => (intro w hSw; obtain ⟨⟨u1, u2, _⟩, ⟨_, p0, p1, p2, p3, p4, p5⟩⟩ := hSw; go_simp; (try with_reducible rfl))
        (try simp only [Act.put, List.setIfInBounds_toArray, List.set_cons_zero, List.set_cons_succ])
        refine wpAnyH_take (i := 3) (oi := ⟨some 32, _, _, _, _, _⟩) (v := ?va3) rfl (by kernel_rfl) (by kernel_rfl) (by kernel_rfl) (fun _ _ _ h => h) (Or.inl ⟨by rfl, ?ya3⟩) (by assumption) ?_
        case ya3 => (intro w hSw; obtain ⟨⟨u1, u2, _⟩, ⟨_, p0, p1, p2, p3, p4, p5⟩⟩ := hSw; go_simp; (try with_reducible rfl))
        (try simp only [Act.put, List.setIfInBounds_toArray, List.set_cons_zero, List.set_cons_succ])
        refine wpAnyH_take (i := 4) (oi := ⟨some 33, _, _, _, _, _⟩) (v := ?va4) rfl (by kernel_rfl) (by kernel_rfl) (by kernel_rfl) (fun _ _ _ h => h) (Or.inl ⟨by rfl, ?ya4⟩) (by assumption) ?_
        case ya4 => (intro w hSw; obtain ⟨⟨u1, u2, _⟩, ⟨_, p0, p1, p2, p3, p4, p5⟩⟩ := hSw; go_simp; (try with_reducible rfl))
        (try simp only [Act.put, List.setIfInBounds_toArray, List.set_cons_zero, List.set_cons_succ])
        refine wpAnyH_ready (rs := [5, 9]) (by kernel_rfl) (by simp) ?_
        refine AllReadyH.cons (o := ⟨some 34, _, _, _, _, _⟩) rfl (fun K hK => ?_) ?_
        · go_simp
          refine (HSt.out _).mono ?_
          rintro e w5 ⟨rfl, hb5⟩
          have S5 := And.intro (hHeld.1.below hb5) (hHeld.2.below hb5)
          have L5 := hide ((show LBlk wr.drew bs nw M from LB.out).below hb5)
          have R5 := hide ((show Row wr.drew br _ from RR.out).below hb5)
          have O5 := hide ((OZ.out.drew).below hb5)
          have P5 := hide ((show PkC wr.drew b (off + k * 6) x from PC.out).below hb5)
          have B5 := hide ((Below.drew BL.out).trans (hb5.mono sz))
          have lsz : wr.heap.size ≤ w5.heap.size := hb5.size
          clear hb5 hHeld
          go_wp2_with fail
          refine hK.out _ _ (S5) (fun hHeld => ?_)
          clear hK K
          (try simp only [Act.put, List.setIfInBounds_toArray, List.set_cons_zero, List.set_cons_succ])
          refine wpAnyH_take (i := 6) (oi := ⟨some 28, _, _, _, _, _⟩) (v := ?vb6) rfl (by kernel_rfl) (by kernel_rfl) (by kernel_rfl) (fun _ _ _ h => h) (Or.inl ⟨by rfl, ?yb6⟩) (by assumption) ?_
          case yb6 => (intro w hSw; obtain ⟨⟨u1, u2, _⟩, ⟨_, p0, p1, p2, p3, p4, p5⟩⟩ := hSw; go_simp; (try with_reducible rfl))
          (try simp only [Act.put, List.setIfInBounds_toArray, List.set_cons_zero, List.set_cons_succ])
          refine wpAnyH_take (i := 7) (oi := ⟨some 35, _, _, _, _, _⟩) (v := ?vb7) rfl (by kernel_rfl) (by kernel_rfl) (by kernel_rfl) (fun _ _ _ h => h) (Or.inl ⟨by rfl, ?yb7⟩) (by assumption) ?_
          case yb7 => (intro w hSw; obtain ⟨⟨u1, u2, _⟩, ⟨_, p0, p1, p2, p3, p4, p5⟩⟩ := hSw; go_simp; (try with_reducible rfl))
          (try simp only [Act.put, List.setIfInBounds_toArray, List.set_cons_zero, List.set_cons_succ])
          refine wpAnyH_take (i := 8) (oi := ⟨some 36, _, _, _, _, _⟩) (v := ?vb8) rfl (by kernel_rfl) (by kernel_rfl) (by kernel_rfl) (fun _ _ _ h => h) (Or.inl ⟨by rfl, ?yb8⟩) (by assumption) ?_
          case yb8 => (intro w hSw; obtain ⟨⟨u1, u2, _⟩, ⟨_, p0, p1, p2, p3, p4, p5⟩⟩ := hSw; go_simp; (try with_reducible rfl))
          (try simp only [Act.put, List.setIfInBounds_toArray, List.set_cons_zero, List.set_cons_succ])
          refine wpAnyH_ready (rs := [9]) (by kernel_rfl) (by simp) ?_
          refine AllReadyH.cons (o := ⟨some 9, _, _, _, _, _⟩) rfl (fun K hK => ?_) AllReadyH.nil
          go_simp
          refine hK.out _ _ (⟨hHeld.1.alloc _, hHeld.2.alloc _⟩) (fun hHeld => ?_)
          clear hK K
          (try simp only [Act.put, List.setIfInBounds_toArray, List.set_cons_zero, List.set_cons_succ])
          have gxn : bs ≠ w5.heap.size := by omega
          refine wpAnyH_ready (rs := [10]) (by kernel_rfl) (by simp) ?_
          refine AllReadyH.cons (o := ⟨none, _, _, _, _, _⟩) rfl (fun K hK => ?_) AllReadyH.nil
          go_simp
          refine hK.out _ _ ⟨S5.1.alloc _, S5.2.alloc _⟩ (fun hHeld => ?_)
          clear hK K
          (try simp only [Act.put, List.setIfInBounds_toArray, List.set_cons_zero, List.set_cons_succ])
          refine wpAnyH_take (i := 11) (oi := ⟨some 10, _, _, _, _, _⟩) (v := ?vb11) rfl (by kernel_rfl) (by kernel_rfl) (by kernel_rfl) (fun _ _ _ h => h) (Or.inl ⟨by rfl, ?yb11⟩) (by assumption) ?_
          case yb11 => (intro w hSw; go_simp; (try with_reducible rfl))
          (try simp only [Act.put, List.setIfInBounds_toArray, List.set_cons_zero, List.set_cons_succ])
          refine wpAnyH_done (by kernel_rfl) ?_ _
          obtain ⟨gx, hgx⟩ : ∃ g, w5.heap.size = g := ⟨_, rfl⟩
          obtain ⟨wx, hwx⟩ : ∃ wx, (w5.alloc (.cells #[.int .i64 n1, .int .i64 M] 25)) = wx := ⟨_, rfl⟩
          have lgx : LBlk wx gx n1 M := by rw [← hwx, ← hgx]; exact LBlk.new _ _ _
          have lbx : LBlk wx bs nw M := by rw [← hwx]; exact L5.out.alloc _
          have rrx : Row wx br #[.int .i64 0, .int .i64 0] := by rw [← hwx]; exact R5.out.alloc _
          have ozx : Own wx 35 6 g m cp (ot.map VPacket.cells).flatten := by rw [← hwx]; exact O5.out.alloc _
          have pcx : PkC wx b (off + k * 6) x := by rw [← hwx]; exact P5.out.alloc _
          have blx : Below w.heap.size w wx := by rw [← hwx]; exact B5.out.alloc (by omega) _
          rw [hgx, hwx]
          rw [hgx] at gxn
          clear hwx S5 L5 R5 O5 P5 B5 hHeld LB RR PC OZ BL
          obtain ⟨cG, fG, _⟩ := lgx.row
          have LB2 := hide lbx
          have fS := (lbx.row).2.1
          have c0S := (lbx.row).1
          have RR2 := hide rrx
          have OZ2 := hide ozx
          have PC2 := hide pcx
          have BL2 := hide blx
          have sx := blx.size
          have lzx := ozx.lt
          clear lgx lbx rrx ozx pcx blx
          go_upto_if 38 with (fail)
          refine rebase (fun wy => LBlk wy bs n1 M ∧ Row wy br #[.int .i64 0, .int .i64 0] ∧ Own wy 35 6 g m cp (ot.map VPacket.cells).flatten ∧ PkC wy b (off + k * 6) x ∧ Below w.heap.size w wy) ⟨LB2.out.set n1 M, (RR2.out.far (by show br ≠ bs; omega) _).far (by show br ≠ bs; omega) _, (OZ2.out.far (by show g ≠ bs; exact hgs) _).far (by show g ≠ bs; exact hgs) _, (PC2.out.far (by show b ≠ bs; omega) _).far (by show b ≠ bs; omega) _, (BL2.out.setCell (by show _ ≤ bs; exact d3) _).setCell (by show _ ≤ bs; exact d3) _⟩ ?_
          clear cG fG LB2 fS c0S RR2 OZ2 PC2 BL2 sx lzx
          rintro wy ⟨l5, r5, o5, p5, b5⟩
          have L5 := hide l5
          have R5 := hide r5
          have P5 := hide p5
          have B5 := hide b5
          have s5z := b5.size
          have lby := lt_of_block l5
          have lry := r5.2.2
          have l5z := o5.lt
          obtain ⟨_, q0, q1, q2, q3, q4, q5⟩ := P5.out
          clear l5 r5 p5 b5
          by_cases hon : x.a2 = n1
          · have e0 : (x.a2 == n1) = true := by simpa using hon
            have Hon := hide hon
            clear hon
            go_wp2_with (first | (at_builtin; refine wpList_append_1 rfl _ _ _ rfl elemQ rfl o5 #[.int .i64 x.a0, .int .i64 x.a1, .int .i64 x.a2, .int .i64 x.a3, .bool x.a4, .bool x.a5] rfl rfl rfl (by omega) ?_; intro g7 cp7 w7 oz7 hg7 hat7))
            have o7 := hide (own_snocQ (x := x) rfl oz7)
            have l7 := hide (L5.out.grown hg7 (Ne.symm hgs))
            have r7 := hide (R5.out.grown hg7 (Ne.symm hgr))
            have b7 := hide (B5.out.grown hg7 s5z (by intro k hk; simp at hk; omega))
            clear hg7 oz7 o5 q0 q1 q2 q3 q4 q5
            go_roundw
            case rel =>
              have hs := Hst.out
              rw [if_pos (by simpa using Hon.out)] at hs
              have hsz := lsz
              refine ⟨k + 1, m + 1, g7, cp7, rfl, by go_num, by omega, by omega, by omega, by omega, ?_, o7.out.conv (by rw [hs]), ?_, r7.out, b7.out⟩
              · rw [hs]; show m + 1 = (ot ++ [x]).length; rw [List.length_append, ← Hm.out]; rfl
              · rw [hs]; exact l7.out
            case measure => simp [intOf]; omega
          · have e0 : (x.a2 == n1) = false := by simpa using hon
            have Hon := hide hon
            have O5 := hide o5
            clear hon o5 q0 q1 q2 q3 q4 q5
            go_wp2_with fail
            go_roundw
            case rel =>
              have hs := Hst.out
              rw [if_neg (by simpa using Hon.out)] at hs
              refine ⟨k + 1, m, g, cp, rfl, by go_num, by omega, hg, hgs, hgr, ?_, O5.out.conv (by rw [hs]), ?_, R5.out, B5.out⟩
              · rw [hs]; exact Hm.out
              · rw [hs]; exact L5.out
            case measure => simp [intOf]; omega
        · refine AllReadyH.cons (o := ⟨some 9, _, _, _, _, _⟩) rfl (fun K hK => ?_) AllReadyH.nil
          go_simp
          have S4 := And.intro (hHeld.1.alloc (.cells #[.int .i64 0, .int .i64 0] 25)) (hHeld.2.alloc (.cells #[.int .i64 0, .int .i64 0] 25))
          refine hK.out _ _ S4 (fun hHeld => ?_)
          clear hK K
          (try simp only [Act.put, List.setIfInBounds_toArray, List.set_cons_zero, List.set_cons_succ])
          refine wpAnyH_ready (rs := [5]) (by kernel_rfl) (by simp) ?_
          refine AllReadyH.cons (o := ⟨some 34, _, _, _, _, _⟩) rfl (fun K hK => ?_) AllReadyH.nil
          go_simp
          refine (HSt.out _).mono ?_
          rintro e w5 ⟨rfl, hb5⟩
          have G5 := hide (show LBlk w5 wr.heap.size 0 0 from (LBlk.new wr.drew 0 0).below hb5)
          have S5 := And.intro (S4.1.below hb5) (S4.2.below hb5)
          have L5 := hide (((show LBlk wr.drew bs nw M from LB.out).alloc _).below hb5)
          have R5 := hide (((show Row wr.drew br _ from RR.out).alloc _).below hb5)
          have O5 := hide (((OZ.out.drew).alloc _).below hb5)
          have P5 := hide (((show PkC wr.drew b (off + k * 6) x from PC.out).alloc _).below hb5)
          have B5 := hide (((Below.drew BL.out).alloc sz _).trans (hb5.mono (by simp [World.drew]; omega)))
          have lsz : wr.heap.size + 1 ≤ w5.heap.size := by have := hb5.size; simp [World.drew] at this; omega
          clear hb5
          go_wp2_with fail
          obtain ⟨gx, hgx⟩ : ∃ g, wr.heap.size = g := ⟨_, rfl⟩
          have gxn : bs ≠ gx := by omega
          have gxr : br ≠ gx := by omega
          have gxg : g ≠ gx := by omega
          have gxb : b ≠ gx := by omega
          have hgw : w.heap.size ≤ gx := by omega
          have lsz : gx < w5.heap.size := by omega
          refine hK.out _ _ S5 (fun hHeld => ?_)
          clear hK K
          (try simp only [Act.put, List.setIfInBounds_toArray, List.set_cons_zero, List.set_cons_succ])
          refine wpAnyH_take (i := 6) (oi := ⟨some 28, _, _, _, _, _⟩) (v := ?vc6) rfl (by kernel_rfl) (by kernel_rfl) (by kernel_rfl) (fun _ _ _ h => h) (Or.inl ⟨by rfl, ?yc6⟩) (by assumption) ?_
          case yc6 => (intro w hSw; obtain ⟨⟨u1, u2, _⟩, ⟨_, p0, p1, p2, p3, p4, p5⟩⟩ := hSw; go_simp; (try with_reducible rfl))
          (try simp only [Act.put, List.setIfInBounds_toArray, List.set_cons_zero, List.set_cons_succ])
          refine wpAnyH_take (i := 7) (oi := ⟨some 35, _, _, _, _, _⟩) (v := ?vc7) rfl (by kernel_rfl) (by kernel_rfl) (by kernel_rfl) (fun _ _ _ h => h) (Or.inl ⟨by rfl, ?yc7⟩) (by assumption) ?_
          case yc7 => (intro w hSw; obtain ⟨⟨u1, u2, _⟩, ⟨_, p0, p1, p2, p3, p4, p5⟩⟩ := hSw; go_simp; (try with_reducible rfl))
          (try simp only [Act.put, List.setIfInBounds_toArray, List.set_cons_zero, List.set_cons_succ])
          refine wpAnyH_take (i := 8) (oi := ⟨some 36, _, _, _, _, _⟩) (v := ?vc8) rfl (by kernel_rfl) (by kernel_rfl) (by kernel_rfl) (fun _ _ _ h => h) (Or.inl ⟨by rfl, ?yc8⟩) (by assumption) ?_
          case yc8 => (intro w hSw; obtain ⟨⟨u1, u2, _⟩, ⟨_, p0, p1, p2, p3, p4, p5⟩⟩ := hSw; go_simp; (try with_reducible rfl))
          (try simp only [Act.put, List.setIfInBounds_toArray, List.set_cons_zero, List.set_cons_succ])
          refine wpAnyH_ready (rs := [10]) (by kernel_rfl) (by simp) ?_
          refine AllReadyH.cons (o := ⟨none, _, _, _, _, _⟩) rfl (fun K hK => ?_) AllReadyH.nil
          have G6 := G5.out
          rw [hgx] at G6
          obtain ⟨cx, fx, _⟩ := G6.row
          have c0x := cx 0
          go_simp
          refine hK.out _ _ ⟨(S5.1.far (by show bs ≠ gx; exact gxn) _).far (by show bs ≠ gx; exact gxn) _, (S5.2.far (by show b ≠ gx; exact gxb) _).far (by show b ≠ gx; exact gxb) _⟩ (fun hHeld => ?_)
          clear hK K
          (try simp only [Act.put, List.setIfInBounds_toArray, List.set_cons_zero, List.set_cons_succ])
          refine wpAnyH_take (i := 11) (oi := ⟨some 10, _, _, _, _, _⟩) (v := ?vc11) rfl (by kernel_rfl) (by kernel_rfl) (by kernel_rfl) (fun _ _ _ h => h) (Or.inl ⟨by rfl, ?yc11⟩) (by assumption) ?_
          case yc11 => (intro w hSw; go_simp; (try with_reducible rfl))
          (try simp only [Act.put, List.setIfInBounds_toArray, List.set_cons_zero, List.set_cons_succ])
          refine wpAnyH_done (by kernel_rfl) ?_ _
          obtain ⟨wx, hwx⟩ : ∃ wx, ((w5.setCell ⟨gx, 0, none⟩ (.int .i64 n1)).setCell ⟨gx, 1, none⟩ (.int .i64 M)) = wx := ⟨_, rfl⟩
          have lgx : LBlk wx gx n1 M := by rw [← hwx]; exact G6.set n1 M
          have lbx : LBlk wx bs nw M := by rw [← hwx]; exact (L5.out.far (by show bs ≠ gx; exact gxn) _).far (by show bs ≠ gx; exact gxn) _
          have rrx : Row wx br #[.int .i64 0, .int .i64 0] := by rw [← hwx]; exact (R5.out.far (by show br ≠ gx; exact gxr) _).far (by show br ≠ gx; exact gxr) _
          have ozx : Own wx 35 6 g m cp (ot.map VPacket.cells).flatten := by rw [← hwx]; exact (O5.out.far (by show g ≠ gx; exact gxg) _).far (by show g ≠ gx; exact gxg) _
          have pcx : PkC wx b (off + k * 6) x := by rw [← hwx]; exact (P5.out.far (by show b ≠ gx; exact gxb) _).far (by show b ≠ gx; exact gxb) _
          have blx : Below w.heap.size w wx := by rw [← hwx]; exact (B5.out.setCell (by show _ ≤ gx; exact hgw) _).setCell (by show _ ≤ gx; exact hgw) _
          rw [hwx]
          clear hwx S5 L5 R5 O5 P5 B5 hHeld LB RR PC OZ BL G5 G6 c0x cx fx S4
          obtain ⟨cG, fG, _⟩ := lgx.row
          have LB2 := hide lbx
          have fS := (lbx.row).2.1
          have c0S := (lbx.row).1
          have RR2 := hide rrx
          have OZ2 := hide ozx
          have PC2 := hide pcx
          have BL2 := hide blx
          have sx := blx.size
          have lzx := ozx.lt
          clear lgx lbx rrx ozx pcx blx
          go_upto_if 38 with (fail)
          refine rebase (fun wy => LBlk wy bs n1 M ∧ Row wy br #[.int .i64 0, .int .i64 0] ∧ Own wy 35 6 g m cp (ot.map VPacket.cells).flatten ∧ PkC wy b (off + k * 6) x ∧ Below w.heap.size w wy) ⟨LB2.out.set n1 M, (RR2.out.far (by show br ≠ bs; omega) _).far (by show br ≠ bs; omega) _, (OZ2.out.far (by show g ≠ bs; exact hgs) _).far (by show g ≠ bs; exact hgs) _, (PC2.out.far (by show b ≠ bs; omega) _).far (by show b ≠ bs; omega) _, (BL2.out.setCell (by show _ ≤ bs; exact d3) _).setCell (by show _ ≤ bs; exact d3) _⟩ ?_
          clear cG fG LB2 fS c0S RR2 OZ2 PC2 BL2 sx lzx
          rintro wy ⟨l5, r5, o5, p5, b5⟩
          have L5 := hide l5
          have R5 := hide r5
          have P5 := hide p5
          have B5 := hide b5
          have s5z := b5.size
          have lby := lt_of_block l5
          have lry := r5.2.2
          have l5z := o5.lt
          obtain ⟨_, q0, q1, q2, q3, q4, q5⟩ := P5.out
          clear l5 r5 p5 b5
          by_cases hon : x.a2 = n1
          · have e0 : (x.a2 == n1) = true := by simpa using hon
            have Hon := hide hon
            clear hon
            go_wp2_with (first | (at_builtin; refine wpList_append_1 rfl _ _ _ rfl elemQ rfl o5 #[.int .i64 x.a0, .int .i64 x.a1, .int .i64 x.a2, .int .i64 x.a3, .bool x.a4, .bool x.a5] rfl rfl rfl (by omega) ?_; intro g7 cp7 w7 oz7 hg7 hat7))
            have o7 := hide (own_snocQ (x := x) rfl oz7)
            have l7 := hide (L5.out.grown hg7 (Ne.symm hgs))
            have r7 := hide (R5.out.grown hg7 (Ne.symm hgr))
            have b7 := hide (B5.out.grown hg7 s5z (by intro k hk; simp at hk; omega))
            clear hg7 oz7 o5 q0 q1 q2 q3 q4 q5
            go_roundw
            case rel =>
              have hs := Hst.out
              rw [if_pos (by simpa using Hon.out)] at hs
              have hsz := lsz
              refine ⟨k + 1, m + 1, g7, cp7, rfl, by go_num, by omega, by omega, by omega, by omega, ?_, o7.out.conv (by rw [hs]), ?_, r7.out, b7.out⟩
              · rw [hs]; show m + 1 = (ot ++ [x]).length; rw [List.length_append, ← Hm.out]; rfl
              · rw [hs]; exact l7.out
            case measure => simp [intOf]; omega
          · have e0 : (x.a2 == n1) = false := by simpa using hon
            have Hon := hide hon
            have O5 := hide o5
            clear hon o5 q0 q1 q2 q3 q4 q5
            go_wp2_with fail
            go_roundw
            case rel =>
              have hs := Hst.out
              rw [if_neg (by simpa using Hon.out)] at hs
              refine ⟨k + 1, m, g, cp, rfl, by go_num, by omega, hg, hgs, hgr, ?_, O5.out.conv (by rw [hs]), ?_, R5.out, B5.out⟩
              · rw [hs]; exact Hm.out
              · rw [hs]; exact L5.out
            case measure => simp [intOf]; omega
      · have hkn : k = n := by omega
        subst hkn
        obtain ⟨cS, fS, _⟩ := lb.row
        obtain ⟨cR, fR, _⟩ := rr
        have OZ := hide oz
        have BL := hide hbl
        have nsr : ¬ bs = br := by omega
        have nrs : ¬ br = bs := by omega
        obtain ⟨NN, hNN⟩ : ∃ NN, (runL a M zs k).1 = NN := ⟨_, rfl⟩
        rw [hNN] at cS
        have HNN := hide hNN
        clear oz hbl lb hNN
        go_wp2_with fail
        refine bodyPost_ret (by first | (simp (maxDischargeDepth := 3) [results, Try.results30, go_sem, *]; done) | (simp (maxDischargeDepth := 3) [results, Try.results30, go_sem, *]; rfl) | (simp (maxDischargeDepth := 7) [results, Try.results30, go_sem, *]; done) | (simp (maxDischargeDepth := 7) [results, Try.results30, go_sem, *]; rfl)) rfl ?_
        refine newRun_mk ?_ rfl ?_ Hm.out hg ((OZ.out.far (by show g ≠ br; exact hgr) _).far (by show g ≠ br; exact hgr) _) ?_
        · rw [Hn.out, HNN.out]
        · rw [Hn.out]
        · exact (BL.out.setCell (by show _ ≤ br; omega) _).setCell (by show _ ≤ br; omega) _
  · rcases hno with hl | ⟨hl, hp⟩
    · have Hl := hide hl
      clear hl
      go_enter Try.func30, Try.ntmps30
      go_wp2_with fail
      refine (specLayeredValid a b _).mono ?_
      rw [Hl.out]
      rintro e w1 ⟨rfl, hb⟩
      have r1 := R0.out.below hb
      have O2 := hide (O0.out.below hb)
      have b1 := hide (B0.out.trans (hb.mono (by simp; omega)))
      obtain ⟨cR, fR, lR⟩ := r1
      have ne1 : ¬ w1.heap.size = w.heap.size + 1 := by omega
      have ne2 : ¬ w.heap.size + 1 = w1.heap.size := by omega
      clear hb
      go_wp2_with fail
      refine bodyPost_ret (by first | (simp (maxDischargeDepth := 3) [results, Try.results30, go_sem, *]; done) | (simp (maxDischargeDepth := 3) [results, Try.results30, go_sem, *]; rfl) | (simp (maxDischargeDepth := 7) [results, Try.results30, go_sem, *]; done) | (simp (maxDischargeDepth := 7) [results, Try.results30, go_sem, *]; rfl)) rfl ?_
      refine newRun_mk (xs := []) rfl rfl rfl rfl (by omega) ((O2.out.far (by show w.heap.size + 2 ≠ w.heap.size + 1; omega) _).far (by show w.heap.size + 2 ≠ w.heap.size + 1; omega) _) ?_
      have hb1 := b1.out
      (repeat' (first | (with_reducible exact Below.refl _ _) | (with_reducible assumption) | (with_reducible refine Below.alloc ?_ ?_ _) | (with_reducible refine Below.setCell ?_ ?_ _) | (with_reducible refine Below.drew ?_) | (with_reducible refine below_drewN' ?_ _) | (with_reducible refine below_step (by assumption) ?_ ?_) | (with_reducible refine below_gstep (by assumption) ?_ ?_ ?_) | (with_reducible exact Below.size (by assumption)) | omega | (simp; done) | (simp; omega)))
    · have Hl := hide hl
      have HV := hide hp
      clear hl hp
      go_enter Try.func30, Try.ntmps30
      go_wp2_with fail
      refine (specLayeredValid a b _).mono ?_
      rw [Hl.out]
      rintro e w1 ⟨rfl, hb⟩
      have R1 := hide (R0.out.below hb)
      have O1 := hide (O0.out.below hb)
      have b1 := B0.out.trans (hb.mono (by simp; omega))
      have K := specPacketsValid A c zs w1 (H2.out.below b1) hm
      rw [HV.out] at K
      have KK := hide K
      clear hb K
      go_wp2_with fail
      refine KK.out.mono ?_
      rintro e w2 ⟨rfl, hb⟩
      have r2 := R1.out.below hb
      have O2 := hide (O1.out.below hb)
      have b2 := hide (b1.trans (hb.mono b1.size))
      obtain ⟨cR, fR, lR⟩ := r2
      have ne1 : ¬ w2.heap.size = w.heap.size + 1 := by omega
      have ne2 : ¬ w.heap.size + 1 = w2.heap.size := by omega
      clear hb KK b1
      go_wp2_with fail
      refine bodyPost_ret (by first | (simp (maxDischargeDepth := 3) [results, Try.results30, go_sem, *]; done) | (simp (maxDischargeDepth := 3) [results, Try.results30, go_sem, *]; rfl) | (simp (maxDischargeDepth := 7) [results, Try.results30, go_sem, *]; done) | (simp (maxDischargeDepth := 7) [results, Try.results30, go_sem, *]; rfl)) rfl ?_
      refine newRun_mk (xs := []) rfl rfl rfl rfl (by omega) ((O2.out.far (by show w.heap.size + 2 ≠ w.heap.size + 1; omega) _).far (by show w.heap.size + 2 ≠ w.heap.size + 1; omega) _) ?_
      have hb1 := b2.out
      (repeat' (first | (with_reducible exact Below.refl _ _) | (with_reducible assumption) | (with_reducible refine Below.alloc ?_ ?_ _) | (with_reducible refine Below.setCell ?_ ?_ _) | (with_reducible refine Below.drew ?_) | (with_reducible refine below_drewN' ?_ _) | (with_reducible refine below_step (by assumption) ?_ ?_) | (with_reducible refine below_gstep (by assumption) ?_ ?_ ?_) | (with_reducible exact Below.size (by assumption)) | omega | (simp; done) | (simp; omega)))
end Go.Proofs.Yticelpaicenbkaa
