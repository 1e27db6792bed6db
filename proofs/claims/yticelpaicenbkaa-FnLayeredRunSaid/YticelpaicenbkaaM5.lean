/- What l91Packets draws. -/
import Derived.Test.YticelpaicenbkaaM1
namespace Go.Proofs.Yticelpaicenbkaa
open Go.ChangeShapes Go.WideShapes Go.ChangeAt Go.RowKit Go.Deep

theorem elemP : ElemOf Try.prog 42 35 6 40 := elemOf Try.underlying42 infoPacket rfl (by omega) (by omega)
theorem grown_rowP {a b c : World} {R g : Nat} (h : a.grownBy b (some R)) (k : b.grownBy c (some g)) (hg : a.heap.size ≤ g) : a.grownBy c (some R) :=
  ⟨k.os.trans h.os, k.tape.trans h.tape, k.output.trans h.output, Nat.le_trans h.size k.size, fun i hi hne => (k.block i (Nat.lt_of_lt_of_le hi h.size) (by simp; omega)).trans (h.block i hi hne)⟩
/-- What a draw of packets leaves. -/
def DrewPks (B R P M : Nat) (w : World) (e : Ending) (w' : World) : Prop :=
  ∃ g c zs, e = .returned (.slice (some ⟨g, 0, none⟩) (List.length zs) c) ∧ zs.length ≤ M ∧ w.heap.size ≤ g ∧ Own w' 35 6 g zs.length c (zs.map VPacket.cells).flatten ∧ Rd w' B R P ∧ w.grownBy w' (some R)
theorem drewPks_mk {B R P M g c k : Nat} {zs : List VPacket} {w w' : World} (hk : zs.length = k) (h1 : k ≤ M) (h2 : w.heap.size ≤ g) (h3 : Own w' 35 6 g k c (zs.map VPacket.cells).flatten) (h4 : Rd w' B R P) (h5 : w.grownBy w' (some R)) :
    DrewPks B R P M w (.returned (.slice (some ⟨g, 0, none⟩) k c)) w' := ⟨g, c, zs, by rw [hk], by omega, h2, by rw [hk]; exact h3, h4, h5⟩
theorem own_snocP {w : World} {g k c : Nat} {zs : List VPacket} {x : VPacket} {cs : List Value} (hcs : cs = x.cells) (h : Own w 35 6 g (k + 1) c ((zs.map VPacket.cells).flatten ++ cs)) : Own w 35 6 g (k + 1) c ((zs ++ [x]).map VPacket.cells).flatten :=
  h.conv (by rw [hcs]; simp)
/-- One field of an element is written anew. -/
theorem own_fieldP {w : World} {g n c y j : Nat} {zs : List VPacket} (h : Own w 35 6 g n c (zs.map VPacket.cells).flatten) (hj : j = 0 ∨ j = 1) (v : Int) (p : Addr) (hp : p = ⟨g, y * 6 + j, none⟩) :
    ∃ zs' : List VPacket, zs'.length = zs.length ∧ Own (w.setCell p (.int .i64 v)) 35 6 g n c (zs'.map VPacket.cells).flatten := by
  subst hp
  have e := (flatPacket zs).set y j (by omega) (.int .i64 v)
  rcases hj with rfl | rfl
  · refine ⟨zs.modify y fun x => { x with a0 := v }, by simp, (h.set (y * 6 + 0) _).conv ?_⟩
    rw [e]
    congr 1
    apply List.ext_getElem?
    intro i
    simp only [List.getElem?_modify, List.getElem?_map]
    cases zs[i]? with
    | none => rfl
    | some x => by_cases hi : y = i <;> simp [hi, VPacket.cells]
  · refine ⟨zs.modify y fun x => { x with a1 := v }, by simp, (h.set (y * 6 + 1) _).conv ?_⟩
    rw [e]
    congr 1
    apply List.ext_getElem?
    intro i
    simp only [List.getElem?_modify, List.getElem?_map]
    cases zs[i]? with
    | none => rfl
    | some x => by_cases hi : y = i <;> simp [hi, VPacket.cells]
theorem own_cellP {w : World} {g n c y : Nat} {zs : List VPacket} (h : Own w 35 6 g n c (zs.map VPacket.cells).flatten) (hn : zs.length = n) (hy : y < n) : ∃ a0 a1 : Int, w.cell? ⟨g, y * 6, none⟩ = some (.int .i64 a0) ∧ w.cell? ⟨g, y * 6 + 1, none⟩ = some (.int .i64 a1) := by
  obtain ⟨b, off, he, _, hc⟩ := PacketAt.at (ownPacket h hn) (by omega)
  simp only [Option.some.injEq, Addr.mk.injEq, and_true] at he
  obtain ⟨rfl, rfl⟩ := he
  have := hc y (by omega)
  rw [Nat.zero_add] at this
  exact ⟨_, _, this.1, this.2.1⟩
theorem pk_set {w W : World} {B R Q g c k y j : Nat} {zs : List VPacket} (hl : zs.length = k) (ho : Own W 35 6 g k c (zs.map VPacket.cells).flatten) (hr : Rd W B R Q) (hG : w.grownBy W (some R)) (hg : w.heap.size ≤ g) (hRg : R < g) (hj : j = 0 ∨ j = 1) (v : Int) (p : Addr) (hp : p = ⟨g, y * 6 + j, none⟩) :
    ∃ zs' : List VPacket, zs'.length = k ∧ Own (W.setCell p (.int .i64 v)) 35 6 g k c (zs'.map VPacket.cells).flatten ∧ Rd (W.setCell p (.int .i64 v)) B R Q ∧ w.grownBy (W.setCell p (.int .i64 v)) (some R) := by
  obtain ⟨zs', h1, h2⟩ := own_fieldP ho hj v p hp
  subst hp
  exact ⟨zs', by rw [h1, hl], h2, hr.setCell (by show R < g; exact hRg) _, grown_setCell hG (.inr hg) _⟩
theorem pk_alloc {w W : World} {B R Q g c k : Nat} (o : Obj) (h : ∃ zs' : List VPacket, zs'.length = k ∧ Own W 35 6 g k c (zs'.map VPacket.cells).flatten ∧ Rd W B R Q ∧ w.grownBy W (some R)) :
    ∃ zs' : List VPacket, zs'.length = k ∧ Own (W.alloc o) 35 6 g k c (zs'.map VPacket.cells).flatten ∧ Rd (W.alloc o) B R Q ∧ w.grownBy (W.alloc o) (some R) := by
  obtain ⟨zs', h1, h2, h3, h4⟩ := h
  exact ⟨zs', h1, h2.alloc _, h3.alloc _, grown_alloc h4 _⟩
theorem pk_end {w W : World} {B R Q P M g c k : Nat} (h : ∃ zs' : List VPacket, zs'.length = k ∧ Own W 35 6 g k c (zs'.map VPacket.cells).flatten ∧ Rd W B R Q ∧ w.grownBy W (some R)) (hk : k ≤ M) (hQ : Q ≤ P) (hg : w.heap.size ≤ g) : DrewPks B R P M w (.returned (.slice (some ⟨g, 0, none⟩) k c)) W := by
  obtain ⟨zs', h1, h2, h3, h4⟩ := h
  exact drewPks_mk h1 hk hg h2 (h3.more hQ) h4
theorem three_int (a b c : Int) (z : Int) (h0 : 0 ≤ z) (h1 : z < 3) : ∃ q : Int, (#[Value.int .i64 a, .int .i64 b, .int .i64 c] : Array Value)[z.toNat]? = some (.int .i64 q) := by
  rcases (show z = 0 ∨ z = 1 ∨ z = 2 from by omega) with rfl | rfl | rfl
  · exact ⟨a, rfl⟩
  · exact ⟨b, rfl⟩
  · exact ⟨c, rfl⟩
set_option maxRecDepth 100000 in
set_option maxHeartbeats 4000000 in
theorem l91Packets_any (B R P : Nat) (w : World) (hr : Rd w B R P) (hP : P ≤ 900000) :
    Calls Try.prog 46 #[.pointer (some ⟨R, 0, none⟩), .int .i64 10] w (DrewPks B R (P + 200) 10 w) := by
  have lR := hr.lt
  go_enter Try.func46, Try.ntmps46
  go_wp2_with fail
  refine (pick_any B R P _ _ (hr.alloc _) (by omega) (by omega) (by omega)).mono ?_
  rintro e w2 ⟨N, rfl, hN0, hN1, hs2, hr2, hg2⟩
  have o2 : Own w2 35 6 w.heap.size 0 0 [] := (Own.new w #[] 35 6 0 (by unfold maxLen; omega) rfl).grown hg2 (by omega)
  have G2 : w.grownBy w2 (some R) := grown_trans (World.grownBy_alloc w _ _) hg2
  clear hs2 hg2 hr
  go_wp2_with fail
  refine (pick_any B R (P + 1) _ _ hr2 (by omega) (by omega) (by omega)).mono ?_
  rintro e w3 ⟨x2, rfl, _, _, hs3, hr3, hg3⟩
  have o3 := o2.grown hg3 (by omega)
  have G3 := grown_trans G2 hg3
  clear hs3 hg3 hr2 G2 o2
  go_wp2_with fail
  refine (pick_any B R (P + 2) _ _ hr3 (by omega) (by omega) (by omega)).mono ?_
  rintro e w4 ⟨x3, rfl, _, _, hs4, hr4, hg4⟩
  have o4 := o3.grown hg4 (by omega)
  have G4 := grown_trans G3 hg4
  clear hs4 hg4 hr3 G3 o3
  go_wp2_with fail
  go_loopw [5, 7, 8, 9, 10, 11] (fun s wd tm bg ky i wr => ∃ (k g c : Nat) (zs : List VPacket) (x y : Int) (b1 b2 : Bool), s = .slice (some ⟨g, 0, none⟩) k c ∧ wd = .int .i64 x ∧ tm = .int .i64 y ∧ bg = .bool b1 ∧ ky = .bool b2 ∧ i = .int .i64 k ∧ (k : Int) ≤ N ∧ zs.length = k ∧ w.heap.size ≤ g ∧ Rd wr B R (P + 3 + 10 * k) ∧ Own wr 35 6 g k c (zs.map VPacket.cells).flatten ∧ w.grownBy wr (some R)) (fun _ _ _ _ _ i _ => (N - intOf i).toNat)
  case atStart => exact ⟨0, _, _, [], _, _, _, _, rfl, rfl, rfl, rfl, rfl, rfl, by omega, rfl, Nat.le_refl _, hr4, o4, G4⟩
  case round =>
    obtain ⟨k, g, c, zs, x, y, b1, b2, rfl, rfl, rfl, rfl, rfl, rfl, hk, hl, hg, hrr, oz, hG⟩ := hrel
    clear o4 hr4 G4
    have zG := hG.size
    have lRr := hrr.lt
    have lz := oz.lt
    have Hl := hide hl
    clear hl
    by_cases hkN : (k : Int) < N
    · go_wp2_with fail
      refine (pick_any B R _ _ _ hrr (by omega) (by omega) (by omega)).mono ?_
      rintro e w5 ⟨la, rfl, _, _, hs5, hr5, hg5⟩
      have o5 := oz.grown hg5 (by omega)
      have G5 := grown_trans hG hg5
      clear hs5 hg5 hrr hG oz
      go_upto_if 32 with (fail)
      go_cut [10] (fun kv wx => ∃ b : Bool, kv = .bool b ∧ Rd wx B R (P + 3 + 10 * k + 3) ∧ Own wx 35 6 g k c (zs.map VPacket.cells).flatten ∧ w.grownBy wx (some R))
      case first =>
        cases b1
        · go_wp2_with fail
          go_meet
          exact ⟨_, rfl, hr5.more (by omega), o5, G5⟩
        · by_cases hk0 : k = 0
          · have e0 : ((k : Int) == 0) = true := by simp [hk0]
            have Hk0 := hide hk0
            clear hk0
            go_wp2_with fail
            refine (pick_any B R _ _ _ hr5 (by omega) (by omega) (by omega)).mono ?_
            rintro e w6 ⟨x6, rfl, hx60, hx61, hs6, hr6, hg6⟩
            have o6 := o5.grown hg6 (by omega)
            have G6 := grown_trans G5 hg6
            clear hs6 hg6 hr5 G5 o5
            by_cases hx : 0 < x6
            · go_wp2_with fail
              go_meet
              exact ⟨_, rfl, hr6.more (by omega), o6, G6⟩
            · go_wp2_with fail
              refine (pick_any B R _ _ _ hr6 (by omega) (by omega) (by omega)).mono ?_
              rintro e w7 ⟨x7, rfl, hx70, hx71, hs7, hr7, hg7⟩
              have o7 := o6.grown hg7 (by omega)
              have G7 := grown_trans G6 hg7
              clear hs7 hg7 hr6 G6 o6
              go_wp2_with fail
              go_meet
              exact ⟨_, rfl, hr7.more (by omega), o7, G7⟩
          · have e0 : ((k : Int) == 0) = false := by simp only [beq_eq_false_iff_ne, ne_eq]; omega
            go_wp2_with fail
            refine (pick_any B R _ _ _ hr5 (by omega) (by omega) (by omega)).mono ?_
            rintro e w6 ⟨x6, rfl, hx60, hx61, hs6, hr6, hg6⟩
            have o6 := o5.grown hg6 (by omega)
            have G6 := grown_trans G5 hg6
            clear hs6 hg6 hr5 G5 o5
            go_wp2_with fail
            go_meet
            exact ⟨_, rfl, hr6.more (by omega), o6, G6⟩
      case rest =>
        obtain ⟨b3, rfl, hr6, o6, G6⟩ := hcut
        clear hr5 o5 G5
        go_wp2_with fail
        refine (pick_any B R _ _ _ hr6 (by omega) (by omega) (by omega)).mono ?_
        rintro e w7 ⟨x7, rfl, hx70, hx71, hs7, hr7, hg7⟩
        have o7 := o6.grown hg7 (by omega)
        have G7 := grown_trans G6 hg7
        clear hs7 hg7 hr6 G6 o6
        go_wp2_with fail
        refine (pick_any B R _ _ _ hr7 (by omega) (by omega) (by omega)).mono ?_
        rintro e w8 ⟨x8, rfl, hx80, hx81, hs8, hr8, hg8⟩
        have o8 := o7.grown hg8 (by omega)
        have G8 := grown_trans G7 hg8
        have l8 := o8.lt
        clear hs8 hg8 hr7 G7 o7
        go_wp2_with (first | (at_builtin; refine wpList_append_1 rfl _ _ _ rfl elemP rfl o8 #[.int .i64 _, .int .i64 _, .int .i64 _, .int .i64 _, .bool _, .bool _] rfl rfl rfl (by omega) ?_; intro g' c' w9 oz' hg9 hat9))
        all_goals
          have o9 := own_snocP (x := ⟨_, _, _, _, _, _⟩) rfl oz'
          have G9 := grown_rowP G8 hg9 hg
          have hr9 := hr8.grown hg9 (by omega)
          have l9 := o9.lt
          clear oz' hg9 o8 G8 hr8
          refine (pick_any B R _ _ _ hr9 (by omega) (by omega) (by omega)).mono ?_
          rintro e wa ⟨xa, rfl, hxa0, hxa1, hsa, hra, hga⟩
          have oa := o9.grown hga (by omega)
          have Ga := grown_trans G9 hga
          clear hsa hga hr9 G9 o9
          go_wp2_with fail
          refine (pick_any B R _ _ _ hra (by omega) (by omega) (by omega)).mono ?_
          rintro e wb ⟨xb, rfl, hxb0, hxb1, hsb, hrb, hgb⟩
          have ob := oa.grown hgb (by omega)
          have Gb := grown_trans Ga hgb
          clear hsb hgb hra Ga oa
          by_cases hla : la = 0
          · subst hla
            go_wp2_with fail
            go_roundw
            case rel => exact ⟨k + 1, _, _, _, _, _, _, _, rfl, rfl, rfl, rfl, rfl, by go_num, by omega, by have := Hl.out; simp; omega, by omega, hrb.more (by omega), ob, Gb⟩
            case measure => simp [intOf]; omega
          · have hla' : (la == 0) = false := by simpa using hla
            go_wp2_with fail
            refine (pick_any B R _ _ _ hrb (by omega) (by omega) (by omega)).mono ?_
            rintro e wc ⟨xc, rfl, hxc0, hxc1, hsc, hrc, hgc⟩
            have oc := ob.grown hgc (by omega)
            have Gc := grown_trans Gb hgc
            clear hsc hgc hrb Gb ob
            by_cases hxc : xc = 0
            · subst hxc
              go_wp2_with fail
              go_roundw
              case rel => exact ⟨k + 1, _, _, _, _, _, _, _, rfl, rfl, rfl, rfl, rfl, by go_num, by omega, by have := Hl.out; simp; omega, by omega, hrc.more (by omega), oc, Gc⟩
              case measure => simp [intOf]; omega
            · have hxc' : (xc == 0) = false := by simpa using hxc
              go_wp2_with fail
              go_roundw
              case rel => exact ⟨k + 1, _, _, _, _, _, _, _, rfl, rfl, rfl, rfl, rfl, by go_num, by omega, by have := Hl.out; simp; omega, by omega, hrc.more (by omega), oc, Gc⟩
              case measure => simp [intOf]; omega
    · have hkN' : N = (k : Int) := by omega
      subst hkN'
      by_cases hk0 : k = 0
      · have d1' : ¬ (0 : Int) < (k : Int) := by omega
        have d2' : ¬ 0 < k := by omega
        have HK0 := hide hk0
        clear hk0
        go_wp2_with fail
        go_ret
        exact drewPks_mk Hl.out (by omega) hg oz (hrr.more (by omega)) hG
      · have d0 : (0 : Int) < (k : Int) := by omega
        go_wp2_with fail
        refine (pick_any B R _ _ _ hrr (by omega) (by omega) (by omega)).mono ?_
        rintro e w5 ⟨x6, rfl, hv0, hv1, hs5, hr5, hg5⟩
        have o5 := oz.grown hg5 (by omega)
        have G5 := grown_trans hG hg5
        clear hg5 hs5 hG hrr oz
        by_cases hx6 : x6 = 0
        · subst hx6
          go_wp2_with fail
          refine (pick_any B R _ _ _ hr5 (by omega) (by omega) (by omega)).mono ?_
          rintro e w6 ⟨y, rfl, hy0, hy1, hs6, hr6, hg6⟩
          have o6 := o5.grown hg6 (by omega)
          have G6 := grown_trans G5 hg6
          obtain ⟨y, rfl⟩ := Int.eq_ofNat_of_zero_le hy0
          clear hs6 hg6 hr5 o5 G5
          have hyk : y < k := by omega
          obtain ⟨a0, _, c0, _⟩ := own_cellP o6 Hl.out hyk
          have f0 := o6.frozen (y * 6)
          have l6 := o6.lt
          have lR6 := hr6.lt
          have z6 := G6.size
          have O6 := hide o6
          have c1 := (O6.out.cell (j := y * 6) (by omega)).symm.trans c0
          have C1 := hide c1
          have ne1 : ¬ w6.heap.size = g := by omega
          have ne2 : ¬ g = w6.heap.size := by omega
          clear o6 c1
          go_upto_region 20 with (fail)
          go_cut [13] (fun yv wx => yv = .int .i64 (y : Int) ∧ ∃ zs' : List VPacket, zs'.length = k ∧ Own wx 35 6 g k c (zs'.map VPacket.cells).flatten ∧ Rd wx B R (P + 150) ∧ w.grownBy wx (some R))
          case first =>
            go_region_with (first | (go_at_call 45; refine (pick_from (N := 3) hr6 ?_ ?_ ?_ ?_).mono ?_; (focus (repeat' (first | (with_reducible exact RExt.refl _ _) | (with_reducible refine RExt.alloc ?_ _) | (with_reducible refine RExt.setCell ?_ ?_ _) | (with_reducible refine RExt.drew ?_) | (with_reducible refine RExt.drewN ?_ _) | (with_reducible refine RExt.below ?_ (by assumption)) | omega | (simp; done) | (simp; omega)))); omega; omega; omega; rintro e wz ⟨z, rfl, hz0, hz1, hsz, hrz, hgz⟩; have ozz : Own wz 35 6 g k c (zs.map VPacket.cells).flatten := Own.grown (by first | exact O6.out | exact O6.out.alloc _ | exact (O6.out.drew).alloc _) hgz (by omega); have uz : wz.cell? ⟨g, y * 6, none⟩ = some (.int .i64 a0) := (ozz.cell (by omega)).trans C1.out; have fz := ozz.frozen (y * 6); have lzz := ozz.lt; have Ozz := hide ozz; obtain ⟨q, hq⟩ := three_int (-3) 0 5 z hz0 hz1; have hq2 : ([Value.int .i64 (-3), .int .i64 0, .int .i64 5] : List Value)[z.toNat]? = some (.int .i64 q) := (by rw [← hq]; simp); have hq3 : ∀ h, ([Value.int .i64 (-3), .int .i64 0, .int .i64 5] : List Value)[z.toNat]'h = .int .i64 q := (fun h => Option.some.inj ((List.getElem?_eq_getElem h).symm.trans hq2)); have hG6 : w.grownBy wz (some R) := (by (repeat' (first | (with_reducible exact World.grownBy.refl _ _) | (with_reducible assumption) | (with_reducible refine grown_alloc ?_ _) | (with_reducible refine grown_setCell ?_ ?_ _) | (with_reducible refine grown_drew ?_) | (with_reducible refine grown_drewN ?_ _) | (with_reducible refine grown_step (by assumption) ?_) | (with_reducible refine grown_below ?_ (by assumption)) | (left; rfl) | (right; omega) | (right; simp; done) | (right; simp; omega)))); (try (have rX : Row wz w6.heap.size _ := Row.grown (by (repeat' (first | (with_reducible assumption) | (with_reducible exact Row.new _ _ _) | (with_reducible exact Row.new1 _ _ _ _) | (with_reducible exact Row.new2 _ _ _ _ _) | (with_reducible exact Row.new2' _ _ _ _ _) | ((with_reducible apply Row.mk) <;> (with_reducible assumption)) | (with_reducible apply Row.alloc) | (with_reducible apply Row.set) | (with_reducible apply Row.far) | (with_reducible apply Row.drew) | (with_reducible apply Row.drewN) | omega | (simp; done) | (simp; omega)))) hgz (by omega); have cQ : wz.cell? ⟨w6.heap.size, z.toNat, none⟩ = some (.int .i64 q) := (rX.1 z.toNat).trans hq; clear rX)); clear ozz hsz))
            all_goals
              go_wp2_with fail
              go_meet
              have hrz' := hrz.more (show P + 3 + 10 * k + 1 + 1 + 1 ≤ P + 150 by omega)
              have lRg : R < g := by omega
              first
                | exact ⟨rfl, pk_set (y := y) Hl.out Ozz.out hrz' hG6 hg lRg (.inl rfl) _ _ rfl⟩
                | exact ⟨rfl, pk_alloc _ (pk_set (y := y) Hl.out Ozz.out hrz' hG6 hg lRg (.inl rfl) _ _ rfl)⟩
                | exact ⟨rfl, pk_set (y := y) Hl.out (Ozz.out.alloc _) (hrz'.alloc _) (grown_alloc hG6 _) hg lRg (.inl rfl) _ _ rfl⟩
          case rest =>
            obtain ⟨rfl, zs2, hl2, o7, hr7, G7⟩ := hcut
            clear c0 f0 C1 O6 ne1 ne2 hr6 G6 l6 lR6 z6
            have Hl2 := hide hl2
            obtain ⟨_, a1, _, c0⟩ := own_cellP o7 hl2 hyk
            have f0 := o7.frozen (y * 6 + 1)
            have O7 := hide o7
            have c1 := (O7.out.cell (j := y * 6 + 1) (by omega)).symm.trans c0
            have C1 := hide c1
            have lR7 := hr7.lt
            clear o7 c1 hl2
            go_wp2_with fail
            go_region_with (first | (go_at_call 45; refine (pick_from (N := 2) hr7 ?_ ?_ ?_ ?_).mono ?_; (focus (repeat' (first | (with_reducible exact RExt.refl _ _) | (with_reducible refine RExt.alloc ?_ _) | (with_reducible refine RExt.setCell ?_ ?_ _) | (with_reducible refine RExt.drew ?_) | (with_reducible refine RExt.drewN ?_ _) | (with_reducible refine RExt.below ?_ (by assumption)) | omega | (simp; done) | (simp; omega)))); omega; omega; omega; rintro e wz ⟨z, rfl, hz0, hz1, hsz, hrz, hgz⟩; have ozz : Own wz 35 6 g k c (zs2.map VPacket.cells).flatten := Own.grown (by first | exact O7.out | exact O7.out.alloc _ | exact (O7.out.drew).alloc _) hgz (by omega); have uz : wz.cell? ⟨g, y * 6 + 1, none⟩ = some (.int .i64 a1) := (ozz.cell (by omega)).trans C1.out; have fz := ozz.frozen (y * 6 + 1); have lzz := ozz.lt; have Ozz := hide ozz; have hG6 : w.grownBy wz (some R) := (by (repeat' (first | (with_reducible exact World.grownBy.refl _ _) | (with_reducible assumption) | (with_reducible refine grown_alloc ?_ _) | (with_reducible refine grown_setCell ?_ ?_ _) | (with_reducible refine grown_drew ?_) | (with_reducible refine grown_drewN ?_ _) | (with_reducible refine grown_step (by assumption) ?_) | (with_reducible refine grown_below ?_ (by assumption)) | (left; rfl) | (right; omega) | (right; simp; done) | (right; simp; omega)))); clear ozz hsz))
            all_goals
              have lRg : R < g := by omega
              go_wp2_with fail
              go_ret
              exact pk_end (pk_set (y := y) Hl2.out Ozz.out hrz hG6 hg lRg (.inr rfl) _ _ rfl) (by omega) (by omega) hg
        · have hx' : (x6 == 0) = false := by simpa using hx6
          go_wp2_with fail
          go_ret
          exact drewPks_mk Hl.out (by omega) hg o5 (hr5.more (by omega)) G5
end Go.Proofs.Yticelpaicenbkaa
