/- What l92Bodies and DrawParityOf draw. -/
import Derived.Test.YtppomcgkmjnpmaaP4
namespace Go.Proofs.Ytppomcgkmjnpmaa
open Go.ChangeShapes Go.WideShapes Go.ChangeAt Go.RowKit Go.Deep

theorem grown_far {a w w' : World} {R g : Nat} (h : a.grownBy w (some R)) (k : w.grownBy w' (some g)) (hg : a.heap.size ≤ g) : a.grownBy w' (some R) :=
  ⟨k.os.trans h.os, k.tape.trans h.tape, k.output.trans h.output, Nat.le_trans h.size k.size, fun i hi hne => (k.block i (Nat.lt_of_lt_of_le hi h.size) (by simp; omega)).trans (h.block i hi hne)⟩
theorem OwnBod.inner {w : World} {B g n cap : Nat} {bs : List VBod} (h : OwnBod w B g n cap bs) {x : VBod} (hx : x ∈ bs) : x.g < w.heap.size := (h.2 x hx).2.2.lt
theorem OwnBod.snoc {w w7 : World} {B g n cap g7 c7 : Nat} {bs : List VBod} {x : VBod} (h : OwnBod w B g n cap bs) (hx : Own w 3 1 x.g x.zs.length x.c (x.zs.map (Value.int .i64))) (hB : B ≤ x.g) (hne : x.g ≠ g)
    (o7 : Own w7 25 1 g7 (n + 1) c7 (bs.map VBod.val ++ [x.val])) (hg : w.grownBy w7 (some g)) (hat : g7 = g ∨ w.heap.size ≤ g7) : OwnBod w7 B g7 (n + 1) c7 (bs ++ [x]) := by
  refine ⟨o7.conv (by simp), fun y hy => ?_⟩
  rcases List.mem_append.1 hy with hy | hy
  · obtain ⟨a, b, c⟩ := h.2 y hy
    have := c.lt
    exact ⟨a, by omega, c.grown hg b⟩
  · simp at hy
    subst hy
    have := hx.lt
    exact ⟨hB, by omega, hx.grown hg hne⟩
theorem OwnBod.put {w : World} {B g n cap y : Nat} {bs : List VBod} {x : VBod} (h : OwnBod w B g n cap bs) (hx : Own w 3 1 x.g x.zs.length x.c (x.zs.map (Value.int .i64))) (hB : B ≤ x.g) (hne : x.g ≠ g) (p : Addr) (hp : p = ⟨g, y, none⟩) : OwnBod (w.setCell p x.val) B g n cap (bs.set y x) := by
  subst hp
  refine ⟨(h.1.set y x.val).conv (by rw [List.map_set]), fun z hz => ?_⟩
  rcases List.mem_or_eq_of_mem_set hz with hz | rfl
  · obtain ⟨a, b, c⟩ := h.2 z hz
    exact ⟨a, b, c.far (by exact b) _⟩
  · exact ⟨hB, hne, hx.far (by exact hne) _⟩
theorem OwnBod.nil (w : World) : OwnBod (w.alloc (.cells #[] 25)) w.heap.size w.heap.size 0 0 [] :=
  ⟨Own.new w #[] 25 1 0 (by unfold maxLen; omega) rfl, fun x hx => by simp at hx⟩
theorem VBod.val_eq {g c j : Nat} {zs : List Int} (h : zs.length = j) : (VBod.mk g c zs).val = .slice (some ⟨g, 0, none⟩) j c := by subst h; rfl
/-- No body is longer than five. -/
def fewB (bs : List VBod) : Prop := ∀ x ∈ bs, x.zs.length ≤ 5
theorem fewB_snoc {bs : List VBod} {x : VBod} (h : fewB bs) (hx : x.zs.length ≤ 5) : fewB (bs ++ [x]) := by
  intro y hy
  rcases List.mem_append.1 hy with hy | hy
  · exact h y hy
  · simp at hy; subst hy; exact hx
theorem fewB_set {bs : List VBod} {x : VBod} {y : Nat} (h : fewB bs) (hx : x.zs.length ≤ 5) : fewB (bs.set y x) := by
  intro z hz
  rcases List.mem_or_eq_of_mem_set hz with hz | rfl
  · exact h z hz
  · exact hx
/-- What a draw of bodies leaves. -/
def DrewBod (B R P M : Nat) (w : World) (e : Ending) (w' : World) : Prop :=
  ∃ g c bs, e = .returned (.slice (some ⟨g, 0, none⟩) (List.length bs) c) ∧ bs.length ≤ M ∧ fewB bs ∧ w.heap.size ≤ g ∧ OwnBod w' w.heap.size g bs.length c bs ∧ Rd w' B R P ∧ w.grownBy w' (some R)
theorem drewBod_mk {B R P M g c k : Nat} {bs : List VBod} {w w' : World} (hk : bs.length = k) (h1 : k ≤ M) (hf : fewB bs) (h2 : w.heap.size ≤ g) (h3 : OwnBod w' w.heap.size g k c bs) (h4 : Rd w' B R P) (h5 : w.grownBy w' (some R)) :
    DrewBod B R P M w (.returned (.slice (some ⟨g, 0, none⟩) k c)) w' := ⟨g, c, bs, by rw [hk], by omega, hf, h2, by rw [hk]; exact h3, h4, h5⟩
set_option maxHeartbeats 4000000 in
theorem l92Bodies_any (B R P M : Nat) (w : World) (hr : Rd w B R P) (hP : P ≤ 900000) (hM : M ≤ 8) :
    Calls Try.prog 31 #[.pointer (some ⟨R, 0, none⟩), .int .i64 (M : Int)] w (DrewBod B R (P + 60) M w) := by
  have lR := hr.lt
  have wM : IntKind.i64.wrap ((M : Int) + 1) = (M : Int) + 1 := IntWalk.i64_in _ (by omega)
  have Hr := hide hr
  have O0 := hide (OwnBod.nil w)
  clear hr
  go_enter Try.func31, Try.ntmps31
  go_wp2_with fail
  refine (pick_any B R P ((M : Int) + 1) _ (Hr.out.alloc _) (by omega) (by omega) (by omega)).mono ?_
  rintro e w1 ⟨n, rfl, hn0, hn1, hs1, hr1, hg1⟩
  obtain ⟨n, rfl⟩ := Int.eq_ofNat_of_zero_le hn0
  have O1 := hide (OwnBod.more (B' := w.heap.size) (⟨O0.out.1.grown hg1 (by omega), fun x hx => by simp at hx⟩ : OwnBod w1 w.heap.size w.heap.size 0 0 []) (Nat.le_refl _))
  have G1 := hide (grown_trans (grown_alloc (World.grownBy.refl w (some R)) _) hg1)
  have Hr1 := hide hr1
  clear O0 Hr hs1 hr1 hg1 wM
  go_wp2_with fail
  go_loopw [5, 7] (fun s i wr => ∃ (k g cp : Nat) (bs : List VBod), s = .slice (some ⟨g, 0, none⟩) k cp ∧ i = .int .i64 k ∧ k ≤ n ∧ bs.length = k ∧ fewB bs ∧ w.heap.size ≤ g ∧ OwnBod wr w.heap.size g k cp bs ∧ Rd wr B R (P + 1 + 6 * k) ∧ w.grownBy wr (some R)) (fun _ i _ => n - (intOf i).toNat)
  case atStart => exact ⟨0, w.heap.size, 0, [], rfl, rfl, by omega, rfl, (fun x hx => by simp at hx), Nat.le_refl _, O1.out, Hr1.out, G1.out⟩
  case round =>
    obtain ⟨k, g, cp, bs, rfl, rfl, hk, hl, hf, hg, ob, hr, hG⟩ := hrel
    clear O1 Hr1 G1
    have Hl := hide hl
    have Hf := hide hf
    have Ob := hide ob
    have HG := hide hG
    have Hr := hide hr
    have lg := ob.lt
    have sw := hG.size
    clear hl hf ob hG hr
    by_cases hk' : k < n
    · have g2 : (k : Int) < (n : Int) := by omega
      have Ox := hide (Own.new wr #[] 3 1 0 (by unfold maxLen; omega) rfl)
      go_wp2_with fail
      refine (pick_any B R (P + 1 + 6 * k) 6 _ (Hr.out.alloc _) (by omega) (by omega) (by omega)).mono ?_
      rintro e w2 ⟨q, rfl, hq0, hq1, hs2, hr2, hg2⟩
      obtain ⟨q, rfl⟩ := Int.eq_ofNat_of_zero_le hq0
      have Ox2 := hide (Ox.out.grown hg2 (by omega))
      have G2 := hide (grown_trans (grown_alloc (World.grownBy.refl wr (some R)) _) hg2)
      have Hr2 := hide hr2
      clear hs2 hr2 hg2 Ox Hr
      go_wp2_with fail
      obtain ⟨wo, hwo⟩ : ∃ wo : World, wo = wr := ⟨_, rfl⟩
      subst hwo
      go_loopw [8, 10] (fun s i wx => ∃ (j g2 c2 : Nat) (zs : List Int), s = .slice (some ⟨g2, 0, none⟩) j c2 ∧ i = .int .i64 j ∧ j ≤ q ∧ zs.length = j ∧ wo.heap.size ≤ g2 ∧ Own wx 3 1 g2 j c2 (zs.map (Value.int .i64)) ∧ Rd wx B R (P + 1 + 6 * k + 1 + j) ∧ wo.grownBy wx (some R)) (fun _ i _ => q - (intOf i).toNat)
      case atStart => exact ⟨0, wo.heap.size, 0, [], rfl, rfl, by omega, rfl, Nat.le_refl _, Ox2.out, Hr2.out, G2.out⟩
      case round =>
        obtain ⟨j, gx, cx, zs, rfl, rfl, hj, hlz, hgx, ox, hr, hG⟩ := hrel
        clear Ox2 Hr2 G2
        have Hlz := hide hlz
        have Hox := hide ox
        have Hr := hide hr
        have HG2 := hide hG
        clear hlz ox hr hG
        by_cases hj' : j < q
        · have g3 : (j : Int) < (q : Int) := by omega
          go_wp2_with fail
          refine (pick_any B R _ 256 _ Hr.out (by omega) (by omega) (by omega)).mono ?_
          rintro e w3 ⟨y, rfl, hy0, hy1, hs3, hr3, hg3⟩
          have Ox3 := hide (Hox.out.grown hg3 (by omega))
          have G3 := hide (grown_trans HG2.out hg3)
          have s3 := (grown_trans HG2.out hg3).size
          have Hr3 := hide hr3
          clear hs3 hr3 hg3 Hox Hr HG2
          go_wp2_with (first | (at_builtin; refine wpList_append_1 rfl _ _ _ rfl elemI rfl Ox3.out #[.int .i64 y] rfl rfl rfl (by omega) ?_; intro g7 cp7 w7 o7 hg7 hat7; have O7 := hide (o7.conv (xs' := (zs ++ [y]).map (Value.int .i64)) (by simp)); have G7 := hide (grown_far G3.out hg7 hgx); have Hr7 := hide (Hr3.out.grown hg7 (by omega)); have lg7 : wo.heap.size ≤ g7 := (by omega); clear o7 hg7 hat7))
          go_roundw
          case rel => exact ⟨j + 1, g7, cp7, zs ++ [y], rfl, by go_num, by omega, by rw [List.length_append, Hlz.out]; rfl, lg7, O7.out, Hr7.out.more (by omega), G7.out⟩
          case measure => simp [intOf]; omega
        · have hjq : j = q := by omega
          subst hjq
          have Ob2 := hide (Ob.out.grown HG2.out lR (by omega))
          have Hx2 := hide ((Hox.out.convn (n' := zs.length) Hlz.out.symm))
          have GG := hide (grown_trans HG.out HG2.out)
          go_wp2_with (first | (at_builtin; refine wpList_append_1 rfl _ _ _ rfl elemS rfl Ob2.out.1 #[.slice (some ⟨gx, 0, none⟩) j cx] rfl rfl rfl (by omega) ?_; intro g7 cp7 w7 o7 hg7 hat7; have O7 := hide (Ob2.out.snoc (x := VBod.mk gx cx zs) Hx2.out (by show w.heap.size ≤ gx; omega) (by show gx ≠ g; omega) (o7.conv (by rw [VBod.val_eq Hlz.out])) hg7 hat7); have G7 := hide (grown_far GG.out hg7 hg); have Hr7 := hide (Hr.out.grown hg7 (by omega)); have s7 := GG.out.size; have lg7 : w.heap.size ≤ g7 := (by omega); clear o7 hg7 hat7))
          go_roundw
          case rel => exact ⟨k + 1, g7, cp7, bs ++ [⟨gx, cx, zs⟩], rfl, by go_num, by omega, by rw [List.length_append, Hl.out]; rfl, fewB_snoc Hf.out (by show zs.length ≤ 5; rw [Hlz.out]; omega), lg7, O7.out, Hr7.out.more (by omega), G7.out⟩
          case measure => simp [intOf]; omega
    · have hkn : k = n := by omega
      subst hkn
      by_cases hz0 : k = 0
      · have g4 : ¬ (0 : Int) < (k : Int) := by omega
        have g5 : ¬ 0 < k := by omega
        have Hz0 := hide hz0
        clear hz0
        go_wp2_with fail
        go_ret
        exact drewBod_mk Hl.out (by omega) Hf.out hg Ob.out (Hr.out.more (by omega)) HG.out
      · have g4 : (0 : Int) < (k : Int) := by omega
        go_wp2_with fail
        refine (pick_any B R _ 24 _ Hr.out (by omega) (by omega) (by omega)).mono ?_
        rintro e w2 ⟨z, rfl, hz0, hz1, hs2, hr2, hg2⟩
        have Ob2 := hide (Ob.out.grown hg2 lR (by omega))
        have G2 := hide (grown_trans HG.out hg2)
        have Hr2 := hide hr2
        clear hs2 hr2 hg2 Ob HG Hr
        by_cases h0 : z = 0
        · subst h0
          go_wp2_with fail
          refine (pick_any B R _ (k : Int) _ Hr2.out (by omega) (by omega) (by omega)).mono ?_
          rintro e w3 ⟨y, rfl, hy0, hy1, hs3, hr3, hg3⟩
          obtain ⟨y, rfl⟩ := Int.eq_ofNat_of_zero_le hy0
          have ob3 := Ob2.out.grown hg3 lR (by omega)
          have Ob3 := hide ob3
          have G3 := hide (grown_trans G2.out hg3)
          have Hr3 := hide hr3
          have l3 := ob3.lt
          have sw3 := (grown_trans G2.out hg3).size
          obtain ⟨v0, q0⟩ := own_some ob3.1 (show y < k * 1 by omega)
          have f0 := ob3.1.frozen y
          have ne1 : ¬ w3.heap.size = g := by omega
          have ne2 : ¬ g = w3.heap.size := by omega
          clear hs3 hr3 hg3 Ob2 G2 Hr2 ob3
          have hend : DrewBod B R (P + 60) M w (.returned (.slice (some ⟨g, 0, none⟩) k cp)) ((w3.alloc (.cells #[.int .i64 256] 3)).setCell ⟨g, y, none⟩ (.slice (some ⟨w3.heap.size, 0, none⟩) 1 1)) := by
            refine drewBod_mk (bs := bs.set y ⟨w3.heap.size, 1, [256]⟩) (by rw [List.length_set]; exact Hl.out) (by omega) (fewB_set Hf.out (by simp)) hg ?_ ((Hr3.out.alloc _).setCell (by show R < g; omega) _ |>.more (by omega)) (grown_setCell (grown_alloc G3.out _) (.inr hg) _)
            exact (Ob3.out.alloc _).put (x := ⟨w3.heap.size, 1, [256]⟩) (Own.new w3 #[.int .i64 256] 3 1 1 (by unfold maxLen; omega) rfl) (by show w.heap.size ≤ w3.heap.size; omega) (by show w3.heap.size ≠ g; omega) _ rfl
          rw [World.setCell_alloc_past _ _ _ _ l3] at hend
          have Hend := hide hend
          clear hend
          go_wp2_with fail
          go_ret
          exact Hend.out
        · have e0 : (z == 0) = false := by simpa using h0
          clear h0
          go_wp2_with fail
          go_ret
          exact drewBod_mk Hl.out (by omega) Hf.out hg Ob2.out (Hr2.out.more (by omega)) G2.out
theorem drawBodies (B M : Nat) (w : World) (R : Nat) (hr : Rd w B R 0) (hM : M ≤ 8) :
    Calls Try.prog 31 #[.pointer (some ⟨R, 0, none⟩), .int .i64 (M : Int)] w (DrewBod B R 60 M w) :=
  (l92Bodies_any B R 0 M w hr (by omega) hM).mono fun _ _ ⟨g, c, bs, a, b, d, e, f, i, j⟩ => ⟨g, c, bs, a, b, d, e, f, i.more (by omega), j⟩
def NewBod (M : Nat) (w : World) (e : Ending) (w' : World) : Prop :=
  ∃ g c bs, e = .returned (.slice (some ⟨g, 0, none⟩) (List.length bs) c) ∧ bs.length ≤ M ∧ fewB bs ∧ OwnBod w' w.heap.size g bs.length c bs ∧ w.heap.size ≤ g ∧ Below w.heap.size w w'
theorem drawParityOf (B : Nat) (A : Option Addr) (n c : Nat) (w : World) (hcode : Code w B A n) (hn : n ≤ c) (hm : c ≤ 9223372036854775807) (hB : B ≤ w.heap.size) :
    Calls Try.prog 13 #[.slice A n c] w (NewBod 8 w) := by
  have Hcode := hide hcode
  clear hcode
  go_enter Try.func13, Try.ntmps13
  go_wp2_with fail
  refine (l6Open_any B A n c _ Hcode.out hn hm hB).mono ?_
  rintro e w1 ⟨R, rfl, hR, hr, hb1⟩
  have zb := hb1.size
  clear Hcode
  go_wp2_with fail
  refine (drawBodies B 8 _ R hr (by omega)).mono ?_
  rintro e w2 ⟨g, c, bs, rfl, hl, hf, hg, ob, hr2, hg2⟩
  have Hl := hide hl
  have Hf := hide hf
  have Ob := hide (ob.more (B' := w.heap.size) zb)
  clear hl hf ob hr2 hr
  go_wp2_with fail
  go_ret
  exact ⟨g, c, bs, rfl, Hl.out, Hf.out, Ob.out, by omega, hb1.grown hg2 zb (by intro k hk; simp at hk; omega)⟩
end Go.Proofs.Ytppomcgkmjnpmaa
