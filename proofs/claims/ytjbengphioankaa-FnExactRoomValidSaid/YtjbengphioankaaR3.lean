/- toMemberS, eqMemberS: contracts. -/
import Derived.Test.YtjbengphioankaaR2
namespace Go.Proofs.Ytjbengphioankaa
open Go.ChangeShapes Go.WideShapes Go.ChangeAt Go.RowKit Go.Deep

theorem infoMember : (Try.prog.info? 79).map (fun i => (i.zero, i.size, i.bytes)) = some (some (.agg #[.int .i64 0, .bool false, .slice none 0 0]), 3, 40) := by kernel_rfl
/-- The cells xs of the row g have, for the element j, a copy of x whose ints lie behind g. -/
def CopyM (w : World) (g : Nat) (xs : List Value) (j : Nat) (x : VMem) : Prop :=
  xs[j * 3]? = some (.int .i64 x.id) ∧ xs[j * 3 + 1]? = some (.bool x.sends) ∧ ∃ h, xs[j * 3 + 2]? = some (.slice (some ⟨h, 0, none⟩) x.hs.length x.hs.length) ∧ g < h ∧ x.hs.length ≤ 1048576 ∧ Own w 3 1 h x.hs.length x.hs.length (x.hs.map (Value.int .i64))
section
variable {w w' : World} {g j k : Nat} {xs : List Value} {x : VMem}
theorem CopyM.below (h : CopyM w g xs j x) (hb : Below w.heap.size w w') : CopyM w' g xs j x := by
  obtain ⟨h1, h2, b, h3, h4, h5, h6⟩ := h
  exact ⟨h1, h2, b, h3, h4, h5, h6.below hb⟩
theorem CopyM.far (h : CopyM w g xs j x) (o : Nat) (v : Value) : CopyM (w.setCell ⟨g, o, none⟩ v) g xs j x := by
  obtain ⟨h1, h2, b, h3, h4, h5, h6⟩ := h
  exact ⟨h1, h2, b, h3, h4, h5, h6.far (by show b ≠ g; omega) v⟩
theorem CopyM.set (h : CopyM w g xs j x) (hj : j ≠ k) (v0 v1 v2 : Value) : CopyM w g (((xs.set (k * 3) v0).set (k * 3 + 1) v1).set (k * 3 + 2) v2) j x := by
  obtain ⟨h1, h2, b, h3, h4⟩ := h
  refine ⟨?_, ?_, b, ?_, h4⟩
  · rw [List.getElem?_set_ne (by omega), List.getElem?_set_ne (by omega), List.getElem?_set_ne (by omega)]; exact h1
  · rw [List.getElem?_set_ne (by omega), List.getElem?_set_ne (by omega), List.getElem?_set_ne (by omega)]; exact h2
  · rw [List.getElem?_set_ne (by omega), List.getElem?_set_ne (by omega), List.getElem?_set_ne (by omega)]; exact h3
theorem CopyM.new {h : Nat} (hl : k * 3 + 2 < xs.length) (hg : g < h) (hm : x.hs.length ≤ 1048576) (ho : Own w 3 1 h x.hs.length x.hs.length (x.hs.map (Value.int .i64))) :
    CopyM w g (((xs.set (k * 3) (.int .i64 x.id)).set (k * 3 + 1) (.bool x.sends)).set (k * 3 + 2) (.slice (some ⟨h, 0, none⟩) x.hs.length x.hs.length)) k x := by
  refine ⟨?_, ?_, h, ?_, hg, hm, ho⟩
  · rw [List.getElem?_set_ne (by omega), List.getElem?_set_ne (by omega), List.getElem?_set_self (by omega)]
  · rw [List.getElem?_set_ne (by omega), List.getElem?_set_self (by rw [List.length_set]; omega)]
  · rw [List.getElem?_set_self (by rw [List.length_set, List.length_set]; omega)]
theorem mem_of_copies {n c : Nat} {ms : List VMem} (ho : Own w 79 3 g n c xs) (hn : ms.length = n) (h : ∀ j, j < n → CopyM w g xs j (ms.getD j default)) : MemAt w (some ⟨g, 0, none⟩) ms := by
  refine .inr ⟨g, 0, rfl, ho.lt, fun i hi => ?_⟩
  obtain ⟨h1, h2, b, h3, _, hm, h4⟩ := h i (by omega)
  rw [Nat.zero_add]
  exact ⟨(ho.cell (by omega)).trans h1, (ho.cell (by omega)).trans h2, some ⟨b, 0, none⟩, _, (ho.cell (by omega)).trans h3, Nat.le_refl _, by omega, own_ints h4⟩
end
/-- A copy of members, in memory of its own. -/
def CopiedMem (ms : List VMem) (w : World) (e : Ending) (w' : World) : Prop :=
  ∃ g, e = .returned (.slice (some ⟨g, 0, none⟩) ms.length ms.length) ∧ w.heap.size ≤ g ∧ MemAt w' (some ⟨g, 0, none⟩) ms ∧ Below w.heap.size w w'
set_option maxHeartbeats 4000000 in
theorem toMemberS_any (A : Option Addr) (c : Nat) (ms : List VMem) (w : World) (h : MemAt w A ms) (hm : ms.length + totM ms ≤ 1048576) :
    Calls Try.prog 24 #[.slice A ms.length c] w (CopiedMem ms w) := by
  have Hh := hide h
  have Htg := hide (fun k hk => totM_get (ms := ms) (k := k) hk)
  obtain ⟨n, hnn⟩ : ∃ n, ms.length = n := ⟨_, rfl⟩
  have hC : ∀ (g : Nat) (w' : World), w.heap.size ≤ g → MemAt w' (some ⟨g, 0, none⟩) ms → Below w.heap.size w w' → CopiedMem ms w (.returned (.slice (some ⟨g, 0, none⟩) n n)) w' := by
    intro g w' h1 h2 h3
    exact ⟨g, by rw [hnn], h1, h2, h3⟩
  have HC := hide hC
  rw [hnn] at hm ⊢
  have Hn := hide hnn
  obtain ⟨g, hg⟩ : ∃ g, w.heap.size = g := ⟨_, rfl⟩
  have hmk := run_make_recs (P := Try.prog) (t := 46) (e := 79) (.agg #[.int .i64 0, .bool false, .slice none 0 0]) 3 40 Try.underlying46 infoMember .i64 .i64 n (by omega) (by omega)
  have O0 := own_made w (.agg #[.int .i64 0, .bool false, .slice none 0 0]) 79 3 n rfl (by omega) (by unfold maxLen; omega)
  obtain ⟨x0, hx0⟩ : ∃ x0, (List.replicate n (Value.agg #[.int .i64 0, .bool false, .slice none 0 0]).cells.toList).flatten = x0 := ⟨_, rfl⟩
  rw [hg, hx0] at O0
  have O0 := hide O0
  have Hg := hide hg
  clear h hnn hC hg hx0
  go_enter Try.func24, Try.ntmps24
  go_wp2_with fail
  refine rebase (fun wx => Own wx 79 3 g n n x0 ∧ Below w.heap.size w wx) ⟨O0.out, (Below.refl _ _).alloc (Nat.le_refl _) _⟩ ?_
  rintro w0 ⟨o0, b0⟩
  have O1 := hide o0
  have B1 := hide b0
  have hgg := Hg.out
  rw [hgg]
  clear O0 o0 b0 hgg
  go_loopw [4] (fun i wr => ∃ (k : Nat) (xs : List Value), k ≤ n ∧ i = .int .i64 k ∧ Own wr 79 3 g n n xs ∧ (∀ j, j < k → CopyM wr g xs j (ms.getD j default)) ∧ Below w.heap.size w wr) (fun i _ => n - (intOf i).toNat)
  case atStart => exact ⟨0, x0, by omega, rfl, O1.out, (fun j hj => by omega), B1.out⟩
  case round =>
    obtain ⟨k, xs, hk, rfl, oz, hin, hbl⟩ := hrel
    clear O1 B1
    have lz := oz.lt
    have sbl := hbl.size
    have Hoz := hide oz
    have Hin := hide hin
    have Hbl := hide hbl
    have hgg := hide (show w.heap.size ≤ g from Nat.le_of_eq Hg.out)
    clear oz hin hbl
    by_cases hk' : k < n
    · obtain ⟨b, off, rfl, hlt, hz0, hz1, A', c', hz2, hcap, hc63, hI⟩ := MemAt.at (MemAt.below Hh.out (Hbl.out.mono (Nat.le_refl _))) (k := k) (by have := Hn.out; omega)
      have htg := Htg.out k (by rw [Hn.out]; exact hk')
      obtain ⟨x, hx⟩ : ∃ x, ms.getD k default = x := ⟨_, rfl⟩
      rw [hx] at hz0 hz1 hz2 hcap hI htg
      have K := toMember_any x A' c' wr hI (by omega)
      obtain ⟨l, hl⟩ : ∃ l, x.hs.length = l := ⟨_, rfl⟩
      have Hx := hide hx
      have Hl := hide hl
      rw [hl] at hz2 hcap K htg
      have hl2 : l ≤ 1048576 := by omega
      have HK := hide K
      have g2 : (k : Int) < (n : Int) := by omega
      clear hx hl hI K
      go_wp2_with fail
      refine HK.out.mono ?_
      rintro e w2 ⟨gx, rfl, hgx, ox, hb⟩
      have oz := Hoz.out.below hb
      obtain ⟨v0, q0⟩ := own_some oz (show k * 3 < n * 3 by omega)
      obtain ⟨v1, q1⟩ := own_some oz (show k * 3 + 1 < n * 3 by omega)
      obtain ⟨v2, q2⟩ := own_some oz (show k * 3 + 2 < n * 3 by omega)
      have f0 := oz.frozen (k * 3)
      have f1 := oz.frozen (k * 3 + 1)
      have f2 := oz.frozen (k * 3 + 2)
      have l2 := oz.lt
      have Oz := hide oz
      have Ox := hide ox
      have Hb := hide hb
      have B2 := hide (Hbl.out.trans (hb.mono sbl))
      clear oz ox hb HK Hoz
      go_wp2_with fail
      go_roundw
      case rel =>
        have hlen := Oz.out.len
        refine ⟨k + 1, ((xs.set (k * 3) (.int .i64 x.id)).set (k * 3 + 1) (.bool x.sends)).set (k * 3 + 2) (.slice (some ⟨gx, 0, none⟩) l l), by omega, by go_num, ((Oz.out.set (k * 3) _).set (k * 3 + 1) _).set (k * 3 + 2) _, ?_, ((B2.out.setCell (by exact hgg.out) _).setCell (by exact hgg.out) _).setCell (by exact hgg.out) _⟩
        intro j hj
        by_cases hjk : j = k
        · subst hjk
          rw [Hx.out]
          have ho := ((Ox.out.far (a := ⟨g, j * 3, none⟩) (by show gx ≠ g; omega) (.int .i64 x.id)).far (a := ⟨g, j * 3 + 1, none⟩) (by show gx ≠ g; omega) (.bool x.sends)).far (a := ⟨g, j * 3 + 2, none⟩) (by show gx ≠ g; omega) (.slice (some ⟨gx, 0, none⟩) l l)
          have hll := Hl.out
          subst hll
          exact CopyM.new (by omega) (by omega) hl2 ho
        · exact ((((Hin.out j (by omega)).below Hb.out).set hjk _ _ _).far _ _).far _ _ |>.far _ _
      case measure => simp [intOf]; omega
    · have hkn : k = n := by omega
      subst hkn
      go_wp2_with fail
      go_ret
      exact HC.out g _ hgg.out (mem_of_copies Hoz.out Hn.out Hin.out) Hbl.out

/-! ### Comparing -/
theorem eqMember_same (x : VMem) (A A2 : Option Addr) (c c2 : Nat) (w : World) (h1 : IntsAt w A x.hs) (h2 : IntsAt w A2 x.hs) (hm : x.hs.length ≤ 1048576) :
    Calls Try.prog 46 #[.agg #[.int .i64 x.id, .bool x.sends, .slice A x.hs.length c], .agg #[.int .i64 x.id, .bool x.sends, .slice A2 x.hs.length c2]] w (RetB true w) := by
  have H1 := hide h1
  have H2 := hide h2
  have K := fun w h1 h2 => eqIntS_b A A2 c c2 x.hs w h1 h2 hm
  obtain ⟨n, hn⟩ : ∃ n, x.hs.length = n := ⟨_, rfl⟩
  rw [hn] at K ⊢
  have HK := hide K
  have e1 : (x.id != x.id) = false := by simp
  have e2 : (x.sends != x.sends) = false := by simp
  clear h1 h2 hn K
  go_enter Try.func46, Try.ntmps46
  go_wp2_with fail
  have b0 := hide (((Below.refl _ w).alloc (Nat.le_refl _) (.cells #[.int .i64 x.id, .bool x.sends, .slice A n c] 79)).alloc (by simp) (.cells #[.int .i64 x.id, .bool x.sends, .slice A2 n c2] 79))
  refine (HK.out _ (H1.out.below b0.out) (H2.out.below b0.out)).mono ?_
  rintro en w1 ⟨rfl, hb⟩
  have bl := hide (b0.out.trans (hb.mono (by simp; omega)))
  clear hb
  go_wp2_with fail
  go_ret
  exact ⟨rfl, bl.out⟩
set_option maxHeartbeats 2000000 in
theorem eqMemberS_same (A B : Option Addr) (c1 c2 : Nat) (ms : List VMem) (w : World) (hA : MemAt w A ms) (hB : MemAt w B ms) (hm : ms.length + totM ms ≤ 1048576) :
    Calls Try.prog 26 #[.slice A ms.length c1, .slice B ms.length c2] w (RetB true w) := by
  have HA := hide hA
  have HB := hide hB
  have Htg := hide (fun k hk => totM_get (ms := ms) (k := k) hk)
  clear hA hB
  obtain ⟨n, hn⟩ : ∃ n, ms.length = n := ⟨_, rfl⟩
  rw [hn] at hm ⊢
  have Hn := hide hn
  clear hn
  go_enter Try.func26, Try.ntmps26
  go_wp2_with fail
  go_loopw [5] (fun i wr => ∃ k : Nat, k ≤ n ∧ i = .int .i64 k ∧ Below w.heap.size w wr) (fun i _ => n - (intOf i).toNat)
  case atStart => exact ⟨0, by omega, rfl, Below.refl _ _⟩
  case round =>
    obtain ⟨k, hk, rfl, hbel⟩ := hrel
    by_cases hk' : k < n
    · obtain ⟨b, off, rfl, hlt, s0, s1, A', c', s2, _, _, hI⟩ := MemAt.at (HA.out.below hbel) (k := k) (by have := Hn.out; omega)
      obtain ⟨b2, off2, rfl, hlt2, t0, t1, A2', c2', t2, _, _, hI2⟩ := MemAt.at (HB.out.below hbel) (k := k) (by have := Hn.out; omega)
      have htg := Htg.out k (by rw [Hn.out]; exact hk')
      obtain ⟨x, hx⟩ : ∃ x, ms.getD k default = x := ⟨_, rfl⟩
      rw [hx] at s0 s1 s2 t0 t1 t2 hI hI2 htg
      have K := fun w h1 h2 => eqMember_same x A' A2' c' c2' w h1 h2 (by omega)
      obtain ⟨l, hl⟩ : ∃ l, x.hs.length = l := ⟨_, rfl⟩
      rw [hl] at s2 t2 K
      have HK := hide K
      have HI := hide hI
      have HI2 := hide hI2
      have g2 : (k : Int) < (n : Int) := by omega
      have hl1 : b < wr.heap.size := hlt
      have hl2 : b2 < wr.heap.size := hlt2
      have sbel := hbel.size
      have Hbel := hide hbel
      clear hbel hx hl K hI hI2 hlt hlt2 htg
      go_upto_region 6 with (fail)
      go_cut [26] (fun b wx => b = .bool false ∧ Below w.heap.size w wx)
      case first =>
        go_region_held3 (fun w' => w'.cell? ⟨b, off + k * 3, none⟩ = some (.int .i64 x.id) ∧ w'.cell? ⟨b, off + k * 3 + 1, none⟩ = some (.bool x.sends) ∧ w'.cell? ⟨b, off + k * 3 + 2, none⟩ = some (.slice A' l c') ∧ w'.cell? ⟨b2, off2 + k * 3, none⟩ = some (.int .i64 x.id) ∧ w'.cell? ⟨b2, off2 + k * 3 + 1, none⟩ = some (.bool x.sends) ∧ w'.cell? ⟨b2, off2 + k * 3 + 2, none⟩ = some (.slice A2' l c2')) (go_keep) (first | (go_at_call 46; refine (HK.out _ (HI.out.below (Below.drew (Below.refl _ _))) (HI2.out.below (Below.drew (Below.refl _ _)))).mono ?_; rintro e w1 ⟨rfl, hb1⟩; have u0 := (hb1.cell (p := ⟨b, off + k * 3, none⟩) hl1).trans s0; have u1 := (hb1.cell (p := ⟨b, off + k * 3 + 1, none⟩) hl1).trans s1; have u2 := (hb1.cell (p := ⟨b, off + k * 3 + 2, none⟩) hl1).trans s2; have v0 := (hb1.cell (p := ⟨b2, off2 + k * 3, none⟩) hl2).trans t0; have v1 := (hb1.cell (p := ⟨b2, off2 + k * 3 + 1, none⟩) hl2).trans t1; have v2 := (hb1.cell (p := ⟨b2, off2 + k * 3 + 2, none⟩) hl2).trans t2))
        go_wp2_with fail
        go_meet
        have B0 := Hbel.out
        refine ⟨rfl, ?_⟩
        (repeat' (first | (with_reducible exact Below.refl _ _) | (with_reducible assumption) | (with_reducible refine Below.alloc ?_ ?_ _) | (with_reducible refine Below.setCell ?_ ?_ _) | (with_reducible refine Below.drew ?_) | (with_reducible refine below_drewN' ?_ _) | (with_reducible refine below_step (by assumption) ?_ ?_) | (with_reducible refine below_gstep (by assumption) ?_ ?_ ?_) | (with_reducible exact Below.size (by assumption)) | omega | (simp; done) | (simp; omega)))
      case rest =>
        obtain ⟨rfl, hb9⟩ := hcut
        have Hb9 := hide hb9
        clear hb9
        go_wp2_with fail
        go_roundw
        case rel => exact ⟨k + 1, by omega, by go_num, Hb9.out⟩
        case measure => simp [intOf]; omega
    · have B0 := hide hbel
      clear hbel
      go_wp2_with fail
      go_ret
      exact ⟨rfl, B0.out⟩
end Go.Proofs.Ytjbengphioankaa
