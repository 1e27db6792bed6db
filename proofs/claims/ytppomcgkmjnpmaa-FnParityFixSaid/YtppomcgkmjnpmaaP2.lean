/- together, l16Xor: contracts. -/
import Derived.Test.YtppomcgkmjnpmaaP1
namespace Go.Proofs.Ytppomcgkmjnpmaa
open Go.ChangeShapes Go.WideShapes Go.ChangeAt Go.RowKit Go.Deep

def NewInts (ys : List Int) (w : World) (e : Ending) (w' : World) : Prop :=
  ∃ g c, e = .returned (.slice (some ⟨g, 0, none⟩) ys.length c) ∧ w.heap.size ≤ g ∧ Own w' 3 1 g ys.length c (ys.map (Value.int .i64)) ∧ Below w.heap.size w w'
theorem newInts_mk {ys : List Int} {w w' : World} {g c m : Nat} {xs : List Int} (hx : xs = ys) (hm : m = xs.length) (hg : w.heap.size ≤ g) (ho : Own w' 3 1 g m c (xs.map (Value.int .i64))) (hb : Below w.heap.size w w') :
    NewInts ys w (.returned (.slice (some ⟨g, 0, none⟩) m c)) w' := by subst hx hm; exact ⟨g, c, rfl, hg, ho, hb⟩
theorem info1 : (Try.prog.info? 3).map (·.size) = some 1 := by kernel_rfl
theorem cellX {w : World} {g n c k : Nat} {ys : List Int} (h : Own w 3 1 g n c (ys.map (Value.int .i64))) (hn : ys.length = n) (hk : k < n) : w.cell? ⟨g, k, none⟩ = some (.int .i64 (ys.getD k 0)) := by
  rw [h.cell (by omega), List.getElem?_map, List.getElem?_eq_getElem (by omega), List.getD_eq_getElem?_getD, List.getElem?_eq_getElem (by omega)]
  rfl
theorem own_zeros (w : World) (n : Nat) (hm : n ≤ maxLen) : Own (w.alloc (.cells (madeCells (Value.int .i64 0).cells n) 3)) 3 1 w.heap.size n n ((List.replicate n (0 : Int)).map (Value.int .i64)) := by
  have h := own_made w (.int .i64 0) 3 1 n rfl (by omega) hm
  rw [Nat.mul_one] at h
  refine h.conv ?_
  rw [List.map_replicate]
  clear h hm
  induction n with
  | zero => rfl
  | succ n ih => rw [List.replicate_succ, List.replicate_succ, List.flatten_cons, ih]; rfl
set_option maxHeartbeats 2000000 in
theorem together_any (A1 A2 : Option Addr) (c1 c2 : Nat) (a b : List Int) (w : World) (h1 : IntsAt w A1 a) (h2 : IntsAt w A2 b) (ha : sm a) (hb : sm b) (hm1 : a.length ≤ 1048576) (hm2 : b.length ≤ 1048576) :
    Calls Try.prog 43 #[.slice A1 a.length c1, .slice A2 b.length c2] w (NewInts (xorL a b) w) := by
  have H1 := hide h1
  have H2 := hide h2
  have Ha := hide ha
  have Hb := hide hb
  have Hend := hide (xk_end (b := b) ha.nn)
  have Hst := hide (xk_start a b)
  have Hxl := hide (xk_len a b)
  obtain ⟨na, hna⟩ : ∃ n, a.length = n := ⟨_, rfl⟩
  obtain ⟨nb, hnb⟩ : ∃ n, b.length = n := ⟨_, rfl⟩
  have Hxg := hide (xk_get a b)
  rw [hna, hnb] at Hst Hxl Hxg
  rw [hnb] at Hend
  rw [hna] at hm1 ⊢
  rw [hnb] at hm2 ⊢
  have Hna := hide hna
  have Hnb := hide hnb
  obtain ⟨n, hn⟩ : ∃ n, max na nb = n := ⟨_, rfl⟩
  rw [hn] at Hst Hxl Hxg
  have hn0 : n ≤ 1048576 := by omega
  have hbn : nb ≤ n := by omega
  have Hn := hide hn
  have hmk0 := run_make_recs (P := Try.prog) (t := 25) (e := 3) (.int .i64 0) 1 8 Try.underlying25 intInfo .i64 .i64 n (by omega) (by omega)
  rw [Nat.mul_one] at hmk0
  have hmk : ∀ w : World, (if na < nb then (Instr.makeSlice 25 (.int .i64 (nb : Int)) (.int .i64 (nb : Int))).run Try.prog w else (Instr.makeSlice 25 (.int .i64 (na : Int)) (.int .i64 (na : Int))).run Try.prog w) = .ok (.slice (some ⟨w.heap.size, 0, none⟩) n n) (w.alloc (.cells (madeCells (Value.int .i64 0).cells n) 3)) := by
    intro w
    have := hmk0 w
    split
    · rw [show nb = n by omega]; exact this
    · rw [show na = n by omega]; exact this
  have Hz := hide (own_zeros w n (by unfold maxLen; omega))
  clear h1 h2 ha hb hna hnb hn hmk0
  go_enter Try.func43, Try.ntmps43
  rcases Nat.lt_or_ge na nb with hlt | hlt
  all_goals
    first
      | simp only [if_pos hlt] at hmk
      | simp only [if_neg (show ¬ na < nb by omega)] at hmk
    go_wp2_with (refine wpList_copy_ints (zs := a) (A := A1) (c := c1) rfl _ _ _ _ rfl 3 Try.underlying25 info1 rfl (by rw [Hna.out]; rfl) Hz.out (H1.out.below ((Below.refl _ _).alloc (Nat.le_refl _) _)) (B := w.heap.size) (w0 := w) ((Below.refl _ _).alloc (Nat.le_refl _) _) (Nat.le_refl _) ?_; intro w2 o2 b2; rw [Hna.out, Hst.out] at o2; have O2 := hide o2; have B2 := hide b2; clear o2 b2)
    go_loopw [19] (fun i wr => ∃ k : Nat, k ≤ nb ∧ i = .int .i64 k ∧ Own wr 3 1 w.heap.size n n ((xk a b k).map (Value.int .i64)) ∧ Below w.heap.size w wr) (fun i _ => nb - (intOf i).toNat)
    case atStart => exact ⟨0, by omega, rfl, O2.out, B2.out⟩
    case round =>
      obtain ⟨k, hk, rfl, hrow, hbel⟩ := hrel
      have lrow := hrow.lt
      by_cases hk' : k < nb
      · rcases H2.out with h0 | ⟨b2, off, rfl, hlt2, hc⟩
        · have := Hnb.out
          simp [h0] at this
          omega
        · have hz := (hbel.cell (p := ⟨b2, off + k, none⟩) hlt2).trans (hc k (by have := Hnb.out; omega))
          have hy := cellX hrow (Hxl.out k) (show k < n by omega)
          rw [Hxg.out k (by omega)] at hy
          have hxor := xor_i64 (Ha.out k) (Hb.out k)
          have hnx := xk_next a b k
          obtain ⟨z, hzz⟩ : ∃ z, b.getD k 0 = z := ⟨_, rfl⟩
          obtain ⟨y, hyy⟩ : ∃ z, a.getD k 0 = z := ⟨_, rfl⟩
          rw [hzz] at hz hxor hnx
          rw [hyy] at hy hxor hnx
          obtain ⟨x, hxx⟩ : ∃ x, xr y z = x := ⟨_, rfl⟩
          rw [hxx] at hxor hnx
          have Hnx := hide hnx
          have f0 := hrow.frozen k
          have Hrow := hide hrow
          have Hbel := hide hbel
          have g2 : (k : Int) < (nb : Int) := by omega
          have g3 : (k : Int) < (n : Int) := by omega
          clear hc hrow hbel hzz hyy hxx hnx
          go_wp2_with fail
          go_roundw
          case rel =>
            refine ⟨k + 1, by omega, by go_num, ?_, Hbel.out.setCell (Nat.le_refl _) _⟩
            exact (Hrow.out.set k (.int .i64 x)).conv (by rw [← List.map_set, Hnx.out])
          case measure => simp [intOf]; omega
      · have hkn : k = nb := by omega
        subst hkn
        have Hrow := hide hrow
        have Hbel := hide hbel
        clear hrow hbel
        go_wp2_with fail
        go_ret
        exact newInts_mk Hend.out (by rw [Hxl.out]) (Nat.le_refl _) Hrow.out Hbel.out
set_option maxHeartbeats 2000000 in
theorem l16Xor_any (A1 A2 : Option Addr) (c1 c2 : Nat) (a b : List Int) (w : World) (h1 : IntsAt w A1 a) (h2 : IntsAt w A2 b) (ha : sm a) (hb : sm b) (hm1 : a.length ≤ 1048576) (hm2 : b.length ≤ 1048576) :
    Calls Try.prog 42 #[.slice A1 a.length c1, .slice A2 b.length c2] w (NewInts (xorL a b) w) := by
  have H1 := hide h1
  have H2 := hide h2
  have Ha := hide ha
  have Hb := hide hb
  have Hend := hide (xk_end (b := b) ha.nn)
  have Hst := hide (xk_start a b)
  have Hxl := hide (xk_len a b)
  obtain ⟨na, hna⟩ : ∃ n, a.length = n := ⟨_, rfl⟩
  obtain ⟨nb, hnb⟩ : ∃ n, b.length = n := ⟨_, rfl⟩
  have Hxg := hide (xk_get a b)
  rw [hna, hnb] at Hst Hxl Hxg
  rw [hnb] at Hend
  rw [hna] at hm1 ⊢
  rw [hnb] at hm2 ⊢
  have Hna := hide hna
  have Hnb := hide hnb
  obtain ⟨n, hn⟩ : ∃ n, max na nb = n := ⟨_, rfl⟩
  rw [hn] at Hst Hxl Hxg
  have hn0 : n ≤ 1048576 := by omega
  have hbn : nb ≤ n := by omega
  have Hn := hide hn
  have hmk0 := run_make_recs (P := Try.prog) (t := 25) (e := 3) (.int .i64 0) 1 8 Try.underlying25 intInfo .i64 .i64 n (by omega) (by omega)
  rw [Nat.mul_one] at hmk0
  have hmk : ∀ w : World, (if na < nb then (Instr.makeSlice 25 (.int .i64 (nb : Int)) (.int .i64 (nb : Int))).run Try.prog w else (Instr.makeSlice 25 (.int .i64 (na : Int)) (.int .i64 (na : Int))).run Try.prog w) = .ok (.slice (some ⟨w.heap.size, 0, none⟩) n n) (w.alloc (.cells (madeCells (Value.int .i64 0).cells n) 3)) := by
    intro w
    have := hmk0 w
    split
    · rw [show nb = n by omega]; exact this
    · rw [show na = n by omega]; exact this
  have Hz := hide (own_zeros w n (by unfold maxLen; omega))
  clear h1 h2 ha hb hna hnb hn hmk0
  go_enter Try.func42, Try.ntmps42
  rcases Nat.lt_or_ge na nb with hlt | hlt
  all_goals
    first
      | simp only [if_pos hlt] at hmk
      | simp only [if_neg (show ¬ na < nb by omega)] at hmk
    go_wp2_with (refine wpList_copy_ints (zs := a) (A := A1) (c := c1) rfl _ _ _ _ rfl 3 Try.underlying25 info1 rfl (by rw [Hna.out]; rfl) Hz.out (H1.out.below ((Below.refl _ _).alloc (Nat.le_refl _) _)) (B := w.heap.size) (w0 := w) ((Below.refl _ _).alloc (Nat.le_refl _) _) (Nat.le_refl _) ?_; intro w2 o2 b2; rw [Hna.out, Hst.out] at o2; have O2 := hide o2; have B2 := hide b2; clear o2 b2)
    go_loopw [6] (fun i wr => ∃ k : Nat, k ≤ nb ∧ i = .int .i64 k ∧ Own wr 3 1 w.heap.size n n ((xk a b k).map (Value.int .i64)) ∧ Below w.heap.size w wr) (fun i _ => nb - (intOf i).toNat)
    case atStart => exact ⟨0, by omega, rfl, O2.out, B2.out⟩
    case round =>
      obtain ⟨k, hk, rfl, hrow, hbel⟩ := hrel
      have lrow := hrow.lt
      by_cases hk' : k < nb
      · rcases H2.out with h0 | ⟨b2, off, rfl, hlt2, hc⟩
        · have := Hnb.out
          simp [h0] at this
          omega
        · have hz := (hbel.cell (p := ⟨b2, off + k, none⟩) hlt2).trans (hc k (by have := Hnb.out; omega))
          have hy := cellX hrow (Hxl.out k) (show k < n by omega)
          rw [Hxg.out k (by omega)] at hy
          have hxor := xor_i64 (Ha.out k) (Hb.out k)
          have hnx := xk_next a b k
          obtain ⟨z, hzz⟩ : ∃ z, b.getD k 0 = z := ⟨_, rfl⟩
          obtain ⟨y, hyy⟩ : ∃ z, a.getD k 0 = z := ⟨_, rfl⟩
          rw [hzz] at hz hxor hnx
          rw [hyy] at hy hxor hnx
          obtain ⟨x, hxx⟩ : ∃ x, xr y z = x := ⟨_, rfl⟩
          rw [hxx] at hxor hnx
          have Hnx := hide hnx
          have f0 := hrow.frozen k
          have Hrow := hide hrow
          have Hbel := hide hbel
          have g2 : (k : Int) < (nb : Int) := by omega
          have g3 : (k : Int) < (n : Int) := by omega
          clear hc hrow hbel hzz hyy hxx hnx
          go_wp2_with fail
          go_region
          go_wp2_with fail
          go_roundw
          case rel =>
            refine ⟨k + 1, by omega, by go_num, ?_, Below.drew (Hbel.out.setCell (Nat.le_refl _) _)⟩
            exact (Hrow.out.set k (.int .i64 x)).conv (by rw [← List.map_set, Hnx.out])
          case measure => simp [intOf]; omega
      · have hkn : k = nb := by omega
        subst hkn
        have Hrow := hide hrow
        have Hbel := hide hbel
        clear hrow hbel
        go_wp2_with fail
        go_ret
        exact newInts_mk Hend.out (by rw [Hxl.out]) (Nat.le_refl _) Hrow.out Hbel.out
end Go.Proofs.Ytppomcgkmjnpmaa
