/- ParityFix of the program: contract. -/
import Derived.Test.YtppomcgkmjnpmaaP10
namespace Go.Proofs.Ytppomcgkmjnpmaa
open Go.ChangeShapes Go.WideShapes Go.ChangeAt Go.RowKit Go.Deep

def fixX (ls : List (List Int)) (p : List Int) : List Int := xorL p (par [0] ls)
def fixG (ls : List (List Int)) (p : List Int) : Bool := fixIn ls p && fixOk (fixX ls p)
def relFix (ls : List (List Int)) (p ys : List Int) (B : Bool) : Prop := fixG ls p = true ∧ ys = fixB (fixX ls p) ∧ B = true ∨ fixG ls p = false ∧ ys = [] ∧ B = false
theorem relFix_some (ls : List (List Int)) (p : List Int) : ∃ ys B, relFix ls p ys B := by
  by_cases h : fixG ls p = true
  · exact ⟨_, _, .inl ⟨h, rfl, rfl⟩⟩
  · exact ⟨_, _, .inr ⟨by simpa using h, rfl, rfl⟩⟩
theorem relFix_no {ls : List (List Int)} {p ys : List Int} {B : Bool} (h : relFix ls p ys B) (hn : fixG ls p = false) : ys = [] ∧ B = false := by
  rcases h with ⟨a, _, _⟩ | ⟨_, b, c⟩
  · rw [hn] at a; cases a
  · exact ⟨b, c⟩
theorem relFix_yes {ls : List (List Int)} {p ys : List Int} {B : Bool} (h : relFix ls p ys B) (hn : fixG ls p = true) : ys = fixB (fixX ls p) ∧ B = true := by
  rcases h with ⟨_, b, c⟩ | ⟨a, _, _⟩
  · exact ⟨b, c⟩
  · rw [hn] at a; cases a
theorem fixG_no1 {ls : List (List Int)} {p : List Int} {n : Nat} (hn : ls.length = n) (h : ¬ n < 8) : fixG ls p = false := by
  unfold fixG fixIn; rw [decide_eq_false (by omega)]; rfl
theorem fixG_no2 {ls : List (List Int)} {p : List Int} (h : ls.all bodyB = false) : fixG ls p = false := by
  unfold fixG fixIn; rw [h, Bool.and_false]; rfl
theorem fixG_no3 {ls : List (List Int)} {p : List Int} {m : Nat} (hm : p.length = m) (h : ¬ (1 ≤ m ∧ m ≤ 13)) : fixG ls p = false := by
  unfold fixG fixIn; rw [decide_eq_false (by omega)]; rfl
theorem fixG_no4 {ls : List (List Int)} {p : List Int} (h : decide (bytesOk p) = false) : fixG ls p = false := by
  unfold fixG fixIn; rw [h, Bool.and_false]; rfl
theorem fixG_eq {ls : List (List Int)} {p : List Int} {n m : Nat} (hn : ls.length = n) (hm : p.length = m) (h1 : n < 8) (h2 : 1 ≤ m ∧ m ≤ 13) (h3 : ls.all bodyB = true) (h4 : decide (bytesOk p) = true) : fixG ls p = fixOk (fixX ls p) := by
  unfold fixG fixIn; rw [h3, h4, decide_eq_true (by omega)]; rfl
theorem fixX_facts {ls : List (List Int)} {p : List Int} (h2 : 1 ≤ p.length ∧ p.length ≤ 13) (h3 : ls.all bodyB = true) (h4 : decide (bytesOk p) = true) : sm (fixX ls p) ∧ 1 ≤ (fixX ls p).length ∧ (fixX ls p).length ≤ 13 ∧ par p ls = fixX ls p := by
  have hs := sm_bytes (of_decide_eq_true h4)
  have hp := par_facts hs h2.2 h3 ls.length
  rw [List.take_length] at hp
  have hf := par_from hs.nn h2.1 ls
  have e : fixX ls p = par p ls := hf.symm
  rw [e]
  refine ⟨hp.1, ?_, hp.2, rfl⟩
  rw [par_length]
  split <;> omega
theorem IntsAt.drop {w : World} {b off : Nat} {zs : List Int} (h : IntsAt w (some ⟨b, off, none⟩) zs) (k : Nat) : IntsAt w (some ⟨b, off + k, none⟩) (zs.drop k) := by
  rcases h with h | ⟨b', off', hA, hlt, hc⟩
  · subst h; exact .inl (by simp)
  · cases hA
    refine .inr ⟨b, off + k, rfl, hlt, fun i hi => ?_⟩
    rw [List.length_drop] at hi
    have := hc (k + i) (by omega)
    rw [Nat.add_assoc, this]
    simp [List.getD_eq_getElem?_getD]
theorem IntsAt.take {w : World} {A : Option Addr} {zs : List Int} (h : IntsAt w A zs) (k : Nat) : IntsAt w A (zs.take k) := by
  rcases h with h | ⟨b, off, hA, hlt, hc⟩
  · subst h; exact .inl (by simp)
  · refine .inr ⟨b, off, hA, hlt, fun i hi => ?_⟩
    rw [List.length_take] at hi
    rw [hc i (by omega), List.getD_eq_getElem?_getD, List.getD_eq_getElem?_getD, List.getElem?_take_of_lt (by omega)]
theorem newIntsB_nil2 {w w' : World} (hb : Below w.heap.size w w') : NewIntsB [] false w (.returned (.tuple #[.slice (some ⟨w'.heap.size, 0, none⟩) 0 0, .bool false])) (w'.alloc (.cells #[] 3)) :=
  ⟨w'.heap.size, 0, rfl, hb.size, Own.new w' #[] 3 1 0 (by unfold maxLen; omega) rfl, hb.alloc hb.size _⟩
theorem fixOk_no1 {x : List Int} {s r : Nat} (hl : x.length = r + 1) (h0 : x.getD 0 0 = (s : Int)) (h : r < s) : fixOk x = false := by
  unfold fixOk; rw [h0, hl]; exact decide_eq_false fun q => by omega
theorem fixOk_no2 {x : List Int} {s r k : Nat} {z : Int} (hl : x.length = r + 1) (h0 : x.getD 0 0 = (s : Int)) (hk : k < r - s) (hz : x.getD (1 + s + k) 0 = z) (h : z ≠ 0) : fixOk x = false := by
  unfold fixOk
  refine decide_eq_false fun q => h ?_
  rw [h0] at q
  have := q.2 (1 + s + k) (by omega) (by omega)
  rwa [hz] at this
theorem fixOk_yes {x : List Int} {s r : Nat} (hl : x.length = r + 1) (h0 : x.getD 0 0 = (s : Int)) (h1 : s ≤ r) (h : ∀ i, i < r - s → x.getD (1 + s + i) 0 = 0) : fixOk x = true := by
  unfold fixOk
  refine decide_eq_true ⟨by rw [h0, hl]; omega, fun i hi hx => ?_⟩
  rw [h0] at hi
  have := h (i - 1 - s) (by omega)
  rwa [show 1 + s + (i - 1 - s) = i by omega] at this
theorem fixB_eq {x : List Int} {s r : Nat} (hl : x.length = r + 1) (h0 : x.getD 0 0 = (s : Int)) (h1 : s ≤ r) : (x.drop 1).take s = fixB x ∧ (fixB x).length = s := by
  have e : fixB x = (x.drop 1).take s := by unfold fixB; rw [h0]; simp
  refine ⟨e.symm, ?_⟩
  rw [e]
  simp
  omega
theorem fixB_own {w : World} {g s r : Nat} {x : List Int} (hl : x.length = r + 1) (h0 : x.getD 0 0 = (s : Int)) (h1 : s ≤ r) (h : Own w 3 1 g s s (((x.drop 1).take s ++ (List.replicate s (0 : Int)).drop (min s (x.drop 1).length)).map (Value.int .i64))) : Own w 3 1 g s s ((fixB x).map (Value.int .i64)) := by
  refine h.conv ?_
  have hm : min s (x.drop 1).length = s := by rw [List.length_drop]; omega
  rw [hm, show (List.replicate s (0 : Int)).drop s = [] from by simp, List.append_nil, (fixB_eq hl h0 h1).1]
set_option maxHeartbeats 4000000 in
theorem implParityFix (A A2 : Option Addr) (c c2 : Nat) (ls : List (List Int)) (p ys : List Int) (B : Bool) (w : World) (hR : relFix ls p ys B) (h : BodAt w A ls) (h2 : IntsAt w A2 p) (hm : ls.length ≤ 1048576) (hm2 : p.length ≤ 1048576) :
    Calls Try.prog 17 #[.slice A ls.length c, .slice A2 p.length c2] w (NewIntsB ys B w) := by
  have HH := hide h
  have HR := hide hR
  have H2 := hide h2
  have KV := hide (bodiesValid_any A c ls w h (by omega))
  have KB := fun w h => bytesValid_any A2 c2 p w h (by omega)
  have KP := fun w h h2 hp hpl hb hm => parityWith_any A A2 c c2 ls p w h h2 hp hpl hb hm
  obtain ⟨n, hn⟩ : ∃ n, ls.length = n := ⟨_, rfl⟩
  obtain ⟨m, hmm⟩ : ∃ n, p.length = n := ⟨_, rfl⟩
  rw [hn] at hm KV KP ⊢
  rw [hmm] at hm2 KB KP ⊢
  have Hn := hide hn
  have Hm := hide hmm
  have HKP := hide KP
  have HKB := hide KB
  clear h h2 hR hn hmm KP KB
  by_cases h1 : n < 8
  · have g1 : ¬ 8 ≤ (n : Int) := by omega
    by_cases h3 : ls.all bodyB = true
    · have H3 := hide h3
      clear h3
      by_cases h4 : 1 ≤ m
      · have g4 : ¬ (m : Int) < 1 := by omega
        by_cases h5 : m ≤ 13
        · have g5 : ¬ 13 < (m : Int) := by omega
          by_cases h6 : decide (bytesOk p) = true
          · have H6 := hide h6
            have hG := fixG_eq Hn.out Hm.out h1 ⟨h4, h5⟩ H3.out h6
            obtain ⟨hs, hx1, hx13, hpx⟩ := fixX_facts (ls := ls) (p := p) (by rw [Hm.out]; exact ⟨h4, h5⟩) H3.out h6
            have HG := hide hG
            have Hs := hide hs
            have Hpx := hide hpx
            obtain ⟨x, hx⟩ : ∃ x, fixX ls p = x := ⟨_, rfl⟩
            rw [hx] at Hs Hpx hx1 hx13 HG
            have Hx := hide hx
            obtain ⟨q, hq⟩ : ∃ q, x.length = q := ⟨_, rfl⟩
            rw [hq] at hx1 hx13
            have Hq := hide hq
            clear h6 hG hs hpx hx hq
            go_enter Try.func17, Try.ntmps17
            go_wp2_with (first | (go_at_call 33; refine KV.out.mono ?_; rintro e w1 ⟨rfl, d, rfl⟩; rw [H3.out]) | (go_at_call 37; refine (HKB.out _ (H2.out.drewN d)).mono ?_; rintro e w1 ⟨rfl, rfl⟩; rw [H6.out]))
            refine (HKP.out _ (HH.out.drewN d) (H2.out.drewN d) (sm_bytes (of_decide_eq_true H6.out)) (by omega) H3.out (by omega)).mono ?_
            rintro e w2 ⟨g, cp, rfl, hg, o2, b2⟩
            rw [Hpx.out, Hq.out] at o2
            rw [Hpx.out, Hq.out]
            have hcp := o2.room.1
            obtain ⟨r, hqr⟩ : ∃ r, q = r + 1 := ⟨q - 1, by omega⟩
            subst hqr
            obtain ⟨cq, hcq⟩ : ∃ r, cp = r + 1 := ⟨cp - 1, by omega⟩
            subst hcq
            have z0 := cellX o2 Hq.out (show 0 < r + 1 by omega)
            obtain ⟨x0, hx0⟩ : ∃ y, x.getD 0 0 = y := ⟨_, rfl⟩
            have hs0 := Hs.out 0
            rw [hx0] at z0 hs0
            obtain ⟨s, rfl⟩ := Int.eq_ofNat_of_zero_le hs0.1
            have Hx0 := hide hx0
            have O2 := hide o2
            have BB := hide ((below_drewN' (Below.refl w.heap.size w) d).trans (b2.mono (Nat.le_refl _)))
            have HI := hide (own_ints o2)
            have f1 : (0 : Int) < ((r + 1 : Nat) : Int) := by omega
            have f2 : (1 : Int) ≤ ((r + 1 : Nat) : Int) := by omega
            have f3 : (1 : Int) ≤ ((cq + 1 : Nat) : Int) := by omega
            have f4 : (0 : Int) < (r : Int) + 1 := by omega
            have f5 : (1 : Int) ≤ (r : Int) + 1 := by omega
            have f6 : (1 : Int) ≤ (cq : Int) + 1 := by omega
            clear o2 b2 hx0 hs0
            by_cases hsr : r < s
            · obtain ⟨rfl, rfl⟩ := relFix_no HR.out (by rw [HG.out]; exact fixOk_no1 Hq.out Hx0.out hsr)
              have f7 : (r : Int) < (s : Int) := by omega
              clear HR
              by_cases hc1 : cq = 0
              all_goals
                go_wp2_with fail
                go_quiet (fail)
                go_wp2_with fail
                go_ret2
                exact newIntsB_nil2 (w' := w2.drewN nq) (below_drewN' BB.out nq)
            · obtain ⟨t, rfl⟩ : ∃ t, r = s + t := ⟨r - s, by omega⟩
              have f7 : ¬ ((s + t : Nat) : Int) < (s : Int) := by omega
              have f8 : ¬ (s : Int) + (t : Int) < (s : Int) := by omega
              have f9 : (s : Int) ≤ ((s + t : Nat) : Int) := by omega
              have f10 : (s : Int) ≤ (cq : Int) := by omega
              have hmk := run_make_recs (P := Try.prog) (t := 25) (e := 3) (.int .i64 0) 1 8 Try.underlying25 intInfo .i64 .i64 s (by omega) (by omega)
              rw [Nat.mul_one] at hmk
              by_cases ht : t = 0
              · have hcase : (cq = 0 ∧ s = 0) ∨ (¬ cq = 0 ∧ cq = s) ∨ (¬ cq = 0 ∧ ¬ cq = s) := by omega
                rcases hcase with ⟨hc1, hc2⟩ | ⟨hc1, hc2⟩ | ⟨hc1, hc2⟩
                · subst hc1
                  subst hc2
                  have Hlx := hide (show (x.drop 1).length = 0 by rw [List.length_drop, Hq.out]; omega)
                  have hmk0 : ∀ w : World, (Instr.makeSlice 25 (.int .i64 0) (.int .i64 0)).run Try.prog w = .ok (.slice (some ⟨w.heap.size, 0, none⟩) 0 0) (w.alloc (.cells (madeCells (Value.int .i64 0).cells 0) 3)) := hmk
                  clear hmk
                  go_wp2_with fail
                  go_quiet (fail)
                  go_wp2_with fail
                  refine rebase (fun wx => Own wx 3 1 g (0 + t + 1) (0 + 1) (x.map (Value.int .i64)) ∧ Below w.heap.size w wx) ⟨O2.out.drewN _, below_drewN' BB.out _⟩ ?_
                  rintro w3 ⟨o3, b3⟩
                  have O3 := hide o3
                  have B3 := hide b3
                  have Hz := hide (own_zeros w3 0 (by unfold maxLen; omega))
                  clear o3 b3 O2 BB HI z0
                  go_loopw [52] (fun i wr => ∃ k : Nat, k ≤ t ∧ i = .int .i64 k ∧ (∀ i, i < k → x.getD (1 + 0 + i) 0 = 0) ∧ wr = w3) (fun i _ => t - (intOf i).toNat)
                  case atStart => exact ⟨0, by omega, rfl, (fun i hi => by omega), rfl⟩
                  case round =>
                    obtain ⟨k, hk, rfl, hz, rfl⟩ := hrel
                    have Hzz := hide hz
                    clear hz
                    by_cases hk' : k < t
                    · exfalso; omega
                    ·
                      have hkt : k = t := by omega
                      subst hkt
                      obtain ⟨rfl, rfl⟩ := relFix_yes HR.out (by rw [HG.out]; exact fixOk_yes Hq.out Hx0.out (by omega) (fun i hi => Hzz.out i (by omega)))
                      have Hln := hide (fixB_eq Hq.out Hx0.out (show 0 ≤ 0 + k by omega)).2
                      clear HR
                      go_wp2_with (refine wpList_copy_ints (zs := x.drop 1) (A := some ⟨g, 0, none⟩) rfl _ _ _ _ rfl 3 Try.underlying25 info1 rfl (by rw [Hlx.out]; rfl) Hz.out (IntsAt.below (show IntsAt wr (some ⟨g, 0, none⟩) (x.drop 1) from .inl (List.eq_nil_of_length_eq_zero (by rw [List.length_drop, Hq.out]; omega))) ((Below.refl _ _).alloc (Nat.le_refl _) _)) (B := w.heap.size) (w0 := w) (B3.out.alloc B3.out.size _) B3.out.size ?_; intro w5 o5 b5; have O5 := hide (fixB_own Hq.out Hx0.out (show 0 ≤ 0 + k by omega) o5); have B5 := hide b5; clear o5 b5)
                      go_ret2
                      exact newIntsB_mk (by rw [Hx.out]) Hln.out.symm (by have := B3.out.size; omega) O5.out B5.out
                · have Hlx := hide (show (x.drop 1).length = s by rw [List.length_drop, Hq.out]; omega)
                  go_wp2_with fail
                  go_quiet (fail)
                  go_wp2_with fail
                  refine rebase (fun wx => Own wx 3 1 g (s + t + 1) (cq + 1) (x.map (Value.int .i64)) ∧ Below w.heap.size w wx) ⟨O2.out.drewN _, below_drewN' BB.out _⟩ ?_
                  rintro w3 ⟨o3, b3⟩
                  have O3 := hide o3
                  have B3 := hide b3
                  have Hz := hide (own_zeros w3 s (by unfold maxLen; omega))
                  clear o3 b3 O2 BB HI z0
                  go_loopw [52] (fun i wr => ∃ k : Nat, k ≤ t ∧ i = .int .i64 k ∧ (∀ i, i < k → x.getD (1 + s + i) 0 = 0) ∧ wr = w3) (fun i _ => t - (intOf i).toNat)
                  case atStart => exact ⟨0, by omega, rfl, (fun i hi => by omega), rfl⟩
                  case round =>
                    obtain ⟨k, hk, rfl, hz, rfl⟩ := hrel
                    have Hzz := hide hz
                    clear hz
                    by_cases hk' : k < t
                    · exfalso; omega
                    ·
                      have hkt : k = t := by omega
                      subst hkt
                      obtain ⟨rfl, rfl⟩ := relFix_yes HR.out (by rw [HG.out]; exact fixOk_yes Hq.out Hx0.out (by omega) (fun i hi => Hzz.out i (by omega)))
                      have Hln := hide (fixB_eq Hq.out Hx0.out (show s ≤ s + k by omega)).2
                      clear HR
                      go_wp2_with (refine wpList_copy_ints (zs := x.drop 1) (A := some ⟨g, 1, none⟩) rfl _ _ _ _ rfl 3 Try.underlying25 info1 rfl (by rw [Hlx.out]; rfl) Hz.out (IntsAt.below ((own_ints O3.out).drop 1) ((Below.refl _ _).alloc (Nat.le_refl _) _)) (B := w.heap.size) (w0 := w) (B3.out.alloc B3.out.size _) B3.out.size ?_; intro w5 o5 b5; have O5 := hide (fixB_own Hq.out Hx0.out (show s ≤ s + k by omega) o5); have B5 := hide b5; clear o5 b5)
                      go_ret2
                      exact newIntsB_mk (by rw [Hx.out]) Hln.out.symm (by have := B3.out.size; omega) O5.out B5.out
                · have hc3 : ¬ cq - s = 0 := by omega
                  have Hlx := hide (show (x.drop 1).length = s by rw [List.length_drop, Hq.out]; omega)
                  go_wp2_with fail
                  go_quiet (fail)
                  go_wp2_with fail
                  refine rebase (fun wx => Own wx 3 1 g (s + t + 1) (cq + 1) (x.map (Value.int .i64)) ∧ Below w.heap.size w wx) ⟨O2.out.drewN _, below_drewN' BB.out _⟩ ?_
                  rintro w3 ⟨o3, b3⟩
                  have O3 := hide o3
                  have B3 := hide b3
                  have Hz := hide (own_zeros w3 s (by unfold maxLen; omega))
                  clear o3 b3 O2 BB HI z0
                  go_loopw [52] (fun i wr => ∃ k : Nat, k ≤ t ∧ i = .int .i64 k ∧ (∀ i, i < k → x.getD (1 + s + i) 0 = 0) ∧ wr = w3) (fun i _ => t - (intOf i).toNat)
                  case atStart => exact ⟨0, by omega, rfl, (fun i hi => by omega), rfl⟩
                  case round =>
                    obtain ⟨k, hk, rfl, hz, rfl⟩ := hrel
                    have Hzz := hide hz
                    clear hz
                    by_cases hk' : k < t
                    · exfalso; omega
                    ·
                      have hkt : k = t := by omega
                      subst hkt
                      obtain ⟨rfl, rfl⟩ := relFix_yes HR.out (by rw [HG.out]; exact fixOk_yes Hq.out Hx0.out (by omega) (fun i hi => Hzz.out i (by omega)))
                      have Hln := hide (fixB_eq Hq.out Hx0.out (show s ≤ s + k by omega)).2
                      clear HR
                      go_wp2_with (refine wpList_copy_ints (zs := x.drop 1) (A := some ⟨g, 1, none⟩) rfl _ _ _ _ rfl 3 Try.underlying25 info1 rfl (by rw [Hlx.out]; rfl) Hz.out (IntsAt.below ((own_ints O3.out).drop 1) ((Below.refl _ _).alloc (Nat.le_refl _) _)) (B := w.heap.size) (w0 := w) (B3.out.alloc B3.out.size _) B3.out.size ?_; intro w5 o5 b5; have O5 := hide (fixB_own Hq.out Hx0.out (show s ≤ s + k by omega) o5); have B5 := hide b5; clear o5 b5)
                      go_ret2
                      exact newIntsB_mk (by rw [Hx.out]) Hln.out.symm (by have := B3.out.size; omega) O5.out B5.out
              · have hc1 : ¬ cq = 0 := by omega
                have hc2 : ¬ cq = s := by omega
                have hc3 : ¬ cq - s = 0 := by omega
                go_wp2_with fail
                go_quiet (fail)
                go_wp2_with fail
                refine rebase (fun wx => Own wx 3 1 g (s + t + 1) (cq + 1) (x.map (Value.int .i64)) ∧ Below w.heap.size w wx) ⟨O2.out.drewN _, below_drewN' BB.out _⟩ ?_
                rintro w3 ⟨o3, b3⟩
                have O3 := hide o3
                have B3 := hide b3
                have Hz := hide (own_zeros w3 s (by unfold maxLen; omega))
                clear o3 b3 O2 BB HI z0
                go_loopw [52] (fun i wr => ∃ k : Nat, k ≤ t ∧ i = .int .i64 k ∧ (∀ i, i < k → x.getD (1 + s + i) 0 = 0) ∧ wr = w3) (fun i _ => t - (intOf i).toNat)
                case atStart => exact ⟨0, by omega, rfl, (fun i hi => by omega), rfl⟩
                case round =>
                  obtain ⟨k, hk, rfl, hz, rfl⟩ := hrel
                  have Hzz := hide hz
                  clear hz
                  by_cases hk' : k < t
                  · have g7 : (k : Int) < (t : Int) := by omega
                    have z1 := cellX O3.out Hq.out (show 1 + s + k < s + t + 1 by omega)
                    obtain ⟨y, hy⟩ : ∃ y, x.getD (1 + s + k) 0 = y := ⟨_, rfl⟩
                    rw [hy] at z1
                    have Hy := hide hy
                    clear hy
                    by_cases hy0 : y = 0
                    · subst hy0
                      go_wp2_with fail
                      go_roundw
                      case rel =>
                        refine ⟨k + 1, by omega, by go_num, ?_, by first | rfl | trivial⟩
                        intro i hi
                        rcases Nat.lt_succ_iff_lt_or_eq.1 hi with hi | rfl
                        · exact Hzz.out i hi
                        · exact Hy.out
                      case measure => simp [intOf]; omega
                    · obtain ⟨rfl, rfl⟩ := relFix_no HR.out (by rw [HG.out]; exact fixOk_no2 Hq.out Hx0.out (k := k) (by omega) Hy.out hy0)
                      have e1 : (y != 0) = true := by simpa using hy0
                      have e2 : (y == 0) = false := by simpa using hy0
                      clear HR hy0
                      go_wp2_with fail
                      go_ret2
                      exact newIntsB_nil2 B3.out
                  ·
                    have hkt : k = t := by omega
                    subst hkt
                    obtain ⟨rfl, rfl⟩ := relFix_yes HR.out (by rw [HG.out]; exact fixOk_yes Hq.out Hx0.out (by omega) (fun i hi => Hzz.out i (by omega)))
                    have Hln := hide (fixB_eq Hq.out Hx0.out (show s ≤ s + k by omega)).2
                    clear HR
                    go_wp2_with (refine wpList_copy_ints (zs := x.drop 1) (A := some ⟨g, 1, none⟩) rfl _ _ _ _ rfl 3 Try.underlying25 info1 rfl (by rw [List.length_drop, Hq.out]; rfl) Hz.out (IntsAt.below ((own_ints O3.out).drop 1) ((Below.refl _ _).alloc (Nat.le_refl _) _)) (B := w.heap.size) (w0 := w) (B3.out.alloc B3.out.size _) B3.out.size ?_; intro w5 o5 b5; have O5 := hide (fixB_own Hq.out Hx0.out (show s ≤ s + k by omega) o5); have B5 := hide b5; clear o5 b5)
                    go_ret2
                    exact newIntsB_mk (by rw [Hx.out]) Hln.out.symm (by have := B3.out.size; omega) O5.out B5.out
          · have H6 := hide (show decide (bytesOk p) = false by simpa using h6)
            obtain ⟨rfl, rfl⟩ := relFix_no HR.out (fixG_no4 H6.out)
            clear h6
            clear HR
            go_enter Try.func17, Try.ntmps17
            go_wp2_with (first | (go_at_call 33; refine KV.out.mono ?_; rintro e w1 ⟨rfl, d, rfl⟩; rw [H3.out]) | (go_at_call 37; refine (HKB.out _ (H2.out.drewN d)).mono ?_; rintro e w1 ⟨rfl, rfl⟩; rw [H6.out]))
            go_ret2
            exact newIntsB_nil2 (w' := w.drewN d) (below_drewN' (Below.refl _ _) d)
        · obtain ⟨rfl, rfl⟩ := relFix_no HR.out (fixG_no3 Hm.out (by omega))
          have g5 : 13 < (m : Int) := by omega
          clear HR
          go_enter Try.func17, Try.ntmps17
          go_wp2_with (go_at_call 33; refine KV.out.mono ?_; rintro e w1 ⟨rfl, d, rfl⟩; rw [H3.out])
          go_ret2
          exact newIntsB_nil2 (w' := w.drewN d) (below_drewN' (Below.refl _ _) d)
      · obtain ⟨rfl, rfl⟩ := relFix_no HR.out (fixG_no3 Hm.out (by omega))
        have g4 : (m : Int) < 1 := by omega
        clear HR
        go_enter Try.func17, Try.ntmps17
        go_wp2_with (go_at_call 33; refine KV.out.mono ?_; rintro e w1 ⟨rfl, d, rfl⟩; rw [H3.out])
        go_ret2
        exact newIntsB_nil2 (w' := w.drewN d) (below_drewN' (Below.refl _ _) d)
    · have H3 := hide (show ls.all bodyB = false by simpa only [Bool.not_eq_true] using h3)
      obtain ⟨rfl, rfl⟩ := relFix_no HR.out (fixG_no2 H3.out)
      clear h3
      clear HR
      go_enter Try.func17, Try.ntmps17
      go_wp2_with (go_at_call 33; refine KV.out.mono ?_; rintro e w1 ⟨rfl, d, rfl⟩; rw [H3.out])
      go_ret2
      exact newIntsB_nil2 (w' := w.drewN d) (below_drewN' (Below.refl _ _) d)
  · obtain ⟨rfl, rfl⟩ := relFix_no HR.out (fixG_no1 Hn.out h1)
    have g1 : 8 ≤ (n : Int) := by omega
    clear HR
    go_enter Try.func17, Try.ntmps17
    go_wp2_with fail
    go_ret2
    exact newIntsB_nil2 (Below.refl _ _)
end Go.Proofs.Ytppomcgkmjnpmaa
