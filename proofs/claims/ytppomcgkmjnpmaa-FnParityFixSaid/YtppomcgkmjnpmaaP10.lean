/- ParityFits, of both: contracts. -/
import Derived.Test.YtppomcgkmjnpmaaP6
namespace Go.Proofs.Ytppomcgkmjnpmaa
open Go.ChangeShapes Go.WideShapes Go.ChangeAt Go.RowKit Go.Deep

def fitsB (ls : List (List Int)) (p : List Int) : Bool := parB ls && decide (par [0] ls = p)
theorem fits_no {ls : List (List Int)} {p ys : List Int} (h : relPar ls ys false) : fitsB ls p = false := by
  rcases h with ⟨_, _, c⟩ | ⟨a, _, _⟩
  · cases c
  · unfold fitsB; rw [a]; rfl
theorem fits_ne {ls : List (List Int)} {p : List Int} (h : par [0] ls ≠ p) : fitsB ls p = false := by unfold fitsB; rw [decide_eq_false h, Bool.and_false]
theorem fits_yes {ls : List (List Int)} {p : List Int} (h : relPar ls (par [0] ls) true) (he : par [0] ls = p) : fitsB ls p = true := by
  rcases h with ⟨a, _, _⟩ | ⟨_, _, c⟩
  · unfold fitsB; rw [a, decide_eq_true he]; rfl
  · cases c
def eqTo (a b : List Int) (k : Nat) : Prop := ∀ i, i < k → a.getD i 0 = b.getD i 0
theorem eqTo_next {a b : List Int} {k : Nat} {x : Int} (h : eqTo a b k) (h1 : a.getD k 0 = x) (h2 : b.getD k 0 = x) : eqTo a b (k + 1) := by
  intro i hi
  rcases Nat.lt_succ_iff_lt_or_eq.1 hi with hi | rfl
  · exact h i hi
  · rw [h1, h2]
theorem eqTo_full {a b : List Int} {n : Nat} (ha : a.length = n) (hb : b.length = n) (h : eqTo a b n) : a = b := ext_getD (by omega) fun i hi => h i (by omega)
theorem eqTo_ne {a b : List Int} {k : Nat} {x y : Int} (h1 : a.getD k 0 = x) (h2 : b.getD k 0 = y) (h : x ≠ y) : a ≠ b := by
  rintro rfl
  exact h (h1.symm.trans h2)
theorem len_ne {a b : List Int} {n m : Nat} (ha : a.length = n) (hb : b.length = m) (h : n ≠ m) : a ≠ b := by
  rintro rfl
  exact h (ha.symm.trans hb)
set_option maxHeartbeats 2000000 in
theorem implParityFits (A A2 : Option Addr) (c c2 : Nat) (ls : List (List Int)) (p : List Int) (w : World) (h : BodAt w A ls) (h2 : IntsAt w A2 p) (hm : ls.length ≤ 1048576) (hm2 : p.length ≤ 1048576) :
    Calls Try.prog 19 #[.slice A ls.length c, .slice A2 p.length c2] w (RetB (fitsB ls p) w) := by
  obtain ⟨ys, B, hR⟩ := relPar_some ls
  have KP := hide (implParityOf A c ls ys B w hR h hm)
  have HR := hide hR
  have H2 := hide h2
  have hly := (relPar_bd hR).1
  obtain ⟨r, hr⟩ : ∃ r, p.length = r := ⟨_, rfl⟩
  obtain ⟨n, hn⟩ : ∃ r, ls.length = r := ⟨_, rfl⟩
  rw [hn] at hm KP ⊢
  rw [hr] at hm2 ⊢
  have Hr := hide hr
  clear hR h h2 hr hn
  go_enter Try.func19, Try.ntmps19
  go_wp2_with fail
  refine KP.out.mono ?_
  rintro e w1 ⟨g, cp, rfl, hg, o1, b1⟩
  have B1 := hide b1
  have O1 := hide o1
  have H2 := hide (H2.out.below b1)
  clear o1 b1 KP
  cases B
  · have HF := hide (fits_no (p := p) HR.out)
    clear HR
    go_wp2_with fail
    go_ret
    exact ⟨by rw [HF.out]; rfl, B1.out⟩
  · obtain ⟨_, _, _, rfl⟩ := relPar_true HR.out
    obtain ⟨q, hq⟩ : ∃ q, (par [0] ls).length = q := ⟨_, rfl⟩
    rw [hq] at O1 hly ⊢
    have Hq := hide hq
    clear hq
    by_cases hqr : q = r
    · subst hqr
      have e0 : ((q : Int) != (q : Int)) = false := by simp
      go_wp2_with fail
      go_loopw [25] (fun i wr => ∃ k : Nat, k ≤ q ∧ i = .int .i64 k ∧ eqTo (par [0] ls) p k ∧ wr = w1) (fun i _ => q - (intOf i).toNat)
      case atStart => exact ⟨0, by omega, rfl, fun i hi => by omega, rfl⟩
      case round =>
        obtain ⟨k, hk, rfl, hok, rfl⟩ := hrel
        have Hok := hide hok
        clear hok
        by_cases hk' : k < q
        · rcases H2.out with h0 | ⟨b, off, rfl, hlt, hc⟩
          · have := Hr.out
            simp [h0] at this
            omega
          · have hz := hc k (by have := Hr.out; omega)
            have hy := cellX O1.out Hq.out hk'
            obtain ⟨z, hzz⟩ : ∃ z, p.getD k 0 = z := ⟨_, rfl⟩
            obtain ⟨y, hyy⟩ : ∃ z, (par [0] ls).getD k 0 = z := ⟨_, rfl⟩
            rw [hzz] at hz
            rw [hyy] at hy
            have Hz := hide hzz
            have Hy := hide hyy
            have g2 : (k : Int) < (q : Int) := by omega
            clear hzz hyy hc
            by_cases hzy : z = y
            · subst hzy
              have e1 : (z != z) = false := by simp
              go_wp2_with fail
              go_roundw
              case rel => exact ⟨k + 1, by omega, by go_num, eqTo_next Hok.out Hy.out Hz.out, by first | rfl | trivial⟩
              case measure => simp [intOf]; omega
            · have e1 : (z != y) = true := by simpa using hzy
              have e2 : (z == y) = false := by simpa using hzy
              have HF := hide (fits_ne (eqTo_ne Hy.out Hz.out (Ne.symm hzy)))
              clear hzy
              go_wp2_with fail
              go_ret
              exact ⟨by rw [HF.out]; rfl, B1.out⟩
        · have hkq : k = q := by omega
          subst hkq
          have HF := hide (fits_yes HR.out (eqTo_full Hq.out Hr.out Hok.out))
          go_wp2_with fail
          go_ret
          exact ⟨by rw [HF.out]; rfl, B1.out⟩
    · have e0 : ((q : Int) != (r : Int)) = true := by simp; omega
      have e1 : ((q : Int) == (r : Int)) = false := by simp; omega
      have HF := hide (fits_ne (len_ne Hq.out Hr.out hqr))
      clear HR
      go_wp2_with fail
      go_ret
      exact ⟨by rw [HF.out]; rfl, B1.out⟩
set_option maxHeartbeats 2000000 in
theorem specParityFits (A A2 : Option Addr) (c c2 : Nat) (ls : List (List Int)) (p : List Int) (w : World) (h : BodAt w A ls) (h2 : IntsAt w A2 p) (hm : ls.length ≤ 1048576) (hm2 : p.length ≤ 1048576) :
    Calls Try.prog 20 #[.slice A ls.length c, .slice A2 p.length c2] w (RetB (fitsB ls p) w) := by
  obtain ⟨ys, B, hR⟩ := relPar_some ls
  have KP := hide (specParityOf A c ls ys B w hR h hm)
  have HR := hide hR
  have H2 := hide h2
  have hly := (relPar_bd hR).1
  obtain ⟨r, hr⟩ : ∃ r, p.length = r := ⟨_, rfl⟩
  obtain ⟨n, hn⟩ : ∃ r, ls.length = r := ⟨_, rfl⟩
  rw [hn] at hm KP ⊢
  rw [hr] at hm2 ⊢
  have Hr := hide hr
  clear hR h h2 hr hn
  go_enter Try.func20, Try.ntmps20
  go_wp2_with fail
  refine KP.out.mono ?_
  rintro e w1 ⟨g, cp, rfl, hg, o1, b1⟩
  have B1 := hide b1
  have O1 := hide o1
  have H2 := hide (H2.out.below b1)
  clear o1 b1 KP
  cases B
  · have HF := hide (fits_no (p := p) HR.out)
    clear HR
    go_wp2_with fail
    go_ret
    exact ⟨by rw [HF.out]; rfl, B1.out⟩
  · obtain ⟨_, _, _, rfl⟩ := relPar_true HR.out
    obtain ⟨q, hq⟩ : ∃ q, (par [0] ls).length = q := ⟨_, rfl⟩
    rw [hq] at O1 hly ⊢
    have Hq := hide hq
    clear hq
    by_cases hqr : q = r
    · subst hqr
      have e0 : ((q : Int) != (q : Int)) = false := by simp
      go_wp2_with fail
      go_loopw [7] (fun i wr => ∃ k d : Nat, k ≤ q ∧ i = .int .i64 k ∧ eqTo (par [0] ls) p k ∧ wr = w1.drewN d) (fun i _ => q - (intOf i).toNat)
      case atStart => exact ⟨0, 0, by omega, rfl, (fun i hi => by omega), rfl⟩
      case round =>
        obtain ⟨k, d, hk, rfl, hok, rfl⟩ := hrel
        have Hok := hide hok
        clear hok
        by_cases hk' : k < q
        · rcases H2.out with h0 | ⟨b, off, rfl, hlt, hc⟩
          · have := Hr.out
            simp [h0] at this
            omega
          · have hz := hc k (by have := Hr.out; omega)
            have hy := cellX O1.out Hq.out hk'
            obtain ⟨z, hzz⟩ : ∃ z, p.getD k 0 = z := ⟨_, rfl⟩
            obtain ⟨y, hyy⟩ : ∃ z, (par [0] ls).getD k 0 = z := ⟨_, rfl⟩
            rw [hzz] at hz
            rw [hyy] at hy
            have Hz := hide hzz
            have Hy := hide hyy
            have g2 : (k : Int) < (q : Int) := by omega
            clear hzz hyy hc
            by_cases hzy : z = y
            · subst hzy
              have e1 : (z != z) = false := by simp
              go_wp2_with fail
              go_quiet (fail)
              go_wp2_with fail
              go_roundw
              case rel => exact ⟨k + 1, d + nq, by omega, by go_num, eqTo_next Hok.out Hy.out Hz.out, by first | rfl | simp⟩
              case measure => simp [intOf]; omega
            · have e1 : (y != z) = true := by simpa using Ne.symm hzy
              have e2 : (y == z) = false := by simpa using Ne.symm hzy
              have HF := hide (fits_ne (eqTo_ne Hy.out Hz.out (Ne.symm hzy)))
              clear hzy
              go_wp2_with fail
              go_quiet (fail)
              go_wp2_with fail
              go_ret
              exact ⟨by rw [HF.out]; rfl, by first | exact below_drewN' B1.out _ | (rw [World.drewN_drewN]; exact below_drewN' B1.out _)⟩
        · have hkq : k = q := by omega
          subst hkq
          have HF := hide (fits_yes HR.out (eqTo_full Hq.out Hr.out Hok.out))
          go_wp2_with fail
          go_ret
          exact ⟨by rw [HF.out]; rfl, below_drewN' B1.out _⟩
    · have e0 : ((q : Int) != (r : Int)) = true := by simp; omega
      have e1 : ((q : Int) == (r : Int)) = false := by simp; omega
      have HF := hide (fits_ne (len_ne Hq.out Hr.out hqr))
      clear HR
      go_wp2_with fail
      go_ret
      exact ⟨by rw [HF.out]; rfl, B1.out⟩
end Go.Proofs.Ytppomcgkmjnpmaa
