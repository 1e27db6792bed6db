/- sameInts of any two lists; what DrawParityFits draws. -/
import Derived.Test.YtppomcgkmjnpmaaP12
namespace Go.Proofs.Ytppomcgkmjnpmaa
open Go.ChangeShapes Go.WideShapes Go.ChangeAt Go.RowKit Go.Deep

set_option maxHeartbeats 2000000 in
theorem sameInts_any (A A2 : Option Addr) (c c2 : Nat) (a p : List Int) (w : World) (h1 : IntsAt w A a) (h2 : IntsAt w A2 p) (hm1 : a.length ≤ 1048576) (hm2 : p.length ≤ 1048576) :
    Calls Try.prog 16 #[.slice A a.length c, .slice A2 p.length c2] w (RetQ (.bool (decide (a = p))) w) := by
  have H1 := hide h1
  have H2 := hide h2
  obtain ⟨q, hq⟩ : ∃ r, a.length = r := ⟨_, rfl⟩
  obtain ⟨r, hr⟩ : ∃ r, p.length = r := ⟨_, rfl⟩
  rw [hq] at hm1 ⊢
  rw [hr] at hm2 ⊢
  have Hq := hide hq
  have Hr := hide hr
  clear h1 h2 hr hq
  by_cases hqr : q = r
  · subst hqr
    have e0 : ((q : Int) != (q : Int)) = false := by simp
    go_enter Try.func16, Try.ntmps16
    go_wp2_with fail
    go_loopw [5] (fun i wr => ∃ k d : Nat, k ≤ q ∧ i = .int .i64 k ∧ eqTo a p k ∧ wr = w.drewN d) (fun i _ => q - (intOf i).toNat)
    case atStart => exact ⟨0, 0, by omega, rfl, (fun i hi => by omega), rfl⟩
    case round =>
      obtain ⟨k, d, hk, rfl, hok, rfl⟩ := hrel
      have Hok := hide hok
      clear hok
      by_cases hk' : k < q
      · rcases H1.out with h0 | ⟨b1, off1, rfl, hlt1, hc1⟩
        · have := Hq.out
          simp [h0] at this
          omega
        · rcases H2.out with h0 | ⟨b, off, rfl, hlt, hc⟩
          · have := Hr.out
            simp [h0] at this
            omega
          · have hz := hc k (by have := Hr.out; omega)
            have hy := hc1 k (by have := Hq.out; omega)
            obtain ⟨z, hzz⟩ : ∃ z, p.getD k 0 = z := ⟨_, rfl⟩
            obtain ⟨y, hyy⟩ : ∃ z, a.getD k 0 = z := ⟨_, rfl⟩
            rw [hzz] at hz
            rw [hyy] at hy
            have Hz := hide hzz
            have Hy := hide hyy
            have g2 : (k : Int) < (q : Int) := by omega
            clear hzz hyy hc hc1
            by_cases hzy : z = y
            · subst hzy
              have e1 : (z != z) = false := by simp
              go_wp2_with fail
              go_quiet (fail)
              go_wp2_with fail
              go_roundw
              case rel => exact ⟨k + 1, d + nq, by omega, by go_num, eqTo_next Hok.out Hy.out Hz.out, by first | rfl | simp⟩
              case measure => simp [intOf]; omega
            · have e1 : (y != z) = true := by simpa using Ne.symm hzy
              have e2 : (y == z) = false := by simpa using Ne.symm hzy
              have HF := hide (decide_eq_false (eqTo_ne Hy.out Hz.out (Ne.symm hzy)))
              clear hzy
              go_wp2_with fail
              go_quiet (fail)
              go_wp2_with fail
              go_ret
              exact ⟨by rw [HF.out]; rfl, d + nq, by first | rfl | simp⟩
      · have hkq : k = q := by omega
        subst hkq
        have HF := hide (decide_eq_true (eqTo_full Hq.out Hr.out Hok.out))
        go_wp2_with fail
        go_ret
        exact ⟨by rw [HF.out]; rfl, d, rfl⟩
  · have e0 : ((q : Int) != (r : Int)) = true := by simp; omega
    have e1 : ((q : Int) == (r : Int)) = false := by simp; omega
    have HF := hide (decide_eq_false (len_ne Hq.out Hr.out hqr))
    go_enter Try.func16, Try.ntmps16
    go_wp2_with fail
    go_ret
    exact ⟨by rw [HF.out]; rfl, 0, rfl⟩
/-- Bodies and a parity that a draw leaves. -/
def NewBodInts (M : Nat) (w : World) (e : Ending) (w' : World) : Prop :=
  ∃ g c bs g2 c2 p, e = .returned (.tuple #[.slice (some ⟨g, 0, none⟩) (List.length bs) c, .slice (some ⟨g2, 0, none⟩) (List.length p) c2]) ∧ bs.length ≤ M ∧ fewB bs ∧ p.length ≤ 13 ∧ OwnBod w' w.heap.size g bs.length c bs ∧
    Own w' 3 1 g2 p.length c2 (p.map (Value.int .i64)) ∧ w.heap.size ≤ g ∧ w.heap.size ≤ g2 ∧ Below w.heap.size w w'
theorem newBodInts_mk {M q m g c g2 c2 : Nat} {w w' : World} {bs : List VBod} {p : List Int} (hq : bs.length = q) (hm : p.length = m) (h1 : q ≤ M) (hf : fewB bs) (h2 : m ≤ 13) (h3 : OwnBod w' w.heap.size g q c bs) (h4 : Own w' 3 1 g2 m c2 (p.map (Value.int .i64))) (h5 : w.heap.size ≤ g) (h6 : w.heap.size ≤ g2) (h7 : Below w.heap.size w w') :
    NewBodInts M w (.returned (.tuple #[.slice (some ⟨g, 0, none⟩) q c, .slice (some ⟨g2, 0, none⟩) m c2])) w' := by
  subst hq hm
  exact ⟨g, c, bs, g2, c2, p, rfl, h1, hf, h2, h3, h4, h5, h6, h7⟩
theorem below_of_grown {S R : Nat} {w w1 w2 : World} (h : Below S w w1) (hg : w1.grownBy w2 (some R)) (h1 : S ≤ w1.heap.size) (hR : S ≤ R) : Below S w w2 := h.grown hg h1 (by intro k hk; simp at hk; omega)
set_option maxHeartbeats 4000000 in
theorem drawParityFits (B : Nat) (A : Option Addr) (n c : Nat) (w : World) (hcode : Code w B A n) (hn : n ≤ c) (hm : c ≤ 9223372036854775807) (hB : B ≤ w.heap.size) :
    Calls Try.prog 18 #[.slice A n c] w (NewBodInts 8 w) := by
  have Hcode := hide hcode
  clear hcode
  go_enter Try.func18, Try.ntmps18
  go_wp2_with fail
  refine (l6Open_any B A n c _ Hcode.out hn hm hB).mono ?_
  rintro e w1 ⟨R, rfl, hR, hr, hb1⟩
  have zb := hb1.size
  clear Hcode
  go_wp2_with fail
  refine (drawBodies B 8 _ R hr (by omega)).mono ?_
  rintro e w2 ⟨g, c1, bs, rfl, hl, hf, hg, ob, hr2, hg2⟩
  obtain ⟨q, hq⟩ : ∃ q, bs.length = q := ⟨_, rfl⟩
  rw [hq] at hl ob ⊢
  have Hq := hide hq
  have Hf := hide hf
  have lR := hr.lt
  have Ob2 := hide ob
  obtain ⟨ys, b, hRel⟩ := relPar_some (bs.map VBod.zs)
  have HRel := hide hRel
  obtain ⟨hly, _⟩ := relPar_bd hRel
  have B2 := hide (below_of_grown hb1 hg2 zb hR)
  clear hq hf hRel hr hb1 hg2
  go_wp2_with fail
  refine (specParOwn ob HRel.out (by omega)).mono ?_
  rintro e w3 ⟨g3, c3, rfl, hg3, o3, hb3⟩
  have s3 := hb3.size
  have s2 := B2.out.size
  have lRg : R < g3 := by have := hr2.lt; omega
  have ob3 := ob.below hb3
  have Ob := hide ob3
  have O3 := hide o3
  have Hr3 := hide (hr2.below hb3)
  have B3 := hide (B2.out.trans (hb3.mono s2))
  have G3 := hide (grown_of_below hb3 R)
  have lg := ob.lt
  have lg3 := o3.lt
  clear ob o3 hr2 hb3 ob3 B2
  cases b
  · go_wp2_with fail
    go_ret2
    exact newBodInts_mk (p := [0]) Hq.out rfl hl Hf.out (by omega) ((Ob.out.alloc _).more zb) ((Own.new w3 #[.int .i64 0] 3 1 1 (by unfold maxLen; omega) rfl).conv (xs' := [(0 : Int)].map (Value.int .i64)) rfl) (by omega) (by have := B3.out.size; exact this) (B3.out.alloc B3.out.size _)
  · have hy1 : 1 ≤ ys.length := by
      obtain ⟨_, h1, _, rfl⟩ := relPar_true HRel.out
      rw [par_length0]; omega
    obtain ⟨m, hmm⟩ : ∃ m, ys.length = m := ⟨_, rfl⟩
    rw [hmm] at hly hy1 O3 ⊢
    have Hm := hide hmm
    clear hmm
    go_wp2_with fail
    refine (pick_any B R 60 4 _ Hr3.out (by omega) (by omega) (by omega)).mono ?_
    rintro e w4 ⟨z, rfl, hz0, hz1, hs4, hr4, hg4⟩
    have Hr4 := hide hr4
    have G4 := hide hg4
    clear hs4 hr4 hg4 Hr3
    by_cases h0 : z = 0
    · subst h0
      go_wp2_with fail
      refine (pick_any B R _ (m : Int) _ Hr4.out (by omega) (by omega) (by omega)).mono ?_
      rintro e w5 ⟨y, rfl, hy0, hy2, hs5, hr5, hg5⟩
      obtain ⟨y, rfl⟩ := Int.eq_ofNat_of_zero_le hy0
      have G5 := hide (grown_trans G4.out hg5)
      have Hr5 := hide hr5
      clear hs5 hr5 hg5 Hr4 G4
      go_wp2_with fail
      refine (pick_any B R _ 256 _ Hr5.out (by omega) (by omega) (by omega)).mono ?_
      rintro e w6 ⟨v, rfl, hv0, hv1, hs6, hr6, hg6⟩
      have G6 := hide (grown_trans G5.out hg6)
      have o6 := O3.out.grown G6.out (by omega)
      obtain ⟨v0, q0⟩ := own_some o6 (show y < m * 1 by omega)
      have f0 := o6.frozen y
      have s6 := G6.out.size
      have O6 := hide o6
      clear hs6 hr6 hg6 Hr5 G5 o6
      go_wp2_with fail
      go_ret2
      refine newBodInts_mk (p := ys.set y v) Hq.out (by rw [List.length_set]; exact Hm.out) hl Hf.out (by omega) ?_ ((O6.out.set y _).conv (by rw [List.map_set])) (by omega) (by omega) ?_
      · exact (Ob2.out.grown (grown_setCell (grown_trans G3.out G6.out) (.inr hg3) _) lR (by omega)).more zb
      · exact (below_of_grown B3.out G6.out B3.out.size (by omega)).setCell (by show w.heap.size ≤ g3; omega) _
    · have e0 : (z == 0) = false := by simpa using h0
      clear h0
      go_wp2_with fail
      go_ret2
      exact newBodInts_mk Hq.out Hm.out hl Hf.out (by omega) ((Ob.out.grown G4.out lR (by omega)).more zb) (O3.out.grown G4.out (by omega)) (by omega) (by omega) (below_of_grown B3.out G4.out B3.out.size (by omega))
end Go.Proofs.Ytppomcgkmjnpmaa
