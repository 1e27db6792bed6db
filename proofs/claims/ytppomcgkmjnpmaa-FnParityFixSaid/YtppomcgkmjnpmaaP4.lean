/- ParityOf, of both: contracts. -/
import Derived.Test.YtppomcgkmjnpmaaP3
namespace Go.Proofs.Ytppomcgkmjnpmaa
open Go.ChangeShapes Go.WideShapes Go.ChangeAt Go.RowKit Go.Deep

def NewIntsB (ys : List Int) (B : Bool) (w : World) (e : Ending) (w' : World) : Prop :=
  ∃ g c, e = .returned (.tuple #[.slice (some ⟨g, 0, none⟩) ys.length c, .bool B]) ∧ w.heap.size ≤ g ∧ Own w' 3 1 g ys.length c (ys.map (Value.int .i64)) ∧ Below w.heap.size w w'
theorem newIntsB_mk {ys : List Int} {B : Bool} {w w' : World} {g c m : Nat} {xs : List Int} (hx : xs = ys) (hm : m = xs.length) (hg : w.heap.size ≤ g) (ho : Own w' 3 1 g m c (xs.map (Value.int .i64))) (hb : Below w.heap.size w w') :
    NewIntsB ys B w (.returned (.tuple #[.slice (some ⟨g, 0, none⟩) m c, .bool B])) w' := by subst hx hm; exact ⟨g, c, rfl, hg, ho, hb⟩
theorem newIntsB_nil {w w' : World} {d : Nat} (hw : w' = w.drewN d) : NewIntsB [] false w (.returned (.tuple #[.slice (some ⟨w.heap.size, 0, none⟩) 0 0, .bool false])) (w'.alloc (.cells #[] 3)) := by
  subst hw
  exact ⟨w.heap.size, 0, rfl, Nat.le_refl _, Own.new (w.drewN d) #[] 3 1 0 (by unfold maxLen; omega) rfl, (below_drewN' (Below.refl _ _) d).alloc (Nat.le_refl _) _⟩
def parB (ls : List (List Int)) : Bool := decide (1 ≤ ls.length ∧ ls.length ≤ 8) && ls.all bodyB
def relPar (ls : List (List Int)) (ys : List Int) (B : Bool) : Prop := parB ls = true ∧ ys = par [0] ls ∧ B = true ∨ parB ls = false ∧ ys = [] ∧ B = false
theorem relPar_some (ls : List (List Int)) : ∃ ys B, relPar ls ys B := by
  by_cases h : parB ls = true
  · exact ⟨_, _, .inl ⟨h, rfl, rfl⟩⟩
  · exact ⟨_, _, .inr ⟨by simpa using h, rfl, rfl⟩⟩
theorem relPar_no {ls : List (List Int)} {ys : List Int} {B : Bool} (h : relPar ls ys B) (hn : parB ls = false) : ys = [] ∧ B = false := by
  rcases h with ⟨a, _, _⟩ | ⟨_, b, c⟩
  · rw [hn] at a; cases a
  · exact ⟨b, c⟩
theorem relPar_yes {ls : List (List Int)} {ys : List Int} {B : Bool} (h : relPar ls ys B) (hn : parB ls = true) : ys = par [0] ls ∧ B = true := by
  rcases h with ⟨_, b, c⟩ | ⟨a, _, _⟩
  · exact ⟨b, c⟩
  · rw [hn] at a; cases a
theorem parB_no {ls : List (List Int)} {n : Nat} (hn : ls.length = n) (h : n < 1 ∨ 8 < n) : parB ls = false := by
  unfold parB
  rw [decide_eq_false (by omega), Bool.false_and]
theorem parB_no2 {ls : List (List Int)} (h : ls.all bodyB = false) : parB ls = false := by unfold parB; rw [h, Bool.and_false]
theorem parB_yes {ls : List (List Int)} {n : Nat} (hn : ls.length = n) (h1 : ¬ n < 1) (h2 : ¬ 8 < n) (h : ls.all bodyB = true) : parB ls = true := by
  unfold parB
  rw [decide_eq_true (by omega), h]; rfl
theorem parB_all {ls : List (List Int)} (h : parB ls = true) : ls.all bodyB = true ∧ 1 ≤ ls.length ∧ ls.length ≤ 8 := by
  unfold parB at h
  rw [Bool.and_eq_true] at h
  have := of_decide_eq_true h.1
  exact ⟨h.2, this.1, this.2⟩
theorem par_nil_is {ls : List (List Int)} (h : ls.all bodyB = true) (h1 : 1 ≤ ls.length) : par [] ls = par [0] ls :=
  par_nil_one (by intro e; subst e; simp at h1) fun b hb => (sm_bytes (of_decide_eq_true (List.all_eq_true.1 h b hb)).2).nn
theorem relPar_bd {ls : List (List Int)} {ys : List Int} {B : Bool} (h : relPar ls ys B) : ys.length ≤ 13 ∧ sm ys := by
  rcases h with ⟨a, rfl, _⟩ | ⟨_, rfl, _⟩
  · obtain ⟨h1, _, _⟩ := parB_all a
    have := par_facts sm_zero (by simp) h1 ls.length
    rw [List.take_length] at this
    exact ⟨this.2, this.1⟩
  · exact ⟨by simp, sm_nil⟩
set_option maxHeartbeats 2000000 in
theorem implParityOf (A : Option Addr) (c : Nat) (ls : List (List Int)) (ys : List Int) (B : Bool) (w : World) (hR : relPar ls ys B) (h : BodAt w A ls) (hm : ls.length ≤ 1048576) :
    Calls Try.prog 14 #[.slice A ls.length c] w (NewIntsB ys B w) := by
  have HH := hide h
  have HR := hide hR
  have KV := hide (bodiesValid_any A c ls w h (by omega))
  have KP := fun w h hb hm => parityWith_any A none c 0 ls [] w h (.inl rfl) sm_nil (by simp) hb hm
  obtain ⟨n, hn⟩ : ∃ n, ls.length = n := ⟨_, rfl⟩
  rw [hn] at hm KV KP ⊢
  have Hn := hide hn
  have HKP := hide KP
  clear h hR hn KP
  by_cases h1 : n < 1
  · obtain ⟨rfl, rfl⟩ := relPar_no HR.out (parB_no Hn.out (.inl h1))
    have g1 : (n : Int) < 1 := by omega
    clear HR
    go_enter Try.func14, Try.ntmps14
    go_wp2_with fail
    go_ret2
    exact newIntsB_nil (d := 0) rfl
  · have g1 : ¬ (n : Int) < 1 := by omega
    by_cases h2 : 8 < n
    · obtain ⟨rfl, rfl⟩ := relPar_no HR.out (parB_no Hn.out (.inr h2))
      have g2 : 8 < (n : Int) := by omega
      clear HR
      go_enter Try.func14, Try.ntmps14
      go_wp2_with fail
      go_ret2
      exact newIntsB_nil (d := 0) rfl
    · have g2 : ¬ 8 < (n : Int) := by omega
      by_cases h3 : ls.all bodyB = true
      · obtain ⟨rfl, rfl⟩ := relPar_yes HR.out (parB_yes Hn.out h1 h2 h3)
        have H3 := hide h3
        clear HR h3
        go_enter Try.func14, Try.ntmps14
        go_wp2_with (go_at_call 33; refine KV.out.mono ?_; rintro e w1 ⟨rfl, d, rfl⟩; rw [H3.out])
        refine (HKP.out _ (HH.out.drewN d) H3.out (by omega)).mono ?_
        rintro e w2 ⟨g, cp, rfl, hg, o2, b2⟩
        rw [par_nil_is H3.out (by rw [Hn.out]; omega)] at o2 ⊢
        have O2 := hide o2
        have B2 := hide b2
        clear o2 b2
        go_wp2_with fail
        go_ret2
        exact newIntsB_mk rfl rfl hg O2.out ((below_drewN' (Below.refl _ _) d).trans (B2.out.mono (Nat.le_refl _)))
      · have h3' : ls.all bodyB = false := by simpa using h3
        obtain ⟨rfl, rfl⟩ := relPar_no HR.out (parB_no2 h3')
        have H3 := hide h3'
        clear HR h3 h3'
        go_enter Try.func14, Try.ntmps14
        go_wp2_with (go_at_call 33; refine KV.out.mono ?_; rintro e w1 ⟨rfl, d, rfl⟩; rw [H3.out])
        go_ret2
        exact newIntsB_nil (d := d) rfl
set_option maxHeartbeats 2000000 in
theorem specParityOf (A : Option Addr) (c : Nat) (ls : List (List Int)) (ys : List Int) (B : Bool) (w : World) (hR : relPar ls ys B) (h : BodAt w A ls) (hm : ls.length ≤ 1048576) :
    Calls Try.prog 15 #[.slice A ls.length c] w (NewIntsB ys B w) := by
  have HH := hide h
  have HR := hide hR
  have KV := l16Bodies_any A c ls w h (by omega)
  have KP := fun w h hb hm => l16Parity_any A c ls w h hb hm
  obtain ⟨n, hn⟩ : ∃ n, ls.length = n := ⟨_, rfl⟩
  rw [hn] at hm KV KP ⊢
  have Hn := hide hn
  have HKP := hide KP
  clear h hR hn KP
  by_cases hv : (ls.all bodyB && decide (n ≤ 8)) = true
  · rw [hv] at KV
    have HV := hide KV
    rw [Bool.and_eq_true] at hv
    have h8 := of_decide_eq_true hv.2
    have H3 := hide hv.1
    clear KV hv
    by_cases h0 : n = 0
    · obtain ⟨rfl, rfl⟩ := relPar_no HR.out (parB_no Hn.out (.inl (by omega)))
      have e0 : ((n : Int) == 0) = true := by simp [h0]
      clear HR h0
      go_enter Try.func15, Try.ntmps15
      go_wp2_with (go_at_call 35; refine HV.out.mono ?_; rintro e w1 ⟨rfl, d, rfl⟩)
      go_ret2
      exact newIntsB_nil (d := d) rfl
    · obtain ⟨rfl, rfl⟩ := relPar_yes HR.out (parB_yes Hn.out (by omega) (by omega) H3.out)
      have e0 : ((n : Int) == 0) = false := by simp only [beq_eq_false_iff_ne, ne_eq]; omega
      clear HR
      go_enter Try.func15, Try.ntmps15
      go_wp2_with (go_at_call 35; refine HV.out.mono ?_; rintro e w1 ⟨rfl, d, rfl⟩)
      refine (HKP.out _ (HH.out.drewN d) H3.out (by omega)).mono ?_
      rintro e w2 ⟨g, cp, rfl, hg, o2, b2⟩
      have O2 := hide o2
      have B2 := hide b2
      clear o2 b2
      go_wp2_with fail
      go_ret2
      exact newIntsB_mk rfl rfl hg O2.out ((below_drewN' (Below.refl _ _) d).trans (B2.out.mono (Nat.le_refl _)))
  · have hv' : (ls.all bodyB && decide (n ≤ 8)) = false := by simpa only [Bool.not_eq_true] using hv
    rw [hv'] at KV
    have HV := hide KV
    have hno : parB ls = false := by
      by_cases h3 : ls.all bodyB = true
      · refine parB_no Hn.out (.inr ?_)
        rw [h3, Bool.true_and] at hv'
        have := of_decide_eq_false hv'
        omega
      · exact parB_no2 (by simpa using h3)
    obtain ⟨rfl, rfl⟩ := relPar_no HR.out hno
    clear KV hv hv' HR hno
    go_enter Try.func15, Try.ntmps15
    go_wp2_with (go_at_call 35; refine HV.out.mono ?_; rintro e w1 ⟨rfl, d, rfl⟩)
    go_ret2
    exact newIntsB_nil (d := d) rfl
end Go.Proofs.Ytppomcgkmjnpmaa
