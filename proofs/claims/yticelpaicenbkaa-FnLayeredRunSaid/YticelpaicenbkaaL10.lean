/- The plain law of layers that are run through packets. -/
import Derived.Test.YticelpaicenbkaaL6
namespace Go.Proofs.Yticelpaicenbkaa
--START
theorem runL_zero (a b : Int) (zs : List VPacket) : runL a b zs 0 = (a, []) := by simp [runL]
theorem runL_ind (a b : Int) (zs : List VPacket) (P : Nat → Int → List VPacket → Prop) (h0 : P 0 a [])
    (h1 : ∀ k n ys, k < zs.length → P k n ys → P (k + 1) (stepN n b (zs.getD k default).a2 (zs.getD k default).a4) (if (zs.getD k default).a2 == stepN n b (zs.getD k default).a2 (zs.getD k default).a4 then ys ++ [zs.getD k default] else ys)) :
    ∀ k, k ≤ zs.length → P k (runL a b zs k).1 (runL a b zs k).2 := by
  intro k
  induction k with
  | zero => intro _; rw [runL_zero]; exact h0
  | succ k ih =>
    intro hk
    rw [runL_succ a b zs k (by omega)]
    exact h1 k _ _ (by omega) (ih (by omega))
theorem getD_snoc {ys : List VPacket} {x : VPacket} {i : Nat} (h : i < (ys ++ [x]).length) : (i < ys.length ∧ (ys ++ [x]).getD i default = ys.getD i default) ∨ (i = ys.length ∧ (ys ++ [x]).getD i default = x) := by
  rw [List.length_append, List.length_singleton] at h
  by_cases hi : i < ys.length
  · exact .inl ⟨hi, by simp [List.getD_eq_getElem?_getD, List.getElem?_append_left hi]⟩
  · have : i = ys.length := by omega
    subst this
    exact .inr ⟨rfl, by simp [List.getD_eq_getElem?_getD]⟩
theorem step_or (n b ly : Int) (ky : Bool) : stepN n b ly ky = n ∨ (stepN n b ly ky = b ∧ ly = b ∧ ky = true) := by
  unfold stepN
  split
  · rename_i h; exact .inr ⟨rfl, h.1, h.2⟩
  · exact .inl rfl
/-- Where the layer stands, and what was forwarded. -/
theorem run_two (a b : Int) (zs : List VPacket) (k : Nat) (hk : k ≤ zs.length) :
    ((runL a b zs k).1 = a ∨ (runL a b zs k).1 = b) ∧ (∀ i, i < (runL a b zs k).2.length → (((runL a b zs k).2.getD i default).a2 = a ∨ ((runL a b zs k).2.getD i default).a2 = b) ∧ (((runL a b zs k).2.getD i default).a2 = b → (runL a b zs k).1 = b ∧ ∀ j, i ≤ j → j < (runL a b zs k).2.length → ((runL a b zs k).2.getD j default).a2 = b)) := by
  refine runL_ind a b zs (fun _ n ys => (n = a ∨ n = b) ∧ (∀ i, i < ys.length → ((ys.getD i default).a2 = a ∨ (ys.getD i default).a2 = b) ∧ ((ys.getD i default).a2 = b → n = b ∧ ∀ j, i ≤ j → j < ys.length → (ys.getD j default).a2 = b))) ⟨.inl rfl, fun i hi => absurd hi (by simp)⟩ ?_ k hk
  intro k n ys _ ⟨hn, hy⟩
  obtain ⟨x, hx⟩ : ∃ x, zs.getD k default = x := ⟨_, rfl⟩
  rw [hx]
  obtain ⟨m, hm⟩ : ∃ m, stepN n b x.a2 x.a4 = m := ⟨_, rfl⟩
  have hs := step_or n b x.a2 x.a4
  rw [hm] at hs ⊢
  have hmab : m = a ∨ m = b := by rcases hs with h | h <;> omega
  have hnm : n = b → m = b := by intro h; rcases hs with h' | h' <;> omega
  refine ⟨hmab, ?_⟩
  split
  · rename_i he
    have he : x.a2 = m := by simpa using he
    intro i hi
    rcases getD_snoc hi with ⟨h1, e1⟩ | ⟨h1, e1⟩
    · rw [e1]
      obtain ⟨u1, u2⟩ := hy i h1
      refine ⟨u1, fun hb => ?_⟩
      obtain ⟨v1, v2⟩ := u2 hb
      refine ⟨hnm v1, fun j hj hjl => ?_⟩
      rcases getD_snoc hjl with ⟨h2, e2⟩ | ⟨h2, e2⟩
      · rw [e2]; exact v2 j hj h2
      · rw [e2, he]; exact hnm v1
    · rw [e1, he]
      refine ⟨hmab, fun hb => ⟨hb, fun j hj hjl => ?_⟩⟩
      rcases getD_snoc hjl with ⟨h2, e2⟩ | ⟨h2, e2⟩
      · omega
      · rw [e2, he]; exact hb
  · intro i hi
    obtain ⟨u1, u2⟩ := hy i hi
    exact ⟨u1, fun hb => ⟨hnm (u2 hb).1, (u2 hb).2⟩⟩
/-- What was forwarded changes its layer with a whole picture only. -/
theorem run_key (a b : Int) (zs : List VPacket) (k : Nat) (hk : k ≤ zs.length) :
    ∀ i, i < (runL a b zs k).2.length → 0 < i → ((runL a b zs k).2.getD i default).a2 = ((runL a b zs k).2.getD (i - 1) default).a2 ∨ ((runL a b zs k).2.getD i default).a4 = true := by
  refine (runL_ind a b zs (fun _ n ys => (∀ i, i < ys.length → 0 < i → (ys.getD i default).a2 = (ys.getD (i - 1) default).a2 ∨ (ys.getD i default).a4 = true) ∧ (0 < ys.length → (ys.getD (ys.length - 1) default).a2 = n)) ⟨fun i hi => absurd hi (by simp), fun h => absurd h (by simp)⟩ ?_ k hk).1
  intro k n ys _ ⟨hy, hl⟩
  obtain ⟨x, hx⟩ : ∃ x, zs.getD k default = x := ⟨_, rfl⟩
  rw [hx]
  obtain ⟨m, hm⟩ : ∃ m, stepN n b x.a2 x.a4 = m := ⟨_, rfl⟩
  have hs := step_or n b x.a2 x.a4
  rw [hm] at hs ⊢
  split
  · rename_i he
    have he : x.a2 = m := by simpa using he
    refine ⟨fun i hi h0 => ?_, fun _ => ?_⟩
    · rcases getD_snoc hi with ⟨h1, e1⟩ | ⟨h1, e1⟩
      · rcases getD_snoc (ys := ys) (x := x) (i := i - 1) (by rw [List.length_append]; omega) with ⟨h2, e2⟩ | ⟨h2, e2⟩
        · rw [e1, e2]; exact hy i h1 h0
        · omega
      · rcases getD_snoc (ys := ys) (x := x) (i := i - 1) (by rw [List.length_append]; omega) with ⟨h2, e2⟩ | ⟨h2, e2⟩
        · rw [e1, e2]
          rw [h1, hl (by omega)]
          rcases hs with h | h
          · exact .inl (by omega)
          · exact .inr h.2.2
        · omega
    · rw [List.length_append, List.length_singleton, Nat.add_sub_cancel]
      rcases getD_snoc (ys := ys) (x := x) (i := ys.length) (by simp) with ⟨h2, _⟩ | ⟨_, e2⟩
      · omega
      · rw [e2, he]
  · rename_i he
    have he : ¬ x.a2 = m := by simpa using he
    refine ⟨hy, fun h => ?_⟩
    rw [hl h]
    rcases hs with h' | h' <;> omega
theorem run_prefix (a b : Int) (zs : List VPacket) (k : Nat) : ∀ d, k + d ≤ zs.length → (runL a b zs k).2 <+: (runL a b zs (k + d)).2 := by
  intro d
  induction d with
  | zero => intro _; exact List.prefix_refl _
  | succ d ih =>
    intro h
    refine (ih (by omega)).trans ?_
    rw [show k + (d + 1) = (k + d) + 1 from rfl, runL_succ a b zs (k + d) (by omega)]
    unfold runS
    dsimp only
    split
    · exact List.prefix_append _ _
    · exact List.prefix_refl _
/-- The packet at hand is the next one of all that are forwarded, if it is forwarded. -/
theorem run_next (a b : Int) (zs : List VPacket) (k : Nat) (hk : k < zs.length) (h : ((zs.getD k default).a2 == stepN (runL a b zs k).1 b (zs.getD k default).a2 (zs.getD k default).a4) = true) :
    (runL a b zs k).2.length < (runL a b zs zs.length).2.length ∧ (runL a b zs zs.length).2.getD (runL a b zs k).2.length default = zs.getD k default := by
  have hp := run_prefix a b zs (k + 1) (zs.length - (k + 1)) (by omega)
  rw [show k + 1 + (zs.length - (k + 1)) = zs.length by omega] at hp
  have hs : (runL a b zs (k + 1)).2 = (runL a b zs k).2 ++ [zs.getD k default] := by
    rw [runL_succ a b zs k hk]
    unfold runS
    dsimp only
    rw [if_pos h]
  rw [hs] at hp
  obtain ⟨t, ht⟩ := hp
  rw [← ht]
  refine ⟨by simp, ?_⟩
  simp [List.getD_eq_getElem?_getD]
/-- What was forwarded of packets is packets. -/
theorem pks_gt {zs : List VPacket} {n : Nat} (h : pksT zs n) : ∀ j i, i < j → j < n → (zs.getD i default).a0 < (zs.getD j default).a0 ∧ (zs.getD i default).a1 ≤ (zs.getD j default).a1 := by
  intro j
  induction j with
  | zero => intro i hi; omega
  | succ j ih =>
    intro i hi hj
    have h1 := (h (j + 1) hj).2 (by omega)
    rw [Nat.add_sub_cancel] at h1
    by_cases hij : i = j
    · subst hij; exact h1
    · have h2 := ih i (by omega) (by omega)
      omega
theorem run_pks (a b : Int) (zs : List VPacket) (h : pksB zs = true) : pksB (runL a b zs zs.length).2 = true := by
  obtain ⟨hz, hl⟩ := of_decide_eq_true h
  refine decide_eq_true ⟨?_, Nat.le_trans (runL_len a b zs zs.length) hl⟩
  refine (runL_ind a b zs (fun k _ ys => pksT ys ys.length ∧ ∀ i, i < ys.length → ∀ j, k ≤ j → j < zs.length → (ys.getD i default).a0 < (zs.getD j default).a0 ∧ (ys.getD i default).a1 ≤ (zs.getD j default).a1) ⟨fun i hi => absurd hi (by simp), fun i hi => absurd hi (by simp)⟩ ?_ zs.length (Nat.le_refl _)).1
  intro k n ys hk ⟨hy, hg⟩
  have hok := (hz k hk).1
  split
  · obtain ⟨x, hx⟩ : ∃ x, zs.getD k default = x := ⟨_, rfl⟩
    rw [hx] at hok
    have hxg : ∀ j, k + 1 ≤ j → j < zs.length → x.a0 < (zs.getD j default).a0 ∧ x.a1 ≤ (zs.getD j default).a1 := by
      intro j h1 h2
      rw [← hx]
      exact pks_gt hz j k (by omega) h2
    have hyx : ∀ i, i < ys.length → (ys.getD i default).a0 < x.a0 ∧ (ys.getD i default).a1 ≤ x.a1 := by
      intro i hi
      rw [← hx]
      exact hg i hi k (Nat.le_refl _) hk
    rw [hx]
    refine ⟨fun i hi => ?_, fun i hi j hj hjl => ?_⟩
    · rcases getD_snoc hi with ⟨h1, e1⟩ | ⟨h1, e1⟩
      · rw [e1]
        refine ⟨(hy i h1).1, fun h0 => ?_⟩
        rcases getD_snoc (ys := ys) (x := x) (i := i - 1) (by rw [List.length_append]; omega) with ⟨h2, e2⟩ | ⟨h2, e2⟩
        · rw [e2]; exact (hy i h1).2 h0
        · omega
      · rw [e1]
        refine ⟨hok, fun h0 => ?_⟩
        rcases getD_snoc (ys := ys) (x := x) (i := i - 1) (by rw [List.length_append]; omega) with ⟨h2, e2⟩ | ⟨h2, e2⟩
        · rw [e2]; exact hyx _ h2
        · omega
    · rcases getD_snoc hi with ⟨h1, e1⟩ | ⟨h1, e1⟩
      · rw [e1]; exact hg i h1 j (by omega) hjl
      · rw [e1]; exact hxg j hj hjl
  · exact ⟨hy, fun i hi j hj => hg i hi j (by omega)⟩
--END
end Go.Proofs.Yticelpaicenbkaa
