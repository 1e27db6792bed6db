/- The plain law of missing numbers. -/
import Derived.Test.YticelpaicenbkaaPM
import Derived.Test.YticelpaicenbkaaL2
namespace Go.Proofs.Yticelpaicenbkaa
theorem getD_at {α : Type} {l : List α} {i : Nat} {d : α} (h : i < l.length) : l.getD i d = l[i] := by rw [List.getD_eq_getElem?_getD, List.getElem?_eq_getElem h]; rfl
def pkOK (x : VPacket) : Bool := pkB x.a0 x.a1 x.a2 x.a3
theorem pkOK_bd {x : VPacket} (h : pkOK x = true) : 0 ≤ x.a0 ∧ x.a0 ≤ 999999 := by
  have := of_decide_eq_true h
  omega
def pksT (zs : List VPacket) (k : Nat) : Prop := ∀ i, i < k → pkOK (zs.getD i default) = true ∧ (0 < i → (zs.getD (i - 1) default).a0 < (zs.getD i default).a0 ∧ (zs.getD (i - 1) default).a1 ≤ (zs.getD i default).a1)
instance (zs : List VPacket) (k : Nat) : Decidable (pksT zs k) := by unfold pksT; infer_instance
def pksB (zs : List VPacket) : Bool := decide (pksT zs zs.length ∧ zs.length ≤ 20)
def gap (a b : Int) : List Int := (List.range (b - a - 1).toNat).map fun j => a + 1 + (j : Nat)
def gaps (zs : List VPacket) (k : Nat) : List Int := ((List.range (k - 1)).map fun i => gap (zs.getD i default).a0 (zs.getD (i + 1) default).a0).flatten
theorem gaps_succ (zs : List VPacket) (k : Nat) (hk : 1 ≤ k) : gaps zs (k + 1) = gaps zs k ++ gap (zs.getD (k - 1) default).a0 (zs.getD k default).a0 := by
  unfold gaps
  obtain ⟨j, rfl⟩ : ∃ j, k = j + 1 := ⟨k - 1, by omega⟩
  simp [List.range_succ]
def missing (zs : List VPacket) : List Int := if pksB zs = true then (gaps zs zs.length).take 60 else []
theorem missing_length (zs : List VPacket) : (missing zs).length ≤ 60 := by
  unfold missing
  split
  · rw [List.length_take]; omega
  · simp
theorem pks_lt {zs : List VPacket} {n : Nat} (h : pksT zs n) : ∀ j i, i < j → j < n → (zs.getD i default).a0 < (zs.getD j default).a0 := by
  intro j
  induction j with
  | zero => intro i hi; omega
  | succ j ih =>
    intro i hi hj
    have h1 := ((h (j + 1) hj).2 (by omega)).1
    rw [Nat.add_sub_cancel] at h1
    by_cases hij : i = j
    · subst hij; exact h1
    · have := ih i (by omega) (by omega); omega
theorem gap_mem {a b y : Int} : y ∈ gap a b ↔ a < y ∧ y < b := by
  unfold gap
  simp only [List.mem_map, List.mem_range]
  constructor
  · rintro ⟨j, hj, rfl⟩; omega
  · rintro ⟨h1, h2⟩; exact ⟨(y - a - 1).toNat, by omega, by omega⟩
theorem gap_length (a b : Int) (h : a < b) : ((gap a b).length : Int) = b - a - 1 := by unfold gap; simp; omega
theorem gap_sorted (a b : Int) : (gap a b).Pairwise (· < ·) := by
  unfold gap
  rw [List.pairwise_map]
  exact List.Pairwise.imp (fun {x y} (h : x < y) => by omega) List.pairwise_lt_range
theorem gaps_all {zs : List VPacket} {n : Nat} (h : pksT zs n) (k : Nat) (h1 : 1 ≤ k) (hk : k ≤ n) :
    (gaps zs k).Pairwise (· < ·) ∧ (∀ y, y ∈ gaps zs k → (zs.getD 0 default).a0 < y ∧ y < (zs.getD (k - 1) default).a0 ∧ ∀ j, j < n → y ≠ (zs.getD j default).a0) ∧ ((gaps zs k).length : Int) = (zs.getD (k - 1) default).a0 - (zs.getD 0 default).a0 + 1 - k := by
  induction k with
  | zero => omega
  | succ k ih =>
    rcases Nat.eq_zero_or_pos k with rfl | hk0
    · refine ⟨by simp [gaps], by simp [gaps], ?_⟩
      simp [gaps]
    · obtain ⟨i1, i2, i3⟩ := ih hk0 (by omega)
      have hl := pks_lt h k (k - 1) (by omega) (by omega)
      have hm := fun j hj => pks_lt h (k - 1) j hj (by omega)
      have h00 : (zs.getD 0 default).a0 ≤ (zs.getD (k - 1) default).a0 := by
        by_cases e : k - 1 = 0
        · rw [e]; exact Int.le_refl _
        · have := hm 0 (by omega); omega
      rw [gaps_succ zs k hk0, Nat.add_sub_cancel]
      refine ⟨?_, ?_, ?_⟩
      · rw [List.pairwise_append]
        refine ⟨i1, gap_sorted _ _, fun x hx y hy => ?_⟩
        have a := (i2 x hx).2.1
        have b := gap_mem.1 hy
        omega
      · intro y hy
        rcases List.mem_append.1 hy with hy | hy
        · obtain ⟨a, b, c⟩ := i2 y hy
          exact ⟨a, by omega, c⟩
        · have b := gap_mem.1 hy
          refine ⟨by omega, by omega, fun j hj => ?_⟩
          by_cases hjk : j < k
          · have : (zs.getD j default).a0 ≤ (zs.getD (k - 1) default).a0 := by
              by_cases e : j = k - 1
              · rw [e]; exact Int.le_refl _
              · have := hm j (by omega); omega
            omega
          · have : (zs.getD k default).a0 ≤ (zs.getD j default).a0 := by
              by_cases e : j = k
              · rw [e]; exact Int.le_refl _
              · have := pks_lt h j k (by omega) hj; omega
            omega
      · rw [List.length_append, Int.natCast_add, i3, gap_length _ _ hl]
        omega
theorem missing_facts {zs : List VPacket} {i : Nat} (hi : i < (missing zs).length) : pksB zs = true ∧ 1 ≤ zs.length ∧ (zs.getD 0 default).a0 < (missing zs).getD i 0 ∧ (missing zs).getD i 0 < (zs.getD (zs.length - 1) default).a0 ∧ (∀ j, j < zs.length → (zs.getD j default).a0 ≠ (missing zs).getD i 0) ∧ (0 < i → (missing zs).getD (i - 1) 0 < (missing zs).getD i 0) := by
  by_cases hb : pksB zs = true
  · have e : missing zs = (gaps zs zs.length).take 60 := by unfold missing; rw [if_pos hb]
    rw [e] at hi ⊢
    have hl : 1 ≤ zs.length := by
      rcases Nat.eq_zero_or_pos zs.length with h0 | h0
      · rw [h0] at hi; simp [gaps] at hi
      · exact h0
    obtain ⟨s1, s2, _⟩ := gaps_all (of_decide_eq_true hb).1 zs.length hl (Nat.le_refl _)
    have hx : ((gaps zs zs.length).take 60).getD i 0 = ((gaps zs zs.length).take 60)[i] := getD_at hi
    have hm := s2 _ (List.mem_of_mem_take (List.getElem_mem hi))
    rw [hx]
    refine ⟨hb, hl, hm.1, hm.2.1, fun j hj => Ne.symm (hm.2.2 j hj), fun h0 => ?_⟩
    have hx2 : ((gaps zs zs.length).take 60).getD (i - 1) 0 = ((gaps zs zs.length).take 60)[i - 1]'(by omega) := getD_at (by omega)
    rw [hx2]
    exact List.pairwise_iff_getElem.1 (List.Pairwise.sublist (List.take_sublist _ _) s1) (i - 1) i _ _ (by omega)
  · unfold missing at hi
    rw [if_neg hb] at hi
    simp at hi
theorem missing_count {zs : List VPacket} (hb : pksB zs = true) (hl : 1 ≤ zs.length) : ((missing zs).length : Int) = min ((zs.getD (zs.length - 1) default).a0 - (zs.getD 0 default).a0 + 1 - zs.length) 60 := by
  obtain ⟨_, _, s3⟩ := gaps_all (of_decide_eq_true hb).1 zs.length hl (Nat.le_refl _)
  unfold missing
  rw [if_pos hb, List.length_take, ← s3]
  omega
theorem missing_one (zs : List VPacket) (h : zs.length ≤ 1) : missing zs = [] := by
  unfold missing
  split
  · unfold gaps
    rw [show zs.length - 1 = 0 by omega]
    rfl
  · rfl
theorem missing_two (x : VPacket) (hx : pkOK x = true) (h : x.a0 + 2 ≤ 999999) : missing [x, { x with a0 := x.a0 + 2 }] = [x.a0 + 1] := by
  have hb := of_decide_eq_true hx
  have hb : pksB [x, { x with a0 := x.a0 + 2 }] = true := by
    refine decide_eq_true ⟨fun i hi => ?_, by simp⟩
    rcases (show i = 0 ∨ i = 1 from by simp at hi; omega) with rfl | rfl
    · exact ⟨hx, fun h => by omega⟩
    · refine ⟨decide_eq_true ?_, fun _ => ⟨?_, ?_⟩⟩
      · show 0 ≤ x.a0 + 2 ∧ x.a0 + 2 ≤ 999999 ∧ 0 ≤ x.a1 ∧ x.a1 ≤ 99999 ∧ 0 ≤ x.a2 ∧ x.a2 ≤ 2 ∧ 1 ≤ x.a3 ∧ x.a3 ≤ 1500
        omega
      · show x.a0 < x.a0 + 2; omega
      · show x.a1 ≤ x.a1; omega
  unfold missing
  rw [if_pos hb]
  have : gap x.a0 (x.a0 + 2) = [x.a0 + 1] := by
    unfold gap
    rw [show (x.a0 + 2 - x.a0 - 1).toNat = 1 by omega]
    simp
  show (gap x.a0 (x.a0 + 2) ++ []).take 60 = _
  rw [this]
  rfl
/-- The first m numbers of a gap; what has been collected so far. -/
def part (zs : List VPacket) (k m : Nat) : List Int := gaps zs k ++ (List.range m).map fun j => (zs.getD (k - 1) default).a0 + 1 + (j : Nat)
theorem part_zero (zs : List VPacket) (k : Nat) : part zs k 0 = gaps zs k := by simp [part]
theorem part_succ (zs : List VPacket) (k m : Nat) : part zs k (m + 1) = part zs k m ++ [(zs.getD (k - 1) default).a0 + 1 + (m : Nat)] := by simp [part, List.range_succ]
theorem part_full (zs : List VPacket) (k m : Nat) (hk : 1 ≤ k) (hm : (m : Int) = (zs.getD k default).a0 - (zs.getD (k - 1) default).a0 - 1) : part zs k m = gaps zs (k + 1) := by
  rw [gaps_succ zs k hk]
  unfold part gap
  rw [show ((zs.getD k default).a0 - (zs.getD (k - 1) default).a0 - 1).toNat = m by omega]
theorem gaps_prefix (zs : List VPacket) (k n : Nat) (hk : 1 ≤ k) (h : k ≤ n) : ∃ r, gaps zs n = gaps zs k ++ r := by
  obtain ⟨j, rfl⟩ : ∃ j, n = k + j := ⟨n - k, by omega⟩
  clear h
  induction j with
  | zero => exact ⟨[], by simp⟩
  | succ j ih =>
    obtain ⟨r, hr⟩ := ih
    rw [← Nat.add_assoc, gaps_succ zs (k + j) (by omega), hr, List.append_assoc]
    exact ⟨_, rfl⟩
theorem part_prefix (zs : List VPacket) (k m n : Nat) (hk : 1 ≤ k) (hn : k < n) (hm : (m : Int) ≤ (zs.getD k default).a0 - (zs.getD (k - 1) default).a0 - 1) : ∃ r, gaps zs n = part zs k m ++ r := by
  obtain ⟨r, hr⟩ := gaps_prefix zs (k + 1) n (by omega) hn
  rw [hr, gaps_succ zs k hk]
  have e : gap (zs.getD (k - 1) default).a0 (zs.getD k default).a0 = ((List.range m).map fun j => (zs.getD (k - 1) default).a0 + 1 + (j : Nat)) ++ (gap (zs.getD (k - 1) default).a0 (zs.getD k default).a0).drop m := by
    have h1 : (gap (zs.getD (k - 1) default).a0 (zs.getD k default).a0).take m = (List.range m).map fun j => (zs.getD (k - 1) default).a0 + 1 + (j : Nat) := by
      unfold gap
      rw [← List.map_take, List.take_range, show min m ((zs.getD k default).a0 - (zs.getD (k - 1) default).a0 - 1).toNat = m by omega]
    rw [← h1, List.take_append_drop]
  rw [e]
  unfold part
  simp only [List.append_assoc]
  exact ⟨_, rfl⟩
/-- Sixty have been collected: they are all that is told. -/
theorem take_part {zs : List VPacket} {k m : Nat} (hk : 1 ≤ k) (hn : k < zs.length) (hm : (m : Int) ≤ (zs.getD k default).a0 - (zs.getD (k - 1) default).a0 - 1) (hl : (part zs k m).length = 60) (hb : pksB zs = true) : missing zs = part zs k m := by
  obtain ⟨r, hr⟩ := part_prefix zs k m zs.length hk hn hm
  unfold missing
  rw [if_pos hb, hr, ← hl, List.take_left']
  rfl
end Go.Proofs.Yticelpaicenbkaa
