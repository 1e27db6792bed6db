/- The plain law of nacks: what asks for ascending numbers asks for just these. -/
import Derived.Test.YtibedadmogadhaaNM
namespace Go.Proofs.Ytibedadmogadhaa
def nkAdd (out : List VNack) (x : Int) : List VNack :=
  match out.getLast? with
  | none => out ++ [⟨x, 0⟩]
  | some n => if 16 < x - n.a0 then out ++ [⟨x, 0⟩] else out.set (out.length - 1) ⟨n.a0, n.a1 + 2 ^ (x - n.a0 - 1).toNat⟩
def nk (zs : List Int) : List VNack := zs.foldl nkAdd []
theorem nk_snoc (zs : List Int) (x : Int) : nk (zs ++ [x]) = nkAdd (nk zs) x := by simp [nk]
def okA (zs : List Int) (k : Nat) : Prop := ∀ i, i < k → 0 ≤ zs.getD i 0 ∧ zs.getD i 0 ≤ 999999 ∧ (0 < i → zs.getD (i - 1) 0 < zs.getD i 0)
instance (zs : List Int) (k : Nat) : Decidable (okA zs k) := by unfold okA; infer_instance
def exB (m : Int) (k : Nat) : Bool := m / 2 ^ k % 2 == 1
def expandTo (n : VNack) (k : Nat) : List Int := n.a0 :: ((List.range k).filter fun i => exB n.a1 i).map fun i => n.a0 + 1 + (i : Nat)
def expand (n : VNack) : List Int := expandTo n 16
def expands (ns : List VNack) : List Int := (ns.map expand).flatten
def nackB (n : VNack) : Bool := decide (0 ≤ n.a0 ∧ n.a0 ≤ 999999 ∧ 0 ≤ n.a1 ∧ n.a1 < 65536)

theorem pow_le {a b : Nat} (h : a ≤ b) : (2 : Int) ^ a ≤ 2 ^ b := by
  have h1 : (2 : Nat) ^ a ≤ 2 ^ b := Nat.pow_le_pow_right (by omega) h
  have h2 : (((2 : Nat) ^ a : Nat) : Int) ≤ (((2 : Nat) ^ b : Nat) : Int) := by exact_mod_cast h1
  simpa [Int.natCast_pow] using h2
theorem pow_pos (a : Nat) : (0 : Int) < 2 ^ a := by
  have := pow_le (Nat.zero_le a)
  simp at this; omega
/-- A bit that is added above all others. -/
theorem exB_add (m : Int) (d i : Nat) (h0 : 0 ≤ m) (h1 : m < 2 ^ d) : exB (m + 2 ^ d) i = if i = d then true else exB m i := by
  have hd := pow_pos d
  have hi := pow_pos i
  unfold exB
  rcases Nat.lt_trichotomy i d with h | h | h
  · rw [if_neg (by omega)]
    have e : (2 : Int) ^ d = 2 ^ i * (2 * 2 ^ (d - i - 1)) := by
      rw [← Int.mul_assoc, Int.mul_comm (2 ^ i) 2, ← Int.pow_succ', ← Int.pow_add]
      congr 1; omega
    rw [e, Int.add_mul_ediv_left _ _ (by omega), Int.add_mul_emod_self_left]
  · subst h
    rw [if_pos rfl]
    have e : (m + 2 ^ i) / 2 ^ i = 1 := by
      have := Int.add_mul_ediv_left m 1 (show (2:Int) ^ i ≠ 0 by omega)
      rw [Int.mul_one] at this
      rw [this, Int.ediv_eq_zero_of_lt h0 h1]; rfl
    rw [e]; rfl
  · rw [if_neg (by omega)]
    have hle := pow_le (show d + 1 ≤ i by omega)
    rw [Int.pow_succ] at hle
    rw [Int.ediv_eq_zero_of_lt (by omega) (by omega), Int.ediv_eq_zero_of_lt h0 (by omega)]
theorem exB_high (m : Int) (d i : Nat) (h0 : 0 ≤ m) (h1 : m < 2 ^ d) (h : d ≤ i) : exB m i = false := by
  have hle := pow_le h
  unfold exB
  rw [Int.ediv_eq_zero_of_lt h0 (by omega)]; rfl
theorem filter_none {p : Nat → Bool} {l : List Nat} (h : ∀ i, i ∈ l → p i = false) : l.filter p = [] := by
  simpa using h
theorem filter_cut (p : Nat → Bool) (d k : Nat) (hd : d ≤ k) (h : ∀ i, d ≤ i → p i = false) : (List.range k).filter p = (List.range d).filter p := by
  obtain ⟨j, rfl⟩ : ∃ j, k = d + j := ⟨k - d, by omega⟩
  rw [List.range_add, List.filter_append, filter_none (l := (List.range j).map (d + ·)), List.append_nil]
  intro i hi
  simp at hi
  obtain ⟨a, _, rfl⟩ := hi
  exact h _ (by omega)
theorem expand_add (b m : Int) (d : Nat) (hd : d < 16) (h0 : 0 ≤ m) (h1 : m < 2 ^ d) : expand ⟨b, m + 2 ^ d⟩ = expand ⟨b, m⟩ ++ [b + 1 + (d : Nat)] := by
  have e1 : (List.range 16).filter (fun i => exB (m + 2 ^ d) i) = (List.range d).filter (fun i => exB m i) ++ [d] := by
    rw [filter_cut _ (d + 1) 16 (by omega) fun i hi => by rw [exB_add m d i h0 h1, if_neg (by omega)]; exact exB_high m d i h0 h1 (by omega)]
    rw [List.range_succ, List.filter_append]
    congr 1
    · apply List.filter_congr
      intro i hi
      simp at hi
      rw [exB_add m d i h0 h1, if_neg (by omega)]
    · simp [exB_add m d d h0 h1]
  have e2 : (List.range 16).filter (fun i => exB m i) = (List.range d).filter (fun i => exB m i) := filter_cut _ d 16 (by omega) fun i hi => exB_high m d i h0 h1 hi
  unfold expand expandTo
  simp only [e1, e2]
  simp
theorem expand_zero (b : Int) : expand ⟨b, 0⟩ = [b] := by
  unfold expand expandTo
  rw [filter_none]
  · rfl
  · intro i _
    simp [exB]
/-- What holds of the nacks of k ascending numbers. -/
structure NkInv (zs : List Int) : Prop where
  last : zs ≠ [] → ∃ front n, nk zs = front ++ [n] ∧ 0 ≤ n.a0 ∧ n.a0 ≤ zs.getLast?.getD 0 ∧ zs.getLast?.getD 0 ≤ n.a0 + 16 ∧ 0 ≤ n.a1 ∧ n.a1 < 2 ^ (zs.getLast?.getD 0 - n.a0).toNat
  ex : expands (nk zs) = zs
  ok : ∀ n, n ∈ nk zs → nackB n = true
  len : (nk zs).length ≤ zs.length
  gap : ∀ i, i + 1 < (nk zs).length → 16 < ((nk zs).getD (i + 1) default).a0 - ((nk zs).getD i default).a0
theorem okA_take {zs : List Int} {x : Int} (h : okA (zs ++ [x]) (zs.length + 1)) : okA zs zs.length ∧ 0 ≤ x ∧ x ≤ 999999 ∧ (zs ≠ [] → zs.getLast?.getD 0 < x) := by
  refine ⟨fun i hi => ?_, ?_⟩
  · have := h i (by omega)
    have e1 : (zs ++ [x]).getD i 0 = zs.getD i 0 := by simp [List.getD_eq_getElem?_getD, List.getElem?_append, hi]
    have e2 : (zs ++ [x]).getD (i - 1) 0 = zs.getD (i - 1) 0 := by simp [List.getD_eq_getElem?_getD, List.getElem?_append, show i - 1 < zs.length by omega]
    rw [e1, e2] at this
    exact this
  · have := h zs.length (by omega)
    have e1 : (zs ++ [x]).getD zs.length 0 = x := by simp [List.getD_eq_getElem?_getD]
    rw [e1] at this
    refine ⟨this.1, this.2.1, fun hne => ?_⟩
    have hl : 0 < zs.length := List.length_pos_iff.2 hne
    have h3 := this.2.2 hl
    rwa [show (zs ++ [x]).getD (zs.length - 1) 0 = zs.getLast?.getD 0 from by simp [List.getD_eq_getElem?_getD, List.getElem?_append, show zs.length - 1 < zs.length by omega, List.getLast?_eq_getElem?]] at h3
theorem expands_snoc (ns : List VNack) (n : VNack) : expands (ns ++ [n]) = expands ns ++ expand n := by simp [expands]
theorem set_last (front : List VNack) (n m : VNack) : (front ++ [n]).set ((front ++ [n]).length - 1) m = front ++ [m] := by
  rw [show (front ++ [n]).length - 1 = front.length by simp, List.set_append_right _ _ (by omega)]
  simp
theorem snoc_ind {α : Type} {P : List α → Prop} (h0 : P []) (h1 : ∀ l x, P l → P (l ++ [x])) (l : List α) : P l := by
  have : ∀ n (l : List α), l.length = n → P l := by
    intro n
    induction n with
    | zero => intro l h; rw [List.eq_nil_of_length_eq_zero h]; exact h0
    | succ n ih =>
      intro l h
      have hne : l ≠ [] := by intro e; subst e; simp at h
      rw [← List.dropLast_concat_getLast hne]
      exact h1 _ _ (ih _ (by simp; omega))
  exact this _ l rfl
theorem nkAdd_new {out : List VNack} {x : Int} (h : out = [] ∨ ∃ front n, out = front ++ [n] ∧ 16 < x - n.a0) : nkAdd out x = out ++ [⟨x, 0⟩] := by
  rcases h with rfl | ⟨front, n, rfl, h⟩
  · rfl
  · simp [nkAdd, h]
theorem nkAdd_old {front : List VNack} {n : VNack} {x : Int} (h : ¬ 16 < x - n.a0) : nkAdd (front ++ [n]) x = front ++ [⟨n.a0, n.a1 + 2 ^ (x - n.a0 - 1).toNat⟩] := by
  have : (front ++ [n]).getLast? = some n := by simp
  unfold nkAdd
  rw [this]
  simp only [h, if_false]
  exact set_last _ _ _
theorem last_snoc (zs : List Int) (x : Int) : (zs ++ [x]).getLast?.getD 0 = x := by simp
theorem nk_inv (zs : List Int) : okA zs zs.length → NkInv zs := by
  refine snoc_ind (P := fun zs => okA zs zs.length → NkInv zs) ?_ ?_ zs
  · intro _
    exact ⟨fun h => absurd rfl h, rfl, fun n hn => by simp [nk] at hn, by simp [nk], fun i hi => by simp [nk] at hi⟩
  · intro zs x ih h
    rw [List.length_append] at h
    obtain ⟨h1, x0, x1, hx⟩ := okA_take h
    have I := ih h1
    by_cases hnew : nk zs = [] ∨ ∃ front n, nk zs = front ++ [n] ∧ 16 < x - n.a0
    · have e : nk (zs ++ [x]) = nk zs ++ [⟨x, 0⟩] := (nk_snoc zs x).trans (nkAdd_new hnew)
      refine ⟨fun _ => ⟨nk zs, ⟨x, 0⟩, e, x0, ?_⟩, ?_, ?_, ?_, ?_⟩
      · rw [last_snoc]
        exact ⟨Int.le_refl _, by show x ≤ x + 16; omega, Int.le_refl _, pow_pos _⟩
      · rw [e, expands_snoc, I.ex, expand_zero]
      · intro n hn
        rw [e] at hn
        rcases List.mem_append.1 hn with hn | hn
        · exact I.ok n hn
        · simp at hn; subst hn; exact decide_eq_true ⟨x0, x1, by show (0:Int) ≤ 0; omega, by show (0:Int) < 65536; omega⟩
      · rw [e]; have := I.len; simp; omega
      · intro i hi
        rw [e] at hi ⊢
        simp at hi
        by_cases hl : i + 1 < (nk zs).length
        · have := I.gap i hl
          simpa [List.getD_eq_getElem?_getD, List.getElem?_append, hl, show i < (nk zs).length by omega] using this
        · have hi' : i + 1 = (nk zs).length := by omega
          rcases hnew with h0 | ⟨front, n, h0, hgt⟩
          · rw [h0] at hi'; simp at hi'
          · have hf : i = front.length := by rw [h0] at hi'; simp at hi'; omega
            rw [h0]
            subst hf
            simpa [List.getD_eq_getElem?_getD, List.getElem?_append] using hgt
    · have hzs : zs ≠ [] := by rintro rfl; exact hnew (.inl rfl)
      obtain ⟨front, n, e0, n0, n1, n2, n3, n4⟩ := I.last hzs
      have hgt : ¬ 16 < x - n.a0 := fun hgt => hnew (.inr ⟨front, n, e0, hgt⟩)
      have hlt := hx hzs
      have e : nk (zs ++ [x]) = front ++ [⟨n.a0, n.a1 + 2 ^ (x - n.a0 - 1).toNat⟩] := by rw [nk_snoc, e0, nkAdd_old hgt]
      have hd : n.a1 < 2 ^ (x - n.a0 - 1).toNat := Int.lt_of_lt_of_le n4 (pow_le (by omega))
      have hp := pow_pos (x - n.a0 - 1).toNat
      have hs : (2 : Int) ^ (x - n.a0).toNat = 2 ^ (x - n.a0 - 1).toNat * 2 := by rw [← Int.pow_succ]; congr 1; omega
      have h16 : (2 : Int) ^ (x - n.a0 - 1).toNat ≤ 2 ^ 15 := pow_le (by omega)
      have hnb := I.ok n (by rw [e0]; simp)
      have hnb := of_decide_eq_true hnb
      refine ⟨fun _ => ⟨front, _, e, n0, ?_⟩, ?_, ?_, ?_, ?_⟩
      · rw [last_snoc]
        refine ⟨by show n.a0 ≤ x; omega, by show x ≤ n.a0 + 16; omega, by show 0 ≤ n.a1 + 2 ^ (x - n.a0 - 1).toNat; omega, ?_⟩
        show n.a1 + 2 ^ (x - n.a0 - 1).toNat < _
        rw [hs]; omega
      · have h2 := I.ex
        rw [e0, expands_snoc] at h2
        rw [e, expands_snoc, expand_add n.a0 n.a1 _ (by omega) n3 hd, ← List.append_assoc, show (⟨n.a0, n.a1⟩ : VNack) = n from rfl, h2]
        congr 2
        omega
      · intro m hm
        rw [e] at hm
        rcases List.mem_append.1 hm with hm | hm
        · exact I.ok m (by rw [e0]; exact List.mem_append_left _ hm)
        · rw [List.mem_singleton] at hm; subst hm
          refine decide_eq_true ⟨n0, hnb.2.1, by show 0 ≤ n.a1 + 2 ^ (x - n.a0 - 1).toNat; omega, ?_⟩
          show n.a1 + 2 ^ (x - n.a0 - 1).toNat < 65536
          have : (2:Int)^15 = 32768 := by decide
          omega
      · rw [e]; have := I.len; rw [e0] at this; simp at this ⊢; omega
      · intro i hi
        rw [e] at hi ⊢
        simp at hi
        have := I.gap i (by rw [e0]; simpa using hi)
        rw [e0] at this
        by_cases hl : i + 1 < front.length
        · simpa [List.getD_eq_getElem?_getD, List.getElem?_append, hl, show i < front.length by omega] using this
        · have hi' : i + 1 = front.length := by omega
          simpa [List.getD_eq_getElem?_getD, List.getElem?_append, hi', show i < front.length by omega] using this
theorem nkAdd_prefix (out : List VNack) (x : Int) : (nkAdd out x).length - 1 ≤ out.length ∧ (nkAdd out x).take ((nkAdd out x).length - 1) = out.take ((nkAdd out x).length - 1) ∧ 1 ≤ (nkAdd out x).length := by
  by_cases h : out = [] ∨ ∃ front n, out = front ++ [n] ∧ 16 < x - n.a0
  · rw [nkAdd_new h]
    simp
  · have hne : out ≠ [] := fun e => h (.inl e)
    obtain ⟨front, n, e⟩ : ∃ front n, out = front ++ [n] := ⟨out.dropLast, out.getLast hne, (List.dropLast_concat_getLast hne).symm⟩
    rw [e, nkAdd_old (fun hg => h (.inr ⟨front, n, e, hg⟩))]
    simp
theorem take_snoc (zs : List Int) (k : Nat) (hk : k < zs.length) : zs.take (k + 1) = zs.take k ++ [zs.getD k 0] := by
  rw [List.take_add_one, List.getElem?_eq_getElem hk, List.getD_eq_getElem?_getD, List.getElem?_eq_getElem hk]
  rfl
/-- One more number: a new nack, or a further bit of the last one. -/
theorem nk_step {zs : List Int} (hok : okA zs zs.length) {k : Nat} (hk : k < zs.length) {x : Int} (hx : zs.getD k 0 = x) :
    (nk (zs.take k) = [] ∧ nk (zs.take (k + 1)) = [⟨x, 0⟩]) ∨
    ∃ front a m, nk (zs.take k) = front ++ [⟨a, m⟩] ∧ front.length < 60 + k ∧ 0 ≤ a ∧ a < x ∧ x ≤ 999999 ∧ 0 ≤ m ∧ m < 65536 ∧
      ((16 < x - a ∧ nk (zs.take (k + 1)) = (front ++ [⟨a, m⟩]) ++ [⟨x, 0⟩]) ∨ (∃ d : Nat, d < 16 ∧ x - a - 1 = (d : Nat) ∧ m < 2 ^ d ∧ nk (zs.take (k + 1)) = front ++ [⟨a, m + 2 ^ d⟩])) := by
  have ht : okA (zs.take k) (zs.take k).length := by
    have hl : (zs.take k).length = k := by simp; omega
    rw [hl]
    intro i hi
    have e : ∀ j, j < k → (zs.take k).getD j 0 = zs.getD j 0 := fun j hj => by rw [List.getD_eq_getElem?_getD, List.getD_eq_getElem?_getD, List.getElem?_take_of_lt hj]
    rw [e i hi, e (i - 1) (by omega)]
    exact hok i (by omega)
  have I := nk_inv _ ht
  have hs := take_snoc zs k hk
  rw [hx] at hs
  have hxx := hok k hk
  rw [hx] at hxx
  rcases Nat.eq_zero_or_pos k with h0 | h0
  · subst h0
    exact .inl ⟨rfl, by rw [hs]; rfl⟩
  · have hne : zs.take k ≠ [] := by
      intro e
      have : (zs.take k).length = 0 := by rw [e]; rfl
      rw [List.length_take] at this
      omega
    obtain ⟨front, n, e0, n0, n1, n2, n3, n4⟩ := I.last hne
    have hl : (zs.take k).getLast?.getD 0 = zs.getD (k - 1) 0 := by
      rw [List.getLast?_eq_getElem?, List.length_take, Nat.min_eq_left (by omega), List.getElem?_take_of_lt (by omega), List.getD_eq_getElem?_getD]
    rw [hl] at n1 n2 n4
    have hlt := hxx.2.2 h0
    have hnb := of_decide_eq_true (I.ok n (by rw [e0]; simp))
    have hfl : front.length < 60 + k := by
      have := I.len
      rw [e0] at this
      simp at this
      omega
    refine .inr ⟨front, n.a0, n.a1, e0, hfl, n0, by omega, hxx.2.1, n3, hnb.2.2.2, ?_⟩
    by_cases hgt : 16 < x - n.a0
    · exact .inl ⟨hgt, by rw [hs, nk_snoc, nkAdd_new (.inr ⟨front, n, e0, hgt⟩), e0]⟩
    · refine .inr ⟨(x - n.a0 - 1).toNat, by omega, by omega, Int.lt_of_lt_of_le n4 (pow_le (by omega)), ?_⟩
      rw [hs, nk_snoc, e0, nkAdd_old hgt]
end Go.Proofs.Ytibedadmogadhaa
