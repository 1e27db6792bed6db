/- The plain law of parities. -/
import Derived.Test.YtppomcgkmjnpmaaI3
namespace Go.Proofs.Ytppomcgkmjnpmaa
def xr (a b : Int) : Int := ((a.toNat ^^^ b.toNat : Nat) : Int)
theorem xr_comm (a b : Int) : xr a b = xr b a := by unfold xr; rw [Nat.xor_comm]
theorem xr_assoc (a b c : Int) : xr (xr a b) c = xr a (xr b c) := by unfold xr; simp [Nat.xor_assoc]
theorem xr_zero {a : Int} (h : 0 ≤ a) : xr a 0 = a := by unfold xr; simp; omega
theorem xr_self (a : Int) : xr a a = 0 := by unfold xr; simp
theorem xr_pos (a b : Int) : 0 ≤ xr a b := by unfold xr; omega
theorem xr_lt {a b : Int} (h1 : a < 256) (h2 : b < 256) : xr a b < 256 := by
  unfold xr
  have := Nat.xor_lt_two_pow (n := 8) (x := a.toNat) (y := b.toNat) (by omega) (by omega)
  omega
def xorL (a b : List Int) : List Int := (List.range (max a.length b.length)).map fun i => xr (a.getD i 0) (b.getD i 0)
theorem xorL_length (a b : List Int) : (xorL a b).length = max a.length b.length := by simp [xorL]
theorem getD_over {a : List Int} {i : Nat} (h : a.length ≤ i) : a.getD i 0 = 0 := by
  rw [List.getD_eq_getElem?_getD, List.getElem?_eq_none h]; rfl
theorem xorL_getD (a b : List Int) (i : Nat) : (xorL a b).getD i 0 = xr (a.getD i 0) (b.getD i 0) := by
  by_cases h : i < max a.length b.length
  · unfold xorL
    rw [List.getD_eq_getElem?_getD, List.getElem?_map, List.getElem?_range h]
    rfl
  · rw [getD_over (by rw [xorL_length]; omega), getD_over (a := a) (by omega), getD_over (a := b) (by omega)]
    rfl
theorem ext_getD {a b : List Int} (hl : a.length = b.length) (h : ∀ i, i < a.length → a.getD i 0 = b.getD i 0) : a = b := by
  apply List.ext_getElem hl
  intro i h1 h2
  have := h i h1
  simpa [List.getD_eq_getElem?_getD, h1, h2] using this
def nn (a : List Int) : Prop := ∀ i, 0 ≤ a.getD i 0
theorem xorL_nn (a b : List Int) : nn (xorL a b) := fun i => by rw [xorL_getD]; exact xr_pos _ _
theorem xorL_comm (a b : List Int) : xorL a b = xorL b a := by
  refine ext_getD (by simp only [xorL_length]; omega) fun i _ => ?_
  rw [xorL_getD, xorL_getD, xr_comm]
theorem xorL_assoc (a b c : List Int) : xorL (xorL a b) c = xorL a (xorL b c) := by
  refine ext_getD (by simp only [xorL_length]; omega) fun i _ => ?_
  simp only [xorL_getD, xr_assoc]
theorem xorL_nil {a : List Int} (h : nn a) : xorL a [] = a := by
  refine ext_getD (by simp [xorL_length]) fun i _ => ?_
  rw [xorL_getD, show ([] : List Int).getD i 0 = 0 from rfl, xr_zero (h i)]
theorem xorL_one {a : List Int} (h : nn a) (hl : 1 ≤ a.length) : xorL a [0] = a := by
  refine ext_getD (by simp [xorL_length]; omega) fun i _ => ?_
  rw [xorL_getD, show ([0] : List Int).getD i 0 = 0 from by cases i <;> rfl, xr_zero (h i)]
def frm (b : List Int) : List Int := (b.length : Int) :: b
theorem frm_nn {b : List Int} (h : nn b) : nn (frm b) := by
  intro i
  cases i with
  | zero => show (0 : Int) ≤ (b.length : Int); omega
  | succ i => exact h i
def par (p : List Int) (l : List (List Int)) : List Int := l.foldl (fun a b => xorL a (frm b)) p
theorem par_snoc (p : List Int) (l : List (List Int)) (b : List Int) : par p (l ++ [b]) = xorL (par p l) (frm b) := by simp [par]
theorem par_cons (p : List Int) (b : List Int) (l : List (List Int)) : par p (b :: l) = par (xorL p (frm b)) l := rfl
theorem par_shift (l : List (List Int)) (p q : List Int) : par (xorL p q) l = xorL (par p l) q := by
  induction l generalizing p with
  | nil => rfl
  | cons b l ih => rw [par_cons, par_cons, xorL_assoc, xorL_comm q, ← xorL_assoc, ih]
theorem par_append (p : List Int) (l m : List (List Int)) : par p (l ++ m) = par (par p l) m := by simp [par]
theorem par_reverse (p : List Int) (l : List (List Int)) : par p l.reverse = par p l := by
  induction l with
  | nil => rfl
  | cons b l ih => rw [List.reverse_cons, par_snoc, ih, par_cons, par_shift]
theorem par_out (p : List Int) (l : List (List Int)) (b : List Int) (m : List (List Int)) : par p (l ++ b :: m) = xorL (par p (l ++ m)) (frm b) := by
  rw [par_append, par_cons, par_shift, ← par_append]
theorem par_nn {p : List Int} (l : List (List Int)) (h : nn p) : nn (par p l) := by
  rcases List.eq_nil_or_concat l with rfl | ⟨l', b, rfl⟩
  · exact h
  · rw [List.concat_eq_append, par_snoc]; exact xorL_nn _ _
def maxL (l : List (List Int)) : Nat := l.foldl (fun n b => max n b.length) 0
theorem maxL_snoc (l : List (List Int)) (b : List Int) : maxL (l ++ [b]) = max (maxL l) b.length := by simp [maxL]
theorem snoc_ind {α : Type} {P : List α → Prop} (h0 : P []) (h1 : ∀ l x, P l → P (l ++ [x])) (l : List α) : P l := by
  have : ∀ n (l : List α), l.length = n → P l := by
    intro n
    induction n with
    | zero => intro l h; rw [List.eq_nil_of_length_eq_zero h]; exact h0
    | succ n ih =>
      intro l h
      have hne : l ≠ [] := by intro e; subst e; simp at h
      rw [← List.dropLast_concat_getLast hne]
      exact h1 _ _ (ih _ (by simp; omega))
  exact this _ l rfl
theorem par_length (p : List Int) (l : List (List Int)) : (par p l).length = if l = [] then p.length else max p.length (maxL l + 1) := by
  refine snoc_ind (P := fun l => (par p l).length = if l = [] then p.length else max p.length (maxL l + 1)) rfl ?_ l
  intro l b ih
  rw [par_snoc, xorL_length, ih, maxL_snoc, if_neg (show l ++ [b] ≠ [] by simp)]
  simp only [frm, List.length_cons]
  split
  · rename_i h; subst h
    show max p.length (b.length + 1) = max p.length (max 0 b.length + 1)
    omega
  · omega
theorem par_length0 (l : List (List Int)) : (par [0] l).length = maxL l + 1 := by
  rw [par_length]
  split
  · rename_i h; subst h; rfl
  · simp
/-- A list that begins from nothing is the same as from one zero, if there is a body. -/
theorem par_nil_one {l : List (List Int)} (h : l ≠ []) (hb : ∀ b, b ∈ l → nn b) : par [] l = par [0] l := by
  cases l with
  | nil => exact absurd rfl h
  | cons b l =>
    rw [par_cons, par_cons]
    congr 1
    have hf := frm_nn (hb b List.mem_cons_self)
    rw [xorL_comm, xorL_nil hf, xorL_comm, xorL_one hf (by simp [frm])]
theorem par_from {p : List Int} (hp : nn p) (h1 : 1 ≤ p.length) (l : List (List Int)) : par p l = xorL p (par [0] l) := by
  have := par_shift l [0] p
  rw [xorL_comm [0], xorL_one hp h1] at this
  rw [this, xorL_comm]
/-! ### The body that is missing -/
def bytesOk (b : List Int) : Prop := ∀ i, i < b.length → 0 ≤ b.getD i 0 ∧ b.getD i 0 ≤ 255
instance (b : List Int) : Decidable (bytesOk b) := by unfold bytesOk; infer_instance
def bodyB (b : List Int) : Bool := decide (b.length ≤ 12 ∧ bytesOk b)
theorem bytes_nn {b : List Int} (h : bytesOk b) : nn b := by
  intro i
  by_cases hi : i < b.length
  · exact (h i hi).1
  · rw [getD_over (by omega)]; omega
def tailZ (x : List Int) (n : Nat) : Prop := ∀ i, n < i → i < x.length → x.getD i 0 = 0
instance (x : List Int) (n : Nat) : Decidable (tailZ x n) := decidable_of_iff (∀ i, i < x.length → n < i → x.getD i 0 = 0) ⟨fun h i a b => h i b a, fun h i a b => h i b a⟩
def fixIn (l : List (List Int)) (p : List Int) : Bool := decide (l.length < 8 ∧ 1 ≤ p.length ∧ p.length ≤ 13) && l.all bodyB && decide (bytesOk p)
def fixOk (x : List Int) : Bool := decide (x.getD 0 0 + 1 ≤ (x.length : Int) ∧ tailZ x (x.getD 0 0).toNat)
def fixB (x : List Int) : List Int := (x.drop 1).take (x.getD 0 0).toNat
theorem par_lt {p : List Int} (l : List (List Int)) (hp : ∀ i, p.getD i 0 ≤ 255) (hl : ∀ b, b ∈ l → bodyB b = true) : ∀ i, (par p l).getD i 0 ≤ 255 := by
  revert hl
  refine snoc_ind (P := fun l => (∀ b, b ∈ l → bodyB b = true) → ∀ i, (par p l).getD i 0 ≤ 255) (fun _ => hp) ?_ l
  intro l b ih hl i
  rw [par_snoc, xorL_getD]
  have h1 := ih (fun b hb => hl b (List.mem_append_left _ hb)) i
  have h2 : (frm b).getD i 0 < 256 := by
    have hb := of_decide_eq_true (hl b (by simp))
    cases i with
    | zero => show (b.length : Int) < 256; omega
    | succ i =>
      show b.getD i 0 < 256
      by_cases hi : i < b.length
      · have := hb.2 i hi; omega
      · rw [getD_over (by omega)]; omega
  have := xr_lt (show (par p l).getD i 0 < 256 by omega) h2
  omega
theorem take_getD (x : List Int) (k i : Nat) (h : i < k) : ((x.drop 1).take k).getD i 0 = x.getD (i + 1) 0 := by
  rw [List.getD_eq_getElem?_getD, List.getD_eq_getElem?_getD, List.getElem?_take_of_lt h, List.getElem?_drop, Nat.add_comm]
/-- What is left of a frame and zeros behind it. -/
theorem fix_frame {x b : List Int} (hl : b.length + 1 ≤ x.length) (h : ∀ i, x.getD i 0 = (frm b).getD i 0) : fixOk x = true ∧ fixB x = b := by
  have h0 : x.getD 0 0 = (b.length : Int) := h 0
  refine ⟨decide_eq_true ⟨by rw [h0]; omega, fun i hi hx => ?_⟩, ?_⟩
  · rw [h0] at hi
    rw [h i]
    exact getD_over (by simp [frm]; omega)
  · unfold fixB
    rw [h0]
    refine ext_getD (by simp; omega) fun i hi => ?_
    simp at hi
    have := h (i + 1)
    have e : ((x.drop 1).take b.length).getD i 0 = x.getD (i + 1) 0 := take_getD x _ i (by omega)
    rw [show ((b.length : Int)).toNat = b.length by omega, e, this]
    rfl
theorem fix_back {l m : List (List Int)} {b : List Int} (hb : nn b) : fixOk (xorL (par [0] (l ++ b :: m)) (par [0] (l ++ m))) = true ∧ fixB (xorL (par [0] (l ++ b :: m)) (par [0] (l ++ m))) = b := by
  have hf := frm_nn hb
  rw [par_out]
  refine fix_frame ?_ fun i => ?_
  · simp only [xorL_length, frm, List.length_cons]; omega
  · simp only [xorL_getD]
    rw [xr_comm (List.getD _ i 0) ((frm b).getD i 0), xr_assoc, xr_self, xr_zero (hf i)]
/-- The frame of the body that is found, with zeros behind it, is what is left. -/
theorem fix_is {x : List Int} (hx : nn x) (h : fixOk x = true) : ∀ i, (frm (fixB x)).getD i 0 = x.getD i 0 := by
  obtain ⟨h1, h2⟩ := of_decide_eq_true h
  have h0 := hx 0
  have hl : (fixB x).length = (x.getD 0 0).toNat := by unfold fixB; rw [List.length_take, List.length_drop]; omega
  intro i
  cases i with
  | zero => show ((fixB x).length : Int) = _; rw [hl]; omega
  | succ i =>
    show (fixB x).getD i 0 = _
    by_cases hi : i < (x.getD 0 0).toNat
    · exact take_getD x _ i hi
    · rw [getD_over (by omega)]
      by_cases hx2 : i + 1 < x.length
      · rw [h2 (i + 1) (by omega) hx2]
      · rw [getD_over (by omega)]
theorem fix_fits {l : List (List Int)} {p : List Int} (hp : nn p) (h : fixOk (xorL p (par [0] l)) = true) (hlen : p.length = maxL (l ++ [fixB (xorL p (par [0] l))]) + 1) : par [0] (l ++ [fixB (xorL p (par [0] l))]) = p := by
  have hi := fix_is (xorL_nn _ _) h
  refine ext_getD (by rw [par_length0, hlen]) fun i _ => ?_
  rw [par_snoc, xorL_getD, hi i, xorL_getD, xr_comm (p.getD i 0), ← xr_assoc, xr_self, xr_comm, xr_zero (hp i)]
end Go.Proofs.Ytppomcgkmjnpmaa
