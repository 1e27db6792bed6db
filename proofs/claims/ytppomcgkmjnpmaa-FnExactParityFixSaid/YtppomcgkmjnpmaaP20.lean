/- Slices of slices of ints that a law copies, counts, compares and marks; such a slice that came in. -/
import Derived.Test.YtppomcgkmjnpmaaP14
import Derived.Test.YtppomcgkmjnpmaaOP
namespace Go.Proofs.Ytppomcgkmjnpmaa
open Go.ChangeShapes Go.WideShapes Go.ChangeAt Go.RowKit Go.Deep

/-! ### An argument -/
theorem open_intSS {H : Type} {enc : TypeId × Value → H} (W : World) (base : Nat) (v : Value) (d : DataW H) (p : List MemPlace) (o : Value.okWide Try.prog W .any base 23 v) (h : DataW.Trod enc Try.prog W 0 (fun _ => true) true 23 v d p) :
    ∃ A c ls, v = .slice A (List.length ls) c ∧ ls.length ≤ c ∧ c ≤ 9223372036854775807 ∧ BodAt W A ls := by
  obtain ⟨A, n, c, rfl⟩ := okWide_slice Try.underlying23 o
  obtain ⟨fuel, hf⟩ := h
  rcases open_slice Try.underlying23 hf with ⟨hcs, _⟩ | ⟨a, len, cap, m, nn, D, Pl, hcs, _, hl, hm, hmm, _, hi⟩
  · simp [Value.cells] at hcs
    obtain ⟨rfl, rfl, rfl⟩ := hcs
    exact ⟨none, 0, [], rfl, by simp, by omega, .inl rfl⟩
  · simp [Value.cells] at hcs
    obtain ⟨rfl, rfl, rfl⟩ := hcs
    simp at hmm
    subst hmm
    unfold maxLen at hm
    have hC : Try.prog.cellsOf 25 = 1 := by kernel_rfl
    rw [hC] at hi
    have hall : ∀ i, i < n → ∃ (A' : Option Addr) (c' : Nat) (zs : List Int), W.cell? (a.add i) = some (.slice A' zs.length c') ∧ zs.length ≤ c' ∧ c' ≤ 9223372036854775807 ∧ (A' = none → c' = 0) ∧ IntsAt W A' zs := by
      intro i hin
      obtain ⟨cs', hc, ht'⟩ := hi i (by omega)
      rw [Nat.mul_one] at hc
      obtain ⟨_, hcl, hat⟩ := World.cells?_some hc
      rcases open_ints Try.underlying25 Try.underlying3 (by kernel_rfl) ht' with ⟨hcs, _⟩ | ⟨x, l, cp, zs, hcs, _, hl', hm', hz', _, hcell, hwz⟩
      · subst hcs
        have h0 := hat 0 (by simp)
        rw [show (a.add i).add 0 = a.add i from rfl] at h0
        exact ⟨none, 0, [], by simpa using h0, by simp, by omega, fun _ => rfl, .inl rfl⟩
      · subst hcs
        have h0 := hat 0 (by simp)
        rw [show (a.add i).add 0 = a.add i from rfl] at h0
        simp at h0
        unfold maxLen at hm'
        have hz'' : zs.length = cp := by simpa using hz'
        have htake : (zs.take l).length = l := by simp; omega
        refine ⟨some x, cp, zs.take l, by rw [htake]; exact h0, by rw [htake]; exact hl', hm', (fun h => by cases h), ?_⟩
        rcases Nat.eq_zero_or_pos l with h00 | h00
        · subst h00; exact .inl (by simp)
        · obtain ⟨b, off, spot⟩ := x
          have hc0 := hcell 0 (by omega)
          have hspot : spot = none := by simpa [Addr.add] using World.cell?_spot hc0
          subst hspot
          have hall : ∀ i, i < l → W.cell? ⟨b, off + i, none⟩ = some (.int .i64 (zs.getD i 0)) := by
            intro i hi
            have := hcell i (by omega)
            rwa [addr_add] at this
          refine .inr ⟨b, off, rfl, block_lt_of_cell (hall 0 h00), fun i hi => ?_⟩
          rw [htake] at hi
          rw [hall i hi]
          simp [List.getD_eq_getElem?_getD, hi]
    have hall2 : ∀ i, i < n → ∃ zs : List Int, ∃ (A' : Option Addr) (c' : Nat), W.cell? (a.add i) = some (.slice A' zs.length c') ∧ zs.length ≤ c' ∧ c' ≤ 9223372036854775807 ∧ (A' = none → c' = 0) ∧ IntsAt W A' zs := by
      intro i hi
      obtain ⟨A', c', zs, h⟩ := hall i hi
      exact ⟨zs, A', c', h⟩
    obtain ⟨ls, hlen, hls⟩ : ∃ ls : List (List Int), ls.length = n ∧ ∀ i, i < n → ∃ (A' : Option Addr) (c' : Nat), W.cell? (a.add i) = some (.slice A' (ls.getD i []).length c') ∧ (ls.getD i []).length ≤ c' ∧ c' ≤ 9223372036854775807 ∧ (A' = none → c' = 0) ∧ IntsAt W A' (ls.getD i []) := by
      refine ⟨(List.range n).pmap (fun i (hi : i < n) => Classical.choose (hall2 i hi)) (fun i hi => List.mem_range.1 hi), by simp, fun i hin => ?_⟩
      have e : ((List.range n).pmap (fun i (hi : i < n) => Classical.choose (hall2 i hi)) (fun i hi => List.mem_range.1 hi)).getD i [] = Classical.choose (hall2 i hin) := by
        rw [List.getD_eq_getElem?_getD, List.getElem?_eq_getElem (by simp; omega)]
        simp
      rw [e]
      exact Classical.choose_spec (hall2 i hin)
    refine ⟨some a, _, ls, by rw [hlen], by omega, hm, ?_⟩
    rcases Nat.eq_zero_or_pos n with h0 | h0
    · exact .inl (List.eq_nil_of_length_eq_zero (by omega))
    · obtain ⟨b, off, spot⟩ := a
      obtain ⟨A', c', hc0, _⟩ := hls 0 h0
      have hspot : spot = none := by simpa [Addr.add] using World.cell?_spot hc0
      subst hspot
      have hc1 := hc0
      rw [addr_add] at hc1
      refine .inr ⟨b, off, rfl, block_lt_of_cell hc1, fun i hi => ?_⟩
      have := hls i (by omega)
      rwa [addr_add] at this

/-! ### How many there are -/
def tot (ls : List (List Int)) : Nat := (ls.map List.length).sum
theorem tot_next {ls : List (List Int)} {k l : Nat} (hk : k < ls.length) (hl : (ls.getD k []).length = l) : tot (ls.take (k + 1)) = tot (ls.take k) + l := by
  subst hl
  unfold tot
  rw [List.take_add_one, List.getElem?_eq_getElem hk, List.getD_eq_getElem?_getD, List.getElem?_eq_getElem hk, List.map_append, List.sum_append]
  rfl
theorem tot_le (ls : List (List Int)) (k : Nat) : tot (ls.take k) ≤ tot ls := by
  unfold tot
  conv => rhs; rw [← List.take_append_drop k ls]
  rw [List.map_append, List.sum_append]
  omega
theorem tot_get {ls : List (List Int)} {k : Nat} (hk : k < ls.length) : (ls.getD k []).length ≤ tot ls := by
  have h1 := tot_le ls (k + 1)
  rw [tot_next hk rfl] at h1
  omega
theorem szIntS_any (A : Option Addr) (n c : Nat) (m : Int) (w : World) (h0 : 0 ≤ m) (h1 : m ≤ 4611686018427387904) (hn : n ≤ 9223372036854775807) :
    Calls Try.prog 39 #[.slice A n c, .int .i64 m] w fun e w' => e = .returned (.int .i64 (if m < (n : Int) then -1 else m - n)) ∧ w' = w := by
  have w0 : IntKind.i64.wrap (m - (n : Int)) = m - n := IntWalk.i64_in _ (by omega)
  by_cases h : m < (n : Int)
  · have h2 : m - (n : Int) < 0 := by omega
    rw [if_pos h]
    obtain ⟨q, hq⟩ : ∃ q, m - (n : Int) = q := ⟨_, rfl⟩
    rw [hq] at w0 h2
    go_enter Try.func39, Try.ntmps39
    go_wp2_with fail
    go_ret
    exact ⟨by first | rfl | simp, rfl⟩
  · have h2 : ¬ m - (n : Int) < 0 := by omega
    rw [if_neg h]
    obtain ⟨q, hq⟩ : ∃ q, m - (n : Int) = q := ⟨_, rfl⟩
    rw [hq] at w0 h2 ⊢
    go_enter Try.func39, Try.ntmps39
    go_wp2_with fail
    go_ret
    exact ⟨rfl, rfl⟩
theorem szIntSS_any (A : Option Addr) (c : Nat) (ls : List (List Int)) (m : Int) (w : World) (h : BodAt w A ls) (h0 : 0 ≤ m) (h1 : m ≤ 4611686018427387904) (hn : ls.length ≤ 9223372036854775807) :
    Calls Try.prog 21 #[.slice A ls.length c, .int .i64 m] w fun e w' => (∃ r : Int, e = .returned (.int .i64 r) ∧ (r = -1 ∧ m < (ls.length + tot ls : Nat) ∨ r = m - (ls.length + tot ls : Nat) ∧ (ls.length + tot ls : Nat) ≤ m)) ∧ w' = w := by
  have Hh := hide h
  have Ht := hide (tot_le ls)
  obtain ⟨n, hnn⟩ : ∃ n, ls.length = n := ⟨_, rfl⟩
  obtain ⟨T, hT⟩ : ∃ n, tot ls = n := ⟨_, rfl⟩
  rw [hnn] at hn ⊢
  rw [hT] at Ht ⊢
  have Hn := hide hnn
  have HT := hide hT
  have w0 : IntKind.i64.wrap (m - (n : Int)) = m - n := IntWalk.i64_in _ (by omega)
  clear h hnn hT
  obtain ⟨q, hq⟩ : ∃ q, m - (n : Int) = q := ⟨_, rfl⟩
  have Hq := hide hq
  have w1 : IntKind.i64.wrap (m - (n : Int)) = q := w0.trans hq
  clear w0
  by_cases hm : m < (n : Int)
  · have h2 : q < 0 := by omega
    clear hq
    go_enter Try.func21, Try.ntmps21
    go_wp2_with fail
    go_ret
    exact ⟨⟨-1, rfl, .inl ⟨rfl, by omega⟩⟩, rfl⟩
  · have h2 : ¬ q < 0 := by omega
    have hq0 : 0 ≤ q := by omega
    have hqm : q ≤ 4611686018427387904 := by omega
    have Hm := hide hm
    clear hq hm
    go_enter Try.func21, Try.ntmps21
    go_wp2_with fail
    go_loopw [1, 5] (fun s i wr => ∃ (k : Nat) (r : Int), k ≤ n ∧ i = .int .i64 k ∧ s = .int .i64 r ∧ r = q - (tot (ls.take k) : Nat) ∧ 0 ≤ r ∧ wr = w) (fun _ i _ => n - (intOf i).toNat)
    case atStart => exact ⟨0, q, by omega, rfl, rfl, by simp [tot], by omega, rfl⟩
    case round =>
      obtain ⟨k, r, hk, rfl, rfl, hr, hr0, rfl⟩ := hrel
      have Hr := hide hr
      clear hr
      by_cases hk' : k < n
      · obtain ⟨b, off, rfl, hlt, A', c', hz, hcap, hc63, hnil, hI⟩ := BodAt.at Hh.out (k := k) (by have := Hn.out; omega)
        have htl := Ht.out (k + 1)
        obtain ⟨l, hl⟩ : ∃ l, (ls.getD k []).length = l := ⟨_, rfl⟩
        have htn := tot_next (ls := ls) (k := k) (l := l) (by rw [Hn.out]; exact hk') hl
        rw [hl] at hz hcap
        rw [htn] at htl
        have hrq : r ≤ q := by have := Hr.out; omega
        have Htn := hide htn
        have Htl := hide htl
        have g2 : (k : Int) < (n : Int) := by omega
        have KS := szIntS_any A' l c' r wr hr0 (by omega) (by omega)
        clear hl htn hI hnil htl
        by_cases hrl : r < (l : Int)
        · rw [if_pos hrl] at KS
          have HKS := hide KS
          have hfin : m < ((n + T : Nat) : Int) := by have := Hr.out; have := Hq.out; have := Htl.out; omega
          have HR := hide hfin
          clear KS hfin
          go_wp2_with (go_at_call 39; refine HKS.out.mono ?_; rintro e w' ⟨rfl, rfl⟩)
          go_ret
          exact ⟨⟨-1, rfl, .inl ⟨rfl, HR.out⟩⟩, rfl⟩
        · rw [if_neg hrl] at KS
          obtain ⟨r2, hr2⟩ : ∃ r2, r - (l : Int) = r2 := ⟨_, rfl⟩
          have hr20 : ¬ r2 < 0 := by omega
          have Hr2 := hide hr2
          rw [hr2] at KS
          have HKS := hide KS
          clear KS hr2
          go_wp2_with (go_at_call 39; refine HKS.out.mono ?_; rintro e w' ⟨rfl, rfl⟩)
          go_roundw
          case rel =>
            have a1 := Hr.out
            have a2 := Hr2.out
            exact ⟨k + 1, r2, by omega, by go_num, rfl, by rw [Htn.out]; omega, by omega, by first | rfl | trivial⟩
          case measure => simp [intOf]; omega
      · have hkn : k = n := by omega
        subst hkn
        have ht : ls.take k = ls := by rw [← Hn.out, List.take_length]
        have hr := Hr.out
        rw [ht, HT.out] at hr
        have HR := hide hr
        clear ht hr Hr
        go_wp2_with fail
        go_ret
        exact ⟨⟨r, rfl, .inr (by have := HR.out; have := Hq.out; omega)⟩, rfl⟩

/-! ### A copy -/
/-- The bodies are rows that were made one behind the other. -/
def incB (bs : List VBod) : Prop := bs.Pairwise fun a b => a.g < b.g
def CopiedBod (ls : List (List Int)) (w : World) (e : Ending) (w' : World) : Prop :=
  ∃ g bs, e = .returned (.slice (some ⟨g, 0, none⟩) ls.length ls.length) ∧ bs.map VBod.zs = ls ∧ w.heap.size ≤ g ∧ incB bs ∧ OwnBod w' w.heap.size g ls.length ls.length bs ∧ Below w.heap.size w w'
end Go.Proofs.Ytppomcgkmjnpmaa
