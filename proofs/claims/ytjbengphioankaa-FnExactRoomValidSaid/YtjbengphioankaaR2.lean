/- Counting, copying and comparing members: contracts. -/
import Derived.Test.YtjbengphioankaaR1
namespace Go.Proofs.Ytjbengphioankaa
open Go.ChangeShapes Go.WideShapes Go.ChangeAt Go.RowKit Go.Deep

/-! ### How many there are -/
def totM (ms : List VMem) : Nat := (ms.map fun x => x.hs.length).sum
theorem totM_next {ms : List VMem} {k l : Nat} (hk : k < ms.length) (hl : (ms.getD k default).hs.length = l) : totM (ms.take (k + 1)) = totM (ms.take k) + l := by
  subst hl
  unfold totM
  rw [List.take_add_one, List.getElem?_eq_getElem hk, List.getD_eq_getElem?_getD, List.getElem?_eq_getElem hk, List.map_append, List.sum_append]
  rfl
theorem totM_le (ms : List VMem) (k : Nat) : totM (ms.take k) ≤ totM ms := by
  unfold totM
  conv => rhs; rw [← List.take_append_drop k ms]
  rw [List.map_append, List.sum_append]
  omega
theorem totM_get {ms : List VMem} {k : Nat} (hk : k < ms.length) : (ms.getD k default).hs.length ≤ totM ms := by
  have h1 := totM_le ms (k + 1)
  rw [totM_next hk rfl] at h1
  omega
theorem szIntS_any (A : Option Addr) (n c : Nat) (m : Int) (w : World) (h0 : 0 ≤ m) (h1 : m ≤ 4611686018427387904) (hn : n ≤ 9223372036854775807) :
    Calls Try.prog 57 #[.slice A n c, .int .i64 m] w fun e w' => e = .returned (.int .i64 (if m < (n : Int) then -1 else m - n)) ∧ w' = w := by
  have w0 : IntKind.i64.wrap (m - (n : Int)) = m - n := IntWalk.i64_in _ (by omega)
  by_cases h : m < (n : Int)
  · have h2 : m - (n : Int) < 0 := by omega
    rw [if_pos h]
    obtain ⟨q, hq⟩ : ∃ q, m - (n : Int) = q := ⟨_, rfl⟩
    rw [hq] at w0 h2
    go_enter Try.func57, Try.ntmps57
    go_wp2_with fail
    go_ret
    exact ⟨by first | rfl | simp, rfl⟩
  · have h2 : ¬ m - (n : Int) < 0 := by omega
    rw [if_neg h]
    obtain ⟨q, hq⟩ : ∃ q, m - (n : Int) = q := ⟨_, rfl⟩
    rw [hq] at w0 h2 ⊢
    go_enter Try.func57, Try.ntmps57
    go_wp2_with fail
    go_ret
    exact ⟨rfl, rfl⟩
theorem szMember_any (i : Int) (s : Bool) (A : Option Addr) (n c : Nat) (m : Int) (w : World) (h0 : 0 ≤ m) (h1 : m ≤ 4611686018427387904) (hn : n ≤ 9223372036854775807) :
    Calls Try.prog 42 #[.agg #[.int .i64 i, .bool s, .slice A n c], .int .i64 m] w (RetV (.int .i64 (if m < (n : Int) then -1 else m - n)) w) := by
  have K := hide (szIntS_any A n c m (w.alloc (.cells #[.int .i64 i, .bool s, .slice A n c] 78)) h0 h1 hn)
  by_cases h : m < (n : Int)
  · rw [if_pos h] at K ⊢
    clear h
    go_enter Try.func42, Try.ntmps42
    go_wp2_with fail
    refine K.out.mono ?_
    rintro e w' ⟨rfl, rfl⟩
    go_wp2_with fail
    go_ret
    exact ⟨rfl, (Below.refl _ _).alloc (Nat.le_refl _) _⟩
  · rw [if_neg h] at K ⊢
    obtain ⟨q, hq⟩ : ∃ q, m - (n : Int) = q := ⟨_, rfl⟩
    rw [hq] at K ⊢
    have hq0 : ¬ q < 0 := by omega
    clear h hq
    go_enter Try.func42, Try.ntmps42
    go_wp2_with fail
    refine K.out.mono ?_
    rintro e w' ⟨rfl, rfl⟩
    go_wp2_with fail
    go_ret
    exact ⟨rfl, (Below.refl _ _).alloc (Nat.le_refl _) _⟩
def Sized (ms : List VMem) (m : Int) (w : World) (e : Ending) (w' : World) : Prop :=
  (∃ r : Int, e = .returned (.int .i64 r) ∧ (r = -1 ∧ m < (ms.length + totM ms : Nat) ∨ r = m - (ms.length + totM ms : Nat) ∧ (ms.length + totM ms : Nat) ≤ m)) ∧ Below w.heap.size w w'
set_option maxHeartbeats 4000000 in
theorem szMemberS_any (A : Option Addr) (c : Nat) (ms : List VMem) (m : Int) (w : World) (h : MemAt w A ms) (h0 : 0 ≤ m) (h1 : m ≤ 4611686018427387904) (hn : ms.length ≤ 9223372036854775807) :
    Calls Try.prog 22 #[.slice A ms.length c, .int .i64 m] w (Sized ms m w) := by
  have Hh := hide h
  have Ht := hide (totM_le ms)
  obtain ⟨n, hnn⟩ : ∃ n, ms.length = n := ⟨_, rfl⟩
  obtain ⟨T, hT⟩ : ∃ n, totM ms = n := ⟨_, rfl⟩
  have hC1 : ∀ w', m < (n + T : Nat) → Below w.heap.size w w' → Sized ms m w (.returned (.int .i64 (-1))) w' := fun w' h1 h2 => ⟨⟨-1, rfl, .inl ⟨rfl, by rw [hnn, hT]; exact h1⟩⟩, h2⟩
  have hC2 : ∀ r w', r = m - (n + T : Nat) → 0 ≤ r → Below w.heap.size w w' → Sized ms m w (.returned (.int .i64 r)) w' := fun r w' h1 h3 h2 => ⟨⟨r, rfl, .inr ⟨by rw [hnn, hT]; exact h1, by rw [hnn, hT]; omega⟩⟩, h2⟩
  have HC1 := hide hC1
  have HC2 := hide hC2
  rw [hnn] at hn ⊢
  rw [hT] at Ht
  have Hn := hide hnn
  have HT := hide hT
  have w0 : IntKind.i64.wrap (m - (n : Int)) = m - n := IntWalk.i64_in _ (by omega)
  clear h hnn hT hC1 hC2
  obtain ⟨q, hq⟩ : ∃ q, m - (n : Int) = q := ⟨_, rfl⟩
  have Hq := hide hq
  have w1 : IntKind.i64.wrap (m - (n : Int)) = q := w0.trans hq
  clear w0
  by_cases hm : m < (n : Int)
  · have h2 : q < 0 := by omega
    clear hq
    go_enter Try.func22, Try.ntmps22
    go_wp2_with fail
    go_ret
    exact HC1.out _ (by omega) (Below.refl _ _)
  · have h2 : ¬ q < 0 := by omega
    have hq0 : 0 ≤ q := by omega
    have hqm : q ≤ 4611686018427387904 := by omega
    have Hm := hide hm
    clear hq hm
    go_enter Try.func22, Try.ntmps22
    go_wp2_with fail
    go_loopw [1, 5] (fun s i wr => ∃ (k : Nat) (r : Int), k ≤ n ∧ i = .int .i64 k ∧ s = .int .i64 r ∧ r = q - (totM (ms.take k) : Nat) ∧ 0 ≤ r ∧ Below w.heap.size w wr) (fun _ i _ => n - (intOf i).toNat)
    case atStart => exact ⟨0, q, by omega, rfl, rfl, by simp [totM], by omega, Below.refl _ _⟩
    case round =>
      obtain ⟨k, r, hk, rfl, rfl, hr, hr0, hbl⟩ := hrel
      have Hr := hide hr
      have Hbl := hide hbl
      clear hr hbl
      by_cases hk' : k < n
      · obtain ⟨b, off, rfl, hlt, hz0, hz1, A', c', hz2, hcap, hc63, _⟩ := MemAt.at (MemAt.below Hh.out Hbl.out) (k := k) (by have := Hn.out; omega)
        have htl := Ht.out (k + 1)
        obtain ⟨x, hx⟩ : ∃ x, ms.getD k default = x := ⟨_, rfl⟩
        rw [hx] at hz0 hz1 hz2 hcap
        obtain ⟨l, hl⟩ : ∃ l, x.hs.length = l := ⟨_, rfl⟩
        have htn := totM_next (ms := ms) (k := k) (l := l) (by rw [Hn.out]; exact hk') (by rw [hx]; exact hl)
        rw [hl] at hz2 hcap
        rw [htn] at htl
        have hrq : r ≤ q := by have := Hr.out; omega
        have Htn := hide htn
        have Htl := hide htl
        have g2 : (k : Int) < (n : Int) := by omega
        have KS := szMember_any x.id x.sends A' l c' r wr hr0 (by omega) (by omega)
        clear hl hx htn htl
        by_cases hrl : r < (l : Int)
        · rw [if_pos hrl] at KS
          have HKS := hide KS
          have hfin : m < ((n + T : Nat) : Int) := by have := Hr.out; have := Hq.out; have := Htl.out; omega
          have HR := hide hfin
          clear KS hfin
          go_wp2_with fail
          refine HKS.out.mono ?_
          rintro e w2 ⟨rfl, hb⟩
          have B2 := hide (Hbl.out.trans (hb.mono Hbl.out.size))
          clear hb
          go_wp2_with fail
          go_ret
          exact HC1.out _ HR.out B2.out
        · rw [if_neg hrl] at KS
          obtain ⟨r2, hr2⟩ : ∃ r2, r - (l : Int) = r2 := ⟨_, rfl⟩
          have hr20 : ¬ r2 < 0 := by omega
          have Hr2 := hide hr2
          rw [hr2] at KS
          have HKS := hide KS
          clear KS hr2
          go_wp2_with fail
          refine HKS.out.mono ?_
          rintro e w2 ⟨rfl, hb⟩
          have B2 := hide (Hbl.out.trans (hb.mono Hbl.out.size))
          clear hb
          go_wp2_with fail
          go_roundw
          case rel =>
            have a1 := Hr.out
            have a2 := Hr2.out
            exact ⟨k + 1, r2, by omega, by go_num, rfl, by rw [Htn.out]; omega, by omega, B2.out⟩
          case measure => simp [intOf]; omega
      · have hkn : k = n := by omega
        subst hkn
        have ht : ms.take k = ms := by rw [← Hn.out, List.take_length]
        have hr := Hr.out
        rw [ht, HT.out] at hr
        have HR := hide hr
        clear ht hr Hr
        go_wp2_with fail
        go_ret
        exact HC2.out r _ (by have := HR.out; have := Hq.out; omega) hr0 Hbl.out

/-! ### A copy -/
theorem toMember_any (x : VMem) (A : Option Addr) (c : Nat) (w : World) (h : IntsAt w A x.hs) (hm : x.hs.length ≤ 1048576) :
    Calls Try.prog 44 #[.agg #[.int .i64 x.id, .bool x.sends, .slice A x.hs.length c]] w fun e w' => ∃ g, e = .returned (.agg #[.int .i64 x.id, .bool x.sends, .slice (some ⟨g, 0, none⟩) x.hs.length x.hs.length]) ∧ w.heap.size ≤ g ∧ Own w' 3 1 g x.hs.length x.hs.length (x.hs.map (Value.int .i64)) ∧ Below w.heap.size w w' := by
  have HH := hide h
  have K := fun w h => toIntS_own A c x.hs w h hm
  obtain ⟨n, hn⟩ : ∃ n, x.hs.length = n := ⟨_, rfl⟩
  rw [hn] at K hm ⊢
  have HK := hide K
  clear h hn K
  go_enter Try.func44, Try.ntmps44
  go_wp2_with fail
  refine (HK.out _ (HH.out.below ((((Below.refl _ _).alloc (Nat.le_refl _) _).alloc (by simp) _).alloc (by simp; omega) _))).mono ?_
  rintro en w1 ⟨g, rfl, hg, o1, hb⟩
  have bl := hide (((((Below.refl _ w).alloc (Nat.le_refl _) _).alloc (by simp) _).alloc (by simp; omega) _).trans (hb.mono (by simp; omega)) : Below w.heap.size w w1)
  obtain ⟨S, hS⟩ : ∃ S, w.heap.size = S := ⟨_, rfl⟩
  simp only [World.size_alloc] at hg
  have rX : Row w1 (w.heap.size + 1) _ := Row.below (by (repeat' (first | (with_reducible assumption) | (with_reducible exact Row.new _ _ _) | (with_reducible exact Row.new1 _ _ _ _) | (with_reducible exact Row.new2 _ _ _ _ _) | (with_reducible exact Row.new2' _ _ _ _ _) | ((with_reducible apply Row.mk) <;> (with_reducible assumption)) | (with_reducible apply Row.alloc) | (with_reducible apply Row.set) | (with_reducible apply Row.far) | (with_reducible apply Row.drew) | (with_reducible apply Row.drewN) | omega | (simp; done) | (simp; omega)))) hb
  have rY : Row w1 (w.heap.size + 1 + 1) _ := Row.below (by (repeat' (first | (with_reducible assumption) | (with_reducible exact Row.new _ _ _) | (with_reducible exact Row.new1 _ _ _ _) | (with_reducible exact Row.new2 _ _ _ _ _) | (with_reducible exact Row.new2' _ _ _ _ _) | ((with_reducible apply Row.mk) <;> (with_reducible assumption)) | (with_reducible apply Row.alloc) | (with_reducible apply Row.set) | (with_reducible apply Row.far) | (with_reducible apply Row.drew) | (with_reducible apply Row.drewN) | omega | (simp; done) | (simp; omega)))) hb
  (try clear cX fX lX)
  (try clear cY fY lY)
  obtain ⟨cX, fX, lX⟩ := rX
  obtain ⟨cY, fY, lY⟩ := rY
  rw [hS] at cX fX lX cY fY lY hg
  have O1 := hide o1
  have lg := o1.lt
  have ng1 : ¬ g = S + 1 := by omega
  have ng2 : ¬ g = S + 1 + 1 := by omega
  clear hb o1
  go_wp2_with fail
  refine bodyPost_ret (by first | (simp (maxDischargeDepth := 3) [results, Try.results44, go_sem, *]; done) | (simp (maxDischargeDepth := 3) [results, Try.results44, go_sem, *]; rfl) | (simp (maxDischargeDepth := 7) [results, Try.results44, go_sem, *]; done) | (simp (maxDischargeDepth := 7) [results, Try.results44, go_sem, *]; rfl)) rfl ?_
  have hSS := hS
  refine ⟨g, rfl, by omega, ((O1.out.far (by show g ≠ _; omega) _).far (by show g ≠ _; omega) _ |>.far (by show g ≠ _; omega) _ |>.far (by show g ≠ _; omega) _), ?_⟩
  have bl := bl.out
  (repeat' (first | (with_reducible exact Below.refl _ _) | (with_reducible assumption) | (with_reducible refine Below.alloc ?_ ?_ _) | (with_reducible refine Below.setCell ?_ ?_ _) | (with_reducible refine Below.drew ?_) | (with_reducible refine below_drewN' ?_ _) | (with_reducible refine below_step (by assumption) ?_ ?_) | (with_reducible refine below_gstep (by assumption) ?_ ?_ ?_) | (with_reducible exact Below.size (by assumption)) | omega | (simp; done) | (simp; omega)))
end Go.Proofs.Ytjbengphioankaa
