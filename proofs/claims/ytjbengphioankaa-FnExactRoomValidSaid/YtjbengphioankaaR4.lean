/- Finding a member: contracts of both; whom a member hears, as a plain law. -/
import Derived.Test.YtjbengphioankaaR3
namespace Go.Proofs.Ytjbengphioankaa
open Go.ChangeShapes Go.WideShapes Go.ChangeAt Go.RowKit Go.Deep

/-! ### The plain law -/
/-- r is the first place of the member id, or -1. -/
def AtR (ms : List VMem) (id r : Int) : Prop :=
  (r = -1 ∧ ∀ j, j < ms.length → (ms.getD j default).id ≠ id) ∨ ∃ k : Nat, k < ms.length ∧ r = k ∧ (ms.getD k default).id = id ∧ ∀ j, j < k → (ms.getD j default).id ≠ id
theorem at_upto (ms : List VMem) (id : Int) (m : Nat) : (∀ j, j < m → (ms.getD j default).id ≠ id) ∨ ∃ k : Nat, k < m ∧ (ms.getD k default).id = id ∧ ∀ j, j < k → (ms.getD j default).id ≠ id := by
  induction m with
  | zero => exact .inl fun j hj => by omega
  | succ m ih =>
    rcases ih with h | ⟨k, h1, h2, h3⟩
    · by_cases hm : (ms.getD m default).id = id
      · exact .inr ⟨m, by omega, hm, h⟩
      · refine .inl fun j hj => ?_
        rcases Nat.lt_succ_iff_lt_or_eq.1 hj with hj | rfl
        · exact h j hj
        · exact hm
    · exact .inr ⟨k, by omega, h2, h3⟩
theorem at_ex (ms : List VMem) (id : Int) : ∃ r, AtR ms id r := by
  rcases at_upto ms id ms.length with h | ⟨k, h1, h2, h3⟩
  · exact ⟨-1, .inl ⟨rfl, h⟩⟩
  · exact ⟨k, .inr ⟨k, h1, rfl, h2, h3⟩⟩
noncomputable def atM (ms : List VMem) (id : Int) : Int := Classical.choose (at_ex ms id)
theorem atM_is (ms : List VMem) (id : Int) : AtR ms id (atM ms id) := Classical.choose_spec (at_ex ms id)
theorem at_none {ms : List VMem} {id : Int} {n : Nat} (hn : ms.length = n) (h : ∀ j, j < n → (ms.getD j default).id ≠ id) : atM ms id = -1 := by
  rcases atM_is ms id with ⟨hr, _⟩ | ⟨k, h1, _, h2, _⟩
  · exact hr
  · exact absurd h2 (h k (by omega))
theorem at_found {ms : List VMem} {id : Int} {n k : Nat} (hn : ms.length = n) (hk : k < n) (he : (ms.getD k default).id = id) (h : ∀ j, j < k → (ms.getD j default).id ≠ id) : atM ms id = k := by
  rcases atM_is ms id with ⟨_, hr⟩ | ⟨m, h1, h2, h3, h4⟩
  · exact absurd he (hr k (by omega))
  · rcases Nat.lt_trichotomy m k with hm | rfl | hm
    · exact absurd h3 (h m hm)
    · exact h2
    · exact absurd he (h4 k hm)
def hearT (ms : List VMem) (x : VMem) (k : Nat) : Prop := ∀ i, i < k → x.hs.getD i 0 ≠ x.id ∧ 0 ≤ atM ms (x.hs.getD i 0) ∧ (0 < i → x.hs.getD (i - 1) 0 < x.hs.getD i 0)
noncomputable instance (ms : List VMem) (x : VMem) (k : Nat) : Decidable (hearT ms x k) := by unfold hearT; infer_instance
noncomputable def hearB (ms : List VMem) (x : VMem) : Bool := decide (hearT ms x x.hs.length)
theorem hear_no {ms : List VMem} {x : VMem} {l k : Nat} {y : Int} (hl : x.hs.length = l) (hk : k < l) (hy : x.hs.getD k 0 = y) (h : ¬ (y ≠ x.id ∧ 0 ≤ atM ms y ∧ (0 < k → x.hs.getD (k - 1) 0 < y))) : hearB ms x = false :=
  decide_eq_false fun q => by
    have := q k (by omega)
    rw [hy] at this
    exact h this
theorem hear_yes {ms : List VMem} {x : VMem} {l : Nat} (hl : x.hs.length = l) (h : hearT ms x l) : hearB ms x = true := decide_eq_true (by rw [hl]; exact h)
theorem hear_next {ms : List VMem} {x : VMem} {k : Nat} {y : Int} (h : hearT ms x k) (hy : x.hs.getD k 0 = y) (h1 : y ≠ x.id) (h2 : 0 ≤ atM ms y) (h3 : 0 < k → x.hs.getD (k - 1) 0 < y) : hearT ms x (k + 1) := by
  intro i hi
  rcases Nat.lt_succ_iff_lt_or_eq.1 hi with hi | rfl
  · exact h i hi
  · rw [hy]; exact ⟨h1, h2, h3⟩
noncomputable def memB (ms : List VMem) (x : VMem) : Bool := decide (0 ≤ x.id ∧ x.id ≤ 99) && hearB ms x
noncomputable def roomT (ms : List VMem) (k : Nat) : Prop := ∀ i, i < k → memB ms (ms.getD i default) = true ∧ (0 < i → (ms.getD (i - 1) default).id < (ms.getD i default).id)
noncomputable instance (ms : List VMem) (k : Nat) : Decidable (roomT ms k) := by unfold roomT; infer_instance
noncomputable def roomB (ms : List VMem) : Bool := decide (ms.length ≤ 6 ∧ roomT ms ms.length)
theorem room_long {ms : List VMem} {n : Nat} (hn : ms.length = n) (h : 6 < n) : roomB ms = false := decide_eq_false fun q => by omega
theorem room_no {ms : List VMem} {n k : Nat} {x : VMem} (hn : ms.length = n) (hk : k < n) (hx : ms.getD k default = x) (h : ¬ (memB ms x = true ∧ (0 < k → (ms.getD (k - 1) default).id < x.id))) : roomB ms = false :=
  decide_eq_false fun q => by
    have := q.2 k (by omega)
    rw [hx] at this
    exact h this
theorem room_yes {ms : List VMem} {n : Nat} (hn : ms.length = n) (h6 : n ≤ 6) (h : roomT ms n) : roomB ms = true := decide_eq_true ⟨by omega, by rw [hn]; exact h⟩
theorem room_next {ms : List VMem} {k : Nat} {x : VMem} (h : roomT ms k) (hx : ms.getD k default = x) (h1 : memB ms x = true) (h2 : 0 < k → (ms.getD (k - 1) default).id < x.id) : roomT ms (k + 1) := by
  intro i hi
  rcases Nat.lt_succ_iff_lt_or_eq.1 hi with hi | rfl
  · exact h i hi
  · rw [hx]; exact ⟨h1, h2⟩

/-! ### The walks -/
theorem ret_int {a b : Int} (h : a = b) : Ending.returned (.int .i64 a) = .returned (.int .i64 b) := by rw [h]
set_option maxHeartbeats 2000000 in
theorem l31At_any (A : Option Addr) (c : Nat) (ms : List VMem) (id : Int) (w : World) (h : MemAt w A ms) (hm : ms.length ≤ 1048576) :
    Calls Try.prog 58 #[.slice A ms.length c, .int .i64 id] w fun e w' => e = .returned (.int .i64 (atM ms id)) ∧ w' = w := by
  have Hh := hide h
  obtain ⟨n, hn⟩ : ∃ n, ms.length = n := ⟨_, rfl⟩
  have HN := hide (at_none (ms := ms) (id := id) hn)
  have HF := hide (fun k => at_found (ms := ms) (id := id) (k := k) hn)
  obtain ⟨R, hR⟩ : ∃ R, atM ms id = R := ⟨_, rfl⟩
  rw [hR] at HN HF ⊢
  rw [hn] at hm ⊢
  have Hn := hide hn
  clear hn h hR
  go_enter Try.func58, Try.ntmps58
  go_wp2_with fail
  go_loopw [5] (fun i wr => ∃ k : Nat, k ≤ n ∧ i = .int .i64 k ∧ (∀ j, j < k → (ms.getD j default).id ≠ id) ∧ wr = w) (fun i _ => n - (intOf i).toNat)
  case atStart => exact ⟨0, by omega, rfl, (fun j hj => by omega), rfl⟩
  case round =>
    obtain ⟨k, hk, rfl, hlo, rfl⟩ := hrel
    have Hlo := hide hlo
    clear hlo
    by_cases hk' : k < n
    · obtain ⟨b, off, rfl, hlt, s0, _⟩ := MemAt.at Hh.out (k := k) (by have := Hn.out; omega)
      obtain ⟨x, hx⟩ : ∃ x, ms.getD k default = x := ⟨_, rfl⟩
      rw [hx] at s0
      have Hx := hide hx
      have g2 : (k : Int) < (n : Int) := by omega
      clear hx
      obtain ⟨y, hy⟩ : ∃ y, x.id = y := ⟨_, rfl⟩
      rw [hy] at s0
      have Hy := hide hy
      clear hy
      by_cases hyi : y = id
      · have HE := hide (HF.out k hk' (by rw [Hx.out, Hy.out]; exact hyi) Hlo.out)
        have e0 : (y == id) = true := by simpa using hyi
        clear hyi
        go_wp2_with fail
        go_ret
        exact ⟨ret_int HE.out.symm, rfl⟩
      · have HE := hide hyi
        have e0 : (y == id) = false := by simpa using hyi
        clear hyi
        go_wp2_with fail
        go_roundw
        case rel =>
          refine ⟨k + 1, by omega, by go_num, fun j hj => ?_, by first | rfl | trivial⟩
          rcases Nat.lt_succ_iff_lt_or_eq.1 hj with hj | rfl
          · exact Hlo.out j hj
          · rw [Hx.out, Hy.out]; exact HE.out
        case measure => simp [intOf]; omega
    · have hkn : k = n := by omega
      subst hkn
      have HE := hide (HN.out Hlo.out)
      go_wp2_with fail
      go_ret
      exact ⟨ret_int HE.out.symm, rfl⟩
set_option maxHeartbeats 2000000 in
theorem placeOf_any (A : Option Addr) (c : Nat) (ms : List VMem) (id : Int) (w : World) (h : MemAt w A ms) (hm : ms.length ≤ 1048576) :
    Calls Try.prog 60 #[.slice A ms.length c, .int .i64 id] w (RetV (.int .i64 (atM ms id)) w) := by
  have Hh := hide h
  obtain ⟨n, hn⟩ : ∃ n, ms.length = n := ⟨_, rfl⟩
  have HN := hide (at_none (ms := ms) (id := id) hn)
  have HF := hide (fun k => at_found (ms := ms) (id := id) (k := k) hn)
  obtain ⟨R, hR⟩ : ∃ R, atM ms id = R := ⟨_, rfl⟩
  rw [hR] at HN HF ⊢
  rw [hn] at hm ⊢
  have Hn := hide hn
  clear hn h hR
  go_enter Try.func60, Try.ntmps60
  go_wp2_with fail
  go_loopw [9] (fun i wr => ∃ k : Nat, k ≤ n ∧ i = .int .i64 k ∧ (∀ j, j < k → (ms.getD j default).id ≠ id) ∧ Below w.heap.size w wr) (fun i _ => n - (intOf i).toNat)
  case atStart => exact ⟨0, by omega, rfl, (fun j hj => by omega), Below.refl _ _⟩
  case round =>
    obtain ⟨k, hk, rfl, hlo, hbl⟩ := hrel
    have Hlo := hide hlo
    have Hbl := hide hbl
    clear hlo hbl
    by_cases hk' : k < n
    · obtain ⟨b, off, rfl, hlt, s0, s1, H, ch, s2, _⟩ := MemAt.at (MemAt.below Hh.out Hbl.out) (k := k) (by have := Hn.out; omega)
      obtain ⟨x, hx⟩ : ∃ x, ms.getD k default = x := ⟨_, rfl⟩
      rw [hx] at s0 s1 s2
      have Hx := hide hx
      have g2 : (k : Int) < (n : Int) := by omega
      clear hx
      obtain ⟨y, hy⟩ : ∃ y, x.id = y := ⟨_, rfl⟩
      rw [hy] at s0
      have Hy := hide hy
      clear hy
      by_cases hyi : y = id
      · have HE := hide (HF.out k hk' (by rw [Hx.out, Hy.out]; exact hyi) Hlo.out)
        have e0 : (y == id) = true := by simpa using hyi
        clear hyi
        go_wp2_with fail
        go_ret
        refine retV_mk (by rw [HE.out]; rfl) ?_
        have bb := Hbl.out
        (repeat' (first | (with_reducible exact Below.refl _ _) | (with_reducible assumption) | (with_reducible refine Below.alloc ?_ ?_ _) | (with_reducible refine Below.setCell ?_ ?_ _) | (with_reducible refine Below.drew ?_) | (with_reducible refine below_drewN' ?_ _) | (with_reducible refine below_step (by assumption) ?_ ?_) | (with_reducible refine below_gstep (by assumption) ?_ ?_ ?_) | (with_reducible exact Below.size (by assumption)) | omega | (simp; done) | (simp; omega)))
      · have HE := hide hyi
        have e0 : (y == id) = false := by simpa using hyi
        clear hyi
        go_wp2_with fail
        go_roundw
        case rel =>
          refine ⟨k + 1, by omega, by go_num, fun j hj => ?_, ?_⟩
          · rcases Nat.lt_succ_iff_lt_or_eq.1 hj with hj | rfl
            · exact Hlo.out j hj
            · rw [Hx.out, Hy.out]; exact HE.out
          · have bb := Hbl.out
            have sb := bb.size
            (repeat' (first | (with_reducible exact Below.refl _ _) | (with_reducible assumption) | (with_reducible refine Below.alloc ?_ ?_ _) | (with_reducible refine Below.setCell ?_ ?_ _) | (with_reducible refine Below.drew ?_) | (with_reducible refine below_drewN' ?_ _) | (with_reducible refine below_step (by assumption) ?_ ?_) | (with_reducible refine below_gstep (by assumption) ?_ ?_ ?_) | (with_reducible exact Below.size (by assumption)) | omega | (simp; done) | (simp; omega)))
        case measure => simp [intOf]; omega
    · have hkn : k = n := by omega
      subst hkn
      have HE := hide (HN.out Hlo.out)
      go_wp2_with fail
      go_ret
      exact retV_mk (by rw [HE.out]; rfl) Hbl.out
end Go.Proofs.Ytjbengphioankaa
