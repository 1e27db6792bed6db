/- NacksOf, of both: contracts. -/
import Derived.Test.YtibedadmogadhaaI3
import Derived.Test.YtibedadmogadhaaO2
import Derived.Test.YtibedadmogadhaaAS
import Derived.RegionTactic
import Derived.ChangeAlike
namespace Go.Proofs.Ytibedadmogadhaa
open Go.ChangeShapes Go.WideShapes Go.ChangeAt Go.RowKit Go.Deep

def NewNackB (ys : List VNack) (B : Bool) (w : World) (e : Ending) (w' : World) : Prop :=
  ∃ g c, e = .returned (.tuple #[.slice (some ⟨g, 0, none⟩) ys.length c, .bool B]) ∧ w.heap.size ≤ g ∧ Own w' 48 2 g ys.length c (ys.map VNack.cells).flatten ∧ Below w.heap.size w w'
theorem elemN : ElemOf Try.prog 23 48 2 16 := elemOf Try.underlying23 infoNack rfl (by omega) (by omega)
def relNacksOf (zs : List Int) (ys : List VNack) (B : Bool) : Prop := ascB zs = true ∧ ys = nk zs ∧ B = true ∨ ascB zs = false ∧ ys = [] ∧ B = false
theorem relNacksOf_some (zs : List Int) : ∃ ys B, relNacksOf zs ys B := by
  by_cases h : ascB zs = true
  · exact ⟨_, _, .inl ⟨h, rfl, rfl⟩⟩
  · exact ⟨_, _, .inr ⟨by simpa using h, rfl, rfl⟩⟩
theorem pow_shift (x b : Int) (h0 : 0 < x - b) (h1 : x - b ≤ 16) : ∃ d : Nat, d < 16 ∧ x - b - 1 = (d : Nat) := ⟨(x - b - 1).toNat, by omega, by omega⟩
theorem i64_or (a b : Int) (h0 : 0 ≤ a) (h1 : a < 65536) (h2 : 0 ≤ b) (h3 : b < 65536) : bits .or .i64 a b = ((a.toNat ||| b.toNat : Nat) : Int) := by
  obtain ⟨n, rfl⟩ := Int.eq_ofNat_of_zero_le h0
  obtain ⟨m, rfl⟩ := Int.eq_ofNat_of_zero_le h2
  have hx : n ||| m < 2 ^ 16 := Nat.or_lt_two_pow (by omega) (by omega)
  show IntKind.i64.wrap ((BitVec.ofInt 64 (n : Int) ||| BitVec.ofInt 64 (m : Int)).toNat : Int) = _
  rw [BitVec.toNat_or, ofInt_i64 n (by omega), ofInt_i64 m (by omega), IntKind.wrap_i64]
  simp only [Int.toNat_natCast]
  omega
theorem or_pow (m : Int) (d : Nat) (hd : d < 16) (h0 : 0 ≤ m) (h1 : m < 2 ^ d) : bits .or .i64 m (2 ^ d) = m + 2 ^ d := by
  have h16 : (2 : Int) ^ d ≤ 2 ^ 15 := pow_le (by omega)
  have hp := pow_pos d
  have e15 : (2 : Int) ^ 15 = 32768 := by decide
  rw [i64_or m _ h0 (by omega) (by omega) (by omega)]
  obtain ⟨n, rfl⟩ := Int.eq_ofNat_of_zero_le h0
  have e : (2 : Int) ^ d = ((2 ^ d : Nat) : Int) := by simp
  rw [e] at h1 ⊢
  have hn : n < 2 ^ d := by exact_mod_cast h1
  simp only [Int.toNat_natCast]
  have h2 := Nat.two_pow_add_eq_or_of_lt hn 1
  rw [Nat.mul_one] at h2
  rw [Nat.or_comm, ← h2]
  push_cast
  omega
theorem wrap_pow (d : Nat) (hd : d < 16) : wrap64 (2 ^ d) = 2 ^ d := by
  have h16 : (2 : Int) ^ d ≤ 2 ^ 15 := pow_le (by omega)
  have hp := pow_pos d
  have e15 : (2 : Int) ^ 15 = 32768 := by decide
  unfold wrap64
  omega
theorem set_mask (front : List VNack) (a m m' : Int) : ((front ++ [(⟨a, m⟩ : VNack)]).map VNack.cells).flatten.set (front.length * 2 + 1) (.int .i64 m') = ((front ++ [(⟨a, m'⟩ : VNack)]).map VNack.cells).flatten := by
  rw [(flatNack _).set front.length 1 (by omega)]
  congr 1
  apply List.ext_getElem?
  intro i
  simp only [List.getElem?_modify, List.getElem?_map]
  rcases Nat.lt_trichotomy i front.length with h | h | h
  · simp [List.getElem?_append, h, Nat.ne_of_gt h]
  · subst h
    simp [VNack.cells]
  · simp [List.getElem?_append, show ¬ i < front.length by omega, show i - front.length ≠ 0 by omega, show front.length ≠ i by omega]
set_option maxHeartbeats 4000000 in
theorem implNacksOf (A : Option Addr) (c : Nat) (zs : List Int) (ys : List VNack) (B : Bool) (w : World) (hR : relNacksOf zs ys B) (h : IntsAt w A zs) (hm : zs.length ≤ 1048576) :
    Calls Try.prog 18 #[.slice A zs.length c] w (NewNackB ys B w) := by
  rcases hR with ⟨ha, rfl, rfl⟩ | ⟨ha, rfl, rfl⟩
  · have HI := nk_inv zs
    obtain ⟨hok, hl60⟩ := of_decide_eq_true ha
    have Hok := hide hok
    clear hok HI
    have K := hide (ascendValid_any A c zs w h (by omega))
    rw [ha] at K
    have Hh := hide h
    clear h ha
    obtain ⟨n, hn⟩ : ∃ n, zs.length = n := ⟨_, rfl⟩
    rw [hn] at hm hl60 Hok K ⊢
    have Hn := hide hn
    clear hn
    have Ho := hide (Own.new w #[] 48 2 0 (by unfold maxLen; omega) rfl)
    go_enter Try.func18, Try.ntmps18
    go_wp2_with fail
    refine K.out.mono ?_
    rintro e w1 ⟨rfl, rfl⟩
    go_wp2_with fail
    go_loopw [4, 15] (fun s i wr => ∃ (k m g cp : Nat), s = .slice (some ⟨g, 0, none⟩) m cp ∧ i = .int .i64 k ∧ k ≤ n ∧ w1.heap.size ≤ g ∧ m = (nk (zs.take k)).length ∧ Own wr 48 2 g m cp ((nk (zs.take k)).map VNack.cells).flatten ∧ Below w1.heap.size w1 wr) (fun _ i _ => n - (intOf i).toNat)
    case atStart =>
      refine ⟨0, 0, _, _, rfl, rfl, by omega, Nat.le_refl _, rfl, Ho.out, ?_⟩
      (repeat' (first | (with_reducible exact Below.refl _ _) | (with_reducible assumption) | (with_reducible refine Below.alloc ?_ ?_ _) | (with_reducible refine Below.setCell ?_ ?_ _) | (with_reducible refine Below.drew ?_) | (with_reducible refine below_drewN' ?_ _) | (with_reducible refine below_step (by assumption) ?_ ?_) | (with_reducible refine below_gstep (by assumption) ?_ ?_ ?_) | (with_reducible exact Below.size (by assumption)) | omega | (simp; done) | (simp; omega)))
    case round =>
      obtain ⟨k, m, g, cp, rfl, rfl, hk, hg, hmm, oz, hbl⟩ := hrel
      have lz := oz.lt
      have sz := hbl.size
      by_cases hk' : k < n
      · have g2 : (k : Int) < (n : Int) := by omega
        rcases Hh.out with h0 | ⟨b, off, rfl, hlt, hc⟩
        · have := Hn.out
          rw [h0] at this
          simp at this
          omega
        · have hz := (hbl.cell (p := ⟨b, off + k, none⟩) hlt).trans (hc k (by have := Hn.out; omega))
          clear hc
          obtain ⟨x, hx⟩ : ∃ x, zs.getD k 0 = x := ⟨_, rfl⟩
          rw [hx] at hz
          have hs := nk_step (by rw [Hn.out]; exact Hok.out) (by rw [Hn.out]; exact hk') hx
          clear hx
          rcases hs with ⟨e0, e1⟩ | ⟨front, a, msk, e0, hfl, ha0, hax, hx9, hm0, hm1, ⟨hgt, e1⟩ | ⟨d, hd, hdx, hmd, e1⟩⟩
          · rw [e0] at oz hmm
            simp only [List.length_nil] at hmm
            subst hmm
            have E1 := hide e1
            have Hbl := hide hbl
            clear e0 e1 hbl
            go_wp2_with (first | (at_builtin; refine wpList_append_1 rfl _ _ _ rfl elemN rfl oz #[.int .i64 x, .int .i64 0] rfl rfl rfl (by omega) ?_; intro g' cp' w7 oz' hg7 hat7))
            have hb7 : Below w1.heap.size w1 w7 := Hbl.out.grown hg7 sz (by intro k hk; simp at hk; omega)
            clear hg7 oz Hbl
            go_roundw
            case rel =>
              refine ⟨k + 1, 1, g', cp', rfl, by go_num, by omega, by omega, by rw [E1.out]; rfl, oz'.conv (by rw [E1.out]; rfl), hb7⟩
            case measure => simp [intOf]; omega
          · rw [e0] at oz hmm
            simp only [List.length_append, List.length_singleton] at hmm
            subst hmm
            obtain ⟨j, hj⟩ : ∃ j, front.length = j := ⟨_, rfl⟩
            rw [hj] at oz hfl ⊢
            have cA : wr.cell? ⟨g, j * 2, none⟩ = some (.int .i64 a) := by
              rw [oz.cell (by omega)]
              have := (flatNack (front ++ [⟨a, msk⟩])).get j 0 (by omega)
              rw [Nat.add_zero] at this
              rw [this, List.getElem?_map, ← hj]
              simp [VNack.cells]
            have cM : wr.cell? ⟨g, j * 2 + 1, none⟩ = some (.int .i64 msk) := by
              rw [oz.cell (by omega)]
              have := (flatNack (front ++ [⟨a, msk⟩])).get j 1 (by omega)
              rw [this, List.getElem?_map, ← hj]
              simp [VNack.cells]
            have fM := oz.frozen (j * 2 + 1)
            have Hj := hide hj
            have E1 := hide e1
            have Hbl := hide hbl
            clear e0 e1 hbl hj
            have q1 : decide (16 < x - a) = true := decide_eq_true hgt
            go_wp2_with (first | (at_builtin; refine wpList_append_1 rfl _ _ _ rfl elemN rfl oz #[.int .i64 x, .int .i64 0] rfl rfl rfl (by omega) ?_; intro g' cp' w7 oz' hg7 hat7))
            have hb7 : Below w1.heap.size w1 w7 := Hbl.out.grown hg7 sz (by intro k hk; simp at hk; omega)
            clear hg7 oz Hbl
            go_roundw
            case rel =>
              refine ⟨k + 1, _, g', cp', rfl, by go_num, by omega, by omega, by rw [E1.out, ← Hj.out]; simp, oz'.conv (by rw [E1.out]; simp [VNack.cells]), hb7⟩
            case measure => simp [intOf]; omega
          · rw [e0] at oz hmm
            simp only [List.length_append, List.length_singleton] at hmm
            subst hmm
            obtain ⟨j, hj⟩ : ∃ j, front.length = j := ⟨_, rfl⟩
            rw [hj] at oz hfl ⊢
            have cA : wr.cell? ⟨g, j * 2, none⟩ = some (.int .i64 a) := by
              rw [oz.cell (by omega)]
              have := (flatNack (front ++ [⟨a, msk⟩])).get j 0 (by omega)
              rw [Nat.add_zero] at this
              rw [this, List.getElem?_map, ← hj]
              simp [VNack.cells]
            have cM : wr.cell? ⟨g, j * 2 + 1, none⟩ = some (.int .i64 msk) := by
              rw [oz.cell (by omega)]
              have := (flatNack (front ++ [⟨a, msk⟩])).get j 1 (by omega)
              rw [this, List.getElem?_map, ← hj]
              simp [VNack.cells]
            have fM := oz.frozen (j * 2 + 1)
            have Hj := hide hj
            have E1 := hide e1
            have Hbl := hide hbl
            clear e0 e1 hbl hj
            have OZ := hide oz
            clear oz
            go_wp2_with fail
            go_region
            go_wp2_with fail
            go_roundw
            case rel =>
              have hor := or_pow msk d hd hm0 hmd
              have hw := wrap_pow d hd
              refine ⟨k + 1, _, g, cp, rfl, by go_num, by omega, by omega, by rw [E1.out, ← Hj.out]; simp, ?_, ?_⟩
              · rw [hw, hor]
                exact ((OZ.out.set (j * 2 + 1) _).conv (by rw [← Hj.out, E1.out]; exact set_mask front a msk _)).drew
              · have hbl := Hbl.out
                (repeat' (first | (with_reducible exact Below.refl _ _) | (with_reducible assumption) | (with_reducible refine Below.alloc ?_ ?_ _) | (with_reducible refine Below.setCell ?_ ?_ _) | (with_reducible refine Below.drew ?_) | (with_reducible refine below_drewN' ?_ _) | (with_reducible refine below_step (by assumption) ?_ ?_) | (with_reducible refine below_gstep (by assumption) ?_ ?_ ?_) | (with_reducible exact Below.size (by assumption)) | omega | (simp; done) | (simp; omega)))
            case measure => simp [intOf]; omega
      · have hkn : k = n := by omega
        subst hkn
        have ht : zs.take k = zs := List.take_of_length_le (by have := Hn.out; omega)
        rw [ht] at oz hmm
        have Hm := hide hmm
        have Hbl := hide hbl
        clear hmm ht hbl
        go_wp2_with fail
        go_ret2
        refine ⟨g, cp, by rw [← Hm.out]; rfl, hg, by rw [← Hm.out]; exact oz, Hbl.out⟩
  · have K := hide (ascendValid_any A c zs w h (by omega))
    rw [ha] at K
    clear ha h
    go_enter Try.func18, Try.ntmps18
    go_wp2_with fail
    refine K.out.mono ?_
    rintro e w1 ⟨rfl, rfl⟩
    go_wp2_with fail
    go_ret2
    exact ⟨_, _, rfl, Nat.le_refl _, Own.new w1 #[] 48 2 0 (by unfold maxLen; omega) rfl, by (repeat' (first | (with_reducible exact Below.refl _ _) | (with_reducible assumption) | (with_reducible refine Below.alloc ?_ ?_ _) | (with_reducible refine Below.setCell ?_ ?_ _) | (with_reducible refine Below.drew ?_) | (with_reducible refine below_drewN' ?_ _) | (with_reducible refine below_step (by assumption) ?_ ?_) | (with_reducible refine below_gstep (by assumption) ?_ ?_ ?_) | (with_reducible exact Below.size (by assumption)) | omega | (simp; done) | (simp; omega)))⟩
theorem l15Power_any (d : Nat) (w : World) (hd : d < 16) : Calls Try.prog 54 #[.int .i64 (d : Int)] w fun e w' => e = .returned (.int .i64 (2 ^ d)) ∧ w' = w := by
  go_enter Try.func54, Try.ntmps54
  go_wp2_with fail
  go_loop [3, 4] (fun o i => ∃ k : Nat, k ≤ d ∧ i = .int .i64 k ∧ o = .int .i64 (2 ^ k)) (fun _ i => d - (intOf i).toNat)
  case atStart => exact ⟨0, by omega, rfl, rfl⟩
  case round =>
    obtain ⟨k, hk, rfl, rfl⟩ := hrel
    have h16 : (2 : Int) ^ k ≤ 2 ^ 16 := pow_le (by omega)
    have hp := pow_pos k
    have e16 : (2 : Int) ^ 16 = 65536 := by decide
    obtain ⟨p, hp1⟩ : ∃ p : Int, (2 : Int) ^ k = p := ⟨_, rfl⟩
    rw [hp1] at h16 hp ⊢
    rw [e16] at h16
    have Hp := hide hp1
    clear e16 hp1
    by_cases hkd : k < d
    · have g2 : (k : Int) < (d : Int) := by omega
      go_wp2_with fail
      go_round
      case rel =>
        refine ⟨k + 1, by omega, by go_num, ?_⟩
        rw [Int.pow_succ, Hp.out, Int.mul_comm]
      case measure => simp [intOf]; omega
    · have hkn : k = d := by omega
      subst hkn
      go_wp2_with fail
      go_ret
      exact ⟨by rw [Hp.out]; rfl, rfl⟩
theorem wrap_sum (m : Int) (d : Nat) (hd : d < 16) (h0 : 0 ≤ m) (h1 : m < 2 ^ d) : IntKind.i64.wrap (m + 2 ^ d) = m + 2 ^ d := by
  have h16 : (2 : Int) ^ d ≤ 2 ^ 15 := pow_le (by omega)
  have e15 : (2 : Int) ^ 15 = 32768 := by decide
  exact IntWalk.i64_in _ (by omega)
end Go.Proofs.Ytibedadmogadhaa
