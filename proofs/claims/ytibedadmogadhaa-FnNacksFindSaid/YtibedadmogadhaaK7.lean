/- NacksList of the reference: contract. -/
import Derived.Test.YtibedadmogadhaaK4
namespace Go.Proofs.Ytibedadmogadhaa
open Go.ChangeShapes Go.WideShapes Go.ChangeAt Go.RowKit Go.Deep

def NewIntsK (ys : List Int) (w : World) (e : Ending) (w' : World) : Prop :=
  ∃ g c, e = .returned (.slice (some ⟨g, 0, none⟩) ys.length c) ∧ w.heap.size ≤ g ∧ Own w' 3 1 g ys.length c (ys.map (Value.int .i64)) ∧ Below w.heap.size w w'
set_option maxHeartbeats 4000000 in
theorem l15List_any (x : VNack) (w : World) (hx : nackB x = true) :
    Calls Try.prog 57 #[.agg #[.int .i64 x.a0, .int .i64 x.a1]] w (NewIntsK (expand x) w) := by
  obtain ⟨h0, h1, h2, h3⟩ := of_decide_eq_true hx
  clear hx
  go_enter Try.func57, Try.ntmps57
  go_wp2_with fail
  refine rebase (fun wx => Row wx w.heap.size #[.int .i64 x.a0, .int .i64 x.a1] ∧ Own wx 3 1 (w.heap.size + 1) 1 1 ([x.a0].map (Value.int .i64)) ∧ Below w.heap.size w wx) ⟨(Row.new _ _ _).alloc _, Own.new1 _ _ #[.int .i64 x.a0] 3 1 1 (by unfold maxLen; omega) rfl, by (repeat' (first | (with_reducible exact Below.refl _ _) | (with_reducible assumption) | (with_reducible refine Below.alloc ?_ ?_ _) | (with_reducible refine Below.setCell ?_ ?_ _) | (with_reducible refine Below.drew ?_) | (with_reducible refine below_drewN' ?_ _) | (with_reducible refine below_step (by assumption) ?_ ?_) | (with_reducible refine below_gstep (by assumption) ?_ ?_ ?_) | (with_reducible exact Below.size (by assumption)) | omega | (simp; done) | (simp; omega)))⟩ ?_
  rintro wq ⟨rq, oq, bq⟩
  go_loopw [3, 4, 5] (fun s mk i wr => ∃ (j m g cp : Nat), s = .slice (some ⟨g, 0, none⟩) m cp ∧ mk = .int .i64 (x.a1 / 2 ^ j) ∧ i = .int .i64 (j + 1 : Nat) ∧ j ≤ 16 ∧ w.heap.size < g ∧ m = (expandTo x j).length ∧ Own wr 3 1 g m cp ((expandTo x j).map (Value.int .i64)) ∧ Row wr w.heap.size #[.int .i64 x.a0, .int .i64 x.a1] ∧ Below w.heap.size w wr) (fun _ _ i _ => 17 - (intOf i).toNat)
  case atStart => exact ⟨0, 1, _, _, rfl, by simp, rfl, by omega, by omega, rfl, oq, rq, bq⟩
  case round =>
    clear oq rq bq
    obtain ⟨j, m, g, cp, rfl, rfl, rfl, hj, hg, hmm, oz, ⟨cX, fX, lX⟩, hbl⟩ := hrel
    have lz := oz.lt
    have sz := hbl.size
    have hel := expandTo_len x j
    have hm : m ≤ 17 := by omega
    have hp := pow_pos j
    have v0 := Int.ediv_nonneg h2 (Int.le_of_lt hp)
    have v1 : x.a1 / 2 ^ j ≤ x.a1 := Int.ediv_le_self _ h2
    have hdd : x.a1 / 2 ^ j / 2 = x.a1 / 2 ^ (j + 1) := by rw [Int.ediv_ediv_of_nonneg (Int.le_of_lt hp), Int.pow_succ]
    obtain ⟨v, hv⟩ : ∃ v, x.a1 / 2 ^ j = v := ⟨_, rfl⟩
    have hbv : exB x.a1 j = (v % 2 == 1) := by unfold exB; rw [hv]
    rw [hv] at v0 v1 hdd ⊢
    have Hm := hide hmm
    have Hbl := hide hbl
    have Hdd := hide hdd
    have hs := expandTo_succ x j
    obtain ⟨i, hi⟩ : ∃ i, i = j + 1 := ⟨_, rfl⟩
    rw [← hi] at hs ⊢
    have Hi := hide hi
    have i0 : 1 ≤ i := by omega
    have i1 : i ≤ 17 := by omega
    clear hmm hbl hel hp hv hdd
    by_cases hj16 : i < 17
    · have g3 : (i : Int) ≤ 16 := by omega
      clear hi
      by_cases hbit : v % 2 = 1
      · have hb : (v % 2 == 1) = true := by simpa using hbit
        rw [hbv, hb, if_pos rfl] at hs
        have Hs := hide hs
        clear hs hbit hbv
        go_wp2_with (first | (at_builtin; refine wpList_append_1 rfl _ _ _ rfl elemI rfl oz #[.int .i64 (x.a0 + (i : Int))] rfl rfl rfl (by omega) ?_; intro g8 cp8 w8 oz8 hg8 hat8))
        have b8 : Below w.heap.size w w8 := Hbl.out.grown hg8 sz (by intro k hk; simp at hk; omega)
        have r8 : Row w8 w.heap.size #[.int .i64 x.a0, .int .i64 x.a1] := Row.grown ⟨cX, fX, lX⟩ hg8 (by omega)
        clear cX fX hg8 oz hb
        go_roundw
        case rel =>
          have hi := Hi.out
          refine ⟨i, m + 1, g8, cp8, rfl, by rw [Hdd.out, ← hi], by go_num, by omega, by omega, ?_, oz8.conv ?_, r8, b8⟩
          · rw [Hs.out, List.length_append, ← Hm.out]; rfl
          · rw [Hs.out, show x.a0 + 1 + ((j : Nat) : Int) = x.a0 + (i : Int) by omega]; simp
        case measure => simp [intOf]; omega
      · have hb : (v % 2 == 1) = false := by simpa using hbit
        rw [hbv, hb, if_neg (by simp)] at hs
        have Hs := hide hs
        have Hoz := hide oz
        clear hs hbit hbv oz
        go_wp2_with fail
        go_roundw
        case rel =>
          have hi := Hi.out
          refine ⟨i, m, g, cp, rfl, by rw [Hdd.out, ← hi], by go_num, by omega, by omega, ?_, Hoz.out.conv ?_, ⟨cX, fX, lX⟩, Hbl.out⟩
          · rw [Hs.out]; exact Hm.out
          · rw [Hs.out]
        case measure => simp [intOf]; omega
    · have hj' : j = 16 := by omega
      have hi' : i = 17 := by omega
      subst hj' hi'
      have Hoz := hide oz
      clear oz hi hs hbv
      go_wp2_with fail
      go_ret
      have hm := Hm.out
      subst hm
      exact ⟨g, cp, rfl, by omega, Hoz.out, Hbl.out⟩
theorem own_src {w : World} {e size g n c : Nat} {xs : List Value} (h : Own w e size g n c xs) : ∀ j u, xs[j]? = some u → w.cell? ((⟨g, 0, none⟩ : Addr).add j) = some u := by
  intro j u hu
  rw [addr_add, Nat.zero_add]
  have hj : j < xs.length := (List.getElem?_eq_some_iff.1 hu).1
  rw [h.cell (by rw [← h.len]; exact hj)]
  exact hu
theorem ints_one (zs : List Int) : ∀ u ∈ zs.map (Value.int .i64), u.oneCell' = true := by
  intro u hu
  obtain ⟨z, _, rfl⟩ := List.mem_map.1 hu
  rfl
theorem expands_ge (ns : List VNack) : ns.length ≤ (expands ns).length := by
  unfold expands
  induction ns with
  | nil => simp
  | cons x t ih =>
    rw [List.map_cons, List.flatten_cons, List.length_append, List.length_cons]
    have : 1 ≤ (expand x).length := by unfold expand expandTo; simp
    omega
theorem list_many {ns : List VNack} (h : 60 < ns.length) {ys : List Int} {B : Bool} (hR : relNacksList ns ys B) : ys = [] ∧ B = false := by
  refine list_long (k := ns.length) ?_ hR
  rw [List.take_length]
  have := expands_ge ns
  omega
set_option maxHeartbeats 4000000 in
theorem specNacksList (A : Option Addr) (c : Nat) (ns : List VNack) (ys : List Int) (B : Bool) (w : World) (hR : relNacksList ns ys B) (h : NackAt w A ns) (hm : ns.length ≤ 1048576) :
    Calls Try.prog 38 #[.slice A ns.length c] w (NewIntsB ys B w) := by
  have HR := hide hR
  have Hh := hide h
  have Ho := hide (Own.new w #[] 3 1 0 (by unfold maxLen; omega) rfl)
  clear hR h
  obtain ⟨n, hn⟩ : ∃ n, ns.length = n := ⟨_, rfl⟩
  rw [hn] at hm ⊢
  have Hn := hide hn
  by_cases hbig : 60 < n
  · have q : (60 : Int) < (n : Int) := by omega
    obtain ⟨e1, e2⟩ := list_many (by rw [hn]; exact hbig) HR.out
    have E1 := hide e1
    have E2 := hide e2
    clear hn e1 e2
    go_enter Try.func38, Try.ntmps38
    go_wp2_with fail
    go_ret2
    exact newIntsB_mk (xs := []) E2.out.symm E1.out.symm rfl (Nat.le_refl _) Ho.out (by (repeat' (first | (with_reducible exact Below.refl _ _) | (with_reducible assumption) | (with_reducible refine Below.alloc ?_ ?_ _) | (with_reducible refine Below.setCell ?_ ?_ _) | (with_reducible refine Below.drew ?_) | (with_reducible refine below_drewN' ?_ _) | (with_reducible refine below_step (by assumption) ?_ ?_) | (with_reducible refine below_gstep (by assumption) ?_ ?_ ?_) | (with_reducible exact Below.size (by assumption)) | omega | (simp; done) | (simp; omega))))
  · have q : ¬ (60 : Int) < (n : Int) := by omega
    clear hn
    go_enter Try.func38, Try.ntmps38
    go_wp2_with fail
    go_loopw [4, 5] (fun s i wr => ∃ (k m g cp : Nat), s = .slice (some ⟨g, 0, none⟩) m cp ∧ i = .int .i64 k ∧ k ≤ n ∧ w.heap.size ≤ g ∧ m = (expands (ns.take k)).length ∧ m ≤ 17 * k ∧ (∀ i, i < k → nackB (ns.getD i default) = true) ∧ Own wr 3 1 g m cp ((expands (ns.take k)).map (Value.int .i64)) ∧ Below w.heap.size w wr) (fun _ i _ => n - (intOf i).toNat)
    case atStart =>
      refine ⟨0, 0, _, _, rfl, rfl, by omega, Nat.le_refl _, rfl, by omega, fun i hi => by omega, Ho.out, ?_⟩
      (repeat' (first | (with_reducible exact Below.refl _ _) | (with_reducible assumption) | (with_reducible refine Below.alloc ?_ ?_ _) | (with_reducible refine Below.setCell ?_ ?_ _) | (with_reducible refine Below.drew ?_) | (with_reducible refine below_drewN' ?_ _) | (with_reducible refine below_step (by assumption) ?_ ?_) | (with_reducible refine below_gstep (by assumption) ?_ ?_ ?_) | (with_reducible exact Below.size (by assumption)) | omega | (simp; done) | (simp; omega)))
    case round =>
      obtain ⟨k, m, g, cp, rfl, rfl, hk, hg, hmm, hm60, hall, oz, hbl⟩ := hrel
      have lz := oz.lt
      have sz := hbl.size
      have Hm := hide hmm
      have Hall := hide hall
      have Hbl := hide hbl
      clear hmm hall hbl
      by_cases hk' : k < n
      · obtain ⟨b, off, rfl, hlt, hc⟩ := NackAt.at Hh.out (by have := Hn.out; omega)
        obtain ⟨hA, hB⟩ := hc k (by have := Hn.out; omega)
        obtain ⟨x, hx⟩ : ∃ x, ns.getD k default = x := ⟨_, rfl⟩
        rw [hx] at hA hB
        replace hA := (Hbl.out.cell (p := ⟨b, off + k * 2, none⟩) hlt).trans hA
        replace hB := (Hbl.out.cell (p := ⟨b, off + k * 2 + 1, none⟩) hlt).trans hB
        have Hx := hide hx
        have g2 : (k : Int) < (n : Int) := by omega
        clear hc hx
        by_cases hw : nackB x = true
        · obtain ⟨w1, w2, w3, w4⟩ := of_decide_eq_true hw
          have d1 : decide (0 ≤ x.a0 ∧ x.a0 ≤ 999999) = true := decide_eq_true ⟨w1, w2⟩
          have w5 : x.a1 ≤ 65535 := by omega
          have d2 : decide (0 ≤ x.a1 ∧ x.a1 ≤ 65535) = true := decide_eq_true ⟨w3, w5⟩
          have Hw := hide hw
          clear hw
          go_wp2_with (first | (go_at_call 56; refine (l6In_any _ _ _ _).mono ?_; rintro e w' ⟨rfl, rfl⟩))
          refine (l15List_any x _ Hw.out).mono ?_
          rintro e w5 ⟨g5, c5, rfl, hg5, o5, hb5⟩
          have oz1 := oz.below hb5
          have b5 := Hbl.out.trans (hb5.mono sz)
          have hxl : (expand x).length ≤ 17 := expandTo_len x 16
          obtain ⟨q5, hq5⟩ : ∃ q, (expand x).length = q := ⟨_, rfl⟩
          rw [hq5] at o5 hxl ⊢
          have Hq5 := hide hq5
          have s5 := b5.size
          have hne : g ≠ g5 := by omega
          clear hb5 oz hq5 hA hB d1 d2 Hbl
          have A1 := hide o5.len
          have A2 := hide (own_src o5)
          have A3 := hide (ints_one (expand x))
          have hby : (m + q5) * 8 ≤ 140737488355328 := by omega
          go_wp2_with (first | (at_builtin; refine wpList_append_m rfl _ _ _ rfl elemI rfl oz1 ⟨g5, 0, none⟩ q5 c5 rfl ((expand x).map (Value.int .i64)) A1.out A2.out A3.out hby ?_; intro g7 cp7 w7 oz7 hg7 hat7))
          have b7 : Below w.heap.size w w7 := b5.grown hg7 s5 (by intro k hk; simp at hk; omega)
          clear hg7 oz1 b5 A2 o5
          go_roundw
          case rel =>
            have e : expands (ns.take (k + 1)) = expands (ns.take k) ++ expand x := by
              rw [expands_take ns k (by rw [Hn.out]; exact hk'), Hx.out]
            refine ⟨k + 1, m + q5, g7, cp7, rfl, by go_num, by omega, by omega, ?_, by omega, ?_, oz7.conv ?_, b7⟩
            · rw [e, List.length_append, Hq5.out, ← Hm.out]
            · intro i hi
              rcases Nat.lt_succ_iff_lt_or_eq.1 hi with hi | rfl
              · exact Hall.out i hi
              · rw [Hx.out]; exact Hw.out
            · rw [e, List.map_append]
          case measure => simp [intOf]; omega
        · have Hw := hide hw
          have hw' : ¬ (0 ≤ x.a0 ∧ x.a0 ≤ 999999) ∨ (0 ≤ x.a0 ∧ x.a0 ≤ 999999) ∧ ¬ (0 ≤ x.a1 ∧ x.a1 ≤ 65535) := by
            by_cases h1 : 0 ≤ x.a0 ∧ x.a0 ≤ 999999
            · exact .inr ⟨h1, fun h2 => hw (decide_eq_true ⟨h1.1, h1.2, h2.1, by omega⟩)⟩
            · exact .inl h1
          clear hw
          obtain ⟨e1, e2⟩ := list_bad (by rw [Hn.out]; exact hk') (by rw [Hx.out]; simpa using Hw.out) HR.out
          have E1 := hide e1
          have E2 := hide e2
          clear e1 e2 oz
          rcases hw' with hw' | ⟨hw1, hw'⟩
          · have d1 : decide (0 ≤ x.a0 ∧ x.a0 ≤ 999999) = false := decide_eq_false hw'
            go_wp2_with (first | (go_at_call 56; refine (l6In_any _ _ _ _).mono ?_; rintro e w' ⟨rfl, rfl⟩))
            go_ret2
            have hbl := Hbl.out
            refine newIntsB_mk (xs := []) E2.out.symm E1.out.symm rfl ?_ (Own.new _ #[] 3 1 0 (by unfold maxLen; omega) rfl) ?_
            · omega
            · (repeat' (first | (with_reducible exact Below.refl _ _) | (with_reducible assumption) | (with_reducible refine Below.alloc ?_ ?_ _) | (with_reducible refine Below.setCell ?_ ?_ _) | (with_reducible refine Below.drew ?_) | (with_reducible refine below_drewN' ?_ _) | (with_reducible refine below_step (by assumption) ?_ ?_) | (with_reducible refine below_gstep (by assumption) ?_ ?_ ?_) | (with_reducible exact Below.size (by assumption)) | omega | (simp; done) | (simp; omega)))
          · have d1 : decide (0 ≤ x.a0 ∧ x.a0 ≤ 999999) = true := decide_eq_true hw1
            have d2 : decide (0 ≤ x.a1 ∧ x.a1 ≤ 65535) = false := decide_eq_false hw'
            go_wp2_with (first | (go_at_call 56; refine (l6In_any _ _ _ _).mono ?_; rintro e w' ⟨rfl, rfl⟩))
            go_ret2
            have hbl := Hbl.out
            refine newIntsB_mk (xs := []) E2.out.symm E1.out.symm rfl ?_ (Own.new _ #[] 3 1 0 (by unfold maxLen; omega) rfl) ?_
            · omega
            · (repeat' (first | (with_reducible exact Below.refl _ _) | (with_reducible assumption) | (with_reducible refine Below.alloc ?_ ?_ _) | (with_reducible refine Below.setCell ?_ ?_ _) | (with_reducible refine Below.drew ?_) | (with_reducible refine below_drewN' ?_ _) | (with_reducible refine below_step (by assumption) ?_ ?_) | (with_reducible refine below_gstep (by assumption) ?_ ?_ ?_) | (with_reducible exact Below.size (by assumption)) | omega | (simp; done) | (simp; omega)))
      · have hkn : k = n := by omega
        subst hkn
        have ht : ns.take k = ns := List.take_of_length_le (by have := Hn.out; omega)
        rw [ht] at oz Hm
        have hend := list_end (fun i hi => Hall.out i (by have := Hn.out; omega)) HR.out
        obtain rfl := Hm.out
        have K := hide (l15Numbers_any _ cp (expands ns) wr (own_ints oz) (by omega))
        have e1 := hend.1
        unfold ascB at e1
        rw [e1] at K
        have Hoz := hide oz
        have Hend := hide hend.2
        clear oz hend ht e1
        cases B
        · have Hy := hide (Hend.out.2 rfl)
          clear Hend
          go_wp2_with fail
          refine K.out.mono ?_
          rintro e w1 ⟨rfl, n1, rfl⟩
          go_wp2_with fail
          go_ret2
          have hbl := below_drewN' Hbl.out n1
          refine newIntsB_mk (xs := []) rfl Hy.out.symm rfl ?_ (Own.new _ #[] 3 1 0 (by unfold maxLen; omega) rfl) ?_
          · (first | omega | (simp; done) | (simp; omega))
          · (repeat' (first | (with_reducible exact Below.refl _ _) | (with_reducible assumption) | (with_reducible refine Below.alloc ?_ ?_ _) | (with_reducible refine Below.setCell ?_ ?_ _) | (with_reducible refine Below.drew ?_) | (with_reducible refine below_drewN' ?_ _) | (with_reducible refine below_step (by assumption) ?_ ?_) | (with_reducible refine below_gstep (by assumption) ?_ ?_ ?_) | (with_reducible exact Below.size (by assumption)) | omega | (simp; done) | (simp; omega)))
        · have Hy := hide (Hend.out.1 rfl)
          clear Hend
          go_wp2_with fail
          refine K.out.mono ?_
          rintro e w1 ⟨rfl, n1, rfl⟩
          go_wp2_with fail
          go_ret2
          exact newIntsB_mk (xs := expands ns) rfl Hy.out.symm rfl hg (Hoz.out.drewN n1) (below_drewN' Hbl.out n1)
end Go.Proofs.Ytibedadmogadhaa
