/- NacksList of the program: contract. -/
import Derived.Test.YtibedadmogadhaaK3
import Derived.Deep.DeepCutAuto
namespace Go.Proofs.Ytibedadmogadhaa
open Go.ChangeShapes Go.WideShapes Go.ChangeAt Go.RowKit Go.Deep

def NewIntsB (ys : List Int) (B : Bool) (w : World) (e : Ending) (w' : World) : Prop :=
  ∃ g c, e = .returned (.tuple #[.slice (some ⟨g, 0, none⟩) ys.length c, .bool B]) ∧ w.heap.size ≤ g ∧ Own w' 3 1 g ys.length c (ys.map (Value.int .i64)) ∧ Below w.heap.size w w'
theorem newIntsB_mk {ys : List Int} {B B' : Bool} {w w' : World} {g c m : Nat} {xs : List Int} (hB : B' = B) (hx : xs = ys) (hm : m = xs.length) (hg : w.heap.size ≤ g) (ho : Own w' 3 1 g m c (xs.map (Value.int .i64))) (hb : Below w.heap.size w w') :
    NewIntsB ys B w (.returned (.tuple #[.slice (some ⟨g, 0, none⟩) m c, .bool B'])) w' := by subst hB hx hm; exact ⟨g, c, rfl, hg, ho, hb⟩
def listB (ns : List VNack) : Bool := ns.all nackB && ascB (expands ns)
def relNacksList (ns : List VNack) (ys : List Int) (B : Bool) : Prop := listB ns = true ∧ ys = expands ns ∧ B = true ∨ listB ns = false ∧ ys = [] ∧ B = false
theorem relNacksList_some (ns : List VNack) : ∃ ys B, relNacksList ns ys B := by
  by_cases h : listB ns = true
  · exact ⟨_, _, .inl ⟨h, rfl, rfl⟩⟩
  · exact ⟨_, _, .inr ⟨by simpa using h, rfl, rfl⟩⟩
theorem relList_len {ns : List VNack} {ys : List Int} {B : Bool} (h : relNacksList ns ys B) : ys.length ≤ 60 := by
  rcases h with ⟨h1, rfl, _⟩ | ⟨_, rfl, _⟩
  · unfold listB at h1
    rw [Bool.and_eq_true] at h1
    exact (of_decide_eq_true h1.2).2
  · simp
theorem list_bad {ns : List VNack} {k : Nat} (hk : k < ns.length) (h : nackB (ns.getD k default) = false) {ys : List Int} {B : Bool} (hR : relNacksList ns ys B) : ys = [] ∧ B = false := by
  rcases hR with ⟨h1, _, _⟩ | ⟨_, h2, h3⟩
  · unfold listB at h1
    rw [Bool.and_eq_true, List.all_eq_true] at h1
    have := h1.1 (ns.getD k default) (by rw [List.getD_eq_getElem?_getD, List.getElem?_eq_getElem hk]; exact List.getElem_mem hk)
    rw [h] at this
    cases this
  · exact ⟨h2, h3⟩
theorem expands_take (ns : List VNack) (k : Nat) (hk : k < ns.length) : expands (ns.take (k + 1)) = expands (ns.take k) ++ expand (ns.getD k default) := by
  unfold expands
  rw [List.take_add_one, List.getElem?_eq_getElem hk, List.getD_eq_getElem?_getD, List.getElem?_eq_getElem hk, List.map_append, List.flatten_append]
  simp
theorem list_long {ns : List VNack} {k : Nat} (h : 60 < (expands (ns.take k)).length) {ys : List Int} {B : Bool} (hR : relNacksList ns ys B) : ys = [] ∧ B = false := by
  rcases hR with ⟨h1, _, _⟩ | ⟨_, h2, h3⟩
  · unfold listB at h1
    rw [Bool.and_eq_true] at h1
    have h2 := (of_decide_eq_true h1.2).2
    have e : expands ns = expands (ns.take k) ++ expands (ns.drop k) := by
      unfold expands
      rw [← List.flatten_append, ← List.map_append, List.take_append_drop]
    rw [e, List.length_append] at h2
    omega
  · exact ⟨h2, h3⟩
theorem list_end {ns : List VNack} (h : ∀ i, i < ns.length → nackB (ns.getD i default) = true) {ys : List Int} {B : Bool} (hR : relNacksList ns ys B) : ascB (expands ns) = B ∧ (B = true → ys = expands ns) ∧ (B = false → ys = []) := by
  have ha : ns.all nackB = true := by
    rw [List.all_eq_true]
    intro x hx
    obtain ⟨i, hi, rfl⟩ := List.mem_iff_getElem.1 hx
    have := h i hi
    rwa [List.getD_eq_getElem?_getD, List.getElem?_eq_getElem hi] at this
  rcases hR with ⟨h1, h2, rfl⟩ | ⟨h1, h2, rfl⟩
  · unfold listB at h1
    rw [ha, Bool.true_and] at h1
    exact ⟨h1, fun _ => h2, fun h => Bool.noConfusion h⟩
  · unfold listB at h1
    rw [ha, Bool.true_and] at h1
    exact ⟨h1, fun h => Bool.noConfusion h, fun _ => h2⟩
theorem expandTo_succ (x : VNack) (j : Nat) : expandTo x (j + 1) = if exB x.a1 j = true then expandTo x j ++ [x.a0 + 1 + (j : Nat)] else expandTo x j := by
  unfold expandTo
  rw [List.range_succ, List.filter_append, List.map_append]
  by_cases h : exB x.a1 j = true <;> simp [h]
theorem expandTo_len (x : VNack) (j : Nat) : (expandTo x j).length ≤ j + 1 := by
  unfold expandTo
  have := List.length_filter_le (fun i => exB x.a1 i) (List.range j)
  rw [List.length_range] at this
  simp
  exact this
theorem and_one (v : Int) (h0 : 0 ≤ v) (h1 : v < 65536) : bits .and .i64 v 1 = v % 2 := by
  have := bits_mask .i64 16 (by decide) (fun n h0 h1 => IntWalk.i64_in n (by omega)) 1 (by omega) v h0 h1
  simpa using this
theorem bit_val {x : VNack} (h0 : 0 ≤ x.a1) (h1 : x.a1 < 65536) (j : Nat) : (bits .and .i64 (x.a1 / 2 ^ j) 1 == 1) = exB x.a1 j := by
  have hp := pow_pos j
  have a := Int.ediv_nonneg h0 (Int.le_of_lt hp)
  have b : x.a1 / 2 ^ j ≤ x.a1 := Int.ediv_le_self _ h0
  rw [and_one _ a (by omega)]
  rfl
set_option maxHeartbeats 4000000 in
theorem implNacksList (A : Option Addr) (c : Nat) (ns : List VNack) (ys : List Int) (B : Bool) (w : World) (hR : relNacksList ns ys B) (h : NackAt w A ns) (hm : ns.length ≤ 1048576) :
    Calls Try.prog 36 #[.slice A ns.length c] w (NewIntsB ys B w) := by
  have HR := hide hR
  have Hh := hide h
  have Ho := hide (Own.new w #[] 3 1 0 (by unfold maxLen; omega) rfl)
  clear hR h
  obtain ⟨n, hn⟩ : ∃ n, ns.length = n := ⟨_, rfl⟩
  rw [hn] at hm ⊢
  have Hn := hide hn
  clear hn
  go_enter Try.func36, Try.ntmps36
  go_wp2_with fail
  go_loopw [4, 11] (fun s i wr => ∃ (k m g cp : Nat), s = .slice (some ⟨g, 0, none⟩) m cp ∧ i = .int .i64 k ∧ k ≤ n ∧ w.heap.size ≤ g ∧ m = (expands (ns.take k)).length ∧ m ≤ 60 ∧ (∀ i, i < k → nackB (ns.getD i default) = true) ∧ Own wr 3 1 g m cp ((expands (ns.take k)).map (Value.int .i64)) ∧ Below w.heap.size w wr) (fun _ i _ => n - (intOf i).toNat)
  case atStart =>
    refine ⟨0, 0, _, _, rfl, rfl, by omega, Nat.le_refl _, rfl, by omega, fun i hi => by omega, Ho.out, ?_⟩
    (repeat' (first | (with_reducible exact Below.refl _ _) | (with_reducible assumption) | (with_reducible refine Below.alloc ?_ ?_ _) | (with_reducible refine Below.setCell ?_ ?_ _) | (with_reducible refine Below.drew ?_) | (with_reducible refine below_drewN' ?_ _) | (with_reducible refine below_step (by assumption) ?_ ?_) | (with_reducible refine below_gstep (by assumption) ?_ ?_ ?_) | (with_reducible exact Below.size (by assumption)) | omega | (simp; done) | (simp; omega)))
  case round =>
    obtain ⟨k, m, g, cp, rfl, rfl, hk, hg, hmm, hm60, hall, oz, hbl⟩ := hrel
    have lz := oz.lt
    have sz := hbl.size
    have Hm := hide hmm
    have Hall := hide hall
    have Hbl := hide hbl
    clear hmm hall hbl
    by_cases hk' : k < n
    · obtain ⟨b, off, rfl, hlt, hc⟩ := NackAt.at Hh.out (by have := Hn.out; omega)
      obtain ⟨hA, hB⟩ := hc k (by have := Hn.out; omega)
      obtain ⟨x, hx⟩ : ∃ x, ns.getD k default = x := ⟨_, rfl⟩
      rw [hx] at hA hB
      replace hA := (Hbl.out.cell (p := ⟨b, off + k * 2, none⟩) hlt).trans hA
      replace hB := (Hbl.out.cell (p := ⟨b, off + k * 2 + 1, none⟩) hlt).trans hB
      have Hx := hide hx
      have g2 : (k : Int) < (n : Int) := by omega
      clear hc hx
      by_cases hw1 : 0 ≤ x.a0 ∧ x.a0 ≤ 999999
      · have d1 : decide (0 ≤ x.a0 ∧ x.a0 ≤ 999999) = true := decide_eq_true hw1
        by_cases hw2 : x.a1 < 0
        · have Hoz := hide oz
          clear oz
          go_wp2_with (go_at_call 55; refine (wideValid_any _ _).mono ?_; rintro e w' ⟨rfl, rfl⟩)
          go_ret2
          obtain ⟨e1, e2⟩ := list_bad (by rw [Hn.out]; exact hk') (by rw [Hx.out]; exact decide_eq_false (by omega)) HR.out
          have hbl := Hbl.out
          refine newIntsB_mk (xs := []) e2.symm e1.symm rfl ?_ (Own.new1 _ _ #[] 3 1 0 (by unfold maxLen; omega) rfl) ?_
          · (first | omega | (simp; done) | (simp; omega))
          · (repeat' (first | (with_reducible exact Below.refl _ _) | (with_reducible assumption) | (with_reducible refine Below.alloc ?_ ?_ _) | (with_reducible refine Below.setCell ?_ ?_ _) | (with_reducible refine Below.drew ?_) | (with_reducible refine below_drewN' ?_ _) | (with_reducible refine below_step (by assumption) ?_ ?_) | (with_reducible refine below_gstep (by assumption) ?_ ?_ ?_) | (with_reducible exact Below.size (by assumption)) | omega | (simp; done) | (simp; omega)))
        · by_cases hw3 : 65536 ≤ x.a1
          · have Hoz := hide oz
            clear oz
            go_wp2_with (go_at_call 55; refine (wideValid_any _ _).mono ?_; rintro e w' ⟨rfl, rfl⟩)
            go_ret2
            obtain ⟨e1, e2⟩ := list_bad (by rw [Hn.out]; exact hk') (by rw [Hx.out]; exact decide_eq_false (by omega)) HR.out
            have hbl := Hbl.out
            refine newIntsB_mk (xs := []) e2.symm e1.symm rfl ?_ (Own.new1 _ _ #[] 3 1 0 (by unfold maxLen; omega) rfl) ?_
            · (first | omega | (simp; done) | (simp; omega))
            · (repeat' (first | (with_reducible exact Below.refl _ _) | (with_reducible assumption) | (with_reducible refine Below.alloc ?_ ?_ _) | (with_reducible refine Below.setCell ?_ ?_ _) | (with_reducible refine Below.drew ?_) | (with_reducible refine below_drewN' ?_ _) | (with_reducible refine below_step (by assumption) ?_ ?_) | (with_reducible refine below_gstep (by assumption) ?_ ?_ ?_) | (with_reducible exact Below.size (by assumption)) | omega | (simp; done) | (simp; omega)))
          · have hx2 : nackB x = true := decide_eq_true ⟨hw1.1, hw1.2, by omega, by omega⟩
            have Hx2 := hide hx2
            have hw2' : 0 ≤ x.a1 := by omega
            have hw3' : x.a1 < 65536 := by omega
            clear hx2
            go_upto_region 7 with (go_at_call 55; refine (wideValid_any _ _).mono ?_; rintro e w' ⟨rfl, rfl⟩)
            refine rebase (fun wx => Row wx wr.heap.size #[.int .i64 x.a0, .int .i64 x.a1] ∧ Own wx 3 1 g m cp ((expands (ns.take k)).map (Value.int .i64)) ∧ Below w.heap.size w wx) ⟨Row.new _ _ _, oz.alloc _, Hbl.out.alloc sz _⟩ ?_
            rintro wq ⟨⟨cX, fX, lX⟩, oq, bq⟩
            obtain ⟨bx, hbx⟩ : ∃ bx, wr.heap.size = bx := ⟨_, rfl⟩
            rw [hbx] at cX fX lX lz sz ⊢
            clear hA hB oz Hbl hbx
            have sq := bq.size
            have lq := oq.lt
            go_wp2_with (first | (at_builtin; refine wpList_append_1 rfl _ _ _ rfl elemI rfl oq #[.int .i64 x.a0] rfl rfl rfl (by omega) ?_; intro g7 cp7 w7 oz7 hg7 hat7))
            have b7 : Below w.heap.size w w7 := bq.grown hg7 sq (by intro k hk; simp at hk; omega)
            have r7 : Row w7 bx #[.int .i64 x.a0, .int .i64 x.a1] := Row.grown ⟨cX, fX, lX⟩ hg7 (by omega)
            have n7 : g7 ≠ bx := by omega
            have w7g : w.heap.size ≤ g7 := by omega
            have O7 := hide oz7
            clear cX fX hg7 oq bq hat7 oz7
            obtain ⟨wo, hwo⟩ : ∃ wo : World, wo = w7 := ⟨_, rfl⟩
            subst hwo
            go_loopw [4, 35] (fun s i wr => ∃ (j m g cp : Nat), s = .slice (some ⟨g, 0, none⟩) m cp ∧ i = .int .i64 j ∧ j ≤ 16 ∧ w.heap.size ≤ g ∧ g ≠ bx ∧ m = (expands (ns.take k) ++ expandTo x j).length ∧ Own wr 3 1 g m cp ((expands (ns.take k) ++ expandTo x j).map (Value.int .i64)) ∧ Row wr bx #[.int .i64 x.a0, .int .i64 x.a1] ∧ Below w.heap.size w wr) (fun _ i _ => 16 - (intOf i).toNat)
            case atStart =>
              refine ⟨0, m + 1, _, _, rfl, rfl, by omega, w7g, n7, ?_, O7.out.conv ?_, r7, b7⟩
              · rw [List.length_append, ← Hm.out]; rfl
              · rw [List.map_append]; rfl
            case round =>
              clear O7 r7 b7
              obtain ⟨j, m2, g2', cp2, rfl, rfl, hj, hg2, hn2, hmm2, oz2, ⟨cX, fX, lX⟩, hbl2⟩ := hrel
              have lz2 := oz2.lt
              have sz2 := hbl2.size
              have hel := expandTo_len x j
              have hm2 : m2 ≤ 80 := by
                have := Hm.out
                rw [List.length_append] at hmm2
                omega
              have Hm2 := hide hmm2
              have Hbl2 := hide hbl2
              clear hmm2 hbl2 hel
              by_cases hj16 : j < 16
              · have hs := expandTo_succ x j
                have g3 : (j : Int) < 16 := by omega
                by_cases hbit : exB x.a1 j = true
                · rw [if_pos hbit] at hs
                  have Hs := hide hs
                  have hb := (bit_val hw2' hw3' j).trans hbit
                  have q2 : (0 : Int) ≤ x.a0 + 1 + (j : Int) := by omega
                  clear hs hbit
                  go_wp2_with (first | (at_builtin; refine wpList_append_1 rfl _ _ _ rfl elemI rfl oz2 #[.int .i64 (x.a0 + 1 + (j : Int))] rfl rfl rfl (by omega) ?_; intro g8 cp8 w8 oz8 hg8 hat8))
                  have b8 : Below w.heap.size w w8 := Hbl2.out.grown hg8 sz2 (by intro k hk; simp at hk; omega)
                  have r8 : Row w8 bx #[.int .i64 x.a0, .int .i64 x.a1] := Row.grown ⟨cX, fX, lX⟩ hg8 (by omega)
                  clear cX fX hg8 oz2 hb
                  go_roundw
                  case rel =>
                    refine ⟨j + 1, m2 + 1, g8, cp8, rfl, by go_num, by omega, by omega, by omega, ?_, oz8.conv ?_, r8, b8⟩
                    · rw [Hs.out, ← List.append_assoc, List.length_append, ← Hm2.out]; rfl
                    · rw [Hs.out]; simp
                  case measure => simp [intOf]; omega
                · have hbit' : exB x.a1 j = false := by simpa using hbit
                  rw [if_neg hbit] at hs
                  have Hs := hide hs
                  have hb := (bit_val hw2' hw3' j).trans hbit'
                  have Hoz2 := hide oz2
                  clear hs hbit hbit' oz2
                  go_wp2_with fail
                  go_roundw
                  case rel =>
                    refine ⟨j + 1, m2, g2', cp2, rfl, by go_num, by omega, hg2, hn2, ?_, Hoz2.out.conv ?_, ⟨cX, fX, lX⟩, Hbl2.out⟩
                    · rw [Hs.out]; exact Hm2.out
                    · rw [Hs.out]
                  case measure => simp [intOf]; omega
              · have hj : j = 16 := by omega
                subst hj
                have e : expands (ns.take k) ++ expandTo x 16 = expands (ns.take (k + 1)) := by
                  rw [expands_take ns k (by rw [Hn.out]; exact hk'), Hx.out]; rfl
                rw [e] at oz2 Hm2
                have Hoz2 := hide oz2
                clear e oz2
                by_cases h60 : 60 < m2
                · have e60 : (60 : Int) < (m2 : Int) := by omega
                  obtain ⟨e1, e2⟩ := list_long (k := k + 1) (by rw [← Hm2.out]; exact h60) HR.out
                  have E1 := hide e1
                  have E2 := hide e2
                  clear e1 e2
                  go_wp2_with fail
                  go_ret2
                  have hbl2 := Hbl2.out
                  refine newIntsB_mk (xs := []) E2.out.symm E1.out.symm rfl ?_ (Own.new _ #[] 3 1 0 (by unfold maxLen; omega) rfl) ?_
                  · omega
                  · (repeat' (first | (with_reducible exact Below.refl _ _) | (with_reducible assumption) | (with_reducible refine Below.alloc ?_ ?_ _) | (with_reducible refine Below.setCell ?_ ?_ _) | (with_reducible refine Below.drew ?_) | (with_reducible refine below_drewN' ?_ _) | (with_reducible refine below_step (by assumption) ?_ ?_) | (with_reducible refine below_gstep (by assumption) ?_ ?_ ?_) | (with_reducible exact Below.size (by assumption)) | omega | (simp; done) | (simp; omega)))
                · have e60 : ¬ (60 : Int) < (m2 : Int) := by omega
                  go_wp2_with fail
                  go_roundw
                  case rel =>
                    refine ⟨k + 1, m2, g2', cp2, rfl, by go_num, by omega, hg2, Hm2.out, by omega, ?_, Hoz2.out, Hbl2.out⟩
                    intro i hi
                    rcases Nat.lt_succ_iff_lt_or_eq.1 hi with hi | rfl
                    · exact Hall.out i hi
                    · rw [Hx.out]; exact Hx2.out
                  case measure => simp [intOf]; omega
      · have d1 : decide (0 ≤ x.a0 ∧ x.a0 ≤ 999999) = false := decide_eq_false hw1
        have Hoz := hide oz
        clear oz
        go_wp2_with (go_at_call 55; refine (wideValid_any _ _).mono ?_; rintro e w' ⟨rfl, rfl⟩)
        go_ret2
        obtain ⟨e1, e2⟩ := list_bad (by rw [Hn.out]; exact hk') (by rw [Hx.out]; exact decide_eq_false (by omega)) HR.out
        have hbl := Hbl.out
        refine newIntsB_mk (xs := []) e2.symm e1.symm rfl ?_ (Own.new1 _ _ #[] 3 1 0 (by unfold maxLen; omega) rfl) ?_
        · (first | omega | (simp; done) | (simp; omega))
        · (repeat' (first | (with_reducible exact Below.refl _ _) | (with_reducible assumption) | (with_reducible refine Below.alloc ?_ ?_ _) | (with_reducible refine Below.setCell ?_ ?_ _) | (with_reducible refine Below.drew ?_) | (with_reducible refine below_drewN' ?_ _) | (with_reducible refine below_step (by assumption) ?_ ?_) | (with_reducible refine below_gstep (by assumption) ?_ ?_ ?_) | (with_reducible exact Below.size (by assumption)) | omega | (simp; done) | (simp; omega)))
    · have hkn : k = n := by omega
      subst hkn
      have ht : ns.take k = ns := List.take_of_length_le (by have := Hn.out; omega)
      rw [ht] at oz Hm
      have hend := list_end (fun i hi => Hall.out i (by have := Hn.out; omega)) HR.out
      obtain rfl := Hm.out
      have K := hide (ascendValid_any _ cp (expands ns) wr (own_ints oz) (by omega))
      rw [hend.1] at K
      have Hoz := hide oz
      have Hend := hide hend.2
      clear oz hend ht
      cases B
      · have Hy := hide (Hend.out.2 rfl)
        clear Hend
        go_wp2_with fail
        refine K.out.mono ?_
        rintro e w1 ⟨rfl, rfl⟩
        go_wp2_with fail
        go_ret2
        have hbl := Hbl.out
        refine newIntsB_mk (xs := []) rfl Hy.out.symm rfl ?_ (Own.new _ #[] 3 1 0 (by unfold maxLen; omega) rfl) ?_
        · omega
        · (repeat' (first | (with_reducible exact Below.refl _ _) | (with_reducible assumption) | (with_reducible refine Below.alloc ?_ ?_ _) | (with_reducible refine Below.setCell ?_ ?_ _) | (with_reducible refine Below.drew ?_) | (with_reducible refine below_drewN' ?_ _) | (with_reducible refine below_step (by assumption) ?_ ?_) | (with_reducible refine below_gstep (by assumption) ?_ ?_ ?_) | (with_reducible exact Below.size (by assumption)) | omega | (simp; done) | (simp; omega)))
      · have Hy := hide (Hend.out.1 rfl)
        clear Hend
        go_wp2_with fail
        refine K.out.mono ?_
        rintro e w1 ⟨rfl, rfl⟩
        go_wp2_with fail
        go_ret2
        exact newIntsB_mk (xs := expands ns) rfl Hy.out.symm rfl hg Hoz.out Hbl.out
end Go.Proofs.Ytibedadmogadhaa
