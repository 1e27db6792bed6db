/- MissingOf, of both: contracts. -/
import Derived.Test.YtibedadmogadhaaM2
namespace Go.Proofs.Ytibedadmogadhaa
open Go.ChangeShapes Go.WideShapes Go.ChangeAt Go.RowKit Go.Deep

def NewInts (ys : List Int) (w : World) (e : Ending) (w' : World) : Prop :=
  ∃ g c, e = .returned (.slice (some ⟨g, 0, none⟩) ys.length c) ∧ w.heap.size ≤ g ∧ Own w' 3 1 g ys.length c (ys.map (Value.int .i64)) ∧ Below w.heap.size w w'
theorem newInts_mk {ys : List Int} {w w' : World} {g c m : Nat} {xs : List Int} (hx : xs = ys) (hm : m = xs.length) (hg : w.heap.size ≤ g) (ho : Own w' 3 1 g m c (xs.map (Value.int .i64))) (hb : Below w.heap.size w w') :
    NewInts ys w (.returned (.slice (some ⟨g, 0, none⟩) m c)) w' := by subst hx hm; exact ⟨g, c, rfl, hg, ho, hb⟩
theorem take_le {l : List Int} (h : l.length ≤ 60) : l.take 60 = l := List.take_of_length_le h
theorem missing_end {zs : List VPacket} {k : Nat} (hb : pksB zs = true) (h : zs.length ≤ k) (hk : k ≤ zs.length ∨ k = 1) : (gaps zs k).take 60 = missing zs := by
  unfold missing
  rw [if_pos hb]
  congr 1
  rcases hk with hk | rfl
  · rw [Nat.le_antisymm hk h]
  · rcases (show zs.length = 0 ∨ zs.length = 1 from by omega) with e | e <;> rw [e] <;> rfl
theorem pks_step {zs : List VPacket} (hb : pksB zs = true) {k : Nat} (h1 : 1 ≤ k) (hk : k < zs.length) : 0 ≤ (zs.getD (k - 1) default).a0 ∧ (zs.getD (k - 1) default).a0 < (zs.getD k default).a0 ∧ (zs.getD k default).a0 ≤ 999999 := by
  have h := (of_decide_eq_true hb).1
  have a := h (k - 1) (by omega)
  have b := h k hk
  exact ⟨(pkOK_bd a.1).1, (b.2 (by omega)).1, (pkOK_bd b.1).2⟩
set_option maxHeartbeats 4000000 in
theorem implMissingOf (A : Option Addr) (c : Nat) (zs : List VPacket) (w : World) (h : PacketAt w A zs) (hm : zs.length ≤ 1048576) :
    Calls Try.prog 31 #[.slice A zs.length c] w (NewInts (missing zs) w) := by
  have K := hide (implPacketsValid A c zs (w.alloc (.cells #[] 3)) (h.below ((Below.refl _ _).alloc (Nat.le_refl _) _)) hm)
  have Ho := hide (Own.new w #[] 3 1 0 (by unfold maxLen; omega) rfl)
  by_cases hv : pksB zs = true
  · rw [hv] at K
    have Hh := hide h
    have Hv := hide hv
    clear h hv
    obtain ⟨n, hn⟩ : ∃ n, zs.length = n := ⟨_, rfl⟩
    rw [hn] at hm K ⊢
    have Hn := hide hn
    clear hn
    go_enter Try.func31, Try.ntmps31
    go_wp2_with fail
    refine K.out.mono ?_
    rintro e w1 ⟨rfl, hb⟩
    have o1 := hide (Ho.out.below hb)
    have b1 := hide (Below.trans ((Below.refl _ _).alloc (Nat.le_refl _) _) (hb.mono (by simp)) : Below w.heap.size w w1)
    clear hb
    go_wp2_with fail
    go_loopw [3, 4] (fun s i wr => ∃ (k m g cp : Nat), s = .slice (some ⟨g, 0, none⟩) m cp ∧ i = .int .i64 k ∧ 1 ≤ k ∧ (k ≤ n ∨ k = 1) ∧ w.heap.size ≤ g ∧ m = (gaps zs k).length ∧ m ≤ 60 ∧ Own wr 3 1 g m cp ((gaps zs k).map (Value.int .i64)) ∧ Below w.heap.size w wr) (fun _ i _ => n + 1 - (intOf i).toNat)
    case atStart => exact ⟨1, 0, _, _, rfl, rfl, by omega, by omega, Nat.le_refl _, rfl, by omega, o1.out, b1.out⟩
    case round =>
      obtain ⟨k, m, g, cp, rfl, rfl, hk1, hk, hg, hmm, hm60, oz, hbl⟩ := hrel
      have lz := oz.lt
      have sz := hbl.size
      by_cases hk' : k < n
      · obtain ⟨b, off, rfl, hlt, hc⟩ := PacketAt.at Hh.out (by have := Hn.out; omega)
        have hA := (hc (k - 1) (by have := Hn.out; omega)).1
        have hB := (hc k (by have := Hn.out; omega)).1
        obtain ⟨p0, p1, p2⟩ := pks_step Hv.out hk1 (by rw [Hn.out]; exact hk')
        obtain ⟨x, hx⟩ : ∃ x, (zs.getD (k - 1) default).a0 = x := ⟨_, rfl⟩
        obtain ⟨y, hy⟩ : ∃ y, (zs.getD k default).a0 = y := ⟨_, rfl⟩
        rw [hx] at hA p0 p1
        rw [hy] at hB p1 p2
        replace hA := (hbl.cell (p := ⟨b, off + (k - 1) * 6, none⟩) hlt).trans hA
        have HB := hide hB
        have Hx := hide hx
        have Hy := hide hy
        have Hm := hide hmm
        have Hoz := hide oz
        have Hbl := hide hbl
        have g2 : (k : Int) < (n : Int) := by omega
        have g3 : (k : Int) - 1 < (n : Int) := by omega
        have g4 : 0 ≤ (k : Int) - 1 := by omega
        have g9 : (1 : Int) ≤ (k : Int) := by omega
        clear hc hx hy hB hmm oz hbl
        go_wp2_with fail
        obtain ⟨wo, hwo⟩ : ∃ wo : World, wo = wr := ⟨_, rfl⟩
        subst hwo
        go_loopw [3, 5] (fun s t wr => ∃ (j m g cp : Nat), s = .slice (some ⟨g, 0, none⟩) m cp ∧ t = .int .i64 (x + 1 + (j : Nat)) ∧ x + 1 + (j : Nat) ≤ y ∧ w.heap.size ≤ g ∧ m = (part zs k j).length ∧ m ≤ 60 ∧ Own wr 3 1 g m cp ((part zs k j).map (Value.int .i64)) ∧ Below w.heap.size w wr) (fun _ t _ => (y - intOf t).toNat)
        case atStart => exact ⟨0, m, _, _, rfl, by simp, by omega, hg, by rw [part_zero]; exact Hm.out, hm60, Hoz.out.conv (by rw [part_zero]), Hbl.out⟩
        case round =>
          obtain ⟨j, m2, g', cp', rfl, rfl, hj, hg', hmm', hm60', oz', hbl'⟩ := hrel
          have lz' := oz'.lt
          have sz' := hbl'.size
          have hB := (hbl'.cell (p := ⟨b, off + k * 6, none⟩) hlt).trans HB.out
          obtain ⟨t, ht⟩ : ∃ t, x + 1 + ((j : Nat) : Int) = t := ⟨_, rfl⟩
          rw [ht] at hj ⊢
          have Ht := hide ht
          have Hm' := hide hmm'
          have Hbl' := hide hbl'
          have t0 : 0 ≤ t := by omega
          clear ht hmm' hbl'
          by_cases hty : t < y
          · by_cases h60 : m2 = 60
            · have Hoz' := hide oz'
              have H60 := hide h60
              have e60 : ((m2 : Int) == 60) = true := by simp [h60]
              clear oz' h60
              go_wp2_with fail
              go_ret
              refine newInts_mk (take_part hk1 (by rw [Hn.out]; exact hk') ?_ (by rw [← Hm'.out]; exact H60.out) Hv.out).symm Hm'.out hg' Hoz'.out Hbl'.out
              rw [Hx.out, Hy.out]
              have := Ht.out
              omega
            · have e60 : ((m2 : Int) == 60) = false := by simp only [beq_eq_false_iff_ne, ne_eq]; omega
              go_wp2_with (first | (at_builtin; refine wpList_append_1 rfl _ _ _ rfl elemI rfl oz' #[.int .i64 t] rfl rfl rfl (by omega) ?_; intro g7 cp7 w7 oz7 hg7 hat7))
              have hb7 : Below w.heap.size w w7 := Hbl'.out.grown hg7 sz' (by intro k hk; simp at hk; omega)
              clear hg7 oz'
              go_roundw
              case rel =>
                have ht := Ht.out
                refine ⟨j + 1, m2 + 1, g7, cp7, rfl, ?_, by omega, by omega, ?_, by omega, oz7.conv ?_, hb7⟩
                · rw [show x + 1 + ((j + 1 : Nat) : Int) = t + 1 by omega]
                · rw [part_succ, List.length_append, ← Hm'.out]; rfl
                · rw [part_succ, Hx.out, ht]; simp
              case measure => simp [intOf]; omega
          · have Hoz' := hide oz'
            clear oz'
            go_wp2_with fail
            go_roundw
            case rel =>
              have ht := Ht.out
              have e : part zs k j = gaps zs (k + 1) := part_full zs k j hk1 (by rw [Hx.out, Hy.out]; omega)
              refine ⟨k + 1, m2, g', cp', rfl, by go_num, by omega, by omega, hg', by rw [← e]; exact Hm'.out, hm60', Hoz'.out.conv (by rw [e]), Hbl'.out⟩
            case measure => simp [intOf]; omega
      · have Hm := hide hmm
        have Hoz := hide oz
        have Hbl := hide hbl
        clear hmm oz hbl
        go_wp2_with fail
        go_ret
        refine newInts_mk ?_ Hm.out hg Hoz.out Hbl.out
        rw [← missing_end (k := k) Hv.out (by rw [Hn.out]; omega) (by rw [Hn.out]; exact hk), take_le (by rw [← Hm.out]; exact hm60)]
  · have hv' : pksB zs = false := by simpa using hv
    rw [hv'] at K
    have e : missing zs = [] := by unfold missing; rw [if_neg hv]
    rw [e]
    clear h hv hv' e
    go_enter Try.func31, Try.ntmps31
    go_wp2_with fail
    refine K.out.mono ?_
    rintro e w1 ⟨rfl, hb⟩
    have o1 := hide (Ho.out.below hb)
    have b1 := hide (Below.trans ((Below.refl _ _).alloc (Nat.le_refl _) _) (hb.mono (by simp)) : Below w.heap.size w w1)
    clear hb
    go_wp2_with fail
    go_ret
    exact newInts_mk (xs := []) rfl rfl (Nat.le_refl _) o1.out b1.out
end Go.Proofs.Ytibedadmogadhaa
