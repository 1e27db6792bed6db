/- Walk of FnNacksMore. -/
import Derived.Test.YtibedadmogadhaaK5
namespace Go.Proofs.Ytibedadmogadhaa
open Go.ChangeShapes Go.WideShapes Go.ChangeAt Go.RowKit Go.Deep

theorem own_take {w : World} {g n c m : Nat} {zs : List Int} (h : Own w 3 1 g n c (zs.map (Value.int .i64))) (hn : zs.length = n) (hm : m ≤ n) : IntsAt w (some ⟨g, 0, none⟩) (zs.take m) := by
  refine .inr ⟨g, 0, rfl, h.lt, fun i hi => ?_⟩
  rw [List.length_take] at hi
  rw [Nat.zero_add, h.cell (by omega), List.getElem?_map, List.getD_eq_getElem?_getD, List.getElem?_take_of_lt (by omega), List.getElem?_eq_getElem (by omega)]
  rfl
theorem nack_take {w : World} {A : Option Addr} {zs : List VNack} (h : NackAt w A zs) (m : Nat) : NackAt w A (zs.take m) := by
  rcases h with h | ⟨b, off, hA, hlt, hc⟩
  · left
    rw [List.map_take, h, List.take_nil]
  · refine .inr ⟨b, off, hA, hlt, fun i j hi hj => ?_⟩
    rw [List.map_take, List.length_take] at hi
    rw [hc i j (by omega) hj, List.map_take, List.getElem?_take_of_lt (by omega)]
theorem okA_less {zs : List Int} {k : Nat} (h : okA zs zs.length) (hk : k ≤ zs.length) : okA (zs.take k) (zs.take k).length := by
  rw [List.length_take, Nat.min_eq_left hk]
  intro i hi
  have e : ∀ j, j < k → (zs.take k).getD j 0 = zs.getD j 0 := fun j hj => by rw [List.getD_eq_getElem?_getD, List.getD_eq_getElem?_getD, List.getElem?_take_of_lt hj]
  rw [e i hi, e (i - 1) (by omega)]
  exact h i (by omega)
theorem quiet_addQ {P : Program} {f : FuncId} {args : Array Value} {w : World} {a : Nat} {v : Value} (h : Calls P f args (w.drewN a) (RetQ v (w.drewN a))) : Calls P f args (w.drewN a) fun e w'' => e = .returned v ∧ ∃ m, w'' = w.drewN m :=
  h.mono fun _ _ ⟨he, n, hm⟩ => ⟨he, a + n, by rw [hm, World.drewN_drewN]⟩
/-- The nacks of one number less. -/
theorem nk_less {zs : List Int} {ys : List VNack} (h : relNacksOf zs ys true) (h1 : 1 ≤ zs.length) :
    relNacksOf (zs.take (zs.length - 1)) (nk (zs.take (zs.length - 1))) true ∧ 1 ≤ ys.length ∧ ys.length - 1 ≤ (nk (zs.take (zs.length - 1))).length ∧ ys.take (ys.length - 1) = (nk (zs.take (zs.length - 1))).take (ys.length - 1) ∧ (nk (zs.take (zs.length - 1))).length ≤ 60 := by
  rcases h with ⟨h2, rfl, _⟩ | ⟨_, _, h3⟩
  · obtain ⟨hok, hl⟩ := of_decide_eq_true h2
    have ht := okA_less hok (show zs.length - 1 ≤ zs.length by omega)
    have hb : ascB (zs.take (zs.length - 1)) = true := decide_eq_true ⟨ht, by rw [List.length_take]; omega⟩
    have hs := take_snoc zs (zs.length - 1) (by omega)
    rw [Nat.sub_add_cancel h1, List.take_length] at hs
    have e : nk zs = nkAdd (nk (zs.take (zs.length - 1))) (zs.getD (zs.length - 1) 0) := by
      conv => lhs; rw [hs]
      exact nk_snoc _ _
    obtain ⟨p1, p2, p3⟩ := nkAdd_prefix (nk (zs.take (zs.length - 1))) (zs.getD (zs.length - 1) 0)
    rw [← e] at p1 p2 p3
    have I := nk_inv _ ht
    refine ⟨.inl ⟨hb, rfl, rfl⟩, p3, p1, p2, ?_⟩
    have := I.len
    rw [List.length_take] at this
    omega
  · cases h3
set_option maxHeartbeats 2000000 in
theorem walk_fnNacksMore {H : Type} {enc : TypeId × Value → H} (W : World) (base : Nat) (v : Value) (d : DataW H) (p : List MemPlace) (o : Value.okWide Try.prog W .any base 22 v) (h : DataW.Trod enc Try.prog W 0 (fun _ => true) true 22 v d p) :
    Calls Try.prog 7 #[v] W (RetB true W) := by
  obtain ⟨A, n, c, rfl, hn, hm, hcode⟩ := open_code W base v d p o h
  clear o h
  by_cases hbig : 1048576 < (n : Int)
  · clear hcode
    go_enter Try.func7, Try.ntmps7
    go_wp2_with fail
    go_ret
    refine ⟨rfl, ?_⟩
    (repeat' (first | (with_reducible exact Below.refl _ _) | (with_reducible assumption) | (with_reducible refine Below.alloc ?_ ?_ _) | (with_reducible refine Below.setCell ?_ ?_ _) | (with_reducible refine Below.drew ?_) | (with_reducible refine below_drewN' ?_ _) | (with_reducible refine below_step (by assumption) ?_ ?_) | (with_reducible refine below_gstep (by assumption) ?_ ?_ ?_) | (with_reducible exact Below.size (by assumption)) | omega | (simp; done) | (simp; omega)))
  · have Hcode := hide hcode
    clear hcode
    go_enter Try.func7, Try.ntmps7
    go_wp2_with fail
    refine (drawNacksOf W.heap.size A n c _ Hcode.out hn hm (Nat.le_refl _)).mono ?_
    rintro e w1 ⟨g1, c1, zs, rfl, hl1, hg1, o1, bl⟩
    clear Hcode
    obtain ⟨ys, B, hR⟩ := relNacksOf_some zs
    have HR := hide hR
    have hly := relOf_len hR
    clear hR
    go_wp2_with fail
    refine (implNacksOf _ _ zs ys B _ HR.out (own_ints o1) (by omega)).mono ?_
    rintro e w2 ⟨g2, c2, rfl, hg2, o2, hb⟩
    have o1 := o1.below hb
    have bl := bl.trans (hb.mono bl.size)
    clear hb
    go_wp2_with fail
    refine (specNacksOf _ _ zs ys B _ HR.out (own_ints o1) (by omega)).mono ?_
    rintro e w3 ⟨g3, c3, rfl, hg3, o3, hb⟩
    have o1 := o1.below hb
    have o2 := o2.below hb
    have bl := bl.trans (hb.mono bl.size)
    clear hb
    have N2 := hide (ownNack o2 rfl)
    have N3 := hide (ownNack o3 rfl)
    have O1 := hide o1
    have O2 := hide o2
    clear o1 o2 o3
    cases B
    · go_wp2_with fail
      refine (sameNacks_same _ _ _ _ ys _ N2.out N3.out (by omega)).mono ?_
      rintro e w4 ⟨rfl, n4, rfl⟩
      go_wp2_with fail
      refine (sameNacks_same _ _ _ _ ys _ (N2.out.drewN n4) (N3.out.drewN n4) (by omega)).mono ?_
      rintro e w5 ⟨rfl, n5, rfl⟩
      go_wp2_with fail
      go_ret
      exact ⟨rfl, below_drewN' bl (n4 + n5)⟩
    · go_wp2_with fail
      refine (sameNacks_same _ _ _ _ ys _ N2.out N3.out (by omega)).mono ?_
      rintro e w4 ⟨rfl, n4, rfl⟩
      have bl4 := below_drewN' bl n4
      have N2 := hide (N2.out.drewN n4)
      have N3 := hide (N3.out.drewN n4)
      have O1 := hide (O1.out.drewN n4)
      have O2 := hide (O2.out.drewN n4)
      generalize w3.drewN n4 = w4 at *
      clear bl
      by_cases hz0 : zs.length = 0
      · have hz1 : ((zs.length : Int) == 0) = true := by simp [hz0]
        have Hz0 := hide hz0
        clear hz0
        go_wp2_with fail
        refine (sameNacks_same _ _ _ _ ys _ N2.out N3.out (by omega)).mono ?_
        rintro e w5 ⟨rfl, n5, rfl⟩
        go_wp2_with fail
        go_ret
        exact ⟨rfl, below_drewN' bl4 n5⟩
      · have hz1 : ((zs.length : Int) == 0) = false := by simp only [beq_eq_false_iff_ne, ne_eq]; omega
        have hL := nk_less HR.out (by omega)
        obtain ⟨xs, hxs⟩ : ∃ xs, nk (zs.take (zs.length - 1)) = xs := ⟨_, rfl⟩
        rw [hxs] at hL
        obtain ⟨hR2, l1, l2, l3, l4⟩ := hL
        have HR2 := hide hR2
        have L3 := hide l3
        obtain ⟨room, _⟩ := O1.out.room
        have IA := hide (own_take (n := zs.length) (m := zs.length - 1) O1.out rfl (by omega))
        have lt1 : (zs.take (zs.length - 1)).length = zs.length - 1 := by rw [List.length_take]; omega
        obtain ⟨m, hm1⟩ : ∃ m, zs.length - 1 = m := ⟨_, rfl⟩
        rw [hm1] at IA HR2 lt1
        have hmm : zs.length = m + 1 := by omega
        rw [hmm] at room hz1 ⊢
        have lm : m ≤ 10 := by omega
        have LT := hide lt1
        clear hxs hR2 l3 hm1 hmm hz0 hl1 lt1
        go_wp2_with fail
        have hx := fun w h => implNacksOf (some ⟨g1, 0, none⟩) c1 (zs.take m) xs true w HR2.out h (by have := LT.out; omega)
        rw [LT.out] at hx
        refine (hx _ IA.out).mono ?_
        clear hx
        rintro e w5 ⟨g5, c5, rfl, hg5, o5, hb⟩
        have bl5 := bl4.trans (hb.mono bl4.size)
        have N2 := hide (N2.out.below hb)
        have N5 := hide (ownNack o5 rfl)
        obtain ⟨room2, _⟩ := O2.out.room
        obtain ⟨room5, _⟩ := o5.room
        clear hb o5
        obtain ⟨j, hj⟩ : ∃ j, ys.length - 1 = j := ⟨_, rfl⟩
        have hjj : ys.length = j + 1 := by omega
        rw [hj] at l2 L3
        have M2 := hide (nack_take N2.out j)
        have M5 := hide (nack_take N5.out j)
        rw [L3.out] at M2
        have lx : (xs.take j).length = j := by rw [List.length_take]; omega
        have LX := hide lx
        rw [hjj] at room2 ⊢
        have q1 : IntKind.i64.wrap ((j : Int) + 1 - 1) = j := by rw [IntWalk.i64_in _ (by omega)]; omega
        have q2 : decide ((j : Int) ≤ (xs.length : Int)) = true := decide_eq_true (by omega)
        have q3 : decide (j ≤ xs.length) = true := decide_eq_true (by omega)
        have q4 : (j : Int) ≤ (c5 : Int) := by omega
        have q5 : (j : Int) ≤ (c2 : Int) := by omega
        clear hj hjj lx hly
        go_wp2_with fail
        have hS := fun w h1 h2 => sameNacks_same (some ⟨g5, 0, none⟩) (some ⟨g2, 0, none⟩) c5 c2 (xs.take j) w h1 h2 (by rw [LX.out]; omega)
        rw [LX.out] at hS
        have HS := hide hS
        clear hS
        go_quiet ((go_at_call 30; exact quiet_addQ (HS.out _ (M5.out.drewN _) (M2.out.drewN _))))
        go_wp2_with fail
        go_ret
        exact ⟨rfl, below_drewN' bl5 _⟩
end Go.Proofs.Ytibedadmogadhaa
