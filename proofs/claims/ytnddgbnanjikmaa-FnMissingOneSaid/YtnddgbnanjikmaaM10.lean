/- Walk of FnMissingOne. -/
import Derived.Test.YtnddgbnanjikmaaM8
namespace Go.Proofs.Ytnddgbnanjikmaa
open Go.ChangeShapes Go.WideShapes Go.ChangeAt Go.RowKit Go.Deep

theorem packet_take {w : World} {A : Option Addr} {zs : List VPacket} (h : PacketAt w A zs) (m : Nat) : PacketAt w A (zs.take m) := by
  rcases h with h | ⟨b, off, hA, hlt, hc⟩
  · left
    rw [List.map_take, h, List.take_nil]
  · refine .inr ⟨b, off, hA, hlt, fun i j hi hj => ?_⟩
    rw [List.map_take, List.length_take] at hi
    rw [hc i j (by omega) hj, List.map_take, List.getElem?_take_of_lt (by omega)]
theorem take_one {zs : List VPacket} (h : 0 < zs.length) : zs.take 1 = [zs.getD 0 default] := by
  cases zs with
  | nil => simp at h
  | cons x t => rfl
set_option maxHeartbeats 4000000 in
theorem walk_fnMissingOne {H : Type} {enc : TypeId × Value → H} (W : World) (base : Nat) (v : Value) (d : DataW H) (p : List MemPlace) (o : Value.okWide Try.prog W .any base 22 v) (h : DataW.Trod enc Try.prog W 0 (fun _ => true) true 22 v d p) :
    Calls Try.prog 5 #[v] W (RetB true W) := by
  obtain ⟨A, n, c, rfl, hn, hm, hcode⟩ := open_code W base v d p o h
  clear o h
  by_cases hbig : 1048576 < (n : Int)
  · clear hcode
    go_enter Try.func5, Try.ntmps5
    go_wp2_with fail
    go_ret
    refine ⟨rfl, ?_⟩
    (repeat' (first | (with_reducible exact Below.refl _ _) | (with_reducible assumption) | (with_reducible refine Below.alloc ?_ ?_ _) | (with_reducible refine Below.setCell ?_ ?_ _) | (with_reducible refine Below.drew ?_) | (with_reducible refine below_drewN' ?_ _) | (with_reducible refine below_step (by assumption) ?_ ?_) | (with_reducible refine below_gstep (by assumption) ?_ ?_ ?_) | (with_reducible exact Below.size (by assumption)) | omega | (simp; done) | (simp; omega)))
  · have Hcode := hide hcode
    clear hcode
    go_enter Try.func5, Try.ntmps5
    go_wp2_with fail
    refine (drawMissingOf W.heap.size A n c _ Hcode.out hn hm (Nat.le_refl _)).mono ?_
    rintro e w1 ⟨g1, c1, zs, rfl, hl1, hg1, o1, bl⟩
    clear Hcode
    have lys := missing_length zs
    go_wp2_with fail
    refine (implMissingOf _ _ zs _ (ownPacket o1 rfl) (by omega)).mono ?_
    rintro e w2 ⟨g2, c2, rfl, hg2, o2, hb⟩
    have o1 := o1.below hb
    have bl := bl.trans (hb.mono bl.size)
    clear hb
    go_wp2_with fail
    refine (specMissingOf _ _ zs _ (ownPacket o1 rfl) (by omega)).mono ?_
    rintro e w3 ⟨g3, c3, rfl, hg3, o3, hb⟩
    have o1 := o1.below hb
    have o2 := o2.below hb
    have bl := bl.trans (hb.mono bl.size)
    clear hb
    go_wp2_with fail
    refine (sameInts_b _ _ _ _ (missing zs) _ (own_ints o2) (own_ints o3) (by omega)).mono ?_
    rintro e w4 ⟨rfl, hb⟩
    have o1 := o1.below hb
    have o2 := o2.below hb
    have o3 := o3.below hb
    have bl := bl.trans (hb.mono bl.size)
    clear hb
    go_wp2_with fail
    have K := specPacketsValid (some ⟨g1, 0, none⟩) c1 zs w4 (ownPacket o1 rfl) (by omega)
    by_cases hv : pksB zs = true
    · rw [hv] at K
      refine K.mono ?_
      clear K
      rintro e w5 ⟨rfl, hb⟩
      have o1 := o1.below hb
      have o2 := o2.below hb
      have o3 := o3.below hb
      have bl := bl.trans (hb.mono bl.size)
      clear hb
      by_cases h0 : zs.length = 0
      · have e0 : ((zs.length : Int) == 0) = true := by simp [h0]
        have H0 := hide h0
        clear h0
        go_wp2_with fail
        refine (sameInts_b _ _ _ _ (missing zs) _ (own_ints o2) (own_ints o3) (by omega)).mono ?_
        rintro e w6 ⟨rfl, hb⟩
        have bl := bl.trans (hb.mono bl.size)
        clear hb
        go_wp2_with fail
        go_ret
        exact ⟨rfl, bl⟩
      · have e0 : ((zs.length : Int) == 0) = false := by simp only [beq_eq_false_iff_ne, ne_eq]; omega
        obtain ⟨b, off, he, _, hc⟩ := PacketAt.at (ownPacket o1 rfl) (by omega)
        simp only [Option.some.injEq, Addr.mk.injEq, and_true] at he
        obtain ⟨rfl, rfl⟩ := he
        have hA := hc 0 (by omega)
        obtain ⟨x, hx⟩ : ∃ x, zs.getD 0 default = x := ⟨_, rfl⟩
        rw [hx] at hA
        simp only [Nat.zero_mul, Nat.zero_add] at hA
        obtain ⟨s0, s1, s2, s3, s4, s5⟩ := hA
        have hok := ((of_decide_eq_true hv).1 0 (by omega)).1
        rw [hx] at hok
        have hbd := pkOK_bd hok
        have g7 : (0 : Int) < (zs.length : Int) := by omega
        have g8 : (1 : Int) ≤ (zs.length : Int) := by omega
        have room := o1.room
        obtain ⟨m, hmm⟩ : ∃ m, zs.length = m := ⟨_, rfl⟩
        have g9 : (1 : Int) ≤ (c1 : Int) := by omega
        have Ho1 := hide o1
        have Hok := hide hok
        have Hx := hide hx
        have lg1 := o1.lt
        have s5z := bl.size
        clear o1 o2 o3 hc hx hok hmm room
        by_cases h2 : 999999 < x.a0 + 2
        · go_wp2_with fail
          go_ret
          refine ⟨rfl, ?_⟩
          (repeat' (first | (with_reducible exact Below.refl _ _) | (with_reducible assumption) | (with_reducible refine Below.alloc ?_ ?_ _) | (with_reducible refine Below.setCell ?_ ?_ _) | (with_reducible refine Below.drew ?_) | (with_reducible refine below_drewN' ?_ _) | (with_reducible refine below_step (by assumption) ?_ ?_) | (with_reducible refine below_gstep (by assumption) ?_ ?_ ?_) | (with_reducible exact Below.size (by assumption)) | omega | (simp; done) | (simp; omega)))
        · go_wp2_with fail
          have hm1 := fun w h => implMissingOf (some ⟨g1, 0, none⟩) c1 [x] w h (by simp)
          rw [missing_one [x] (by simp)] at hm1
          have HM1 := hide hm1
          have hm2 := fun w g c h => implMissingOf (some ⟨g, 0, none⟩) c [x, { x with a0 := x.a0 + 2 }] w h (by simp)
          rw [missing_two x Hok.out (by omega)] at hm2
          have HM2 := hide hm2
          have hP1 : PacketAt w5 (some ⟨g1, 0, none⟩) [x] := by
            have := packet_take (ownPacket Ho1.out rfl) 1
            rwa [take_one (by omega), Hx.out] at this
          refine rebase (fun wx => Row wx w5.heap.size #[.int .i64 x.a0, .int .i64 x.a1, .int .i64 x.a2, .int .i64 x.a3, .bool x.a4, .bool x.a5] ∧ Row wx (w5.heap.size + 1) #[.int .i64 (x.a0 + 2), .int .i64 x.a1, .int .i64 x.a2, .int .i64 x.a3, .bool x.a4, .bool x.a5] ∧ PacketAt wx (some ⟨g1, 0, none⟩) [x] ∧ Below W.heap.size W wx) ⟨(Row.new _ _ _).alloc _, Row.new1 _ _ _ _, PacketAt.below hP1 (((Below.refl _ _).alloc (Nat.le_refl _) _).alloc (by simp) _), (bl.alloc s5z _).alloc (by simp; omega) _⟩ ?_
          rintro wq ⟨rx, ry, hp1, bq⟩
          have qw : IntKind.i64.wrap (x.a0 + 1) = x.a0 + 1 := IntWalk.i64_in _ (by omega)
          obtain ⟨bx, hbx⟩ : ∃ b, w5.heap.size = b := ⟨_, rfl⟩
          obtain ⟨bz, hbz⟩ : ∃ b, w5.heap.size + 1 = b := ⟨_, rfl⟩
          rw [hbx] at rx
          rw [hbz] at ry
          rw [hbz, hbx]
          clear s0 s1 s2 s3 s4 s5 hm1 hm2 hP1 hbx hbz bl s5z lg1 Ho1
          refine wp_region_held_drew (S := fun w' => Row w' bx #[.int .i64 x.a0, .int .i64 x.a1, .int .i64 x.a2, .int .i64 x.a3, .bool x.a4, .bool x.a5] ∧ Row w' bz #[.int .i64 (x.a0 + 2), .int .i64 x.a1, .int .i64 x.a2, .int .i64 x.a3, .bool x.a4, .bool x.a5]) (by kernel_rfl) (by exact ⟨rx, ry⟩) (fun hHeld => ?_)
          refine wpAnyH_take (i := 0) (oi := ⟨some 45, _, _, _, _, _⟩) (v := ?va0) rfl (by kernel_rfl) (by kernel_rfl) (by kernel_rfl) (fun _ _ _ h => h) (Or.inl ⟨by rfl, ?ya0⟩) (by assumption) ?_
          case ya0 => (intro w hSw; obtain ⟨⟨u1, u2, _⟩, ⟨u3, u4, _⟩⟩ := hSw; go_simp; (try with_reducible rfl))
          (try simp only [Act.put, List.setIfInBounds_toArray, List.set_cons_zero, List.set_cons_succ])
          refine wpAnyH_take (i := 1) (oi := ⟨some 46, _, _, _, _, _⟩) (v := ?va1) rfl (by kernel_rfl) (by kernel_rfl) (by kernel_rfl) (fun _ _ _ h => h) (Or.inl ⟨by rfl, ?ya1⟩) (by assumption) ?_
          case ya1 => (intro w hSw; obtain ⟨⟨u1, u2, _⟩, ⟨u3, u4, _⟩⟩ := hSw; go_simp; (try with_reducible rfl))
          (try simp only [Act.put, List.setIfInBounds_toArray, List.set_cons_zero, List.set_cons_succ])
          refine wpAnyH_ready (rs := [2]) (by kernel_rfl) (by simp) ?_
          refine AllReadyH.cons (o := ⟨some 47, _, _, _, _, _⟩) rfl (fun K hK => ?_) AllReadyH.nil
          go_simp
          refine (HM1.out wq.drew hp1).mono ?_
          rintro e w1 ⟨ga, ca, rfl, hga, oa, hb1⟩
          have bl1 := (Below.drew bq).trans (hb1.mono bq.size)
          have S1 := And.intro (Row.below hHeld.1 hb1) (Row.below hHeld.2 hb1)
          have lw1 := hb1.size
          clear oa hga hb1 hHeld
          go_wp2_with fail
          refine hK.out _ _ (S1) (fun hHeld => ?_)
          clear hK K
          (try simp only [Act.put, List.setIfInBounds_toArray, List.set_cons_zero, List.set_cons_succ])
          refine wpAnyH_take (i := 3) (oi := ⟨some 48, _, _, _, _, _⟩) (v := ?va3) rfl (by kernel_rfl) (by kernel_rfl) (by kernel_rfl) (fun _ _ _ h => h) (Or.inl ⟨by rfl, ?ya3⟩) (by assumption) ?_
          case ya3 => (intro w hSw; obtain ⟨⟨u1, u2, _⟩, ⟨u3, u4, _⟩⟩ := hSw; go_simp; (try with_reducible rfl))
          (try simp only [Act.put, List.setIfInBounds_toArray, List.set_cons_zero, List.set_cons_succ])
          refine wpAnyH_take (i := 4) (oi := ⟨some 49, _, _, _, _, _⟩) (v := ?va4) rfl (by kernel_rfl) (by kernel_rfl) (by kernel_rfl) (fun _ _ _ h => h) (Or.inl ⟨by rfl, ?ya4⟩) (by assumption) ?_
          case ya4 => (intro w hSw; obtain ⟨⟨u1, u2, _⟩, ⟨u3, u4, _⟩⟩ := hSw; go_simp; (try with_reducible rfl))
          (try simp only [Act.put, List.setIfInBounds_toArray, List.set_cons_zero, List.set_cons_succ])
          refine wpAnyH_take (i := 5) (oi := ⟨some 50, _, _, _, _, _⟩) (v := ?va5) rfl (by kernel_rfl) (by kernel_rfl) (by kernel_rfl) (fun _ _ _ h => h) (Or.inl ⟨by rfl, ?ya5⟩) (by assumption) ?_
          case ya5 => (intro w hSw; obtain ⟨⟨u1, u2, _⟩, ⟨u3, u4, _⟩⟩ := hSw; go_simp; (try with_reducible rfl))
          (try simp only [Act.put, List.setIfInBounds_toArray, List.set_cons_zero, List.set_cons_succ])
          refine wpAnyH_take (i := 6) (oi := ⟨some 51, _, _, _, _, _⟩) (v := ?va6) rfl (by kernel_rfl) (by kernel_rfl) (by kernel_rfl) (fun _ _ _ h => h) (Or.inl ⟨by rfl, ?ya6⟩) (by assumption) ?_
          case ya6 => (intro w hSw; obtain ⟨⟨u1, u2, _⟩, ⟨u3, u4, _⟩⟩ := hSw; go_simp; (try with_reducible rfl))
          (try simp only [Act.put, List.setIfInBounds_toArray, List.set_cons_zero, List.set_cons_succ])
          refine wpAnyH_take (i := 7) (oi := ⟨some 52, _, _, _, _, _⟩) (v := ?va7) rfl (by kernel_rfl) (by kernel_rfl) (by kernel_rfl) (fun _ _ _ h => h) (Or.inl ⟨by rfl, ?ya7⟩) (by assumption) ?_
          case ya7 => (intro w hSw; obtain ⟨⟨u1, u2, _⟩, ⟨u3, u4, _⟩⟩ := hSw; go_simp; (try with_reducible rfl))
          (try simp only [Act.put, List.setIfInBounds_toArray, List.set_cons_zero, List.set_cons_succ])
          refine wpAnyH_take (i := 10) (oi := ⟨some 55, _, _, _, _, _⟩) (v := ?va10) rfl (by kernel_rfl) (by kernel_rfl) (by kernel_rfl) (fun _ _ _ h => h) (Or.inl ⟨by rfl, ?ya10⟩) (by assumption) ?_
          case ya10 => (intro w hSw; obtain ⟨⟨u1, u2, _⟩, ⟨u3, u4, _⟩⟩ := hSw; go_simp; (try with_reducible rfl))
          (try simp only [Act.put, List.setIfInBounds_toArray, List.set_cons_zero, List.set_cons_succ])
          refine wpAnyH_take (i := 11) (oi := ⟨some 56, _, _, _, _, _⟩) (v := ?va11) rfl (by kernel_rfl) (by kernel_rfl) (by kernel_rfl) (fun _ _ _ h => h) (Or.inl ⟨by rfl, ?ya11⟩) (by assumption) ?_
          case ya11 => (intro w hSw; obtain ⟨⟨u1, u2, _⟩, ⟨u3, u4, _⟩⟩ := hSw; go_simp; (try with_reducible rfl))
          (try simp only [Act.put, List.setIfInBounds_toArray, List.set_cons_zero, List.set_cons_succ])
          refine wpAnyH_take (i := 12) (oi := ⟨some 57, _, _, _, _, _⟩) (v := ?va12) rfl (by kernel_rfl) (by kernel_rfl) (by kernel_rfl) (fun _ _ _ h => h) (Or.inl ⟨by rfl, ?ya12⟩) (by assumption) ?_
          case ya12 => (intro w hSw; obtain ⟨⟨u1, u2, _⟩, ⟨u3, u4, _⟩⟩ := hSw; go_simp; (try with_reducible rfl))
          (try simp only [Act.put, List.setIfInBounds_toArray, List.set_cons_zero, List.set_cons_succ])
          clear hHeld
          refine wpAnyH_ready (rs := [8, 13]) (by kernel_rfl) (by simp) ?_
          refine AllReadyH.cons (o := ⟨some 53, _, _, _, _, _⟩) rfl (fun K hK => ?_) ?_
          · go_simp
            refine hK.out _ _ (⟨Row.alloc S1.1 _, Row.alloc S1.2 _⟩) (fun hHeld => ?_)
            clear hK K
            (try simp only [Act.put, List.setIfInBounds_toArray, List.set_cons_zero, List.set_cons_succ])
            have oL : Own (w1.alloc (.cells #[.int .i64 x.a0, .int .i64 x.a1, .int .i64 x.a2, .int .i64 x.a3, .bool x.a4, .bool x.a5, .int .i64 (x.a0 + 2), .int .i64 x.a1, .int .i64 x.a2, .int .i64 x.a3, .bool x.a4, .bool x.a5] 29)) 29 6 w1.heap.size 2 2 (([x, { x with a0 := x.a0 + 2 }] : List VPacket).map VPacket.cells).flatten := Own.new w1 #[.int .i64 x.a0, .int .i64 x.a1, .int .i64 x.a2, .int .i64 x.a3, .bool x.a4, .bool x.a5, .int .i64 (x.a0 + 2), .int .i64 x.a1, .int .i64 x.a2, .int .i64 x.a3, .bool x.a4, .bool x.a5] 29 6 2 (by unfold maxLen; omega) rfl
            have blL := bl1.alloc bl1.size (.cells #[.int .i64 x.a0, .int .i64 x.a1, .int .i64 x.a2, .int .i64 x.a3, .bool x.a4, .bool x.a5, .int .i64 (x.a0 + 2), .int .i64 x.a1, .int .i64 x.a2, .int .i64 x.a3, .bool x.a4, .bool x.a5] 29)
            refine wpAnyH_ready (rs := [9, 13]) (by kernel_rfl) (by simp) ?_
            refine AllReadyH.cons (o := ⟨some 54, _, _, _, _, _⟩) rfl (fun K hK => ?_) ?_
            · go_simp
              refine (HM2.out _ _ _ (ownPacket (oL) rfl)).mono ?_
              rintro e w2 ⟨gb, cb, rfl, hgb, ob, hb2⟩
              have blb := blL.trans (hb2.mono blL.size)
              have S2 := And.intro (Row.below hHeld.1 hb2) (Row.below hHeld.2 hb2)
              clear hHeld
              go_wp2_with fail
              refine hK.out _ _ (S2) (fun hHeld => ?_)
              clear hK K
              (try simp only [Act.put, List.setIfInBounds_toArray, List.set_cons_zero, List.set_cons_succ])
              refine wpAnyH_ready (rs := [13]) (by kernel_rfl) (by simp) ?_
              refine AllReadyH.cons (o := ⟨some 58, _, _, _, _, _⟩) rfl (fun K hK => ?_) AllReadyH.nil
              go_simp
              refine hK.out _ _ (⟨Row.alloc hHeld.1 _, Row.alloc hHeld.2 _⟩) (fun hHeld => ?_)
              clear hK K
              (try simp only [Act.put, List.setIfInBounds_toArray, List.set_cons_zero, List.set_cons_succ])
              have o2 : Own (w2.alloc (.cells #[.int .i64 (x.a0 + 1)] 3)) 3 1 w2.heap.size 1 1 ([x.a0 + 1].map (Value.int .i64)) := Own.new w2 #[.int .i64 (x.a0 + 1)] 3 1 1 (by unfold maxLen; omega) rfl
              have blc := blb.alloc blb.size (.cells #[.int .i64 (x.a0 + 1)] 3)
              refine wpAnyH_ready (rs := [14]) (by kernel_rfl) (by simp) ?_
              refine AllReadyH.cons (o := ⟨some 59, _, _, _, _, _⟩) rfl (fun K hK => ?_) AllReadyH.nil
              go_simp
              refine (sameInts_b _ _ _ _ [x.a0 + 1] _ (own_ints (Own.alloc (ob : Own w2 3 1 gb 1 cb ([x.a0 + 1].map (Value.int .i64))) _)) (own_ints (o2)) (by simp)).mono ?_
              rintro e w3 ⟨rfl, hb3⟩
              have S3 := And.intro (Row.below hHeld.1 hb3) (Row.below hHeld.2 hb3)
              go_wp2_with fail
              refine hK.out _ _ (S3) (fun hHeld => ?_)
              clear hK K
              (try simp only [Act.put, List.setIfInBounds_toArray, List.set_cons_zero, List.set_cons_succ])
              refine wpAnyH_take (i := 15) (oi := ⟨some 60, _, _, _, _, _⟩) (v := ?vb15) rfl (by kernel_rfl) (by kernel_rfl) (by kernel_rfl) (fun _ _ _ h => h) (Or.inl ⟨by rfl, ?yb15⟩) (by assumption) ?_
              case yb15 => (intro w hSw; obtain ⟨⟨u1, u2, _⟩, ⟨u3, u4, _⟩⟩ := hSw; go_simp; (try with_reducible rfl))
              (try simp only [Act.put, List.setIfInBounds_toArray, List.set_cons_zero, List.set_cons_succ])
              refine wpAnyH_take (i := 16) (oi := ⟨some 2, _, _, _, _, _⟩) (v := ?vb16) rfl (by kernel_rfl) (by kernel_rfl) (by kernel_rfl) (fun _ _ _ h => h) (Or.inl ⟨by rfl, ?yb16⟩) (by assumption) ?_
              case yb16 => (intro w hSw; obtain ⟨⟨u1, u2, _⟩, ⟨u3, u4, _⟩⟩ := hSw; go_simp; (try with_reducible rfl))
              (try simp only [Act.put, List.setIfInBounds_toArray, List.set_cons_zero, List.set_cons_succ])
              refine wpAnyH_done (by kernel_rfl) ?_ _
              go_wp2_with fail
              go_ret
              exact ⟨rfl, (blc).trans (hb3.mono (blc).size)⟩
            · refine AllReadyH.cons (o := ⟨some 58, _, _, _, _, _⟩) rfl (fun K hK => ?_) AllReadyH.nil
              go_simp
              refine hK.out _ _ (⟨Row.alloc hHeld.1 _, Row.alloc hHeld.2 _⟩) (fun hHeld => ?_)
              clear hK K
              (try simp only [Act.put, List.setIfInBounds_toArray, List.set_cons_zero, List.set_cons_succ])
              have o2 : Own ((w1.alloc (.cells #[.int .i64 x.a0, .int .i64 x.a1, .int .i64 x.a2, .int .i64 x.a3, .bool x.a4, .bool x.a5, .int .i64 (x.a0 + 2), .int .i64 x.a1, .int .i64 x.a2, .int .i64 x.a3, .bool x.a4, .bool x.a5] 29)).alloc (.cells #[.int .i64 (x.a0 + 1)] 3)) 3 1 (w1.heap.size + 1) 1 1 ([x.a0 + 1].map (Value.int .i64)) := Own.new1 w1 _ #[.int .i64 (x.a0 + 1)] 3 1 1 (by unfold maxLen; omega) rfl
              have blc := blL.alloc blL.size (.cells #[.int .i64 (x.a0 + 1)] 3)
              refine wpAnyH_ready (rs := [9]) (by kernel_rfl) (by simp) ?_
              refine AllReadyH.cons (o := ⟨some 54, _, _, _, _, _⟩) rfl (fun K hK => ?_) AllReadyH.nil
              go_simp
              refine (HM2.out _ _ _ (ownPacket (oL.alloc _) rfl)).mono ?_
              rintro e w2 ⟨gb, cb, rfl, hgb, ob, hb2⟩
              have blb := blc.trans (hb2.mono blc.size)
              have S2 := And.intro (Row.below hHeld.1 hb2) (Row.below hHeld.2 hb2)
              clear hHeld
              go_wp2_with fail
              refine hK.out _ _ (S2) (fun hHeld => ?_)
              clear hK K
              (try simp only [Act.put, List.setIfInBounds_toArray, List.set_cons_zero, List.set_cons_succ])
              refine wpAnyH_ready (rs := [14]) (by kernel_rfl) (by simp) ?_
              refine AllReadyH.cons (o := ⟨some 59, _, _, _, _, _⟩) rfl (fun K hK => ?_) AllReadyH.nil
              go_simp
              refine (sameInts_b _ _ _ _ [x.a0 + 1] _ (own_ints ((ob : Own w2 3 1 gb 1 cb ([x.a0 + 1].map (Value.int .i64))))) (own_ints (o2.below hb2)) (by simp)).mono ?_
              rintro e w3 ⟨rfl, hb3⟩
              have S3 := And.intro (Row.below hHeld.1 hb3) (Row.below hHeld.2 hb3)
              go_wp2_with fail
              refine hK.out _ _ (S3) (fun hHeld => ?_)
              clear hK K
              (try simp only [Act.put, List.setIfInBounds_toArray, List.set_cons_zero, List.set_cons_succ])
              refine wpAnyH_take (i := 15) (oi := ⟨some 60, _, _, _, _, _⟩) (v := ?vc15) rfl (by kernel_rfl) (by kernel_rfl) (by kernel_rfl) (fun _ _ _ h => h) (Or.inl ⟨by rfl, ?yc15⟩) (by assumption) ?_
              case yc15 => (intro w hSw; obtain ⟨⟨u1, u2, _⟩, ⟨u3, u4, _⟩⟩ := hSw; go_simp; (try with_reducible rfl))
              (try simp only [Act.put, List.setIfInBounds_toArray, List.set_cons_zero, List.set_cons_succ])
              refine wpAnyH_take (i := 16) (oi := ⟨some 2, _, _, _, _, _⟩) (v := ?vc16) rfl (by kernel_rfl) (by kernel_rfl) (by kernel_rfl) (fun _ _ _ h => h) (Or.inl ⟨by rfl, ?yc16⟩) (by assumption) ?_
              case yc16 => (intro w hSw; obtain ⟨⟨u1, u2, _⟩, ⟨u3, u4, _⟩⟩ := hSw; go_simp; (try with_reducible rfl))
              (try simp only [Act.put, List.setIfInBounds_toArray, List.set_cons_zero, List.set_cons_succ])
              refine wpAnyH_done (by kernel_rfl) ?_ _
              go_wp2_with fail
              go_ret
              exact ⟨rfl, (blb).trans (hb3.mono (blb).size)⟩
          · refine AllReadyH.cons (o := ⟨some 58, _, _, _, _, _⟩) rfl (fun K hK => ?_) AllReadyH.nil
            go_simp
            refine hK.out _ _ (⟨Row.alloc S1.1 _, Row.alloc S1.2 _⟩) (fun hHeld => ?_)
            clear hK K
            (try simp only [Act.put, List.setIfInBounds_toArray, List.set_cons_zero, List.set_cons_succ])
            have o2 : Own (w1.alloc (.cells #[.int .i64 (x.a0 + 1)] 3)) 3 1 w1.heap.size 1 1 ([x.a0 + 1].map (Value.int .i64)) := Own.new w1 #[.int .i64 (x.a0 + 1)] 3 1 1 (by unfold maxLen; omega) rfl
            refine wpAnyH_ready (rs := [8]) (by kernel_rfl) (by simp) ?_
            refine AllReadyH.cons (o := ⟨some 53, _, _, _, _, _⟩) rfl (fun K hK => ?_) AllReadyH.nil
            go_simp
            refine hK.out _ _ (⟨Row.alloc hHeld.1 _, Row.alloc hHeld.2 _⟩) (fun hHeld => ?_)
            clear hK K
            (try simp only [Act.put, List.setIfInBounds_toArray, List.set_cons_zero, List.set_cons_succ])
            have oL : Own ((w1.alloc (.cells #[.int .i64 (x.a0 + 1)] 3)).alloc (.cells #[.int .i64 x.a0, .int .i64 x.a1, .int .i64 x.a2, .int .i64 x.a3, .bool x.a4, .bool x.a5, .int .i64 (x.a0 + 2), .int .i64 x.a1, .int .i64 x.a2, .int .i64 x.a3, .bool x.a4, .bool x.a5] 29)) 29 6 (w1.heap.size + 1) 2 2 (([x, { x with a0 := x.a0 + 2 }] : List VPacket).map VPacket.cells).flatten := Own.new1 w1 _ #[.int .i64 x.a0, .int .i64 x.a1, .int .i64 x.a2, .int .i64 x.a3, .bool x.a4, .bool x.a5, .int .i64 (x.a0 + 2), .int .i64 x.a1, .int .i64 x.a2, .int .i64 x.a3, .bool x.a4, .bool x.a5] 29 6 2 (by unfold maxLen; omega) rfl
            have blL := (bl1.alloc bl1.size (.cells #[.int .i64 (x.a0 + 1)] 3))
            have blc := blL.alloc blL.size (.cells #[.int .i64 x.a0, .int .i64 x.a1, .int .i64 x.a2, .int .i64 x.a3, .bool x.a4, .bool x.a5, .int .i64 (x.a0 + 2), .int .i64 x.a1, .int .i64 x.a2, .int .i64 x.a3, .bool x.a4, .bool x.a5] 29)
            refine wpAnyH_ready (rs := [9]) (by kernel_rfl) (by simp) ?_
            refine AllReadyH.cons (o := ⟨some 54, _, _, _, _, _⟩) rfl (fun K hK => ?_) AllReadyH.nil
            go_simp
            refine (HM2.out _ _ _ (ownPacket (oL) rfl)).mono ?_
            rintro e w2 ⟨gb, cb, rfl, hgb, ob, hb2⟩
            have blb := blc.trans (hb2.mono blc.size)
            have S2 := And.intro (Row.below hHeld.1 hb2) (Row.below hHeld.2 hb2)
            clear hHeld
            go_wp2_with fail
            refine hK.out _ _ (S2) (fun hHeld => ?_)
            clear hK K
            (try simp only [Act.put, List.setIfInBounds_toArray, List.set_cons_zero, List.set_cons_succ])
            refine wpAnyH_ready (rs := [14]) (by kernel_rfl) (by simp) ?_
            refine AllReadyH.cons (o := ⟨some 59, _, _, _, _, _⟩) rfl (fun K hK => ?_) AllReadyH.nil
            go_simp
            refine (sameInts_b _ _ _ _ [x.a0 + 1] _ (own_ints ((ob : Own w2 3 1 gb 1 cb ([x.a0 + 1].map (Value.int .i64))))) (own_ints ((o2.alloc _).below hb2)) (by simp)).mono ?_
            rintro e w3 ⟨rfl, hb3⟩
            have S3 := And.intro (Row.below hHeld.1 hb3) (Row.below hHeld.2 hb3)
            go_wp2_with fail
            refine hK.out _ _ (S3) (fun hHeld => ?_)
            clear hK K
            (try simp only [Act.put, List.setIfInBounds_toArray, List.set_cons_zero, List.set_cons_succ])
            refine wpAnyH_take (i := 15) (oi := ⟨some 60, _, _, _, _, _⟩) (v := ?vd15) rfl (by kernel_rfl) (by kernel_rfl) (by kernel_rfl) (fun _ _ _ h => h) (Or.inl ⟨by rfl, ?yd15⟩) (by assumption) ?_
            case yd15 => (intro w hSw; obtain ⟨⟨u1, u2, _⟩, ⟨u3, u4, _⟩⟩ := hSw; go_simp; (try with_reducible rfl))
            (try simp only [Act.put, List.setIfInBounds_toArray, List.set_cons_zero, List.set_cons_succ])
            refine wpAnyH_take (i := 16) (oi := ⟨some 2, _, _, _, _, _⟩) (v := ?vd16) rfl (by kernel_rfl) (by kernel_rfl) (by kernel_rfl) (fun _ _ _ h => h) (Or.inl ⟨by rfl, ?yd16⟩) (by assumption) ?_
            case yd16 => (intro w hSw; obtain ⟨⟨u1, u2, _⟩, ⟨u3, u4, _⟩⟩ := hSw; go_simp; (try with_reducible rfl))
            (try simp only [Act.put, List.setIfInBounds_toArray, List.set_cons_zero, List.set_cons_succ])
            refine wpAnyH_done (by kernel_rfl) ?_ _
            go_wp2_with fail
            go_ret
            exact ⟨rfl, (blb).trans (hb3.mono (blb).size)⟩
    · have hv' : pksB zs = false := by simpa using hv
      rw [hv'] at K
      refine K.mono ?_
      clear K
      rintro e w5 ⟨rfl, hb⟩
      have o2 := o2.below hb
      have o3 := o3.below hb
      have bl := bl.trans (hb.mono bl.size)
      clear hb
      go_wp2_with fail
      refine (sameInts_b _ _ _ _ (missing zs) _ (own_ints o2) (own_ints o3) (by omega)).mono ?_
      rintro e w6 ⟨rfl, hb⟩
      have bl := bl.trans (hb.mono bl.size)
      clear hb
      go_wp2_with fail
      go_ret
      exact ⟨rfl, bl⟩
end Go.Proofs.Ytnddgbnanjikmaa
