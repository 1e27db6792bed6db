/- Walks of FnMissingAll and FnMissing. -/
import Derived.Test.YtnddgbnanjikmaaM4
import Derived.Test.YtnddgbnanjikmaaM7
namespace Go.Proofs.Ytnddgbnanjikmaa
open Go.ChangeShapes Go.WideShapes Go.ChangeAt Go.RowKit Go.Deep

theorem sameInts_b (A B : Option Addr) (c1 c2 : Nat) (zs : List Int) (w : World) (hA : IntsAt w A zs) (hB : IntsAt w B zs) (hm : zs.length ≤ 1048576) :
    Calls Try.prog 10 #[.slice A zs.length c1, .slice B zs.length c2] w (RetB true w) :=
  (sameInts_same A B c1 c2 zs w hA hB hm).mono fun _ _ ⟨he, n, hw⟩ => ⟨he, by rw [hw]; exact below_drewN' (Below.refl _ _) n⟩
theorem packet_cells {w : World} {g : Nat} {zs : List VPacket} (h : PacketAt w (some ⟨g, 0, none⟩) zs) : ∀ k, k < zs.length → w.cell? ⟨g, k * 6, none⟩ = some (.int .i64 (zs.getD k default).a0) := by
  intro k hk
  obtain ⟨b, off, he, _, hc⟩ := PacketAt.at h (by omega)
  simp only [Option.some.injEq, Addr.mk.injEq, and_true] at he
  obtain ⟨rfl, rfl⟩ := he
  have := (hc k hk).1
  rwa [Nat.zero_add] at this
set_option maxHeartbeats 4000000 in
theorem walk_fnMissingAll {H : Type} {enc : TypeId × Value → H} (W : World) (base : Nat) (v : Value) (d : DataW H) (p : List MemPlace) (o : Value.okWide Try.prog W .any base 22 v) (h : DataW.Trod enc Try.prog W 0 (fun _ => true) true 22 v d p) :
    Calls Try.prog 4 #[v] W (RetB true W) := by
  obtain ⟨A, n, c, rfl, hn, hm, hcode⟩ := open_code W base v d p o h
  clear o h
  by_cases hbig : 1048576 < (n : Int)
  · clear hcode
    go_enter Try.func4, Try.ntmps4
    go_wp2_with fail
    go_ret
    refine ⟨rfl, ?_⟩
    (repeat' (first | (with_reducible exact Below.refl _ _) | (with_reducible assumption) | (with_reducible refine Below.alloc ?_ ?_ _) | (with_reducible refine Below.setCell ?_ ?_ _) | (with_reducible refine Below.drew ?_) | (with_reducible refine below_drewN' ?_ _) | (with_reducible refine below_step (by assumption) ?_ ?_) | (with_reducible refine below_gstep (by assumption) ?_ ?_ ?_) | (with_reducible exact Below.size (by assumption)) | omega | (simp; done) | (simp; omega)))
  · have Hcode := hide hcode
    clear hcode
    go_enter Try.func4, Try.ntmps4
    go_wp2_with fail
    refine (drawMissingOf W.heap.size A n c _ Hcode.out hn hm (Nat.le_refl _)).mono ?_
    rintro e w1 ⟨g1, c1, zs, rfl, hl1, hg1, o1, bl⟩
    clear Hcode
    have lys := missing_length zs
    go_wp2_with fail
    refine (implMissingOf _ _ zs _ (ownPacket o1 rfl) (by omega)).mono ?_
    rintro e w2 ⟨g2, c2, rfl, hg2, o2, hb⟩
    have o1 := o1.below hb
    have bl := bl.trans (hb.mono bl.size)
    clear hb
    go_wp2_with fail
    refine (specMissingOf _ _ zs _ (ownPacket o1 rfl) (by omega)).mono ?_
    rintro e w3 ⟨g3, c3, rfl, hg3, o3, hb⟩
    have o1 := o1.below hb
    have o2 := o2.below hb
    have bl := bl.trans (hb.mono bl.size)
    clear hb
    go_wp2_with fail
    refine (sameInts_b _ _ _ _ (missing zs) _ (own_ints o2) (own_ints o3) (by omega)).mono ?_
    rintro e w4 ⟨rfl, hb⟩
    have o1 := o1.below hb
    have o2 := o2.below hb
    have o3 := o3.below hb
    have bl := bl.trans (hb.mono bl.size)
    clear hb
    go_wp2_with fail
    have K := specPacketsValid (some ⟨g1, 0, none⟩) c1 zs w4 (ownPacket o1 rfl) (by omega)
    by_cases hv : pksB zs = true
    · rw [hv] at K
      refine K.mono ?_
      clear K
      rintro e w5 ⟨rfl, hb⟩
      have o1 := o1.below hb
      have o2 := o2.below hb
      have o3 := o3.below hb
      have bl := bl.trans (hb.mono bl.size)
      clear hb
      by_cases h0 : zs.length = 0
      · have e0 : ((zs.length : Int) == 0) = true := by simp [h0]
        have H0 := hide h0
        clear h0
        go_wp2_with fail
        refine (sameInts_b _ _ _ _ (missing zs) _ (own_ints o2) (own_ints o3) (by omega)).mono ?_
        rintro e w6 ⟨rfl, hb⟩
        have bl := bl.trans (hb.mono bl.size)
        clear hb
        go_wp2_with fail
        go_ret
        exact ⟨rfl, bl⟩
      · have e0 : ((zs.length : Int) == 0) = false := by simp only [beq_eq_false_iff_ne, ne_eq]; omega
        have hcnt := missing_count hv (by omega)
        have cA := packet_cells (ownPacket o1 rfl)
        have hx0 := cA 0 (by omega)
        have hx1 := cA (zs.length - 1) (by omega)
        rw [Nat.zero_mul] at hx0
        have hp := (of_decide_eq_true hv).1
        have b0 := pkOK_bd (hp 0 (by omega)).1
        have b1 := pkOK_bd (hp (zs.length - 1) (by omega)).1
        obtain ⟨x0, h0⟩ : ∃ x, (zs.getD 0 default).a0 = x := ⟨_, rfl⟩
        obtain ⟨x1, h1⟩ : ∃ x, (zs.getD (zs.length - 1) default).a0 = x := ⟨_, rfl⟩
        rw [h0] at hx0 b0 hcnt
        rw [h1] at hx1 b1 hcnt
        obtain ⟨m, hmm⟩ : ∃ m, zs.length = m := ⟨_, rfl⟩
        obtain ⟨q, hq⟩ : ∃ q, (missing zs).length = q := ⟨_, rfl⟩
        rw [hmm] at hx1 hcnt hl1 ⊢
        rw [hq] at hcnt lys ⊢
        obtain ⟨S, hS⟩ : ∃ S : Int, S = x1 - x0 + 1 - (m : Int) := ⟨_, rfl⟩
        have e1 : IntKind.i64.wrap (x1 - x0) = x1 - x0 := IntWalk.i64_in _ (by omega)
        have e2 : IntKind.i64.wrap (x1 - x0 + 1) = x1 - x0 + 1 := IntWalk.i64_in _ (by omega)
        have e3 : IntKind.i64.wrap (x1 - x0 + 1 - (m : Int)) = S := by rw [hS]; exact IntWalk.i64_in _ (by omega)
        have He4 := hide (show (q : Int) = min S 60 from by rw [hS]; exact hcnt)
        have g3 : (m : Int) - 1 < (m : Int) := by omega
        have g4 : 0 ≤ (m : Int) - 1 := by omega
        have g5 : IntKind.i64.wrap ((m : Int) - 1) = (m : Int) - 1 := IntWalk.i64_in _ (by omega)
        have g6 : ((m : Int) - 1).toNat = m - 1 := by omega
        have g7 : (0 : Int) < (m : Int) := by omega
        have g9 : (1 : Int) ≤ (m : Int) := by omega
        clear cA hp h0 h1 hmm hq hcnt hS o1 o2 o3
        go_wp2_with fail
        go_quiet (fail)
        clear e1 e2 e3 g5 g6
        go_wp2_with fail
        all_goals
          go_ret
          refine retB_mk ?_ (below_drewN' bl _)
          have := He4.out
          simp
          omega
    · have hv' : pksB zs = false := by simpa using hv
      rw [hv'] at K
      refine K.mono ?_
      clear K
      rintro e w5 ⟨rfl, hb⟩
      have o2 := o2.below hb
      have o3 := o3.below hb
      have bl := bl.trans (hb.mono bl.size)
      clear hb
      go_wp2_with fail
      refine (sameInts_b _ _ _ _ (missing zs) _ (own_ints o2) (own_ints o3) (by omega)).mono ?_
      rintro e w6 ⟨rfl, hb⟩
      have bl := bl.trans (hb.mono bl.size)
      clear hb
      go_wp2_with fail
      go_ret
      exact ⟨rfl, bl⟩
end Go.Proofs.Ytnddgbnanjikmaa
