/- PacketsValid, of both: contracts. -/
import Derived.Test.YticelpaicenbkaaMI
import Derived.Test.YticelpaicenbkaaI3
import Derived.Test.YticelpaicenbkaaO2
import Derived.Test.YticelpaicenbkaaRW
namespace Go.Proofs.Yticelpaicenbkaa
open Go.ChangeShapes Go.WideShapes Go.ChangeAt Go.RowKit Go.Deep

theorem PacketAt.below {w w' : World} {A : Option Addr} {zs : List VPacket} (h : PacketAt w A zs) (hb : Below w.heap.size w w') : PacketAt w' A zs := RecAt.below h hb
/-- What holds of one more packet. -/
theorem pksT_succ {zs : List VPacket} {k : Nat} (h : pksT zs k) (h1 : pkOK (zs.getD k default) = true) (h2 : 0 < k → (zs.getD (k - 1) default).a0 < (zs.getD k default).a0 ∧ (zs.getD (k - 1) default).a1 ≤ (zs.getD k default).a1) : pksT zs (k + 1) := by
  intro i hi
  rcases Nat.lt_succ_iff_lt_or_eq.1 hi with hi | rfl
  · exact h i hi
  · exact ⟨h1, h2⟩
set_option maxHeartbeats 4000000 in
theorem implPacketsValid (A : Option Addr) (c : Nat) (zs : List VPacket) (w : World) (h : PacketAt w A zs) (hm : zs.length ≤ 1048576) :
    Calls Try.prog 32 #[.slice A zs.length c] w (RetB (pksB zs) w) := by
  have Hh := hide h
  clear h
  obtain ⟨n, hn⟩ : ∃ n, zs.length = n := ⟨_, rfl⟩
  have hR : pksB zs = decide (pksT zs n ∧ n ≤ 20) := by unfold pksB; rw [hn]
  rw [hR, hn]
  rw [hn] at hm
  have Hn := hide hn
  clear hn hR
  by_cases hb2 : n ≤ 20
  · have q2 : ¬ (20 : Int) < (n : Int) := by omega
    go_enter Try.func32, Try.ntmps32
    go_wp2_with fail
    go_loopw [10] (fun i wr => ∃ k : Nat, k ≤ n ∧ i = .int .i64 k ∧ pksT zs k ∧ Below w.heap.size w wr) (fun i _ => n - (intOf i).toNat)
    case atStart => exact ⟨0, by omega, rfl, fun i hi => by omega, Below.refl _ _⟩
    case round =>
      obtain ⟨k, hk, rfl, hok, hbel⟩ := hrel
      have Hok := hide hok
      clear hok
      by_cases hk' : k < n
      · obtain ⟨b, off, rfl, hlt, hc⟩ := PacketAt.at Hh.out (by have := Hn.out; omega)
        have hA := hc k (by have := Hn.out; omega)
        have sbel := hbel.size
        have hlt1 : b < wr.heap.size := by omega
        obtain ⟨x, hx⟩ : ∃ x, zs.getD k default = x := ⟨_, rfl⟩
        rw [hx] at hA
        obtain ⟨s0, s1, s2, s3, s4, s5⟩ := hA
        replace s0 := (hbel.cell (p := ⟨b, off + k * 6, none⟩) hlt).trans s0
        replace s1 := (hbel.cell (p := ⟨b, off + k * 6 + 1, none⟩) hlt).trans s1
        replace s2 := (hbel.cell (p := ⟨b, off + k * 6 + 2, none⟩) hlt).trans s2
        replace s3 := (hbel.cell (p := ⟨b, off + k * 6 + 3, none⟩) hlt).trans s3
        replace s4 := (hbel.cell (p := ⟨b, off + k * 6 + 4, none⟩) hlt).trans s4
        replace s5 := (hbel.cell (p := ⟨b, off + k * 6 + 5, none⟩) hlt).trans s5
        have Hx := hide hx
        have Hbel := hide hbel
        have g2 : (k : Int) < (n : Int) := by omega
        clear hx hbel
        by_cases h1 : pkOK x = true
        · have d1 : pkB x.a0 x.a1 x.a2 x.a3 = true := h1
          have H1 := hide h1
          clear h1
          by_cases hk0 : k = 0
          · have g1 : decide (0 < k) = false := by simp; omega
            have Hk0 := hide hk0
            clear hc hk0
            go_wp2_with fail
            refine (implPacketValid _ _ _ _ _ _ _).mono ?_
            rintro e w1 ⟨rfl, hb1⟩
            have b1 := hide ((Hbel.out.alloc sbel _).trans (hb1.mono (by simp; omega)))
            clear hb1
            go_wp2_with fail
            go_quiet (fail)
            go_wp2_with fail
            go_roundw
            case rel => exact ⟨k + 1, by omega, by go_num, pksT_succ Hok.out (by rw [Hx.out]; exact H1.out) (fun h => absurd Hk0.out (by omega)), below_drewN' b1.out _⟩
            case measure => simp [intOf]; omega
          · have hB := hc (k - 1) (by have := Hn.out; omega)
            obtain ⟨y, hy⟩ : ∃ y, zs.getD (k - 1) default = y := ⟨_, rfl⟩
            rw [hy] at hB
            obtain ⟨t0, t1, _⟩ := hB
            have Hy := hide hy
            have g1 : decide (0 < k) = true := by simp; omega
            have g3 : (k : Int) - 1 < (n : Int) := by omega
            have g4 : 0 ≤ (k : Int) - 1 := by omega
            have g5 : IntKind.i64.wrap ((k : Int) - 1) = (k : Int) - 1 := IntWalk.i64_in _ (by omega)
            have g6 : ((k : Int) - 1).toNat = k - 1 := by omega
            replace t0 := (Hbel.out.cell (p := ⟨b, off + (k - 1) * 6, none⟩) hlt).trans t0
            replace t1 := (Hbel.out.cell (p := ⟨b, off + (k - 1) * 6 + 1, none⟩) hlt).trans t1
            clear hc hk0 hy
            have G5 := hide g5
            have G6 := hide g6
            clear g5 g6
            go_wp2_with fail
            refine (implPacketValid _ _ _ _ _ _ _).mono ?_
            rintro e w1 ⟨rfl, hb1⟩
            have b1 := hide ((Hbel.out.alloc sbel _).trans (hb1.mono (by simp; omega)))
            have rX : Row w1 (wr.heap.size) _ := Row.below (by (repeat' (first | (with_reducible assumption) | (with_reducible exact Row.new _ _ _) | (with_reducible exact Row.new1 _ _ _ _) | (with_reducible exact Row.new2 _ _ _ _ _) | (with_reducible exact Row.new2' _ _ _ _ _) | ((with_reducible apply Row.mk) <;> (with_reducible assumption)) | (with_reducible apply Row.alloc) | (with_reducible apply Row.set) | (with_reducible apply Row.far) | (with_reducible apply Row.drew) | (with_reducible apply Row.drewN) | omega | (simp; done) | (simp; omega)))) hb1
            (try clear cX fX lX)
            obtain ⟨cX, fX, lX⟩ := rX
            have u0 := (hb1.cell (p := ⟨b, off + (k - 1) * 6, none⟩) (by simp; omega)).trans ((World.cell?_alloc_lt wr _ ⟨b, off + (k - 1) * 6, none⟩ hlt1).trans t0)
            have u1 := (hb1.cell (p := ⟨b, off + (k - 1) * 6 + 1, none⟩) (by simp; omega)).trans ((World.cell?_alloc_lt wr _ ⟨b, off + (k - 1) * 6 + 1, none⟩ hlt1).trans t1)
            clear hb1 s0 s1 s2 s3 s4 s5 t0 t1
            have g5 := G5.out
            have g6 := G6.out
            by_cases h2 : x.a0 ≤ y.a0
            · have g7 : decide (x.a0 ≤ y.a0) = true := decide_eq_true h2
              go_wp2_with fail
              go_quiet (fail)
              clear g5 g6 g7 g1
              go_wp2_with fail
              go_ret
              refine retB_mk ?_ (below_drewN' b1.out _)
              symm
              apply decide_eq_false
              intro hok0
              have hok : pksT zs n := by first | exact hok0 | exact hok0.1
              have := ((hok k hk').2 (by omega)).1
              rw [Hx.out, Hy.out] at this
              omega
            · have g7 : decide (x.a0 ≤ y.a0) = false := decide_eq_false h2
              by_cases h3 : x.a1 < y.a1
              · have g8 : decide (x.a1 < y.a1) = true := decide_eq_true h3
                go_wp2_with fail
                go_quiet (fail)
                clear g5 g6 g7 g8 g1
                go_wp2_with fail
                go_ret
                refine retB_mk ?_ (below_drewN' b1.out _)
                symm
                apply decide_eq_false
                intro hok0
                have hok : pksT zs n := by first | exact hok0 | exact hok0.1
                have := ((hok k hk').2 (by omega)).2
                rw [Hx.out, Hy.out] at this
                omega
              · have g8 : decide (x.a1 < y.a1) = false := decide_eq_false h3
                go_wp2_with fail
                go_quiet (fail)
                clear g5 g6 g7 g8 g1
                go_wp2_with fail
                go_roundw
                case rel => exact ⟨k + 1, by omega, by go_num, pksT_succ Hok.out (by rw [Hx.out]; exact H1.out) (fun _ => by rw [Hx.out, Hy.out]; omega), below_drewN' b1.out _⟩
                case measure => simp [intOf]; omega
        · have d1 : pkB x.a0 x.a1 x.a2 x.a3 = false := by simpa [pkOK] using h1
          have H1 := hide h1
          clear hc h1
          go_wp2_with fail
          refine (implPacketValid _ _ _ _ _ _ _).mono ?_
          rintro e w1 ⟨rfl, hb1⟩
          have b1 := hide ((Hbel.out.alloc sbel _).trans (hb1.mono (by simp; omega)))
          clear hb1
          go_wp2_with fail
          go_ret
          refine retB_mk ?_ b1.out
          symm
          apply decide_eq_false
          intro hok0
          have hok : pksT zs n := by first | exact hok0 | exact hok0.1
          have := (hok k hk').1
          rw [Hx.out] at this
          exact H1.out this
      · have hkn : k = n := by omega
        subst hkn
        have Hbel := hide hbel
        clear hbel
        go_wp2_with fail
        go_ret
        refine retB_mk ?_ Hbel.out
        symm
        exact decide_eq_true ⟨Hok.out, hb2⟩
  · have q2 : (20 : Int) < (n : Int) := by omega
    go_enter Try.func32, Try.ntmps32
    go_wp2_with fail
    go_ret
    refine retB_mk ?_ (Below.refl _ _)
    symm
    exact decide_eq_false fun h => by omega
end Go.Proofs.Yticelpaicenbkaa
