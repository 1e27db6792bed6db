/- Whom a member hears: contracts of both. -/
import Derived.Test.YtjbengphioankaaR4
namespace Go.Proofs.Ytjbengphioankaa
open Go.ChangeShapes Go.WideShapes Go.ChangeAt Go.RowKit Go.Deep

theorem ints_at {w : World} {A : Option Addr} {zs : List Int} (h : IntsAt w A zs) (h1 : 1 ≤ zs.length) : ∃ b off, A = some ⟨b, off, none⟩ ∧ b < w.heap.size ∧ ∀ i, i < zs.length → w.cell? ⟨b, off + i, none⟩ = some (.int .i64 (zs.getD i 0)) := by
  rcases h with h | h
  · simp [h] at h1
  · exact h
set_option maxHeartbeats 4000000 in
theorem specHears (A : Option Addr) (c : Nat) (ms : List VMem) (x : VMem) (H : Option Addr) (ch : Nat) (w : World) (h : MemAt w A ms) (hI : IntsAt w H x.hs) (hm : ms.length ≤ 1048576) (hl : x.hs.length ≤ 1048576) :
    Calls Try.prog 43 #[.slice A ms.length c, .agg #[.int .i64 x.id, .bool x.sends, .slice H x.hs.length ch]] w (RetB (hearB ms x) w) := by
  have Hh := hide h
  have HI := hide hI
  have KA := fun y w h => l31At_any A c ms y w h hm
  obtain ⟨n, hn⟩ : ∃ n, ms.length = n := ⟨_, rfl⟩
  obtain ⟨l, hll⟩ : ∃ l, x.hs.length = l := ⟨_, rfl⟩
  rw [hn] at KA ⊢
  rw [hll] at hl ⊢
  obtain ⟨id, hid⟩ : ∃ i, x.id = i := ⟨_, rfl⟩
  obtain ⟨sn, hsn⟩ : ∃ i, x.sends = i := ⟨_, rfl⟩
  rw [hid, hsn]
  have Hid' := hide hid
  have HKA := hide KA
  have Hl := hide hll
  clear h hI hn KA hll hid hsn
  go_enter Try.func43, Try.ntmps43
  obtain ⟨P, hP⟩ : ∃ P, w.heap.size = P := ⟨_, rfl⟩
  have R0 := Row.new w #[.int .i64 id, .bool sn, .slice H l ch] 79
  rw [hP] at R0
  go_wp2_with fail
  refine rebase (fun wx => Row wx P #[.int .i64 id, .bool sn, .slice H l ch] ∧ Below w.heap.size w wx) ⟨R0, (Below.refl _ _).alloc (Nat.le_refl _) _⟩ ?_
  rintro w0 ⟨⟨cP, fP, lP⟩, b0⟩
  have HM0 := hide (Hh.out.below b0)
  have HI0 := hide (HI.out.below b0)
  have B0 := hide b0
  clear R0 hP b0
  go_loopw [5] (fun i wr => ∃ k d : Nat, k ≤ l ∧ i = .int .i64 k ∧ hearT ms x k ∧ wr = w0.drewN d) (fun i _ => l - (intOf i).toNat)
  case atStart => exact ⟨0, 0, by omega, rfl, (fun i hi => by omega), rfl⟩
  case round =>
    obtain ⟨k, d, hk, rfl, hok, rfl⟩ := hrel
    have Hok := hide hok
    clear hok
    by_cases hk' : k < l
    · obtain ⟨b, off, rfl, hlt, hc⟩ := ints_at HI0.out (by have := Hl.out; omega)
      have hz := hc k (by have := Hl.out; omega)
      obtain ⟨y, hy⟩ : ∃ y, x.hs.getD k 0 = y := ⟨_, rfl⟩
      rw [hy] at hz
      have Hy := hide hy
      have Hc := hide hc
      clear hy hc
      have g2 : (k : Int) < (l : Int) := by omega
      obtain ⟨r, hr⟩ : ∃ r, atM ms y = r := ⟨_, rfl⟩
      have KY := fun w h => HKA.out y w h
      rw [hr] at KY
      have HKY := hide KY
      have Hr := hide hr
      clear KY hr
      by_cases hyi : y = id
      · have HN := hide (hear_no (ms := ms) Hl.out hk' Hy.out (fun q => q.1 (by rw [Hid'.out]; exact hyi)))
        have e0 : (y == id) = true := by simpa using hyi
        clear hyi
        go_wp2_with fail
        go_quiet ((go_at_call 58; first | exact quiet_add_same (HKY.out _ (HM0.out.drewN _)) | exact Calls.quiet_of_same (HKY.out _ (HM0.out.drewN _))))
        clear e0
        go_wp2_with fail
        go_ret
        exact retB_mk (by rw [HN.out] <;> rfl) (below_drewN' (below_drewN' B0.out _) _)
      · have Hyi := hide hyi
        have e0 : (y == id) = false := by simpa using hyi
        clear hyi
        by_cases hr0 : r < 0
        · have HN := hide (hear_no (ms := ms) Hl.out hk' Hy.out (fun q => by have := q.2.1; have := Hr.out; omega))
          have d1 : decide (r < 0) = true := decide_eq_true hr0
          clear hr0
          go_wp2_with fail
          go_quiet ((go_at_call 58; first | exact quiet_add_same (HKY.out _ (HM0.out.drewN _)) | exact Calls.quiet_of_same (HKY.out _ (HM0.out.drewN _))))
          clear e0 d1
          go_wp2_with fail
          go_ret
          exact retB_mk (by rw [HN.out] <;> rfl) (below_drewN' (below_drewN' B0.out _) _)
        · have Hr0 := hide hr0
          have d1 : decide (r < 0) = false := decide_eq_false hr0
          clear hr0
          by_cases hk0 : k = 0
          · have g1 : decide (0 < k) = false := by simp; omega
            have Hk0 := hide hk0
            clear hk0
            go_wp2_with fail
            go_quiet ((go_at_call 58; first | exact quiet_add_same (HKY.out _ (HM0.out.drewN _)) | exact Calls.quiet_of_same (HKY.out _ (HM0.out.drewN _))))
            clear e0 d1 g1
            go_wp2_with fail
            go_roundw
            case rel => exact ⟨k + 1, d + nq, by omega, by go_num, hear_next Hok.out Hy.out (by rw [Hid'.out]; exact Hyi.out) (by rw [Hr.out]; have := Hr0.out; omega) (fun h => absurd Hk0.out (by omega)), by first | rfl | simp⟩
            case measure => simp [intOf]; omega
          · have hz0 := Hc.out (k - 1) (by have := Hl.out; omega)
            obtain ⟨z, hzz⟩ : ∃ z, x.hs.getD (k - 1) 0 = z := ⟨_, rfl⟩
            rw [hzz] at hz0
            have Hz := hide hzz
            clear hzz
            have g1 : decide (0 < k) = true := by simp; omega
            have g3 : (k : Int) - 1 < (l : Int) := by omega
            have g4 : 0 ≤ (k : Int) - 1 := by omega
            have g5 : IntKind.i64.wrap ((k : Int) - 1) = (k : Int) - 1 := IntWalk.i64_in _ (by omega)
            have g6 : ((k : Int) - 1).toNat = k - 1 := by omega
            have Hk0 := hide hk0
            clear hk0
            by_cases hyz : y ≤ z
            · have HN := hide (hear_no (ms := ms) Hl.out hk' Hy.out (fun q => by have := q.2.2 (by have := Hk0.out; omega); rw [Hz.out] at this; omega))
              have g7 : decide (y ≤ z) = true := decide_eq_true hyz
              clear hyz
              go_wp2_with fail
              go_quiet ((go_at_call 58; first | exact quiet_add_same (HKY.out _ (HM0.out.drewN _)) | exact Calls.quiet_of_same (HKY.out _ (HM0.out.drewN _))))
              clear e0 d1 g1 g5 g6 g7
              go_wp2_with fail
              go_ret
              exact retB_mk (by rw [HN.out] <;> rfl) (below_drewN' (below_drewN' B0.out _) _)
            · have Hyz := hide hyz
              have g7 : decide (y ≤ z) = false := decide_eq_false hyz
              clear hyz
              go_wp2_with fail
              go_quiet ((go_at_call 58; first | exact quiet_add_same (HKY.out _ (HM0.out.drewN _)) | exact Calls.quiet_of_same (HKY.out _ (HM0.out.drewN _))))
              clear e0 d1 g1 g5 g6 g7
              go_wp2_with fail
              go_roundw
              case rel => exact ⟨k + 1, d + nq, by omega, by go_num, hear_next Hok.out Hy.out (by rw [Hid'.out]; exact Hyi.out) (by rw [Hr.out]; have := Hr0.out; omega) (fun h => by rw [Hz.out]; have := Hyz.out; omega), by first | rfl | simp⟩
              case measure => simp [intOf]; omega
    · have hkn : k = l := by omega
      subst hkn
      have HY := hide (hear_yes Hl.out Hok.out)
      go_wp2_with fail
      go_ret
      exact retB_mk (by rw [HY.out] <;> rfl) (below_drewN' B0.out _)
end Go.Proofs.Ytjbengphioankaa
