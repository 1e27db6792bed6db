/- Whether a member is valid: contract of the program's. -/
import Derived.Test.YtjbengphioankaaR5
namespace Go.Proofs.Ytjbengphioankaa
open Go.ChangeShapes Go.WideShapes Go.ChangeAt Go.RowKit Go.Deep

theorem mem_no1 {ms : List VMem} {x : VMem} (h : ¬ (0 ≤ x.id ∧ x.id ≤ 99)) : memB ms x = false := by unfold memB; rw [decide_eq_false h]; rfl
theorem mem_no2 {ms : List VMem} {x : VMem} (h : hearB ms x = false) : memB ms x = false := by unfold memB; rw [h, Bool.and_false]
theorem mem_yes {ms : List VMem} {x : VMem} (h1 : 0 ≤ x.id ∧ x.id ≤ 99) (h : hearB ms x = true) : memB ms x = true := by unfold memB; rw [h, decide_eq_true h1]; rfl
set_option maxHeartbeats 4000000 in
theorem implMember (A : Option Addr) (c : Nat) (ms : List VMem) (x : VMem) (H : Option Addr) (ch : Nat) (w : World) (h : MemAt w A ms) (hI : IntsAt w H x.hs) (hm : ms.length ≤ 1048576) (hl : x.hs.length ≤ 1048576) :
    Calls Try.prog 45 #[.slice A ms.length c, .agg #[.int .i64 x.id, .bool x.sends, .slice H x.hs.length ch]] w (RetB (memB ms x) w) := by
  have Hh := hide h
  have HI := hide hI
  have KA := fun y w h => placeOf_any A c ms y w h hm
  obtain ⟨n, hn⟩ : ∃ n, ms.length = n := ⟨_, rfl⟩
  obtain ⟨l, hll⟩ : ∃ l, x.hs.length = l := ⟨_, rfl⟩
  rw [hn] at KA ⊢
  rw [hll] at hl ⊢
  obtain ⟨id, hid⟩ : ∃ i, x.id = i := ⟨_, rfl⟩
  obtain ⟨sn, hsn⟩ : ∃ i, x.sends = i := ⟨_, rfl⟩
  rw [hid, hsn]
  have Hid' := hide hid
  have HKA := hide KA
  have Hl := hide hll
  clear h hI hn KA hll hid hsn
  by_cases q1 : id < 0
  · have HN := hide (mem_no1 (ms := ms) (x := x) (by rw [Hid'.out]; omega))
    go_enter Try.func45, Try.ntmps45
    go_wp2_with fail
    go_ret
    refine retB_mk (by rw [HN.out] <;> rfl) ?_
    (repeat' (first | (with_reducible exact Below.refl _ _) | (with_reducible assumption) | (with_reducible refine Below.alloc ?_ ?_ _) | (with_reducible refine Below.setCell ?_ ?_ _) | (with_reducible refine Below.drew ?_) | (with_reducible refine below_drewN' ?_ _) | (with_reducible refine below_step (by assumption) ?_ ?_) | (with_reducible refine below_gstep (by assumption) ?_ ?_ ?_) | (with_reducible exact Below.size (by assumption)) | omega | (simp; done) | (simp; omega)))
  by_cases q2 : 99 < id
  · have HN := hide (mem_no1 (ms := ms) (x := x) (by rw [Hid'.out]; omega))
    go_enter Try.func45, Try.ntmps45
    go_wp2_with fail
    go_ret
    refine retB_mk (by rw [HN.out] <;> rfl) ?_
    (repeat' (first | (with_reducible exact Below.refl _ _) | (with_reducible assumption) | (with_reducible refine Below.alloc ?_ ?_ _) | (with_reducible refine Below.setCell ?_ ?_ _) | (with_reducible refine Below.drew ?_) | (with_reducible refine below_drewN' ?_ _) | (with_reducible refine below_step (by assumption) ?_ ?_) | (with_reducible refine below_gstep (by assumption) ?_ ?_ ?_) | (with_reducible exact Below.size (by assumption)) | omega | (simp; done) | (simp; omega)))
  have HQ := hide (show 0 ≤ x.id ∧ x.id ≤ 99 by rw [Hid'.out]; omega)
  go_enter Try.func45, Try.ntmps45
  obtain ⟨P, hP⟩ : ∃ P, w.heap.size = P := ⟨_, rfl⟩
  have R0 := Row.new w #[.int .i64 id, .bool sn, .slice H l ch] 79
  rw [hP] at R0
  go_wp2_with fail
  go_loopw [18] (fun i wr => ∃ k : Nat, k ≤ l ∧ i = .int .i64 k ∧ hearT ms x k ∧ Row wr P #[.int .i64 id, .bool sn, .slice H l ch] ∧ Below w.heap.size w wr) (fun i _ => l - (intOf i).toNat)
  case atStart => exact ⟨0, by omega, rfl, (fun i hi => by omega), R0, (Below.refl _ _).alloc (Nat.le_refl _) _⟩
  case round =>
    obtain ⟨k, hk, rfl, hok, ⟨cP, fP, lP⟩, hbl⟩ := hrel
    have Hok := hide hok
    have Hbl := hide hbl
    clear hok hbl R0
    by_cases hk' : k < l
    · obtain ⟨b, off, rfl, hlt, hc⟩ := ints_at (HI.out.below Hbl.out) (by have := Hl.out; omega)
      have hz := hc k (by have := Hl.out; omega)
      obtain ⟨y, hy⟩ : ∃ y, x.hs.getD k 0 = y := ⟨_, rfl⟩
      rw [hy] at hz
      have Hy := hide hy
      have Hc := hide hc
      clear hy hc
      have g2 : (k : Int) < (l : Int) := by omega
      obtain ⟨r, hr⟩ : ∃ r, atM ms y = r := ⟨_, rfl⟩
      have KY := fun w h => HKA.out y w h
      rw [hr] at KY
      have HKY := hide KY
      have Hr := hide hr
      clear KY hr
      by_cases hyi : y = id
      · have HN := hide (mem_no2 (hear_no (ms := ms) Hl.out hk' Hy.out (fun q => q.1 (by rw [Hid'.out]; exact hyi))))
        have e0 : (y == id) = true := by simpa using hyi
        clear hyi
        go_wp2_with fail
        go_ret
        exact retB_mk (by rw [HN.out] <;> rfl) Hbl.out
      have Hyi := hide hyi
      have e0 : (y == id) = false := by simpa using hyi
      have s0 := Hbl.out.size
      clear hyi
      go_wp2_with fail
      refine (HKY.out _ (Hh.out.below Hbl.out)).mono ?_
      rintro en w2 ⟨rfl, hb⟩
      have rP : Row w2 (P) _ := Row.below (by (repeat' (first | (with_reducible assumption) | (with_reducible exact Row.new _ _ _) | (with_reducible exact Row.new1 _ _ _ _) | (with_reducible exact Row.new2 _ _ _ _ _) | (with_reducible exact Row.new2' _ _ _ _ _) | ((with_reducible apply Row.mk) <;> (with_reducible assumption)) | (with_reducible apply Row.alloc) | (with_reducible apply Row.set) | (with_reducible apply Row.far) | (with_reducible apply Row.drew) | (with_reducible apply Row.drewN) | omega | (simp; done) | (simp; omega)))) hb
      (try clear cP fP lP)
      obtain ⟨cP, fP, lP⟩ := rP
      have Hc2 := hide (fun i (hi : i < x.hs.length) => (hb.cell (p := ⟨b, off + i, none⟩) hlt).trans (Hc.out i hi))
      have B2 := hide (Hbl.out.trans (hb.mono s0))
      clear hb hz hlt s0
      by_cases hr0 : r < 0
      · have HN := hide (mem_no2 (hear_no (ms := ms) Hl.out hk' Hy.out (fun q => by have := q.2.1; have := Hr.out; omega)))
        go_wp2_with fail
        go_ret
        exact retB_mk (by rw [HN.out] <;> rfl) B2.out
      by_cases hk0 : k = 0
      · have Hk0 := hide hk0
        have Hr0 := hide hr0
        subst hk0
        have g1 : ¬ (0 : Int) < 0 := by omega
        simp only [Int.natCast_zero] at g2 ⊢
        go_wp2_with fail
        go_roundw
        case rel => exact ⟨1, by omega, by first | rfl | go_num, hear_next Hok.out Hy.out (by rw [Hid'.out]; exact Hyi.out) (by rw [Hr.out]; have := Hr0.out; omega) (fun h => absurd h (by omega)), Row.mk cP fP lP, B2.out⟩
        case measure => simp [intOf]; omega
      · have hz0 := Hc2.out (k - 1) (by have := Hl.out; omega)
        obtain ⟨z, hzz⟩ : ∃ z, x.hs.getD (k - 1) 0 = z := ⟨_, rfl⟩
        rw [hzz] at hz0
        have Hz := hide hzz
        clear hzz
        have g1 : 0 < k := by omega
        have g3 : (k : Int) - 1 < (l : Int) := by omega
        have g4 : 0 ≤ (k : Int) - 1 := by omega
        have g5 : IntKind.i64.wrap ((k : Int) - 1) = (k : Int) - 1 := IntWalk.i64_in _ (by omega)
        have g6 : ((k : Int) - 1).toNat = k - 1 := by omega
        have Hk0 := hide hk0
        have Hr0 := hide hr0
        clear hk0
        by_cases hyz : y ≤ z
        · have HN := hide (mem_no2 (hear_no (ms := ms) Hl.out hk' Hy.out (fun q => by have := q.2.2 (by have := Hk0.out; omega); rw [Hz.out] at this; omega)))
          go_wp2_with fail
          go_ret
          exact retB_mk (by rw [HN.out] <;> rfl) B2.out
        · have Hyz := hide hyz
          go_wp2_with fail
          go_roundw
          case rel => exact ⟨k + 1, by omega, by go_num, hear_next Hok.out Hy.out (by rw [Hid'.out]; exact Hyi.out) (by rw [Hr.out]; have := Hr0.out; omega) (fun h => by rw [Hz.out]; have := Hyz.out; omega), Row.mk cP fP lP, B2.out⟩
          case measure => simp [intOf]; omega
    · have hkn : k = l := by omega
      subst hkn
      have HY := hide (mem_yes HQ.out (hear_yes Hl.out Hok.out))
      go_wp2_with fail
      go_ret
      exact retB_mk (by rw [HY.out] <;> rfl) Hbl.out
end Go.Proofs.Ytjbengphioankaa
