/- What DrawLayeredRun draws; slices of packets that a law compares. -/
import Derived.Test.YticelpaicenbkaaL7
import Derived.Test.YticelpaicenbkaaDL1
import Derived.Test.YticelpaicenbkaaM5
namespace Go.Proofs.Yticelpaicenbkaa
open Go.ChangeShapes Go.WideShapes Go.ChangeAt Go.RowKit Go.Deep

def DrewRun (w : World) (e : Ending) (w' : World) : Prop :=
  ∃ a b g c zs, e = .returned (.tuple #[.agg #[.int .i64 a, .int .i64 b], .slice (some ⟨g, 0, none⟩) (List.length zs) c]) ∧ zs.length ≤ 10 ∧ Own w' 35 6 g zs.length c (zs.map VPacket.cells).flatten ∧ Below w.heap.size w w'
theorem Row.drew_ {w : World} {g : Nat} {cs : Array Value} (h : Row w g cs) : Row w.drew g cs := h
theorem set2_row {w : World} {g : Nat} {x y : Value} (h : Row w g #[x, y]) (a b : Value) : Row ((w.drew.setCell ⟨g, 0, none⟩ a).setCell ⟨g, 1, none⟩ b) g #[a, b] := by
  have h1 : Row w.drew g #[x, y] := h
  exact (h1.set 0 (by simp) a).set 1 (by simp) b
set_option maxHeartbeats 2000000 in
theorem Rd.setOut {w : World} {B R P : Nat} (h : Rd w B R P) {a : Addr} (h1 : B ≤ a.block) (h2 : R ≠ a.block) (v : Value) : Rd (w.setCell a v) B R P := by
  obtain ⟨h0, A, n, c, p, h, g1, g2, g3⟩ := h
  exact ⟨h0, A, n, c, p, (Below.heap_setCell w a v R h2).trans h, g1, g2, g3.keep (by simp [World.setCell]) fun k hk _ => Below.heap_setCell w a v k (by omega)⟩
set_option maxHeartbeats 2000000 in
theorem drawLayeredRun (B : Nat) (A : Option Addr) (n c : Nat) (w : World) (hcode : Code w B A n) (hn : n ≤ c) (hm : c ≤ 9223372036854775807) (hB : B ≤ w.heap.size) :
    Calls Try.prog 28 #[.slice A n c] w (DrewRun w) := by
  have Hcode := hide hcode
  clear hcode
  have r0 := Row.new w #[.int .i64 0, .int .i64 0] 25
  have b0 := (Below.refl w.heap.size w).alloc (Nat.le_refl _) (.cells #[.int .i64 0, .int .i64 0] 25)
  go_enter Try.func28, Try.ntmps28
  go_wp2_with fail
  refine (l6Open_any B A n c _ (Hcode.out.alloc _) hn hm (by simp; omega)).mono ?_
  rintro e w1 ⟨R, rfl, hR, hr, hb1⟩
  simp at hR
  have r1 := r0.below hb1
  have b1 := b0.trans (hb1.mono b0.size)
  clear Hcode r0 b0 hb1
  go_wp2_with fail
  refine (l92Layered_any B R 0 _ hr (by omega)).mono ?_
  rintro e w2 ⟨v, rfl, ⟨a, b, rfl⟩, hr2, hg2⟩
  have r2 := r1.grown hg2 (by omega)
  have b2 := b1.grown hg2 b1.size (by intro k hk; simp at hk; omega)
  have l2 := hr2.lt
  have s2 := b2.size
  clear hr hg2 b1 r1
  go_wp2_with fail
  have r3 := Row.new w2 #[.int .i64 a, .int .i64 b] 25
  have r2 := r2.alloc (.cells #[.int .i64 a, .int .i64 b] 25)
  have hr2 := hr2.alloc (.cells #[.int .i64 a, .int .i64 b] 25)
  have b2 := b2.alloc s2 (.cells #[.int .i64 a, .int .i64 b] 25)
  obtain ⟨bx, hbx⟩ : ∃ g, w2.heap.size = g := ⟨_, rfl⟩
  obtain ⟨bo, hbo⟩ : ∃ g, w.heap.size = g := ⟨_, rfl⟩
  obtain ⟨w3, hw3⟩ : ∃ w3, (w2.alloc (.cells #[.int .i64 a, .int .i64 b] 25)) = w3 := ⟨_, rfl⟩
  rw [hw3] at r2 r3 hr2 b2 ⊢
  rw [hbx] at r3 l2 s2 ⊢
  have b2' := b2
  rw [hbo] at r2 s2 hB hR ⊢
  have hRo : bo ≠ R := by omega
  have hxo : bo < bx := by omega
  have R2 := hide r2
  have R3 := hide r3
  have HR2 := hide hr2
  have B2 := hide b2
  clear hw3 hbx r2 r3 hr2 b2 b2'
  refine wp_region_held_drew (S := fun w' => Row w' bx #[.int .i64 a, .int .i64 b]) (by kernel_rfl) (by exact R3.out) (fun hHeld => ?_)
  refine wpAnyH_take (i := 0) (oi := ⟨some 10, _, _, _, _, _⟩) (v := ?va0) rfl (by kernel_rfl) (by kernel_rfl) (by kernel_rfl) (fun _ _ _ h => h) (Or.inl ⟨by rfl, ?ya0⟩) (by assumption) ?_
  case ya0 => (intro w hSw; obtain ⟨u1, u2, _⟩ := hSw; go_simp; (try with_reducible rfl))
  (try simp only [Act.put, List.setIfInBounds_toArray, List.set_cons_zero, List.set_cons_succ])
  refine wpAnyH_take (i := 1) (oi := ⟨some 11, _, _, _, _, _⟩) (v := ?va1) rfl (by kernel_rfl) (by kernel_rfl) (by kernel_rfl) (fun _ _ _ h => h) (Or.inl ⟨by rfl, ?ya1⟩) (by assumption) ?_
  case ya1 => (intro w hSw; obtain ⟨u1, u2, _⟩ := hSw; go_simp; (try with_reducible rfl))
  (try simp only [Act.put, List.setIfInBounds_toArray, List.set_cons_zero, List.set_cons_succ])
  refine wpAnyH_ready (rs := [2]) (by kernel_rfl) (by simp) ?_
  refine AllReadyH.cons (o := ⟨some 12, _, _, _, _, _⟩) rfl (fun K hK => ?_) AllReadyH.nil
  · go_simp
    refine (l91Packets_any B R 4 _ ((HR2.out.drew).more (by omega)) (by omega)).mono ?_
    rintro e w5 ⟨g, cp, ps, rfl, hl, hg, op, hr5, hg5⟩
    have S5 := (R3.out.drew_).grown hg5 (by omega)
    have R5 := hide ((R2.out.drew_).grown hg5 hRo)
    have B5 := hide ((Below.drew B2.out).grown hg5 (by exact B2.out.size) (by intro k hk; simp at hk; omega))
    have O5 := hide op
    have lg5 := op.lt
    have hgo : g ≠ bo := by have h1 : w3.heap.size ≤ g := hg; have h2 : bo < w3.heap.size := R2.out.2.2; omega
    clear hr5 hg5 op hHeld
    go_wp2_with fail
    refine hK.out _ _ S5 (fun hHeld => ?_)
    clear hK K
    (try simp only [Act.put, List.setIfInBounds_toArray, List.set_cons_zero, List.set_cons_succ])
    refine wpAnyH_ready (rs := [3]) (by kernel_rfl) (by simp) ?_
    refine AllReadyH.cons (o := ⟨none, _, _, _, _, _⟩) rfl (fun K hK => ?_) AllReadyH.nil
    have R6 := R5.out
    obtain ⟨cx, fx, _⟩ := R6
    have c0x := cx 0
    go_simp
    refine hK.out _ _ ((S5.far (by show bx ≠ bo; omega) _).far (by show bx ≠ bo; omega) _) (fun hHeld => ?_)
    clear hK K
    (try simp only [Act.put, List.setIfInBounds_toArray, List.set_cons_zero, List.set_cons_succ])
    refine wpAnyH_take (i := 4) (oi := ⟨some 3, _, _, _, _, _⟩) (v := ?vb4) rfl (by kernel_rfl) (by kernel_rfl) (by kernel_rfl) (fun _ _ _ h => h) (Or.inl ⟨by rfl, ?yb4⟩) (by assumption) ?_
    case yb4 => (intro w hSw; obtain ⟨u1, u2, _⟩ := hSw; go_simp; (try with_reducible rfl))
    (try simp only [Act.put, List.setIfInBounds_toArray, List.set_cons_zero, List.set_cons_succ])
    refine wpAnyH_done (by kernel_rfl) ?_ _
    go_wp2_with fail
    refine bodyPost_ret (by first | (simp (maxDischargeDepth := 3) [results, Try.results28, go_sem, *]; done) | (simp (maxDischargeDepth := 3) [results, Try.results28, go_sem, *]; rfl) | (simp (maxDischargeDepth := 7) [results, Try.results28, go_sem, *]; done) | (simp (maxDischargeDepth := 7) [results, Try.results28, go_sem, *]; rfl)) rfl ?_
    exact ⟨_, _, _, _, _, rfl, hl, (O5.out.far (by show g ≠ bo; exact hgo) _).far (by show g ≠ bo; exact hgo) _, (B5.out.setCell (by show _ ≤ bo; omega) _).setCell (by show _ ≤ bo; omega) _⟩
set_option maxHeartbeats 2000000 in
theorem samePackets_same (A B : Option Addr) (c1 c2 : Nat) (zs : List VPacket) (w : World) (hA : PacketAt w A zs) (hB : PacketAt w B zs) (hm : zs.length ≤ 1048576) :
    Calls Try.prog 31 #[.slice A zs.length c1, .slice B zs.length c2] w (RetQ (.bool true) w) := by
  have HA := hide hA
  have HB := hide hB
  clear hA hB
  obtain ⟨n, hn⟩ : ∃ n, zs.length = n := ⟨_, rfl⟩
  rw [hn] at hm ⊢
  have Hn := hide hn
  clear hn
  go_enter Try.func31, Try.ntmps31
  go_wp2_with fail
  go_loopw [5] (fun i wr => ∃ k m : Nat, k ≤ n ∧ i = .int .i64 k ∧ wr = w.drewN m) (fun i _ => n - (intOf i).toNat)
  case atStart => exact ⟨0, 0, by omega, rfl, rfl⟩
  case round =>
    obtain ⟨k, m, hk, rfl, rfl⟩ := hrel
    by_cases hk' : k < n
    · obtain ⟨b, off, rfl, hlt, hc⟩ := PacketAt.at HA.out (by have := Hn.out; omega)
      obtain ⟨b2, off2, rfl, hlt2, hc2⟩ := PacketAt.at HB.out (by have := Hn.out; omega)
      have hA := hc k (by have := Hn.out; omega)
      have hB := hc2 k (by have := Hn.out; omega)
      clear hc hc2
      obtain ⟨x, hx⟩ : ∃ x, zs.getD k default = x := ⟨_, rfl⟩
      rw [hx] at hA hB
      clear hx
      obtain ⟨s0, s1, s2, s3, s4, s5⟩ := hA
      obtain ⟨t0, t1, t2, t3, t4, t5⟩ := hB
      have g2 : (k : Int) < (n : Int) := by omega
      go_wp2_with fail
      go_quiet (fail)
      go_wp2_with fail
      go_roundw
      case rel => exact ⟨k + 1, m + nq, by omega, by go_num, by simp⟩
      case measure => simp [intOf]; omega
    · go_wp2_with fail
      go_ret
      exact ⟨rfl, m, rfl⟩
end Go.Proofs.Yticelpaicenbkaa
