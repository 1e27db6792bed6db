/- The reader of a code: what it is in memory, and the contracts of opening it and of picking a number from it. -/
import Derived.Test.YtjbengphioankaaProg
import Derived.Test.YtjbengphioankaaB
import Derived.Deep.QuietTactic
import Derived.BigQuiet
namespace Go.Proofs.Ytjbengphioankaa
open Go.ChangeShapes Go.WideShapes Go.ChangeAt Go.RowKit

theorem ofInt_i64 (a : Nat) (ha : a < 9223372036854775808) : (BitVec.ofInt 64 (a : Int)).toNat = a := by
  rw [BitVec.ofInt_natCast, BitVec.toNat_ofNat]; exact Nat.mod_eq_of_lt (by omega)
theorem i64_xor_nat (a b : Nat) (ha : a < 9223372036854775808) (hb : b < 9223372036854775808) : bits .xor .i64 (a : Int) (b : Int) = ((a ^^^ b : Nat) : Int) ∧ a ^^^ b < 9223372036854775808 := by
  have hx : a ^^^ b < 2 ^ 63 := Nat.xor_lt_two_pow (by omega) (by omega)
  refine ⟨?_, by omega⟩
  show IntKind.i64.wrap ((BitVec.ofInt 64 (a : Int) ^^^ BitVec.ofInt 64 (b : Int)).toNat : Int) = _
  rw [BitVec.toNat_xor, ofInt_i64 a ha, ofInt_i64 b hb, IntKind.wrap_i64]
  omega
theorem xor_pos (a : Int) (h0 : 0 ≤ a) (h1 : a ≤ 1000000000) : 0 ≤ bits .xor .i64 a (a / 64) ∧ bits .xor .i64 a (a / 64) ≤ 9223372036854775807 := by
  obtain ⟨n, rfl⟩ := Int.eq_ofNat_of_zero_le h0
  have := i64_xor_nat n (n / 64) (by omega) (by omega)
  have e : ((n : Int) / 64) = ((n / 64 : Nat) : Int) := by omega
  rw [e, this.1]
  omega

/-- The bytes of a code in memory below block B. -/
def Code (w : World) (B : Nat) (A : Option Addr) (n : Nat) : Prop :=
  n = 0 ∨ ∃ b off, A = some ⟨b, off, none⟩ ∧ b < B ∧ b < w.heap.size ∧ ∀ i, i < n → ∃ u : Int, 0 ≤ u ∧ u ≤ 255 ∧ w.cell? ⟨b, off + i, none⟩ = some (.int .u8 u)
/-- Block R is a reader of a code that lies below block B; at most P bytes have been picked. -/
def Rd (w : World) (B R P : Nat) : Prop :=
  B ≤ R ∧ ∃ (A : Option Addr) (n c p : Nat), w.heap[R]? = some (.cells #[.slice A n c, .int .i64 (p : Int)] 91 (0, 0)) ∧ p ≤ P ∧ n ≤ 2000 ∧ Code w B A n

theorem Rd.lt {w : World} {B R P : Nat} (h : Rd w B R P) : R < w.heap.size := by
  obtain ⟨_, A, n, c, p, h, _⟩ := h
  rcases Nat.lt_or_ge R w.heap.size with hlt | hge
  · exact hlt
  · rw [Array.getElem?_eq_none hge] at h; cases h
theorem Rd.more {w : World} {B R P P' : Nat} (h : Rd w B R P) (hp : P ≤ P') : Rd w B R P' := by
  obtain ⟨h0, A, n, c, p, h, h1, h2⟩ := h
  exact ⟨h0, A, n, c, p, h, by omega, h2⟩
theorem Code.keep {w w' : World} {B : Nat} {A : Option Addr} {n : Nat} (h : Code w B A n) (hs : w.heap.size ≤ w'.heap.size) (hk : ∀ k, k < B → k < w.heap.size → w'.heap[k]? = w.heap[k]?) : Code w' B A n := by
  rcases h with h | ⟨b, off, hA, hb, hbs, hc⟩
  · exact .inl h
  · refine .inr ⟨b, off, hA, hb, by omega, fun i hi => ?_⟩
    obtain ⟨u, h0, h1, h2⟩ := hc i hi
    exact ⟨u, h0, h1, (World.cell?_of_block (hk b hb hbs)).trans h2⟩
theorem Rd.keep {w w' : World} {B R P : Nat} (h : Rd w B R P) (hs : w.heap.size ≤ w'.heap.size) (hk : ∀ k, k ≤ R → k < w.heap.size → w'.heap[k]? = w.heap[k]?) : Rd w' B R P := by
  have hlt := h.lt
  obtain ⟨h0, A, n, c, p, h, h1, h2, h3⟩ := h
  exact ⟨h0, A, n, c, p, (hk R (Nat.le_refl _) hlt).trans h, h1, h2, h3.keep hs fun k hk' => hk k (by omega)⟩
theorem Rd.alloc {w : World} {B R P : Nat} (h : Rd w B R P) (o : Obj) : Rd (w.alloc o) B R P :=
  h.keep (by simp) fun k _ hk => Below.heap_alloc w o k hk
theorem Rd.setCell {w : World} {B R P : Nat} (h : Rd w B R P) {a : Addr} (ha : R < a.block) (v : Value) : Rd (w.setCell a v) B R P :=
  h.keep (by simp [World.setCell]) fun k hk _ => Below.heap_setCell w a v k (by omega)
theorem Rd.drew {w : World} {B R P : Nat} (h : Rd w B R P) : Rd w.drew B R P := h
theorem Rd.drewN {w : World} {B R P : Nat} (h : Rd w B R P) (n : Nat) : Rd (w.drewN n) B R P := h
theorem Rd.below {w w' : World} {B R P : Nat} (h : Rd w B R P) (hb : Below w.heap.size w w') : Rd w' B R P :=
  h.keep hb.size fun k _ hk => hb.block k hk

/-- Up to block R the world w' is as w was. -/
def RExt (w w' : World) (R : Nat) : Prop := w.heap.size ≤ w'.heap.size ∧ ∀ k, k ≤ R → k < w.heap.size → w'.heap[k]? = w.heap[k]?
theorem RExt.refl (w : World) (R : Nat) : RExt w w R := ⟨Nat.le_refl _, fun _ _ _ => rfl⟩
theorem RExt.alloc {a w : World} {R : Nat} (h : RExt a w R) (o : Obj) : RExt a (w.alloc o) R :=
  ⟨Nat.le_trans h.1 (by simp), fun k h1 h2 => (Below.heap_alloc w o k (Nat.lt_of_lt_of_le h2 h.1)).trans (h.2 k h1 h2)⟩
theorem RExt.setCell {a w : World} {R : Nat} (h : RExt a w R) {p : Addr} (hp : R < p.block) (v : Value) : RExt a (w.setCell p v) R :=
  ⟨Nat.le_trans h.1 (by simp [World.setCell]), fun k h1 h2 => (Below.heap_setCell w p v k (by omega)).trans (h.2 k h1 h2)⟩
theorem RExt.drew {a w : World} {R : Nat} (h : RExt a w R) : RExt a w.drew R := h
theorem RExt.drewN {a w : World} {R : Nat} (h : RExt a w R) (n : Nat) : RExt a (w.drewN n) R := h
theorem RExt.below {a w w' : World} {R : Nat} (h : RExt a w R) (hb : Below w.heap.size w w') : RExt a w' R :=
  ⟨Nat.le_trans h.1 hb.size, fun k h1 h2 => (hb.block k (Nat.lt_of_lt_of_le h2 h.1)).trans (h.2 k h1 h2)⟩
theorem RExt.rd {w w' : World} {B R P : Nat} (h : RExt w w' R) (hr : Rd w B R P) : Rd w' B R P := hr.keep h.1 h.2

theorem grown_trans {a b c : World} {R : Nat} (h : a.grownBy b (some R)) (k : b.grownBy c (some R)) : a.grownBy c (some R) :=
  ⟨k.os.trans h.os, k.tape.trans h.tape, k.output.trans h.output, Nat.le_trans h.size k.size, fun i hi hne => (k.block i (Nat.lt_of_lt_of_le hi h.size) hne).trans (h.block i hi hne)⟩
theorem grown_alloc {a w : World} {R : Nat} (h : a.grownBy w (some R)) (o : Obj) : a.grownBy (w.alloc o) (some R) :=
  grown_trans h ⟨rfl, rfl, rfl, by simp, fun i hi _ => Below.heap_alloc w o i hi⟩
theorem grown_setCell {a w : World} {R : Nat} (h : a.grownBy w (some R)) {p : Addr} (hp : p.block = R ∨ a.heap.size ≤ p.block) (v : Value) : a.grownBy (w.setCell p v) (some R) :=
  ⟨h.os, h.tape, h.output, by simpa [World.setCell] using h.size, fun i hi hne => (Below.heap_setCell w p v i (by
    rintro rfl
    rcases hp with hp | hp
    · exact hne (by rw [hp])
    · omega)).trans (h.block i hi hne)⟩
theorem grown_drew {a w : World} {R : Nat} (h : a.grownBy w (some R)) : a.grownBy w.drew (some R) := ⟨h.os, h.tape, h.output, h.size, h.block⟩
theorem grown_drewN {a w : World} {R : Nat} (h : a.grownBy w (some R)) (n : Nat) : a.grownBy (w.drewN n) (some R) := ⟨h.os, h.tape, h.output, h.size, h.block⟩
theorem grown_below {a w w' : World} {R : Nat} (h : a.grownBy w (some R)) (hb : Below w.heap.size w w') : a.grownBy w' (some R) :=
  grown_trans h ⟨hb.os, hb.tape, hb.output, hb.size, fun i hi _ => hb.block i hi⟩
theorem grown_step {a W w1 : World} {R : Nat} (hg : W.grownBy w1 (some R)) (h : a.grownBy W (some R)) : a.grownBy w1 (some R) := grown_trans h hg
theorem gkeep {W w1 : World} {R : Nat} (hg : W.grownBy w1 (some R)) (g : Nat) (hlt : g < W.heap.size) (hne : g ≠ R) : (∀ o, w1.cell? ⟨g, o, none⟩ = W.cell? ⟨g, o, none⟩) ∧ (∀ o, w1.frozen? ⟨g, o, none⟩ = W.frozen? ⟨g, o, none⟩) :=
  ⟨fun o => World.cell?_of_block (a := ⟨g, o, none⟩) (hg.block g hlt (by simpa using hne)), fun o => World.frozen?_of_block (a := ⟨g, o, none⟩) (hg.block g hlt (by simpa using hne))⟩

theorem gkeep2 {W w1 : World} {R : Nat} (hg : W.grownBy w1 (some R)) (g : Nat) (hne : g ≠ R) : (g < W.heap.size ∧ (∀ o, w1.cell? ⟨g, o, none⟩ = W.cell? ⟨g, o, none⟩) ∧ (∀ o, w1.frozen? ⟨g, o, none⟩ = W.frozen? ⟨g, o, none⟩)) ∨ W.heap.size ≤ g := by
  rcases Nat.lt_or_ge g W.heap.size with h | h
  · exact .inl ⟨h, gkeep hg g h hne⟩
  · exact .inr h

/-- What a pick leaves: a number from 0 to n-1; the reader has gone on by one place. -/
def Picked (B R P : Nat) (n : Int) (w : World) (e : Ending) (w' : World) : Prop :=
  ∃ x : Int, e = .returned (.int .i64 x) ∧ 0 ≤ x ∧ x < n ∧ w'.heap.size = w.heap.size ∧ Rd w' B R (P + 1) ∧ w.grownBy w' (some R)
theorem picked_mk {B R P : Nat} {n x : Int} {w w' : World} (h0 : 0 ≤ x) (h1 : x < n) (h : w'.heap.size = w.heap.size ∧ Rd w' B R (P + 1) ∧ w.grownBy w' (some R)) : Picked B R P n w (.returned (.int .i64 x)) w' := ⟨x, rfl, h0, h1, h⟩

/-- What a draw leaves: a value of a kind; the reader has gone on to at most P' bytes. -/
def Drew (B R P' : Nat) (φ : Value → Prop) (w : World) (e : Ending) (w' : World) : Prop := ∃ v, e = .returned v ∧ φ v ∧ Rd w' B R P' ∧ w.grownBy w' (some R)
theorem drew_mk {B R P' : Nat} {φ : Value → Prop} {v : Value} {w w' : World} (hv : φ v) (hr : Rd w' B R P') (hg : w.grownBy w' (some R)) : Drew B R P' φ w (.returned v) w' := ⟨v, rfl, hv, hr, hg⟩

set_option maxHeartbeats 1000000 in
theorem pick_any (B R P : Nat) (N : Int) (w : World) (hr : Rd w B R P) (hP : P ≤ 1000000) (hN : 1 ≤ N) (hN2 : N ≤ 9223372036854775807) :
    Calls Try.prog 50 #[.pointer (some ⟨R, 0, none⟩), .int .i64 N] w (Picked B R P N w) := by
  have hlt := hr.lt
  obtain ⟨hB, A, n, c, p, hh, hp, hn, hcode⟩ := hr
  have c0 := cell_of_row w R 0 _ _ _ hh
  have c1 := cell_of_row w R 1 _ _ _ hh
  have f1 := frozen_of_row w R 1 _ _ hh
  simp at c0 c1
  have hend : ∀ k, ((w.setCell ⟨R, 1, none⟩ (.int .i64 ((p : Int) + 1))).drewN k).heap.size = w.heap.size ∧ Rd ((w.setCell ⟨R, 1, none⟩ (.int .i64 ((p : Int) + 1))).drewN k) B R (P + 1) ∧ w.grownBy ((w.setCell ⟨R, 1, none⟩ (.int .i64 ((p : Int) + 1))).drewN k) (some R) := by
    intro k
    refine ⟨by simp, Rd.drewN ?_ k, grown_drewN (grown_setCell (World.grownBy.refl w _) (.inl rfl) _) k⟩
    refine ⟨hB, A, n, c, p + 1, ?_, by omega, hn, hcode.keep (by simp [World.setCell]) fun k hk _ => Below.heap_setCell w _ _ k (by simp; omega)⟩
    rw [heap_setCell_same w R 1 _ _ _ hh]
    simp
  have Hend := hide hend
  clear hend
  rcases hcode with rfl | ⟨b, off, rfl, hbB, hbs, hcode⟩
  · clear hh
    go_enter Try.func50, Try.ntmps50
    go_wp2
    go_ret
    exact picked_mk (by omega) (by omega) (Hend.out 0)
  · have hbR : ¬ b = R := by omega
    have hRb : ¬ R = b := by omega
    by_cases hn0 : n = 0
    · subst hn0
      clear hh
      go_enter Try.func50, Try.ntmps50
      go_wp2
      go_ret
      exact picked_mk (by omega) (by omega) (Hend.out 0)
    · have hne : ((n : Int) == 0) = false := by simp; omega
      by_cases hk : p < n
      · obtain ⟨u, hu0, hu1, hu2⟩ := hcode p hk
        clear hcode hh
        go_enter Try.func50, Try.ntmps50
        go_wp2
        go_ret
        exact picked_mk (Int.emod_nonneg _ (by omega)) (Int.emod_lt_of_pos _ (by omega)) (Hend.out 0)
      · have hm1 : p % n < n := Nat.mod_lt _ (by omega)
        have hm2 : (p * 7 + 3) % n < n := Nat.mod_lt _ (by omega)
        have hd := Nat.div_le_self p n
        obtain ⟨i1, hi1⟩ : ∃ i, i = p % n := ⟨_, rfl⟩
        obtain ⟨i2, hi2⟩ : ∃ i, i = (p * 7 + 3) % n := ⟨_, rfl⟩
        obtain ⟨q, hq⟩ : ∃ i, i = p / n := ⟨_, rfl⟩
        rw [← hi1] at hm1
        rw [← hi2] at hm2
        rw [← hq] at hd
        obtain ⟨u, hu0, hu1, hu2⟩ := hcode i1 hm1
        obtain ⟨v, hv0, hv1, hv2⟩ := hcode i2 hm2
        have h1 : (p : Int).tmod (n : Int) = (i1 : Int) := by rw [hi1]; rfl
        have h2 : ((p : Int) * 7 + 3).tmod (n : Int) = (i2 : Int) := by rw [hi2]; rfl
        have h3 : (p : Int).tdiv (n : Int) = (q : Int) := by rw [hq]; rfl
        have h1w : IntKind.i64.wrap (i1 : Int) = (i1 : Int) := IntWalk.i64_in _ (by omega)
        have h2w : IntKind.i64.wrap (i2 : Int) = (i2 : Int) := IntWalk.i64_in _ (by omega)
        have h3w : IntKind.i64.wrap (q : Int) = (q : Int) := IntWalk.i64_in _ (by omega)
        have hp7 : IntKind.i64.wrap ((p : Int) * 7) = (p : Int) * 7 := IntWalk.i64_in _ (by omega)
        have hp73 : IntKind.i64.wrap ((p : Int) * 7 + 3) = (p : Int) * 7 + 3 := IntWalk.i64_in _ (by omega)
        have huw : IntKind.i64.wrap u = u := IntWalk.i64_in _ (by omega)
        have hvw : IntKind.i64.wrap v = v := IntWalk.i64_in _ (by omega)
        obtain ⟨a1, ha1⟩ : ∃ a, a = u * 131 := ⟨_, rfl⟩
        obtain ⟨a2, ha2⟩ : ∃ a, a = v * 1117 := ⟨_, rfl⟩
        obtain ⟨a3, ha3⟩ : ∃ a, a = a1 + a2 := ⟨_, rfl⟩
        obtain ⟨a4, ha4⟩ : ∃ a, a = (p : Int) * 29 := ⟨_, rfl⟩
        obtain ⟨a5, ha5⟩ : ∃ a, a = a3 + a4 := ⟨_, rfl⟩
        obtain ⟨a6, ha6⟩ : ∃ a, a = (q : Int) * 53 := ⟨_, rfl⟩
        obtain ⟨X, hX⟩ : ∃ a, a = a5 + a6 := ⟨_, rfl⟩
        have hX0 : 0 ≤ X ∧ X ≤ 1000000000 := by omega
        have b1 : IntKind.i64.wrap (u * 131) = a1 := by rw [IntWalk.i64_in _ (by omega)]; omega
        have b2 : IntKind.i64.wrap (v * 1117) = a2 := by rw [IntWalk.i64_in _ (by omega)]; omega
        have b3 : IntKind.i64.wrap (a1 + a2) = a3 := by rw [IntWalk.i64_in _ (by omega)]; omega
        have b4 : IntKind.i64.wrap ((p : Int) * 29) = a4 := by rw [IntWalk.i64_in _ (by omega)]; omega
        have b5 : IntKind.i64.wrap (a3 + a4) = a5 := by rw [IntWalk.i64_in _ (by omega)]; omega
        have b6 : IntKind.i64.wrap ((q : Int) * 53) = a6 := by rw [IntWalk.i64_in _ (by omega)]; omega
        have b7 : IntKind.i64.wrap (a5 + a6) = X := by rw [IntWalk.i64_in _ (by omega)]; omega
        obtain ⟨hX0, hX1⟩ := hX0
        have hy := xor_pos X hX0 hX1
        obtain ⟨y, hy'⟩ : ∃ y, bits .xor .i64 X (X / 64) = y := ⟨_, rfl⟩
        rw [hy'] at hy
        obtain ⟨hy0, hy1⟩ := hy
        have c2 : (i1 : Int) < (n : Int) := by omega
        have c3 : (i2 : Int) < (n : Int) := by omega
        have hnk : (n : Int) ≤ (p : Int) := by omega
        clear hcode hh hi1 hi2 hq ha1 ha2 ha3 ha4 ha5 ha6 hX
        go_enter Try.func50, Try.ntmps50
        go_wp2
        go_quiet (fail)
        clear b1 b2 b3 b4 b5 b6 b7 h1 h2 h3 h1w h2w h3w hp7 hp73 huw hvw
        go_wp2
        go_ret
        exact picked_mk (Int.emod_nonneg _ (by omega)) (Int.emod_lt_of_pos _ (by omega)) (Hend.out _)
theorem pick_from {B R P : Nat} {N : Int} {w1 w : World} (hr : Rd w1 B R P) (hx : RExt w1 w R) (hP : P ≤ 1000000) (hN : 1 ≤ N) (hN2 : N ≤ 9223372036854775807) :
    Calls Try.prog 50 #[.pointer (some ⟨R, 0, none⟩), .int .i64 N] w (Picked B R P N w) := pick_any B R P N w (hx.rd hr) hP hN hN2
theorem Code.more {w : World} {B B' : Nat} {A : Option Addr} {n : Nat} (h : Code w B A n) (hB : B ≤ B') : Code w B' A n := by
  rcases h with h | ⟨b, off, hA, hb, hbs, hc⟩
  · exact .inl h
  · exact .inr ⟨b, off, hA, by omega, hbs, hc⟩
theorem Code.fewer {w : World} {B : Nat} {A : Option Addr} {n m : Nat} (h : Code w B A n) (hm : m ≤ n) : Code w B A m := by
  rcases h with h | ⟨b, off, hA, hb, hbs, hc⟩
  · exact .inl (by omega)
  · exact .inr ⟨b, off, hA, hb, hbs, fun i hi => hc i (by omega)⟩
theorem Code.alloc {w : World} {B : Nat} {A : Option Addr} {n : Nat} (h : Code w B A n) (o : Obj) : Code (w.alloc o) B A n :=
  h.keep (by simp) fun k _ hk => Below.heap_alloc w o k hk
theorem Code.below {w w' : World} {B : Nat} {A : Option Addr} {n : Nat} (h : Code w B A n) (hb : Below w.heap.size w w') : Code w' B A n :=
  h.keep hb.size fun k _ hk => hb.block k hk

/-- What the opening of a code leaves: a reader in a new block. -/
def Opened (B : Nat) (w : World) (e : Ending) (w' : World) : Prop :=
  ∃ R, e = .returned (.pointer (some ⟨R, 0, none⟩)) ∧ w.heap.size ≤ R ∧ Rd w' B R 0 ∧ Below w.heap.size w w'
set_option maxHeartbeats 1000000 in
theorem l6Open_any (B : Nat) (A : Option Addr) (n c : Nat) (w : World) (hc : Code w B A n) (hn : n ≤ c) (hm : c ≤ 9223372036854775807) (hB : B ≤ w.heap.size) :
    Calls Try.prog 31 #[.slice A n c] w (Opened B w) := by
  by_cases hbig : 2000 < (n : Int)
  · have hco := hc.fewer (m := 2000) (by omega)
    rcases hc with h | ⟨b, off, rfl, hb, hbs, hc⟩
    · omega
    · clear hc
      have Hco := hide hco
      clear hco
      go_enter Try.func31, Try.ntmps31
      go_wp2
      go_ret
      refine ⟨w.heap.size, rfl, Nat.le_refl _, ⟨hB, _, _, _, 0, heap_alloc_new _ _, by omega, by omega, Hco.out.alloc _⟩, ?_⟩
      (repeat' (first | (with_reducible exact Below.refl _ _) | (with_reducible assumption) | (with_reducible refine Below.alloc ?_ ?_ _) | (with_reducible refine Below.setCell ?_ ?_ _) | (with_reducible refine Below.drew ?_) | (with_reducible refine below_drewN' ?_ _) | (with_reducible refine below_step (by assumption) ?_ ?_) | (with_reducible refine below_gstep (by assumption) ?_ ?_ ?_) | (with_reducible exact Below.size (by assumption)) | omega | (simp; done) | (simp; omega)))
  · have Hco := hide hc
    clear hc
    go_enter Try.func31, Try.ntmps31
    go_wp2
    go_ret
    refine ⟨w.heap.size, rfl, Nat.le_refl _, ⟨hB, _, _, _, 0, heap_alloc_new _ _, by omega, by omega, Hco.out.alloc _⟩, ?_⟩
    (repeat' (first | (with_reducible exact Below.refl _ _) | (with_reducible assumption) | (with_reducible refine Below.alloc ?_ ?_ _) | (with_reducible refine Below.setCell ?_ ?_ _) | (with_reducible refine Below.drew ?_) | (with_reducible refine below_drewN' ?_ _) | (with_reducible refine below_step (by assumption) ?_ ?_) | (with_reducible refine below_gstep (by assumption) ?_ ?_ ?_) | (with_reducible exact Below.size (by assumption)) | omega | (simp; done) | (simp; omega)))

set_option maxRecDepth 100000 in
/-- A code that came in. -/
theorem open_code {H : Type} {enc : TypeId × Value → H} (W : World) (base : Nat) (v : Value) (d : DataW H) (p : List MemPlace) (o : Value.okWide Try.prog W .any base 22 v) (h : DataW.Trod enc Try.prog W 0 (fun _ => true) true 22 v d p) :
    ∃ A n c, v = .slice A n c ∧ n ≤ c ∧ c ≤ 9223372036854775807 ∧ Code W W.heap.size A n := by
  obtain ⟨A, n, c, rfl⟩ := okWide_slice Try.underlying22 o
  obtain ⟨fuel, hf⟩ := h
  rcases open_ints Try.underlying22 Try.underlying5 (by kernel_rfl) hf with ⟨hcs, _⟩ | ⟨x, l, cp, zs, hcs, _, hl, hm, hz, _, hcell, hwz⟩
  · simp [Value.cells] at hcs
    obtain ⟨rfl, rfl, rfl⟩ := hcs
    exact ⟨none, 0, 0, rfl, by omega, by omega, .inl rfl⟩
  · simp [Value.cells] at hcs
    obtain ⟨rfl, rfl, rfl⟩ := hcs
    have hz' : zs.length = c := by simpa using hz
    unfold maxLen at hm
    refine ⟨_, n, c, rfl, hl, hm, ?_⟩
    rcases Nat.eq_zero_or_pos n with h0 | h0
    · exact .inl h0
    · obtain ⟨b, off, spot⟩ := x
      have hc0 := hcell 0 (by omega)
      have hspot : spot = none := by simpa [Addr.add] using World.cell?_spot hc0
      subst hspot
      have hall : ∀ i, i < n → W.cell? ⟨b, off + i, none⟩ = some (.int .u8 (zs.getD i 0)) := by
        intro i hi
        have := hcell i (by omega)
        rcases Nat.eq_zero_or_pos i with rfl | hi0
        · simpa [Addr.add] using this
        · simpa [Addr.add, Nat.ne_of_gt hi0] using this
      refine .inr ⟨b, off, rfl, block_lt_of_cell (hall 0 h0), block_lt_of_cell (hall 0 h0), fun i hi => ⟨zs.getD i 0, ?_, ?_, hall i hi⟩⟩
      all_goals
        have hmem : zs.getD i 0 ∈ zs := by
          rw [List.getD_eq_getElem?_getD, List.getElem?_eq_getElem (by omega)]
          exact List.getElem_mem _
        have := bounds_u8 (hwz _ hmem)
        omega
end Go.Proofs.Ytjbengphioankaa
