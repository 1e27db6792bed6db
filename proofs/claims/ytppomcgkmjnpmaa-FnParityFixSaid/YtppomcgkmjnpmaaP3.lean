/- parityWith, l16Parity: contracts. -/
import Derived.Test.YtppomcgkmjnpmaaP2
import Derived.Deep.RegionLaw
namespace Go.Proofs.Ytppomcgkmjnpmaa
open Go.ChangeShapes Go.WideShapes Go.ChangeAt Go.RowKit Go.Deep

theorem body_facts {ls : List (List Int)} {k : Nat} {x : List Int} (h : ls.all bodyB = true) (hk : k < ls.length) (hx : ls.getD k [] = x) : bodyB x = true := by
  rw [← hx, List.getD_eq_getElem?_getD, List.getElem?_eq_getElem hk]
  exact List.all_eq_true.1 h _ (List.getElem_mem hk)
theorem all_take {ls : List (List Int)} (h : ls.all bodyB = true) (k : Nat) : ∀ b, b ∈ ls.take k → bodyB b = true := fun b hb => List.all_eq_true.1 h b (List.mem_of_mem_take hb)
theorem all_len {ls : List (List Int)} (h : ls.all bodyB = true) (k : Nat) : ∀ b, b ∈ ls.take k → b.length ≤ 12 := fun b hb => (of_decide_eq_true (all_take h k b hb)).1
theorem par_facts {p : List Int} {ls : List (List Int)} (hp : sm p) (hl : p.length ≤ 13) (h : ls.all bodyB = true) (k : Nat) : sm (par p (ls.take k)) ∧ (par p (ls.take k)).length ≤ 13 :=
  ⟨sm_par hp (all_take h k), par_len_le (m := 12) p hl (all_len h k)⟩
theorem fst_below {wr w7 : World} {o : Obj} (hg : (wr.alloc o).grownBy w7 (some wr.heap.size)) : Below wr.heap.size wr w7 :=
  ((Below.refl _ _).alloc (Nat.le_refl _) _).grown hg (by simp) fun k hk => by simp at hk; omega
theorem fst_at {wr : World} {o : Obj} {g7 : Nat} (h : g7 = wr.heap.size ∨ (wr.alloc o).heap.size ≤ g7) : wr.heap.size ≤ g7 := by
  rcases h with h | h
  · omega
  · simp at h; omega
theorem fst_belowD {wr w7 : World} {o : Obj} (hg : (wr.alloc o).drew.grownBy w7 (some wr.heap.size)) : Below wr.heap.size wr w7 :=
  fst_below (grown_trans (grown_drew (World.grownBy.refl (wr.alloc o) _)) hg)
theorem fst_atD {wr : World} {o : Obj} {g7 : Nat} (h : g7 = wr.heap.size ∨ (wr.alloc o).drew.heap.size ≤ g7) : wr.heap.size ≤ g7 := fst_at (o := o) h
theorem snd_below {wr w7 w8 : World} {g7 : Nat} (hb : Below wr.heap.size wr w7) (hs : wr.heap.size ≤ g7) (hg : w7.grownBy w8 (some g7)) : Below wr.heap.size wr w8 :=
  hb.grown hg hb.size fun k hk => by simp at hk; omega
theorem snd_at {wr w7 : World} {g7 g8 : Nat} (hb : Below wr.heap.size wr w7) (hs : wr.heap.size ≤ g7) (h : g8 = g7 ∨ w7.heap.size ≤ g8) : wr.heap.size ≤ g8 := by
  have := hb.size
  rcases h with h | h <;> omega
theorem nil_zero {A : Option Addr} {x : List Int} {l c : Nat} (h : A = none → c = 0) (hc : l ≤ c) (hl : x.length = l) : A = none → x.length = 0 ∧ c = 0 := fun e => by have := h e; omega
theorem frm_len {x : List Int} {l : Nat} (hl : x.length = l) : (frm x).length = 1 + l := by rw [← hl]; simp [frm]; omega
theorem snd_own {w : World} {g c l : Nat} {x : List Int} (hl : x.length = l) (h : Own w 3 1 g (1 + x.length) c (([(l : Int)] ++ x).map (Value.int .i64))) : Own w 3 1 g (1 + l) c ((frm x).map (Value.int .i64)) := by
  subst hl; exact h
theorem together_own {w : World} {g g2 cp cp2 m l : Nat} {q y : List Int} (o1 : Own w 3 1 g m cp (q.map (Value.int .i64))) (hm : m = q.length) (o2 : Own w 3 1 g2 l cp2 (y.map (Value.int .i64))) (hl : y.length = l) (h1 : sm q) (h2 : sm y) (hm1 : m ≤ 1048576) (hm2 : l ≤ 1048576) :
    Calls Try.prog 43 #[.slice (some ⟨g, 0, none⟩) m cp, .slice (some ⟨g2, 0, none⟩) l cp2] w (NewInts (xorL q y) w) := by
  subst hm hl
  exact together_any _ _ cp cp2 q y w (own_ints o1) (own_ints o2) h1 h2 hm1 hm2
theorem xor_own {w : World} {g g2 cp cp2 m l : Nat} {q y : List Int} (o1 : Own w 3 1 g m cp (q.map (Value.int .i64))) (hm : m = q.length) (o2 : Own w 3 1 g2 l cp2 (y.map (Value.int .i64))) (hl : y.length = l) (h1 : sm q) (h2 : sm y) (hm1 : m ≤ 1048576) (hm2 : l ≤ 1048576) :
    Calls Try.prog 42 #[.slice (some ⟨g, 0, none⟩) m cp, .slice (some ⟨g2, 0, none⟩) l cp2] w (NewInts (xorL q y) w) := by
  subst hm hl
  exact l16Xor_any _ _ cp cp2 q y w (own_ints o1) (own_ints o2) h1 h2 hm1 hm2
set_option maxHeartbeats 4000000 in
theorem parityWith_any (A A2 : Option Addr) (c c2 : Nat) (ls : List (List Int)) (p : List Int) (w : World) (h : BodAt w A ls) (h2 : IntsAt w A2 p) (hp : sm p) (hpl : p.length ≤ 13) (hb : ls.all bodyB = true) (hm : ls.length ≤ 8) :
    Calls Try.prog 34 #[.slice A ls.length c, .slice A2 p.length c2] w (NewInts (par p ls) w) := by
  have HH := hide h
  have HB := hide hb
  have HP := hide hp
  have KT := hide (together_any A2 none c2 0 p [] w h2 (.inl rfl) hp sm_nil (by omega) (by simp))
  obtain ⟨n, hn⟩ : ∃ n, ls.length = n := ⟨_, rfl⟩
  rw [hn] at hm ⊢
  have Hn := hide hn
  obtain ⟨np, hnp⟩ : ∃ n, p.length = n := ⟨_, rfl⟩
  rw [hnp] at KT ⊢
  have Hpl := hide hpl
  have Hnp := hide hnp
  clear h h2 hp hb hn hnp hpl
  go_enter Try.func34, Try.ntmps34
  go_wp2_with fail
  refine KT.out.mono ?_
  rintro e w1 ⟨g1, cp1, rfl, hg1, o1, b1⟩
  rw [xorL_nil HP.out.nn] at o1 ⊢
  have O1 := hide o1
  have B1 := hide b1
  clear o1 b1 KT
  go_wp2_with fail
  go_loopw [5, 13] (fun s i wr => ∃ (k m g cp : Nat), s = .slice (some ⟨g, 0, none⟩) m cp ∧ i = .int .i64 k ∧ k ≤ n ∧ w.heap.size ≤ g ∧ m = (par p (ls.take k)).length ∧ Own wr 3 1 g m cp ((par p (ls.take k)).map (Value.int .i64)) ∧ Below w.heap.size w wr) (fun _ i _ => n - (intOf i).toNat)
  case atStart => exact ⟨0, p.length, g1, cp1, rfl, rfl, by omega, hg1, rfl, O1.out, B1.out⟩
  case round =>
    obtain ⟨k, m, g, cp, rfl, rfl, hk, hg, hmm, oz, hbl⟩ := hrel
    have lz := oz.lt
    have sz := hbl.size
    by_cases hk' : k < n
    · obtain ⟨b, off, rfl, hlt, A', c', hz, hcap, hc63, hnil, hI⟩ := BodAt.at (HH.out.below (hbl.mono (Nat.le_refl _))) (k := k) (by have := Hn.out; omega)
      obtain ⟨x, hx⟩ : ∃ x, ls.getD k [] = x := ⟨_, rfl⟩
      rw [hx] at hz hcap hI
      have hbx := body_facts HB.out (by rw [Hn.out]; exact hk') hx
      have hlx : x.length ≤ 12 := (of_decide_eq_true hbx).1
      have hnx := par_take_next p (l := ls) (k := k) (by rw [Hn.out]; exact hk')
      rw [hx] at hnx
      obtain ⟨hps, hpl13⟩ := par_facts HP.out Hpl.out HB.out k
      have HI := hide hI
      have Hnx := hide hnx
      have HF := hide (sm_frm hbx)
      have Hps := hide hps
      obtain ⟨q, hqq⟩ : ∃ q, par p (ls.take k) = q := ⟨_, rfl⟩
      rw [hqq] at hmm oz Hnx Hps hpl13
      obtain ⟨l, hll⟩ : ∃ l, x.length = l := ⟨_, rfl⟩
      rw [hll] at hz hcap hlx
      have Hll := hide hll
      have Hm := hide hmm
      have hmk := run_make_cap (P := Try.prog) (t := 25) (e := 3) (.int .i64 0) 8 Try.underlying25 intInfo .i64 .i64 l (by omega) (by omega)
      have Hof := hide (own_made0 wr (.int .i64 0) 3 (l + 1) rfl (by unfold maxLen; omega))
      have Hoz := hide oz
      have Hbl := hide hbl
      have Hnil := hide hnil
      have g2 : (k : Int) < (n : Int) := by omega
      clear hx hqq hll hmm hnx hbx hps hI oz hbl hnil
      go_wp2_with (first | (at_builtin; refine wpList_append_1b rfl _ _ _ rfl elemI rfl Hof.out #[.int .i64 (l : Int)] rfl (by simp) rfl rfl (by omega) ?_; intro g7 cp7 w7 o7 hg7 hat7; have B7 := hide (fst_below hg7); have S7 := hide (fst_at hat7); have O7 := hide (o7.conv (xs' := [(l : Int)].map (Value.int .i64)) rfl); clear o7 hg7 hat7) | (at_builtin; refine wpList_append_ints rfl _ _ _ rfl elemI (xs := [(l : Int)]) (zs := x) (A := A') (c := c') rfl O7.out (by rw [Hll.out]; rfl) (HI.out.below B7.out) (nil_zero Hnil.out hcap Hll.out) (by rw [Hll.out]; omega) ?_; intro g8 cp8 w8 o8 hg8 hat8; have B8 := hide (snd_below B7.out S7.out hg8); have S8 := hide (snd_at B7.out S7.out hat8); have O8 := hide (snd_own Hll.out o8); clear o8 hg8 hat8; rw [Hll.out]))
      refine (together_own (Hoz.out.below B8.out) Hm.out O8.out (frm_len Hll.out) Hps.out HF.out (by have := Hm.out; omega) (by omega)).mono ?_
      rintro e w9 ⟨g9, cp9, rfl, hg9, o9, b9⟩
      have s8 := B8.out.size
      have BB := hide (Hbl.out.trans ((B8.out.mono sz).trans (b9.mono (by omega))))
      have lg9 : w.heap.size ≤ g9 := by omega
      have O9 := hide o9
      clear o9 b9
      go_wp2_with fail
      go_roundw
      case rel => exact ⟨k + 1, _, g9, cp9, rfl, by go_num, by omega, lg9, by rw [Hnx.out], O9.out.conv (by rw [Hnx.out]), BB.out⟩
      case measure => simp [intOf]; omega
    · have hkn : k = n := by omega
      subst hkn
      have Hoz := hide oz
      have Hbl := hide hbl
      have Hmm := hide hmm
      clear oz hbl hmm
      go_wp2_with fail
      go_ret
      exact newInts_mk (by rw [← Hn.out, List.take_length]) Hmm.out hg Hoz.out Hbl.out
set_option maxHeartbeats 4000000 in
theorem l16Parity_any (A : Option Addr) (c : Nat) (ls : List (List Int)) (w : World) (h : BodAt w A ls) (hb : ls.all bodyB = true) (hm : ls.length ≤ 8) :
    Calls Try.prog 36 #[.slice A ls.length c] w (NewInts (par [0] ls) w) := by
  have HH := hide h
  have HB := hide hb
  obtain ⟨n, hn⟩ : ∃ n, ls.length = n := ⟨_, rfl⟩
  rw [hn] at hm ⊢
  have Hn := hide hn
  have O1 := hide ((Own.new w #[.int .i64 0] 3 1 1 (by unfold maxLen; omega) rfl).conv (xs' := [(0 : Int)].map (Value.int .i64)) rfl)
  clear h hb hn
  go_enter Try.func36, Try.ntmps36
  go_wp2_with fail
  go_loopw [3, 4] (fun s i wr => ∃ (k m g cp : Nat), s = .slice (some ⟨g, 0, none⟩) m cp ∧ i = .int .i64 k ∧ k ≤ n ∧ w.heap.size ≤ g ∧ m = (par [0] (ls.take k)).length ∧ Own wr 3 1 g m cp ((par [0] (ls.take k)).map (Value.int .i64)) ∧ Below w.heap.size w wr) (fun _ i _ => n - (intOf i).toNat)
  case atStart => exact ⟨0, 1, _, _, rfl, rfl, by omega, Nat.le_refl _, rfl, O1.out, (Below.refl _ _).alloc (Nat.le_refl _) _⟩
  case round =>
    obtain ⟨k, m, g, cp, rfl, rfl, hk, hg, hmm, oz, hbl⟩ := hrel
    have lz := oz.lt
    have sz := hbl.size
    by_cases hk' : k < n
    · obtain ⟨b, off, rfl, hlt, A', c', hz, hcap, hc63, hnil, hI⟩ := BodAt.at (HH.out.below (hbl.mono (Nat.le_refl _))) (k := k) (by have := Hn.out; omega)
      obtain ⟨x, hx⟩ : ∃ x, ls.getD k [] = x := ⟨_, rfl⟩
      rw [hx] at hz hcap hI
      have hbx := body_facts HB.out (by rw [Hn.out]; exact hk') hx
      have hlx : x.length ≤ 12 := (of_decide_eq_true hbx).1
      have hnx := par_take_next [0] (l := ls) (k := k) (by rw [Hn.out]; exact hk')
      rw [hx] at hnx
      obtain ⟨hps, hpl13⟩ := par_facts sm_zero (by simp) HB.out k
      have HI := hide hI
      have Hnx := hide hnx
      have HF := hide (sm_frm hbx)
      have Hps := hide hps
      obtain ⟨q, hqq⟩ : ∃ q, par [0] (ls.take k) = q := ⟨_, rfl⟩
      rw [hqq] at hmm oz Hnx Hps hpl13
      obtain ⟨l, hll⟩ : ∃ l, x.length = l := ⟨_, rfl⟩
      rw [hll] at hz hcap hlx
      have Hll := hide hll
      have Hm := hide hmm
      have Hof := hide ((Own.new wr.drew #[.int .i64 (l : Int)] 3 1 1 (by unfold maxLen; omega) rfl).conv (xs' := [(l : Int)].map (Value.int .i64)) rfl)
      have Hoz := hide oz
      have Hbl := hide hbl
      have Hnil := hide hnil
      have g2 : (k : Int) < (n : Int) := by omega
      clear hx hqq hll hmm hnx hbx hps hI oz hbl hnil
      go_upto_region 5 with (fail)
      go_region_law (first | (refine step_append_ints rfl (.tmp 18) (.tmp 22) 25 rfl elemI (xs := [(l : Int)]) (zs := x) (A := A') (c := c') (by simp [Act.eval, Act.put]) Hof.out (by rw [Hll.out]; simp [Act.eval, Act.put]) (HI.out.below ((Below.refl _ _).drew.alloc (Nat.le_refl _) _)) (nil_zero Hnil.out hcap Hll.out) (by rw [Hll.out]; omega) ?_; intro g8 cp8 w8 o8 hg8 hat8; have B8 := hide (fst_belowD (wr := wr) hg8); have S8 := hide (fst_atD (wr := wr) hat8); have O8 := hide (snd_own Hll.out o8); clear o8 hg8 hat8; rw [Hll.out]) | (go_simp; go_at_call 42; refine (xor_own (Hoz.out.below B8.out) Hm.out O8.out (frm_len Hll.out) Hps.out HF.out (by have := Hm.out; omega) (by omega)).mono ?_; rintro e w9 ⟨g9, cp9, rfl, hg9, o9, b9⟩; have s8 := B8.out.size; have BB := hide (Hbl.out.trans ((B8.out.mono sz).trans (b9.mono (by omega)))); have lg9 : w.heap.size ≤ g9 := (by omega); have O9 := hide o9; clear o9 b9))
      all_goals
        go_wp2_with fail
        go_roundw
        case rel => exact ⟨k + 1, _, g9, cp9, rfl, by go_num, by omega, lg9, by rw [Hnx.out], O9.out.conv (by rw [Hnx.out]), BB.out⟩
        case measure => simp [intOf]; omega
    · have hkn : k = n := by omega
      subst hkn
      have Hoz := hide oz
      have Hbl := hide hbl
      have Hmm := hide hmm
      clear oz hbl hmm
      go_wp2_with fail
      go_ret
      exact newInts_mk (by rw [← Hn.out, List.take_length]) Hmm.out hg Hoz.out Hbl.out
end Go.Proofs.Ytppomcgkmjnpmaa

