/- toIntSS, eqIntSS, markIntSS: contracts. -/
import Derived.Test.YtppomcgkmjnpmaaP20
namespace Go.Proofs.Ytppomcgkmjnpmaa
open Go.ChangeShapes Go.WideShapes Go.ChangeAt Go.RowKit Go.Deep

theorem set_rep {xs : List Value} {n k : Nat} {d v : Value} (hx : xs.length = k) (hk : k < n) : (xs ++ List.replicate (n - k) d).set k v = (xs ++ [v]) ++ List.replicate (n - (k + 1)) d := by
  rw [show n - k = (n - (k + 1)) + 1 by omega, List.replicate_succ, List.set_append_right _ _ (by omega), hx, Nat.sub_self, List.set_cons_zero, List.append_assoc]
  rfl
theorem incB_snoc {bs : List VBod} {x : VBod} (h : incB bs) (hx : ∀ y ∈ bs, y.g < x.g) : incB (bs ++ [x]) := by
  unfold incB at h ⊢
  rw [List.pairwise_append]
  refine ⟨h, by simp, fun a ha b hb => ?_⟩
  simp at hb
  subst hb
  exact hx a ha
theorem own_made_slices (w : World) (n : Nat) (hm : n ≤ maxLen) : Own (w.alloc (.cells (madeCells (Value.slice none 0 0).cells n) 25)) 25 1 w.heap.size n n (List.replicate n (.slice none 0 0)) := by
  have h := own_made w (.slice none 0 0) 25 1 n rfl (by omega) hm
  rw [Nat.mul_one] at h
  refine h.conv ?_
  clear h hm
  induction n with
  | zero => rfl
  | succ n ih => rw [List.replicate_succ, List.replicate_succ, List.flatten_cons, ih]; rfl
set_option maxHeartbeats 4000000 in
theorem toIntSS_any (A : Option Addr) (c : Nat) (ls : List (List Int)) (w : World) (h : BodAt w A ls) (hm : ls.length + tot ls ≤ 1048576) :
    Calls Try.prog 22 #[.slice A ls.length c] w (CopiedBod ls w) := by
  have Hh := hide h
  have Htg := hide (fun k hk => tot_get (ls := ls) (k := k) hk)
  obtain ⟨n, hnn⟩ : ∃ n, ls.length = n := ⟨_, rfl⟩
  have hC : ∀ (g : Nat) (bs : List VBod) (w' : World), bs.map VBod.zs = ls → w.heap.size ≤ g → incB bs → OwnBod w' w.heap.size g n n bs → Below w.heap.size w w' → CopiedBod ls w (.returned (.slice (some ⟨g, 0, none⟩) n n)) w' := by
    intro g bs w' h1 h2 h3 h4 h5
    exact ⟨g, bs, by rw [hnn], h1, h2, h3, by rw [hnn]; exact h4, h5⟩
  have HC := hide hC
  rw [hnn] at hm ⊢
  have Hn := hide hnn
  obtain ⟨g, hg⟩ : ∃ g, w.heap.size = g := ⟨_, rfl⟩
  have hmk := run_make_recs (P := Try.prog) (t := 23) (e := 25) (.slice none 0 0) 1 24 Try.underlying23 infoS .i64 .i64 n (by omega) (by omega)
  rw [Nat.mul_one] at hmk
  have O0 := own_made_slices w n (by unfold maxLen; omega)
  rw [hg] at O0
  have O0 := hide O0
  have Hg := hide hg
  clear h hnn hC hg
  go_enter Try.func22, Try.ntmps22
  go_wp2_with fail
  refine rebase (fun wx => Own wx 25 1 g n n (List.replicate n (.slice none 0 0)) ∧ Below w.heap.size w wx) ⟨O0.out, (Below.refl _ _).alloc (Nat.le_refl _) _⟩ ?_
  rintro w0 ⟨o0, b0⟩
  have O1 := hide o0
  have B1 := hide b0
  have hgg := Hg.out
  rw [hgg]
  clear O0 o0 b0 hgg
  go_loopw [4] (fun i wr => ∃ (k : Nat) (bs : List VBod), k ≤ n ∧ i = .int .i64 k ∧ bs.map VBod.zs = ls.take k ∧ incB bs ∧ Own wr 25 1 g n n (bs.map VBod.val ++ List.replicate (n - k) (.slice none 0 0)) ∧ (∀ x ∈ bs, g < x.g ∧ Own wr 3 1 x.g x.zs.length x.c (x.zs.map (Value.int .i64))) ∧ Below w.heap.size w wr) (fun i _ => n - (intOf i).toNat)
  case atStart => exact ⟨0, [], by omega, rfl, rfl, List.Pairwise.nil, O1.out, (fun x hx => by simp at hx), B1.out⟩
  case round =>
    obtain ⟨k, bs, hk, rfl, hzs, hinc, oz, hin, hbl⟩ := hrel
    clear O1 B1
    have lz := oz.lt
    have sbl := hbl.size
    have Hzs := hide hzs
    have Hinc := hide hinc
    have Hoz := hide oz
    have Hin := hide hin
    have Hbl := hide hbl
    have hgg := hide (show w.heap.size ≤ g from Nat.le_of_eq Hg.out)
    clear hzs hinc oz hin hbl
    by_cases hk' : k < n
    · obtain ⟨b, off, rfl, hlt, A', c', hz, hcap, hc63, hnil, hI⟩ := BodAt.at (BodAt.below Hh.out (Hbl.out.mono (Nat.le_refl _))) (k := k) (by have := Hn.out; omega)
      have htg := Htg.out k (by rw [Hn.out]; exact hk')
      obtain ⟨x, hx⟩ : ∃ x, ls.getD k [] = x := ⟨_, rfl⟩
      rw [hx] at hz hcap hI htg
      have K := toIntS_own A' c' x wr hI (by omega)
      obtain ⟨l, hl⟩ : ∃ l, x.length = l := ⟨_, rfl⟩
      have Hx := hide hx
      have Hl := hide hl
      rw [hl] at hz hcap K htg
      have HK := hide K
      have g2 : (k : Int) < (n : Int) := by omega
      clear hx hl hI hnil K
      go_wp2_with fail
      refine HK.out.mono ?_
      rintro e w2 ⟨gx, rfl, hgx, ox, hb⟩
      have oz := Hoz.out.below hb
      obtain ⟨v0, q0⟩ := own_some oz (show k < n * 1 by omega)
      have f0 := oz.frozen k
      have l2 := oz.lt
      have Oz := hide oz
      have Ox := hide (ox.convn (n' := x.length) Hl.out.symm)
      have Ox := hide ((show Own w2 3 1 gx x.length l (x.map (Value.int .i64)) from Ox.out))
      have Hb := hide hb
      have B2 := hide (Hbl.out.trans (hb.mono sbl))
      clear oz ox hb HK Hoz
      go_wp2_with fail
      go_roundw
      case rel =>
        refine ⟨k + 1, bs ++ [⟨gx, l, x⟩], by omega, by go_num, ?_, ?_, ?_, ?_, B2.out.setCell (by exact hgg.out) _⟩
        · rw [List.map_append, Hzs.out, List.take_add_one, List.getElem?_eq_getElem (by rw [Hn.out]; exact hk')]
          have := Hx.out
          rw [List.getD_eq_getElem?_getD, List.getElem?_eq_getElem (by rw [Hn.out]; exact hk')] at this
          simp at this
          simp [this]
        · refine incB_snoc Hinc.out fun y hy => ?_
          have := (Hin.out y hy).2.lt
          show y.g < gx
          omega
        · refine (Oz.out.set k _).conv ?_
          have hbl : (bs.map VBod.val).length = k := by
            have := congrArg List.length Hzs.out
            rw [List.length_map, List.length_take, Hn.out] at this
            rw [List.length_map]
            omega
          rw [set_rep hbl hk', List.map_append]
          congr 2
          rw [List.map_cons, List.map_nil, VBod.val_eq Hl.out]
        · intro y hy
          rcases List.mem_append.1 hy with hy | hy
          · have h1 := Hin.out y hy
            exact ⟨h1.1, (h1.2.below Hb.out).far (by show y.g ≠ g; omega) _⟩
          · simp at hy
            subst hy
            exact ⟨by show g < gx; omega, Ox.out.far (by show gx ≠ g; omega) _⟩
      case measure => simp [intOf]; omega
    · have hkn : k = n := by omega
      subst hkn
      go_wp2_with fail
      go_ret
      refine HC.out g bs _ (by rw [Hzs.out, ← Hn.out, List.take_length]) hgg.out Hinc.out ⟨Hoz.out.conv (by simp), fun x hx => ?_⟩ Hbl.out
      have h1 := Hin.out x hx
      have := hgg.out
      exact ⟨by omega, by omega, h1.2⟩
theorem quiet_addQ {P : Program} {f : FuncId} {args : Array Value} {w : World} {a : Nat} {v : Value} (h : Calls P f args (w.drewN a) (RetQ v (w.drewN a))) : Calls P f args (w.drewN a) fun e w'' => e = .returned v ∧ ∃ m, w'' = w.drewN m :=
  h.mono fun _ _ ⟨he, m, hm⟩ => ⟨he, a + m, by rw [hm]; simp⟩
theorem quiet_addR {P : Program} {f : FuncId} {args : Array Value} {w : World} {a n : Nat} {v : Value} (h : Calls P f args (w.drewN (a + n)) (RetQ v (w.drewN (a + n)))) : Calls P f args (w.drewN (a + n)) fun e w'' => e = .returned v ∧ ∃ m, w'' = w.drewN (a + m) :=
  h.mono fun _ _ ⟨he, m, hm⟩ => ⟨he, n + m, by rw [hm]; simp [Nat.add_assoc]⟩
set_option maxHeartbeats 2000000 in
theorem eqIntSS_same (A A2 : Option Addr) (c c2 : Nat) (ls : List (List Int)) (w : World) (h1 : BodAt w A ls) (h2 : BodAt w A2 ls) (hm : ls.length + tot ls ≤ 1048576) :
    Calls Try.prog 24 #[.slice A ls.length c, .slice A2 ls.length c2] w (RetQ (.bool true) w) := by
  have H1 := hide h1
  have H2 := hide h2
  have Htg := hide (fun k hk => tot_get (ls := ls) (k := k) hk)
  obtain ⟨n, hnn⟩ : ∃ n, ls.length = n := ⟨_, rfl⟩
  rw [hnn] at hm ⊢
  have Hn := hide hnn
  clear h1 h2 hnn
  go_enter Try.func24, Try.ntmps24
  go_wp2_with fail
  go_loopw [5] (fun i wr => ∃ k d : Nat, k ≤ n ∧ i = .int .i64 k ∧ wr = w.drewN d) (fun i _ => n - (intOf i).toNat)
  case atStart => exact ⟨0, 0, by omega, rfl, rfl⟩
  case round =>
    obtain ⟨k, d, hk, rfl, rfl⟩ := hrel
    by_cases hk' : k < n
    · obtain ⟨b, off, rfl, hlt, A', c', hz, hcap, hc63, hnil, hI⟩ := BodAt.at H1.out (k := k) (by have := Hn.out; omega)
      obtain ⟨b2, off2, rfl, hlt2, A2', c2', hz2, hcap2, _, hnil2, hI2⟩ := BodAt.at H2.out (k := k) (by have := Hn.out; omega)
      have htg := Htg.out k (by rw [Hn.out]; exact hk')
      obtain ⟨x, hx⟩ : ∃ x, ls.getD k [] = x := ⟨_, rfl⟩
      rw [hx] at hz hz2 hcap hI hI2 htg
      have K := fun w h1 h2 => eqIntS_same A' A2' c' c2' x w h1 h2 (by omega)
      obtain ⟨l, hl⟩ : ∃ l, x.length = l := ⟨_, rfl⟩
      rw [hl] at hz hz2 K
      have HK := hide K
      have HI := hide hI
      have HI2 := hide hI2
      have g2 : (k : Int) < (n : Int) := by omega
      clear hx hl hI hI2 hnil hnil2 K hcap hcap2 htg
      go_wp2_with fail
      go_quiet ((go_at_call 23; first | exact quiet_addR (HK.out _ (HI.out.drewN _) (HI2.out.drewN _)) | exact quiet_addQ (HK.out _ (HI.out.drewN _) (HI2.out.drewN _))))
      go_wp2_with fail
      go_roundw
      case rel => exact ⟨k + 1, d + nq, by omega, by go_num, by first | rfl | simp⟩
      case measure => simp [intOf]; omega
    · go_wp2_with fail
      go_ret
      exact ⟨rfl, d, rfl⟩
/-! ### Marks -/
/-- Only blocks of the list have changed. -/
def Kept (w w' : World) (L : List Nat) : Prop := w'.os = w.os ∧ w'.tape = w.tape ∧ w'.output = w.output ∧ w.heap.size ≤ w'.heap.size ∧ ∀ i, i < w.heap.size → i ∉ L → w'.heap[i]? = w.heap[i]?
theorem Kept.refl (w : World) : Kept w w [] := ⟨rfl, rfl, rfl, Nat.le_refl _, fun _ _ _ => rfl⟩
theorem Kept.grown {w w1 w2 : World} {L : List Nat} {g : Nat} (h : Kept w w1 L) (hg : w1.grownBy w2 (some g)) : Kept w w2 (L ++ [g]) :=
  ⟨hg.os.trans h.1, hg.tape.trans h.2.1, hg.output.trans h.2.2.1, Nat.le_trans h.2.2.2.1 hg.size, fun i hi hL => by
    simp only [List.mem_append, List.mem_singleton, not_or] at hL
    exact (hg.block i (Nat.lt_of_lt_of_le hi h.2.2.2.1) (by simpa using hL.2)).trans (h.2.2.2.2 i hi hL.1)⟩
theorem Kept.own {w w' : World} {L : List Nat} {e size g n cap : Nat} {xs : List Value} (h : Kept w w' L) (o : Own w e size g n cap xs) (hg : g ∉ L) : Own w' e size g n cap xs := o.of_block (h.2.2.2.2 g o.lt hg)
theorem Kept.below {w0 w w' : World} {L : List Nat} {S : Nat} (h : Kept w w' L) (hb : Below S w0 w) (hS : S ≤ w.heap.size) (hL : ∀ g ∈ L, S ≤ g) : Below S w0 w' :=
  hb.trans ⟨h.1, h.2.1, h.2.2.1, h.2.2.2.1, fun k hk => h.2.2.2.2 k (by omega) fun hm => by have := hL k hm; omega⟩
theorem incB_ne {bs : List VBod} {j k : Nat} (h : incB bs) (hj : j < bs.length) (hk : k < bs.length) (hjk : j < k) : (bs.getD j default).g < (bs.getD k default).g := by
  rw [List.getD_eq_getElem?_getD, List.getD_eq_getElem?_getD, List.getElem?_eq_getElem hj, List.getElem?_eq_getElem hk]
  exact List.pairwise_iff_getElem.1 h j k hj hk hjk
theorem not_taken {bs : List VBod} {k : Nat} (h : incB bs) (hk : k < bs.length) : (bs.getD k default).g ∉ (bs.take k).map VBod.g := by
  intro hm
  obtain ⟨x, hx, he⟩ := List.mem_map.1 hm
  obtain ⟨j, hj, rfl⟩ := List.mem_iff_getElem.1 hx
  rw [List.length_take] at hj
  have := incB_ne h (j := j) (by omega) hk (by omega)
  rw [List.getElem_take] at he
  have e1 : bs.getD j default = bs[j]'(by omega) := by rw [List.getD_eq_getElem?_getD, List.getElem?_eq_getElem (show j < bs.length by omega)]; rfl
  rw [e1] at this
  omega
theorem take_map_next {bs : List VBod} {k : Nat} (hk : k < bs.length) : (bs.take (k + 1)).map VBod.g = (bs.take k).map VBod.g ++ [(bs.getD k default).g] := by
  rw [List.take_add_one, List.getElem?_eq_getElem hk, List.getD_eq_getElem?_getD, List.getElem?_eq_getElem hk, List.map_append]
  rfl
set_option maxHeartbeats 2000000 in
theorem markIntSS_any (B g n c : Nat) (bs : List VBod) (s : Int) (w : World) (h : OwnBod w B g n c bs) (hi : incB bs) (hm : n + tot (bs.map VBod.zs) ≤ 1048576) (hs0 : 0 ≤ s) (hs1 : s ≤ 1000000000) :
    Calls Try.prog 25 #[.slice (some ⟨g, 0, none⟩) n c, .int .i64 s] w fun e w' => ∃ m : Int, e = .returned (.int .i64 m) ∧ 0 ≤ m ∧ m ≤ 2000000000 ∧ Kept w w' (bs.map VBod.g) := by
  have Hh := hide h
  have Hi := hide hi
  have hnn := h.len
  have Hn := hide hnn
  have Ht := hide (tot_le (bs.map VBod.zs))
  obtain ⟨T, hT⟩ : ∃ n, tot (bs.map VBod.zs) = n := ⟨_, rfl⟩
  rw [hT] at Ht hm
  clear h hi hT hnn
  go_enter Try.func25, Try.ntmps25
  go_wp2_with fail
  go_loopw [1, 5] (fun s1 i wr => ∃ k : Nat, k ≤ n ∧ i = .int .i64 k ∧ s1 = .int .i64 (s + (tot ((bs.map VBod.zs).take k) : Nat)) ∧ Kept w wr ((bs.take k).map VBod.g)) (fun _ i _ => n - (intOf i).toNat)
  case atStart => exact ⟨0, by omega, rfl, by simp [tot], Kept.refl w⟩
  case round =>
    obtain ⟨k, hk, rfl, rfl, hkp⟩ := hrel
    have Hkp := hide hkp
    clear hkp
    by_cases hk' : k < n
    · obtain ⟨x, hx⟩ : ∃ x, bs.getD k default = x := ⟨_, rfl⟩
      obtain ⟨hz, hxm, hxo, hxB, hxg⟩ := bod_get Hh.out (k := k) (x := x) (by rw [Hn.out]; exact hk') hx
      have hnt := not_taken Hi.out (k := k) (by rw [Hn.out]; exact hk')
      have htn := take_map_next (bs := bs) (k := k) (by rw [Hn.out]; exact hk')
      rw [hx] at hnt htn
      have hox := Hkp.out.own hxo hnt
      have hoz := Hkp.out.own Hh.out.1 (fun hmem => by
        obtain ⟨y, hy, he⟩ := List.mem_map.1 hmem
        exact (Hh.out.2 y (List.mem_of_mem_take hy)).2.1 he)
      have hz2 : wr.cell? ⟨g, k, none⟩ = some x.val := by
        rw [hoz.cell (by omega), List.getElem?_map]
        rw [List.getD_eq_getElem?_getD, List.getElem?_eq_getElem (show k < bs.length by rw [Hn.out]; exact hk')] at hx
        rw [List.getElem?_eq_getElem (show k < bs.length by rw [Hn.out]; exact hk')]
        simp at hx
        simp [hx]
      have hto := tot_next (ls := bs.map VBod.zs) (k := k) (l := x.zs.length) (by rw [List.length_map, Hn.out]; exact hk') (by rw [bod_getD (by rw [Hn.out]; exact hk'), hx])
      have hte := Ht.out (k + 1)
      rw [hto] at hte
      obtain ⟨t, ht⟩ : ∃ t, tot ((bs.map VBod.zs).take k) = t := ⟨_, rfl⟩
      rw [ht] at hto hte ⊢
      have K := fun s1 h0 h1 => markIntS_any x.g x.c x.zs.length s1 x.zs wr hox rfl (by omega) h0 h1
      unfold VBod.val at hz2
      obtain ⟨l, hl⟩ : ∃ l, x.zs.length = l := ⟨_, rfl⟩
      rw [hl] at hz2 K hto hte
      obtain ⟨xg, hxgg⟩ : ∃ l, x.g = l := ⟨_, rfl⟩
      obtain ⟨xc, hxc⟩ : ∃ l, x.c = l := ⟨_, rfl⟩
      rw [hxgg, hxc] at hz2 K
      rw [hxgg] at htn
      obtain ⟨q, hq⟩ : ∃ q, s + ((t : Nat) : Int) = q := ⟨_, rfl⟩
      rw [hq]
      have HK := hide (K q (by omega) (by omega))
      have Hq := hide hq
      have Hto := hide hto
      have Htn := hide htn
      have g2 : (k : Int) < (n : Int) := by omega
      clear K hx hz hxm hxo hxB hxg hnt htn hox hoz hto ht hl hxgg hxc hq
      go_wp2_with fail
      refine HK.out.mono ?_
      rintro e w2 ⟨rfl, _, hg2⟩
      have Hg2 := hide hg2
      clear hg2
      go_wp2_with fail
      go_roundw
      case rel => exact ⟨k + 1, by omega, by go_num, by rw [Hto.out]; have := Hq.out; congr 1; omega, by rw [Htn.out]; exact Hkp.out.grown Hg2.out⟩
      case measure => simp [intOf]; omega
    · have hkn : k = n := by omega
      subst hkn
      have hte := Ht.out k
      obtain ⟨t, ht⟩ : ∃ t, tot ((bs.map VBod.zs).take k) = t := ⟨_, rfl⟩
      rw [ht] at hte ⊢
      have htk : bs.take k = bs := by rw [← Hn.out, List.take_length]
      rw [htk] at Hkp
      clear ht htk
      go_wp2_with fail
      go_ret
      exact ⟨s + (t : Nat), rfl, by omega, by omega, Hkp.out⟩
end Go.Proofs.Ytppomcgkmjnpmaa
