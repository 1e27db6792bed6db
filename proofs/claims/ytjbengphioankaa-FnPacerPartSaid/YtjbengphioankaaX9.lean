/- Appends of elements of several cells in a region that draws its order; l13Copy. -/
import Derived.Test.YtjbengphioankaaX6
import Derived.Deep.RegionLaw
namespace Go.Proofs.Ytjbengphioankaa
open Go.ChangeShapes Go.WideShapes Go.ChangeAt Go.RowKit Go.Deep

/-- 'append(s, x...)' onto a row of the call's own, as a step of a region that draws its order. -/
theorem step_append_k {P : Program} {wr : World} {ops : Array Oper} {o : Oper} {a : Act} {K : Act → World → Prop} {Q : Exit → Act → World → Prop} {E : Prop} (hw : Region.wanted o (yielded ops a.tmps) = true) (s x : Operand) (t : TypeId)
    (ho : o.op = .call { callee := .builtin .append, args := #[s, x], argTypes := #[t, t] })
    {e size bytes : Nat} (he : ElemOf P t e size bytes) {g n cap : Nat} {xs : List Value} (hs : a.eval s = .slice (some ⟨g, 0, none⟩) n cap) (hown : Own wr e size g n cap xs)
    {ad : Addr} {m c : Nat} (hx : a.eval x = .slice (some ad) m c) (cs : List Value) (hcs : cs.length = m * size) (hcell : ∀ j u, cs[j]? = some u → wr.cell? (ad.add j) = some u) (h1 : ∀ u ∈ cs, u.oneCell' = true)
    (hbytes : (n + m) * bytes ≤ 140737488355328)
    (h : ∀ g' cap' w', Own w' e size g' (n + m) cap' (xs ++ cs) → wr.grownBy w' (some g) → (g' = g ∨ wr.heap.size ≤ g') → K (a.put o.dst (.slice (some ⟨g', 0, none⟩) (n + m) cap')) w') :
    if Region.wanted o (yielded ops a.tmps) = true then Oper.wp P o a wr K Q else E := by
  rw [if_pos hw]
  obtain ⟨i, z, hi, hzz, hz1, hz2, hz3⟩ := he.ex
  have hp := he.pos2
  have h63 : n + m ≤ maxLen := by
    have : (n + m) * 1 ≤ (n + m) * bytes := Nat.mul_le_mul_left _ hp
    unfold maxLen; omega
  obtain ⟨v', w', hrun, h2, h3, h4, h5⟩ := run_append_own_at (P := P) wr 0 t o.type e i z size bytes he.ht hi hzz hz1 hz2 hz3 he.pos _ n _ hown ad m c cs hcs hcell h1 h63 hbytes (Nat.zero_le _)
  obtain ⟨g', cap', rfl, hg'⟩ : ∃ g' cap', v' = .slice (some ⟨g', 0, none⟩) (n + m) cap' ∧ (g' = g ∨ wr.heap.size ≤ g') := by
    rcases h2.2 with ⟨hv, _⟩ | ⟨g', cap', cur, hv, _⟩
    · have := (h4.1 hv).1
      simp at this
    · refine ⟨g', cap', hv, ?_⟩
      rw [hv] at h5
      simp [Value.ownBlock] at h5
      omega
  unfold Oper.wp execOp
  simp only [ho, resolve, invoke, builtin, Sem.run_bind, Sem.run_pure, Result.andThen_ok, List.map_toArray, List.map_cons, List.map_nil, hs, hx, hrun]
  exact h g' cap' w' h2 (by simpa [Value.ownBlock] using h3) hg'
theorem fst_below {wr w7 : World} {o : Obj} (hg : (wr.alloc o).grownBy w7 (some wr.heap.size)) : Below wr.heap.size wr w7 :=
  ((Below.refl _ _).alloc (Nat.le_refl _) _).grown hg (by simp) fun k hk => by simp at hk; omega
theorem fst_belowD {wr w7 : World} {o : Obj} (hg : (wr.alloc o).drew.grownBy w7 (some wr.heap.size)) : Below wr.heap.size wr w7 :=
  fst_below (grown_trans (grown_drew (World.grownBy.refl (wr.alloc o) _)) hg)
theorem fst_at {wr : World} {o : Obj} {g7 : Nat} (h : g7 = wr.heap.size ∨ (wr.alloc o).heap.size ≤ g7) : wr.heap.size ≤ g7 := by
  rcases h with h | h
  · omega
  · simp at h; omega
theorem fst_atD {wr : World} {o : Obj} {g7 : Nat} (h : g7 = wr.heap.size ∨ (wr.alloc o).drew.heap.size ≤ g7) : wr.heap.size ≤ g7 := fst_at (o := o) h
theorem snd_below {wr w7 w8 : World} {g7 : Nat} (hb : Below wr.heap.size wr w7) (hs : wr.heap.size ≤ g7) (hg : w7.grownBy w8 (some g7)) : Below wr.heap.size wr w8 :=
  hb.grown hg hb.size fun k hk => by simp at hk; omega
theorem snd_at {wr w7 : World} {g7 g8 : Nat} (hb : Below wr.heap.size wr w7) (hs : wr.heap.size ≤ g7) (h : g8 = g7 ∨ w7.heap.size ≤ g8) : wr.heap.size ≤ g8 := by
  have := hb.size
  rcases h with h | h <;> omega
theorem cells_below {w w' : World} {cs : List Value} {ad : Addr} (hb : Below w.heap.size w w') (h : ∀ j u, cs[j]? = some u → w.cell? (ad.add j) = some u) : ∀ j u, cs[j]? = some u → w'.cell? (ad.add j) = some u :=
  fun j u hu => by
    have := h j u hu
    rw [hb.cell (block_lt_of_cell this)]
    exact this
theorem cells_alloc {w : World} {o : Obj} {cs : List Value} {ad : Addr} (h : ∀ j u, cs[j]? = some u → w.cell? (ad.add j) = some u) : ∀ j u, cs[j]? = some u → ((w.alloc o).drew).cell? (ad.add j) = some u :=
  cells_below (w := w) (w' := (w.alloc o).drew) (Below.drew ((Below.refl _ _).alloc (Nat.le_refl _) _)) h
/-- The cells of a row, as the cells of a source. -/
theorem own_src {w : World} {e k g n cap : Nat} {css : List (List Value)} (h : Own w e k g n cap css.flatten) (hF : Flat k css) (a m : Nat) : ∀ j u, ((css.drop a).take m).flatten[j]? = some u → w.cell? ((⟨g, a * k, none⟩ : Addr).add j) = some u := by
  intro j u hu
  have hl := h.len
  have hsplit : css.flatten = (css.take a).flatten ++ (((css.drop a).take m).flatten ++ ((css.drop a).drop m).flatten) := by
    rw [← List.flatten_append, List.take_append_drop, ← List.flatten_append, List.take_append_drop]
  by_cases ha : a ≤ css.length
  · have hta : (css.take a).flatten.length = a * k := by
      rw [Flat.len (k := k) (fun c hc => hF c (List.mem_of_mem_take hc)), List.length_take, Nat.min_eq_left ha]
    have hj := (List.getElem?_eq_some_iff.1 hu).1
    have hget : css.flatten[a * k + j]? = some u := by
      rw [hsplit, List.getElem?_append_right (by omega), hta, Nat.add_sub_cancel_left, List.getElem?_append_left hj]
      exact hu
    have hlt := (List.getElem?_eq_some_iff.1 hget).1
    rw [addr_add, h.cell (by omega)]
    exact hget
  · rw [List.drop_of_length_le (by omega)] at hu
    simp at hu
theorem held_one {zs : List VHeld} : ∀ u ∈ (zs.map VHeld.cells).flatten, u.oneCell' = true := by
  intro u hu
  obtain ⟨c, hc, hu⟩ := List.mem_flatten.1 hu
  obtain ⟨x, _, rfl⟩ := List.mem_map.1 hc
  simp only [VHeld.cells, List.mem_cons, List.not_mem_nil, or_false] at hu
  rcases hu with rfl | rfl | rfl | rfl | rfl | rfl | rfl <;> rfl
theorem elemH : ElemOf Try.prog 36 72 7 48 := elemOf Try.underlying36 infoHeld rfl (by omega) (by omega)
theorem heldSrc {w : World} {g n cap : Nat} {zs : List VHeld} (h : Own w 72 7 g n cap (zs.map VHeld.cells).flatten) (a m : Nat) : ∀ j u, (((zs.drop a).take m).map VHeld.cells).flatten[j]? = some u → w.cell? ((⟨g, a * 7, none⟩ : Addr).add j) = some u := by
  have := own_src h (flatHeld zs) a m
  rwa [← List.map_drop, ← List.map_take] at this
theorem heldSrc0 {w : World} {g n cap : Nat} {zs : List VHeld} (h : Own w 72 7 g n cap (zs.map VHeld.cells).flatten) (m : Nat) : ∀ j u, ((zs.take m).map VHeld.cells).flatten[j]? = some u → w.cell? ((⟨g, 0, none⟩ : Addr).add j) = some u := by
  have := heldSrc h 0 m
  rwa [Nat.zero_mul, List.drop_zero] at this
theorem heldSrc1 {w : World} {g n cap : Nat} {zs : List VHeld} (h : Own w 72 7 g n cap (zs.map VHeld.cells).flatten) (a : Nat) : ∀ j u, ((zs.drop a).map VHeld.cells).flatten[j]? = some u → w.cell? ((⟨g, a * 7, none⟩ : Addr).add j) = some u := by
  have := heldSrc h a (zs.drop a).length
  rwa [List.take_length] at this
theorem held_len (zs : List VHeld) : (zs.map VHeld.cells).flatten.length = zs.length * 7 := by rw [(flatHeld zs).len, List.length_map]
/-- A buffer whose packets lie in a row of its own. -/
def NewBuffer (nx dl : Int) (zs : List VHeld) (w : World) (e : Ending) (w' : World) : Prop :=
  ∃ g c, e = .returned (.agg #[.int .i64 nx, .int .i64 dl, .slice (some ⟨g, 0, none⟩) (List.length zs) c]) ∧ w.heap.size ≤ g ∧ Own w' 72 7 g zs.length c (zs.map VHeld.cells).flatten ∧ Below w.heap.size w w'
set_option maxHeartbeats 4000000 in
theorem l13Copy_any (g n c : Nat) (nx dl : Int) (zs : List VHeld) (w : World) (h : Own w 72 7 g n c (zs.map VHeld.cells).flatten) (hn : zs.length = n) (hm : n ≤ 1000) :
    Calls Try.prog 64 #[.agg #[.int .i64 nx, .int .i64 dl, .slice (some ⟨g, 0, none⟩) n c]] w (NewBuffer nx dl zs w) := by
  have Hh := hide h
  have Hn := hide hn
  have lg := h.lt
  have hC : ∀ (g' c' : Nat) (w' : World), w.heap.size ≤ g' → Own w' 72 7 g' n c' (zs.map VHeld.cells).flatten → Below w.heap.size w w' → NewBuffer nx dl zs w (.returned (.agg #[.int .i64 nx, .int .i64 dl, .slice (some ⟨g', 0, none⟩) n c'])) w' := fun g' c' w' h1 h2 h3 => ⟨g', c', by rw [hn], h1, by rw [hn]; exact h2, h3⟩
  have HC := hide hC
  clear h hn hC
  go_enter Try.func64, Try.ntmps64
  go_wp2_with fail
  refine rebase (fun wx => Row wx w.heap.size #[.int .i64 nx, .int .i64 dl, .slice (some ⟨g, 0, none⟩) n c] ∧ Row wx (w.heap.size + 1) #[.int .i64 0, .int .i64 0, .slice none 0 0] ∧ Own wx 72 7 g n c (zs.map VHeld.cells).flatten ∧ wx.heap.size = w.heap.size + 2 ∧ Below w.heap.size w wx) ⟨(Row.new _ _ _).alloc _, Row.new1 _ _ _ _, (Hh.out.alloc _).alloc _, by simp, ((Below.refl _ w).alloc (Nat.le_refl _) _).alloc (by simp) _⟩ ?_
  rintro wq ⟨⟨cX, fX, lX⟩, ⟨cZ, fZ, lZ⟩, oq, hsz, bq⟩
  obtain ⟨S, hS⟩ : ∃ S, w.heap.size = S := ⟨_, rfl⟩
  rw [hS] at cX fX lX cZ fZ lZ hsz ⊢
  have Hof := hide (Own.new wq #[] 72 7 0 (by unfold maxLen; omega) rfl)
  have Hsrc := hide (heldSrc0 oq n)
  have Htk := hide (show zs.take n = zs from by rw [← Hn.out, List.take_length])
  have Bq := hide bq
  have Hsz := hide hsz
  have nX : ¬ S = wq.heap.size := by omega
  have nX2 : ¬ wq.heap.size = S := by omega
  clear oq bq Hh hsz
  refine wp_region_held_drew (S := fun w' => w'.cell? ⟨S, 0, none⟩ = some (.int .i64 nx) ∧ w'.cell? ⟨S, 1, none⟩ = some (.int .i64 dl) ∧ w'.cell? ⟨S, 2, none⟩ = some (.slice (some ⟨g, 0, none⟩) n c)) (by kernel_rfl) (by exact ⟨cX 0, cX 1, cX 2⟩) (fun hHeld => ?_)
  refine wpAnyH_take (i := 0) (oi := ⟨some 3, _, _, _, _, _⟩) (v := ?vq0) rfl (by kernel_rfl) (by kernel_rfl) (by kernel_rfl) (fun _ _ _ h => h) (Or.inl ⟨by rfl, ?yq0⟩) (by assumption) ?_
  case yq0 => (intro w hSw; (try dsimp only at hSw); go_simp; (try with_reducible rfl))
  (try simp only [Act.put, List.setIfInBounds_toArray, List.set_cons_zero, List.set_cons_succ])
  refine wpAnyH_take (i := 1) (oi := ⟨some 4, _, _, _, _, _⟩) (v := ?vq1) rfl (by kernel_rfl) (by kernel_rfl) (by kernel_rfl) (fun _ _ _ h => h) (Or.inl ⟨by rfl, ?yq1⟩) (by assumption) ?_
  case yq1 => (intro w hSw; (try dsimp only at hSw); go_simp; (try with_reducible rfl))
  (try simp only [Act.put, List.setIfInBounds_toArray, List.set_cons_zero, List.set_cons_succ])
  refine wpAnyH_take (i := 2) (oi := ⟨some 5, _, _, _, _, _⟩) (v := ?vq2) rfl (by kernel_rfl) (by kernel_rfl) (by kernel_rfl) (fun _ _ _ h => h) (Or.inl ⟨by rfl, ?yq2⟩) (by assumption) ?_
  case yq2 => (intro w hSw; (try dsimp only at hSw); go_simp; (try with_reducible rfl))
  (try simp only [Act.put, List.setIfInBounds_toArray, List.set_cons_zero, List.set_cons_succ])
  refine wpAnyH_take (i := 3) (oi := ⟨some 6, _, _, _, _, _⟩) (v := ?vq3) rfl (by kernel_rfl) (by kernel_rfl) (by kernel_rfl) (fun _ _ _ h => h) (Or.inl ⟨by rfl, ?yq3⟩) (by assumption) ?_
  case yq3 => (intro w hSw; (try dsimp only at hSw); go_simp; (try with_reducible rfl))
  (try simp only [Act.put, List.setIfInBounds_toArray, List.set_cons_zero, List.set_cons_succ])
  refine wpAnyH_take (i := 5) (oi := ⟨some 8, _, _, _, _, _⟩) (v := ?vq5) rfl (by kernel_rfl) (by kernel_rfl) (by kernel_rfl) (fun _ _ _ h => h) (Or.inl ⟨by rfl, ?yq5⟩) (by assumption) ?_
  case yq5 => (intro w hSw; (try dsimp only at hSw); go_simp; (try with_reducible rfl))
  (try simp only [Act.put, List.setIfInBounds_toArray, List.set_cons_zero, List.set_cons_succ])
  refine wpAnyH_take (i := 6) (oi := ⟨some 9, _, _, _, _, _⟩) (v := ?vq6) rfl (by kernel_rfl) (by kernel_rfl) (by kernel_rfl) (fun _ _ _ h => h) (Or.inl ⟨by rfl, ?yq6⟩) (by assumption) ?_
  case yq6 => (intro w hSw; (try dsimp only at hSw); go_simp; (try with_reducible rfl))
  (try simp only [Act.put, List.setIfInBounds_toArray, List.set_cons_zero, List.set_cons_succ])
  refine wpAnyH_ready (rs := [4]) (by kernel_rfl) (by simp) ?_
  refine AllReadyH.cons (o := ⟨some 7, _, _, _, _, _⟩) rfl (fun K hK => ?_) AllReadyH.nil
  go_simp
  refine hK.out _ _ (by exact ⟨(World.cell?_alloc_lt wq _ ⟨S, 0, none⟩ lX).trans (cX 0), (World.cell?_alloc_lt wq _ ⟨S, 1, none⟩ lX).trans (cX 1), (World.cell?_alloc_lt wq _ ⟨S, 2, none⟩ lX).trans (cX 2)⟩) (fun hHeld => ?_)
  clear hK K
  (try simp only [Act.put, List.setIfInBounds_toArray, List.set_cons_zero, List.set_cons_succ])
  refine wpAnyH_ready (rs := [7]) (by kernel_rfl) (by simp) ?_
  refine AllReadyH.cons (o := ⟨some 10, _, _, _, _, _⟩) rfl (fun K hK => ?_) AllReadyH.nil
  refine step_append_k (by rfl) (.tmp 7) (.tmp 9) 36 rfl elemH (xs := []) (ad := ⟨g, 0, none⟩) (m := n) (c := c) (g := wq.heap.size) (n := 0) (cap := 0) (by simp [Act.eval]) Hof.out (by simp [Act.eval]) (zs.map VHeld.cells).flatten (by rw [held_len, Hn.out]) (cells_alloc (by rw [← Htk.out]; exact Hsrc.out)) held_one (by omega) ?_
  intro g9 cp9 w9 o9 hg9 hat9
  have B9 := hide (fst_belowD (wr := wq) hg9)
  have S9 := hide (fst_atD (wr := wq) hat9)
  have O9 := hide (o9.convn (n' := n) (Nat.zero_add n))
  have rX : Row w9 S _ := Row.below (Row.mk cX fX lX) B9.out
  have rZ : Row w9 (S + 1) _ := Row.below (Row.mk cZ fZ lZ) B9.out
  obtain ⟨cX9, fX9, lX9⟩ := rX
  obtain ⟨cZ9, fZ9, lZ9⟩ := rZ
  clear o9 hg9 hat9
  rw [Nat.zero_add]
  refine hK.out _ _ (by exact ⟨cX9 0, cX9 1, cX9 2⟩) (fun hHeld => ?_)
  clear hK K
  (try simp only [Act.put, List.setIfInBounds_toArray, List.set_cons_zero, List.set_cons_succ])
  refine wpAnyH_take (i := 8) (oi := ⟨some 11, _, _, _, _, _⟩) (v := ?vq8) rfl (by kernel_rfl) (by kernel_rfl) (by kernel_rfl) (fun _ _ _ h => h) (Or.inl ⟨by rfl, ?yq8⟩) (by assumption) ?_
  case yq8 => (intro w hSw; (try dsimp only at hSw); go_simp; (try with_reducible rfl))
  (try simp only [Act.put, List.setIfInBounds_toArray, List.set_cons_zero, List.set_cons_succ])
  refine wpAnyH_ready (rs := [9]) (by kernel_rfl) (by simp) ?_
  refine AllReadyH.cons (o := ⟨none, _, _, _, _, _⟩) rfl (fun K hK => ?_) AllReadyH.nil
  go_simp
  refine hK.out _ _ (by refine ⟨?_, ?_, ?_⟩ <;> simp [go_sem, cX9]) (fun hHeld => ?_)
  clear hK K
  (try simp only [Act.put, List.setIfInBounds_toArray, List.set_cons_zero, List.set_cons_succ])
  refine wpAnyH_done (by kernel_rfl) ?_ _
  have lg9 := O9.out.lt
  have sg := S9.out
  have sz := Hsz.out
  go_wp2_with fail
  refine bodyPost_ret (by first | (simp (maxDischargeDepth := 3) [results, Try.results64, go_sem, *]; done) | (simp (maxDischargeDepth := 3) [results, Try.results64, go_sem, *]; rfl) | (simp (maxDischargeDepth := 7) [results, Try.results64, go_sem, *]; done) | (simp (maxDischargeDepth := 7) [results, Try.results64, go_sem, *]; rfl)) rfl ?_
  refine HC.out g9 cp9 _ (by omega) ((((O9.out.conv (List.nil_append _)).far (by show g9 ≠ S + 1; omega) _).far (by show g9 ≠ S + 1; omega) _).far (by show g9 ≠ S + 1; omega) _) ?_
  have b1 := Bq.out.trans (B9.out.mono Bq.out.size)
  exact ((b1.setCell (by show w.heap.size ≤ S + 1; omega) _).setCell (by show w.heap.size ≤ S + 1; omega) _).setCell (by show w.heap.size ≤ S + 1; omega) _
end Go.Proofs.Ytjbengphioankaa
