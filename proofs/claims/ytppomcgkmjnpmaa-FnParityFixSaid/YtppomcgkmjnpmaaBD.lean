/- Slices of slices of ints: what they are in memory; rows of ints behind a copy and an append. -/
import Derived.Test.YtppomcgkmjnpmaaPR
import Derived.Test.YtppomcgkmjnpmaaO2
import Derived.Laws.CopyOwn
import Derived.Laws.AppendOwnNone
namespace Go.Proofs.Ytppomcgkmjnpmaa
open Go.ChangeShapes Go.WideShapes Go.ChangeAt Go.RowKit Go.Deep

/-- The slice at A has elements that are slices; the i-th has the ints ls[i]. -/
def BodAt (w : World) (A : Option Addr) (ls : List (List Int)) : Prop :=
  ls = [] ∨ ∃ b off, A = some ⟨b, off, none⟩ ∧ b < w.heap.size ∧ ∀ i, i < ls.length → ∃ A' c, w.cell? ⟨b, off + i, none⟩ = some (.slice A' (ls.getD i []).length c) ∧ (ls.getD i []).length ≤ c ∧ c ≤ 9223372036854775807 ∧ (A' = none → c = 0) ∧ IntsAt w A' (ls.getD i [])
theorem BodAt.below {w w' : World} {A : Option Addr} {ls : List (List Int)} (h : BodAt w A ls) (hb : Below w.heap.size w w') : BodAt w' A ls := by
  rcases h with h | ⟨b, off, hA, hlt, hc⟩
  · exact .inl h
  · refine .inr ⟨b, off, hA, Nat.lt_of_lt_of_le hlt hb.size, fun i hi => ?_⟩
    obtain ⟨A', c, h1, h2, h3, h5, h4⟩ := hc i hi
    exact ⟨A', c, (hb.cell (p := ⟨b, off + i, none⟩) hlt).trans h1, h2, h3, h5, h4.below hb⟩
theorem BodAt.drewN {w : World} {A : Option Addr} {ls : List (List Int)} (h : BodAt w A ls) (n : Nat) : BodAt (w.drewN n) A ls := h
/-- The element k. -/
theorem BodAt.at {w : World} {A : Option Addr} {ls : List (List Int)} (h : BodAt w A ls) {k : Nat} (hk : k < ls.length) :
    ∃ b off, A = some ⟨b, off, none⟩ ∧ b < w.heap.size ∧ ∃ A' c, w.cell? ⟨b, off + k, none⟩ = some (.slice A' (ls.getD k []).length c) ∧ (ls.getD k []).length ≤ c ∧ c ≤ 9223372036854775807 ∧ (A' = none → c = 0) ∧ IntsAt w A' (ls.getD k []) := by
  rcases h with h | ⟨b, off, hA, hlt, hc⟩
  · subst h; simp at hk
  · exact ⟨b, off, hA, hlt, hc k hk⟩

/-- A body in a row of its own. -/
structure VBod where
  g : Nat
  c : Nat
  zs : List Int
deriving Inhabited
def VBod.val (x : VBod) : Value := .slice (some ⟨x.g, 0, none⟩) x.zs.length x.c
/-- Block g is a row of slices, each of which is a row of ints of its own, at B or behind. -/
def OwnBod (w : World) (B g n cap : Nat) (bs : List VBod) : Prop :=
  Own w 25 1 g n cap (bs.map VBod.val) ∧ ∀ x ∈ bs, B ≤ x.g ∧ x.g ≠ g ∧ Own w 3 1 x.g x.zs.length x.c (x.zs.map (Value.int .i64))
theorem OwnBod.len {w : World} {B g n cap : Nat} {bs : List VBod} (h : OwnBod w B g n cap bs) : bs.length = n := by
  have := h.1.len
  simpa using this
theorem OwnBod.lt {w : World} {B g n cap : Nat} {bs : List VBod} (h : OwnBod w B g n cap bs) : g < w.heap.size := h.1.lt
theorem OwnBod.below {w w' : World} {B g n cap : Nat} {bs : List VBod} (h : OwnBod w B g n cap bs) (hb : Below w.heap.size w w') : OwnBod w' B g n cap bs :=
  ⟨h.1.below hb, fun x hx => ⟨(h.2 x hx).1, (h.2 x hx).2.1, (h.2 x hx).2.2.below hb⟩⟩
theorem OwnBod.drewN {w : World} {B g n cap : Nat} {bs : List VBod} (h : OwnBod w B g n cap bs) (k : Nat) : OwnBod (w.drewN k) B g n cap bs := h
theorem OwnBod.alloc {w : World} {B g n cap : Nat} {bs : List VBod} (h : OwnBod w B g n cap bs) (o : Obj) : OwnBod (w.alloc o) B g n cap bs :=
  ⟨h.1.alloc o, fun x hx => ⟨(h.2 x hx).1, (h.2 x hx).2.1, (h.2 x hx).2.2.alloc o⟩⟩
theorem OwnBod.grown {w w' : World} {B g n cap r : Nat} {bs : List VBod} (h : OwnBod w B g n cap bs) (hg : w.grownBy w' (some r)) (hr : r < B) (hgr : g ≠ r) : OwnBod w' B g n cap bs :=
  ⟨h.1.grown hg hgr, fun x hx => ⟨(h.2 x hx).1, (h.2 x hx).2.1, (h.2 x hx).2.2.grown hg (by have := (h.2 x hx).1; omega)⟩⟩
theorem OwnBod.more {w : World} {B B' g n cap : Nat} {bs : List VBod} (h : OwnBod w B g n cap bs) (hB : B' ≤ B) : OwnBod w B' g n cap bs :=
  ⟨h.1, fun x hx => ⟨by have := (h.2 x hx).1; omega, (h.2 x hx).2⟩⟩
theorem bod_of {w : World} {B g n cap : Nat} {bs : List VBod} (h : OwnBod w B g n cap bs) : BodAt w (some ⟨g, 0, none⟩) (bs.map VBod.zs) := by
  have hl := h.len
  refine .inr ⟨g, 0, rfl, h.lt, fun i hi => ?_⟩
  rw [List.length_map] at hi
  have hx := h.2 bs[i] (List.getElem_mem hi)
  have hc := h.1.cell (j := i) (by omega)
  have he : (bs.map VBod.zs).getD i [] = bs[i].zs := by simp [List.getD_eq_getElem?_getD, hi]
  have hr := hx.2.2.room
  rw [he]
  refine ⟨some ⟨bs[i].g, 0, none⟩, bs[i].c, ?_, hr.1, hr.2, (fun h => by cases h), own_ints hx.2.2⟩
  rw [Nat.zero_add, hc, List.getElem?_map, List.getElem?_eq_getElem hi]
  rfl
theorem infoS : (Try.prog.info? 25).map (fun i => (i.zero, i.size, i.bytes)) = some (some (.slice none 0 0), 1, 24) := by kernel_rfl
theorem elemS : ElemOf Try.prog 23 25 1 24 := elemOf Try.underlying23 infoS rfl (by omega) (by omega)

/-! ### A copy into a row of the call's own -/
theorem own_heap {w : World} {e g : Nat} {xs : List Value} (hm : xs.length ≤ maxLen) (h : w.heap[g]? = some (.cells xs.toArray e (0, 0))) : Own w e 1 g xs.length xs.length xs :=
  ⟨by simp, .inr ⟨g, xs.length, xs.toArray, rfl, Nat.zero_le _, h, Nat.le_refl _, hm, by simp, by simp⟩⟩
theorem own_row_heap {w : World} {e g n : Nat} {xs : List Value} (h : Own w e 1 g n n xs) : w.heap[g]? = some (.cells xs.toArray e (0, 0)) := by
  rcases h.2 with ⟨h', _⟩ | ⟨g', cap, cur, h', _, h1, _, _, h3, h4⟩
  · simp at h'
  · simp only [Value.slice.injEq, Option.some.injEq, Addr.mk.injEq, and_true, true_and] at h'
    obtain ⟨rfl, rfl⟩ := h'
    rw [h1]
    congr 2
    have : cur.toList = xs := by
      rw [← h4, List.take_of_length_le (by rw [Array.length_toList]; omega)]
    rw [← this]
/-- Ints that are known, as cells of a source. -/
theorem ints_cell {w : World} {A : Option Addr} {zs : List Int} (h : IntsAt w A zs) (m : Nat) (hm : 0 < ((zs.take m).map (Value.int .i64)).length) : ∃ ad, A = some ad ∧ ∀ j v, ((zs.take m).map (Value.int .i64))[j]? = some v → w.cell? (ad.add j) = some v := by
  rcases h with h | ⟨b, off, rfl, hlt, hc⟩
  · subst h; simp at hm
  · refine ⟨_, rfl, fun j v hv => ?_⟩
    rw [List.getElem?_map] at hv
    obtain ⟨x, hx, rfl⟩ := Option.map_eq_some_iff.1 hv
    have hj := (List.getElem?_eq_some_iff.1 hx).1
    rw [List.length_take] at hj
    rw [List.getElem?_take_of_lt (by omega)] at hx
    rw [addr_add, hc j (by omega), List.getD_eq_getElem?_getD, hx]
    rfl
/-- 'copy(d, s)' into a row of ints of the call's own; as many go over as the shorter has. -/
theorem wpList_copy_ints {P : Program} {w : World} {ops : Array Oper} {rest : List Oper} {o : Oper} {a : Act} {Q : Exit → Act → World → Prop} (hgd : o.guard = none) (d s : Operand) (dT sT : TypeId)
    (ho : o.op = .call { callee := .builtin .copy, args := #[d, s], argTypes := #[dT, sT] }) (elem : TypeId) (hu : P.underlying dT = some (.slice elem)) (hsz : (P.info? elem).map (·.size) = some 1)
    {g n : Nat} {xs zs : List Int} {A : Option Addr} {c : Nat} (hd : a.eval d = .slice (some ⟨g, 0, none⟩) n n) (hs : a.eval s = .slice A zs.length c)
    (hown : Own w elem 1 g n n (xs.map (Value.int .i64))) (hz : IntsAt w A zs) {B : Nat} {w0 : World} (hb : Below B w0 w) (hBg : B ≤ g)
    (h : ∀ w', Own w' elem 1 g n n ((zs.take n ++ xs.drop (min n zs.length)).map (Value.int .i64)) → Below B w0 w' → wpList P ops Q rest (a.put o.dst (goInt (min n zs.length : Nat))) w') :
    wpList P ops Q (o :: rest) a w := by
  have hx : xs.length = n := by have := hown.len; simpa using this
  have hcl : ((zs.take n).map (Value.int .i64)).length = min n zs.length := by simp
  have hmax := hown.room.2
  refine wpList_copy_splice hgd d s dT sT ho elem hu hsz _ _ _ _ _ _ hd hs g 0 (xs.map (Value.int .i64)) elem (own_row_heap hown) ((zs.take n).map (Value.int .i64)) ?_ (fun h0 => ⟨rfl, ints_cell hz n h0⟩) ?_ ?_ B w0 hb hBg ?_
  · rw [hcl]; show min n zs.length = min zs.length n; omega
  · rw [hcl, List.length_map]; omega
  · intro v hv
    obtain ⟨x, _, rfl⟩ := List.mem_map.1 hv
    rfl
  · intro w' hw' hb'
    rw [hcl]
    have hw' := hw'.out
    unfold splice at hw'
    rw [hcl] at hw'
    simp only [List.take_zero, List.nil_append, Nat.zero_add, ← List.map_drop, ← List.map_append] at hw'
    have hl : ((zs.take n ++ xs.drop (min n zs.length)).map (Value.int .i64)).length = n := by simp; omega
    have := own_heap (by rw [hl]; exact hmax) hw'
    rw [hl] at this
    exact h w' this hb'
/-- 'append(s, x...)' of ints onto a row of ints of the call's own; x may be nil. -/
theorem wpList_append_ints {P : Program} {wr : World} {ops : Array Oper} {rest : List Oper} {o : Oper} {a : Act} {Q : Exit → Act → World → Prop} (hgd : o.guard = none) (s x : Operand) (t : TypeId)
    (ho : o.op = .call { callee := .builtin .append, args := #[s, x], argTypes := #[t, t] })
    {e bytes : Nat} (he : ElemOf P t e 1 bytes) {g n cap : Nat} {xs : List Int} (hs : a.eval s = .slice (some ⟨g, 0, none⟩) n cap) (hown : Own wr e 1 g n cap (xs.map (Value.int .i64)))
    {A : Option Addr} {zs : List Int} {c : Nat} (hx : a.eval x = .slice A zs.length c) (hz : IntsAt wr A zs) (hn : A = none → zs.length = 0 ∧ c = 0)
    (hbytes : (n + zs.length) * bytes ≤ 140737488355328)
    (h : ∀ g' cap' w', Own w' e 1 g' (n + zs.length) cap' ((xs ++ zs).map (Value.int .i64)) → wr.grownBy w' (some g) → (g' = g ∨ wr.heap.size ≤ g') → wpList P ops Q rest (a.put o.dst (.slice (some ⟨g', 0, none⟩) (n + zs.length) cap')) w') :
    wpList P ops Q (o :: rest) a wr := by
  cases A with
  | none =>
    obtain ⟨h0, rfl⟩ := hn rfl
    obtain rfl := List.eq_nil_of_length_eq_zero h0
    obtain ⟨i, z, hi, _⟩ := he.ex
    refine wpList_append_own_none hgd s x t ho 0 e i 1 he.ht hi _ n _ hs hown hx ?_
    exact h g cap wr (by simpa using hown) (World.grownBy.refl _ _) (.inl rfl)
  | some ad =>
    refine wpList_append_m hgd s x t ho he hs hown ad zs.length c hx (zs.map (Value.int .i64)) (by simp) ?_ ?_ hbytes ?_
    · intro j u hu
      have hl : 0 < ((zs.take zs.length).map (Value.int .i64)).length := by
        have := (List.getElem?_eq_some_iff.1 hu).1
        simp at this ⊢; omega
      obtain ⟨ad', h1, h2⟩ := ints_cell hz zs.length hl
      cases h1
      exact h2 j u (by rw [List.take_length]; exact hu)
    · intro u hu
      obtain ⟨y, _, rfl⟩ := List.mem_map.1 hu
      rfl
    · intro g' cap' w' h1 h2 h3
      exact h g' cap' w' (by rw [List.map_append]; exact h1) h2 h3
/-- The same as a step of a region that draws its order. -/
theorem step_append_intsW {P : Program} {wr : World} {ops : Array Oper} {o : Oper} {a : Act} {K : Act → World → Prop} {Q : Exit → Act → World → Prop} {E : Prop} (hw : Region.wanted o (yielded ops a.tmps) = true) (s x : Operand) (t : TypeId)
    (ho : o.op = .call { callee := .builtin .append, args := #[s, x], argTypes := #[t, t] })
    {e bytes : Nat} (he : ElemOf P t e 1 bytes) {g n cap : Nat} {xs : List Int} (hs : a.eval s = .slice (some ⟨g, 0, none⟩) n cap) (hown : Own wr e 1 g n cap (xs.map (Value.int .i64)))
    {A : Option Addr} {zs : List Int} {c : Nat} (hx : a.eval x = .slice A zs.length c) (hz : IntsAt wr A zs) (hn : A = none → zs.length = 0 ∧ c = 0)
    (hbytes : (n + zs.length) * bytes ≤ 140737488355328)
    (h : ∀ g' cap' w', Own w' e 1 g' (n + zs.length) cap' ((xs ++ zs).map (Value.int .i64)) → wr.grownBy w' (some g) → (g' = g ∨ wr.heap.size ≤ g') → K (a.put o.dst (.slice (some ⟨g', 0, none⟩) (n + zs.length) cap')) w') :
    if Region.wanted o (yielded ops a.tmps) = true then Oper.wp P o a wr K Q else E := by
  rw [if_pos hw]
  obtain ⟨i, z, hi, hzz, hz1, hz2, hz3⟩ := he.ex
  have hp := he.pos2
  have h63 : n + zs.length ≤ maxLen := by
    have : (n + zs.length) * 1 ≤ (n + zs.length) * bytes := Nat.mul_le_mul_left _ hp
    unfold maxLen; omega
  cases A with
  | none =>
    obtain ⟨h0, rfl⟩ := hn rfl
    obtain rfl := List.eq_nil_of_length_eq_zero h0
    have hrun := run_append_owned_none (P := P) (w := wr) 0 t o.type e i 1 he.ht hi _ n _ hown
    unfold Oper.wp
    have hx' : a.eval x = .slice none 0 0 := hx
    simp [execOp, ho, resolve, invoke, builtin, hs, hx', hrun, Result.andThen]
    exact h g cap wr (by simpa using hown) (World.grownBy.refl _ _) (.inl rfl)
  | some ad =>
    have hcell : ∀ j u, (zs.map (Value.int .i64))[j]? = some u → wr.cell? (ad.add j) = some u := by
      intro j u hu
      have hl : 0 < ((zs.take zs.length).map (Value.int .i64)).length := by
        have := (List.getElem?_eq_some_iff.1 hu).1
        simp at this ⊢; omega
      obtain ⟨ad', h1, h2⟩ := ints_cell hz zs.length hl
      cases h1
      exact h2 j u (by rw [List.take_length]; exact hu)
    obtain ⟨v', w', hrun, h2, h3, h4, h5⟩ := run_append_own_at (P := P) wr 0 t o.type e i z 1 bytes he.ht hi hzz hz1 hz2 hz3 he.pos _ n _ hown ad zs.length c (zs.map (Value.int .i64)) (by simp) hcell (by
      intro u hu
      obtain ⟨y, _, rfl⟩ := List.mem_map.1 hu
      rfl) h63 hbytes (Nat.zero_le _)
    obtain ⟨g', cap', rfl, hg'⟩ : ∃ g' cap', v' = .slice (some ⟨g', 0, none⟩) (n + zs.length) cap' ∧ (g' = g ∨ wr.heap.size ≤ g') := by
      rcases h2.2 with ⟨hv, _⟩ | ⟨g', cap', cur, hv, _⟩
      · have := (h4.1 hv).1
        simp at this
      · refine ⟨g', cap', hv, ?_⟩
        rw [hv] at h5
        simp [Value.ownBlock] at h5
        omega
    unfold Oper.wp execOp
    simp only [ho, resolve, invoke, builtin, Sem.run_bind, Sem.run_pure, Result.andThen_ok, List.map_toArray, List.map_cons, List.map_nil, hs, hx, hrun]
    refine h g' cap' w' ?_ (by simpa [Value.ownBlock] using h3) hg'
    rw [List.map_append]
    exact h2
/-- The same as a step of a region that draws its order. -/
theorem step_append_ints {P : Program} {wr : World} {ops : Array Oper} {o : Oper} {a : Act} {K : Act → World → Prop} {Q : Exit → Act → World → Prop} {E : Prop} (hgd : o.guard = none) (s x : Operand) (t : TypeId)
    (ho : o.op = .call { callee := .builtin .append, args := #[s, x], argTypes := #[t, t] })
    {e bytes : Nat} (he : ElemOf P t e 1 bytes) {g n cap : Nat} {xs : List Int} (hs : a.eval s = .slice (some ⟨g, 0, none⟩) n cap) (hown : Own wr e 1 g n cap (xs.map (Value.int .i64)))
    {A : Option Addr} {zs : List Int} {c : Nat} (hx : a.eval x = .slice A zs.length c) (hz : IntsAt wr A zs) (hn : A = none → zs.length = 0 ∧ c = 0)
    (hbytes : (n + zs.length) * bytes ≤ 140737488355328)
    (h : ∀ g' cap' w', Own w' e 1 g' (n + zs.length) cap' ((xs ++ zs).map (Value.int .i64)) → wr.grownBy w' (some g) → (g' = g ∨ wr.heap.size ≤ g') → K (a.put o.dst (.slice (some ⟨g', 0, none⟩) (n + zs.length) cap')) w') :
    if Region.wanted o (yielded ops a.tmps) = true then Oper.wp P o a wr K Q else E :=
  step_append_intsW (by simp [Region.wanted, hgd]) s x t ho he hs hown hx hz hn hbytes h
theorem own_made0 (w : World) (z : Value) (e : TypeId) (n : Nat) (hz : z.cells.size = 1) (hm : n ≤ maxLen) : Own (w.alloc (.cells (madeCells z.cells n) e)) e 1 w.heap.size 0 n [] := by
  refine ⟨by simp, .inr ⟨w.heap.size, n, _, rfl, Nat.zero_le _, heap_alloc_new _ _, Nat.zero_le _, hm, by rw [Nat.mul_one]; exact size_madeCells _ _, by simp⟩⟩
/-- 'append(s, x)' where the heap's size is known as a number. -/
theorem wpList_append_1b {P : Program} {wr : World} {ops : Array Oper} {rest : List Oper} {o : Oper} {a : Act} {Q : Exit → Act → World → Prop} (hgd : o.guard = none) (s x : Operand) (t : TypeId)
    (ho : o.op = .call { callee := .builtin .append, args := #[s, x], argTypes := #[t, t] })
    {e size bytes : Nat} (he : ElemOf P t e size bytes) {g n cap : Nat} {xs : List Value} (hs : a.eval s = .slice (some ⟨g, 0, none⟩) n cap) (hown : Own wr e size g n cap xs)
    (cs : Array Value) {B : Nat} (hx : a.eval x = .slice (some ⟨B, 0, none⟩) 1 1) (hB : wr.heap.size = B) (hcs : cs.size = size) (h1 : (cs.toList.all fun u => u.oneCell') = true)
    (hbytes : (n + 1) * bytes ≤ 140737488355328)
    (h : ∀ g' cap' w', Own w' e size g' (n + 1) cap' (xs ++ cs.toList) → wr.grownBy w' (some g) → (g' = g ∨ wr.heap.size ≤ g') → wpList P ops Q rest (a.put o.dst (.slice (some ⟨g', 0, none⟩) (n + 1) cap')) w') :
    wpList P ops Q (o :: rest) a (wr.alloc (.cells cs e)) := by
  subst hB
  exact wpList_append_1 hgd s x t ho he hs hown cs hx hcs h1 hbytes h
/-- 'make([]T, 0, c + 1)', for every world. -/
theorem run_make_cap {P : Program} {t e : TypeId} (z : Value) (bytes : Nat) (ht : P.underlying t = some (.slice e)) (hinfo : (P.info? e).map (fun i => (i.zero, i.size, i.bytes)) = some (some z, 1, bytes))
    (kl kc : IntKind) (c : Nat) (hbytes : bytes * (c + 1) ≤ 281474976710656) (h63 : c + 1 ≤ 9223372036854775807) (w : World) :
    (Instr.makeSlice t (.int kl 0) (.int kc ((c : Int) + 1))).run P w = .ok (.slice (some ⟨w.heap.size, 0, none⟩) 0 (c + 1)) (w.alloc (.cells (madeCells z.cells (c + 1)) e)) := by
  obtain ⟨i, hi, hzz⟩ := Option.map_eq_some_iff.1 hinfo
  simp only [Prod.mk.injEq] at hzz
  obtain ⟨hz, hs, hb⟩ := hzz
  have hb' : (i.bytes : Int) * ((c : Int) + 1) ≤ 281474976710656 := by
    have h : ((i.bytes * (c + 1) : Nat) : Int) ≤ 281474976710656 := by rw [hb]; omega
    rw [Int.natCast_mul] at h
    exact h
  have hr := run_make (P := P) w t e i z ht hi hz kl kc 0 ((c : Int) + 1) (by omega) (by omega) hb' (by omega)
  rw [hs, Nat.mul_one] at hr
  exact hr
/-! ### Plain steps of the loops -/
theorem range_set {β : Type} (f f' : Nat → β) (n k : Nat) (h : ∀ i, i ≠ k → f' i = f i) : ((List.range n).map f).set k (f' k) = (List.range n).map f' := by
  apply List.ext_getElem?
  intro i
  by_cases hi : i = k
  · subst hi
    by_cases hn : i < n
    · rw [List.getElem?_set_self (by simpa using hn)]; simp [hn]
    · rw [List.getElem?_eq_none (by simp; omega), List.getElem?_eq_none (by simp; omega)]
  · rw [List.getElem?_set_ne (Ne.symm hi), List.getElem?_map, List.getElem?_map]
    by_cases hn : i < n
    · simp [hn, h i hi]
    · simp [hn]
def xk (a b : List Int) (k : Nat) : List Int := (List.range (max a.length b.length)).map fun i => if i < k then xr (a.getD i 0) (b.getD i 0) else a.getD i 0
theorem xk_start (a b : List Int) : a.take (max a.length b.length) ++ (List.replicate (max a.length b.length) (0 : Int)).drop (min (max a.length b.length) a.length) = xk a b 0 := by
  apply List.ext_getElem?
  intro i
  unfold xk
  rw [List.take_of_length_le (by omega), show min (max a.length b.length) a.length = a.length by omega]
  by_cases hi : i < a.length
  · rw [List.getElem?_append_left hi]
    have hm : i < max a.length b.length := by omega
    rw [List.getElem?_map, List.getElem?_range hm]
    simp [List.getD_eq_getElem?_getD, hi]
  · rw [List.getElem?_append_right (by omega)]
    by_cases hb : i < max a.length b.length
    · rw [List.getElem?_drop, show a.length + (i - a.length) = i by omega]
      simp [hb, List.getD_eq_getElem?_getD, List.getElem?_eq_none (show a.length ≤ i by omega)]
    · rw [List.getElem?_eq_none (by simp; omega), List.getElem?_eq_none (by simp; omega)]
theorem xk_next (a b : List Int) (k : Nat) : (xk a b k).set k (xr (a.getD k 0) (b.getD k 0)) = xk a b (k + 1) := by
  have := range_set (fun i => if i < k then xr (a.getD i 0) (b.getD i 0) else a.getD i 0) (fun i => if i < k + 1 then xr (a.getD i 0) (b.getD i 0) else a.getD i 0) (max a.length b.length) k
    (fun i hi => by
      have e : (i < k + 1) = (i < k) := by rw [eq_iff_iff]; omega
      simp only [e])
  simp only [Nat.lt_succ_self, if_true] at this
  exact this
theorem xk_end {a b : List Int} (ha : nn a) : xk a b b.length = xorL a b := by
  unfold xk xorL
  apply List.map_congr_left
  intro i _
  by_cases hi : i < b.length
  · simp [hi]
  · rw [if_neg hi, getD_over (a := b) (by omega), xr_zero (ha i)]
theorem xk_get (a b : List Int) (k : Nat) (hk : k < max a.length b.length) : (xk a b k).getD k 0 = a.getD k 0 := by
  unfold xk
  rw [List.getD_eq_getElem?_getD, List.getElem?_map, List.getElem?_range hk]
  simp
theorem xk_len (a b : List Int) (k : Nat) : (xk a b k).length = max a.length b.length := by simp [xk]
/-- Numbers of a byte. -/
def sm (zs : List Int) : Prop := ∀ i, 0 ≤ zs.getD i 0 ∧ zs.getD i 0 ≤ 255
theorem sm.nn {zs : List Int} (h : sm zs) : nn zs := fun i => (h i).1
theorem sm_xor {a b : List Int} (ha : sm a) (hb : sm b) : sm (xorL a b) := by
  intro i
  rw [xorL_getD]
  have := xr_lt (show a.getD i 0 < 256 by have := ha i; omega) (show b.getD i 0 < 256 by have := hb i; omega)
  have := xr_pos (a.getD i 0) (b.getD i 0)
  omega
theorem sm_nil : sm [] := fun i => by simp
theorem sm_zero : sm [0] := fun i => by cases i <;> simp
theorem sm_bytes {b : List Int} (h : bytesOk b) : sm b := by
  intro i
  by_cases hi : i < b.length
  · exact h i hi
  · rw [getD_over (by omega)]; omega
theorem sm_frm {b : List Int} (h : bodyB b = true) : sm (frm b) := by
  have hb := of_decide_eq_true h
  intro i
  cases i with
  | zero => show (0 : Int) ≤ (b.length : Int) ∧ (b.length : Int) ≤ 255; omega
  | succ i => exact sm_bytes hb.2 i
theorem sm_par {p : List Int} {l : List (List Int)} (hp : sm p) (hl : ∀ b, b ∈ l → bodyB b = true) : sm (par p l) := by
  revert hl
  refine snoc_ind (P := fun l => (∀ b, b ∈ l → bodyB b = true) → sm (par p l)) (fun _ => hp) ?_ l
  intro l b ih hl
  rw [par_snoc]
  exact sm_xor (ih fun b hb => hl b (List.mem_append_left _ hb)) (sm_frm (hl b (by simp)))
theorem xor_i64 {a b : Int} (ha : 0 ≤ a ∧ a ≤ 255) (hb : 0 ≤ b ∧ b ≤ 255) : bits .xor .i64 a b = xr a b := by
  obtain ⟨n, rfl⟩ := Int.eq_ofNat_of_zero_le ha.1
  obtain ⟨m, rfl⟩ := Int.eq_ofNat_of_zero_le hb.1
  rw [(i64_xor_nat n m (by omega) (by omega)).1]
  rfl
theorem par_take_next {l : List (List Int)} (p : List Int) {k : Nat} (hk : k < l.length) : par p (l.take (k + 1)) = xorL (par p (l.take k)) (frm (l.getD k [])) := by
  rw [List.take_add_one, List.getElem?_eq_getElem hk, List.getD_eq_getElem?_getD, List.getElem?_eq_getElem hk]
  exact par_snoc _ _ _
theorem par_len_le {l : List (List Int)} (p : List Int) {m : Nat} (hp : p.length ≤ m + 1) (hl : ∀ b, b ∈ l → b.length ≤ m) : (par p l).length ≤ m + 1 := by
  revert hl
  refine snoc_ind (P := fun l => (∀ b, b ∈ l → b.length ≤ m) → (par p l).length ≤ m + 1) (fun _ => hp) ?_ l
  intro l b ih hl
  rw [par_snoc, xorL_length]
  have := ih fun b hb => hl b (List.mem_append_left _ hb)
  have := hl b (by simp)
  simp only [frm, List.length_cons]
  omega
end Go.Proofs.Ytppomcgkmjnpmaa
