/- NacksFind of the program: contract. -/
import Derived.Test.YtibedadmogadhaaK7
import Derived.Test.YtibedadmogadhaaM2
namespace Go.Proofs.Ytibedadmogadhaa
open Go.ChangeShapes Go.WideShapes Go.ChangeAt Go.RowKit Go.Deep

def NewPks (ys : List VPacket) (w : World) (e : Ending) (w' : World) : Prop :=
  ∃ g c, e = .returned (.slice (some ⟨g, 0, none⟩) ys.length c) ∧ w.heap.size ≤ g ∧ Own w' 32 6 g ys.length c (ys.map VPacket.cells).flatten ∧ Below w.heap.size w w'
theorem newPks_mk {ys : List VPacket} {w w' : World} {g c m : Nat} {xs : List VPacket} (hx : xs = ys) (hm : m = xs.length) (hg : w.heap.size ≤ g) (ho : Own w' 32 6 g m c (xs.map VPacket.cells).flatten) (hb : Below w.heap.size w w') :
    NewPks ys w (.returned (.slice (some ⟨g, 0, none⟩) m c)) w' := by subst hx hm; exact ⟨g, c, rfl, hg, ho, hb⟩
theorem elemQ : ElemOf Try.prog 24 32 6 40 := elemOf Try.underlying24 infoPacket rfl (by omega) (by omega)
def isIn (want : List Int) (x : VPacket) : Bool := decide (∃ j, j < want.length ∧ want.getD j 0 = x.a0)
def filt (want : List Int) (ps : List VPacket) (k : Nat) : List VPacket := (ps.take k).filter (isIn want)
theorem filt_succ (want : List Int) (ps : List VPacket) (k : Nat) (hk : k < ps.length) : filt want ps (k + 1) = if isIn want (ps.getD k default) = true then filt want ps k ++ [ps.getD k default] else filt want ps k := by
  unfold filt
  rw [List.take_add_one, List.getElem?_eq_getElem hk, List.getD_eq_getElem?_getD, List.getElem?_eq_getElem hk, List.filter_append]
  by_cases h : isIn want ps[k] = true <;> simp [h]
theorem filt_len (want : List Int) (ps : List VPacket) (k : Nat) : (filt want ps k).length ≤ k := by
  unfold filt
  have := List.length_filter_le (isIn want) (ps.take k)
  rw [List.length_take] at this
  omega
def findB (ns : List VNack) (ps : List VPacket) : Bool := listB ns && pksB ps
def find (ns : List VNack) (ps : List VPacket) : List VPacket := if findB ns ps = true then filt (expands ns) ps ps.length else []
theorem okA_lt {zs : List Int} {n : Nat} (h : okA zs n) : ∀ j i, i < j → j < n → zs.getD i 0 < zs.getD j 0 := by
  intro j
  induction j with
  | zero => intro i hi; omega
  | succ j ih =>
    intro i hi hj
    have h1 := (h (j + 1) hj).2.2 (by omega)
    rw [Nat.add_sub_cancel] at h1
    by_cases hij : i = j
    · subst hij; exact h1
    · have := ih i (by omega) (by omega); omega
theorem isIn_no {want : List Int} {x : VPacket} {a : Nat} (h1 : ∀ j, j < a → want.getD j 0 < x.a0) (h2 : ∀ j, a ≤ j → j < want.length → x.a0 < want.getD j 0) : isIn want x = false := by
  refine decide_eq_false ?_
  rintro ⟨j, hj, he⟩
  rcases Nat.lt_or_ge j a with hja | hja
  · have := h1 j hja; omega
  · have := h2 j hja hj; omega
theorem isIn_yes {want : List Int} {x : VPacket} {a : Nat} (h : a < want.length) (he : want.getD a 0 = x.a0) : isIn want x = true := decide_eq_true ⟨a, h, he⟩
theorem own_snocQ {w : World} {g k c : Nat} {zs : List VPacket} {x : VPacket} {cs : List Value} (hcs : cs = x.cells) (h : Own w 32 6 g (k + 1) c ((zs.map VPacket.cells).flatten ++ cs)) : Own w 32 6 g (k + 1) c ((zs ++ [x]).map VPacket.cells).flatten :=
  h.conv (by rw [hcs]; simp)
theorem cellI {w : World} {g n c k : Nat} {ys : List Int} (h : Own w 3 1 g n c (ys.map (Value.int .i64))) (hn : ys.length = n) (hk : k < n) : w.cell? ⟨g, k, none⟩ = some (.int .i64 (ys.getD k 0)) := by
  rw [h.cell (by omega), List.getElem?_map, List.getElem?_eq_getElem (by omega), List.getD_eq_getElem?_getD, List.getElem?_eq_getElem (by omega)]
  rfl
set_option maxHeartbeats 4000000 in
theorem implNacksFind (A1 A2 : Option Addr) (c1 c2 : Nat) (ns : List VNack) (ps : List VPacket) (w : World) (h1 : NackAt w A1 ns) (h2 : PacketAt w A2 ps) (hm1 : ns.length ≤ 1048576) (hm2 : ps.length ≤ 1048576) :
    Calls Try.prog 14 #[.slice A1 ns.length c1, .slice A2 ps.length c2] w (NewPks (find ns ps) w) := by
  obtain ⟨ys, B, hR⟩ := relNacksList_some ns
  have HR := hide hR
  have hly := relList_len hR
  have hLB : listB ns = B ∧ (B = true → ys = expands ns ∧ okA ys ys.length) := by
    rcases hR with ⟨a, b, rfl⟩ | ⟨a, _, rfl⟩
    · refine ⟨a, fun _ => ⟨b, ?_⟩⟩
      unfold listB at a
      rw [Bool.and_eq_true] at a
      rw [b]
      exact (of_decide_eq_true a.2).1
    · exact ⟨a, fun h => Bool.noConfusion h⟩
  have HLB := hide hLB
  have H1 := hide h1
  have H2 := hide h2
  have Ho := hide (Own.new w #[] 32 6 0 (by unfold maxLen; omega) rfl)
  have b0 : Below w.heap.size w (w.alloc (.cells #[] 32)) := (Below.refl _ _).alloc (Nat.le_refl _) _
  have HB0 := hide b0
  clear hR hLB h1 h2 b0
  go_enter Try.func14, Try.ntmps14
  go_wp2_with fail
  refine (implNacksList _ _ ns ys B _ HR.out (RecAt.below H1.out HB0.out) hm1).mono ?_
  rintro e w1 ⟨gw, cw, rfl, hgw, ow, hb⟩
  have of1 := Ho.out.below hb
  have bl : Below w.heap.size w w1 := HB0.out.trans (hb.mono (by simp))
  have lgw : w.heap.size < gw := by simp at hgw; omega
  clear hb hgw
  cases B
  · have e1 : find ns ps = [] := by unfold find findB; rw [HLB.out.1]; rfl
    have E1 := hide e1
    have Hof := hide of1
    clear of1 ow e1
    go_wp2_with fail
    go_ret
    exact newPks_mk (xs := []) E1.out.symm rfl (Nat.le_refl _) Hof.out bl
  · have K := implPacketsValid A2 c2 ps w1 (H2.out.below bl) hm2
    by_cases hv : pksB ps = true
    · rw [hv] at K
      have e1 : find ns ps = filt ys ps ps.length := by unfold find findB; rw [HLB.out.1, hv, (HLB.out.2 rfl).1]; rfl
      have E1 := hide e1
      have hp := (of_decide_eq_true hv)
      have hw0 := (HLB.out.2 rfl).2
      have HP := hide hp.1
      have HW := hide hw0
      have hn20 := hp.2
      have KK := hide K
      clear K e1 hv hp hw0
      go_wp2_with fail
      refine KK.out.mono ?_
      rintro e w2 ⟨rfl, hb⟩
      have of2 := hide (of1.below hb)
      have ow2 := hide (ow.below hb)
      have bl2 := hide (bl.trans (hb.mono bl.size))
      obtain ⟨n, hn⟩ : ∃ n, ps.length = n := ⟨_, rfl⟩
      obtain ⟨q, hq⟩ : ∃ q, ys.length = q := ⟨_, rfl⟩
      have Hn := hide hn
      have Hq := hide hq
      rw [hn] at hm2 HP hn20 ⊢
      rw [hq] at hly HW ow2 ⊢
      clear hb of1 ow bl hn hq KK
      go_wp2_with fail
      go_loopw [5, 8, 27] (fun s at_ i wr => ∃ (k a m g cp : Nat), s = .slice (some ⟨g, 0, none⟩) m cp ∧ at_ = .int .i64 a ∧ i = .int .i64 k ∧ k ≤ n ∧ a ≤ q ∧ w.heap.size ≤ g ∧ g ≠ gw ∧ m = (filt ys ps k).length ∧ (∀ j i, j < a → k ≤ i → i < n → ys.getD j 0 < (ps.getD i default).a0) ∧ Own wr 32 6 g m cp ((filt ys ps k).map VPacket.cells).flatten ∧ Own wr 3 1 gw q cw (ys.map (Value.int .i64)) ∧ Below w.heap.size w wr) (fun _ _ i _ => n - (intOf i).toNat)
      case atStart => exact ⟨0, 0, 0, _, _, rfl, rfl, rfl, by omega, by omega, Nat.le_refl _, by omega, rfl, fun j i hj => by omega, of2.out, ow2.out, bl2.out⟩
      case round =>
        obtain ⟨k, a, m, g, cp, rfl, rfl, rfl, hk, ha, hg, hgne, hmm, hinv, oz, ow, hbl⟩ := hrel
        clear of2 ow2 bl2
        have lz := oz.lt
        have lw := ow.lt
        have sz := hbl.size
        have hfl := filt_len ys ps k
        have hm20 : m ≤ 20 := by omega
        have Hm := hide hmm
        have Hinv := hide hinv
        clear hmm hinv hfl
        by_cases hk' : k < n
        · obtain ⟨b, off, rfl, hlt, hc⟩ := PacketAt.at H2.out (by have := Hn.out; omega)
          obtain ⟨s0, s1, s2, s3, s4, s5⟩ := hc k (by have := Hn.out; omega)
          obtain ⟨x, hx⟩ : ∃ x, ps.getD k default = x := ⟨_, rfl⟩
          rw [hx] at s0 s1 s2 s3 s4 s5
          replace s0 := (hbl.cell (p := ⟨b, off + k * 6, none⟩) hlt).trans s0
          replace s1 := (hbl.cell (p := ⟨b, off + k * 6 + 1, none⟩) hlt).trans s1
          replace s2 := (hbl.cell (p := ⟨b, off + k * 6 + 2, none⟩) hlt).trans s2
          replace s3 := (hbl.cell (p := ⟨b, off + k * 6 + 3, none⟩) hlt).trans s3
          replace s4 := (hbl.cell (p := ⟨b, off + k * 6 + 4, none⟩) hlt).trans s4
          replace s5 := (hbl.cell (p := ⟨b, off + k * 6 + 5, none⟩) hlt).trans s5
          have Hx := hide hx
          have hs := filt_succ ys ps k (by rw [Hn.out]; exact hk')
          rw [hx] at hs
          have Hs := hide hs
          have Hoz := hide oz
          have How := hide ow
          have Hbl := hide hbl
          have g2 : (k : Int) < (n : Int) := by omega
          clear hc hx hs oz ow hbl
          go_wp2_with fail
          refine rebase (fun wx => Row wx wr.heap.size #[.int .i64 x.a0, .int .i64 x.a1, .int .i64 x.a2, .int .i64 x.a3, .bool x.a4, .bool x.a5] ∧ Own wx 32 6 g m cp ((filt ys ps k).map VPacket.cells).flatten ∧ Own wx 3 1 gw q cw (ys.map (Value.int .i64)) ∧ Below w.heap.size w wx) ⟨Row.new _ _ _, Hoz.out.alloc _, How.out.alloc _, Hbl.out.alloc sz _⟩ ?_
          rintro wq ⟨⟨cX, fX, lX⟩, oz, ow, hbl⟩
          obtain ⟨bx, hbx⟩ : ∃ bx, wr.heap.size = bx := ⟨_, rfl⟩
          rw [hbx] at cX fX lX lz lw sz ⊢
          have Hoz := hide oz
          have How := hide ow
          have Hbl := hide hbl
          have cW := hide (fun j hj => cellI How.out Hq.out (k := j) hj)
          clear s0 s1 s2 s3 s4 s5 hbx oz ow hbl
          go_loopw [8] (fun at_ wx => ∃ a d : Nat, at_ = .int .i64 a ∧ a ≤ q ∧ (∀ j, j < a → ys.getD j 0 < x.a0) ∧ wx = wq.drewN d) (fun at_ _ => q - (intOf at_).toNat)
          case atStart => exact ⟨a, 0, rfl, ha, fun j hj => by have := Hinv.out j k hj (Nat.le_refl _) hk'; rw [Hx.out] at this; exact this, rfl⟩
          case round =>
            clear Hinv ha
            obtain ⟨a, d, rfl, ha, hlt2, rfl⟩ := hrel
            have Hlt := hide hlt2
            clear hlt2
            have hnext : Hid (∀ j i, j < a → k + 1 ≤ i → i < n → ys.getD j 0 < (ps.getD i default).a0) := fun j i hj hi hin => by
              have h1 := Hlt.out j hj
              have h2 := pks_lt HP.out i k (by omega) hin
              rw [Hx.out] at h2
              omega
            by_cases haq : a < q
            · have cw := cW.out a haq
              obtain ⟨y, hy⟩ : ∃ y, ys.getD a 0 = y := ⟨_, rfl⟩
              rw [hy] at cw
              have Hy := hide hy
              have g3 : (a : Int) < (q : Int) := by omega
              have e0 : decide ((a : Int) < (q : Int)) = true := decide_eq_true g3
              have e1 : decide (a < q) = true := decide_eq_true haq
              clear hy
              by_cases hyx : y < x.a0
              · have e2 : decide (y < x.a0) = true := decide_eq_true hyx
                go_wp2_with fail
                go_quiet (fail)
                clear e0 e1 e2
                go_wp2_with fail
                go_roundw
                case rel =>
                  refine ⟨a + 1, d + nq, by go_num, by omega, ?_, by first | rfl | simp⟩
                  intro j hj
                  rcases Nat.lt_succ_iff_lt_or_eq.1 hj with hj | rfl
                  · exact Hlt.out j hj
                  · rw [Hy.out]; exact hyx
                case measure => simp [intOf]; omega
              · have e2 : decide (y < x.a0) = false := decide_eq_false hyx
                go_wp2_with fail
                go_quiet (fail)
                clear e2
                by_cases hyx2 : y = x.a0
                · have e3 : (y == x.a0) = true := by simpa using hyx2
                  have hin := isIn_yes (want := ys) (x := x) (a := a) (by rw [Hq.out]; exact haq) (by rw [Hy.out]; exact hyx2)
                  have HIn := hide hin
                  have Hyx := hide hyx2
                  clear hin hyx2 hyx
                  go_wp2_with fail
                  go_quiet (fail)
                  clear e0 e1 e3
                  go_wp2_with (first | (at_builtin; refine wpList_append_1 rfl _ _ _ rfl elemQ rfl (Hoz.out.drewN _) #[.int .i64 x.a0, .int .i64 x.a1, .int .i64 x.a2, .int .i64 x.a3, .bool x.a4, .bool x.a5] rfl rfl rfl (by omega) ?_; intro g7 cp7 w7 oz7 hg7 hat7))
                  have o7 := hide (own_snocQ (x := x) rfl oz7)
                  have ow7 := hide ((How.out.drewN _).grown hg7 (Ne.symm hgne))
                  have hat7' : g7 = g ∨ wq.heap.size ≤ g7 := hat7
                  have sq := Hbl.out.size
                  have b7 := hide ((below_drewN' Hbl.out _).grown hg7 sq (by intro k hk; simp at hk; omega))
                  clear hg7 hat7 oz7 cX fX
                  go_roundw
                  case rel =>
                    have hs := Hs.out
                    rw [if_pos HIn.out] at hs
                    refine ⟨k + 1, a, m + 1, g7, cp7, rfl, rfl, by go_num, by omega, by omega, by omega, by omega, ?_, hnext.out, o7.out.conv (by rw [hs]), ow7.out, b7.out⟩
                    rw [hs, List.length_append, ← Hm.out]; rfl
                  case measure => simp [intOf]; omega
                · have e3 : (y == x.a0) = false := by simpa using hyx2
                  have hno : isIn ys x = false := isIn_no (a := a) Hlt.out (fun j hj hjl => by
                    rcases Nat.eq_or_lt_of_le hj with rfl | hj
                    · rw [Hy.out]; omega
                    · have := okA_lt HW.out j a hj (by rw [← Hq.out]; exact hjl)
                      rw [Hy.out] at this
                      omega)
                  have HNo := hide hno
                  clear hno hyx2 hyx
                  go_wp2_with fail
                  go_quiet (fail)
                  clear e0 e1 e3
                  go_wp2_with fail
                  go_roundw
                  case rel =>
                    have hs := Hs.out
                    rw [HNo.out, if_neg (by simp)] at hs
                    exact ⟨k + 1, a, m, g, cp, rfl, rfl, by go_num, by omega, by omega, hg, hgne, by rw [hs]; exact Hm.out, hnext.out, (Hoz.out.drewN _).conv (by rw [hs]), How.out.drewN _, below_drewN' Hbl.out _⟩
                  case measure => simp [intOf]; omega
            · have haq' : a = q := by omega
              have e0 : decide ((a : Int) < (q : Int)) = false := decide_eq_false (by omega)
              have e1 : decide (a < q) = false := decide_eq_false haq
              have hno : isIn ys x = false := isIn_no (a := a) Hlt.out (fun j hj hjl => by rw [Hq.out] at hjl; omega)
              have HNo := hide hno
              clear hno haq'
              go_wp2_with fail
              go_quiet (fail)
              go_wp2_with fail
              go_quiet (fail)
              clear e0 e1
              go_wp2_with fail
              go_roundw
              case rel =>
                have hs := Hs.out
                rw [HNo.out, if_neg (by simp)] at hs
                exact ⟨k + 1, a, m, g, cp, rfl, rfl, by go_num, by omega, by omega, hg, hgne, by rw [hs]; exact Hm.out, hnext.out, (Hoz.out.drewN _).conv (by rw [hs]), How.out.drewN _, below_drewN' Hbl.out _⟩
              case measure => simp [intOf]; omega
        · have hkn : k = n := by omega
          subst hkn
          have Hoz := hide oz
          have Hbl := hide hbl
          clear oz hbl ow
          go_wp2_with fail
          go_ret
          exact newPks_mk (by rw [E1.out, Hn.out]) Hm.out hg Hoz.out Hbl.out
    · have hv' : pksB ps = false := by simpa using hv
      rw [hv'] at K
      have e1 : find ns ps = [] := by unfold find findB; rw [HLB.out.1, hv']; rfl
      have E1 := hide e1
      have KK := hide K
      clear K e1 hv hv' ow
      go_wp2_with fail
      refine KK.out.mono ?_
      rintro e w2 ⟨rfl, hb⟩
      have of2 := hide (of1.below hb)
      have bl2 := hide (bl.trans (hb.mono bl.size))
      clear hb of1 bl
      go_wp2_with fail
      go_ret
      exact newPks_mk (xs := []) E1.out.symm rfl (Nat.le_refl _) of2.out bl2.out
end Go.Proofs.Ytibedadmogadhaa
