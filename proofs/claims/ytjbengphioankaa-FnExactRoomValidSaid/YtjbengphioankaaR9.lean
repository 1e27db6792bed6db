/- Walk of FnExactRoomValid. -/
import Derived.Test.YtjbengphioankaaR8
namespace Go.Proofs.Ytjbengphioankaa
open Go.ChangeShapes Go.WideShapes Go.ChangeAt Go.RowKit Go.Deep

set_option maxRecDepth 100000 in
set_option maxHeartbeats 4000000 in
theorem walk_fnExactRoomValid {H : Type} {enc : TypeId × Value → H} (W : World) (base : Nat) (v : Value) (d : DataW H) (p : List MemPlace) (o : Value.okWide Try.prog W .any base 43 v) (h : DataW.Trod enc Try.prog W 0 (fun _ => true) true 43 v d p) :
    Calls Try.prog 7 #[v] W (RetB true W) := by
  obtain ⟨A, c, ms, rfl, hn, hm, hA⟩ := openMemberS W base v d p o h
  clear o h
  obtain ⟨F, hF⟩ : ∃ F, roomB ms = F := ⟨_, rfl⟩
  have KZ := szMemberS_any A c ms 1048576 W hA (by omega) (by omega) (by omega)
  have KT := fun w h (hl : ms.length + totM ms ≤ 1048576) => toMemberS_any A c ms w h hl
  have KS := fun g w h (hl : ms.length + totM ms ≤ 1048576) => specRoom (some ⟨g, 0, none⟩) ms.length ms w h hl
  have KI := fun g w h (hl : ms.length + totM ms ≤ 1048576) => implRoom (some ⟨g, 0, none⟩) ms.length ms w h hl
  have KE := fun g g2 w h1 h2 (hl : ms.length + totM ms ≤ 1048576) => eqMemberS_same (some ⟨g, 0, none⟩) (some ⟨g2, 0, none⟩) ms.length ms.length ms w h1 h2 hl
  unfold CopiedMem at KT
  unfold Sized at KZ
  rw [hF] at KS KI
  obtain ⟨T, hT⟩ : ∃ T, ms.length + totM ms = T := ⟨_, rfl⟩
  rw [hT] at KZ KT KS KI KE
  obtain ⟨n, hnn⟩ : ∃ n, ms.length = n := ⟨_, rfl⟩
  rw [hnn] at KZ KT KS KI KE hn ⊢
  have HA := hide hA
  have e0 : (F != F) = false := by cases F <;> rfl
  have HKZ := hide KZ
  have HKT := hide KT
  have HKS := hide KS
  have HKI := hide KI
  have HKE := hide KE
  clear hA hnn hF hT KZ KT KS KI KE
  go_enter Try.func7, Try.ntmps7
  go_wp2_with fail
  refine HKZ.out.mono ?_
  rintro en w1 ⟨⟨r, rfl, hr⟩, hb⟩
  have Bl := hide hb
  clear hb
  rcases hr with ⟨rfl, _⟩ | ⟨hr, hle⟩
  · go_wp2_with fail
    go_ret
    exact ⟨rfl, Bl.out⟩
  have l0 : T ≤ 1048576 := by omega
  have hr0 : ¬ r < 0 := by omega
  clear hr hle
  go_wp2_with fail
  refine (HKT.out _ (HA.out.below Bl.out) l0).mono ?_
  rintro en w2 ⟨g2, rfl, hg2, m2, hb⟩
  have M2 := hide m2
  have Bl := hide (Bl.out.trans (hb.mono Bl.out.size))
  clear hb m2
  go_wp2_with fail
  refine (HKS.out _ _ M2.out l0).mono ?_
  rintro en w3 ⟨rfl, hb⟩
  have Bl := hide (Bl.out.trans (hb.mono Bl.out.size))
  clear hb M2
  go_wp2_with fail
  refine (HKT.out _ (HA.out.below Bl.out) l0).mono ?_
  rintro en w4 ⟨g4, rfl, hg4, m4, hb⟩
  have M4 := hide m4
  have Bl := hide (Bl.out.trans (hb.mono Bl.out.size))
  clear hb m4
  go_wp2_with fail
  refine (HKI.out _ _ M4.out l0).mono ?_
  rintro en w5 ⟨rfl, hb⟩
  have M5 := hide (M4.out.below hb)
  have Bl := hide (Bl.out.trans (hb.mono Bl.out.size))
  clear hb M4
  go_wp2_with fail
  refine (HKT.out _ (HA.out.below Bl.out) l0).mono ?_
  rintro en w6 ⟨g6, rfl, hg6, m6, hb⟩
  have M6 := hide m6
  have M5 := hide (M5.out.below hb)
  have Bl := hide (Bl.out.trans (hb.mono Bl.out.size))
  clear hb m6
  go_wp2_with fail
  refine (HKE.out _ _ _ M5.out M6.out l0).mono ?_
  rintro en w7 ⟨rfl, hb⟩
  have Bl := hide (Bl.out.trans (hb.mono Bl.out.size))
  clear hb
  go_wp2_with fail
  go_ret
  exact ⟨rfl, Bl.out⟩
end Go.Proofs.Ytjbengphioankaa
