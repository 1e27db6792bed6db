/- The exact law on a step: a walk over the contracts. -/
import Derived.Test.YticelpaicenbkaaLS
import Derived.Test.YticelpaicenbkaaB2
namespace Go.Proofs.Yticelpaicenbkaa
open Go.ChangeShapes Go.WideShapes Go.ChangeAt Go.RowKit

set_option maxHeartbeats 2000000 in
theorem walk_fnExactLayeredStep {H : Type} {enc : TypeId × Value → H} (W : World) (base : Nat) (v : Value) (d : DataW H) (p : List MemPlace) (v1 : Value) (d1 : DataW H) (p1 : List MemPlace) (o : Value.okWide Try.prog W .any base 23 v) (h : DataW.Trod enc Try.prog W 0 (fun _ => true) true 23 v d p)
    (o1 : Value.okWide Try.prog W .any base 32 v1) (h1 : DataW.Trod enc Try.prog W 0 (fun _ => true) true 32 v1 d1 p1) :
    Calls Try.prog 7 #[v, v1] W (RetB true W) := by
  obtain ⟨a, b, rfl, _, _⟩ := open_layered W base v d p o h
  obtain ⟨wd, tm, ly, sz, ky, la, rfl⟩ := open_packet W base v1 d1 p1 o1 h1
  clear o h o1 h1
  obtain ⟨N, M, B, hN⟩ := stepV_some a b wd tm ly sz ky
  have HN := hide hN
  clear hN
  have hx1 : ¬ W.heap.size + 1 + 1 = W.heap.size := by omega
  have hx2 : ¬ W.heap.size = W.heap.size + 1 + 1 := by omega
  go_enter Try.func7, Try.ntmps7
  go_upto_region 1 with (fail)
  go_cut [5, 6] (fun p q wx => q = .bool B ∧ (∃ g2, W.heap.size + 2 ≤ g2 ∧ g2 < wx.heap.size ∧ p = .pointer (some ⟨g2, 0, none⟩) ∧ wx.cell? ⟨g2, 0, none⟩ = some (.int .i64 N) ∧ wx.cell? ⟨g2, 1, none⟩ = some (.int .i64 M)) ∧ (wx.cell? ⟨W.heap.size, 0, none⟩ = some (.int .i64 a) ∧ wx.cell? ⟨W.heap.size, 1, none⟩ = some (.int .i64 b) ∧ wx.cell? ⟨W.heap.size + 1, 0, none⟩ = some (.int .i64 wd) ∧ wx.cell? ⟨W.heap.size + 1, 1, none⟩ = some (.int .i64 tm) ∧ wx.cell? ⟨W.heap.size + 1, 2, none⟩ = some (.int .i64 ly) ∧ wx.cell? ⟨W.heap.size + 1, 3, none⟩ = some (.int .i64 sz) ∧ wx.cell? ⟨W.heap.size + 1, 4, none⟩ = some (.bool ky) ∧ wx.cell? ⟨W.heap.size + 1, 5, none⟩ = some (.bool la)) ∧ Below W.heap.size W wx)
  case first =>
    go_region_held3 (fun w' => w'.cell? ⟨W.heap.size, 0, none⟩ = some (.int .i64 a) ∧ w'.cell? ⟨W.heap.size, 1, none⟩ = some (.int .i64 b) ∧ w'.cell? ⟨W.heap.size + 1, 0, none⟩ = some (.int .i64 wd) ∧ w'.cell? ⟨W.heap.size + 1, 1, none⟩ = some (.int .i64 tm) ∧ w'.cell? ⟨W.heap.size + 1, 2, none⟩ = some (.int .i64 ly) ∧ w'.cell? ⟨W.heap.size + 1, 3, none⟩ = some (.int .i64 sz) ∧ w'.cell? ⟨W.heap.size + 1, 4, none⟩ = some (.bool ky) ∧ w'.cell? ⟨W.heap.size + 1, 5, none⟩ = some (.bool la)) (go_keep) (first | (go_at_call 16; refine (toLayered _ _ _).mono ?_; rintro e w1 ⟨rfl, hb⟩; obtain ⟨hc, hf⟩ := bkeep hb (W.heap.size) (by first | omega | (simp; done) | (simp; omega)); obtain ⟨hc, hf⟩ := bkeep hb (W.heap.size + 1) (by first | omega | (simp; done) | (simp; omega)); have hz : W.heap.size + 2 ≤ w1.heap.size := Nat.le_trans (by first | omega | (simp; done) | (simp; omega)) hb.size; have hn1 : ¬ w1.heap.size = W.heap.size := (by omega); have hn2 : ¬ W.heap.size = w1.heap.size := (by omega); have hn3 : ¬ w1.heap.size = W.heap.size + 1 := (by omega); have hn4 : ¬ W.heap.size + 1 = w1.heap.size := (by omega); (try (have hQ := bk_old hb hA; obtain ⟨hA, hcA, hfA⟩ := hQ)); (try (have hQ := bk_new hb; obtain ⟨hA, hcA, hfA⟩ := hQ)); (try (have hQ := bk_newd hb; obtain ⟨hA, hcA, hfA⟩ := hQ)); (try simp only [World.size_alloc] at hA); (try simp only [World.size_alloc] at hcA hfA)) | (go_at_call 23; refine (toPacket _ _ _ _ _ _ _).mono ?_; rintro e w1 ⟨rfl, hb⟩; obtain ⟨hc, hf⟩ := bkeep hb (W.heap.size) (by first | omega | (simp; done) | (simp; omega)); obtain ⟨hc, hf⟩ := bkeep hb (W.heap.size + 1) (by first | omega | (simp; done) | (simp; omega)); have hz : W.heap.size + 2 ≤ w1.heap.size := Nat.le_trans (by first | omega | (simp; done) | (simp; omega)) hb.size; have hn1 : ¬ w1.heap.size = W.heap.size := (by omega); have hn2 : ¬ W.heap.size = w1.heap.size := (by omega); have hn3 : ¬ w1.heap.size = W.heap.size + 1 := (by omega); have hn4 : ¬ W.heap.size + 1 = w1.heap.size := (by omega); (try (have hQ := bk_old hb hA; obtain ⟨hA, hcA, hfA⟩ := hQ)); (try (have hQ := bk_new hb; obtain ⟨hA, hcA, hfA⟩ := hQ)); (try (have hQ := bk_newd hb; obtain ⟨hA, hcA, hfA⟩ := hQ)); (try simp only [World.size_alloc] at hA); (try simp only [World.size_alloc] at hcA hfA)) | (go_at_call 22; refine (specStep_any _ _ _ _ _ _ _ _ N M B _ HN.out).mono ?_; rintro e w1 ⟨rfl, hb⟩; obtain ⟨hc, hf⟩ := bkeep hb (W.heap.size) (by first | omega | (simp; done) | (simp; omega)); obtain ⟨hc, hf⟩ := bkeep hb (W.heap.size + 1) (by first | omega | (simp; done) | (simp; omega)); have hz : W.heap.size + 2 ≤ w1.heap.size := Nat.le_trans (by first | omega | (simp; done) | (simp; omega)) hb.size; have hn1 : ¬ w1.heap.size = W.heap.size := (by omega); have hn2 : ¬ W.heap.size = w1.heap.size := (by omega); have hn3 : ¬ w1.heap.size = W.heap.size + 1 := (by omega); have hn4 : ¬ W.heap.size + 1 = w1.heap.size := (by omega); (try (have hQ := bk_old hb hA; obtain ⟨hA, hcA, hfA⟩ := hQ)); (try (have hQ := bk_new hb; obtain ⟨hA, hcA, hfA⟩ := hQ)); (try (have hQ := bk_newd hb; obtain ⟨hA, hcA, hfA⟩ := hQ)); (try simp only [World.size_alloc] at hA); (try simp only [World.size_alloc] at hcA hfA)))
    all_goals
      go_wp2_with (fail)
      go_meet
      refine ⟨rfl, ⟨_, ?_, ?_, rfl, ?_, ?_⟩, ?_, ?_⟩
      · first | omega | (simp; done) | (simp; omega)
      · first | omega | (simp; done) | (simp; omega)
      · simp [*, go_sem]
      · simp [*, go_sem]
      · (repeat' apply And.intro) <;> simp [*, go_sem]
      · (repeat' (first | (with_reducible exact Below.refl _ _) | (with_reducible assumption) | (with_reducible refine Below.alloc ?_ ?_ _) | (with_reducible refine Below.setCell ?_ ?_ _) | (with_reducible refine Below.drew ?_) | (with_reducible refine below_step (by assumption) ?_ ?_) | (with_reducible refine below_gstep (by assumption) ?_ ?_ ?_) | omega | (simp; done) | (simp; omega)))
  case rest =>
    obtain ⟨rfl, ⟨g, hg1, hg2, rfl, d0, d1⟩, ⟨s1, s2, s3, s4, s5, s6, s7, s8⟩, hbel⟩ := hcut
    have hx3 : ¬ g = W.heap.size := by omega
    have hx4 : ¬ W.heap.size = g := by omega
    have hx5 : ¬ g = W.heap.size + 1 := by omega
    have hx6 : ¬ W.heap.size + 1 = g := by omega
    have hx7 : ¬ wc.heap.size = W.heap.size := by omega
    have hx8 : ¬ W.heap.size = wc.heap.size := by omega
    have hx9 : ¬ wc.heap.size = W.heap.size + 1 := by omega
    have hx10 : ¬ W.heap.size + 1 = wc.heap.size := by omega
    have hx11 : ¬ wc.heap.size = g := by omega
    have hx12 : ¬ g = wc.heap.size := by omega
    go_upto_region 2 with (fail)
    go_cut [7, 8] (fun p q wx => q = .bool B ∧ (∃ g2, W.heap.size + 2 ≤ g2 ∧ g2 < wx.heap.size ∧ p = .pointer (some ⟨g2, 0, none⟩) ∧ wx.cell? ⟨g2, 0, none⟩ = some (.int .i64 N) ∧ wx.cell? ⟨g2, 1, none⟩ = some (.int .i64 M)) ∧ (wx.cell? ⟨W.heap.size, 0, none⟩ = some (.int .i64 a) ∧ wx.cell? ⟨W.heap.size, 1, none⟩ = some (.int .i64 b) ∧ wx.cell? ⟨W.heap.size + 1, 0, none⟩ = some (.int .i64 wd) ∧ wx.cell? ⟨W.heap.size + 1, 1, none⟩ = some (.int .i64 tm) ∧ wx.cell? ⟨W.heap.size + 1, 2, none⟩ = some (.int .i64 ly) ∧ wx.cell? ⟨W.heap.size + 1, 3, none⟩ = some (.int .i64 sz) ∧ wx.cell? ⟨W.heap.size + 1, 4, none⟩ = some (.bool ky) ∧ wx.cell? ⟨W.heap.size + 1, 5, none⟩ = some (.bool la) ∧ wx.cell? ⟨g, 0, none⟩ = some (.int .i64 N) ∧ wx.cell? ⟨g, 1, none⟩ = some (.int .i64 M)) ∧ Below W.heap.size W wx)
    case first =>
      go_region_held3 (fun w' => w'.cell? ⟨W.heap.size, 0, none⟩ = some (.int .i64 a) ∧ w'.cell? ⟨W.heap.size, 1, none⟩ = some (.int .i64 b) ∧ w'.cell? ⟨W.heap.size + 1, 0, none⟩ = some (.int .i64 wd) ∧ w'.cell? ⟨W.heap.size + 1, 1, none⟩ = some (.int .i64 tm) ∧ w'.cell? ⟨W.heap.size + 1, 2, none⟩ = some (.int .i64 ly) ∧ w'.cell? ⟨W.heap.size + 1, 3, none⟩ = some (.int .i64 sz) ∧ w'.cell? ⟨W.heap.size + 1, 4, none⟩ = some (.bool ky) ∧ w'.cell? ⟨W.heap.size + 1, 5, none⟩ = some (.bool la) ∧ w'.cell? ⟨g, 0, none⟩ = some (.int .i64 N) ∧ w'.cell? ⟨g, 1, none⟩ = some (.int .i64 M)) (go_keep) (first | (go_at_call 16; refine (toLayered _ _ _).mono ?_; rintro e w1 ⟨rfl, hb⟩; obtain ⟨hc, hf⟩ := bkeep hb (W.heap.size) (by first | omega | (simp; done) | (simp; omega)); obtain ⟨hc, hf⟩ := bkeep hb (W.heap.size + 1) (by first | omega | (simp; done) | (simp; omega)); have hz : W.heap.size + 2 ≤ w1.heap.size := Nat.le_trans (by first | omega | (simp; done) | (simp; omega)) hb.size; have hn1 : ¬ w1.heap.size = W.heap.size := (by omega); have hn2 : ¬ W.heap.size = w1.heap.size := (by omega); have hn3 : ¬ w1.heap.size = W.heap.size + 1 := (by omega); have hn4 : ¬ W.heap.size + 1 = w1.heap.size := (by omega); (try (have hQ := bk_old hb hA; obtain ⟨hA, hcA, hfA⟩ := hQ)); (try (have hQ := bk_new hb; obtain ⟨hA, hcA, hfA⟩ := hQ)); (try (have hQ := bk_newd hb; obtain ⟨hA, hcA, hfA⟩ := hQ)); (try simp only [World.size_alloc] at hA); (try simp only [World.size_alloc] at hcA hfA); obtain ⟨hcg, hfg⟩ := bkeep hb g (by first | omega | (simp; done) | (simp; omega)); have hgz : g < w1.heap.size := Nat.lt_of_lt_of_le (by first | omega | (simp; done) | (simp; omega)) hb.size; have hn5 : ¬ w1.heap.size = g := (by omega); have hn6 : ¬ g = w1.heap.size := (by omega)) | (go_at_call 23; refine (toPacket _ _ _ _ _ _ _).mono ?_; rintro e w1 ⟨rfl, hb⟩; obtain ⟨hc, hf⟩ := bkeep hb (W.heap.size) (by first | omega | (simp; done) | (simp; omega)); obtain ⟨hc, hf⟩ := bkeep hb (W.heap.size + 1) (by first | omega | (simp; done) | (simp; omega)); have hz : W.heap.size + 2 ≤ w1.heap.size := Nat.le_trans (by first | omega | (simp; done) | (simp; omega)) hb.size; have hn1 : ¬ w1.heap.size = W.heap.size := (by omega); have hn2 : ¬ W.heap.size = w1.heap.size := (by omega); have hn3 : ¬ w1.heap.size = W.heap.size + 1 := (by omega); have hn4 : ¬ W.heap.size + 1 = w1.heap.size := (by omega); (try (have hQ := bk_old hb hA; obtain ⟨hA, hcA, hfA⟩ := hQ)); (try (have hQ := bk_new hb; obtain ⟨hA, hcA, hfA⟩ := hQ)); (try (have hQ := bk_newd hb; obtain ⟨hA, hcA, hfA⟩ := hQ)); (try simp only [World.size_alloc] at hA); (try simp only [World.size_alloc] at hcA hfA); obtain ⟨hcg, hfg⟩ := bkeep hb g (by first | omega | (simp; done) | (simp; omega)); have hgz : g < w1.heap.size := Nat.lt_of_lt_of_le (by first | omega | (simp; done) | (simp; omega)) hb.size; have hn5 : ¬ w1.heap.size = g := (by omega); have hn6 : ¬ g = w1.heap.size := (by omega)) | (go_at_call 24; refine (implStep_any _ _ _ _ _ _ _ _ N M B _ HN.out).mono ?_; rintro e w1 ⟨rfl, hb⟩; obtain ⟨hc, hf⟩ := bkeep hb (W.heap.size) (by first | omega | (simp; done) | (simp; omega)); obtain ⟨hc, hf⟩ := bkeep hb (W.heap.size + 1) (by first | omega | (simp; done) | (simp; omega)); have hz : W.heap.size + 2 ≤ w1.heap.size := Nat.le_trans (by first | omega | (simp; done) | (simp; omega)) hb.size; have hn1 : ¬ w1.heap.size = W.heap.size := (by omega); have hn2 : ¬ W.heap.size = w1.heap.size := (by omega); have hn3 : ¬ w1.heap.size = W.heap.size + 1 := (by omega); have hn4 : ¬ W.heap.size + 1 = w1.heap.size := (by omega); (try (have hQ := bk_old hb hA; obtain ⟨hA, hcA, hfA⟩ := hQ)); (try (have hQ := bk_new hb; obtain ⟨hA, hcA, hfA⟩ := hQ)); (try (have hQ := bk_newd hb; obtain ⟨hA, hcA, hfA⟩ := hQ)); (try simp only [World.size_alloc] at hA); (try simp only [World.size_alloc] at hcA hfA); obtain ⟨hcg, hfg⟩ := bkeep hb g (by first | omega | (simp; done) | (simp; omega)); have hgz : g < w1.heap.size := Nat.lt_of_lt_of_le (by first | omega | (simp; done) | (simp; omega)) hb.size; have hn5 : ¬ w1.heap.size = g := (by omega); have hn6 : ¬ g = w1.heap.size := (by omega)))
      all_goals
        go_wp2_with (fail)
        go_meet
        refine ⟨rfl, ⟨_, ?_, ?_, rfl, ?_, ?_⟩, ?_, ?_⟩
        · first | omega | (simp; done) | (simp; omega)
        · first | omega | (simp; done) | (simp; omega)
        · simp [*, go_sem]
        · simp [*, go_sem]
        · (repeat' apply And.intro) <;> simp [*, go_sem]
        · (repeat' (first | (with_reducible exact Below.refl _ _) | (with_reducible assumption) | (with_reducible refine Below.alloc ?_ ?_ _) | (with_reducible refine Below.setCell ?_ ?_ _) | (with_reducible refine Below.drew ?_) | (with_reducible refine below_step (by assumption) ?_ ?_) | (with_reducible refine below_gstep (by assumption) ?_ ?_ ?_) | omega | (simp; done) | (simp; omega)))
    case rest =>
      obtain ⟨rfl, ⟨g2, hg3, hg4, rfl, e0, e1⟩, ⟨t1, t2, t3, t4, t5, t6, t7, t8, t9, t10⟩, hbel2⟩ := hcut
      clear d0 d1 s1 s2 s3 s4 s5 s6 s7 s8 t1 t2 t3 t4 t5 t6 t7 t8
      go_wp2_with (fail)
      refine (eqLayered_same _ _ _).mono ?_
      rintro e w1 ⟨rfl, hb⟩
      go_wp2_with (fail)
      go_ret
      exact ⟨rfl, below_step hb hbel2 hbel2.size⟩
end Go.Proofs.Yticelpaicenbkaa
