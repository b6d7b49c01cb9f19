import Derived.Test.YtehfcnndjhjkoaaKFnExactIndex1
namespace Go.Proofs.Ytehfcnndjhjkoaa.PA
open Go.RowKit Go.Proofs.YtehfcnndjhjkoaaW.PrintWords Go.Proofs.YtehfcnndjhjkoaaW.PrintLast Go.Proofs.YtehfcnndjhjkoaaW.PrintMore
attribute [local go_sem] max2_int min2_int max_two min_two max_three min_three max_four min_four
set_option linter.unusedSimpArgs false
set_option linter.unusedVariables false
/-! ### spec_l5Picks: function 115 -/
mutual
def spec_l5Picks.l0 : Nat → List (S66) → List (List Int) → Int → Bool → List Int → List Int → Option ((List (List Int)) × Int)
 | 0, _, _, _, _, _, _ => none
 | k + 1, x1, x6, x7, x102000, x102001, x102002 => if x7 < (x1.length : Int) then (if 0 ≤ x7 then ((some (([] : List Int) : List Int)).bind fun y107 => (if (rd_T66 x1 x7).f0 = true then (if (rd_T66 x1 x7).f1.f0 = true then (spec_l5Picks.j1 k x1 x6 x7 y107 true x102000 x102001 x102002) else (if (((rd_T66 x1 x7).f1.f1).length : Int) > 0 then (spec_l5Picks.j1 k x1 x6 x7 y107 true x102000 x102001 x102002) else (spec_l5Picks.j1 k x1 x6 x7 y107 (decide ((((rd_T66 x1 x7).f1.f2).length : Int) > 0)) x102000 x102001 x102002))) else ((spec_ArrayOk.f k ((rd_T66 x1 x7).f1.f0) ((rd_T66 x1 x7).f1.f1) ((rd_T66 x1 x7).f1.f2)).bind fun t117 => (if t117 = true then (spec_l5Picks.j3 k x1 x6 x7 y107 ((rd_T66 x1 x7).f1.f0) x102000 x102001 x102002 ((rd_T66 x1 x7).f0) ((rd_T66 x1 x7).f1.f0) ((rd_T66 x1 x7).f1.f1) ((rd_T66 x1 x7).f1.f2)) else (spec_l5Picks.j3 k x1 x6 x7 y107 true x102000 x102001 x102002 ((rd_T66 x1 x7).f0) ((rd_T66 x1 x7).f1.f0) ((rd_T66 x1 x7).f1.f1) ((rd_T66 x1 x7).f1.f2)))))) else (none)) else (some (x6, 0))
def spec_l5Picks.j1 : Nat → List (S66) → List (List Int) → Int → List Int → Bool → Bool → List Int → List Int → Option ((List (List Int)) × Int)
 | 0, _, _, _, _, _, _, _, _ => none
 | k + 1, x1, x6, x7, x9, x49, x102000, x102001, x102002 => if x49 = true then (some (x6, 3)) else (spec_l5Picks.l1 k x1 x6 x7 x9 0 x102000 x102001 x102002)
def spec_l5Picks.l1 : Nat → List (S66) → List (List Int) → Int → List Int → Int → Bool → List Int → List Int → Option ((List (List Int)) × Int)
 | 0, _, _, _, _, _, _, _, _ => none
 | k + 1, x1, x6, x7, x9, x10, x102000, x102001, x102002 => if 0 ≤ x7 then (if x7 < (x102001.length : Int) then (if x10 < (rd x102001 x7) then (if x9.length < 17592186044416 then (spec_l5Picks.l1 k x1 x6 x7 (x9 ++ [x10]) (wrap64 (x10 + 1)) x102000 x102001 x102002) else (none)) else (if x6.length < 5864062014805 then (spec_l5Picks.l0 k x1 (x6 ++ [x9]) (wrap64 (x7 + 1)) x102000 x102001 x102002) else (none))) else (none)) else (none)
def spec_l5Picks.j3 : Nat → List (S66) → List (List Int) → Int → List Int → Bool → Bool → List Int → List Int → Bool → Bool → List Int → List Int → Option ((List (List Int)) × Int)
 | 0, _, _, _, _, _, _, _, _, _, _, _, _ => none
 | k + 1, x1, x6, x7, x9, x72, x102000, x102001, x102002, x107000, x107001, x107002, x107003 => if x72 = true then (some (x6, 3)) else (spec_l5Picks.l2 k x1 x6 x7 x9 0 x102000 x102001 x102002 x107000 x107001 x107002 x107003)
def spec_l5Picks.l2 : Nat → List (S66) → List (List Int) → Int → List Int → Int → Bool → List Int → List Int → Bool → Bool → List Int → List Int → Option ((List (List Int)) × Int)
 | 0, _, _, _, _, _, _, _, _, _, _, _, _ => none
 | k + 1, x1, x6, x7, x9, x11, x102000, x102001, x102002, x107000, x107001, x107002, x107003 => if x11 < (x107003.length : Int) then (if 0 ≤ x11 then (if (rd x107003 x11) < 1 then (some (x6, 6)) else (if 0 ≤ x7 then (if x7 < (x102001.length : Int) then (if (rd x107003 x11) > (rd x102001 x7) then (some (x6, 6)) else (if x9.length < 17592186044416 then (spec_l5Picks.l2 k x1 x6 x7 (x9 ++ [wrap64 ((rd x107003 x11) - 1)]) (wrap64 (x11 + 1)) x102000 x102001 x102002 x107000 x107001 x107002 x107003) else (none))) else (none)) else (none))) else (none)) else (if x6.length < 5864062014805 then (spec_l5Picks.l0 k x1 (x6 ++ [x9]) (wrap64 (x7 + 1)) x102000 x102001 x102002) else (none))
end
def spec_l5Picks.f (k : Nat) (a0_0 : Bool) (l0_1 : List Int) (l0_2 : List Int) (l1 : List (S66)) : Option ((List (List Int)) × Int) := (some (([] : List (List Int)) : List (List Int))).bind fun y102 => (if (l1.length : Int) = (l0_1.length : Int) then (spec_l5Picks.l0 k l1 y102 0 a0_0 l0_1 l0_2) else (some (y102, 4)))
theorem spec_l5Picks.mono_l : ∀ k, (∀ y0 y1 y2 y3 y4 y5, LeO (spec_l5Picks.l0 k y0 y1 y2 y3 y4 y5) (spec_l5Picks.l0 (k + 1) y0 y1 y2 y3 y4 y5)) ∧ (∀ y0 y1 y2 y3 y4 y5 y6 y7, LeO (spec_l5Picks.j1 k y0 y1 y2 y3 y4 y5 y6 y7) (spec_l5Picks.j1 (k + 1) y0 y1 y2 y3 y4 y5 y6 y7)) ∧ (∀ y0 y1 y2 y3 y4 y5 y6 y7, LeO (spec_l5Picks.l1 k y0 y1 y2 y3 y4 y5 y6 y7) (spec_l5Picks.l1 (k + 1) y0 y1 y2 y3 y4 y5 y6 y7)) ∧ (∀ y0 y1 y2 y3 y4 y5 y6 y7 y8 y9 y10 y11, LeO (spec_l5Picks.j3 k y0 y1 y2 y3 y4 y5 y6 y7 y8 y9 y10 y11) (spec_l5Picks.j3 (k + 1) y0 y1 y2 y3 y4 y5 y6 y7 y8 y9 y10 y11)) ∧ (∀ y0 y1 y2 y3 y4 y5 y6 y7 y8 y9 y10 y11, LeO (spec_l5Picks.l2 k y0 y1 y2 y3 y4 y5 y6 y7 y8 y9 y10 y11) (spec_l5Picks.l2 (k + 1) y0 y1 y2 y3 y4 y5 y6 y7 y8 y9 y10 y11))
 | 0 => ⟨fun _ _ _ _ _ _ r h => by simp [spec_l5Picks.l0] at h, fun _ _ _ _ _ _ _ _ r h => by simp [spec_l5Picks.j1] at h, fun _ _ _ _ _ _ _ _ r h => by simp [spec_l5Picks.l1] at h, fun _ _ _ _ _ _ _ _ _ _ _ _ r h => by simp [spec_l5Picks.j3] at h, fun _ _ _ _ _ _ _ _ _ _ _ _ r h => by simp [spec_l5Picks.l2] at h⟩
 | k + 1 => by
  obtain ⟨ih0, ih1, ih2, ih3, ih4⟩ := spec_l5Picks.mono_l k
  refine ⟨?_, ?_, ?_, ?_, ?_⟩
  case' refine_1 => (intro y0 y1 y2 y3 y4 y5; unfold spec_l5Picks.l0)
  case' refine_2 => (intro y0 y1 y2 y3 y4 y5 y6 y7; unfold spec_l5Picks.j1)
  case' refine_3 => (intro y0 y1 y2 y3 y4 y5 y6 y7; unfold spec_l5Picks.l1)
  case' refine_4 => (intro y0 y1 y2 y3 y4 y5 y6 y7 y8 y9 y10 y11; unfold spec_l5Picks.j3)
  case' refine_5 => (intro y0 y1 y2 y3 y4 y5 y6 y7 y8 y9 y10 y11; unfold spec_l5Picks.l2)
  all_goals
   repeat' first
   | (with_reducible exact ih0 _ _ _ _ _ _)
   | (with_reducible exact ih1 _ _ _ _ _ _ _ _)
   | (with_reducible exact ih2 _ _ _ _ _ _ _ _)
   | (with_reducible exact ih3 _ _ _ _ _ _ _ _ _ _ _ _)
   | (with_reducible exact ih4 _ _ _ _ _ _ _ _ _ _ _ _)
   | (with_reducible exact spec_ArrayOk.mono _ _ _ _)
   | (with_reducible exact LeO.refl _)
   | (with_reducible exact LeO.none _)
   | (with_reducible refine LeO.ite ?_ ?_)
   | (with_reducible refine LeO.bind ?_ (fun _ => ?_))
   | exact ih0 _ _ _ _ _ _
   | exact ih1 _ _ _ _ _ _ _ _
   | exact ih2 _ _ _ _ _ _ _ _
   | exact ih3 _ _ _ _ _ _ _ _ _ _ _ _
   | exact ih4 _ _ _ _ _ _ _ _ _ _ _ _
   | exact spec_ArrayOk.mono _ _ _ _
   | exact LeO.none _
   | refine LeO.ite ?_ ?_
   | refine LeO.bind ?_ (fun _ => ?_)
theorem spec_l5Picks.mono : ∀ a0 a1 a2 a3 k, LeO (spec_l5Picks.f k a0 a1 a2 a3) (spec_l5Picks.f (k + 1) a0 a1 a2 a3) := by
 intro a0 a1 a2 a3 k
 obtain ⟨ih0, ih1, ih2, ih3, ih4⟩ := spec_l5Picks.mono_l k
 unfold spec_l5Picks.f
 repeat' first
  | (with_reducible exact ih0 _ _ _ _ _ _)
  | (with_reducible exact ih1 _ _ _ _ _ _ _ _)
  | (with_reducible exact ih2 _ _ _ _ _ _ _ _)
  | (with_reducible exact ih3 _ _ _ _ _ _ _ _ _ _ _ _)
  | (with_reducible exact ih4 _ _ _ _ _ _ _ _ _ _ _ _)
  | (with_reducible exact spec_ArrayOk.mono _ _ _ _)
  | (with_reducible exact LeO.refl _)
  | (with_reducible exact LeO.none _)
  | (with_reducible refine LeO.ite ?_ ?_)
  | (with_reducible refine LeO.bind ?_ (fun _ => ?_))
  | exact ih0 _ _ _ _ _ _
  | exact ih1 _ _ _ _ _ _ _ _
  | exact ih2 _ _ _ _ _ _ _ _
  | exact ih3 _ _ _ _ _ _ _ _ _ _ _ _
  | exact ih4 _ _ _ _ _ _ _ _ _ _ _ _
  | exact spec_ArrayOk.mono _ _ _ _
  | exact LeO.none _
  | refine LeO.ite ?_ ?_
  | refine LeO.bind ?_ (fun _ => ?_)
set_option maxHeartbeats 8000000 in
set_option maxRecDepth 100000 in
theorem spec_l5Picks.calls (k : Nat) (a0_0 : Bool) (A0_1 : Option Addr) (c0_1 : Nat) (l0_1 : List Int) (A0_2 : Option Addr) (c0_2 : Nat) (l0_2 : List Int) (A1 : Option Addr) (c1 : Nat) (l1 : List (S66)) (r1 : List (List Int)) (r2 : Int) (w : World) (hr0_1 : Kd.C (Kd.int .i64) w A0_1 l0_1.length l0_1) (hc0_1 : l0_1.length ≤ c0_1) (hr0_2 : Kd.C (Kd.int .i64) w A0_2 l0_2.length l0_2) (hc0_2 : l0_2.length ≤ c0_2) (hr1 : Kd.C k66 w A1 l1.length l1) (hc1 : l1.length ≤ c1) (h : spec_l5Picks.f k a0_0 l0_1 l0_2 l1 = some (r1, r2)) :
 Calls Try.prog 115 #[.agg #[.bool a0_0, .slice A0_1 l0_1.length c0_1, .slice A0_2 l0_2.length c0_2], .slice A1 l1.length c1] w fun e w' => ∃ v0_ : Value, e = .returned (.tuple #[v0_, .int .i64 r2]) ∧ Kd.S (Kd.slice 3 (Kd.int .i64)) 22 w' w.heap.size (fun _ => True) v0_ r1 ∧ Below w.heap.size w w' := by
 have hu28 := Try.underlying28
 have hu66 := Try.underlying66
 have HR0_1 := Aside0.mk hr0_1
 have HC0_1 := Aside0.mk hc0_1
 clear hr0_1 hc0_1
 have HR0_2 := Aside0.mk hr0_2
 have HC0_2 := Aside0.mk hc0_2
 clear hr0_2 hc0_2
 have HR1 := Aside0.mk hr1
 have HC1 := Aside0.mk hc1
 clear hr1 hc1
 have HB := Aside0.mk (Below.refl w.heap.size w)
 have H : ((some (([] : List (List Int)) : List (List Int))).bind fun y102 => (if (l1.length : Int) = (l0_1.length : Int) then (spec_l5Picks.l0 k l1 y102 0 a0_0 l0_1 l0_2) else (some (y102, 4)))) = some (r1, r2) := h
 clear h
 obtain ⟨y102, hy102⟩ : ∃ y_ : List (List Int), y_ = (([] : List (List Int))) := ⟨_, rfl⟩
 replace H : (if (l1.length : Int) = (l0_1.length : Int) then (spec_l5Picks.l0 k l1 y102 0 a0_0 l0_1 l0_2) else (some (y102, 4))) = some (r1, r2) := by first | (rw [hy102]; with_reducible exact H) | (have H2_ := (Option.bind_some _ _).symm.trans H; rw [hy102]; with_reducible exact H2_) | (have H2_ := (Option.bind_some _ _).symm.trans H; with_reducible exact H2_) | with_reducible exact H | (rw [hy102]; exact H) | exact H
 have Ny102 := Aside0.mk hy102
 clear hy102
 by_cases c3 : (l1.length : Int) = (l0_1.length : Int)
 ·rw [if_pos c3] at H
  have c3b0 : ((l1.length : Int) == (l0_1.length : Int)) = true := beq_iff_eq.mpr c3
  have c3b1 : ((l1.length : Int) != (l0_1.length : Int)) = false := bne_eq_false_iff_eq.mpr c3
  have c3b2 : (l1.length == l0_1.length) = true := by first | simpa using c3 | (simp at c3 ⊢; omega)
  clear c3
  have H' := Aside0.mk H
  clear H
  go_enter Try.func115, Try.ntmps115
  go_wp2_with (first | ((with_reducible refine gate_dst (N := 2) rfl ?_); (try (refine gate_guard (by rfl) ?_; dsimp only)); refine box_ev (cs := #[.bool a0_0, .slice A0_1 l0_1.length c0_1, .slice A0_2 l0_2.length c0_2]) (t := 28) ?_; intro gb101 hg w4 hbox hb; have BK101 := Aside0.mk (hbox); have GW101 := Aside0.mk (Gq hg HB.out); have GE101 := Aside0.mk (Gq hg HB.out); replace HB := Aside0.mk (below_step (Vq HB.out) hb); clear hb hbox hg) | ((with_reducible refine gate_dst (N := 12) rfl ?_); (try (refine gate_guard (by rfl) ?_; dsimp only)); refine Kd.S_lit (Kd.slice 3 (Kd.int .i64)) _ 22 ?hg (N := 12) ?hd (xs := ([] : List (List Int))) (inner := []) (ok := fun _ => True) (okp := fun _ => True) ?hr ?hp (fun _ hk => hk) trivial (Below.refl _ _) (Nat.le_refl _) (by simp) ?_; (case hd => rfl); (case hg => rfl); (case hr => first | (go_simp; done) | (go_simp; rfl)); (case hp => exact (Reps.none _ _)); intro v103 w5 ho6 hb hg_ hnew_; clear hg_ hnew_; (first | rw [← Ny102.out] at ho6 | (simp only [Int.reduceToNat] at ho6; rw [← Ny102.out] at ho6)); have HO104 := Aside0.mk (Kd.S_lower ho6 (below_size (Vq HB.out))); replace BK101 := Aside0.mk (blk_below (g := gb101) (o := .cells #[.bool a0_0, .slice A0_1 l0_1.length c0_1, .slice A0_2 l0_2.length c0_2] 28 (0, 0)) (Bq BK101.out) hb); replace HB := Aside0.mk (below_step (Vq HB.out) hb); clear hb ho6; obtain ⟨hcz7_0, hcz7_1, hcz7_2, hfz7_0, hfz7_1, hfz7_2⟩ := cz3 BK101.out))
  repeat (go_quiet (first | ((with_reducible refine gate_dst (N := 2) rfl ?_); (try (refine gate_guard (by rfl) ?_; dsimp only)); refine box_ev (cs := #[.bool a0_0, .slice A0_1 l0_1.length c0_1, .slice A0_2 l0_2.length c0_2]) (t := 28) ?_; intro gb101 hg w4 hbox hb; have BK101 := Aside0.mk (hbox); have GW101 := Aside0.mk (Gq hg HB.out); have GE101 := Aside0.mk (Gq hg HB.out); replace HB := Aside0.mk (below_step (Vq HB.out) hb); clear hb hbox hg) | ((with_reducible refine gate_dst (N := 12) rfl ?_); (try (refine gate_guard (by rfl) ?_; dsimp only)); refine Kd.S_lit (Kd.slice 3 (Kd.int .i64)) _ 22 ?hg (N := 12) ?hd (xs := ([] : List (List Int))) (inner := []) (ok := fun _ => True) (okp := fun _ => True) ?hr ?hp (fun _ hk => hk) trivial (Below.refl _ _) (Nat.le_refl _) (by simp) ?_; (case hd => rfl); (case hg => rfl); (case hr => first | (go_simp; done) | (go_simp; rfl)); (case hp => exact (Reps.none _ _)); intro v103 w5 ho6 hb hg_ hnew_; clear hg_ hnew_; (first | rw [← Ny102.out] at ho6 | (simp only [Int.reduceToNat] at ho6; rw [← Ny102.out] at ho6)); have HO104 := Aside0.mk (Kd.S_lower ho6 (below_size (Vq HB.out))); replace BK101 := Aside0.mk (blk_below (g := gb101) (o := .cells #[.bool a0_0, .slice A0_1 l0_1.length c0_1, .slice A0_2 l0_2.length c0_2] 28 (0, 0)) (Bq BK101.out) hb); replace HB := Aside0.mk (below_step (Vq HB.out) hb); clear hb ho6; obtain ⟨hcz7_0, hcz7_1, hcz7_2, hfz7_0, hfz7_1, hfz7_2⟩ := cz3 BK101.out)); try go_wp2_with (first | ((with_reducible refine gate_dst (N := 2) rfl ?_); (try (refine gate_guard (by rfl) ?_; dsimp only)); refine box_ev (cs := #[.bool a0_0, .slice A0_1 l0_1.length c0_1, .slice A0_2 l0_2.length c0_2]) (t := 28) ?_; intro gb101 hg w4 hbox hb; have BK101 := Aside0.mk (hbox); have GW101 := Aside0.mk (Gq hg HB.out); have GE101 := Aside0.mk (Gq hg HB.out); replace HB := Aside0.mk (below_step (Vq HB.out) hb); clear hb hbox hg) | ((with_reducible refine gate_dst (N := 12) rfl ?_); (try (refine gate_guard (by rfl) ?_; dsimp only)); refine Kd.S_lit (Kd.slice 3 (Kd.int .i64)) _ 22 ?hg (N := 12) ?hd (xs := ([] : List (List Int))) (inner := []) (ok := fun _ => True) (okp := fun _ => True) ?hr ?hp (fun _ hk => hk) trivial (Below.refl _ _) (Nat.le_refl _) (by simp) ?_; (case hd => rfl); (case hg => rfl); (case hr => first | (go_simp; done) | (go_simp; rfl)); (case hp => exact (Reps.none _ _)); intro v103 w5 ho6 hb hg_ hnew_; clear hg_ hnew_; (first | rw [← Ny102.out] at ho6 | (simp only [Int.reduceToNat] at ho6; rw [← Ny102.out] at ho6)); have HO104 := Aside0.mk (Kd.S_lower ho6 (below_size (Vq HB.out))); replace BK101 := Aside0.mk (blk_below (g := gb101) (o := .cells #[.bool a0_0, .slice A0_1 l0_1.length c0_1, .slice A0_2 l0_2.length c0_2] 28 (0, 0)) (Bq BK101.out) hb); replace HB := Aside0.mk (below_step (Vq HB.out) hb); clear hb ho6; obtain ⟨hcz7_0, hcz7_1, hcz7_2, hfz7_0, hfz7_1, hfz7_2⟩ := cz3 BK101.out)))
  go_loopg [6, 7] k (fun kq v6 v7 w' => ∃ (x6_1 : List (List Int)) (x7_1 : Int), v7 = .int .i64 x7_1 ∧ Aside0 (spec_l5Picks.l0 kq l1 x6_1 x7_1 a0_0 l0_1 l0_2 = some (r1, r2)) ∧ Aside0 (kq ≤ k) ∧ Aside0 (Kd.S (Kd.slice 3 (Kd.int .i64)) 22 w' w.heap.size (fun _ => True) v6 x6_1) ∧ Aside0 (w'.heap[gb101]? = some (.cells #[.bool a0_0, (.slice A0_1 l0_1.length c0_1), (.slice A0_2 l0_2.length c0_2)] 28 (0, 0))) ∧ Aside0 (Below w.heap.size w w'))
  case atStart => exact ⟨(y102), (0), (by first | rfl | (simp; done) | (simp [*]; done)), H', ⟨Nat.le_refl _⟩, ⟨Sq HO104.out⟩, ⟨Bq BK101.out⟩, ⟨Vq HB.out⟩⟩
  case round =>
   clear H'
   (try clear c1); (try clear p2); (try clear c3); (try clear c3b0); (try clear c3b1); (try clear c3b2); (try clear hcz7_0 hcz7_1 hcz7_2 hfz7_0 hfz7_1 hfz7_2)
   obtain ⟨x6_1, x7_1, rfl, HA, HK1, HO_6, BK101, HB⟩ := hrel
   cases gk with
   | zero => exact absurd HA.out (by simp [spec_l5Picks.l0])
   | succ k1 =>
    have H := HA.out
    clear HA
    simp only [spec_l5Picks.l0] at H
    by_cases c8 : x7_1 < (l1.length : Int)
    ·rw [if_pos c8] at H
     have c8b0 : decide (x7_1 < (l1.length : Int)) = true := decide_eq_true c8
     clear c8
     by_cases c9 : 0 ≤ x7_1
     ·rw [if_pos c9] at H
      have c9b0 : decide (0 ≤ x7_1) = true := decide_eq_true c9
      clear c9
      obtain ⟨y107, hy107⟩ : ∃ y_ : List Int, y_ = (([] : List Int)) := ⟨_, rfl⟩
      replace H : (if (rd_T66 l1 x7_1).f0 = true then (if (rd_T66 l1 x7_1).f1.f0 = true then (spec_l5Picks.j1 k1 l1 x6_1 x7_1 y107 true a0_0 l0_1 l0_2) else (if (((rd_T66 l1 x7_1).f1.f1).length : Int) > 0 then (spec_l5Picks.j1 k1 l1 x6_1 x7_1 y107 true a0_0 l0_1 l0_2) else (spec_l5Picks.j1 k1 l1 x6_1 x7_1 y107 (decide ((((rd_T66 l1 x7_1).f1.f2).length : Int) > 0)) a0_0 l0_1 l0_2))) else ((spec_ArrayOk.f k1 ((rd_T66 l1 x7_1).f1.f0) ((rd_T66 l1 x7_1).f1.f1) ((rd_T66 l1 x7_1).f1.f2)).bind fun t117 => (if t117 = true then (spec_l5Picks.j3 k1 l1 x6_1 x7_1 y107 ((rd_T66 l1 x7_1).f1.f0) a0_0 l0_1 l0_2 ((rd_T66 l1 x7_1).f0) ((rd_T66 l1 x7_1).f1.f0) ((rd_T66 l1 x7_1).f1.f1) ((rd_T66 l1 x7_1).f1.f2)) else (spec_l5Picks.j3 k1 l1 x6_1 x7_1 y107 true a0_0 l0_1 l0_2 ((rd_T66 l1 x7_1).f0) ((rd_T66 l1 x7_1).f1.f0) ((rd_T66 l1 x7_1).f1.f1) ((rd_T66 l1 x7_1).f1.f2))))) = some (r1, r2) := by first | (rw [hy107]; with_reducible exact H) | (have H2_ := (Option.bind_some _ _).symm.trans H; rw [hy107]; with_reducible exact H2_) | (have H2_ := (Option.bind_some _ _).symm.trans H; with_reducible exact H2_) | with_reducible exact H | (rw [hy107]; exact H) | exact H
      have Ny107 := Aside0.mk hy107
      clear hy107
      obtain ⟨bq10, hbq10⟩ : ∃ b_ : Bool, b_ = ((rd_T66 l1 x7_1).f0) := ⟨_, rfl⟩
      replace H : (if bq10 = true then (if (rd_T66 l1 x7_1).f1.f0 = true then (spec_l5Picks.j1 k1 l1 x6_1 x7_1 y107 true a0_0 l0_1 l0_2) else (if (((rd_T66 l1 x7_1).f1.f1).length : Int) > 0 then (spec_l5Picks.j1 k1 l1 x6_1 x7_1 y107 true a0_0 l0_1 l0_2) else (spec_l5Picks.j1 k1 l1 x6_1 x7_1 y107 (decide ((((rd_T66 l1 x7_1).f1.f2).length : Int) > 0)) a0_0 l0_1 l0_2))) else ((spec_ArrayOk.f k1 ((rd_T66 l1 x7_1).f1.f0) ((rd_T66 l1 x7_1).f1.f1) ((rd_T66 l1 x7_1).f1.f2)).bind fun t117 => (if t117 = true then (spec_l5Picks.j3 k1 l1 x6_1 x7_1 y107 ((rd_T66 l1 x7_1).f1.f0) a0_0 l0_1 l0_2 bq10 ((rd_T66 l1 x7_1).f1.f0) ((rd_T66 l1 x7_1).f1.f1) ((rd_T66 l1 x7_1).f1.f2)) else (spec_l5Picks.j3 k1 l1 x6_1 x7_1 y107 true a0_0 l0_1 l0_2 bq10 ((rd_T66 l1 x7_1).f1.f0) ((rd_T66 l1 x7_1).f1.f1) ((rd_T66 l1 x7_1).f1.f2))))) = some (r1, r2) := by rw [← hbq10] at H; exact H
      have Nbq10 := Aside0.mk hbq10
      clear hbq10
      by_cases c11 : bq10 = true
      ·subst c11
       (try (have BKo106 := BK106; replace BK106 := Aside0.mk (by have h_ := BK106.out; rw [← Nbq10.out] at h_; exact h_)))
       have hqv := Nbq10.out.symm
       have H1 : (if (rd_T66 l1 x7_1).f1.f0 = true then (spec_l5Picks.j1 k1 l1 x6_1 x7_1 y107 true a0_0 l0_1 l0_2) else (if (((rd_T66 l1 x7_1).f1.f1).length : Int) > 0 then (spec_l5Picks.j1 k1 l1 x6_1 x7_1 y107 true a0_0 l0_1 l0_2) else (spec_l5Picks.j1 k1 l1 x6_1 x7_1 y107 (decide ((((rd_T66 l1 x7_1).f1.f2).length : Int) > 0)) a0_0 l0_1 l0_2))) = some (r1, r2) := by rw [if_pos rfl] at H; exact H
       clear H
       have H := H1
       clear H1
       have HC12 := Aside0.mk H
       clear H
       have p105 : 0 ≤ (x7_1 : Int) := Dq
       have q105 : x7_1 < (l1.length : Int) := Dq
       obtain ⟨ad105, A105_2, c105_2, A105_3, c105_3, e105, hx105_0, hx105_1, hx105_2, hx105_3, hl105_2, hi105_2, hl105_3, hi105_3⟩ := at_T66 HR1.out x7_1 p105 q105
       (try rw [← Nbq10.out] at hx105_0)
       (try rw [← Nbq10.out] at hx105_1)
       cases e105
       replace hx105_0 := Xq HB.out hx105_0
       replace hx105_1 := Xq HB.out hx105_1
       replace hx105_2 := Xq HB.out hx105_2
       replace hx105_3 := Xq HB.out hx105_3
       have HR105_2 := Aside0.mk hi105_2
       have HC105_2 := Aside0.mk hl105_2
       clear hi105_2 hl105_2
       have HR105_3 := Aside0.mk hi105_3
       have HC105_3 := Aside0.mk hl105_3
       clear hi105_3 hl105_3
       replace p105 := eq_true p105
       replace q105 := eq_true q105
       go_upto_region 10 with (first | ((with_reducible refine gate_dst (N := 8) rfl ?_); (try (refine gate_guard (by rfl) ?_; dsimp only)); refine box_ev (cs := #[.bool false, .bool false, .slice none 0 0, .slice none 0 0]) (t := 66) ?_; intro gb106 hg w13 hbox hb; replace HO_6 := Aside0.mk (Kd.S_below (Sq HO_6.out) hb); have BK106 := Aside0.mk (hbox); have GW106 := Aside0.mk (Gq hg HB.out); have GE106 := Aside0.mk (Gq hg HB.out); replace HB := Aside0.mk (below_step (Vq HB.out) hb); have NB101_106 := Aside0.mk ((by rw [hg]; exact Nat.ne_of_lt (blk_lt (g := gb101) (o := .cells #[.bool a0_0, .slice A0_1 l0_1.length c0_1, .slice A0_2 l0_2.length c0_2] 28 (0, 0)) (Bq BK101.out)) : gb101 ≠ gb106)); have NB106_101 := Aside0.mk ((by rw [hg]; exact Nat.ne_of_gt (blk_lt (g := gb101) (o := .cells #[.bool a0_0, .slice A0_1 l0_1.length c0_1, .slice A0_2 l0_2.length c0_2] 28 (0, 0)) (Bq BK101.out)) : gb106 ≠ gb101)); replace BK101 := Aside0.mk (blk_below (g := gb101) (o := .cells #[.bool a0_0, .slice A0_1 l0_1.length c0_1, .slice A0_2 l0_2.length c0_2] 28 (0, 0)) (Bq BK101.out) hb); clear hb hbox hg; have hnb14 := NB106_101.out; have hnc14 := NB101_106.out; obtain ⟨hcz15_0, hcz15_1, hcz15_2, hcz15_3, hfz15_0, hfz15_1, hfz15_2, hfz15_3⟩ := cz4 BK106.out) | ((with_reducible refine gate_dst (N := 30) rfl ?_); (try (refine gate_guard (by rfl) ?_; dsimp only)); refine Kd.R_lit (Kd.int .i64) _ 3 ?hg (N := 30) ?hd (xs := ([] : List Int)) (inner := []) (ok := fun _ => True) (okp := fun _ => True) ?hr ?hp (fun _ hk => hk) trivial (Below.refl _ _) (Nat.le_refl _) (by simp) ?_; (case hd => rfl); (case hg => rfl); (case hr => first | (go_simp; done) | (go_simp; rfl)); (case hp => exact (Reps.none _ _)); intro v108 w16 ho17 hb hg_ hnew_; clear hg_ hnew_; (first | rw [← Ny107.out] at ho17 | (simp only [Int.reduceToNat] at ho17; rw [← Ny107.out] at ho17)); replace HO_6 := Aside0.mk (Kd.S_elder' (Sq (Kd.S_mono (Kd.S_far (p := ⟨gb106, 3, none⟩) (Kd.S_far (p := ⟨gb106, 2, none⟩) (Kd.S_far (p := ⟨gb106, 1, none⟩) (Kd.S_far (p := ⟨gb106, 0, none⟩) (Kd.S_types HO_6.out BK106.out (by decide)) (fun _ hk => hk.2) (.bool true)) (fun _ hk => hk.2) (.bool ((rd_T66 l1 x7_1).f1.f0))) (fun _ hk => hk.2) (.slice A105_2 ((rd_T66 l1 x7_1).f1.f1).length c105_2)) (fun _ hk => hk.2) (.slice A105_3 ((rd_T66 l1 x7_1).f1.f2).length c105_3)) (fun _ h_ => h_.1))) (Kd.R_base ho17) hb); have HO109 := Aside0.mk (Kd.R_lower ho17 (below_size (Vq HB.out))); replace BK101 := Aside0.mk (blk_below (g := gb101) (o := .cells #[.bool a0_0, .slice A0_1 l0_1.length c0_1, .slice A0_2 l0_2.length c0_2] 28 (0, 0)) (by (with_reducible repeat (first | refine blk_drewN ?_ _ | refine blk_drew ?_ | refine blk_alloc ?_ _)); refine blk_far ?_ NB101_106.out _; (with_reducible repeat (first | refine blk_drewN ?_ _ | refine blk_drew ?_ | refine blk_alloc ?_ _)); refine blk_far ?_ NB101_106.out _; (with_reducible repeat (first | refine blk_drewN ?_ _ | refine blk_drew ?_ | refine blk_alloc ?_ _)); refine blk_far ?_ NB101_106.out _; (with_reducible repeat (first | refine blk_drewN ?_ _ | refine blk_drew ?_ | refine blk_alloc ?_ _)); refine blk_far ?_ NB101_106.out _; (with_reducible repeat (first | refine blk_drewN ?_ _ | refine blk_drew ?_ | refine blk_alloc ?_ _)); exact BK101.out) hb); replace BK106 := Aside0.mk (blk_below (g := gb106) (o := .cells #[.bool true, .bool ((rd_T66 l1 x7_1).f1.f0), .slice A105_2 ((rd_T66 l1 x7_1).f1.f1).length c105_2, .slice A105_3 ((rd_T66 l1 x7_1).f1.f2).length c105_3] 66 (0, 0)) (by (with_reducible repeat (first | refine blk_drewN ?_ _ | refine blk_drew ?_ | refine blk_alloc ?_ _)); refine blk_put (cs := #[.bool true, .bool ((rd_T66 l1 x7_1).f1.f0), .slice A105_2 ((rd_T66 l1 x7_1).f1.f1).length c105_2, .slice none 0 0]) ?_ 3 _ rfl; (with_reducible repeat (first | refine blk_drewN ?_ _ | refine blk_drew ?_ | refine blk_alloc ?_ _)); refine blk_put (cs := #[.bool true, .bool ((rd_T66 l1 x7_1).f1.f0), .slice none 0 0, .slice none 0 0]) ?_ 2 _ rfl; (with_reducible repeat (first | refine blk_drewN ?_ _ | refine blk_drew ?_ | refine blk_alloc ?_ _)); refine blk_put (cs := #[.bool true, .bool false, .slice none 0 0, .slice none 0 0]) ?_ 1 _ rfl; (with_reducible repeat (first | refine blk_drewN ?_ _ | refine blk_drew ?_ | refine blk_alloc ?_ _)); refine blk_put (cs := #[.bool false, .bool false, .slice none 0 0, .slice none 0 0]) ?_ 0 _ rfl; (with_reducible repeat (first | refine blk_drewN ?_ _ | refine blk_drew ?_ | refine blk_alloc ?_ _)); exact BK106.out) hb); replace HB := Aside0.mk (below_step (Vq HB.out) hb); clear hb ho17; obtain ⟨hcz18_0, hcz18_1, hcz18_2, hcz18_3, hfz18_0, hfz18_1, hfz18_2, hfz18_3⟩ := cz4 BK106.out))
       repeat (go_quiet (first | ((with_reducible refine gate_dst (N := 8) rfl ?_); (try (refine gate_guard (by rfl) ?_; dsimp only)); refine box_ev (cs := #[.bool false, .bool false, .slice none 0 0, .slice none 0 0]) (t := 66) ?_; intro gb106 hg w13 hbox hb; replace HO_6 := Aside0.mk (Kd.S_below (Sq HO_6.out) hb); have BK106 := Aside0.mk (hbox); have GW106 := Aside0.mk (Gq hg HB.out); have GE106 := Aside0.mk (Gq hg HB.out); replace HB := Aside0.mk (below_step (Vq HB.out) hb); have NB101_106 := Aside0.mk ((by rw [hg]; exact Nat.ne_of_lt (blk_lt (g := gb101) (o := .cells #[.bool a0_0, .slice A0_1 l0_1.length c0_1, .slice A0_2 l0_2.length c0_2] 28 (0, 0)) (Bq BK101.out)) : gb101 ≠ gb106)); have NB106_101 := Aside0.mk ((by rw [hg]; exact Nat.ne_of_gt (blk_lt (g := gb101) (o := .cells #[.bool a0_0, .slice A0_1 l0_1.length c0_1, .slice A0_2 l0_2.length c0_2] 28 (0, 0)) (Bq BK101.out)) : gb106 ≠ gb101)); replace BK101 := Aside0.mk (blk_below (g := gb101) (o := .cells #[.bool a0_0, .slice A0_1 l0_1.length c0_1, .slice A0_2 l0_2.length c0_2] 28 (0, 0)) (Bq BK101.out) hb); clear hb hbox hg; have hnb14 := NB106_101.out; have hnc14 := NB101_106.out; obtain ⟨hcz15_0, hcz15_1, hcz15_2, hcz15_3, hfz15_0, hfz15_1, hfz15_2, hfz15_3⟩ := cz4 BK106.out) | ((with_reducible refine gate_dst (N := 30) rfl ?_); (try (refine gate_guard (by rfl) ?_; dsimp only)); refine Kd.R_lit (Kd.int .i64) _ 3 ?hg (N := 30) ?hd (xs := ([] : List Int)) (inner := []) (ok := fun _ => True) (okp := fun _ => True) ?hr ?hp (fun _ hk => hk) trivial (Below.refl _ _) (Nat.le_refl _) (by simp) ?_; (case hd => rfl); (case hg => rfl); (case hr => first | (go_simp; done) | (go_simp; rfl)); (case hp => exact (Reps.none _ _)); intro v108 w16 ho17 hb hg_ hnew_; clear hg_ hnew_; (first | rw [← Ny107.out] at ho17 | (simp only [Int.reduceToNat] at ho17; rw [← Ny107.out] at ho17)); replace HO_6 := Aside0.mk (Kd.S_elder' (Sq (Kd.S_mono (Kd.S_far (p := ⟨gb106, 3, none⟩) (Kd.S_far (p := ⟨gb106, 2, none⟩) (Kd.S_far (p := ⟨gb106, 1, none⟩) (Kd.S_far (p := ⟨gb106, 0, none⟩) (Kd.S_types HO_6.out BK106.out (by decide)) (fun _ hk => hk.2) (.bool true)) (fun _ hk => hk.2) (.bool ((rd_T66 l1 x7_1).f1.f0))) (fun _ hk => hk.2) (.slice A105_2 ((rd_T66 l1 x7_1).f1.f1).length c105_2)) (fun _ hk => hk.2) (.slice A105_3 ((rd_T66 l1 x7_1).f1.f2).length c105_3)) (fun _ h_ => h_.1))) (Kd.R_base ho17) hb); have HO109 := Aside0.mk (Kd.R_lower ho17 (below_size (Vq HB.out))); replace BK101 := Aside0.mk (blk_below (g := gb101) (o := .cells #[.bool a0_0, .slice A0_1 l0_1.length c0_1, .slice A0_2 l0_2.length c0_2] 28 (0, 0)) (by (with_reducible repeat (first | refine blk_drewN ?_ _ | refine blk_drew ?_ | refine blk_alloc ?_ _)); refine blk_far ?_ NB101_106.out _; (with_reducible repeat (first | refine blk_drewN ?_ _ | refine blk_drew ?_ | refine blk_alloc ?_ _)); refine blk_far ?_ NB101_106.out _; (with_reducible repeat (first | refine blk_drewN ?_ _ | refine blk_drew ?_ | refine blk_alloc ?_ _)); refine blk_far ?_ NB101_106.out _; (with_reducible repeat (first | refine blk_drewN ?_ _ | refine blk_drew ?_ | refine blk_alloc ?_ _)); refine blk_far ?_ NB101_106.out _; (with_reducible repeat (first | refine blk_drewN ?_ _ | refine blk_drew ?_ | refine blk_alloc ?_ _)); exact BK101.out) hb); replace BK106 := Aside0.mk (blk_below (g := gb106) (o := .cells #[.bool true, .bool ((rd_T66 l1 x7_1).f1.f0), .slice A105_2 ((rd_T66 l1 x7_1).f1.f1).length c105_2, .slice A105_3 ((rd_T66 l1 x7_1).f1.f2).length c105_3] 66 (0, 0)) (by (with_reducible repeat (first | refine blk_drewN ?_ _ | refine blk_drew ?_ | refine blk_alloc ?_ _)); refine blk_put (cs := #[.bool true, .bool ((rd_T66 l1 x7_1).f1.f0), .slice A105_2 ((rd_T66 l1 x7_1).f1.f1).length c105_2, .slice none 0 0]) ?_ 3 _ rfl; (with_reducible repeat (first | refine blk_drewN ?_ _ | refine blk_drew ?_ | refine blk_alloc ?_ _)); refine blk_put (cs := #[.bool true, .bool ((rd_T66 l1 x7_1).f1.f0), .slice none 0 0, .slice none 0 0]) ?_ 2 _ rfl; (with_reducible repeat (first | refine blk_drewN ?_ _ | refine blk_drew ?_ | refine blk_alloc ?_ _)); refine blk_put (cs := #[.bool true, .bool false, .slice none 0 0, .slice none 0 0]) ?_ 1 _ rfl; (with_reducible repeat (first | refine blk_drewN ?_ _ | refine blk_drew ?_ | refine blk_alloc ?_ _)); refine blk_put (cs := #[.bool false, .bool false, .slice none 0 0, .slice none 0 0]) ?_ 0 _ rfl; (with_reducible repeat (first | refine blk_drewN ?_ _ | refine blk_drew ?_ | refine blk_alloc ?_ _)); exact BK106.out) hb); replace HB := Aside0.mk (below_step (Vq HB.out) hb); clear hb ho17; obtain ⟨hcz18_0, hcz18_1, hcz18_2, hcz18_3, hfz18_0, hfz18_1, hfz18_2, hfz18_3⟩ := cz4 BK106.out)); go_upto_region 10 with (first | ((with_reducible refine gate_dst (N := 8) rfl ?_); (try (refine gate_guard (by rfl) ?_; dsimp only)); refine box_ev (cs := #[.bool false, .bool false, .slice none 0 0, .slice none 0 0]) (t := 66) ?_; intro gb106 hg w13 hbox hb; replace HO_6 := Aside0.mk (Kd.S_below (Sq HO_6.out) hb); have BK106 := Aside0.mk (hbox); have GW106 := Aside0.mk (Gq hg HB.out); have GE106 := Aside0.mk (Gq hg HB.out); replace HB := Aside0.mk (below_step (Vq HB.out) hb); have NB101_106 := Aside0.mk ((by rw [hg]; exact Nat.ne_of_lt (blk_lt (g := gb101) (o := .cells #[.bool a0_0, .slice A0_1 l0_1.length c0_1, .slice A0_2 l0_2.length c0_2] 28 (0, 0)) (Bq BK101.out)) : gb101 ≠ gb106)); have NB106_101 := Aside0.mk ((by rw [hg]; exact Nat.ne_of_gt (blk_lt (g := gb101) (o := .cells #[.bool a0_0, .slice A0_1 l0_1.length c0_1, .slice A0_2 l0_2.length c0_2] 28 (0, 0)) (Bq BK101.out)) : gb106 ≠ gb101)); replace BK101 := Aside0.mk (blk_below (g := gb101) (o := .cells #[.bool a0_0, .slice A0_1 l0_1.length c0_1, .slice A0_2 l0_2.length c0_2] 28 (0, 0)) (Bq BK101.out) hb); clear hb hbox hg; have hnb14 := NB106_101.out; have hnc14 := NB101_106.out; obtain ⟨hcz15_0, hcz15_1, hcz15_2, hcz15_3, hfz15_0, hfz15_1, hfz15_2, hfz15_3⟩ := cz4 BK106.out) | ((with_reducible refine gate_dst (N := 30) rfl ?_); (try (refine gate_guard (by rfl) ?_; dsimp only)); refine Kd.R_lit (Kd.int .i64) _ 3 ?hg (N := 30) ?hd (xs := ([] : List Int)) (inner := []) (ok := fun _ => True) (okp := fun _ => True) ?hr ?hp (fun _ hk => hk) trivial (Below.refl _ _) (Nat.le_refl _) (by simp) ?_; (case hd => rfl); (case hg => rfl); (case hr => first | (go_simp; done) | (go_simp; rfl)); (case hp => exact (Reps.none _ _)); intro v108 w16 ho17 hb hg_ hnew_; clear hg_ hnew_; (first | rw [← Ny107.out] at ho17 | (simp only [Int.reduceToNat] at ho17; rw [← Ny107.out] at ho17)); replace HO_6 := Aside0.mk (Kd.S_elder' (Sq (Kd.S_mono (Kd.S_far (p := ⟨gb106, 3, none⟩) (Kd.S_far (p := ⟨gb106, 2, none⟩) (Kd.S_far (p := ⟨gb106, 1, none⟩) (Kd.S_far (p := ⟨gb106, 0, none⟩) (Kd.S_types HO_6.out BK106.out (by decide)) (fun _ hk => hk.2) (.bool true)) (fun _ hk => hk.2) (.bool ((rd_T66 l1 x7_1).f1.f0))) (fun _ hk => hk.2) (.slice A105_2 ((rd_T66 l1 x7_1).f1.f1).length c105_2)) (fun _ hk => hk.2) (.slice A105_3 ((rd_T66 l1 x7_1).f1.f2).length c105_3)) (fun _ h_ => h_.1))) (Kd.R_base ho17) hb); have HO109 := Aside0.mk (Kd.R_lower ho17 (below_size (Vq HB.out))); replace BK101 := Aside0.mk (blk_below (g := gb101) (o := .cells #[.bool a0_0, .slice A0_1 l0_1.length c0_1, .slice A0_2 l0_2.length c0_2] 28 (0, 0)) (by (with_reducible repeat (first | refine blk_drewN ?_ _ | refine blk_drew ?_ | refine blk_alloc ?_ _)); refine blk_far ?_ NB101_106.out _; (with_reducible repeat (first | refine blk_drewN ?_ _ | refine blk_drew ?_ | refine blk_alloc ?_ _)); refine blk_far ?_ NB101_106.out _; (with_reducible repeat (first | refine blk_drewN ?_ _ | refine blk_drew ?_ | refine blk_alloc ?_ _)); refine blk_far ?_ NB101_106.out _; (with_reducible repeat (first | refine blk_drewN ?_ _ | refine blk_drew ?_ | refine blk_alloc ?_ _)); refine blk_far ?_ NB101_106.out _; (with_reducible repeat (first | refine blk_drewN ?_ _ | refine blk_drew ?_ | refine blk_alloc ?_ _)); exact BK101.out) hb); replace BK106 := Aside0.mk (blk_below (g := gb106) (o := .cells #[.bool true, .bool ((rd_T66 l1 x7_1).f1.f0), .slice A105_2 ((rd_T66 l1 x7_1).f1.f1).length c105_2, .slice A105_3 ((rd_T66 l1 x7_1).f1.f2).length c105_3] 66 (0, 0)) (by (with_reducible repeat (first | refine blk_drewN ?_ _ | refine blk_drew ?_ | refine blk_alloc ?_ _)); refine blk_put (cs := #[.bool true, .bool ((rd_T66 l1 x7_1).f1.f0), .slice A105_2 ((rd_T66 l1 x7_1).f1.f1).length c105_2, .slice none 0 0]) ?_ 3 _ rfl; (with_reducible repeat (first | refine blk_drewN ?_ _ | refine blk_drew ?_ | refine blk_alloc ?_ _)); refine blk_put (cs := #[.bool true, .bool ((rd_T66 l1 x7_1).f1.f0), .slice none 0 0, .slice none 0 0]) ?_ 2 _ rfl; (with_reducible repeat (first | refine blk_drewN ?_ _ | refine blk_drew ?_ | refine blk_alloc ?_ _)); refine blk_put (cs := #[.bool true, .bool false, .slice none 0 0, .slice none 0 0]) ?_ 1 _ rfl; (with_reducible repeat (first | refine blk_drewN ?_ _ | refine blk_drew ?_ | refine blk_alloc ?_ _)); refine blk_put (cs := #[.bool false, .bool false, .slice none 0 0, .slice none 0 0]) ?_ 0 _ rfl; (with_reducible repeat (first | refine blk_drewN ?_ _ | refine blk_drew ?_ | refine blk_alloc ?_ _)); exact BK106.out) hb); replace HB := Aside0.mk (below_step (Vq HB.out) hb); clear hb ho17; obtain ⟨hcz18_0, hcz18_1, hcz18_2, hcz18_3, hfz18_0, hfz18_1, hfz18_2, hfz18_3⟩ := cz4 BK106.out)))
       (try simp only [Act.put, List.setIfInBounds_toArray, List.set_cons_zero, List.set_cons_succ])
       go_cut [49] (fun v49 wc => ∃ (kq : Nat) (x49_11 : Bool), v49 = .bool x49_11 ∧ Aside0 (spec_l5Picks.j1 kq l1 x6_1 x7_1 y107 x49_11 a0_0 l0_1 l0_2 = some (r1, r2)) ∧ Aside0 (kq ≤ k1) ∧ Aside0 (Kd.S (Kd.slice 3 (Kd.int .i64)) 22 wc w.heap.size (fun k_ => some k_ ≠ (v108 : Value).ownBlock) u6 x6_1) ∧ Aside0 (Kd.R (Kd.int .i64) 3 wc w.heap.size (fun _ => True) v108 y107) ∧ Aside0 (wc.heap[gb101]? = some (.cells #[.bool a0_0, (.slice A0_1 l0_1.length c0_1), (.slice A0_2 l0_2.length c0_2)] 28 (0, 0))) ∧ Aside0 (wc.heap[gb106]? = some (.cells #[.bool true, .bool ((rd_T66 l1 x7_1).f1.f0), (.slice A105_2 ((rd_T66 l1 x7_1).f1.f1).length c105_2), (.slice A105_3 ((rd_T66 l1 x7_1).f1.f2).length c105_3)] 66 (0, 0))) ∧ Aside0 (Below w.heap.size w wc))
       case first =>
        have H := HC12.out
        clear HC12
        obtain ⟨bq19, hbq19⟩ : ∃ b_ : Bool, b_ = ((rd_T66 l1 x7_1).f1.f0) := ⟨_, rfl⟩
        replace H : (if bq19 = true then (spec_l5Picks.j1 k1 l1 x6_1 x7_1 y107 true a0_0 l0_1 l0_2) else (if (((rd_T66 l1 x7_1).f1.f1).length : Int) > 0 then (spec_l5Picks.j1 k1 l1 x6_1 x7_1 y107 true a0_0 l0_1 l0_2) else (spec_l5Picks.j1 k1 l1 x6_1 x7_1 y107 (decide ((((rd_T66 l1 x7_1).f1.f2).length : Int) > 0)) a0_0 l0_1 l0_2))) = some (r1, r2) := by rw [← hbq19] at H; exact H
        have Nbq19 := Aside0.mk hbq19
        clear hbq19
        (try rw [← Nbq19.out])
        by_cases c20 : bq19 = true
        ·subst c20
         (try (have BKo106 := BK106; replace BK106 := Aside0.mk (by have h_ := BK106.out; rw [← Nbq19.out] at h_; exact h_)))
         have hqv := Nbq19.out.symm
         have H1 : (spec_l5Picks.j1 k1 l1 x6_1 x7_1 y107 true a0_0 l0_1 l0_2) = some (r1, r2) := by rw [if_pos rfl] at H; exact H
         clear H
         have H := H1
         clear H1
         have H' := Aside0.mk H
         clear H
         have hnb21 := NB106_101.out
         have hnc21 := NB101_106.out
         have hcz22_0 : w16.cell? ⟨gb106, 0, none⟩ = some (.bool true) := by first | exact (blk_cell BK106.out 0).trans rfl | exact (blk_cell BK106.out 0).trans (by show some (Value.bool _) = _; rw [← Nbq19.out])
         have hcz22_1 : w16.cell? ⟨gb106, 1, none⟩ = some (.bool true) := by first | exact (blk_cell BK106.out 1).trans rfl | exact (blk_cell BK106.out 1).trans (by show some (Value.bool _) = _; rw [← Nbq19.out])
         have hcz22_2 : w16.cell? ⟨gb106, 2, none⟩ = some (.slice A105_2 ((rd_T66 l1 x7_1).f1.f1).length c105_2) := (blk_cell BK106.out 2).trans rfl
         have hcz22_3 : w16.cell? ⟨gb106, 3, none⟩ = some (.slice A105_3 ((rd_T66 l1 x7_1).f1.f2).length c105_3) := (blk_cell BK106.out 3).trans rfl
         have hfz22_0 := blk_frozen BK106.out 0
         have hfz22_1 := blk_frozen BK106.out 1
         have hfz22_2 := blk_frozen BK106.out 2
         have hfz22_3 := blk_frozen BK106.out 3
         go_wp2
         repeat (go_quiet (fail); try go_wp2)
         go_meet
         case rel => exact ⟨_, (true), (by first | rfl | (simp; done) | (simp [*]; done)), H', ⟨by have := HK1.out; first | omega | exact Nat.le_refl _⟩, ⟨by (with_reducible repeat (first | apply Kd.S_alloc | apply Kd.S_drewN | apply Kd.S_drew)); exact Kd.S_mono HO_6.out (fun _ hk => hk.2)⟩, ⟨Rq HO109.out⟩, ⟨Bq BK101.out⟩, ⟨by (with_reducible repeat (first | refine blk_drewN ?_ _ | refine blk_drew ?_ | refine blk_alloc ?_ _)); first | exact BK106.out | exact BKo106.out⟩, ⟨Vq HB.out⟩⟩
        ·replace c20 := Bool.eq_false_iff.mpr c20
         subst c20
         (try (have BKo106 := BK106; replace BK106 := Aside0.mk (by have h_ := BK106.out; rw [← Nbq19.out] at h_; exact h_)))
         have hqv := Nbq19.out.symm
         have H1 : (if (((rd_T66 l1 x7_1).f1.f1).length : Int) > 0 then (spec_l5Picks.j1 k1 l1 x6_1 x7_1 y107 true a0_0 l0_1 l0_2) else (spec_l5Picks.j1 k1 l1 x6_1 x7_1 y107 (decide ((((rd_T66 l1 x7_1).f1.f2).length : Int) > 0)) a0_0 l0_1 l0_2)) = some (r1, r2) := by rw [if_neg (show ¬ (false = true) by decide)] at H; exact H
         clear H
         have H := H1
         clear H1
         by_cases c23 : (((rd_T66 l1 x7_1).f1.f1).length : Int) > 0
         ·rw [if_pos c23] at H
          have c23b0 : decide (0 < (((rd_T66 l1 x7_1).f1.f1).length : Int)) = true := decide_eq_true c23
          have c23b1 : decide (0 < ((rd_T66 l1 x7_1).f1.f1).length) = true := decide_eq_true (by omega)
          have c23p : 0 < ((rd_T66 l1 x7_1).f1.f1).length := by omega
          clear c23
          have H' := Aside0.mk H
          clear H
          have hnb24 := NB106_101.out
          have hnc24 := NB101_106.out
          have hcz25_0 : w16.cell? ⟨gb106, 0, none⟩ = some (.bool true) := by first | exact (blk_cell BK106.out 0).trans rfl | exact (blk_cell BK106.out 0).trans (by show some (Value.bool _) = _; rw [← Nbq19.out])
          have hcz25_1 : w16.cell? ⟨gb106, 1, none⟩ = some (.bool false) := by first | exact (blk_cell BK106.out 1).trans rfl | exact (blk_cell BK106.out 1).trans (by show some (Value.bool _) = _; rw [← Nbq19.out])
          have hcz25_2 : w16.cell? ⟨gb106, 2, none⟩ = some (.slice A105_2 ((rd_T66 l1 x7_1).f1.f1).length c105_2) := (blk_cell BK106.out 2).trans rfl
          have hcz25_3 : w16.cell? ⟨gb106, 3, none⟩ = some (.slice A105_3 ((rd_T66 l1 x7_1).f1.f2).length c105_3) := (blk_cell BK106.out 3).trans rfl
          have hfz25_0 := blk_frozen BK106.out 0
          have hfz25_1 := blk_frozen BK106.out 1
          have hfz25_2 := blk_frozen BK106.out 2
          have hfz25_3 := blk_frozen BK106.out 3
          go_wp2
          repeat (go_quiet (fail); try go_wp2)
          go_meet
          case rel => exact ⟨_, (true), (by first | rfl | (simp; done) | (simp [*]; done)), H', ⟨by have := HK1.out; first | omega | exact Nat.le_refl _⟩, ⟨by (with_reducible repeat (first | apply Kd.S_alloc | apply Kd.S_drewN | apply Kd.S_drew)); exact Kd.S_mono HO_6.out (fun _ hk => hk.2)⟩, ⟨Rq HO109.out⟩, ⟨Bq BK101.out⟩, ⟨by (with_reducible repeat (first | refine blk_drewN ?_ _ | refine blk_drew ?_ | refine blk_alloc ?_ _)); first | exact BK106.out | exact BKo106.out⟩, ⟨Vq HB.out⟩⟩
         ·rw [if_neg c23] at H
          have c23b0 : decide (0 < (((rd_T66 l1 x7_1).f1.f1).length : Int)) = false := decide_eq_false c23
          have c23b1 : decide (0 < ((rd_T66 l1 x7_1).f1.f1).length) = false := decide_eq_false (by omega)
          have c23p : ¬ 0 < ((rd_T66 l1 x7_1).f1.f1).length := by omega
          clear c23
          have H' := Aside0.mk H
          clear H
          have hnb26 := NB106_101.out
          have hnc26 := NB101_106.out
          have hcz27_0 : w16.cell? ⟨gb106, 0, none⟩ = some (.bool true) := by first | exact (blk_cell BK106.out 0).trans rfl | exact (blk_cell BK106.out 0).trans (by show some (Value.bool _) = _; rw [← Nbq19.out])
          have hcz27_1 : w16.cell? ⟨gb106, 1, none⟩ = some (.bool false) := by first | exact (blk_cell BK106.out 1).trans rfl | exact (blk_cell BK106.out 1).trans (by show some (Value.bool _) = _; rw [← Nbq19.out])
          have hcz27_2 : w16.cell? ⟨gb106, 2, none⟩ = some (.slice A105_2 ((rd_T66 l1 x7_1).f1.f1).length c105_2) := (blk_cell BK106.out 2).trans rfl
          have hcz27_3 : w16.cell? ⟨gb106, 3, none⟩ = some (.slice A105_3 ((rd_T66 l1 x7_1).f1.f2).length c105_3) := (blk_cell BK106.out 3).trans rfl
          have hfz27_0 := blk_frozen BK106.out 0
          have hfz27_1 := blk_frozen BK106.out 1
          have hfz27_2 := blk_frozen BK106.out 2
          have hfz27_3 := blk_frozen BK106.out 3
          go_wp2
          repeat (go_quiet (fail); try go_wp2)
          go_meet
          case rel => exact ⟨_, (decide ((((rd_T66 l1 x7_1).f1.f2).length : Int) > 0)), (by first | rfl | (simp; done) | (simp [*]; done)), H', ⟨by have := HK1.out; first | omega | exact Nat.le_refl _⟩, ⟨by (with_reducible repeat (first | apply Kd.S_alloc | apply Kd.S_drewN | apply Kd.S_drew)); exact Kd.S_mono HO_6.out (fun _ hk => hk.2)⟩, ⟨Rq HO109.out⟩, ⟨Bq BK101.out⟩, ⟨by (with_reducible repeat (first | refine blk_drewN ?_ _ | refine blk_drew ?_ | refine blk_alloc ?_ _)); first | exact BK106.out | exact BKo106.out⟩, ⟨Vq HB.out⟩⟩
       case rest =>
        clear HC12
        (try clear c1); (try clear p1); (try clear q1); (try clear hx1); (try clear c2); (try clear p2); (try clear c3); (try clear c3b0); (try clear c3b1); (try clear c3b2); (try clear c8); (try clear c8b0); (try clear c9); (try clear c9b0); (try clear c10); (try clear p10); (try clear q10); (try clear hx10); (try clear c11); (try clear c14); (try clear q19); (try clear c20); (try clear c21); (try clear c23); (try clear c23b0); (try clear c23b1); (try clear c24); (try clear c26); (try clear hx105_0); (try clear hx105_1); (try clear hx105_2); (try clear hx105_3); (try clear p105); (try clear p2); (try clear q105); (try clear hcz15_0 hcz15_1 hcz15_2 hcz15_3 hfz15_0 hfz15_1 hfz15_2 hfz15_3); (try clear hcz18_0 hcz18_1 hcz18_2 hcz18_3 hfz18_0 hfz18_1 hfz18_2 hfz18_3); (try clear hcz22_0 hcz22_1 hcz22_2 hcz22_3 hfz22_0 hfz22_1 hfz22_2 hfz22_3); (try clear hcz25_0 hcz25_1 hcz25_2 hcz25_3 hfz25_0 hfz25_1 hfz25_2 hfz25_3); (try clear hcz27_0 hcz27_1 hcz27_2 hcz27_3 hfz27_0 hfz27_1 hfz27_2 hfz27_3); (try clear hcz7_0 hcz7_1 hcz7_2 hfz7_0 hfz7_1 hfz7_2)
        obtain ⟨kq, x49_11, rfl, HA, HJ11, HO_6, HO_9, BK101, BK106, HB⟩ := hcut
        cases kq with
        | zero => exact absurd HA.out (by simp [spec_l5Picks.j1])
        | succ kj11 =>
         have H := HA.out
         clear HA
         simp only [spec_l5Picks.j1] at H
         by_cases c28 : x49_11 = true
         ·subst c28
          have H1 : (some (x6_1, 3)) = some (r1, r2) := by rw [if_pos rfl] at H; exact H
          clear H
          have H := H1
          clear H1
          simp only [Option.some.injEq, Prod.mk.injEq] at H
          obtain ⟨rfl, rfl⟩ := H
          go_wp2
          repeat (go_quiet (fail); try go_wp2)
          go_ret2
          exact ⟨_, by first | rfl | (simp [errW_none, errW_some] <;> rfl) | (simp [*, errW_none, errW_some] <;> rfl), by (with_reducible repeat (first | apply Kd.S_alloc | apply Kd.S_drewN | apply Kd.S_drew)); exact Kd.S_mono HO_6.out (fun _ hk => trivial), by repeat (first | (with_reducible first | exact HB.out | apply below_alloc | apply pw_below_drewN | apply below_drew1 | refine below_set ?_ GE101.out | refine below_set ?_ GE106.out) | exact HB.out)⟩
         ·replace c28 := Bool.eq_false_iff.mpr c28
          subst c28
          have H1 : (spec_l5Picks.l1 kj11 l1 x6_1 x7_1 y107 0 a0_0 l0_1 l0_2) = some (r1, r2) := by rw [if_neg (show ¬ (false = true) by decide)] at H; exact H
          clear H
          have H := H1
          clear H1
          have H' := Aside0.mk H
          clear H
          go_wp2
          repeat (go_quiet (fail); try go_wp2)
          go_loopg [9, 10] kj11 (fun kq v9 v10 w' => ∃ (x9_3 : List Int) (x10_3 : Int), v10 = .int .i64 x10_3 ∧ Aside0 (spec_l5Picks.l1 kq l1 x6_1 x7_1 x9_3 x10_3 a0_0 l0_1 l0_2 = some (r1, r2)) ∧ Aside0 (kq ≤ kj11) ∧ Aside0 (Kd.S (Kd.slice 3 (Kd.int .i64)) 22 w' w.heap.size (fun k_ => some k_ ≠ (v9 : Value).ownBlock) u6 x6_1) ∧ Aside0 (Kd.R (Kd.int .i64) 3 w' w.heap.size (fun _ => True) v9 x9_3) ∧ Aside0 (w'.heap[gb101]? = some (.cells #[.bool a0_0, (.slice A0_1 l0_1.length c0_1), (.slice A0_2 l0_2.length c0_2)] 28 (0, 0))) ∧ Aside0 (w'.heap[gb106]? = some (.cells #[.bool true, .bool ((rd_T66 l1 x7_1).f1.f0), (.slice A105_2 ((rd_T66 l1 x7_1).f1.f1).length c105_2), (.slice A105_3 ((rd_T66 l1 x7_1).f1.f2).length c105_3)] 66 (0, 0))) ∧ Aside0 (Below w.heap.size w w'))
          case atStart => exact ⟨(y107), (0), (by first | rfl | (simp; done) | (simp [*]; done)), H', ⟨Nat.le_refl _⟩, ⟨Sq HO_6.out⟩, ⟨Rq HO_9.out⟩, ⟨Bq BK101.out⟩, ⟨Bq BK106.out⟩, ⟨Vq HB.out⟩⟩
          case round =>
           clear H'
           (try clear c1); (try clear p1); (try clear q1); (try clear hx1); (try clear c2); (try clear p2); (try clear c3); (try clear c3b0); (try clear c3b1); (try clear c3b2); (try clear c8); (try clear c8b0); (try clear c9); (try clear c9b0); (try clear c10); (try clear p10); (try clear q10); (try clear hx10); (try clear c11); (try clear c14); (try clear q19); (try clear c20); (try clear c21); (try clear c23); (try clear c23b0); (try clear c23b1); (try clear c24); (try clear c26); (try clear c28); (try clear hx105_0); (try clear hx105_1); (try clear hx105_2); (try clear hx105_3); (try clear p1); (try clear p10); (try clear p105); (try clear p2); (try clear q1); (try clear q10); (try clear q105); (try clear q19); (try clear hcz15_0 hcz15_1 hcz15_2 hcz15_3 hfz15_0 hfz15_1 hfz15_2 hfz15_3); (try clear hcz18_0 hcz18_1 hcz18_2 hcz18_3 hfz18_0 hfz18_1 hfz18_2 hfz18_3); (try clear hcz22_0 hcz22_1 hcz22_2 hcz22_3 hfz22_0 hfz22_1 hfz22_2 hfz22_3); (try clear hcz25_0 hcz25_1 hcz25_2 hcz25_3 hfz25_0 hfz25_1 hfz25_2 hfz25_3); (try clear hcz27_0 hcz27_1 hcz27_2 hcz27_3 hfz27_0 hfz27_1 hfz27_2 hfz27_3); (try clear hcz7_0 hcz7_1 hcz7_2 hfz7_0 hfz7_1 hfz7_2)
           obtain ⟨x9_3, x10_3, rfl, HA, HK3, HO_6, HO_9, BK101, BK106, HB⟩ := hrel
           cases gk with
           | zero => exact absurd HA.out (by simp [spec_l5Picks.l1])
           | succ k3 =>
            have H := HA.out
            clear HA
            simp only [spec_l5Picks.l1] at H
            by_cases c29 : 0 ≤ x7_1
            ·rw [if_pos c29] at H
             have c29b0 : decide (0 ≤ x7_1) = true := decide_eq_true c29
             clear c29
             by_cases c30 : x7_1 < (l0_1.length : Int)
             ·rw [if_pos c30] at H
              have c30b0 : decide (x7_1 < (l0_1.length : Int)) = true := decide_eq_true c30
              clear c30
              by_cases c31 : x10_3 < (rd l0_1 x7_1)
              ·rw [if_pos c31] at H
               have c31b0 : decide (x10_3 < (rd l0_1 x7_1)) = true := decide_eq_true c31
               clear c31
               by_cases c32 : x9_3.length < 17592186044416
               ·rw [if_pos c32] at H
                have LMc32 := Aside0.mk c32
                clear c32
                obtain ⟨y111, hy111⟩ : ∃ y_ : List Int, y_ = (x9_3 ++ [x10_3]) := ⟨_, rfl⟩
                replace H : (spec_l5Picks.l1 k3 l1 x6_1 x7_1 y111 (wrap64 (x10_3 + 1)) a0_0 l0_1 l0_2) = some (r1, r2) := by first | (rw [hy111]; with_reducible exact H) | (have H2_ := (Option.bind_some _ _).symm.trans H; rw [hy111]; with_reducible exact H2_) | (have H2_ := (Option.bind_some _ _).symm.trans H; with_reducible exact H2_) | with_reducible exact H | (rw [hy111]; exact H) | exact H
                have Ny111 := Aside0.mk hy111
                clear hy111
                have H' := Aside0.mk H
                clear H
                have hnb33 := NB101_106.out
                have hnc33 := NB106_101.out
                obtain ⟨hcz34_0, hcz34_1, hcz34_2, hfz34_0, hfz34_1, hfz34_2⟩ := cz3 BK101.out
                have p110 : 0 ≤ (x7_1 : Int) := Dq
                have q110 : x7_1 < (l0_1.length : Int) := Dq
                obtain ⟨ad110, e110, hx110_0⟩ := Kd.at_int HR0_1.out x7_1 p110 q110
                cases e110
                replace hx110_0 := Xq HB.out hx110_0
                replace p110 := eq_true p110
                replace q110 := eq_true q110
                go_wp2_with (first | ((with_reducible refine gate_builtin (b := .append) (xs := #[.tmp 60, .tmp 62]) rfl ?_); (try (refine gate_guard (by rfl) ?_; dsimp only)); at_builtin; refine Kd.R_append (Kd.int .i64) (w0 := w) w.heap.size rfl (.tmp 60) (.tmp 62) 22 3 (.int .i64 0) 8 rfl Try.underlying22 info3 rfl (by decide) (by omega) u9 x9_3 x10_3 [.int .i64 x10_3] (fun _ => True) (fun _ => False) rfl rfl ?aP (fun _ hk => hk.elim) ?aF ?aO ?aB ?aS ?aL ?_; (case aP => exact rfl); (case aB => exact (Vq HB.out)); (case aF => exact (fun _ _ => trivial)); (case aO => exact (Rq HO_9.out)); (case aS => exact (below_size (Vq HB.out))); (case aL => have := LMc32.out; omega); intro v112 w35 ho hb hg hat; rw [← Ny111.out] at ho; have n0_ := Aside0.mk (Kd.S_after (ok := (fun _ => True)) (Sq (Kd.S_mono HO_6.out (fun _ hk => ⟨trivial, hk⟩))) hg hat); have n1_ := Aside0.mk (blk_grown (g := gb101) (o := .cells #[.bool a0_0, .slice (some ad110) l0_1.length c0_1, .slice A0_2 l0_2.length c0_2] 28 (0, 0)) (Bq BK101.out) hg (Kd.R_ne HO_9.out BK101.out (by decide))); have n2_ := Aside0.mk (blk_grown (g := gb106) (o := .cells #[.bool true, .bool ((rd_T66 l1 x7_1).f1.f0), .slice A105_2 ((rd_T66 l1 x7_1).f1.f1).length c105_2, .slice A105_3 ((rd_T66 l1 x7_1).f1.f2).length c105_3] 66 (0, 0)) (Bq BK106.out) hg (Kd.R_ne HO_9.out BK106.out (by decide))); have n3_ := Aside0.mk (hb); have n4_ := Aside0.mk (ho); clear HO_6; clear BK101; clear BK106; clear HB; clear HO_9; have HO_6 := n0_; have BK101 := n1_; have BK106 := n2_; have HB := n3_; have HO113 := n4_; clear n0_ n1_ n2_ n3_ n4_; clear ho hb hg hat))
                repeat (go_quiet (first | ((with_reducible refine gate_builtin (b := .append) (xs := #[.tmp 60, .tmp 62]) rfl ?_); (try (refine gate_guard (by rfl) ?_; dsimp only)); at_builtin; refine Kd.R_append (Kd.int .i64) (w0 := w) w.heap.size rfl (.tmp 60) (.tmp 62) 22 3 (.int .i64 0) 8 rfl Try.underlying22 info3 rfl (by decide) (by omega) u9 x9_3 x10_3 [.int .i64 x10_3] (fun _ => True) (fun _ => False) rfl rfl ?aP (fun _ hk => hk.elim) ?aF ?aO ?aB ?aS ?aL ?_; (case aP => exact rfl); (case aB => exact (Vq HB.out)); (case aF => exact (fun _ _ => trivial)); (case aO => exact (Rq HO_9.out)); (case aS => exact (below_size (Vq HB.out))); (case aL => have := LMc32.out; omega); intro v112 w35 ho hb hg hat; rw [← Ny111.out] at ho; have n0_ := Aside0.mk (Kd.S_after (ok := (fun _ => True)) (Sq (Kd.S_mono HO_6.out (fun _ hk => ⟨trivial, hk⟩))) hg hat); have n1_ := Aside0.mk (blk_grown (g := gb101) (o := .cells #[.bool a0_0, .slice (some ad110) l0_1.length c0_1, .slice A0_2 l0_2.length c0_2] 28 (0, 0)) (Bq BK101.out) hg (Kd.R_ne HO_9.out BK101.out (by decide))); have n2_ := Aside0.mk (blk_grown (g := gb106) (o := .cells #[.bool true, .bool ((rd_T66 l1 x7_1).f1.f0), .slice A105_2 ((rd_T66 l1 x7_1).f1.f1).length c105_2, .slice A105_3 ((rd_T66 l1 x7_1).f1.f2).length c105_3] 66 (0, 0)) (Bq BK106.out) hg (Kd.R_ne HO_9.out BK106.out (by decide))); have n3_ := Aside0.mk (hb); have n4_ := Aside0.mk (ho); clear HO_6; clear BK101; clear BK106; clear HB; clear HO_9; have HO_6 := n0_; have BK101 := n1_; have BK106 := n2_; have HB := n3_; have HO113 := n4_; clear n0_ n1_ n2_ n3_ n4_; clear ho hb hg hat)); try go_wp2_with (first | ((with_reducible refine gate_builtin (b := .append) (xs := #[.tmp 60, .tmp 62]) rfl ?_); (try (refine gate_guard (by rfl) ?_; dsimp only)); at_builtin; refine Kd.R_append (Kd.int .i64) (w0 := w) w.heap.size rfl (.tmp 60) (.tmp 62) 22 3 (.int .i64 0) 8 rfl Try.underlying22 info3 rfl (by decide) (by omega) u9 x9_3 x10_3 [.int .i64 x10_3] (fun _ => True) (fun _ => False) rfl rfl ?aP (fun _ hk => hk.elim) ?aF ?aO ?aB ?aS ?aL ?_; (case aP => exact rfl); (case aB => exact (Vq HB.out)); (case aF => exact (fun _ _ => trivial)); (case aO => exact (Rq HO_9.out)); (case aS => exact (below_size (Vq HB.out))); (case aL => have := LMc32.out; omega); intro v112 w35 ho hb hg hat; rw [← Ny111.out] at ho; have n0_ := Aside0.mk (Kd.S_after (ok := (fun _ => True)) (Sq (Kd.S_mono HO_6.out (fun _ hk => ⟨trivial, hk⟩))) hg hat); have n1_ := Aside0.mk (blk_grown (g := gb101) (o := .cells #[.bool a0_0, .slice (some ad110) l0_1.length c0_1, .slice A0_2 l0_2.length c0_2] 28 (0, 0)) (Bq BK101.out) hg (Kd.R_ne HO_9.out BK101.out (by decide))); have n2_ := Aside0.mk (blk_grown (g := gb106) (o := .cells #[.bool true, .bool ((rd_T66 l1 x7_1).f1.f0), .slice A105_2 ((rd_T66 l1 x7_1).f1.f1).length c105_2, .slice A105_3 ((rd_T66 l1 x7_1).f1.f2).length c105_3] 66 (0, 0)) (Bq BK106.out) hg (Kd.R_ne HO_9.out BK106.out (by decide))); have n3_ := Aside0.mk (hb); have n4_ := Aside0.mk (ho); clear HO_6; clear BK101; clear BK106; clear HB; clear HO_9; have HO_6 := n0_; have BK101 := n1_; have BK106 := n2_; have HB := n3_; have HO113 := n4_; clear n0_ n1_ n2_ n3_ n4_; clear ho hb hg hat)))
                go_roundg k3
                case measure => have := HK1.out; have := HJ11.out; have := HK3.out; omega
                case rel => exact ⟨(y111), (wrap64 (x10_3 + 1)), (by first | rfl | (simp; done) | (simp [*]; done)), H', ⟨by have := HK1.out; have := HJ11.out; have := HK3.out; omega⟩, ⟨by (with_reducible repeat (first | apply Kd.S_alloc | apply Kd.S_drewN | apply Kd.S_drew)); exact Kd.S_mono HO_6.out (fun _ hk => hk.2)⟩, ⟨Rq HO113.out⟩, ⟨Bq BK101.out⟩, ⟨by (with_reducible repeat (first | refine blk_drewN ?_ _ | refine blk_drew ?_ | refine blk_alloc ?_ _)); first | exact BK106.out | exact BKo106.out⟩, ⟨Vq HB.out⟩⟩
               ·rw [if_neg c32] at H
                exact absurd H (by simp)
              ·rw [if_neg c31] at H
               have c31b0 : decide (x10_3 < (rd l0_1 x7_1)) = false := decide_eq_false c31
               clear c31
               by_cases c36 : x6_1.length < 5864062014805
               ·rw [if_pos c36] at H
                have LMc36 := Aside0.mk c36
                clear c36
                obtain ⟨y114, hy114⟩ : ∃ y_ : List (List Int), y_ = (x6_1 ++ [x9_3]) := ⟨_, rfl⟩
                replace H : (spec_l5Picks.l0 k3 l1 y114 (wrap64 (x7_1 + 1)) a0_0 l0_1 l0_2) = some (r1, r2) := by first | (rw [hy114]; with_reducible exact H) | (have H2_ := (Option.bind_some _ _).symm.trans H; rw [hy114]; with_reducible exact H2_) | (have H2_ := (Option.bind_some _ _).symm.trans H; with_reducible exact H2_) | with_reducible exact H | (rw [hy114]; exact H) | exact H
                have Ny114 := Aside0.mk hy114
                clear hy114
                have H' := Aside0.mk H
                clear H
                have hnb37 := NB101_106.out
                have hnc37 := NB106_101.out
                obtain ⟨hcz38_0, hcz38_1, hcz38_2, hfz38_0, hfz38_1, hfz38_2⟩ := cz3 BK101.out
                have p110 : 0 ≤ (x7_1 : Int) := Dq
                have q110 : x7_1 < (l0_1.length : Int) := Dq
                obtain ⟨ad110, e110, hx110_0⟩ := Kd.at_int HR0_1.out x7_1 p110 q110
                cases e110
                replace hx110_0 := Xq HB.out hx110_0
                replace p110 := eq_true p110
                replace q110 := eq_true q110
                obtain ⟨Ao40, co40, eo40⟩ := Kd.R_slice HO_9.out
                subst eo40
                go_wp2_with (first | ((with_reducible refine gate_builtin (b := .append) (xs := #[.tmp 114, .tmp 116]) rfl ?_); (try (refine gate_guard (by rfl) ?_; dsimp only)); at_builtin; refine Kd.S_append (Kd.slice 3 (Kd.int .i64)) (w0 := w) w.heap.size rfl (.tmp 114) (.tmp 116) 117 22 (.slice none 0 0) 24 rfl Try.underlying117 info22 rfl (by decide) (by omega) u6 x6_1 x9_3 [.slice Ao40 x9_3.length co40] (fun _ => True) (fun k_ => some k_ = (.slice Ao40 x9_3.length co40 : Value).ownBlock) rfl rfl ?aP (fun k_ hk_ => ((Kd.R_mono (ok' := fun k_ => ((fun _ => True)) k_ ∧ some k_ ≠ (u6 : Value).ownBlock) (Kd.R_apart' (HO_9.out) (Kd.S_typed HO_6.out) (by decide)) (fun k_ hk => ⟨trivial, hk.2⟩))).1 k_ hk_.symm) ?aF ?aO ?aB ?aS ?aL ?_; (case aP => exact Kd.M_row (Kd.R_mono (Kd.R_tight rfl (Kd.R_mono (ok' := fun k_ => ((fun _ => True)) k_ ∧ some k_ ≠ (u6 : Value).ownBlock) (Kd.R_apart' (HO_9.out) (Kd.S_typed HO_6.out) (by decide)) (fun k_ hk => ⟨trivial, hk.2⟩))) (fun _ h_ => h_))); (case aB => exact (Vq HB.out)); (case aF => exact (fun _ _ => trivial)); (case aO => exact (Sq (Kd.S_mono HO_6.out (fun k_ hk => ⟨trivial, fun e_ => hk e_⟩)))); (case aS => exact (below_size (Vq HB.out))); (case aL => have := LMc36.out; omega); intro v115 w39 ho hb hg hat; rw [← Ny114.out] at ho; have n0_ := Aside0.mk (blk_grown (g := gb101) (o := .cells #[.bool a0_0, .slice (some ad110) l0_1.length c0_1, .slice A0_2 l0_2.length c0_2] 28 (0, 0)) (Bq BK101.out) hg (Kd.S_ne HO_6.out BK101.out (by decide))); have n1_ := Aside0.mk (blk_grown (g := gb106) (o := .cells #[.bool true, .bool ((rd_T66 l1 x7_1).f1.f0), .slice A105_2 ((rd_T66 l1 x7_1).f1.f1).length c105_2, .slice A105_3 ((rd_T66 l1 x7_1).f1.f2).length c105_3] 66 (0, 0)) (Bq BK106.out) hg (Kd.S_ne HO_6.out BK106.out (by decide))); have n2_ := Aside0.mk (hb); have n3_ := Aside0.mk (ho); clear BK101; clear BK106; clear HB; clear HO_6; clear HO_9; have BK101 := n0_; have BK106 := n1_; have HB := n2_; have HO116 := n3_; clear n0_ n1_ n2_ n3_; clear ho hb hg hat))
                repeat (go_quiet (first | ((with_reducible refine gate_builtin (b := .append) (xs := #[.tmp 114, .tmp 116]) rfl ?_); (try (refine gate_guard (by rfl) ?_; dsimp only)); at_builtin; refine Kd.S_append (Kd.slice 3 (Kd.int .i64)) (w0 := w) w.heap.size rfl (.tmp 114) (.tmp 116) 117 22 (.slice none 0 0) 24 rfl Try.underlying117 info22 rfl (by decide) (by omega) u6 x6_1 x9_3 [.slice Ao40 x9_3.length co40] (fun _ => True) (fun k_ => some k_ = (.slice Ao40 x9_3.length co40 : Value).ownBlock) rfl rfl ?aP (fun k_ hk_ => ((Kd.R_mono (ok' := fun k_ => ((fun _ => True)) k_ ∧ some k_ ≠ (u6 : Value).ownBlock) (Kd.R_apart' (HO_9.out) (Kd.S_typed HO_6.out) (by decide)) (fun k_ hk => ⟨trivial, hk.2⟩))).1 k_ hk_.symm) ?aF ?aO ?aB ?aS ?aL ?_; (case aP => exact Kd.M_row (Kd.R_mono (Kd.R_tight rfl (Kd.R_mono (ok' := fun k_ => ((fun _ => True)) k_ ∧ some k_ ≠ (u6 : Value).ownBlock) (Kd.R_apart' (HO_9.out) (Kd.S_typed HO_6.out) (by decide)) (fun k_ hk => ⟨trivial, hk.2⟩))) (fun _ h_ => h_))); (case aB => exact (Vq HB.out)); (case aF => exact (fun _ _ => trivial)); (case aO => exact (Sq (Kd.S_mono HO_6.out (fun k_ hk => ⟨trivial, fun e_ => hk e_⟩)))); (case aS => exact (below_size (Vq HB.out))); (case aL => have := LMc36.out; omega); intro v115 w39 ho hb hg hat; rw [← Ny114.out] at ho; have n0_ := Aside0.mk (blk_grown (g := gb101) (o := .cells #[.bool a0_0, .slice (some ad110) l0_1.length c0_1, .slice A0_2 l0_2.length c0_2] 28 (0, 0)) (Bq BK101.out) hg (Kd.S_ne HO_6.out BK101.out (by decide))); have n1_ := Aside0.mk (blk_grown (g := gb106) (o := .cells #[.bool true, .bool ((rd_T66 l1 x7_1).f1.f0), .slice A105_2 ((rd_T66 l1 x7_1).f1.f1).length c105_2, .slice A105_3 ((rd_T66 l1 x7_1).f1.f2).length c105_3] 66 (0, 0)) (Bq BK106.out) hg (Kd.S_ne HO_6.out BK106.out (by decide))); have n2_ := Aside0.mk (hb); have n3_ := Aside0.mk (ho); clear BK101; clear BK106; clear HB; clear HO_6; clear HO_9; have BK101 := n0_; have BK106 := n1_; have HB := n2_; have HO116 := n3_; clear n0_ n1_ n2_ n3_; clear ho hb hg hat)); try go_wp2_with (first | ((with_reducible refine gate_builtin (b := .append) (xs := #[.tmp 114, .tmp 116]) rfl ?_); (try (refine gate_guard (by rfl) ?_; dsimp only)); at_builtin; refine Kd.S_append (Kd.slice 3 (Kd.int .i64)) (w0 := w) w.heap.size rfl (.tmp 114) (.tmp 116) 117 22 (.slice none 0 0) 24 rfl Try.underlying117 info22 rfl (by decide) (by omega) u6 x6_1 x9_3 [.slice Ao40 x9_3.length co40] (fun _ => True) (fun k_ => some k_ = (.slice Ao40 x9_3.length co40 : Value).ownBlock) rfl rfl ?aP (fun k_ hk_ => ((Kd.R_mono (ok' := fun k_ => ((fun _ => True)) k_ ∧ some k_ ≠ (u6 : Value).ownBlock) (Kd.R_apart' (HO_9.out) (Kd.S_typed HO_6.out) (by decide)) (fun k_ hk => ⟨trivial, hk.2⟩))).1 k_ hk_.symm) ?aF ?aO ?aB ?aS ?aL ?_; (case aP => exact Kd.M_row (Kd.R_mono (Kd.R_tight rfl (Kd.R_mono (ok' := fun k_ => ((fun _ => True)) k_ ∧ some k_ ≠ (u6 : Value).ownBlock) (Kd.R_apart' (HO_9.out) (Kd.S_typed HO_6.out) (by decide)) (fun k_ hk => ⟨trivial, hk.2⟩))) (fun _ h_ => h_))); (case aB => exact (Vq HB.out)); (case aF => exact (fun _ _ => trivial)); (case aO => exact (Sq (Kd.S_mono HO_6.out (fun k_ hk => ⟨trivial, fun e_ => hk e_⟩)))); (case aS => exact (below_size (Vq HB.out))); (case aL => have := LMc36.out; omega); intro v115 w39 ho hb hg hat; rw [← Ny114.out] at ho; have n0_ := Aside0.mk (blk_grown (g := gb101) (o := .cells #[.bool a0_0, .slice (some ad110) l0_1.length c0_1, .slice A0_2 l0_2.length c0_2] 28 (0, 0)) (Bq BK101.out) hg (Kd.S_ne HO_6.out BK101.out (by decide))); have n1_ := Aside0.mk (blk_grown (g := gb106) (o := .cells #[.bool true, .bool ((rd_T66 l1 x7_1).f1.f0), .slice A105_2 ((rd_T66 l1 x7_1).f1.f1).length c105_2, .slice A105_3 ((rd_T66 l1 x7_1).f1.f2).length c105_3] 66 (0, 0)) (Bq BK106.out) hg (Kd.S_ne HO_6.out BK106.out (by decide))); have n2_ := Aside0.mk (hb); have n3_ := Aside0.mk (ho); clear BK101; clear BK106; clear HB; clear HO_6; clear HO_9; have BK101 := n0_; have BK106 := n1_; have HB := n2_; have HO116 := n3_; clear n0_ n1_ n2_ n3_; clear ho hb hg hat)))
                go_roundg k3
                case measure => have := HK1.out; have := HJ11.out; have := HK3.out; omega
                case rel => exact ⟨(y114), (wrap64 (x7_1 + 1)), (by first | rfl | (simp; done) | (simp [*]; done)), H', ⟨by have := HK1.out; have := HJ11.out; have := HK3.out; omega⟩, ⟨Sq HO116.out⟩, ⟨Bq BK101.out⟩, ⟨Vq HB.out⟩⟩
               ·rw [if_neg c36] at H
                exact absurd H (by simp)
             ·rw [if_neg c30] at H
              exact absurd H (by simp)
            ·rw [if_neg c29] at H
             exact absurd H (by simp)
      ·replace c11 := Bool.eq_false_iff.mpr c11
       subst c11
       (try (have BKo106 := BK106; replace BK106 := Aside0.mk (by have h_ := BK106.out; rw [← Nbq10.out] at h_; exact h_)))
       have hqv := Nbq10.out.symm
       have H1 : ((spec_ArrayOk.f k1 ((rd_T66 l1 x7_1).f1.f0) ((rd_T66 l1 x7_1).f1.f1) ((rd_T66 l1 x7_1).f1.f2)).bind fun t117 => (if t117 = true then (spec_l5Picks.j3 k1 l1 x6_1 x7_1 y107 ((rd_T66 l1 x7_1).f1.f0) a0_0 l0_1 l0_2 false ((rd_T66 l1 x7_1).f1.f0) ((rd_T66 l1 x7_1).f1.f1) ((rd_T66 l1 x7_1).f1.f2)) else (spec_l5Picks.j3 k1 l1 x6_1 x7_1 y107 true a0_0 l0_1 l0_2 false ((rd_T66 l1 x7_1).f1.f0) ((rd_T66 l1 x7_1).f1.f1) ((rd_T66 l1 x7_1).f1.f2)))) = some (r1, r2) := by rw [if_neg (show ¬ (false = true) by decide)] at H; exact H
       clear H
       have H := H1
       clear H1
       have HC41 := Aside0.mk H
       clear H
       have p105 : 0 ≤ (x7_1 : Int) := Dq
       have q105 : x7_1 < (l1.length : Int) := Dq
       obtain ⟨ad105, A105_2, c105_2, A105_3, c105_3, e105, hx105_0, hx105_1, hx105_2, hx105_3, hl105_2, hi105_2, hl105_3, hi105_3⟩ := at_T66 HR1.out x7_1 p105 q105
       (try rw [← Nbq10.out] at hx105_0)
       (try rw [← Nbq10.out] at hx105_1)
       cases e105
       replace hx105_0 := Xq HB.out hx105_0
       replace hx105_1 := Xq HB.out hx105_1
       replace hx105_2 := Xq HB.out hx105_2
       replace hx105_3 := Xq HB.out hx105_3
       have HR105_2 := Aside0.mk hi105_2
       have HC105_2 := Aside0.mk hl105_2
       clear hi105_2 hl105_2
       have HR105_3 := Aside0.mk hi105_3
       have HC105_3 := Aside0.mk hl105_3
       clear hi105_3 hl105_3
       replace p105 := eq_true p105
       replace q105 := eq_true q105
       go_upto_region 16 with (first | ((with_reducible refine gate_dst (N := 8) rfl ?_); (try (refine gate_guard (by rfl) ?_; dsimp only)); refine box_ev (cs := #[.bool false, .bool false, .slice none 0 0, .slice none 0 0]) (t := 66) ?_; intro gb106 hg w42 hbox hb; replace HO_6 := Aside0.mk (Kd.S_below (Sq HO_6.out) hb); have BK106 := Aside0.mk (hbox); have GW106 := Aside0.mk (Gq hg HB.out); have GE106 := Aside0.mk (Gq hg HB.out); replace HB := Aside0.mk (below_step (Vq HB.out) hb); have NB101_106 := Aside0.mk ((by rw [hg]; exact Nat.ne_of_lt (blk_lt (g := gb101) (o := .cells #[.bool a0_0, .slice A0_1 l0_1.length c0_1, .slice A0_2 l0_2.length c0_2] 28 (0, 0)) (Bq BK101.out)) : gb101 ≠ gb106)); have NB106_101 := Aside0.mk ((by rw [hg]; exact Nat.ne_of_gt (blk_lt (g := gb101) (o := .cells #[.bool a0_0, .slice A0_1 l0_1.length c0_1, .slice A0_2 l0_2.length c0_2] 28 (0, 0)) (Bq BK101.out)) : gb106 ≠ gb101)); replace BK101 := Aside0.mk (blk_below (g := gb101) (o := .cells #[.bool a0_0, .slice A0_1 l0_1.length c0_1, .slice A0_2 l0_2.length c0_2] 28 (0, 0)) (Bq BK101.out) hb); clear hb hbox hg; have hnb43 := NB106_101.out; have hnc43 := NB101_106.out; obtain ⟨hcz44_0, hcz44_1, hcz44_2, hcz44_3, hfz44_0, hfz44_1, hfz44_2, hfz44_3⟩ := cz4 BK106.out) | ((with_reducible refine gate_dst (N := 30) rfl ?_); (try (refine gate_guard (by rfl) ?_; dsimp only)); refine Kd.R_lit (Kd.int .i64) _ 3 ?hg (N := 30) ?hd (xs := ([] : List Int)) (inner := []) (ok := fun _ => True) (okp := fun _ => True) ?hr ?hp (fun _ hk => hk) trivial (Below.refl _ _) (Nat.le_refl _) (by simp) ?_; (case hd => rfl); (case hg => rfl); (case hr => first | (go_simp; done) | (go_simp; rfl)); (case hp => exact (Reps.none _ _)); intro v108 w45 ho46 hb hg_ hnew_; clear hg_ hnew_; (first | rw [← Ny107.out] at ho46 | (simp only [Int.reduceToNat] at ho46; rw [← Ny107.out] at ho46)); replace HO_6 := Aside0.mk (Kd.S_elder' (Sq (Kd.S_mono (Kd.S_far (p := ⟨gb106, 3, none⟩) (Kd.S_far (p := ⟨gb106, 2, none⟩) (Kd.S_far (p := ⟨gb106, 1, none⟩) (Kd.S_far (p := ⟨gb106, 0, none⟩) (Kd.S_types HO_6.out BK106.out (by decide)) (fun _ hk => hk.2) (.bool false)) (fun _ hk => hk.2) (.bool ((rd_T66 l1 x7_1).f1.f0))) (fun _ hk => hk.2) (.slice A105_2 ((rd_T66 l1 x7_1).f1.f1).length c105_2)) (fun _ hk => hk.2) (.slice A105_3 ((rd_T66 l1 x7_1).f1.f2).length c105_3)) (fun _ h_ => h_.1))) (Kd.R_base ho46) hb); have HO109 := Aside0.mk (Kd.R_lower ho46 (below_size (Vq HB.out))); replace BK101 := Aside0.mk (blk_below (g := gb101) (o := .cells #[.bool a0_0, .slice A0_1 l0_1.length c0_1, .slice A0_2 l0_2.length c0_2] 28 (0, 0)) (by (with_reducible repeat (first | refine blk_drewN ?_ _ | refine blk_drew ?_ | refine blk_alloc ?_ _)); refine blk_far ?_ NB101_106.out _; (with_reducible repeat (first | refine blk_drewN ?_ _ | refine blk_drew ?_ | refine blk_alloc ?_ _)); refine blk_far ?_ NB101_106.out _; (with_reducible repeat (first | refine blk_drewN ?_ _ | refine blk_drew ?_ | refine blk_alloc ?_ _)); refine blk_far ?_ NB101_106.out _; (with_reducible repeat (first | refine blk_drewN ?_ _ | refine blk_drew ?_ | refine blk_alloc ?_ _)); refine blk_far ?_ NB101_106.out _; (with_reducible repeat (first | refine blk_drewN ?_ _ | refine blk_drew ?_ | refine blk_alloc ?_ _)); exact BK101.out) hb); replace BK106 := Aside0.mk (blk_below (g := gb106) (o := .cells #[.bool false, .bool ((rd_T66 l1 x7_1).f1.f0), .slice A105_2 ((rd_T66 l1 x7_1).f1.f1).length c105_2, .slice A105_3 ((rd_T66 l1 x7_1).f1.f2).length c105_3] 66 (0, 0)) (by (with_reducible repeat (first | refine blk_drewN ?_ _ | refine blk_drew ?_ | refine blk_alloc ?_ _)); refine blk_put (cs := #[.bool false, .bool ((rd_T66 l1 x7_1).f1.f0), .slice A105_2 ((rd_T66 l1 x7_1).f1.f1).length c105_2, .slice none 0 0]) ?_ 3 _ rfl; (with_reducible repeat (first | refine blk_drewN ?_ _ | refine blk_drew ?_ | refine blk_alloc ?_ _)); refine blk_put (cs := #[.bool false, .bool ((rd_T66 l1 x7_1).f1.f0), .slice none 0 0, .slice none 0 0]) ?_ 2 _ rfl; (with_reducible repeat (first | refine blk_drewN ?_ _ | refine blk_drew ?_ | refine blk_alloc ?_ _)); refine blk_put (cs := #[.bool false, .bool false, .slice none 0 0, .slice none 0 0]) ?_ 1 _ rfl; (with_reducible repeat (first | refine blk_drewN ?_ _ | refine blk_drew ?_ | refine blk_alloc ?_ _)); refine blk_put (cs := #[.bool false, .bool false, .slice none 0 0, .slice none 0 0]) ?_ 0 _ rfl; (with_reducible repeat (first | refine blk_drewN ?_ _ | refine blk_drew ?_ | refine blk_alloc ?_ _)); exact BK106.out) hb); replace HB := Aside0.mk (below_step (Vq HB.out) hb); clear hb ho46; obtain ⟨hcz47_0, hcz47_1, hcz47_2, hcz47_3, hfz47_0, hfz47_1, hfz47_2, hfz47_3⟩ := cz4 BK106.out))
       repeat (go_quiet (first | ((with_reducible refine gate_dst (N := 8) rfl ?_); (try (refine gate_guard (by rfl) ?_; dsimp only)); refine box_ev (cs := #[.bool false, .bool false, .slice none 0 0, .slice none 0 0]) (t := 66) ?_; intro gb106 hg w42 hbox hb; replace HO_6 := Aside0.mk (Kd.S_below (Sq HO_6.out) hb); have BK106 := Aside0.mk (hbox); have GW106 := Aside0.mk (Gq hg HB.out); have GE106 := Aside0.mk (Gq hg HB.out); replace HB := Aside0.mk (below_step (Vq HB.out) hb); have NB101_106 := Aside0.mk ((by rw [hg]; exact Nat.ne_of_lt (blk_lt (g := gb101) (o := .cells #[.bool a0_0, .slice A0_1 l0_1.length c0_1, .slice A0_2 l0_2.length c0_2] 28 (0, 0)) (Bq BK101.out)) : gb101 ≠ gb106)); have NB106_101 := Aside0.mk ((by rw [hg]; exact Nat.ne_of_gt (blk_lt (g := gb101) (o := .cells #[.bool a0_0, .slice A0_1 l0_1.length c0_1, .slice A0_2 l0_2.length c0_2] 28 (0, 0)) (Bq BK101.out)) : gb106 ≠ gb101)); replace BK101 := Aside0.mk (blk_below (g := gb101) (o := .cells #[.bool a0_0, .slice A0_1 l0_1.length c0_1, .slice A0_2 l0_2.length c0_2] 28 (0, 0)) (Bq BK101.out) hb); clear hb hbox hg; have hnb43 := NB106_101.out; have hnc43 := NB101_106.out; obtain ⟨hcz44_0, hcz44_1, hcz44_2, hcz44_3, hfz44_0, hfz44_1, hfz44_2, hfz44_3⟩ := cz4 BK106.out) | ((with_reducible refine gate_dst (N := 30) rfl ?_); (try (refine gate_guard (by rfl) ?_; dsimp only)); refine Kd.R_lit (Kd.int .i64) _ 3 ?hg (N := 30) ?hd (xs := ([] : List Int)) (inner := []) (ok := fun _ => True) (okp := fun _ => True) ?hr ?hp (fun _ hk => hk) trivial (Below.refl _ _) (Nat.le_refl _) (by simp) ?_; (case hd => rfl); (case hg => rfl); (case hr => first | (go_simp; done) | (go_simp; rfl)); (case hp => exact (Reps.none _ _)); intro v108 w45 ho46 hb hg_ hnew_; clear hg_ hnew_; (first | rw [← Ny107.out] at ho46 | (simp only [Int.reduceToNat] at ho46; rw [← Ny107.out] at ho46)); replace HO_6 := Aside0.mk (Kd.S_elder' (Sq (Kd.S_mono (Kd.S_far (p := ⟨gb106, 3, none⟩) (Kd.S_far (p := ⟨gb106, 2, none⟩) (Kd.S_far (p := ⟨gb106, 1, none⟩) (Kd.S_far (p := ⟨gb106, 0, none⟩) (Kd.S_types HO_6.out BK106.out (by decide)) (fun _ hk => hk.2) (.bool false)) (fun _ hk => hk.2) (.bool ((rd_T66 l1 x7_1).f1.f0))) (fun _ hk => hk.2) (.slice A105_2 ((rd_T66 l1 x7_1).f1.f1).length c105_2)) (fun _ hk => hk.2) (.slice A105_3 ((rd_T66 l1 x7_1).f1.f2).length c105_3)) (fun _ h_ => h_.1))) (Kd.R_base ho46) hb); have HO109 := Aside0.mk (Kd.R_lower ho46 (below_size (Vq HB.out))); replace BK101 := Aside0.mk (blk_below (g := gb101) (o := .cells #[.bool a0_0, .slice A0_1 l0_1.length c0_1, .slice A0_2 l0_2.length c0_2] 28 (0, 0)) (by (with_reducible repeat (first | refine blk_drewN ?_ _ | refine blk_drew ?_ | refine blk_alloc ?_ _)); refine blk_far ?_ NB101_106.out _; (with_reducible repeat (first | refine blk_drewN ?_ _ | refine blk_drew ?_ | refine blk_alloc ?_ _)); refine blk_far ?_ NB101_106.out _; (with_reducible repeat (first | refine blk_drewN ?_ _ | refine blk_drew ?_ | refine blk_alloc ?_ _)); refine blk_far ?_ NB101_106.out _; (with_reducible repeat (first | refine blk_drewN ?_ _ | refine blk_drew ?_ | refine blk_alloc ?_ _)); refine blk_far ?_ NB101_106.out _; (with_reducible repeat (first | refine blk_drewN ?_ _ | refine blk_drew ?_ | refine blk_alloc ?_ _)); exact BK101.out) hb); replace BK106 := Aside0.mk (blk_below (g := gb106) (o := .cells #[.bool false, .bool ((rd_T66 l1 x7_1).f1.f0), .slice A105_2 ((rd_T66 l1 x7_1).f1.f1).length c105_2, .slice A105_3 ((rd_T66 l1 x7_1).f1.f2).length c105_3] 66 (0, 0)) (by (with_reducible repeat (first | refine blk_drewN ?_ _ | refine blk_drew ?_ | refine blk_alloc ?_ _)); refine blk_put (cs := #[.bool false, .bool ((rd_T66 l1 x7_1).f1.f0), .slice A105_2 ((rd_T66 l1 x7_1).f1.f1).length c105_2, .slice none 0 0]) ?_ 3 _ rfl; (with_reducible repeat (first | refine blk_drewN ?_ _ | refine blk_drew ?_ | refine blk_alloc ?_ _)); refine blk_put (cs := #[.bool false, .bool ((rd_T66 l1 x7_1).f1.f0), .slice none 0 0, .slice none 0 0]) ?_ 2 _ rfl; (with_reducible repeat (first | refine blk_drewN ?_ _ | refine blk_drew ?_ | refine blk_alloc ?_ _)); refine blk_put (cs := #[.bool false, .bool false, .slice none 0 0, .slice none 0 0]) ?_ 1 _ rfl; (with_reducible repeat (first | refine blk_drewN ?_ _ | refine blk_drew ?_ | refine blk_alloc ?_ _)); refine blk_put (cs := #[.bool false, .bool false, .slice none 0 0, .slice none 0 0]) ?_ 0 _ rfl; (with_reducible repeat (first | refine blk_drewN ?_ _ | refine blk_drew ?_ | refine blk_alloc ?_ _)); exact BK106.out) hb); replace HB := Aside0.mk (below_step (Vq HB.out) hb); clear hb ho46; obtain ⟨hcz47_0, hcz47_1, hcz47_2, hcz47_3, hfz47_0, hfz47_1, hfz47_2, hfz47_3⟩ := cz4 BK106.out)); go_upto_region 16 with (first | ((with_reducible refine gate_dst (N := 8) rfl ?_); (try (refine gate_guard (by rfl) ?_; dsimp only)); refine box_ev (cs := #[.bool false, .bool false, .slice none 0 0, .slice none 0 0]) (t := 66) ?_; intro gb106 hg w42 hbox hb; replace HO_6 := Aside0.mk (Kd.S_below (Sq HO_6.out) hb); have BK106 := Aside0.mk (hbox); have GW106 := Aside0.mk (Gq hg HB.out); have GE106 := Aside0.mk (Gq hg HB.out); replace HB := Aside0.mk (below_step (Vq HB.out) hb); have NB101_106 := Aside0.mk ((by rw [hg]; exact Nat.ne_of_lt (blk_lt (g := gb101) (o := .cells #[.bool a0_0, .slice A0_1 l0_1.length c0_1, .slice A0_2 l0_2.length c0_2] 28 (0, 0)) (Bq BK101.out)) : gb101 ≠ gb106)); have NB106_101 := Aside0.mk ((by rw [hg]; exact Nat.ne_of_gt (blk_lt (g := gb101) (o := .cells #[.bool a0_0, .slice A0_1 l0_1.length c0_1, .slice A0_2 l0_2.length c0_2] 28 (0, 0)) (Bq BK101.out)) : gb106 ≠ gb101)); replace BK101 := Aside0.mk (blk_below (g := gb101) (o := .cells #[.bool a0_0, .slice A0_1 l0_1.length c0_1, .slice A0_2 l0_2.length c0_2] 28 (0, 0)) (Bq BK101.out) hb); clear hb hbox hg; have hnb43 := NB106_101.out; have hnc43 := NB101_106.out; obtain ⟨hcz44_0, hcz44_1, hcz44_2, hcz44_3, hfz44_0, hfz44_1, hfz44_2, hfz44_3⟩ := cz4 BK106.out) | ((with_reducible refine gate_dst (N := 30) rfl ?_); (try (refine gate_guard (by rfl) ?_; dsimp only)); refine Kd.R_lit (Kd.int .i64) _ 3 ?hg (N := 30) ?hd (xs := ([] : List Int)) (inner := []) (ok := fun _ => True) (okp := fun _ => True) ?hr ?hp (fun _ hk => hk) trivial (Below.refl _ _) (Nat.le_refl _) (by simp) ?_; (case hd => rfl); (case hg => rfl); (case hr => first | (go_simp; done) | (go_simp; rfl)); (case hp => exact (Reps.none _ _)); intro v108 w45 ho46 hb hg_ hnew_; clear hg_ hnew_; (first | rw [← Ny107.out] at ho46 | (simp only [Int.reduceToNat] at ho46; rw [← Ny107.out] at ho46)); replace HO_6 := Aside0.mk (Kd.S_elder' (Sq (Kd.S_mono (Kd.S_far (p := ⟨gb106, 3, none⟩) (Kd.S_far (p := ⟨gb106, 2, none⟩) (Kd.S_far (p := ⟨gb106, 1, none⟩) (Kd.S_far (p := ⟨gb106, 0, none⟩) (Kd.S_types HO_6.out BK106.out (by decide)) (fun _ hk => hk.2) (.bool false)) (fun _ hk => hk.2) (.bool ((rd_T66 l1 x7_1).f1.f0))) (fun _ hk => hk.2) (.slice A105_2 ((rd_T66 l1 x7_1).f1.f1).length c105_2)) (fun _ hk => hk.2) (.slice A105_3 ((rd_T66 l1 x7_1).f1.f2).length c105_3)) (fun _ h_ => h_.1))) (Kd.R_base ho46) hb); have HO109 := Aside0.mk (Kd.R_lower ho46 (below_size (Vq HB.out))); replace BK101 := Aside0.mk (blk_below (g := gb101) (o := .cells #[.bool a0_0, .slice A0_1 l0_1.length c0_1, .slice A0_2 l0_2.length c0_2] 28 (0, 0)) (by (with_reducible repeat (first | refine blk_drewN ?_ _ | refine blk_drew ?_ | refine blk_alloc ?_ _)); refine blk_far ?_ NB101_106.out _; (with_reducible repeat (first | refine blk_drewN ?_ _ | refine blk_drew ?_ | refine blk_alloc ?_ _)); refine blk_far ?_ NB101_106.out _; (with_reducible repeat (first | refine blk_drewN ?_ _ | refine blk_drew ?_ | refine blk_alloc ?_ _)); refine blk_far ?_ NB101_106.out _; (with_reducible repeat (first | refine blk_drewN ?_ _ | refine blk_drew ?_ | refine blk_alloc ?_ _)); refine blk_far ?_ NB101_106.out _; (with_reducible repeat (first | refine blk_drewN ?_ _ | refine blk_drew ?_ | refine blk_alloc ?_ _)); exact BK101.out) hb); replace BK106 := Aside0.mk (blk_below (g := gb106) (o := .cells #[.bool false, .bool ((rd_T66 l1 x7_1).f1.f0), .slice A105_2 ((rd_T66 l1 x7_1).f1.f1).length c105_2, .slice A105_3 ((rd_T66 l1 x7_1).f1.f2).length c105_3] 66 (0, 0)) (by (with_reducible repeat (first | refine blk_drewN ?_ _ | refine blk_drew ?_ | refine blk_alloc ?_ _)); refine blk_put (cs := #[.bool false, .bool ((rd_T66 l1 x7_1).f1.f0), .slice A105_2 ((rd_T66 l1 x7_1).f1.f1).length c105_2, .slice none 0 0]) ?_ 3 _ rfl; (with_reducible repeat (first | refine blk_drewN ?_ _ | refine blk_drew ?_ | refine blk_alloc ?_ _)); refine blk_put (cs := #[.bool false, .bool ((rd_T66 l1 x7_1).f1.f0), .slice none 0 0, .slice none 0 0]) ?_ 2 _ rfl; (with_reducible repeat (first | refine blk_drewN ?_ _ | refine blk_drew ?_ | refine blk_alloc ?_ _)); refine blk_put (cs := #[.bool false, .bool false, .slice none 0 0, .slice none 0 0]) ?_ 1 _ rfl; (with_reducible repeat (first | refine blk_drewN ?_ _ | refine blk_drew ?_ | refine blk_alloc ?_ _)); refine blk_put (cs := #[.bool false, .bool false, .slice none 0 0, .slice none 0 0]) ?_ 0 _ rfl; (with_reducible repeat (first | refine blk_drewN ?_ _ | refine blk_drew ?_ | refine blk_alloc ?_ _)); exact BK106.out) hb); replace HB := Aside0.mk (below_step (Vq HB.out) hb); clear hb ho46; obtain ⟨hcz47_0, hcz47_1, hcz47_2, hcz47_3, hfz47_0, hfz47_1, hfz47_2, hfz47_3⟩ := cz4 BK106.out)))
       (try simp only [Act.put, List.setIfInBounds_toArray, List.set_cons_zero, List.set_cons_succ])
       go_cut [72] (fun v72 wc => ∃ (kq : Nat) (x72_40 : Bool), v72 = .bool x72_40 ∧ Aside0 (spec_l5Picks.j3 kq l1 x6_1 x7_1 y107 x72_40 a0_0 l0_1 l0_2 false ((rd_T66 l1 x7_1).f1.f0) ((rd_T66 l1 x7_1).f1.f1) ((rd_T66 l1 x7_1).f1.f2) = some (r1, r2)) ∧ Aside0 (kq ≤ k1) ∧ Aside0 (Kd.S (Kd.slice 3 (Kd.int .i64)) 22 wc w.heap.size (fun k_ => some k_ ≠ (v108 : Value).ownBlock) u6 x6_1) ∧ Aside0 (Kd.R (Kd.int .i64) 3 wc w.heap.size (fun _ => True) v108 y107) ∧ Aside0 (wc.heap[gb101]? = some (.cells #[.bool a0_0, (.slice A0_1 l0_1.length c0_1), (.slice A0_2 l0_2.length c0_2)] 28 (0, 0))) ∧ Aside0 (wc.heap[gb106]? = some (.cells #[.bool false, .bool ((rd_T66 l1 x7_1).f1.f0), (.slice A105_2 ((rd_T66 l1 x7_1).f1.f1).length c105_2), (.slice A105_3 ((rd_T66 l1 x7_1).f1.f2).length c105_3)] 66 (0, 0))) ∧ Aside0 (Below w.heap.size w wc))
       case first =>
        have H := HC41.out
        clear HC41
        replace H := Option.bind_eq_some_iff.mp H
        obtain ⟨t117, A480, H⟩ := H
        replace H : (if t117 = true then (spec_l5Picks.j3 k1 l1 x6_1 x7_1 y107 ((rd_T66 l1 x7_1).f1.f0) a0_0 l0_1 l0_2 false ((rd_T66 l1 x7_1).f1.f0) ((rd_T66 l1 x7_1).f1.f1) ((rd_T66 l1 x7_1).f1.f2)) else (spec_l5Picks.j3 k1 l1 x6_1 x7_1 y107 true a0_0 l0_1 l0_2 false ((rd_T66 l1 x7_1).f1.f0) ((rd_T66 l1 x7_1).f1.f1) ((rd_T66 l1 x7_1).f1.f2))) = some (r1, r2) := H
        have A48 := Aside0.mk A480
        clear A480
        by_cases c49 : t117 = true
        ·subst c49
         have H1 : (spec_l5Picks.j3 k1 l1 x6_1 x7_1 y107 ((rd_T66 l1 x7_1).f1.f0) a0_0 l0_1 l0_2 false ((rd_T66 l1 x7_1).f1.f0) ((rd_T66 l1 x7_1).f1.f1) ((rd_T66 l1 x7_1).f1.f2)) = some (r1, r2) := by rw [if_pos rfl] at H; exact H
         clear H
         have H := H1
         clear H1
         have H' := Aside0.mk H
         clear H
         have hnb50 := NB106_101.out
         have hnc50 := NB101_106.out
         have hcz51_0 : w45.cell? ⟨gb106, 0, none⟩ = some (.bool false) := by first | exact (blk_cell BK106.out 0).trans rfl | exact (blk_cell BK106.out 0).trans (by show some (Value.bool _) = _; rw [← Nbq19.out])
         have hcz51_1 : w45.cell? ⟨gb106, 1, none⟩ = some (.bool ((rd_T66 l1 x7_1).f1.f0)) := (blk_cell BK106.out 1).trans rfl
         have hcz51_2 : w45.cell? ⟨gb106, 2, none⟩ = some (.slice A105_2 ((rd_T66 l1 x7_1).f1.f1).length c105_2) := (blk_cell BK106.out 2).trans rfl
         have hcz51_3 : w45.cell? ⟨gb106, 3, none⟩ = some (.slice A105_3 ((rd_T66 l1 x7_1).f1.f2).length c105_3) := (blk_cell BK106.out 3).trans rfl
         have hfz51_0 := blk_frozen BK106.out 0
         have hfz51_1 := blk_frozen BK106.out 1
         have hfz51_2 := blk_frozen BK106.out 2
         have hfz51_3 := blk_frozen BK106.out 3
         go_wp2_with (first | (go_at_call 47; (with_reducible refine (spec_ArrayOk.calls k1 ((rd_T66 l1 x7_1).f1.f0) _ _ ((rd_T66 l1 x7_1).f1.f1) _ _ ((rd_T66 l1 x7_1).f1.f2) true _ ?side1 ?side2 ?side3 ?side4 A48.out).mono ?_); (case side1 => exact Cq (Kd.C_below HR105_2.out HB.out)); (case side2 => exact HC105_2.out); (case side3 => exact Cq (Kd.C_below HR105_3.out HB.out)); (case side4 => exact HC105_3.out); rintro e w52 ⟨rfl, hb⟩; replace HO_6 := Aside0.mk (Kd.S_below (Sq HO_6.out) hb); replace HO109 := Aside0.mk (Kd.R_below (Rq HO109.out) hb); replace BK101 := Aside0.mk (blk_below (g := gb101) (o := .cells #[.bool a0_0, .slice A0_1 l0_1.length c0_1, .slice A0_2 l0_2.length c0_2] 28 (0, 0)) (Bq BK101.out) hb); replace BK106 := Aside0.mk (blk_below (g := gb106) (o := .cells #[.bool false, .bool ((rd_T66 l1 x7_1).f1.f0), .slice A105_2 ((rd_T66 l1 x7_1).f1.f1).length c105_2, .slice A105_3 ((rd_T66 l1 x7_1).f1.f2).length c105_3] 66 (0, 0)) (Bq BK106.out) hb); replace HB := Aside0.mk (below_step (Vq HB.out) hb); (try clear hb); (try clear hb2); (try clear hk); (try clear hi); obtain ⟨hcz53_0, hcz53_1, hcz53_2, hcz53_3, hfz53_0, hfz53_1, hfz53_2, hfz53_3⟩ := cz4 BK106.out))
         repeat (go_quiet (first | (go_at_call 47; (with_reducible refine (spec_ArrayOk.calls k1 ((rd_T66 l1 x7_1).f1.f0) _ _ ((rd_T66 l1 x7_1).f1.f1) _ _ ((rd_T66 l1 x7_1).f1.f2) true _ ?side1 ?side2 ?side3 ?side4 A48.out).mono ?_); (case side1 => exact Cq (Kd.C_below HR105_2.out HB.out)); (case side2 => exact HC105_2.out); (case side3 => exact Cq (Kd.C_below HR105_3.out HB.out)); (case side4 => exact HC105_3.out); rintro e w52 ⟨rfl, hb⟩; replace HO_6 := Aside0.mk (Kd.S_below (Sq HO_6.out) hb); replace HO109 := Aside0.mk (Kd.R_below (Rq HO109.out) hb); replace BK101 := Aside0.mk (blk_below (g := gb101) (o := .cells #[.bool a0_0, .slice A0_1 l0_1.length c0_1, .slice A0_2 l0_2.length c0_2] 28 (0, 0)) (Bq BK101.out) hb); replace BK106 := Aside0.mk (blk_below (g := gb106) (o := .cells #[.bool false, .bool ((rd_T66 l1 x7_1).f1.f0), .slice A105_2 ((rd_T66 l1 x7_1).f1.f1).length c105_2, .slice A105_3 ((rd_T66 l1 x7_1).f1.f2).length c105_3] 66 (0, 0)) (Bq BK106.out) hb); replace HB := Aside0.mk (below_step (Vq HB.out) hb); (try clear hb); (try clear hb2); (try clear hk); (try clear hi); obtain ⟨hcz53_0, hcz53_1, hcz53_2, hcz53_3, hfz53_0, hfz53_1, hfz53_2, hfz53_3⟩ := cz4 BK106.out)); try go_wp2_with (first | (go_at_call 47; (with_reducible refine (spec_ArrayOk.calls k1 ((rd_T66 l1 x7_1).f1.f0) _ _ ((rd_T66 l1 x7_1).f1.f1) _ _ ((rd_T66 l1 x7_1).f1.f2) true _ ?side1 ?side2 ?side3 ?side4 A48.out).mono ?_); (case side1 => exact Cq (Kd.C_below HR105_2.out HB.out)); (case side2 => exact HC105_2.out); (case side3 => exact Cq (Kd.C_below HR105_3.out HB.out)); (case side4 => exact HC105_3.out); rintro e w52 ⟨rfl, hb⟩; replace HO_6 := Aside0.mk (Kd.S_below (Sq HO_6.out) hb); replace HO109 := Aside0.mk (Kd.R_below (Rq HO109.out) hb); replace BK101 := Aside0.mk (blk_below (g := gb101) (o := .cells #[.bool a0_0, .slice A0_1 l0_1.length c0_1, .slice A0_2 l0_2.length c0_2] 28 (0, 0)) (Bq BK101.out) hb); replace BK106 := Aside0.mk (blk_below (g := gb106) (o := .cells #[.bool false, .bool ((rd_T66 l1 x7_1).f1.f0), .slice A105_2 ((rd_T66 l1 x7_1).f1.f1).length c105_2, .slice A105_3 ((rd_T66 l1 x7_1).f1.f2).length c105_3] 66 (0, 0)) (Bq BK106.out) hb); replace HB := Aside0.mk (below_step (Vq HB.out) hb); (try clear hb); (try clear hb2); (try clear hk); (try clear hi); obtain ⟨hcz53_0, hcz53_1, hcz53_2, hcz53_3, hfz53_0, hfz53_1, hfz53_2, hfz53_3⟩ := cz4 BK106.out)))
         go_meet
         case rel => exact ⟨_, ((rd_T66 l1 x7_1).f1.f0), (by first | rfl | (simp; done) | (simp [*]; done)), H', ⟨by have := HK1.out; first | omega | exact Nat.le_refl _⟩, ⟨by (with_reducible repeat (first | apply Kd.S_alloc | apply Kd.S_drewN | apply Kd.S_drew)); exact Kd.S_mono HO_6.out (fun _ hk => hk.2)⟩, ⟨Rq HO109.out⟩, ⟨Bq BK101.out⟩, ⟨by (with_reducible repeat (first | refine blk_drewN ?_ _ | refine blk_drew ?_ | refine blk_alloc ?_ _)); first | exact BK106.out | exact BKo106.out⟩, ⟨Vq HB.out⟩⟩
        ·replace c49 := Bool.eq_false_iff.mpr c49
         subst c49
         have H1 : (spec_l5Picks.j3 k1 l1 x6_1 x7_1 y107 true a0_0 l0_1 l0_2 false ((rd_T66 l1 x7_1).f1.f0) ((rd_T66 l1 x7_1).f1.f1) ((rd_T66 l1 x7_1).f1.f2)) = some (r1, r2) := by rw [if_neg (show ¬ (false = true) by decide)] at H; exact H
         clear H
         have H := H1
         clear H1
         have H' := Aside0.mk H
         clear H
         have hnb54 := NB106_101.out
         have hnc54 := NB101_106.out
         have hcz55_0 : w45.cell? ⟨gb106, 0, none⟩ = some (.bool false) := by first | exact (blk_cell BK106.out 0).trans rfl | exact (blk_cell BK106.out 0).trans (by show some (Value.bool _) = _; rw [← Nbq19.out])
         have hcz55_1 : w45.cell? ⟨gb106, 1, none⟩ = some (.bool ((rd_T66 l1 x7_1).f1.f0)) := (blk_cell BK106.out 1).trans rfl
         have hcz55_2 : w45.cell? ⟨gb106, 2, none⟩ = some (.slice A105_2 ((rd_T66 l1 x7_1).f1.f1).length c105_2) := (blk_cell BK106.out 2).trans rfl
         have hcz55_3 : w45.cell? ⟨gb106, 3, none⟩ = some (.slice A105_3 ((rd_T66 l1 x7_1).f1.f2).length c105_3) := (blk_cell BK106.out 3).trans rfl
         have hfz55_0 := blk_frozen BK106.out 0
         have hfz55_1 := blk_frozen BK106.out 1
         have hfz55_2 := blk_frozen BK106.out 2
         have hfz55_3 := blk_frozen BK106.out 3
         go_wp2_with (first | (go_at_call 47; (with_reducible refine (spec_ArrayOk.calls k1 ((rd_T66 l1 x7_1).f1.f0) _ _ ((rd_T66 l1 x7_1).f1.f1) _ _ ((rd_T66 l1 x7_1).f1.f2) false _ ?side1 ?side2 ?side3 ?side4 A48.out).mono ?_); (case side1 => exact Cq (Kd.C_below HR105_2.out HB.out)); (case side2 => exact HC105_2.out); (case side3 => exact Cq (Kd.C_below HR105_3.out HB.out)); (case side4 => exact HC105_3.out); rintro e w56 ⟨rfl, hb⟩; replace HO_6 := Aside0.mk (Kd.S_below (Sq HO_6.out) hb); replace HO109 := Aside0.mk (Kd.R_below (Rq HO109.out) hb); replace BK101 := Aside0.mk (blk_below (g := gb101) (o := .cells #[.bool a0_0, .slice A0_1 l0_1.length c0_1, .slice A0_2 l0_2.length c0_2] 28 (0, 0)) (Bq BK101.out) hb); replace BK106 := Aside0.mk (blk_below (g := gb106) (o := .cells #[.bool false, .bool ((rd_T66 l1 x7_1).f1.f0), .slice A105_2 ((rd_T66 l1 x7_1).f1.f1).length c105_2, .slice A105_3 ((rd_T66 l1 x7_1).f1.f2).length c105_3] 66 (0, 0)) (Bq BK106.out) hb); replace HB := Aside0.mk (below_step (Vq HB.out) hb); (try clear hb); (try clear hb2); (try clear hk); (try clear hi)))
         repeat (go_quiet (first | (go_at_call 47; (with_reducible refine (spec_ArrayOk.calls k1 ((rd_T66 l1 x7_1).f1.f0) _ _ ((rd_T66 l1 x7_1).f1.f1) _ _ ((rd_T66 l1 x7_1).f1.f2) false _ ?side1 ?side2 ?side3 ?side4 A48.out).mono ?_); (case side1 => exact Cq (Kd.C_below HR105_2.out HB.out)); (case side2 => exact HC105_2.out); (case side3 => exact Cq (Kd.C_below HR105_3.out HB.out)); (case side4 => exact HC105_3.out); rintro e w56 ⟨rfl, hb⟩; replace HO_6 := Aside0.mk (Kd.S_below (Sq HO_6.out) hb); replace HO109 := Aside0.mk (Kd.R_below (Rq HO109.out) hb); replace BK101 := Aside0.mk (blk_below (g := gb101) (o := .cells #[.bool a0_0, .slice A0_1 l0_1.length c0_1, .slice A0_2 l0_2.length c0_2] 28 (0, 0)) (Bq BK101.out) hb); replace BK106 := Aside0.mk (blk_below (g := gb106) (o := .cells #[.bool false, .bool ((rd_T66 l1 x7_1).f1.f0), .slice A105_2 ((rd_T66 l1 x7_1).f1.f1).length c105_2, .slice A105_3 ((rd_T66 l1 x7_1).f1.f2).length c105_3] 66 (0, 0)) (Bq BK106.out) hb); replace HB := Aside0.mk (below_step (Vq HB.out) hb); (try clear hb); (try clear hb2); (try clear hk); (try clear hi))); try go_wp2_with (first | (go_at_call 47; (with_reducible refine (spec_ArrayOk.calls k1 ((rd_T66 l1 x7_1).f1.f0) _ _ ((rd_T66 l1 x7_1).f1.f1) _ _ ((rd_T66 l1 x7_1).f1.f2) false _ ?side1 ?side2 ?side3 ?side4 A48.out).mono ?_); (case side1 => exact Cq (Kd.C_below HR105_2.out HB.out)); (case side2 => exact HC105_2.out); (case side3 => exact Cq (Kd.C_below HR105_3.out HB.out)); (case side4 => exact HC105_3.out); rintro e w56 ⟨rfl, hb⟩; replace HO_6 := Aside0.mk (Kd.S_below (Sq HO_6.out) hb); replace HO109 := Aside0.mk (Kd.R_below (Rq HO109.out) hb); replace BK101 := Aside0.mk (blk_below (g := gb101) (o := .cells #[.bool a0_0, .slice A0_1 l0_1.length c0_1, .slice A0_2 l0_2.length c0_2] 28 (0, 0)) (Bq BK101.out) hb); replace BK106 := Aside0.mk (blk_below (g := gb106) (o := .cells #[.bool false, .bool ((rd_T66 l1 x7_1).f1.f0), .slice A105_2 ((rd_T66 l1 x7_1).f1.f1).length c105_2, .slice A105_3 ((rd_T66 l1 x7_1).f1.f2).length c105_3] 66 (0, 0)) (Bq BK106.out) hb); replace HB := Aside0.mk (below_step (Vq HB.out) hb); (try clear hb); (try clear hb2); (try clear hk); (try clear hi))))
         go_meet
         case rel => exact ⟨_, (true), (by first | rfl | (simp; done) | (simp [*]; done)), H', ⟨by have := HK1.out; first | omega | exact Nat.le_refl _⟩, ⟨by (with_reducible repeat (first | apply Kd.S_alloc | apply Kd.S_drewN | apply Kd.S_drew)); exact Kd.S_mono HO_6.out (fun _ hk => hk.2)⟩, ⟨Rq HO109.out⟩, ⟨Bq BK101.out⟩, ⟨by (with_reducible repeat (first | refine blk_drewN ?_ _ | refine blk_drew ?_ | refine blk_alloc ?_ _)); first | exact BK106.out | exact BKo106.out⟩, ⟨Vq HB.out⟩⟩
       case rest =>
        clear HC41
        (try clear c1); (try clear p1); (try clear q1); (try clear hx1); (try clear c2); (try clear p2); (try clear c3); (try clear c3b0); (try clear c3b1); (try clear c3b2); (try clear c4); (try clear c5); (try clear p6); (try clear c8); (try clear c8b0); (try clear c9); (try clear c9b0); (try clear c10); (try clear p10); (try clear q10); (try clear hx10); (try clear c11); (try clear p11); (try clear q11); (try clear hx11); (try clear c14); (try clear q19); (try clear c20); (try clear c21); (try clear c23); (try clear c23b0); (try clear c23b1); (try clear c24); (try clear c26); (try clear c28); (try clear c29); (try clear c29b0); (try clear c30); (try clear c30b0); (try clear c31); (try clear c31b0); (try clear c32); (try clear c33); (try clear c36); (try clear c37); (try clear c43); (try clear c49); (try clear c50); (try clear c54); (try clear hx105_0); (try clear hx105_1); (try clear hx105_2); (try clear hx105_3); (try clear hx110_0); (try clear p1); (try clear p10); (try clear p105); (try clear p110); (try clear p2); (try clear q1); (try clear q10); (try clear q105); (try clear q110); (try clear q19); (try clear hcz15_0 hcz15_1 hcz15_2 hcz15_3 hfz15_0 hfz15_1 hfz15_2 hfz15_3); (try clear hcz18_0 hcz18_1 hcz18_2 hcz18_3 hfz18_0 hfz18_1 hfz18_2 hfz18_3); (try clear hcz22_0 hcz22_1 hcz22_2 hcz22_3 hfz22_0 hfz22_1 hfz22_2 hfz22_3); (try clear hcz25_0 hcz25_1 hcz25_2 hcz25_3 hfz25_0 hfz25_1 hfz25_2 hfz25_3); (try clear hcz27_0 hcz27_1 hcz27_2 hcz27_3 hfz27_0 hfz27_1 hfz27_2 hfz27_3); (try clear hcz34_0 hcz34_1 hcz34_2 hfz34_0 hfz34_1 hfz34_2); (try clear hcz38_0 hcz38_1 hcz38_2 hfz38_0 hfz38_1 hfz38_2); (try clear hcz44_0 hcz44_1 hcz44_2 hcz44_3 hfz44_0 hfz44_1 hfz44_2 hfz44_3); (try clear hcz47_0 hcz47_1 hcz47_2 hcz47_3 hfz47_0 hfz47_1 hfz47_2 hfz47_3); (try clear hcz51_0 hcz51_1 hcz51_2 hcz51_3 hfz51_0 hfz51_1 hfz51_2 hfz51_3); (try clear hcz53_0 hcz53_1 hcz53_2 hcz53_3 hfz53_0 hfz53_1 hfz53_2 hfz53_3); (try clear hcz55_0 hcz55_1 hcz55_2 hcz55_3 hfz55_0 hfz55_1 hfz55_2 hfz55_3); (try clear hcz7_0 hcz7_1 hcz7_2 hfz7_0 hfz7_1 hfz7_2)
        obtain ⟨kq, x72_40, rfl, HA, HJ40, HO_6, HO_9, BK101, BK106, HB⟩ := hcut
        cases kq with
        | zero => exact absurd HA.out (by simp [spec_l5Picks.j3])
        | succ kj40 =>
         have H := HA.out
         clear HA
         simp only [spec_l5Picks.j3] at H
         by_cases c57 : x72_40 = true
         ·subst c57
          have H1 : (some (x6_1, 3)) = some (r1, r2) := by rw [if_pos rfl] at H; exact H
          clear H
          have H := H1
          clear H1
          simp only [Option.some.injEq, Prod.mk.injEq] at H
          obtain ⟨rfl, rfl⟩ := H
          go_wp2
          repeat (go_quiet (fail); try go_wp2)
          go_ret2
          exact ⟨_, by first | rfl | (simp [errW_none, errW_some] <;> rfl) | (simp [*, errW_none, errW_some] <;> rfl), by (with_reducible repeat (first | apply Kd.S_alloc | apply Kd.S_drewN | apply Kd.S_drew)); exact Kd.S_mono HO_6.out (fun _ hk => trivial), by repeat (first | (with_reducible first | exact HB.out | apply below_alloc | apply pw_below_drewN | apply below_drew1 | refine below_set ?_ GE101.out | refine below_set ?_ GE106.out) | exact HB.out)⟩
         ·replace c57 := Bool.eq_false_iff.mpr c57
          subst c57
          have H1 : (spec_l5Picks.l2 kj40 l1 x6_1 x7_1 y107 0 a0_0 l0_1 l0_2 false ((rd_T66 l1 x7_1).f1.f0) ((rd_T66 l1 x7_1).f1.f1) ((rd_T66 l1 x7_1).f1.f2)) = some (r1, r2) := by rw [if_neg (show ¬ (false = true) by decide)] at H; exact H
          clear H
          have H := H1
          clear H1
          have H' := Aside0.mk H
          clear H
          go_wp2
          repeat (go_quiet (fail); try go_wp2)
          go_loopg [9, 11] kj40 (fun kq v9 v11 w' => ∃ (x9_3 : List Int) (x11_3 : Int), v11 = .int .i64 x11_3 ∧ Aside0 (spec_l5Picks.l2 kq l1 x6_1 x7_1 x9_3 x11_3 a0_0 l0_1 l0_2 false ((rd_T66 l1 x7_1).f1.f0) ((rd_T66 l1 x7_1).f1.f1) ((rd_T66 l1 x7_1).f1.f2) = some (r1, r2)) ∧ Aside0 (kq ≤ kj40) ∧ Aside0 (Kd.S (Kd.slice 3 (Kd.int .i64)) 22 w' w.heap.size (fun k_ => some k_ ≠ (v9 : Value).ownBlock) u6 x6_1) ∧ Aside0 (Kd.R (Kd.int .i64) 3 w' w.heap.size (fun _ => True) v9 x9_3) ∧ Aside0 (w'.heap[gb101]? = some (.cells #[.bool a0_0, (.slice A0_1 l0_1.length c0_1), (.slice A0_2 l0_2.length c0_2)] 28 (0, 0))) ∧ Aside0 (w'.heap[gb106]? = some (.cells #[.bool false, .bool ((rd_T66 l1 x7_1).f1.f0), (.slice A105_2 ((rd_T66 l1 x7_1).f1.f1).length c105_2), (.slice A105_3 ((rd_T66 l1 x7_1).f1.f2).length c105_3)] 66 (0, 0))) ∧ Aside0 (Below w.heap.size w w'))
          case atStart => exact ⟨(y107), (0), (by first | rfl | (simp; done) | (simp [*]; done)), H', ⟨Nat.le_refl _⟩, ⟨Sq HO_6.out⟩, ⟨Rq HO_9.out⟩, ⟨Bq BK101.out⟩, ⟨Bq BK106.out⟩, ⟨Vq HB.out⟩⟩
          case round =>
           clear H'
           (try clear c1); (try clear p1); (try clear q1); (try clear hx1); (try clear c2); (try clear p2); (try clear c3); (try clear c3b0); (try clear c3b1); (try clear c3b2); (try clear c4); (try clear c5); (try clear p6); (try clear c8); (try clear c8b0); (try clear c9); (try clear c9b0); (try clear c10); (try clear p10); (try clear q10); (try clear hx10); (try clear c11); (try clear p11); (try clear q11); (try clear hx11); (try clear c14); (try clear q19); (try clear c20); (try clear c21); (try clear c23); (try clear c23b0); (try clear c23b1); (try clear c24); (try clear c26); (try clear c28); (try clear c29); (try clear c29b0); (try clear c30); (try clear c30b0); (try clear c31); (try clear c31b0); (try clear c32); (try clear c33); (try clear c36); (try clear c37); (try clear c43); (try clear c49); (try clear c50); (try clear c54); (try clear c57); (try clear hx105_0); (try clear hx105_1); (try clear hx105_2); (try clear hx105_3); (try clear hx110_0); (try clear p1); (try clear p10); (try clear p105); (try clear p11); (try clear p110); (try clear p2); (try clear p6); (try clear q1); (try clear q10); (try clear q105); (try clear q11); (try clear q110); (try clear q19); (try clear hcz15_0 hcz15_1 hcz15_2 hcz15_3 hfz15_0 hfz15_1 hfz15_2 hfz15_3); (try clear hcz18_0 hcz18_1 hcz18_2 hcz18_3 hfz18_0 hfz18_1 hfz18_2 hfz18_3); (try clear hcz22_0 hcz22_1 hcz22_2 hcz22_3 hfz22_0 hfz22_1 hfz22_2 hfz22_3); (try clear hcz25_0 hcz25_1 hcz25_2 hcz25_3 hfz25_0 hfz25_1 hfz25_2 hfz25_3); (try clear hcz27_0 hcz27_1 hcz27_2 hcz27_3 hfz27_0 hfz27_1 hfz27_2 hfz27_3); (try clear hcz34_0 hcz34_1 hcz34_2 hfz34_0 hfz34_1 hfz34_2); (try clear hcz38_0 hcz38_1 hcz38_2 hfz38_0 hfz38_1 hfz38_2); (try clear hcz44_0 hcz44_1 hcz44_2 hcz44_3 hfz44_0 hfz44_1 hfz44_2 hfz44_3); (try clear hcz47_0 hcz47_1 hcz47_2 hcz47_3 hfz47_0 hfz47_1 hfz47_2 hfz47_3); (try clear hcz51_0 hcz51_1 hcz51_2 hcz51_3 hfz51_0 hfz51_1 hfz51_2 hfz51_3); (try clear hcz53_0 hcz53_1 hcz53_2 hcz53_3 hfz53_0 hfz53_1 hfz53_2 hfz53_3); (try clear hcz55_0 hcz55_1 hcz55_2 hcz55_3 hfz55_0 hfz55_1 hfz55_2 hfz55_3); (try clear hcz7_0 hcz7_1 hcz7_2 hfz7_0 hfz7_1 hfz7_2)
           obtain ⟨x9_3, x11_3, rfl, HA, HK3, HO_6, HO_9, BK101, BK106, HB⟩ := hrel
           cases gk with
           | zero => exact absurd HA.out (by simp [spec_l5Picks.l2])
           | succ k3 =>
            have H := HA.out
            clear HA
            simp only [spec_l5Picks.l2] at H
            by_cases c58 : x11_3 < (((rd_T66 l1 x7_1).f1.f2).length : Int)
            ·rw [if_pos c58] at H
             have c58b0 : decide (x11_3 < (((rd_T66 l1 x7_1).f1.f2).length : Int)) = true := decide_eq_true c58
             clear c58
             by_cases c59 : 0 ≤ x11_3
             ·rw [if_pos c59] at H
              have c59b0 : decide (0 ≤ x11_3) = true := decide_eq_true c59
              clear c59
              by_cases c60 : (rd ((rd_T66 l1 x7_1).f1.f2) x11_3) < 1
              ·rw [if_pos c60] at H
               have c60b0 : decide ((rd ((rd_T66 l1 x7_1).f1.f2) x11_3) < 1) = true := decide_eq_true c60
               clear c60
               simp only [Option.some.injEq, Prod.mk.injEq] at H
               obtain ⟨rfl, rfl⟩ := H
               have hnb61 := NB106_101.out
               have hnc61 := NB101_106.out
               have hcz62_0 : wr.cell? ⟨gb106, 0, none⟩ = some (.bool false) := by first | exact (blk_cell BK106.out 0).trans rfl | exact (blk_cell BK106.out 0).trans (by show some (Value.bool _) = _; rw [← Nbq19.out])
               have hcz62_1 : wr.cell? ⟨gb106, 1, none⟩ = some (.bool ((rd_T66 l1 x7_1).f1.f0)) := (blk_cell BK106.out 1).trans rfl
               have hcz62_2 : wr.cell? ⟨gb106, 2, none⟩ = some (.slice A105_2 ((rd_T66 l1 x7_1).f1.f1).length c105_2) := (blk_cell BK106.out 2).trans rfl
               have hcz62_3 : wr.cell? ⟨gb106, 3, none⟩ = some (.slice A105_3 ((rd_T66 l1 x7_1).f1.f2).length c105_3) := (blk_cell BK106.out 3).trans rfl
               have hfz62_0 := blk_frozen BK106.out 0
               have hfz62_1 := blk_frozen BK106.out 1
               have hfz62_2 := blk_frozen BK106.out 2
               have hfz62_3 := blk_frozen BK106.out 3
               have p118 : 0 ≤ (x11_3 : Int) := Dq
               have q118 : x11_3 < (((rd_T66 l1 x7_1).f1.f2).length : Int) := Dq
               obtain ⟨ad118, e118, hx118_0⟩ := Kd.at_int HR105_3.out x11_3 p118 q118
               cases e118
               replace hx118_0 := Xq HB.out hx118_0
               replace p118 := eq_true p118
               replace q118 := eq_true q118
               go_wp2
               repeat (go_quiet (fail); try go_wp2)
               go_ret2
               exact ⟨_, by first | rfl | (simp [errW_none, errW_some] <;> rfl) | (simp [*, errW_none, errW_some] <;> rfl), by (with_reducible repeat (first | apply Kd.S_alloc | apply Kd.S_drewN | apply Kd.S_drew)); exact Kd.S_mono HO_6.out (fun _ hk => trivial), by repeat (first | (with_reducible first | exact HB.out | apply below_alloc | apply pw_below_drewN | apply below_drew1 | refine below_set ?_ GE101.out | refine below_set ?_ GE106.out) | exact HB.out)⟩
              ·rw [if_neg c60] at H
               have c60b0 : decide ((rd ((rd_T66 l1 x7_1).f1.f2) x11_3) < 1) = false := decide_eq_false c60
               clear c60
               by_cases c63 : 0 ≤ x7_1
               ·rw [if_pos c63] at H
                have c63b0 : decide (0 ≤ x7_1) = true := decide_eq_true c63
                clear c63
                by_cases c64 : x7_1 < (l0_1.length : Int)
                ·rw [if_pos c64] at H
                 have c64b0 : decide (x7_1 < (l0_1.length : Int)) = true := decide_eq_true c64
                 clear c64
                 by_cases c65 : (rd ((rd_T66 l1 x7_1).f1.f2) x11_3) > (rd l0_1 x7_1)
                 ·rw [if_pos c65] at H
                  have c65b0 : decide ((rd l0_1 x7_1) < (rd ((rd_T66 l1 x7_1).f1.f2) x11_3)) = true := decide_eq_true c65
                  clear c65
                  simp only [Option.some.injEq, Prod.mk.injEq] at H
                  obtain ⟨rfl, rfl⟩ := H
                  have hnb66 := NB106_101.out
                  have hnc66 := NB101_106.out
                  have hcz67_0 : wr.cell? ⟨gb106, 0, none⟩ = some (.bool false) := by first | exact (blk_cell BK106.out 0).trans rfl | exact (blk_cell BK106.out 0).trans (by show some (Value.bool _) = _; rw [← Nbq19.out])
                  have hcz67_1 : wr.cell? ⟨gb106, 1, none⟩ = some (.bool ((rd_T66 l1 x7_1).f1.f0)) := (blk_cell BK106.out 1).trans rfl
                  have hcz67_2 : wr.cell? ⟨gb106, 2, none⟩ = some (.slice A105_2 ((rd_T66 l1 x7_1).f1.f1).length c105_2) := (blk_cell BK106.out 2).trans rfl
                  have hcz67_3 : wr.cell? ⟨gb106, 3, none⟩ = some (.slice A105_3 ((rd_T66 l1 x7_1).f1.f2).length c105_3) := (blk_cell BK106.out 3).trans rfl
                  have hfz67_0 := blk_frozen BK106.out 0
                  have hfz67_1 := blk_frozen BK106.out 1
                  have hfz67_2 := blk_frozen BK106.out 2
                  have hfz67_3 := blk_frozen BK106.out 3
                  have p118 : 0 ≤ (x11_3 : Int) := Dq
                  have q118 : x11_3 < (((rd_T66 l1 x7_1).f1.f2).length : Int) := Dq
                  obtain ⟨ad118, e118, hx118_0⟩ := Kd.at_int HR105_3.out x11_3 p118 q118
                  cases e118
                  replace hx118_0 := Xq HB.out hx118_0
                  replace p118 := eq_true p118
                  replace q118 := eq_true q118
                  have p119 : 0 ≤ (x11_3 : Int) := Dq
                  have q119 : x11_3 < (((rd_T66 l1 x7_1).f1.f2).length : Int) := Dq
                  obtain ⟨ad119, e119, hx119_0⟩ := Kd.at_int HR105_3.out x11_3 p119 q119
                  obtain rfl : ad118 = ad119 := (by injection e119)
                  replace hx119_0 := Xq HB.out hx119_0
                  replace p119 := eq_true p119
                  replace q119 := eq_true q119
                  obtain ⟨hcz68_0, hcz68_1, hcz68_2, hfz68_0, hfz68_1, hfz68_2⟩ := cz3 BK101.out
                  have p120 : 0 ≤ (x7_1 : Int) := Dq
                  have q120 : x7_1 < (l0_1.length : Int) := Dq
                  obtain ⟨ad120, e120, hx120_0⟩ := Kd.at_int HR0_1.out x7_1 p120 q120
                  cases e120
                  replace hx120_0 := Xq HB.out hx120_0
                  replace p120 := eq_true p120
                  replace q120 := eq_true q120
                  go_wp2
                  repeat (go_quiet (fail); try go_wp2)
                  go_ret2
                  exact ⟨_, by first | rfl | (simp [errW_none, errW_some] <;> rfl) | (simp [*, errW_none, errW_some] <;> rfl), by (with_reducible repeat (first | apply Kd.S_alloc | apply Kd.S_drewN | apply Kd.S_drew)); exact Kd.S_mono HO_6.out (fun _ hk => trivial), by repeat (first | (with_reducible first | exact HB.out | apply below_alloc | apply pw_below_drewN | apply below_drew1 | refine below_set ?_ GE101.out | refine below_set ?_ GE106.out) | exact HB.out)⟩
                 ·rw [if_neg c65] at H
                  have c65b0 : decide ((rd l0_1 x7_1) < (rd ((rd_T66 l1 x7_1).f1.f2) x11_3)) = false := decide_eq_false c65
                  clear c65
                  by_cases c69 : x9_3.length < 17592186044416
                  ·rw [if_pos c69] at H
                   have LMc69 := Aside0.mk c69
                   clear c69
                   obtain ⟨y122, hy122⟩ : ∃ y_ : List Int, y_ = (x9_3 ++ [wrap64 ((rd ((rd_T66 l1 x7_1).f1.f2) x11_3) - 1)]) := ⟨_, rfl⟩
                   replace H : (spec_l5Picks.l2 k3 l1 x6_1 x7_1 y122 (wrap64 (x11_3 + 1)) a0_0 l0_1 l0_2 false ((rd_T66 l1 x7_1).f1.f0) ((rd_T66 l1 x7_1).f1.f1) ((rd_T66 l1 x7_1).f1.f2)) = some (r1, r2) := by first | (rw [hy122]; with_reducible exact H) | (have H2_ := (Option.bind_some _ _).symm.trans H; rw [hy122]; with_reducible exact H2_) | (have H2_ := (Option.bind_some _ _).symm.trans H; with_reducible exact H2_) | with_reducible exact H | (rw [hy122]; exact H) | exact H
                   have Ny122 := Aside0.mk hy122
                   clear hy122
                   have H' := Aside0.mk H
                   clear H
                   have hnb70 := NB106_101.out
                   have hnc70 := NB101_106.out
                   have hcz71_0 : wr.cell? ⟨gb106, 0, none⟩ = some (.bool false) := by first | exact (blk_cell BK106.out 0).trans rfl | exact (blk_cell BK106.out 0).trans (by show some (Value.bool _) = _; rw [← Nbq19.out])
                   have hcz71_1 : wr.cell? ⟨gb106, 1, none⟩ = some (.bool ((rd_T66 l1 x7_1).f1.f0)) := (blk_cell BK106.out 1).trans rfl
                   have hcz71_2 : wr.cell? ⟨gb106, 2, none⟩ = some (.slice A105_2 ((rd_T66 l1 x7_1).f1.f1).length c105_2) := (blk_cell BK106.out 2).trans rfl
                   have hcz71_3 : wr.cell? ⟨gb106, 3, none⟩ = some (.slice A105_3 ((rd_T66 l1 x7_1).f1.f2).length c105_3) := (blk_cell BK106.out 3).trans rfl
                   have hfz71_0 := blk_frozen BK106.out 0
                   have hfz71_1 := blk_frozen BK106.out 1
                   have hfz71_2 := blk_frozen BK106.out 2
                   have hfz71_3 := blk_frozen BK106.out 3
                   have p118 : 0 ≤ (x11_3 : Int) := Dq
                   have q118 : x11_3 < (((rd_T66 l1 x7_1).f1.f2).length : Int) := Dq
                   obtain ⟨ad118, e118, hx118_0⟩ := Kd.at_int HR105_3.out x11_3 p118 q118
                   cases e118
                   replace hx118_0 := Xq HB.out hx118_0
                   replace p118 := eq_true p118
                   replace q118 := eq_true q118
                   have p119 : 0 ≤ (x11_3 : Int) := Dq
                   have q119 : x11_3 < (((rd_T66 l1 x7_1).f1.f2).length : Int) := Dq
                   obtain ⟨ad119, e119, hx119_0⟩ := Kd.at_int HR105_3.out x11_3 p119 q119
                   obtain rfl : ad118 = ad119 := (by injection e119)
                   replace hx119_0 := Xq HB.out hx119_0
                   replace p119 := eq_true p119
                   replace q119 := eq_true q119
                   obtain ⟨hcz72_0, hcz72_1, hcz72_2, hfz72_0, hfz72_1, hfz72_2⟩ := cz3 BK101.out
                   have p120 : 0 ≤ (x7_1 : Int) := Dq
                   have q120 : x7_1 < (l0_1.length : Int) := Dq
                   obtain ⟨ad120, e120, hx120_0⟩ := Kd.at_int HR0_1.out x7_1 p120 q120
                   cases e120
                   replace hx120_0 := Xq HB.out hx120_0
                   replace p120 := eq_true p120
                   replace q120 := eq_true q120
                   have p121 : 0 ≤ (x11_3 : Int) := Dq
                   have q121 : x11_3 < (((rd_T66 l1 x7_1).f1.f2).length : Int) := Dq
                   obtain ⟨ad121, e121, hx121_0⟩ := Kd.at_int HR105_3.out x11_3 p121 q121
                   obtain rfl : ad118 = ad121 := (by injection e121)
                   replace hx121_0 := Xq HB.out hx121_0
                   replace p121 := eq_true p121
                   replace q121 := eq_true q121
                   go_wp2_with (first | ((with_reducible refine gate_builtin (b := .append) (xs := #[.tmp 104, .tmp 112]) rfl ?_); (try (refine gate_guard (by rfl) ?_; dsimp only)); at_builtin; refine Kd.R_append (Kd.int .i64) (w0 := w) w.heap.size rfl (.tmp 104) (.tmp 112) 22 3 (.int .i64 0) 8 rfl Try.underlying22 info3 rfl (by decide) (by omega) u9 x9_3 (wrap64 ((rd ((rd_T66 l1 x7_1).f1.f2) x11_3) - 1)) [.int .i64 (wrap64 ((rd ((rd_T66 l1 x7_1).f1.f2) x11_3) - 1))] (fun _ => True) (fun _ => False) rfl rfl ?aP (fun _ hk => hk.elim) ?aF ?aO ?aB ?aS ?aL ?_; (case aP => exact rfl); (case aB => exact (Vq HB.out)); (case aF => exact (fun _ _ => trivial)); (case aO => exact (Rq HO_9.out)); (case aS => exact (below_size (Vq HB.out))); (case aL => have := LMc69.out; omega); intro v123 w73 ho hb hg hat; rw [← Ny122.out] at ho; have n0_ := Aside0.mk (Kd.S_after (ok := (fun _ => True)) (Sq (Kd.S_mono HO_6.out (fun _ hk => ⟨trivial, hk⟩))) hg hat); have n1_ := Aside0.mk (blk_grown (g := gb101) (o := .cells #[.bool a0_0, .slice (some ad120) l0_1.length c0_1, .slice A0_2 l0_2.length c0_2] 28 (0, 0)) (Bq BK101.out) hg (Kd.R_ne HO_9.out BK101.out (by decide))); have n2_ := Aside0.mk (blk_grown (g := gb106) (o := .cells #[.bool false, .bool ((rd_T66 l1 x7_1).f1.f0), .slice A105_2 ((rd_T66 l1 x7_1).f1.f1).length c105_2, .slice (some ad118) ((rd_T66 l1 x7_1).f1.f2).length c105_3] 66 (0, 0)) (Bq BK106.out) hg (Kd.R_ne HO_9.out BK106.out (by decide))); have n3_ := Aside0.mk (hb); have n4_ := Aside0.mk (ho); clear HO_6; clear BK101; clear BK106; clear HB; clear HO_9; have HO_6 := n0_; have BK101 := n1_; have BK106 := n2_; have HB := n3_; have HO124 := n4_; clear n0_ n1_ n2_ n3_ n4_; clear ho hb hg hat))
                   repeat (go_quiet (first | ((with_reducible refine gate_builtin (b := .append) (xs := #[.tmp 104, .tmp 112]) rfl ?_); (try (refine gate_guard (by rfl) ?_; dsimp only)); at_builtin; refine Kd.R_append (Kd.int .i64) (w0 := w) w.heap.size rfl (.tmp 104) (.tmp 112) 22 3 (.int .i64 0) 8 rfl Try.underlying22 info3 rfl (by decide) (by omega) u9 x9_3 (wrap64 ((rd ((rd_T66 l1 x7_1).f1.f2) x11_3) - 1)) [.int .i64 (wrap64 ((rd ((rd_T66 l1 x7_1).f1.f2) x11_3) - 1))] (fun _ => True) (fun _ => False) rfl rfl ?aP (fun _ hk => hk.elim) ?aF ?aO ?aB ?aS ?aL ?_; (case aP => exact rfl); (case aB => exact (Vq HB.out)); (case aF => exact (fun _ _ => trivial)); (case aO => exact (Rq HO_9.out)); (case aS => exact (below_size (Vq HB.out))); (case aL => have := LMc69.out; omega); intro v123 w73 ho hb hg hat; rw [← Ny122.out] at ho; have n0_ := Aside0.mk (Kd.S_after (ok := (fun _ => True)) (Sq (Kd.S_mono HO_6.out (fun _ hk => ⟨trivial, hk⟩))) hg hat); have n1_ := Aside0.mk (blk_grown (g := gb101) (o := .cells #[.bool a0_0, .slice (some ad120) l0_1.length c0_1, .slice A0_2 l0_2.length c0_2] 28 (0, 0)) (Bq BK101.out) hg (Kd.R_ne HO_9.out BK101.out (by decide))); have n2_ := Aside0.mk (blk_grown (g := gb106) (o := .cells #[.bool false, .bool ((rd_T66 l1 x7_1).f1.f0), .slice A105_2 ((rd_T66 l1 x7_1).f1.f1).length c105_2, .slice (some ad118) ((rd_T66 l1 x7_1).f1.f2).length c105_3] 66 (0, 0)) (Bq BK106.out) hg (Kd.R_ne HO_9.out BK106.out (by decide))); have n3_ := Aside0.mk (hb); have n4_ := Aside0.mk (ho); clear HO_6; clear BK101; clear BK106; clear HB; clear HO_9; have HO_6 := n0_; have BK101 := n1_; have BK106 := n2_; have HB := n3_; have HO124 := n4_; clear n0_ n1_ n2_ n3_ n4_; clear ho hb hg hat)); try go_wp2_with (first | ((with_reducible refine gate_builtin (b := .append) (xs := #[.tmp 104, .tmp 112]) rfl ?_); (try (refine gate_guard (by rfl) ?_; dsimp only)); at_builtin; refine Kd.R_append (Kd.int .i64) (w0 := w) w.heap.size rfl (.tmp 104) (.tmp 112) 22 3 (.int .i64 0) 8 rfl Try.underlying22 info3 rfl (by decide) (by omega) u9 x9_3 (wrap64 ((rd ((rd_T66 l1 x7_1).f1.f2) x11_3) - 1)) [.int .i64 (wrap64 ((rd ((rd_T66 l1 x7_1).f1.f2) x11_3) - 1))] (fun _ => True) (fun _ => False) rfl rfl ?aP (fun _ hk => hk.elim) ?aF ?aO ?aB ?aS ?aL ?_; (case aP => exact rfl); (case aB => exact (Vq HB.out)); (case aF => exact (fun _ _ => trivial)); (case aO => exact (Rq HO_9.out)); (case aS => exact (below_size (Vq HB.out))); (case aL => have := LMc69.out; omega); intro v123 w73 ho hb hg hat; rw [← Ny122.out] at ho; have n0_ := Aside0.mk (Kd.S_after (ok := (fun _ => True)) (Sq (Kd.S_mono HO_6.out (fun _ hk => ⟨trivial, hk⟩))) hg hat); have n1_ := Aside0.mk (blk_grown (g := gb101) (o := .cells #[.bool a0_0, .slice (some ad120) l0_1.length c0_1, .slice A0_2 l0_2.length c0_2] 28 (0, 0)) (Bq BK101.out) hg (Kd.R_ne HO_9.out BK101.out (by decide))); have n2_ := Aside0.mk (blk_grown (g := gb106) (o := .cells #[.bool false, .bool ((rd_T66 l1 x7_1).f1.f0), .slice A105_2 ((rd_T66 l1 x7_1).f1.f1).length c105_2, .slice (some ad118) ((rd_T66 l1 x7_1).f1.f2).length c105_3] 66 (0, 0)) (Bq BK106.out) hg (Kd.R_ne HO_9.out BK106.out (by decide))); have n3_ := Aside0.mk (hb); have n4_ := Aside0.mk (ho); clear HO_6; clear BK101; clear BK106; clear HB; clear HO_9; have HO_6 := n0_; have BK101 := n1_; have BK106 := n2_; have HB := n3_; have HO124 := n4_; clear n0_ n1_ n2_ n3_ n4_; clear ho hb hg hat)))
                   go_roundg k3
                   case measure => have := HK1.out; have := HJ40.out; have := HK3.out; omega
                   case rel => exact ⟨(y122), (wrap64 (x11_3 + 1)), (by first | rfl | (simp; done) | (simp [*]; done)), H', ⟨by have := HK1.out; have := HJ40.out; have := HK3.out; omega⟩, ⟨by (with_reducible repeat (first | apply Kd.S_alloc | apply Kd.S_drewN | apply Kd.S_drew)); exact Kd.S_mono HO_6.out (fun _ hk => hk.2)⟩, ⟨Rq HO124.out⟩, ⟨Bq BK101.out⟩, ⟨by (with_reducible repeat (first | refine blk_drewN ?_ _ | refine blk_drew ?_ | refine blk_alloc ?_ _)); first | exact BK106.out | exact BKo106.out⟩, ⟨Vq HB.out⟩⟩
                  ·rw [if_neg c69] at H
                   exact absurd H (by simp)
                ·rw [if_neg c64] at H
                 exact absurd H (by simp)
               ·rw [if_neg c63] at H
                exact absurd H (by simp)
             ·rw [if_neg c59] at H
              exact absurd H (by simp)
            ·rw [if_neg c58] at H
             have c58b0 : decide (x11_3 < (((rd_T66 l1 x7_1).f1.f2).length : Int)) = false := decide_eq_false c58
             clear c58
             by_cases c74 : x6_1.length < 5864062014805
             ·rw [if_pos c74] at H
              have LMc74 := Aside0.mk c74
              clear c74
              obtain ⟨y125, hy125⟩ : ∃ y_ : List (List Int), y_ = (x6_1 ++ [x9_3]) := ⟨_, rfl⟩
              replace H : (spec_l5Picks.l0 k3 l1 y125 (wrap64 (x7_1 + 1)) a0_0 l0_1 l0_2) = some (r1, r2) := by first | (rw [hy125]; with_reducible exact H) | (have H2_ := (Option.bind_some _ _).symm.trans H; rw [hy125]; with_reducible exact H2_) | (have H2_ := (Option.bind_some _ _).symm.trans H; with_reducible exact H2_) | with_reducible exact H | (rw [hy125]; exact H) | exact H
              have Ny125 := Aside0.mk hy125
              clear hy125
              have H' := Aside0.mk H
              clear H
              have hnb75 := NB106_101.out
              have hnc75 := NB101_106.out
              have hcz76_0 : wr.cell? ⟨gb106, 0, none⟩ = some (.bool false) := by first | exact (blk_cell BK106.out 0).trans rfl | exact (blk_cell BK106.out 0).trans (by show some (Value.bool _) = _; rw [← Nbq19.out])
              have hcz76_1 : wr.cell? ⟨gb106, 1, none⟩ = some (.bool ((rd_T66 l1 x7_1).f1.f0)) := (blk_cell BK106.out 1).trans rfl
              have hcz76_2 : wr.cell? ⟨gb106, 2, none⟩ = some (.slice A105_2 ((rd_T66 l1 x7_1).f1.f1).length c105_2) := (blk_cell BK106.out 2).trans rfl
              have hcz76_3 : wr.cell? ⟨gb106, 3, none⟩ = some (.slice A105_3 ((rd_T66 l1 x7_1).f1.f2).length c105_3) := (blk_cell BK106.out 3).trans rfl
              have hfz76_0 := blk_frozen BK106.out 0
              have hfz76_1 := blk_frozen BK106.out 1
              have hfz76_2 := blk_frozen BK106.out 2
              have hfz76_3 := blk_frozen BK106.out 3
              obtain ⟨Ao78, co78, eo78⟩ := Kd.R_slice HO_9.out
              subst eo78
              go_wp2_with (first | ((with_reducible refine gate_builtin (b := .append) (xs := #[.tmp 114, .tmp 116]) rfl ?_); (try (refine gate_guard (by rfl) ?_; dsimp only)); at_builtin; refine Kd.S_append (Kd.slice 3 (Kd.int .i64)) (w0 := w) w.heap.size rfl (.tmp 114) (.tmp 116) 117 22 (.slice none 0 0) 24 rfl Try.underlying117 info22 rfl (by decide) (by omega) u6 x6_1 x9_3 [.slice Ao78 x9_3.length co78] (fun _ => True) (fun k_ => some k_ = (.slice Ao78 x9_3.length co78 : Value).ownBlock) rfl rfl ?aP (fun k_ hk_ => ((Kd.R_mono (ok' := fun k_ => ((fun _ => True)) k_ ∧ some k_ ≠ (u6 : Value).ownBlock) (Kd.R_apart' (HO_9.out) (Kd.S_typed HO_6.out) (by decide)) (fun k_ hk => ⟨trivial, hk.2⟩))).1 k_ hk_.symm) ?aF ?aO ?aB ?aS ?aL ?_; (case aP => exact Kd.M_row (Kd.R_mono (Kd.R_tight rfl (Kd.R_mono (ok' := fun k_ => ((fun _ => True)) k_ ∧ some k_ ≠ (u6 : Value).ownBlock) (Kd.R_apart' (HO_9.out) (Kd.S_typed HO_6.out) (by decide)) (fun k_ hk => ⟨trivial, hk.2⟩))) (fun _ h_ => h_))); (case aB => exact (Vq HB.out)); (case aF => exact (fun _ _ => trivial)); (case aO => exact (Sq (Kd.S_mono HO_6.out (fun k_ hk => ⟨trivial, fun e_ => hk e_⟩)))); (case aS => exact (below_size (Vq HB.out))); (case aL => have := LMc74.out; omega); intro v126 w77 ho hb hg hat; rw [← Ny125.out] at ho; have n0_ := Aside0.mk (blk_grown (g := gb101) (o := .cells #[.bool a0_0, .slice A0_1 l0_1.length c0_1, .slice A0_2 l0_2.length c0_2] 28 (0, 0)) (Bq BK101.out) hg (Kd.S_ne HO_6.out BK101.out (by decide))); have n1_ := Aside0.mk (blk_grown (g := gb106) (o := .cells #[.bool false, .bool ((rd_T66 l1 x7_1).f1.f0), .slice A105_2 ((rd_T66 l1 x7_1).f1.f1).length c105_2, .slice A105_3 ((rd_T66 l1 x7_1).f1.f2).length c105_3] 66 (0, 0)) (Bq BK106.out) hg (Kd.S_ne HO_6.out BK106.out (by decide))); have n2_ := Aside0.mk (hb); have n3_ := Aside0.mk (ho); clear BK101; clear BK106; clear HB; clear HO_6; clear HO_9; have BK101 := n0_; have BK106 := n1_; have HB := n2_; have HO127 := n3_; clear n0_ n1_ n2_ n3_; clear ho hb hg hat))
              repeat (go_quiet (first | ((with_reducible refine gate_builtin (b := .append) (xs := #[.tmp 114, .tmp 116]) rfl ?_); (try (refine gate_guard (by rfl) ?_; dsimp only)); at_builtin; refine Kd.S_append (Kd.slice 3 (Kd.int .i64)) (w0 := w) w.heap.size rfl (.tmp 114) (.tmp 116) 117 22 (.slice none 0 0) 24 rfl Try.underlying117 info22 rfl (by decide) (by omega) u6 x6_1 x9_3 [.slice Ao78 x9_3.length co78] (fun _ => True) (fun k_ => some k_ = (.slice Ao78 x9_3.length co78 : Value).ownBlock) rfl rfl ?aP (fun k_ hk_ => ((Kd.R_mono (ok' := fun k_ => ((fun _ => True)) k_ ∧ some k_ ≠ (u6 : Value).ownBlock) (Kd.R_apart' (HO_9.out) (Kd.S_typed HO_6.out) (by decide)) (fun k_ hk => ⟨trivial, hk.2⟩))).1 k_ hk_.symm) ?aF ?aO ?aB ?aS ?aL ?_; (case aP => exact Kd.M_row (Kd.R_mono (Kd.R_tight rfl (Kd.R_mono (ok' := fun k_ => ((fun _ => True)) k_ ∧ some k_ ≠ (u6 : Value).ownBlock) (Kd.R_apart' (HO_9.out) (Kd.S_typed HO_6.out) (by decide)) (fun k_ hk => ⟨trivial, hk.2⟩))) (fun _ h_ => h_))); (case aB => exact (Vq HB.out)); (case aF => exact (fun _ _ => trivial)); (case aO => exact (Sq (Kd.S_mono HO_6.out (fun k_ hk => ⟨trivial, fun e_ => hk e_⟩)))); (case aS => exact (below_size (Vq HB.out))); (case aL => have := LMc74.out; omega); intro v126 w77 ho hb hg hat; rw [← Ny125.out] at ho; have n0_ := Aside0.mk (blk_grown (g := gb101) (o := .cells #[.bool a0_0, .slice A0_1 l0_1.length c0_1, .slice A0_2 l0_2.length c0_2] 28 (0, 0)) (Bq BK101.out) hg (Kd.S_ne HO_6.out BK101.out (by decide))); have n1_ := Aside0.mk (blk_grown (g := gb106) (o := .cells #[.bool false, .bool ((rd_T66 l1 x7_1).f1.f0), .slice A105_2 ((rd_T66 l1 x7_1).f1.f1).length c105_2, .slice A105_3 ((rd_T66 l1 x7_1).f1.f2).length c105_3] 66 (0, 0)) (Bq BK106.out) hg (Kd.S_ne HO_6.out BK106.out (by decide))); have n2_ := Aside0.mk (hb); have n3_ := Aside0.mk (ho); clear BK101; clear BK106; clear HB; clear HO_6; clear HO_9; have BK101 := n0_; have BK106 := n1_; have HB := n2_; have HO127 := n3_; clear n0_ n1_ n2_ n3_; clear ho hb hg hat)); try go_wp2_with (first | ((with_reducible refine gate_builtin (b := .append) (xs := #[.tmp 114, .tmp 116]) rfl ?_); (try (refine gate_guard (by rfl) ?_; dsimp only)); at_builtin; refine Kd.S_append (Kd.slice 3 (Kd.int .i64)) (w0 := w) w.heap.size rfl (.tmp 114) (.tmp 116) 117 22 (.slice none 0 0) 24 rfl Try.underlying117 info22 rfl (by decide) (by omega) u6 x6_1 x9_3 [.slice Ao78 x9_3.length co78] (fun _ => True) (fun k_ => some k_ = (.slice Ao78 x9_3.length co78 : Value).ownBlock) rfl rfl ?aP (fun k_ hk_ => ((Kd.R_mono (ok' := fun k_ => ((fun _ => True)) k_ ∧ some k_ ≠ (u6 : Value).ownBlock) (Kd.R_apart' (HO_9.out) (Kd.S_typed HO_6.out) (by decide)) (fun k_ hk => ⟨trivial, hk.2⟩))).1 k_ hk_.symm) ?aF ?aO ?aB ?aS ?aL ?_; (case aP => exact Kd.M_row (Kd.R_mono (Kd.R_tight rfl (Kd.R_mono (ok' := fun k_ => ((fun _ => True)) k_ ∧ some k_ ≠ (u6 : Value).ownBlock) (Kd.R_apart' (HO_9.out) (Kd.S_typed HO_6.out) (by decide)) (fun k_ hk => ⟨trivial, hk.2⟩))) (fun _ h_ => h_))); (case aB => exact (Vq HB.out)); (case aF => exact (fun _ _ => trivial)); (case aO => exact (Sq (Kd.S_mono HO_6.out (fun k_ hk => ⟨trivial, fun e_ => hk e_⟩)))); (case aS => exact (below_size (Vq HB.out))); (case aL => have := LMc74.out; omega); intro v126 w77 ho hb hg hat; rw [← Ny125.out] at ho; have n0_ := Aside0.mk (blk_grown (g := gb101) (o := .cells #[.bool a0_0, .slice A0_1 l0_1.length c0_1, .slice A0_2 l0_2.length c0_2] 28 (0, 0)) (Bq BK101.out) hg (Kd.S_ne HO_6.out BK101.out (by decide))); have n1_ := Aside0.mk (blk_grown (g := gb106) (o := .cells #[.bool false, .bool ((rd_T66 l1 x7_1).f1.f0), .slice A105_2 ((rd_T66 l1 x7_1).f1.f1).length c105_2, .slice A105_3 ((rd_T66 l1 x7_1).f1.f2).length c105_3] 66 (0, 0)) (Bq BK106.out) hg (Kd.S_ne HO_6.out BK106.out (by decide))); have n2_ := Aside0.mk (hb); have n3_ := Aside0.mk (ho); clear BK101; clear BK106; clear HB; clear HO_6; clear HO_9; have BK101 := n0_; have BK106 := n1_; have HB := n2_; have HO127 := n3_; clear n0_ n1_ n2_ n3_; clear ho hb hg hat)))
              go_roundg k3
              case measure => have := HK1.out; have := HJ40.out; have := HK3.out; omega
              case rel => exact ⟨(y125), (wrap64 (x7_1 + 1)), (by first | rfl | (simp; done) | (simp [*]; done)), H', ⟨by have := HK1.out; have := HJ40.out; have := HK3.out; omega⟩, ⟨Sq HO127.out⟩, ⟨Bq BK101.out⟩, ⟨Vq HB.out⟩⟩
             ·rw [if_neg c74] at H
              exact absurd H (by simp)
     ·rw [if_neg c9] at H
      exact absurd H (by simp)
    ·rw [if_neg c8] at H
     have c8b0 : decide (x7_1 < (l1.length : Int)) = false := decide_eq_false c8
     clear c8
     simp only [Option.some.injEq, Prod.mk.injEq] at H
     obtain ⟨rfl, rfl⟩ := H
     go_wp2
     repeat (go_quiet (fail); try go_wp2)
     go_ret2
     exact ⟨_, by first | rfl | (simp [errW_none, errW_some] <;> rfl) | (simp [*, errW_none, errW_some] <;> rfl), by (with_reducible repeat (first | apply Kd.S_alloc | apply Kd.S_drewN | apply Kd.S_drew)); exact HO_6.out, by repeat (first | (with_reducible first | exact HB.out | apply below_alloc | apply pw_below_drewN | apply below_drew1 | refine below_set ?_ GE101.out) | exact HB.out)⟩
 ·rw [if_neg c3] at H
  have c3b0 : ((l1.length : Int) == (l0_1.length : Int)) = false := beq_eq_false_iff_ne.mpr c3
  have c3b1 : ((l1.length : Int) != (l0_1.length : Int)) = true := bne_iff_ne.mpr c3
  have c3b2 : (l1.length == l0_1.length) = false := by first | simpa using c3 | (simp at c3 ⊢; omega)
  simp only [Option.some.injEq, Prod.mk.injEq] at H
  obtain ⟨rfl, rfl⟩ := H
  go_enter Try.func115, Try.ntmps115
  go_wp2_with (first | ((with_reducible refine gate_dst (N := 2) rfl ?_); (try (refine gate_guard (by rfl) ?_; dsimp only)); refine box_ev (cs := #[.bool a0_0, .slice A0_1 l0_1.length c0_1, .slice A0_2 l0_2.length c0_2]) (t := 28) ?_; intro gb101 hg w79 hbox hb; have BK101 := Aside0.mk (hbox); have GW101 := Aside0.mk (Gq hg HB.out); have GE101 := Aside0.mk (Gq hg HB.out); replace HB := Aside0.mk (below_step (Vq HB.out) hb); clear hb hbox hg) | ((with_reducible refine gate_dst (N := 12) rfl ?_); (try (refine gate_guard (by rfl) ?_; dsimp only)); refine Kd.S_lit (Kd.slice 3 (Kd.int .i64)) _ 22 ?hg (N := 12) ?hd (xs := ([] : List (List Int))) (inner := []) (ok := fun _ => True) (okp := fun _ => True) ?hr ?hp (fun _ hk => hk) trivial (Below.refl _ _) (Nat.le_refl _) (by simp) ?_; (case hd => rfl); (case hg => rfl); (case hr => first | (go_simp; done) | (go_simp; rfl)); (case hp => exact (Reps.none _ _)); intro v103 w80 ho81 hb hg_ hnew_; clear hg_ hnew_; (first | rw [← Ny102.out] at ho81 | (simp only [Int.reduceToNat] at ho81; rw [← Ny102.out] at ho81)); have HO104 := Aside0.mk (Kd.S_lower ho81 (below_size (Vq HB.out))); replace BK101 := Aside0.mk (blk_below (g := gb101) (o := .cells #[.bool a0_0, .slice A0_1 l0_1.length c0_1, .slice A0_2 l0_2.length c0_2] 28 (0, 0)) (Bq BK101.out) hb); replace HB := Aside0.mk (below_step (Vq HB.out) hb); clear hb ho81; obtain ⟨hcz82_0, hcz82_1, hcz82_2, hfz82_0, hfz82_1, hfz82_2⟩ := cz3 BK101.out))
  repeat (go_quiet (first | ((with_reducible refine gate_dst (N := 2) rfl ?_); (try (refine gate_guard (by rfl) ?_; dsimp only)); refine box_ev (cs := #[.bool a0_0, .slice A0_1 l0_1.length c0_1, .slice A0_2 l0_2.length c0_2]) (t := 28) ?_; intro gb101 hg w79 hbox hb; have BK101 := Aside0.mk (hbox); have GW101 := Aside0.mk (Gq hg HB.out); have GE101 := Aside0.mk (Gq hg HB.out); replace HB := Aside0.mk (below_step (Vq HB.out) hb); clear hb hbox hg) | ((with_reducible refine gate_dst (N := 12) rfl ?_); (try (refine gate_guard (by rfl) ?_; dsimp only)); refine Kd.S_lit (Kd.slice 3 (Kd.int .i64)) _ 22 ?hg (N := 12) ?hd (xs := ([] : List (List Int))) (inner := []) (ok := fun _ => True) (okp := fun _ => True) ?hr ?hp (fun _ hk => hk) trivial (Below.refl _ _) (Nat.le_refl _) (by simp) ?_; (case hd => rfl); (case hg => rfl); (case hr => first | (go_simp; done) | (go_simp; rfl)); (case hp => exact (Reps.none _ _)); intro v103 w80 ho81 hb hg_ hnew_; clear hg_ hnew_; (first | rw [← Ny102.out] at ho81 | (simp only [Int.reduceToNat] at ho81; rw [← Ny102.out] at ho81)); have HO104 := Aside0.mk (Kd.S_lower ho81 (below_size (Vq HB.out))); replace BK101 := Aside0.mk (blk_below (g := gb101) (o := .cells #[.bool a0_0, .slice A0_1 l0_1.length c0_1, .slice A0_2 l0_2.length c0_2] 28 (0, 0)) (Bq BK101.out) hb); replace HB := Aside0.mk (below_step (Vq HB.out) hb); clear hb ho81; obtain ⟨hcz82_0, hcz82_1, hcz82_2, hfz82_0, hfz82_1, hfz82_2⟩ := cz3 BK101.out)); try go_wp2_with (first | ((with_reducible refine gate_dst (N := 2) rfl ?_); (try (refine gate_guard (by rfl) ?_; dsimp only)); refine box_ev (cs := #[.bool a0_0, .slice A0_1 l0_1.length c0_1, .slice A0_2 l0_2.length c0_2]) (t := 28) ?_; intro gb101 hg w79 hbox hb; have BK101 := Aside0.mk (hbox); have GW101 := Aside0.mk (Gq hg HB.out); have GE101 := Aside0.mk (Gq hg HB.out); replace HB := Aside0.mk (below_step (Vq HB.out) hb); clear hb hbox hg) | ((with_reducible refine gate_dst (N := 12) rfl ?_); (try (refine gate_guard (by rfl) ?_; dsimp only)); refine Kd.S_lit (Kd.slice 3 (Kd.int .i64)) _ 22 ?hg (N := 12) ?hd (xs := ([] : List (List Int))) (inner := []) (ok := fun _ => True) (okp := fun _ => True) ?hr ?hp (fun _ hk => hk) trivial (Below.refl _ _) (Nat.le_refl _) (by simp) ?_; (case hd => rfl); (case hg => rfl); (case hr => first | (go_simp; done) | (go_simp; rfl)); (case hp => exact (Reps.none _ _)); intro v103 w80 ho81 hb hg_ hnew_; clear hg_ hnew_; (first | rw [← Ny102.out] at ho81 | (simp only [Int.reduceToNat] at ho81; rw [← Ny102.out] at ho81)); have HO104 := Aside0.mk (Kd.S_lower ho81 (below_size (Vq HB.out))); replace BK101 := Aside0.mk (blk_below (g := gb101) (o := .cells #[.bool a0_0, .slice A0_1 l0_1.length c0_1, .slice A0_2 l0_2.length c0_2] 28 (0, 0)) (Bq BK101.out) hb); replace HB := Aside0.mk (below_step (Vq HB.out) hb); clear hb ho81; obtain ⟨hcz82_0, hcz82_1, hcz82_2, hfz82_0, hfz82_1, hfz82_2⟩ := cz3 BK101.out)))
  go_ret2
  exact ⟨_, by first | rfl | (simp [errW_none, errW_some] <;> rfl) | (simp [*, errW_none, errW_some] <;> rfl), by (with_reducible repeat (first | apply Kd.S_alloc | apply Kd.S_drewN | apply Kd.S_drew)); exact HO104.out, by repeat (first | (with_reducible first | exact HB.out | apply below_alloc | apply pw_below_drewN | apply below_drew1 | refine below_set ?_ GE101.out) | exact HB.out)⟩
/-! ### spec_l5Where: function 54 -/
mutual
def spec_l5Where.l0 : Nat → List (S66) → List (List Int) → List Int → List Int → Int → Bool → List Int → List Int → Option (List Int × List Int × Int)
 | 0, _, _, _, _, _, _, _, _ => none
 | k + 1, x1, x7, x9, x10, x11, x102000, x102001, x102002 => if x11 < (x1.length : Int) then (if 0 ≤ x11 then (if x11 < (x7.length : Int) then (if x10.length < 17592186044416 then ((some (x10 ++ [((rd_L2 x7 x11).length : Int)] : List Int)).bind fun y113 => (if (rd_T66 x1 x11).f0 = true then (if x11 < (x102001.length : Int) then (if x9.length < 17592186044416 then (spec_l5Where.l0 k x1 x7 (x9 ++ [rd x102001 x11]) y113 (wrap64 (x11 + 1)) x102000 x102001 x102002) else (none)) else (none)) else (if x9.length + ((rd_T66 x1 x11).f1.f1).length < 17592186044416 then (spec_l5Where.l0 k x1 x7 (x9 ++ ((rd_T66 x1 x11).f1.f1)) y113 (wrap64 (x11 + 1)) x102000 x102001 x102002) else (none)))) else (none)) else (none)) else (none)) else ((spec_l3ShapeOk.f k x9).bind fun t125 => (if t125 = true then ((spec_l3Count.f k x9).bind fun t129 => (spec_l5Where.l1 k x7 x9 x10 (([] : List Int)) t129 0 x102000 x102001 x102002)) else (some (x10, x9, 7))))
def spec_l5Where.l1 : Nat → List (List Int) → List Int → List Int → List Int → Int → Int → Bool → List Int → List Int → Option (List Int × List Int × Int)
 | 0, _, _, _, _, _, _, _, _, _ => none
 | k + 1, x7, x9, x10, x12, x13, x14, x102000, x102001, x102002 => if x14 < x13 then ((spec_l5Index.f k x10 x14).bind fun t130 => (spec_l5Where.l2 k x7 x9 x10 x12 x13 x14 t130 0 x102000 x102001 x102002)) else (some (x12, x9, 0))
def spec_l5Where.l2 : Nat → List (List Int) → List Int → List Int → List Int → Int → Int → List Int → Int → Bool → List Int → List Int → Option (List Int × List Int × Int)
 | 0, _, _, _, _, _, _, _, _, _, _, _ => none
 | k + 1, x7, x9, x10, x12, x13, x14, x15, x16, x102000, x102001, x102002 => if x16 < (x15.length : Int) then (if 0 ≤ x16 then (if x16 < (x7.length : Int) then (if 0 ≤ (rd x15 x16) then (if (rd x15 x16) < ((rd_L2 x7 x16).length : Int) then (spec_l5Where.l2 k x7 x9 x10 x12 x13 x14 (x15.set (x16 : Int).toNat (rd (rd_L2 x7 x16) (rd x15 x16))) (wrap64 (x16 + 1)) x102000 x102001 x102002) else (none)) else (none)) else (none)) else (none)) else ((spec_l5At.f k x102001 x15).bind fun t137 => (if x12.length < 17592186044416 then (spec_l5Where.l1 k x7 x9 x10 (x12 ++ [t137]) x13 (wrap64 (x14 + 1)) x102000 x102001 x102002) else (none)))
end
def spec_l5Where.f (k : Nat) (a0_0 : Bool) (l0_1 : List Int) (l0_2 : List Int) (l1 : List (S66)) : Option (List Int × List Int × Int) := (spec_l5Picks.f k a0_0 l0_1 l0_2 l1).bind fun bt102 => ((some (([] : List Int) : List Int)).bind fun y106 => ((some (([] : List Int) : List Int)).bind fun y109 => (if bt102.2 = 0 then (spec_l5Where.l0 k l1 bt102.1 y106 y109 0 a0_0 l0_1 l0_2) else (some (y109, y106, bt102.2)))))
theorem spec_l5Where.mono_l : ∀ k, (∀ y0 y1 y2 y3 y4 y5 y6 y7, LeO (spec_l5Where.l0 k y0 y1 y2 y3 y4 y5 y6 y7) (spec_l5Where.l0 (k + 1) y0 y1 y2 y3 y4 y5 y6 y7)) ∧ (∀ y0 y1 y2 y3 y4 y5 y6 y7 y8, LeO (spec_l5Where.l1 k y0 y1 y2 y3 y4 y5 y6 y7 y8) (spec_l5Where.l1 (k + 1) y0 y1 y2 y3 y4 y5 y6 y7 y8)) ∧ (∀ y0 y1 y2 y3 y4 y5 y6 y7 y8 y9 y10, LeO (spec_l5Where.l2 k y0 y1 y2 y3 y4 y5 y6 y7 y8 y9 y10) (spec_l5Where.l2 (k + 1) y0 y1 y2 y3 y4 y5 y6 y7 y8 y9 y10))
 | 0 => ⟨fun _ _ _ _ _ _ _ _ r h => by simp [spec_l5Where.l0] at h, fun _ _ _ _ _ _ _ _ _ r h => by simp [spec_l5Where.l1] at h, fun _ _ _ _ _ _ _ _ _ _ _ r h => by simp [spec_l5Where.l2] at h⟩
 | k + 1 => by
  obtain ⟨ih0, ih1, ih2⟩ := spec_l5Where.mono_l k
  refine ⟨?_, ?_, ?_⟩
  case' refine_1 => (intro y0 y1 y2 y3 y4 y5 y6 y7; unfold spec_l5Where.l0)
  case' refine_2 => (intro y0 y1 y2 y3 y4 y5 y6 y7 y8; unfold spec_l5Where.l1)
  case' refine_3 => (intro y0 y1 y2 y3 y4 y5 y6 y7 y8 y9 y10; unfold spec_l5Where.l2)
  all_goals
   repeat' first
   | (with_reducible exact ih0 _ _ _ _ _ _ _ _)
   | (with_reducible exact ih1 _ _ _ _ _ _ _ _ _)
   | (with_reducible exact ih2 _ _ _ _ _ _ _ _ _ _ _)
   | (with_reducible exact spec_l3Count.mono _ _)
   | (with_reducible exact spec_l3ShapeOk.mono _ _)
   | (with_reducible exact spec_l5At.mono _ _ _)
   | (with_reducible exact spec_l5Index.mono _ _ _)
   | (with_reducible exact spec_l5Picks.mono _ _ _ _ _)
   | (with_reducible exact LeO.refl _)
   | (with_reducible exact LeO.none _)
   | (with_reducible refine LeO.ite ?_ ?_)
   | (with_reducible refine LeO.bind ?_ (fun _ => ?_))
   | exact ih0 _ _ _ _ _ _ _ _
   | exact ih1 _ _ _ _ _ _ _ _ _
   | exact ih2 _ _ _ _ _ _ _ _ _ _ _
   | exact spec_l3Count.mono _ _
   | exact spec_l3ShapeOk.mono _ _
   | exact spec_l5At.mono _ _ _
   | exact spec_l5Index.mono _ _ _
   | exact spec_l5Picks.mono _ _ _ _ _
   | exact LeO.none _
   | refine LeO.ite ?_ ?_
   | refine LeO.bind ?_ (fun _ => ?_)
theorem spec_l5Where.mono : ∀ a0 a1 a2 a3 k, LeO (spec_l5Where.f k a0 a1 a2 a3) (spec_l5Where.f (k + 1) a0 a1 a2 a3) := by
 intro a0 a1 a2 a3 k
 obtain ⟨ih0, ih1, ih2⟩ := spec_l5Where.mono_l k
 unfold spec_l5Where.f
 repeat' first
  | (with_reducible exact ih0 _ _ _ _ _ _ _ _)
  | (with_reducible exact ih1 _ _ _ _ _ _ _ _ _)
  | (with_reducible exact ih2 _ _ _ _ _ _ _ _ _ _ _)
  | (with_reducible exact spec_l3Count.mono _ _)
  | (with_reducible exact spec_l3ShapeOk.mono _ _)
  | (with_reducible exact spec_l5At.mono _ _ _)
  | (with_reducible exact spec_l5Index.mono _ _ _)
  | (with_reducible exact spec_l5Picks.mono _ _ _ _ _)
  | (with_reducible exact LeO.refl _)
  | (with_reducible exact LeO.none _)
  | (with_reducible refine LeO.ite ?_ ?_)
  | (with_reducible refine LeO.bind ?_ (fun _ => ?_))
  | exact ih0 _ _ _ _ _ _ _ _
  | exact ih1 _ _ _ _ _ _ _ _ _
  | exact ih2 _ _ _ _ _ _ _ _ _ _ _
  | exact spec_l3Count.mono _ _
  | exact spec_l3ShapeOk.mono _ _
  | exact spec_l5At.mono _ _ _
  | exact spec_l5Index.mono _ _ _
  | exact spec_l5Picks.mono _ _ _ _ _
  | exact LeO.none _
  | refine LeO.ite ?_ ?_
  | refine LeO.bind ?_ (fun _ => ?_)
def spec_l5Where.T24 : Bool × List (List Nat × List Nat) := (true, [([], []), ([], []), ([], []), ([], []), ([2, 3], [2, 3]), ([4], [4]), ([], []), ([], []), ([6, 7], [6, 7]), ([8], [8]), ([5, 9], [5, 9]), ([10], [10]), ([0, 1, 0, 1, 2, 3, 4, 5, 6, 7, 8, 9, 10, 11], [0, 1]), ([12, 11, 0, 1, 2, 3, 4, 5, 6, 7, 8, 9, 10, 11], [11, 12])])
def spec_l5Where.B24 : List Nat := [0, 0, 0, 0, 12, 28, 0, 0, 192, 448, 1020, 2044, 4095, 8191]
theorem spec_l5Where.tab24 : rtab .any (opsOf Try.f54 24) = spec_l5Where.T24 := by kernel_rfl
theorem spec_l5Where.bits24 : waitsOk spec_l5Where.T24.2 spec_l5Where.B24 = true := by kernel_rfl
set_option maxHeartbeats 8000000 in
set_option maxRecDepth 100000 in
theorem spec_l5Where.calls (k : Nat) (a0_0 : Bool) (A0_1 : Option Addr) (c0_1 : Nat) (l0_1 : List Int) (A0_2 : Option Addr) (c0_2 : Nat) (l0_2 : List Int) (A1 : Option Addr) (c1 : Nat) (l1 : List (S66)) (r1 : List Int) (r2 : List Int) (r3 : Int) (w : World) (hr0_1 : Kd.C (Kd.int .i64) w A0_1 l0_1.length l0_1) (hc0_1 : l0_1.length ≤ c0_1) (hr0_2 : Kd.C (Kd.int .i64) w A0_2 l0_2.length l0_2) (hc0_2 : l0_2.length ≤ c0_2) (hr1 : Kd.C k66 w A1 l1.length l1) (hc1 : l1.length ≤ c1) (h : spec_l5Where.f k a0_0 l0_1 l0_2 l1 = some (r1, r2, r3)) :
 Calls Try.prog 54 #[.agg #[.bool a0_0, .slice A0_1 l0_1.length c0_1, .slice A0_2 l0_2.length c0_2], .slice A1 l1.length c1] w fun e w' => ∃ v0_ v1_ : Value, e = .returned (.tuple #[v0_, v1_, .int .i64 r3]) ∧ Kd.R (Kd.int .i64) 3 w' w.heap.size (fun k_ => some k_ ≠ (v1_ : Value).ownBlock) v0_ r1 ∧ Kd.R (Kd.int .i64) 3 w' w.heap.size (fun k_ => some k_ ≠ (v0_ : Value).ownBlock) v1_ r2 ∧ Below w.heap.size w w' := by
 have hu28 := Try.underlying28
 have HR0_1 := Aside0.mk hr0_1
 have HC0_1 := Aside0.mk hc0_1
 clear hr0_1 hc0_1
 have HR0_2 := Aside0.mk hr0_2
 have HC0_2 := Aside0.mk hc0_2
 clear hr0_2 hc0_2
 have HR1 := Aside0.mk hr1
 have HC1 := Aside0.mk hc1
 clear hr1 hc1
 have HB := Aside0.mk (Below.refl w.heap.size w)
 have H : ((spec_l5Picks.f k a0_0 l0_1 l0_2 l1).bind fun bt102 => ((some (([] : List Int) : List Int)).bind fun y106 => ((some (([] : List Int) : List Int)).bind fun y109 => (if bt102.2 = 0 then (spec_l5Where.l0 k l1 bt102.1 y106 y109 0 a0_0 l0_1 l0_2) else (some (y109, y106, bt102.2)))))) = some (r1, r2, r3) := h
 clear h
 replace H := Option.bind_eq_some_iff.mp H
 obtain ⟨⟨t102, t105⟩, A30, H⟩ := H
 replace H : ((some (([] : List Int) : List Int)).bind fun y106 => ((some (([] : List Int) : List Int)).bind fun y109 => (if t105 = 0 then (spec_l5Where.l0 k l1 t102 y106 y109 0 a0_0 l0_1 l0_2) else (some (y109, y106, t105))))) = some (r1, r2, r3) := H
 have A3 := Aside0.mk A30
 clear A30
 obtain ⟨y106, hy106⟩ : ∃ y_ : List Int, y_ = (([] : List Int)) := ⟨_, rfl⟩
 replace H : ((some (([] : List Int) : List Int)).bind fun y109 => (if t105 = 0 then (spec_l5Where.l0 k l1 t102 y106 y109 0 a0_0 l0_1 l0_2) else (some (y109, y106, t105)))) = some (r1, r2, r3) := by first | (rw [hy106]; with_reducible exact H) | (have H2_ := (Option.bind_some _ _).symm.trans H; rw [hy106]; with_reducible exact H2_) | (have H2_ := (Option.bind_some _ _).symm.trans H; with_reducible exact H2_) | with_reducible exact H | (rw [hy106]; exact H) | exact H
 have Ny106 := Aside0.mk hy106
 clear hy106
 obtain ⟨y109, hy109⟩ : ∃ y_ : List Int, y_ = (([] : List Int)) := ⟨_, rfl⟩
 replace H : (if t105 = 0 then (spec_l5Where.l0 k l1 t102 y106 y109 0 a0_0 l0_1 l0_2) else (some (y109, y106, t105))) = some (r1, r2, r3) := by first | (rw [hy109]; with_reducible exact H) | (have H2_ := (Option.bind_some _ _).symm.trans H; rw [hy109]; with_reducible exact H2_) | (have H2_ := (Option.bind_some _ _).symm.trans H; with_reducible exact H2_) | with_reducible exact H | (rw [hy109]; exact H) | exact H
 have Ny109 := Aside0.mk hy109
 clear hy109
 by_cases c4 : t105 = 0
 ·rw [if_pos c4] at H
  have c4b0 : (t105 == 0) = true := beq_iff_eq.mpr c4
  have c4b1 : (t105 != 0) = false := bne_eq_false_iff_eq.mpr c4
  clear c4
  have H' := Aside0.mk H
  clear H
  go_enter Try.func54, Try.ntmps54
  go_wp2_with (first | ((with_reducible refine gate_dst (N := 2) rfl ?_); refine box_ev (cs := #[.bool a0_0, .slice A0_1 l0_1.length c0_1, .slice A0_2 l0_2.length c0_2]) (t := 28) ?_; intro gb101 hg w5 hbox hb; have BK101 := Aside0.mk (hbox); have GW101 := Aside0.mk (Gq hg HB.out); have GE101 := Aside0.mk (Gq hg HB.out); replace HB := Aside0.mk (below_step (Vq HB.out) hb); clear hb hbox hg; obtain ⟨hcz6_0, hcz6_1, hcz6_2, hfz6_0, hfz6_1, hfz6_2⟩ := cz3 BK101.out) | ((with_reducible refine gate_callee (f := 115) rfl ?_); refine goesL_ (some 20) rfl rfl Try.func115 (by kernel_rfl) rfl #[.agg #[.bool a0_0, .slice A0_1 l0_1.length c0_1, .slice A0_2 l0_2.length c0_2], .slice A1 l1.length c1] rfl (by (try simp only [List.map_toArray, List.map_cons, List.map_nil]); first | done | rfl | (simp only [List.length_drop, List.length_take]; rfl)) ?_; (with_reducible refine (spec_l5Picks.calls k a0_0 _ _ l0_1 _ _ l0_2 _ _ l1 t102 t105 _ ?side1 ?side2 ?side3 ?side4 ?side5 ?side6 A3.out).mono ?_); (case side1 => exact Cq (Kd.C_below HR0_1.out HB.out)); (case side2 => exact HC0_1.out); (case side3 => exact Cq (Kd.C_below HR0_2.out HB.out)); (case side4 => exact HC0_2.out); (case side5 => exact Cq (Kd.C_below HR1.out HB.out)); (case side6 => exact HC1.out); rintro e w7 ⟨v103, rfl, ho0, hb⟩; refine ⟨_, rfl, ?_⟩; have HO104 := Aside0.mk (Kd.S_lower ho0 (below_size (Vq HB.out))); replace BK101 := Aside0.mk (blk_below (g := gb101) (o := .cells #[.bool a0_0, .slice A0_1 l0_1.length c0_1, .slice A0_2 l0_2.length c0_2] 28 (0, 0)) (Bq BK101.out) hb); replace HB := Aside0.mk (below_step (Vq HB.out) hb); (try clear hb); (try clear hb2); (try clear hk); (try clear hi); (try clear ho0)) | ((with_reducible refine gate_dst (N := 23) rfl ?_); refine Kd.R_lit (Kd.int .i64) _ 3 ?hg (N := 23) ?hd (xs := ([] : List Int)) (inner := []) (ok := fun _ => True) (okp := fun _ => True) ?hr ?hp (fun _ hk => hk) trivial (Below.refl _ _) (Nat.le_refl _) (by simp) ?_; (case hd => rfl); (case hg => rfl); (case hr => first | (go_simp; done) | (go_simp; rfl)); (case hp => exact (Reps.none _ _)); intro v107 w8 ho9 hb hg_ hnew_; clear hg_ hnew_; (first | rw [← Ny106.out] at ho9 | (simp only [Int.reduceToNat] at ho9; rw [← Ny106.out] at ho9)); replace HO104 := Aside0.mk (Kd.S_elder' (Sq HO104.out) (Kd.R_base ho9) hb); have HO108 := Aside0.mk (Kd.R_lower ho9 (below_size (Vq HB.out))); replace BK101 := Aside0.mk (blk_below (g := gb101) (o := .cells #[.bool a0_0, .slice A0_1 l0_1.length c0_1, .slice A0_2 l0_2.length c0_2] 28 (0, 0)) (Bq BK101.out) hb); replace HB := Aside0.mk (below_step (Vq HB.out) hb); clear hb ho9) | ((with_reducible refine gate_dst (N := 24) rfl ?_); refine Kd.R_lit (Kd.int .i64) _ 3 ?hg (N := 24) ?hd (xs := ([] : List Int)) (inner := []) (ok := fun _ => True) (okp := fun _ => True) ?hr ?hp (fun _ hk => hk) trivial (Below.refl _ _) (Nat.le_refl _) (by simp) ?_; (case hd => rfl); (case hg => rfl); (case hr => first | (go_simp; done) | (go_simp; rfl)); (case hp => exact (Reps.none _ _)); intro v110 w10 ho11 hb hg_ hnew_; clear hg_ hnew_; (first | rw [← Ny109.out] at ho11 | (simp only [Int.reduceToNat] at ho11; rw [← Ny109.out] at ho11)); replace HO104 := Aside0.mk (Kd.S_elder' (Sq HO104.out) (Kd.R_base ho11) hb); have HO111 := Aside0.mk (Kd.R_lower (Kd.R_new' ho11 (Kd.R_lt (Rq HO108.out))) (below_size (Vq HB.out))); replace HO108 := Aside0.mk (Kd.R_elder' (Rq HO108.out) (Kd.R_base ho11) hb); replace BK101 := Aside0.mk (blk_below (g := gb101) (o := .cells #[.bool a0_0, .slice A0_1 l0_1.length c0_1, .slice A0_2 l0_2.length c0_2] 28 (0, 0)) (Bq BK101.out) hb); replace HB := Aside0.mk (below_step (Vq HB.out) hb); clear hb ho11))
  go_loopg [9, 10, 11] k (fun kq v9 v10 v11 w' => ∃ (x9_1 : List Int) (x10_1 : List Int) (x11_1 : Int), v11 = .int .i64 x11_1 ∧ Aside0 (spec_l5Where.l0 kq l1 t102 x9_1 x10_1 x11_1 a0_0 l0_1 l0_2 = some (r1, r2, r3)) ∧ Aside0 (kq ≤ k) ∧ Aside0 (Kd.S (Kd.slice 3 (Kd.int .i64)) 22 w' w.heap.size (fun k_ => some k_ ≠ (v9 : Value).ownBlock ∧ some k_ ≠ (v10 : Value).ownBlock) v103 t102) ∧ Aside0 (Kd.R (Kd.int .i64) 3 w' w.heap.size (fun k_ => some k_ ≠ (v10 : Value).ownBlock) v9 x9_1) ∧ Aside0 (Kd.R (Kd.int .i64) 3 w' w.heap.size (fun k_ => some k_ ≠ (v9 : Value).ownBlock) v10 x10_1) ∧ Aside0 (w'.heap[gb101]? = some (.cells #[.bool a0_0, (.slice A0_1 l0_1.length c0_1), (.slice A0_2 l0_2.length c0_2)] 28 (0, 0))) ∧ Aside0 (Below w.heap.size w w'))
  case atStart => exact ⟨(y106), (y109), (0), (by first | rfl | (simp; done) | (simp [*]; done)), H', ⟨Nat.le_refl _⟩, ⟨by (with_reducible repeat (first | apply Kd.S_alloc | apply Kd.S_drewN | apply Kd.S_drew)); exact Kd.S_mono HO104.out (fun _ hk => ⟨hk.1.2, hk.2⟩)⟩, ⟨by (with_reducible repeat (first | apply Kd.R_alloc | apply Kd.R_drewN | apply Kd.R_drew)); exact Kd.R_mono HO108.out (fun _ hk => hk.2)⟩, ⟨by (with_reducible repeat (first | apply Kd.R_alloc | apply Kd.R_drewN | apply Kd.R_drew)); exact Kd.R_mono HO111.out (fun _ hk => hk.2)⟩, ⟨Bq BK101.out⟩, ⟨Vq HB.out⟩⟩
  case round =>
   clear H'
   (try clear c1); (try clear p2); (try clear c4); (try clear c4b0); (try clear c4b1); (try clear c5); (try clear c11); (try clear hcz6_0 hcz6_1 hcz6_2 hfz6_0 hfz6_1 hfz6_2)
   obtain ⟨x9_1, x10_1, x11_1, rfl, HA, HK1, HO_7, HO_9, HO_10, BK101, HB⟩ := hrel
   cases gk with
   | zero => exact absurd HA.out (by simp [spec_l5Where.l0])
   | succ k1 =>
    have H := HA.out
    clear HA
    simp only [spec_l5Where.l0] at H
    by_cases c12 : x11_1 < (l1.length : Int)
    ·rw [if_pos c12] at H
     have c12b0 : decide (x11_1 < (l1.length : Int)) = true := decide_eq_true c12
     clear c12
     by_cases c13 : 0 ≤ x11_1
     ·rw [if_pos c13] at H
      have c13b0 : decide (0 ≤ x11_1) = true := decide_eq_true c13
      clear c13
      by_cases c14 : x11_1 < (t102.length : Int)
      ·rw [if_pos c14] at H
       have c14b0 : decide (x11_1 < (t102.length : Int)) = true := decide_eq_true c14
       clear c14
       by_cases c15 : x10_1.length < 17592186044416
       ·rw [if_pos c15] at H
        have LMc15 := Aside0.mk c15
        clear c15
        obtain ⟨y113, hy113⟩ : ∃ y_ : List Int, y_ = (x10_1 ++ [((rd_L2 t102 x11_1).length : Int)]) := ⟨_, rfl⟩
        replace H : (if (rd_T66 l1 x11_1).f0 = true then (if x11_1 < (l0_1.length : Int) then (if x9_1.length < 17592186044416 then (spec_l5Where.l0 k1 l1 t102 (x9_1 ++ [rd l0_1 x11_1]) y113 (wrap64 (x11_1 + 1)) a0_0 l0_1 l0_2) else (none)) else (none)) else (if x9_1.length + ((rd_T66 l1 x11_1).f1.f1).length < 17592186044416 then (spec_l5Where.l0 k1 l1 t102 (x9_1 ++ ((rd_T66 l1 x11_1).f1.f1)) y113 (wrap64 (x11_1 + 1)) a0_0 l0_1 l0_2) else (none))) = some (r1, r2, r3) := by first | (rw [hy113]; with_reducible exact H) | (have H2_ := (Option.bind_some _ _).symm.trans H; rw [hy113]; with_reducible exact H2_) | (have H2_ := (Option.bind_some _ _).symm.trans H; with_reducible exact H2_) | with_reducible exact H | (rw [hy113]; exact H) | exact H
        have Ny113 := Aside0.mk hy113
        clear hy113
        obtain ⟨bq16, hbq16⟩ : ∃ b_ : Bool, b_ = ((rd_T66 l1 x11_1).f0) := ⟨_, rfl⟩
        replace H : (if bq16 = true then (if x11_1 < (l0_1.length : Int) then (if x9_1.length < 17592186044416 then (spec_l5Where.l0 k1 l1 t102 (x9_1 ++ [rd l0_1 x11_1]) y113 (wrap64 (x11_1 + 1)) a0_0 l0_1 l0_2) else (none)) else (none)) else (if x9_1.length + ((rd_T66 l1 x11_1).f1.f1).length < 17592186044416 then (spec_l5Where.l0 k1 l1 t102 (x9_1 ++ ((rd_T66 l1 x11_1).f1.f1)) y113 (wrap64 (x11_1 + 1)) a0_0 l0_1 l0_2) else (none))) = some (r1, r2, r3) := by rw [← hbq16] at H; exact H
        have Nbq16 := Aside0.mk hbq16
        clear hbq16
        by_cases c17 : bq16 = true
        ·subst c17
         have H1 : (if x11_1 < (l0_1.length : Int) then (if x9_1.length < 17592186044416 then (spec_l5Where.l0 k1 l1 t102 (x9_1 ++ [rd l0_1 x11_1]) y113 (wrap64 (x11_1 + 1)) a0_0 l0_1 l0_2) else (none)) else (none)) = some (r1, r2, r3) := by rw [if_pos rfl] at H; exact H
         clear H
         have H := H1
         clear H1
         by_cases c18 : x11_1 < (l0_1.length : Int)
         ·rw [if_pos c18] at H
          have c18b0 : decide (x11_1 < (l0_1.length : Int)) = true := decide_eq_true c18
          clear c18
          by_cases c19 : x9_1.length < 17592186044416
          ·rw [if_pos c19] at H
           have LMc19 := Aside0.mk c19
           clear c19
           obtain ⟨y118, hy118⟩ : ∃ y_ : List Int, y_ = (x9_1 ++ [rd l0_1 x11_1]) := ⟨_, rfl⟩
           replace H : (spec_l5Where.l0 k1 l1 t102 y118 y113 (wrap64 (x11_1 + 1)) a0_0 l0_1 l0_2) = some (r1, r2, r3) := by first | (rw [hy118]; with_reducible exact H) | (have H2_ := (Option.bind_some _ _).symm.trans H; rw [hy118]; with_reducible exact H2_) | (have H2_ := (Option.bind_some _ _).symm.trans H; with_reducible exact H2_) | with_reducible exact H | (rw [hy118]; exact H) | exact H
           have Ny118 := Aside0.mk hy118
           clear hy118
           have H' := Aside0.mk H
           clear H
           obtain ⟨Ao20, co20, eo20⟩ := Kd.S_slice HO_7.out
           subst eo20
           have p112 : 0 ≤ (x11_1 : Int) := Dq
           have q112 : x11_1 < (t102.length : Int) := Dq
           obtain ⟨ad112, A112_0, c112_0, e112, hx112_0, hl112_0, hi112_0⟩ := at_L2 (Kd.S_reads' HO_7.out).2.2 x11_1 p112 q112
           cases e112
           obtain ⟨ce112, hce112, hMe112, hcc112⟩ := Kd.S_get HO_7.out [] x11_1 p112 (by first | exact q112 | exact Dq | (have e_ := (Kd.S_reads' HO_7.out).1; omega))
           obtain ⟨ve112_0, rfl, ge112_0⟩ := hMe112
           have hv112_0 := hcc112 0 _ rfl
           rw [Nat.add_zero, show ((Kd.slice 3 (Kd.int .i64))).sz = 1 from rfl, Nat.mul_one] at hv112_0
           replace hv112_0 := Option.some.inj (hv112_0.symm.trans hx112_0)
           rw [hv112_0] at ge112_0
           have HL112_0 := Aside0.mk (show Kd.R (Kd.int .i64) 3 _ _ _ _ (rd_L2 t102 x11_1) from ge112_0)
           clear hv112_0 ge112_0
           clear hcc112 hce112
           have HR112_0 := Aside0.mk hi112_0
           have HC112_0 := Aside0.mk hl112_0
           clear hi112_0 hl112_0
           replace p112 := eq_true p112
           replace q112 := eq_true q112
           go_wp2_with (first | ((with_reducible refine gate_builtin (b := .append) (xs := #[.tmp 36, .tmp 42]) rfl ?_); at_builtin; refine Kd.R_append (Kd.int .i64) (w0 := w) w.heap.size rfl (.tmp 36) (.tmp 42) 22 3 (.int .i64 0) 8 rfl Try.underlying22 info3 rfl (by decide) (by omega) u10 x10_1 ((rd_L2 t102 x11_1).length : Int) [.int .i64 ((rd_L2 t102 x11_1).length : Int)] (fun k_ => some k_ ≠ (u9 : Value).ownBlock) (fun _ => False) rfl rfl ?aP (fun _ hk => hk.elim) ?aF ?aO ?aB ?aS ?aL ?_; (case aP => exact rfl); (case aB => exact (Vq HB.out)); (case aF => exact (fun k_ hk => Kd.fresh' (Kd.R_lt (Rq HO_9.out)) k_ hk)); (case aO => exact (Rq HO_10.out)); (case aS => exact (below_size (Vq HB.out))); (case aL => have := LMc15.out; omega); intro v114 w21 ho hb hg hat; rw [← Ny113.out] at ho; have n0_ := Aside0.mk (Kd.S_after (ok := (fun k_ => some k_ ≠ (u9 : Value).ownBlock)) (Sq HO_7.out) hg hat); have n1_ := Aside0.mk (Kd.R_after (ok := (fun _ => True)) (Rq (Kd.R_mono HO_9.out (fun _ hk => ⟨trivial, hk⟩))) hg hat); have n2_ := Aside0.mk (blk_grown (g := gb101) (o := .cells #[.bool a0_0, .slice A0_1 l0_1.length c0_1, .slice A0_2 l0_2.length c0_2] 28 (0, 0)) (Bq BK101.out) hg (Kd.R_ne HO_10.out BK101.out (by decide))); have n3_ := Aside0.mk (Kd.R_after (ok := (fun k_ => some k_ ≠ (.slice (some ad112) t102.length co20 : Value).ownBlock ∧ some k_ ≠ (u9 : Value).ownBlock)) (Rq (Kd.R_mono HL112_0.out (fun _ hk => ⟨⟨hk.2, hk.1.1⟩, hk.1.2⟩))) hg hat); have n4_ := Aside0.mk (hb); have n5_ := Aside0.mk (ho); clear HO_7; clear HO_9; clear BK101; clear HL112_0; clear HB; clear HO_10; have HO_7 := n0_; have HO_9 := n1_; have BK101 := n2_; have HL112_0 := n3_; have HB := n4_; have HO115 := n5_; clear n0_ n1_ n2_ n3_ n4_ n5_; clear ho hb hg hat; have p116 : 0 ≤ (x11_1 : Int) := Dq; have q116 : x11_1 < (l1.length : Int) := Dq; obtain ⟨ad116, A116_2, c116_2, A116_3, c116_3, e116, hx116_0, hx116_1, hx116_2, hx116_3, hl116_2, hi116_2, hl116_3, hi116_3⟩ := at_T66 HR1.out x11_1 p116 q116; (try rw [← Nbq16.out] at hx116_0); (try rw [← Nbq16.out] at hx116_1); cases e116; replace hx116_0 := Xq HB.out hx116_0; replace hx116_1 := Xq HB.out hx116_1; replace hx116_2 := Xq HB.out hx116_2; replace hx116_3 := Xq HB.out hx116_3; have HR116_2 := Aside0.mk hi116_2; have HC116_2 := Aside0.mk hl116_2; clear hi116_2 hl116_2; have HR116_3 := Aside0.mk hi116_3; have HC116_3 := Aside0.mk hl116_3; clear hi116_3 hl116_3; replace p116 := eq_true p116; replace q116 := eq_true q116; obtain ⟨hcz22_0, hcz22_1, hcz22_2, hfz22_0, hfz22_1, hfz22_2⟩ := cz3 BK101.out; have p117 : 0 ≤ (x11_1 : Int) := Dq; have q117 : x11_1 < (l0_1.length : Int) := Dq; obtain ⟨ad117, e117, hx117_0⟩ := Kd.at_int HR0_1.out x11_1 p117 q117; cases e117; replace hx117_0 := Xq HB.out hx117_0; replace p117 := eq_true p117; replace q117 := eq_true q117) | ((with_reducible refine gate_builtin (b := .append) (xs := #[.tmp 49, .tmp 55]) rfl ?_); at_builtin; refine Kd.R_append (Kd.int .i64) (w0 := w) w.heap.size rfl (.tmp 49) (.tmp 55) 22 3 (.int .i64 0) 8 rfl Try.underlying22 info3 rfl (by decide) (by omega) u9 x9_1 (rd l0_1 x11_1) [.int .i64 (rd l0_1 x11_1)] (fun k_ => some k_ ≠ (v114 : Value).ownBlock) (fun _ => False) rfl rfl ?aP (fun _ hk => hk.elim) ?aF ?aO ?aB ?aS ?aL ?_; (case aP => exact rfl); (case aB => exact (Vq HB.out)); (case aF => exact (fun k_ hk => Kd.fresh' (Kd.R_lt (Rq HO115.out)) k_ hk)); (case aO => exact (Rq (Kd.R_mono HO_9.out (fun _ hk => hk.2)))); (case aS => exact (below_size (Vq HB.out))); (case aL => have := LMc19.out; omega); intro v119 w23 ho hb hg hat; rw [← Ny118.out] at ho; have n0_ := Aside0.mk (Kd.S_after (ok := (fun k_ => some k_ ≠ (v114 : Value).ownBlock)) (Sq (Kd.S_mono HO_7.out (fun _ hk => ⟨hk.2, hk.1⟩))) hg hat); have n1_ := Aside0.mk (blk_grown (g := gb101) (o := .cells #[.bool a0_0, .slice (some ad117) l0_1.length c0_1, .slice A0_2 l0_2.length c0_2] 28 (0, 0)) (Bq BK101.out) hg (Kd.R_ne HO_9.out BK101.out (by decide))); have n2_ := Aside0.mk (Kd.R_after (ok := (fun k_ => some k_ ≠ (.slice (some ad112) t102.length co20 : Value).ownBlock ∧ some k_ ≠ (v114 : Value).ownBlock)) (Rq (Kd.R_mono HL112_0.out (fun _ hk => ⟨⟨hk.1.1, hk.2⟩, hk.1.2⟩))) hg hat); have n3_ := Aside0.mk (Kd.R_after (ok := (fun _ => True)) (Rq (Kd.R_mono HO115.out (fun _ hk => ⟨trivial, hk⟩))) hg hat); have n4_ := Aside0.mk (hb); have n5_ := Aside0.mk (ho); clear HO_7; clear BK101; clear HL112_0; clear HO115; clear HB; clear HO_9; have HO_7 := n0_; have BK101 := n1_; have HL112_0 := n2_; have HO115 := n3_; have HB := n4_; have HO120 := n5_; clear n0_ n1_ n2_ n3_ n4_ n5_; clear ho hb hg hat))
           go_roundg k1
           case measure => have := HK1.out; omega
           case rel => exact ⟨(y118), (y113), (wrap64 (x11_1 + 1)), (by first | rfl | (simp; done) | (simp [*]; done)), H', ⟨by have := HK1.out; omega⟩, ⟨by (with_reducible repeat (first | apply Kd.S_alloc | apply Kd.S_drewN | apply Kd.S_drew)); exact Kd.S_mono HO_7.out (fun _ hk => ⟨hk.2, hk.1⟩)⟩, ⟨Rq HO120.out⟩, ⟨by (with_reducible repeat (first | apply Kd.R_alloc | apply Kd.R_drewN | apply Kd.R_drew)); exact Kd.R_mono HO115.out (fun _ hk => hk.2)⟩, ⟨Bq BK101.out⟩, ⟨Vq HB.out⟩⟩
          ·rw [if_neg c19] at H
           exact absurd H (by simp)
         ·rw [if_neg c18] at H
          exact absurd H (by simp)
        ·replace c17 := Bool.eq_false_iff.mpr c17
         subst c17
         have H1 : (if x9_1.length + ((rd_T66 l1 x11_1).f1.f1).length < 17592186044416 then (spec_l5Where.l0 k1 l1 t102 (x9_1 ++ ((rd_T66 l1 x11_1).f1.f1)) y113 (wrap64 (x11_1 + 1)) a0_0 l0_1 l0_2) else (none)) = some (r1, r2, r3) := by rw [if_neg (show ¬ (false = true) by decide)] at H; exact H
         clear H
         have H := H1
         clear H1
         by_cases c24 : x9_1.length + ((rd_T66 l1 x11_1).f1.f1).length < 17592186044416
         ·rw [if_pos c24] at H
          have LMc24 := Aside0.mk c24
          clear c24
          obtain ⟨y122, hy122⟩ : ∃ y_ : List Int, y_ = (x9_1 ++ ((rd_T66 l1 x11_1).f1.f1)) := ⟨_, rfl⟩
          replace H : (spec_l5Where.l0 k1 l1 t102 y122 y113 (wrap64 (x11_1 + 1)) a0_0 l0_1 l0_2) = some (r1, r2, r3) := by first | (rw [hy122]; with_reducible exact H) | (have H2_ := (Option.bind_some _ _).symm.trans H; rw [hy122]; with_reducible exact H2_) | (have H2_ := (Option.bind_some _ _).symm.trans H; with_reducible exact H2_) | with_reducible exact H | (rw [hy122]; exact H) | exact H
          have Ny122 := Aside0.mk hy122
          clear hy122
          have H' := Aside0.mk H
          clear H
          obtain ⟨Ao25, co25, eo25⟩ := Kd.S_slice HO_7.out
          subst eo25
          have p112 : 0 ≤ (x11_1 : Int) := Dq
          have q112 : x11_1 < (t102.length : Int) := Dq
          obtain ⟨ad112, A112_0, c112_0, e112, hx112_0, hl112_0, hi112_0⟩ := at_L2 (Kd.S_reads' HO_7.out).2.2 x11_1 p112 q112
          cases e112
          obtain ⟨ce112, hce112, hMe112, hcc112⟩ := Kd.S_get HO_7.out [] x11_1 p112 (by first | exact q112 | exact Dq | (have e_ := (Kd.S_reads' HO_7.out).1; omega))
          obtain ⟨ve112_0, rfl, ge112_0⟩ := hMe112
          have hv112_0 := hcc112 0 _ rfl
          rw [Nat.add_zero, show ((Kd.slice 3 (Kd.int .i64))).sz = 1 from rfl, Nat.mul_one] at hv112_0
          replace hv112_0 := Option.some.inj (hv112_0.symm.trans hx112_0)
          rw [hv112_0] at ge112_0
          have HL112_0 := Aside0.mk (show Kd.R (Kd.int .i64) 3 _ _ _ _ (rd_L2 t102 x11_1) from ge112_0)
          clear hv112_0 ge112_0
          clear hcc112 hce112
          have HR112_0 := Aside0.mk hi112_0
          have HC112_0 := Aside0.mk hl112_0
          clear hi112_0 hl112_0
          replace p112 := eq_true p112
          replace q112 := eq_true q112
          go_wp2_with (first | ((with_reducible refine gate_builtin (b := .append) (xs := #[.tmp 36, .tmp 42]) rfl ?_); at_builtin; refine Kd.R_append (Kd.int .i64) (w0 := w) w.heap.size rfl (.tmp 36) (.tmp 42) 22 3 (.int .i64 0) 8 rfl Try.underlying22 info3 rfl (by decide) (by omega) u10 x10_1 ((rd_L2 t102 x11_1).length : Int) [.int .i64 ((rd_L2 t102 x11_1).length : Int)] (fun k_ => some k_ ≠ (u9 : Value).ownBlock) (fun _ => False) rfl rfl ?aP (fun _ hk => hk.elim) ?aF ?aO ?aB ?aS ?aL ?_; (case aP => exact rfl); (case aB => exact (Vq HB.out)); (case aF => exact (fun k_ hk => Kd.fresh' (Kd.R_lt (Rq HO_9.out)) k_ hk)); (case aO => exact (Rq HO_10.out)); (case aS => exact (below_size (Vq HB.out))); (case aL => have := LMc15.out; omega); intro v114 w26 ho hb hg hat; rw [← Ny113.out] at ho; have n0_ := Aside0.mk (Kd.S_after (ok := (fun k_ => some k_ ≠ (u9 : Value).ownBlock)) (Sq HO_7.out) hg hat); have n1_ := Aside0.mk (Kd.R_after (ok := (fun _ => True)) (Rq (Kd.R_mono HO_9.out (fun _ hk => ⟨trivial, hk⟩))) hg hat); have n2_ := Aside0.mk (blk_grown (g := gb101) (o := .cells #[.bool a0_0, .slice A0_1 l0_1.length c0_1, .slice A0_2 l0_2.length c0_2] 28 (0, 0)) (Bq BK101.out) hg (Kd.R_ne HO_10.out BK101.out (by decide))); have n3_ := Aside0.mk (Kd.R_after (ok := (fun k_ => some k_ ≠ (.slice (some ad112) t102.length co25 : Value).ownBlock ∧ some k_ ≠ (u9 : Value).ownBlock)) (Rq (Kd.R_mono HL112_0.out (fun _ hk => ⟨⟨hk.2, hk.1.1⟩, hk.1.2⟩))) hg hat); have n4_ := Aside0.mk (hb); have n5_ := Aside0.mk (ho); clear HO_7; clear HO_9; clear BK101; clear HL112_0; clear HB; clear HO_10; have HO_7 := n0_; have HO_9 := n1_; have BK101 := n2_; have HL112_0 := n3_; have HB := n4_; have HO115 := n5_; clear n0_ n1_ n2_ n3_ n4_ n5_; clear ho hb hg hat; have p116 : 0 ≤ (x11_1 : Int) := Dq; have q116 : x11_1 < (l1.length : Int) := Dq; obtain ⟨ad116, A116_2, c116_2, A116_3, c116_3, e116, hx116_0, hx116_1, hx116_2, hx116_3, hl116_2, hi116_2, hl116_3, hi116_3⟩ := at_T66 HR1.out x11_1 p116 q116; (try rw [← Nbq16.out] at hx116_0); (try rw [← Nbq16.out] at hx116_1); cases e116; replace hx116_0 := Xq HB.out hx116_0; replace hx116_1 := Xq HB.out hx116_1; replace hx116_2 := Xq HB.out hx116_2; replace hx116_3 := Xq HB.out hx116_3; have HR116_2 := Aside0.mk hi116_2; have HC116_2 := Aside0.mk hl116_2; clear hi116_2 hl116_2; have HR116_3 := Aside0.mk hi116_3; have HC116_3 := Aside0.mk hl116_3; clear hi116_3 hl116_3; replace p116 := eq_true p116; replace q116 := eq_true q116; have p121 : 0 ≤ (x11_1 : Int) := Dq; have q121 : x11_1 < (l1.length : Int) := Dq; obtain ⟨ad121, A121_2, c121_2, A121_3, c121_3, e121, hx121_0, hx121_1, hx121_2, hx121_3, hl121_2, hi121_2, hl121_3, hi121_3⟩ := at_T66 HR1.out x11_1 p121 q121; (try rw [← Nbq16.out] at hx121_0); (try rw [← Nbq16.out] at hx121_1); obtain rfl : ad116 = ad121 := (by injection e121); replace hx121_0 := Xq HB.out hx121_0; replace hx121_1 := Xq HB.out hx121_1; replace hx121_2 := Xq HB.out hx121_2; replace hx121_3 := Xq HB.out hx121_3; have HR121_2 := Aside0.mk hi121_2; have HC121_2 := Aside0.mk hl121_2; clear hi121_2 hl121_2; have HR121_3 := Aside0.mk hi121_3; have HC121_3 := Aside0.mk hl121_3; clear hi121_3 hl121_3; replace p121 := eq_true p121; replace q121 := eq_true q121; have ea_ := Option.some.inj (hx116_2.symm.trans hx121_2); injection ea_ with ea_ en_ ec_; subst ea_; subst ec_; clear en_; have ea_ := Option.some.inj (hx116_3.symm.trans hx121_3); injection ea_ with ea_ en_ ec_; subst ea_; subst ec_; clear en_) | ((with_reducible refine gate_builtin (b := .append) (xs := #[.tmp 57, .tmp 63]) rfl ?_); at_builtin; refine Kd.R_append_rows (Kd.int .i64) (w0 := w) w.heap.size rfl (.tmp 57) (.tmp 63) 22 3 (.int .i64 0) 8 rfl Try.underlying22 info3 rfl (by decide) (by omega) u9 x9_1 ((rd_T66 l1 x11_1).f1.f1) _ _ _ (fun k_ => some k_ ≠ (v114 : Value).ownBlock) (fun _ => False) rfl rfl ?aO ?aR (fun _ _ h => h) (fun _ h => h.elim) ?aF ?aB ?aS ?aL ?_; (case aR => repeat (first | exact (Kd.C_below HR121_2.out HB.out) | (with_reducible refine Kd.C_alloc ?_ _) | (with_reducible refine Kd.C_drewN ?_ _) | (with_reducible refine Kd.C_drew ?_))); (case aB => exact (Vq HB.out)); (case aF => exact (fun k_ hk => Kd.fresh' (Kd.R_lt (Rq HO115.out)) k_ hk)); (case aO => exact (Rq (Kd.R_mono HO_9.out (fun _ hk => hk.2)))); (case aS => exact (below_size (Vq HB.out))); (case aL => have := LMc24.out; omega); intro v123 w27 ho hb hg hat; rw [← Ny122.out] at ho; have n0_ := Aside0.mk (Kd.S_after (ok := (fun k_ => some k_ ≠ (v114 : Value).ownBlock)) (Sq (Kd.S_mono HO_7.out (fun _ hk => ⟨hk.2, hk.1⟩))) hg hat); have n1_ := Aside0.mk (blk_grown (g := gb101) (o := .cells #[.bool a0_0, .slice A0_1 l0_1.length c0_1, .slice A0_2 l0_2.length c0_2] 28 (0, 0)) (Bq BK101.out) hg (Kd.R_ne HO_9.out BK101.out (by decide))); have n2_ := Aside0.mk (Kd.R_after (ok := (fun k_ => some k_ ≠ (.slice (some ad112) t102.length co25 : Value).ownBlock ∧ some k_ ≠ (v114 : Value).ownBlock)) (Rq (Kd.R_mono HL112_0.out (fun _ hk => ⟨⟨hk.1.1, hk.2⟩, hk.1.2⟩))) hg hat); have n3_ := Aside0.mk (Kd.R_after (ok := (fun _ => True)) (Rq (Kd.R_mono HO115.out (fun _ hk => ⟨trivial, hk⟩))) hg hat); have n4_ := Aside0.mk (hb); have n5_ := Aside0.mk (ho); clear HO_7; clear BK101; clear HL112_0; clear HO115; clear HB; clear HO_9; have HO_7 := n0_; have BK101 := n1_; have HL112_0 := n2_; have HO115 := n3_; have HB := n4_; have HO124 := n5_; clear n0_ n1_ n2_ n3_ n4_ n5_; clear ho hb hg hat))
          go_roundg k1
          case measure => have := HK1.out; omega
          case rel => exact ⟨(y122), (y113), (wrap64 (x11_1 + 1)), (by first | rfl | (simp; done) | (simp [*]; done)), H', ⟨by have := HK1.out; omega⟩, ⟨by (with_reducible repeat (first | apply Kd.S_alloc | apply Kd.S_drewN | apply Kd.S_drew)); exact Kd.S_mono HO_7.out (fun _ hk => ⟨hk.2, hk.1⟩)⟩, ⟨Rq HO124.out⟩, ⟨by (with_reducible repeat (first | apply Kd.R_alloc | apply Kd.R_drewN | apply Kd.R_drew)); exact Kd.R_mono HO115.out (fun _ hk => hk.2)⟩, ⟨Bq BK101.out⟩, ⟨Vq HB.out⟩⟩
         ·rw [if_neg c24] at H
          exact absurd H (by simp)
       ·rw [if_neg c15] at H
        exact absurd H (by simp)
      ·rw [if_neg c14] at H
       exact absurd H (by simp)
     ·rw [if_neg c13] at H
      exact absurd H (by simp)
    ·rw [if_neg c12] at H
     have c12b0 : decide (x11_1 < (l1.length : Int)) = false := decide_eq_false c12
     clear c12
     replace H := Option.bind_eq_some_iff.mp H
     obtain ⟨t125, A280, H⟩ := H
     replace H : (if t125 = true then ((spec_l3Count.f k1 x9_1).bind fun t129 => (spec_l5Where.l1 k1 t102 x9_1 x10_1 (([] : List Int)) t129 0 a0_0 l0_1 l0_2)) else (some (x10_1, x9_1, 7))) = some (r1, r2, r3) := H
     have A28 := Aside0.mk A280
     clear A280
     by_cases c29 : t125 = true
     ·subst c29
      have H1 : ((spec_l3Count.f k1 x9_1).bind fun t129 => (spec_l5Where.l1 k1 t102 x9_1 x10_1 (([] : List Int)) t129 0 a0_0 l0_1 l0_2)) = some (r1, r2, r3) := by rw [if_pos rfl] at H; exact H
      clear H
      have H := H1
      clear H1
      obtain ⟨y126, hy126⟩ : ∃ y_ : List Int, y_ = (([] : List Int)) := ⟨_, rfl⟩
      replace H : ((spec_l3Count.f k1 x9_1).bind fun t129 => (spec_l5Where.l1 k1 t102 x9_1 x10_1 y126 t129 0 a0_0 l0_1 l0_2)) = some (r1, r2, r3) := by first | (rw [hy126]; with_reducible exact H) | (have H2_ := (Option.bind_some _ _).symm.trans H; rw [hy126]; with_reducible exact H2_) | (have H2_ := (Option.bind_some _ _).symm.trans H; with_reducible exact H2_) | with_reducible exact H | (rw [hy126]; exact H) | exact H
      have Ny126 := Aside0.mk hy126
      clear hy126
      replace H := Option.bind_eq_some_iff.mp H
      obtain ⟨t129, A300, H⟩ := H
      replace H : (spec_l5Where.l1 k1 t102 x9_1 x10_1 y126 t129 0 a0_0 l0_1 l0_2) = some (r1, r2, r3) := H
      have A30 := Aside0.mk A300
      clear A300
      have H' := Aside0.mk H
      clear H
      obtain ⟨Ao31, co31, eo31⟩ := Kd.R_slice HO_9.out
      subst eo31
      go_wp2_with (first | ((with_reducible refine gate_callee (f := 72) rfl ?_); refine goesL_ (some 66) rfl rfl Try.func72 (by kernel_rfl) rfl #[.slice Ao31 x9_1.length co31] rfl (by (try simp only [List.map_toArray, List.map_cons, List.map_nil]); first | done | rfl | (simp only [List.length_drop, List.length_take]; rfl)) ?_; (with_reducible refine (spec_l3ShapeOk.calls k1 _ _ x9_1 true _ ?side1 ?side2 A28.out).mono ?_); (case side1 => exact Cq (Kd.R_reads' HO_9.out).2.2); (case side2 => exact (Kd.R_reads' HO_9.out).2.1); rintro e w' ⟨rfl, ⟨nd, rfl⟩⟩; refine ⟨_, rfl, ?_⟩) | ((with_reducible refine gate_dst (N := 70) rfl ?_); refine Kd.R_lit (Kd.int .i64) _ 3 ?hg (N := 70) ?hd (xs := ([] : List Int)) (inner := []) (ok := fun _ => True) (okp := fun _ => True) ?hr ?hp (fun _ hk => hk) trivial (Below.refl _ _) (Nat.le_refl _) (by simp) ?_; (case hd => rfl); (case hg => rfl); (case hr => first | (go_simp; done) | (go_simp; rfl)); (case hp => exact (Reps.none _ _)); intro v127 w32 ho33 hb hg_ hnew_; clear hg_ hnew_; (first | rw [← Ny126.out] at ho33 | (simp only [Int.reduceToNat] at ho33; rw [← Ny126.out] at ho33)); replace HO_7 := Aside0.mk (Kd.S_elder' (Sq HO_7.out) (Kd.R_base ho33) hb); have HO128 := Aside0.mk (Kd.R_lower (Kd.R_new' (Kd.R_new' ho33 (Kd.R_lt (Rq HO_9.out))) (Kd.R_lt (Rq HO_10.out))) (below_size (Vq HB.out))); replace HO_9 := Aside0.mk (Kd.R_elder' (Rq HO_9.out) (Kd.R_base ho33) hb); replace HO_10 := Aside0.mk (Kd.R_elder' (Rq HO_10.out) (Kd.R_base ho33) hb); replace BK101 := Aside0.mk (blk_below (g := gb101) (o := .cells #[.bool a0_0, .slice A0_1 l0_1.length c0_1, .slice A0_2 l0_2.length c0_2] 28 (0, 0)) (Bq BK101.out) hb); replace HB := Aside0.mk (below_step (Vq HB.out) hb); clear hb ho33) | ((with_reducible refine gate_callee (f := 74) rfl ?_); refine goesL_ (some 72) rfl rfl Try.func74 (by kernel_rfl) rfl #[.slice Ao31 x9_1.length co31] rfl (by (try simp only [List.map_toArray, List.map_cons, List.map_nil]); first | done | rfl | (simp only [List.length_drop, List.length_take]; rfl)) ?_; (with_reducible refine (spec_l3Count.calls k1 _ _ x9_1 t129 _ ?side1 ?side2 A30.out).mono ?_); (case side1 => exact Cq (Kd.R_reads' HO_9.out).2.2); (case side2 => exact (Kd.R_reads' HO_9.out).2.1); rintro e w' ⟨rfl, ⟨nd, rfl⟩⟩; refine ⟨_, rfl, ?_⟩))
      go_loopg [12, 14] k1 (fun kq v12 v14 w' => ∃ (x9_2 : List Int) (x10_2 : List Int) (x12_2 : List Int) (x14_2 : Int), v14 = .int .i64 x14_2 ∧ Aside0 (spec_l5Where.l1 kq t102 x9_2 x10_2 x12_2 t129 x14_2 a0_0 l0_1 l0_2 = some (r1, r2, r3)) ∧ Aside0 (kq ≤ k1) ∧ Aside0 (Kd.S (Kd.slice 3 (Kd.int .i64)) 22 w' w.heap.size (fun k_ => some k_ ≠ ((.slice Ao31 x9_1.length co31) : Value).ownBlock ∧ some k_ ≠ (u10 : Value).ownBlock ∧ some k_ ≠ (v12 : Value).ownBlock) v103 t102) ∧ Aside0 (Kd.R (Kd.int .i64) 3 w' w.heap.size (fun k_ => some k_ ≠ (u10 : Value).ownBlock ∧ some k_ ≠ (v12 : Value).ownBlock) (.slice Ao31 x9_1.length co31) x9_2) ∧ Aside0 (Kd.R (Kd.int .i64) 3 w' w.heap.size (fun k_ => some k_ ≠ ((.slice Ao31 x9_1.length co31) : Value).ownBlock ∧ some k_ ≠ (v12 : Value).ownBlock) u10 x10_2) ∧ Aside0 (Kd.R (Kd.int .i64) 3 w' w.heap.size (fun k_ => some k_ ≠ ((.slice Ao31 x9_1.length co31) : Value).ownBlock ∧ some k_ ≠ (u10 : Value).ownBlock) v12 x12_2) ∧ Aside0 (w'.heap[gb101]? = some (.cells #[.bool a0_0, (.slice A0_1 l0_1.length c0_1), (.slice A0_2 l0_2.length c0_2)] 28 (0, 0))) ∧ Aside0 (Below w.heap.size w w'))
      case atStart => exact ⟨(x9_1), (x10_1), (y126), (0), (by first | rfl | (simp; done) | (simp [*]; done)), H', ⟨Nat.le_refl _⟩, ⟨by (with_reducible repeat (first | apply Kd.S_alloc | apply Kd.S_drewN | apply Kd.S_drew)); exact Kd.S_mono HO_7.out (fun _ hk => ⟨hk.1.1, ⟨hk.1.2, hk.2⟩⟩)⟩, ⟨Rq HO_9.out⟩, ⟨Rq HO_10.out⟩, ⟨by (with_reducible repeat (first | apply Kd.R_alloc | apply Kd.R_drewN | apply Kd.R_drew)); exact Kd.R_mono HO128.out (fun _ hk => ⟨hk.1.2, hk.2⟩)⟩, ⟨Bq BK101.out⟩, ⟨Vq HB.out⟩⟩
      case round =>
       clear H'
       (try clear c1); (try clear p1); (try clear q1); (try clear hx1); (try clear c2); (try clear p2); (try clear c4); (try clear c4b0); (try clear c4b1); (try clear c5); (try clear p6); (try clear c7); (try clear c11); (try clear p11); (try clear q11); (try clear hx11); (try clear c12); (try clear c12b0); (try clear p12); (try clear q12); (try clear hx12); (try clear c13); (try clear c13b0); (try clear c14); (try clear c14b0); (try clear c15); (try clear q16); (try clear c17); (try clear c18); (try clear c18b0); (try clear c19); (try clear c24); (try clear c29); (try clear hx112_0); (try clear hx116_0); (try clear hx116_1); (try clear hx116_2); (try clear hx116_3); (try clear hx117_0); (try clear hx121_0); (try clear hx121_1); (try clear hx121_2); (try clear hx121_3); (try clear p112); (try clear p116); (try clear p117); (try clear p121); (try clear p2); (try clear q112); (try clear q116); (try clear q117); (try clear q121); (try clear hcz22_0 hcz22_1 hcz22_2 hfz22_0 hfz22_1 hfz22_2); (try clear hcz6_0 hcz6_1 hcz6_2 hfz6_0 hfz6_1 hfz6_2)
       obtain ⟨x9_2, x10_2, x12_2, x14_2, rfl, HA, HK2, HO_7, HO_9, HO_10, HO_12, BK101, HB⟩ := hrel
       have hl9_2 := (Kd.R_reads' HO_9.out).1
       rw [hl9_2] at HO_9
       (try simp only [hl9_2])
       (try simp only [hl9_2] at BK101)
       (try simp only [hl9_2] at HO_7)
       (try simp only [hl9_2] at HO_10)
       (try simp only [hl9_2] at HO_12)
       cases gk with
       | zero => exact absurd HA.out (by simp [spec_l5Where.l1])
       | succ k2 =>
        have H := HA.out
        clear HA
        simp only [spec_l5Where.l1] at H
        by_cases c34 : x14_2 < t129
        ·rw [if_pos c34] at H
         have c34b0 : decide (x14_2 < t129) = true := decide_eq_true c34
         clear c34
         replace H := Option.bind_eq_some_iff.mp H
         obtain ⟨t130, A350, H⟩ := H
         replace H : (spec_l5Where.l2 k2 t102 x9_2 x10_2 x12_2 t129 x14_2 t130 0 a0_0 l0_1 l0_2) = some (r1, r2, r3) := H
         have A35 := Aside0.mk A350
         clear A350
         have H' := Aside0.mk H
         clear H
         obtain ⟨Ao36, co36, eo36⟩ := Kd.R_slice HO_10.out
         subst eo36
         go_wp2_with (first | ((with_reducible refine gate_callee (f := 77) rfl ?_); refine goesL_ (some 80) rfl rfl Try.func77 (by kernel_rfl) rfl #[.slice Ao36 x10_2.length co36, .int .i64 x14_2] rfl (by (try simp only [List.map_toArray, List.map_cons, List.map_nil]); first | done | rfl | (simp only [List.length_drop, List.length_take]; rfl)) ?_; (with_reducible refine (spec_l5Index.calls k2 _ _ x10_2 x14_2 t130 _ ?side1 ?side2 A35.out).mono ?_); (case side1 => exact Cq (Kd.R_reads' HO_10.out).2.2); (case side2 => exact (Kd.R_reads' HO_10.out).2.1); rintro e w37 ⟨v131, rfl, ho0, hb⟩; refine ⟨_, rfl, ?_⟩; replace HO_7 := Aside0.mk (Kd.S_elder' (Sq HO_7.out) (Kd.R_base ho0) hb); have HO132 := Aside0.mk (Kd.R_lower (Kd.R_new' (Kd.R_new' (Kd.R_new' ho0 (Kd.R_lt (Rq HO_9.out))) (Kd.R_lt (Rq HO_10.out))) (Kd.R_lt (Rq HO_12.out))) (below_size (Vq HB.out))); replace HO_9 := Aside0.mk (Kd.R_elder' (Rq HO_9.out) (Kd.R_base ho0) hb); replace HO_10 := Aside0.mk (Kd.R_elder' (Rq HO_10.out) (Kd.R_base ho0) hb); replace HO_12 := Aside0.mk (Kd.R_elder' (Rq HO_12.out) (Kd.R_base ho0) hb); replace BK101 := Aside0.mk (blk_below (g := gb101) (o := .cells #[.bool a0_0, .slice A0_1 l0_1.length c0_1, .slice A0_2 l0_2.length c0_2] 28 (0, 0)) (Bq BK101.out) hb); replace HB := Aside0.mk (below_step (Vq HB.out) hb); (try clear hb); (try clear hb2); (try clear hk); (try clear hi); (try clear ho0)))
         go_loopg [16] k2 (fun kq v16 w' => ∃ (x15_3 : List Int) (x16_3 : Int), v16 = .int .i64 x16_3 ∧ Aside0 (spec_l5Where.l2 kq t102 x9_2 x10_2 x12_2 t129 x14_2 x15_3 x16_3 a0_0 l0_1 l0_2 = some (r1, r2, r3)) ∧ Aside0 (kq ≤ k2) ∧ Aside0 (Kd.S (Kd.slice 3 (Kd.int .i64)) 22 w' w.heap.size (fun k_ => some k_ ≠ ((.slice Ao31 x9_2.length co31) : Value).ownBlock ∧ some k_ ≠ ((.slice Ao36 x10_2.length co36) : Value).ownBlock ∧ some k_ ≠ (u12 : Value).ownBlock ∧ some k_ ≠ (v131 : Value).ownBlock) v103 t102) ∧ Aside0 (Kd.R (Kd.int .i64) 3 w' w.heap.size (fun k_ => some k_ ≠ ((.slice Ao36 x10_2.length co36) : Value).ownBlock ∧ some k_ ≠ (u12 : Value).ownBlock ∧ some k_ ≠ (v131 : Value).ownBlock) (.slice Ao31 x9_2.length co31) x9_2) ∧ Aside0 (Kd.R (Kd.int .i64) 3 w' w.heap.size (fun k_ => some k_ ≠ ((.slice Ao31 x9_2.length co31) : Value).ownBlock ∧ some k_ ≠ (u12 : Value).ownBlock ∧ some k_ ≠ (v131 : Value).ownBlock) (.slice Ao36 x10_2.length co36) x10_2) ∧ Aside0 (Kd.R (Kd.int .i64) 3 w' w.heap.size (fun k_ => some k_ ≠ ((.slice Ao31 x9_2.length co31) : Value).ownBlock ∧ some k_ ≠ ((.slice Ao36 x10_2.length co36) : Value).ownBlock ∧ some k_ ≠ (v131 : Value).ownBlock) u12 x12_2) ∧ Aside0 (Kd.R (Kd.int .i64) 3 w' w.heap.size (fun k_ => some k_ ≠ ((.slice Ao31 x9_2.length co31) : Value).ownBlock ∧ some k_ ≠ ((.slice Ao36 x10_2.length co36) : Value).ownBlock ∧ some k_ ≠ (u12 : Value).ownBlock) v131 x15_3) ∧ Aside0 (w'.heap[gb101]? = some (.cells #[.bool a0_0, (.slice A0_1 l0_1.length c0_1), (.slice A0_2 l0_2.length c0_2)] 28 (0, 0))) ∧ Aside0 (Below w.heap.size w w'))
         case atStart => exact ⟨(t130), (0), (by first | rfl | (simp; done) | (simp [*]; done)), H', ⟨Nat.le_refl _⟩, ⟨by (try simp only [hl9_2]); (with_reducible repeat (first | apply Kd.S_alloc | apply Kd.S_drewN | apply Kd.S_drew)); exact Kd.S_mono HO_7.out (fun _ hk => ⟨hk.1.1, ⟨hk.1.2.1, ⟨hk.1.2.2, hk.2⟩⟩⟩)⟩, ⟨by (try simp only [hl9_2]); (with_reducible repeat (first | apply Kd.R_alloc | apply Kd.R_drewN | apply Kd.R_drew)); exact Kd.R_mono HO_9.out (fun _ hk => ⟨hk.1.1, ⟨hk.1.2, hk.2⟩⟩)⟩, ⟨by (try simp only [hl9_2]); (with_reducible repeat (first | apply Kd.R_alloc | apply Kd.R_drewN | apply Kd.R_drew)); exact Kd.R_mono HO_10.out (fun _ hk => ⟨hk.1.1, ⟨hk.1.2, hk.2⟩⟩)⟩, ⟨by (try simp only [hl9_2]); (with_reducible repeat (first | apply Kd.R_alloc | apply Kd.R_drewN | apply Kd.R_drew)); exact Kd.R_mono HO_12.out (fun _ hk => ⟨hk.1.1, ⟨hk.1.2, hk.2⟩⟩)⟩, ⟨by (try simp only [hl9_2]); (with_reducible repeat (first | apply Kd.R_alloc | apply Kd.R_drewN | apply Kd.R_drew)); exact Kd.R_mono HO132.out (fun _ hk => ⟨hk.1.1.2, ⟨hk.1.2, hk.2⟩⟩)⟩, ⟨by (try simp only [hl9_2]); (with_reducible repeat (first | refine blk_drewN ?_ _ | refine blk_drew ?_ | refine blk_alloc ?_ _)); exact BK101.out⟩, ⟨Vq HB.out⟩⟩
         case round =>
          clear H'
          (try clear c1); (try clear p1); (try clear q1); (try clear hx1); (try clear c2); (try clear p2); (try clear c3); (try clear c4); (try clear c4b0); (try clear c4b1); (try clear c5); (try clear p6); (try clear c7); (try clear c11); (try clear p11); (try clear q11); (try clear hx11); (try clear c12); (try clear c12b0); (try clear p12); (try clear q12); (try clear hx12); (try clear c13); (try clear c13b0); (try clear c14); (try clear c14b0); (try clear c15); (try clear q16); (try clear c17); (try clear c18); (try clear c18b0); (try clear c19); (try clear c24); (try clear c29); (try clear c34); (try clear c34b0); (try clear hx112_0); (try clear hx116_0); (try clear hx116_1); (try clear hx116_2); (try clear hx116_3); (try clear hx117_0); (try clear hx121_0); (try clear hx121_1); (try clear hx121_2); (try clear hx121_3); (try clear p1); (try clear p11); (try clear p112); (try clear p116); (try clear p117); (try clear p12); (try clear p121); (try clear p2); (try clear p6); (try clear q1); (try clear q11); (try clear q112); (try clear q116); (try clear q117); (try clear q12); (try clear q121); (try clear q16); (try clear hcz22_0 hcz22_1 hcz22_2 hfz22_0 hfz22_1 hfz22_2); (try clear hcz6_0 hcz6_1 hcz6_2 hfz6_0 hfz6_1 hfz6_2)
          obtain ⟨x15_3, x16_3, rfl, HA, HK3, HO_7, HO_9, HO_10, HO_12, HO_15, BK101, HB⟩ := hrel
          cases gk with
          | zero => exact absurd HA.out (by simp [spec_l5Where.l2])
          | succ k3 =>
           have H := HA.out
           clear HA
           simp only [spec_l5Where.l2] at H
           by_cases c38 : x16_3 < (x15_3.length : Int)
           ·rw [if_pos c38] at H
            have c38b0 : decide (x16_3 < (x15_3.length : Int)) = true := decide_eq_true c38
            clear c38
            by_cases c39 : 0 ≤ x16_3
            ·rw [if_pos c39] at H
             have c39b0 : decide (0 ≤ x16_3) = true := decide_eq_true c39
             clear c39
             by_cases c40 : x16_3 < (t102.length : Int)
             ·rw [if_pos c40] at H
              have c40b0 : decide (x16_3 < (t102.length : Int)) = true := decide_eq_true c40
              clear c40
              by_cases c41 : 0 ≤ (rd x15_3 x16_3)
              ·rw [if_pos c41] at H
               have c41b0 : decide (0 ≤ (rd x15_3 x16_3)) = true := decide_eq_true c41
               clear c41
               by_cases c42 : (rd x15_3 x16_3) < ((rd_L2 t102 x16_3).length : Int)
               ·rw [if_pos c42] at H
                have c42b0 : decide ((rd x15_3 x16_3) < ((rd_L2 t102 x16_3).length : Int)) = true := decide_eq_true c42
                clear c42
                obtain ⟨y136, hy136⟩ : ∃ y_ : List Int, y_ = (x15_3.set (x16_3 : Int).toNat (rd (rd_L2 t102 x16_3) (rd x15_3 x16_3))) := ⟨_, rfl⟩
                replace H : (spec_l5Where.l2 k3 t102 x9_2 x10_2 x12_2 t129 x14_2 y136 (wrap64 (x16_3 + 1)) a0_0 l0_1 l0_2) = some (r1, r2, r3) := by first | (rw [hy136]; with_reducible exact H) | (have H2_ := (Option.bind_some _ _).symm.trans H; rw [hy136]; with_reducible exact H2_) | (have H2_ := (Option.bind_some _ _).symm.trans H; with_reducible exact H2_) | with_reducible exact H | (rw [hy136]; exact H) | exact H
                have Ny136 := Aside0.mk hy136
                clear hy136
                have H' := Aside0.mk H
                clear H
                obtain ⟨Ao44, co44, eo44⟩ := Kd.R_slice HO_15.out
                subst eo44
                try go_wp2
                have n0_ := Aside0.mk (Kd.S_drew HO_7.out)
                have n1_ := Aside0.mk (Kd.R_drew HO_9.out)
                have n2_ := Aside0.mk (Kd.R_drew HO_10.out)
                have n3_ := Aside0.mk (Kd.R_drew HO_12.out)
                have n4_ := Aside0.mk (Kd.R_drew HO_15.out)
                have n5_ := Aside0.mk (blk_drew BK101.out)
                have n6_ := Aside0.mk (below_drew1 HB.out)
                clear HO_7
                clear HO_9
                clear HO_10
                clear HO_12
                clear HO_15
                clear BK101
                clear HB
                have HO_7 := n0_
                have HO_9 := n1_
                have HO_10 := n2_
                have HO_12 := n3_
                have HO_15 := n4_
                have BK101 := n5_
                have HB := n6_
                clear n0_ n1_ n2_ n3_ n4_ n5_ n6_
                obtain ⟨Ao46, co46, eo46⟩ := Kd.S_slice HO_7.out
                (first | subst eo46 | (injection eo46 with f1_ f2_ f3_; have f4_ := f1_.symm; have f5_ := f3_.symm; clear f1_ f2_ f3_; subst f4_; subst f5_))
                have p133 : 0 ≤ (x16_3 : Int) := Dq
                have q133 : x16_3 < (t102.length : Int) := Dq
                obtain ⟨ad133, A133_0, c133_0, e133, hx133_0, hl133_0, hi133_0⟩ := at_L2 (Kd.S_reads' HO_7.out).2.2 x16_3 p133 q133
                cases e133
                obtain ⟨ce133, hce133, hMe133, hcc133⟩ := Kd.S_get HO_7.out [] x16_3 p133 (by first | exact q133 | exact Dq | (have e_ := (Kd.S_reads' HO_7.out).1; omega))
                obtain ⟨ve133_0, rfl, ge133_0⟩ := hMe133
                have hv133_0 := hcc133 0 _ rfl
                rw [Nat.add_zero, show ((Kd.slice 3 (Kd.int .i64))).sz = 1 from rfl, Nat.mul_one] at hv133_0
                replace hv133_0 := Option.some.inj (hv133_0.symm.trans hx133_0)
                rw [hv133_0] at ge133_0
                have HL133_0 := Aside0.mk (show Kd.R (Kd.int .i64) 3 _ _ _ _ (rd_L2 t102 x16_3) from ge133_0)
                clear hv133_0 ge133_0
                clear hcc133 hce133
                have HR133_0 := Aside0.mk hi133_0
                have HC133_0 := Aside0.mk hl133_0
                clear hi133_0 hl133_0
                replace p133 := eq_true p133
                replace q133 := eq_true q133
                have p134 : 0 ≤ (x16_3 : Int) := Dq
                have q134 : x16_3 < (x15_3.length : Int) := Dq
                obtain ⟨ad134, e134, hx134_0⟩ := Kd.at_int (Kd.R_reads' HO_15.out).2.2 x16_3 p134 q134
                cases e134
                replace p134 := eq_true p134
                replace q134 := eq_true q134
                have p135 : 0 ≤ ((rd x15_3 x16_3) : Int) := Dq
                have q135 : (rd x15_3 x16_3) < ((rd_L2 t102 x16_3).length : Int) := Dq
                obtain ⟨ad135, e135, hx135_0⟩ := Kd.at_int (by repeat (first | (with_reducible exact HR133_0.out) | (with_reducible refine Kd.C_alloc ?_ _) | (with_reducible refine Kd.C_drewN ?_ _) | (with_reducible refine Kd.C_drew ?_) | exact HR133_0.out)) (rd x15_3 x16_3) p135 q135
                cases e135
                replace p135 := eq_true p135
                replace q135 := eq_true q135
                have p43 : 0 ≤ (x16_3 : Int) := Dq
                have q43 : (x16_3 : Int) < ((x15_3.length : Int) : Int) := Dq
                obtain ⟨go43, co43, eo43, gb43, gl43, cl43, HG43⟩ := Kd.R_form HO_15.out (by omega)
                (first | cases eo43 | (injection eo43 with ea_ en_ ec_; (first | subst ea_ | (injection ea_ with ea_; subst ea_)); subst ec_; clear en_))
                have GB43 := Aside0.mk gb43
                have GG43 := Aside0.mk HG43
                clear gb43 gl43 HG43
                (first | simp only [add_plain] at hx134_0 | skip)
                obtain ⟨hx43_0, hf43_0⟩ := Kd.R_celln 0 HO_15.out (x16_3 : Int) p43 q43
                replace p43 := eq_true p43
                replace q43 := eq_true q43
                have HP47 := Kd.R_putn HO_15.out (x16_3 : Int) (rd (rd_L2 t102 x16_3) (rd x15_3 x16_3))
                rw [← Ny136.out] at HP47
                have HQ47 := Aside0.mk HP47
                clear HP47
                refine start_ (n := 14) (S := fun w' => w'.cell? (ad133.add (x16_3).toNat) = some (.slice (some ad135) (rd_L2 t102 x16_3).length c133_0) ∧ w'.cell? ⟨go43, (x16_3).toNat, none⟩ = some (.int .i64 (rd x15_3 x16_3)) ∧ w'.cell? (ad135.add ((rd x15_3 x16_3)).toNat) = some (.int .i64 (rd (rd_L2 t102 x16_3) (rd x15_3 x16_3)))) (ds := [13]) #[false, false, false, false, false, false, false, false, false, false, false, false, false, false] (by kernel_rfl) rfl rfl ⟨hx133_0, hx134_0, hx135_0⟩ (fun hHeld => ?_); refine with_tabW spec_l5Where.tab24 spec_l5Where.bits24 (fun HT_ HW_ => ?_)
                generalize wr.drew = w45 at HO_7 HO_9 HO_10 HO_12 HO_15 BK101 HB GG43 HL133_0 HQ47 HR133_0 hf43_0 hx133_0 hx134_0 hx135_0 hx43_0 hHeld ⊢
                refine pure_ (i := 0) (N := some 87) (v := ?_) (a' := ?_) #[true, false, false, false, false, false, false, false, false, false, false, false, false, false] rfl rfl (any_of HT_.out (by kernel_rfl)) (fun _ _ _ h => h) (Or.inl ⟨by rfl, ?_⟩) ?_ ?_
                rotate_left
                ·intro w'
                 go_simp
                 with_reducible rfl
                rotate_left
                ·simp only [Act.put, List.setIfInBounds_toArray, List.set_cons_zero, List.set_cons_succ, i64_w, i32_w]
                 rfl
                refine pure_ (i := 1) (N := some 88) (v := ?_) (a' := ?_) #[true, true, false, false, false, false, false, false, false, false, false, false, false, false] rfl rfl (any_of HT_.out (by kernel_rfl)) (fun _ _ _ h => h) (Or.inl ⟨by rfl, ?_⟩) ?_ ?_
                rotate_left
                ·intro w'
                 go_simp
                 with_reducible rfl
                rotate_left
                ·simp only [Act.put, List.setIfInBounds_toArray, List.set_cons_zero, List.set_cons_succ, i64_w, i32_w]
                 rfl
                refine pure_ (i := 2) (N := some 89) (v := ?_) (a' := ?_) #[true, true, true, false, false, false, false, false, false, false, false, false, false, false] rfl rfl (any_of HT_.out (by kernel_rfl)) (fun _ _ _ h => h) (Or.inl ⟨by rfl, ?_⟩) ?_ ?_
                rotate_left
                ·intro w'
                 go_simp
                 with_reducible rfl
                rotate_left
                ·simp only [Act.put, List.setIfInBounds_toArray, List.set_cons_zero, List.set_cons_succ, i64_w, i32_w]
                 rfl
                refine pure_ (i := 3) (N := some 90) (v := ?_) (a' := ?_) #[true, true, true, true, false, false, false, false, false, false, false, false, false, false] rfl rfl (any_of HT_.out (by kernel_rfl)) (fun _ _ _ h => h) (Or.inl ⟨by rfl, ?_⟩) ?_ ?_
                rotate_left
                ·intro w'
                 go_simp
                 with_reducible rfl
                rotate_left
                ·simp only [Act.put, List.setIfInBounds_toArray, List.set_cons_zero, List.set_cons_succ, i64_w, i32_w]
                 rfl
                refine pure_ (i := 4) (N := some 91) (v := ?_) (a' := ?_) #[true, true, true, true, true, false, false, false, false, false, false, false, false, false] rfl rfl (any_of HT_.out (by kernel_rfl)) (fun _ _ _ h => h) (Or.inl ⟨by rfl, ?_⟩) ?_ ?_
                rotate_left
                ·intro w'
                 go_simp
                 with_reducible rfl
                rotate_left
                ·simp only [Act.put, List.setIfInBounds_toArray, List.set_cons_zero, List.set_cons_succ, i64_w, i32_w]
                 rfl
                refine pure_ (i := 6) (N := some 93) (v := ?_) (a' := ?_) #[true, true, true, true, true, false, true, false, false, false, false, false, false, false] rfl rfl (any_of HT_.out (by kernel_rfl)) (fun _ _ _ h => h) (Or.inl ⟨by rfl, ?_⟩) ?_ ?_
                rotate_left
                ·intro w'
                 go_simp
                 with_reducible rfl
                rotate_left
                ·simp only [Act.put, List.setIfInBounds_toArray, List.set_cons_zero, List.set_cons_succ, i64_w, i32_w]
                 rfl
                refine pure_ (i := 7) (N := some 94) (v := ?_) (a' := ?_) #[true, true, true, true, true, false, true, true, false, false, false, false, false, false] rfl rfl (any_of HT_.out (by kernel_rfl)) (fun _ _ _ h => h) (Or.inl ⟨by rfl, ?_⟩) ?_ ?_
                rotate_left
                ·intro w'
                 go_simp
                 with_reducible rfl
                rotate_left
                ·simp only [Act.put, List.setIfInBounds_toArray, List.set_cons_zero, List.set_cons_succ, i64_w, i32_w]
                 rfl
                refine pure_ (i := 8) (N := some 95) (v := ?_) (a' := ?_) #[true, true, true, true, true, false, true, true, true, false, false, false, false, false] rfl rfl (any_of HT_.out (by kernel_rfl)) (fun _ _ _ h => h) (Or.inl ⟨by rfl, ?_⟩) ?_ ?_
                rotate_left
                ·intro w'
                 go_simp
                 with_reducible rfl
                rotate_left
                ·simp only [Act.put, List.setIfInBounds_toArray, List.set_cons_zero, List.set_cons_succ, i64_w, i32_w]
                 rfl
                refine take_ (i := 5) (N := some 92) (v := ?_) (a' := ?_) #[true, true, true, true, true, true, true, true, true, false, false, false, false, false] rfl rfl (take_ofW HT_.out HW_.out (by kernel_rfl)) (fun _ _ _ h => h) (Or.inl ⟨by rfl, ?_⟩) hHeld ?_ ?_
                rotate_left
                ·rintro w' ⟨s0, s1, s2⟩
                 go_simp
                 with_reducible rfl
                rotate_left
                ·simp only [Act.put, List.setIfInBounds_toArray, List.set_cons_zero, List.set_cons_succ, i64_w, i32_w]
                 rfl
                refine take_ (i := 9) (N := some 96) (v := ?_) (a' := ?_) #[true, true, true, true, true, true, true, true, true, true, false, false, false, false] rfl rfl (take_ofW HT_.out HW_.out (by kernel_rfl)) (fun _ _ _ h => h) (Or.inl ⟨by rfl, ?_⟩) hHeld ?_ ?_
                rotate_left
                ·rintro w' ⟨s0, s1, s2⟩
                 go_simp
                 with_reducible rfl
                rotate_left
                ·simp only [Act.put, List.setIfInBounds_toArray, List.set_cons_zero, List.set_cons_succ, i64_w, i32_w]
                 rfl
                refine pure_ (i := 10) (N := some 97) (v := ?_) (a' := ?_) #[true, true, true, true, true, true, true, true, true, true, true, false, false, false] rfl rfl (any_of HT_.out (by kernel_rfl)) (fun _ _ _ h => h) (Or.inl ⟨by rfl, ?_⟩) ?_ ?_
                rotate_left
                ·intro w'
                 go_simp
                 with_reducible rfl
                rotate_left
                ·simp only [Act.put, List.setIfInBounds_toArray, List.set_cons_zero, List.set_cons_succ, i64_w, i32_w]
                 rfl
                refine take_ (i := 11) (N := some 98) (v := ?_) (a' := ?_) #[true, true, true, true, true, true, true, true, true, true, true, true, false, false] rfl rfl (take_ofW HT_.out HW_.out (by kernel_rfl)) (fun _ _ _ h => h) (Or.inl ⟨by rfl, ?_⟩) hHeld ?_ ?_
                rotate_left
                ·rintro w' ⟨s0, s1, s2⟩
                 go_simp
                 with_reducible rfl
                rotate_left
                ·simp only [Act.put, List.setIfInBounds_toArray, List.set_cons_zero, List.set_cons_succ, i64_w, i32_w]
                 rfl
                refine pure_ (i := 12) (N := some 99) (v := ?_) (a' := ?_) #[true, true, true, true, true, true, true, true, true, true, true, true, true, false] rfl rfl (any_of HT_.out (by kernel_rfl)) (fun _ _ _ h => h) (Or.inl ⟨by rfl, ?_⟩) ?_ ?_
                rotate_left
                ·intro w'
                 go_simp
                 with_reducible rfl
                rotate_left
                ·simp only [Act.put, List.setIfInBounds_toArray, List.set_cons_zero, List.set_cons_succ, i64_w, i32_w]
                 rfl
                refine last_ (i := 13) (N := none) #[true, true, true, true, true, true, true, true, true, true, true, true, true, true] rfl rfl (one_of HT_.out (by kernel_rfl)) (by decide) (fun K hK => ?_)
                refine skip_ (w1 := ?_) (by rfl) rfl ?_ ?_
                rotate_left
                ·go_simp
                 rfl
                refine hK.out _ _ ?_
                clear hK K
                refine done_ (done_of HT_.out (by kernel_rfl)) ?_
                try go_wp2
                go_roundg k3
                case measure => have := HK1.out; have := HK2.out; have := HK3.out; omega
                case rel => exact ⟨(y136), (wrap64 (x16_3 + 1)), (by first | rfl | (simp; done) | (simp [*]; done)), H', ⟨by have := HK1.out; have := HK2.out; have := HK3.out; omega⟩, ⟨by (try simp only [hl9_2]); (with_reducible repeat (first | apply Kd.S_alloc | apply Kd.S_drewN | apply Kd.S_drew)); exact Kd.S_mono (Kd.S_far (p := ⟨go43, (x16_3 : Int).toNat, none⟩) (Kd.S_mono HO_7.out (fun k_ hk => (⟨hk, fun e_ => hk.2.2.2 (by rw [e_]; rfl)⟩ : _ ∧ k_ ≠ go43))) (fun _ hk => hk.2) (.int .i64 (rd (rd_L2 t102 x16_3) (rd x15_3 x16_3)))) (fun _ hk => ⟨hk.1.1, ⟨hk.1.2.1, ⟨hk.1.2.2.1, hk.1.2.2.2⟩⟩⟩)⟩, ⟨by (try simp only [hl9_2]); (with_reducible repeat (first | apply Kd.R_alloc | apply Kd.R_drewN | apply Kd.R_drew)); exact Kd.R_mono (Kd.R_far (p := ⟨go43, (x16_3 : Int).toNat, none⟩) (Kd.R_mono HO_9.out (fun k_ hk => (⟨hk, fun e_ => hk.2.2 (by rw [e_]; rfl)⟩ : _ ∧ k_ ≠ go43))) (fun _ hk => hk.2) (.int .i64 (rd (rd_L2 t102 x16_3) (rd x15_3 x16_3)))) (fun _ hk => ⟨hk.1.1, ⟨hk.1.2.1, hk.1.2.2⟩⟩)⟩, ⟨by (try simp only [hl9_2]); (with_reducible repeat (first | apply Kd.R_alloc | apply Kd.R_drewN | apply Kd.R_drew)); exact Kd.R_mono (Kd.R_far (p := ⟨go43, (x16_3 : Int).toNat, none⟩) (Kd.R_mono HO_10.out (fun k_ hk => (⟨hk, fun e_ => hk.2.2 (by rw [e_]; rfl)⟩ : _ ∧ k_ ≠ go43))) (fun _ hk => hk.2) (.int .i64 (rd (rd_L2 t102 x16_3) (rd x15_3 x16_3)))) (fun _ hk => ⟨hk.1.1, ⟨hk.1.2.1, hk.1.2.2⟩⟩)⟩, ⟨by (try simp only [hl9_2]); (with_reducible repeat (first | apply Kd.R_alloc | apply Kd.R_drewN | apply Kd.R_drew)); exact Kd.R_mono (Kd.R_far (p := ⟨go43, (x16_3 : Int).toNat, none⟩) (Kd.R_mono HO_12.out (fun k_ hk => (⟨hk, fun e_ => hk.2.2 (by rw [e_]; rfl)⟩ : _ ∧ k_ ≠ go43))) (fun _ hk => hk.2) (.int .i64 (rd (rd_L2 t102 x16_3) (rd x15_3 x16_3)))) (fun _ hk => ⟨hk.1.1, ⟨hk.1.2.1, hk.1.2.2⟩⟩)⟩, ⟨by (try simp only [hl9_2]); (with_reducible repeat (first | apply Kd.R_alloc | apply Kd.R_drewN | apply Kd.R_drew)); exact HQ47.out⟩, ⟨by (try simp only [hl9_2]); (with_reducible repeat (first | refine blk_drewN ?_ _ | refine blk_drew ?_ | refine blk_alloc ?_ _)); refine blk_far ?_ (by have h_ := Kd.R_ne HO_15.out BK101.out (by decide); intro e_; exact h_ (by rw [e_]; rfl)) _; (with_reducible repeat (first | refine blk_drewN ?_ _ | refine blk_drew ?_ | refine blk_alloc ?_ _)); exact BK101.out⟩, ⟨by repeat (first | (with_reducible first | exact HB.out | apply below_alloc | apply pw_below_drewN | apply below_drew1 | refine below_set ?_ GB43.out | refine below_set ?_ GE101.out) | exact HB.out)⟩⟩
               ·rw [if_neg c42] at H
                exact absurd H (by simp)
              ·rw [if_neg c41] at H
               exact absurd H (by simp)
             ·rw [if_neg c40] at H
              exact absurd H (by simp)
            ·rw [if_neg c39] at H
             exact absurd H (by simp)
           ·rw [if_neg c38] at H
            have c38b0 : decide (x16_3 < (x15_3.length : Int)) = false := decide_eq_false c38
            clear c38
            replace H := Option.bind_eq_some_iff.mp H
            obtain ⟨t137, A480, H⟩ := H
            replace H : (if x12_2.length < 17592186044416 then (spec_l5Where.l1 k3 t102 x9_2 x10_2 (x12_2 ++ [t137]) t129 (wrap64 (x14_2 + 1)) a0_0 l0_1 l0_2) else (none)) = some (r1, r2, r3) := H
            have A48 := Aside0.mk A480
            clear A480
            by_cases c49 : x12_2.length < 17592186044416
            ·rw [if_pos c49] at H
             have LMc49 := Aside0.mk c49
             clear c49
             obtain ⟨y138, hy138⟩ : ∃ y_ : List Int, y_ = (x12_2 ++ [t137]) := ⟨_, rfl⟩
             replace H : (spec_l5Where.l1 k3 t102 x9_2 x10_2 y138 t129 (wrap64 (x14_2 + 1)) a0_0 l0_1 l0_2) = some (r1, r2, r3) := by first | (rw [hy138]; with_reducible exact H) | (have H2_ := (Option.bind_some _ _).symm.trans H; rw [hy138]; with_reducible exact H2_) | (have H2_ := (Option.bind_some _ _).symm.trans H; with_reducible exact H2_) | with_reducible exact H | (rw [hy138]; exact H) | exact H
             have Ny138 := Aside0.mk hy138
             clear hy138
             have H' := Aside0.mk H
             clear H
             obtain ⟨Ao50, co50, eo50⟩ := Kd.R_slice HO_15.out
             subst eo50
             obtain ⟨hcz51_0, hcz51_1, hcz51_2, hfz51_0, hfz51_1, hfz51_2⟩ := cz3 BK101.out
             go_wp2_with (first | ((with_reducible refine gate_callee (f := 78) rfl ?_); refine goesL_ (some 104) rfl rfl Try.func78 (by kernel_rfl) rfl #[.slice A0_1 l0_1.length c0_1, .slice Ao50 x15_3.length co50] rfl (by (try simp only [List.map_toArray, List.map_cons, List.map_nil]); first | done | rfl | (simp only [List.length_drop, List.length_take]; rfl)) ?_; (with_reducible refine (spec_l5At.calls k3 _ _ l0_1 _ _ x15_3 t137 _ ?side1 ?side2 ?side3 ?side4 A48.out).mono ?_); (case side1 => exact Cq (Kd.C_below HR0_1.out HB.out)); (case side2 => exact HC0_1.out); (case side3 => exact Cq (Kd.R_reads' HO_15.out).2.2); (case side4 => exact (Kd.R_reads' HO_15.out).2.1); rintro e w' ⟨rfl, ⟨nd, rfl⟩⟩; refine ⟨_, rfl, ?_⟩) | ((with_reducible refine gate_builtin (b := .append) (xs := #[.tmp 100, .tmp 105]) rfl ?_); at_builtin; refine Kd.R_append (Kd.int .i64) (w0 := w) w.heap.size rfl (.tmp 100) (.tmp 105) 22 3 (.int .i64 0) 8 rfl Try.underlying22 info3 rfl (by decide) (by omega) u12 x12_2 t137 [.int .i64 t137] (fun k_ => some k_ ≠ (.slice Ao31 x9_2.length co31 : Value).ownBlock ∧ some k_ ≠ (.slice Ao36 x10_2.length co36 : Value).ownBlock ∧ some k_ ≠ (.slice Ao50 x15_3.length co50 : Value).ownBlock) (fun _ => False) rfl rfl ?aP (fun _ hk => hk.elim) ?aF ?aO ?aB ?aS ?aL ?_; (case aP => exact rfl); (case aB => exact (Vq HB.out)); (case aF => exact (fun k_ hk => ⟨Kd.fresh' (Kd.R_lt (Rq HO_9.out)) k_ hk, Kd.fresh' (Kd.R_lt (Rq HO_10.out)) k_ hk, Kd.fresh' (Kd.R_lt (Rq HO_15.out)) k_ hk⟩)); (case aO => exact (Rq HO_12.out)); (case aS => exact (below_size (Vq HB.out))); (case aL => have := LMc49.out; omega); intro v139 w52 ho hb hg hat; rw [← Ny138.out] at ho; have n0_ := Aside0.mk (Kd.S_after (ok := (fun k_ => some k_ ≠ (.slice Ao31 x9_2.length co31 : Value).ownBlock ∧ some k_ ≠ (.slice Ao36 x10_2.length co36 : Value).ownBlock ∧ some k_ ≠ (.slice Ao50 x15_3.length co50 : Value).ownBlock)) (Sq (Kd.S_mono HO_7.out (fun _ hk => ⟨⟨hk.1, ⟨hk.2.1, hk.2.2.2⟩⟩, hk.2.2.1⟩))) hg hat); have n1_ := Aside0.mk (Kd.R_after (ok := (fun k_ => some k_ ≠ (.slice Ao36 x10_2.length co36 : Value).ownBlock ∧ some k_ ≠ (.slice Ao50 x15_3.length co50 : Value).ownBlock)) (Rq (Kd.R_mono HO_9.out (fun _ hk => ⟨⟨hk.1, hk.2.2⟩, hk.2.1⟩))) hg hat); have n2_ := Aside0.mk (Kd.R_after (ok := (fun k_ => some k_ ≠ (.slice Ao31 x9_2.length co31 : Value).ownBlock ∧ some k_ ≠ (.slice Ao50 x15_3.length co50 : Value).ownBlock)) (Rq (Kd.R_mono HO_10.out (fun _ hk => ⟨⟨hk.1, hk.2.2⟩, hk.2.1⟩))) hg hat); have n3_ := Aside0.mk (Kd.R_after (ok := (fun k_ => some k_ ≠ (.slice Ao31 x9_2.length co31 : Value).ownBlock ∧ some k_ ≠ (.slice Ao36 x10_2.length co36 : Value).ownBlock)) (Rq (Kd.R_mono HO_15.out (fun _ hk => ⟨⟨hk.1, hk.2.1⟩, hk.2.2⟩))) hg hat); have n4_ := Aside0.mk (blk_grown (g := gb101) (o := .cells #[.bool a0_0, .slice A0_1 l0_1.length c0_1, .slice A0_2 l0_2.length c0_2] 28 (0, 0)) (Bq BK101.out) hg (Kd.R_ne HO_12.out BK101.out (by decide))); have n5_ := Aside0.mk (hb); have n6_ := Aside0.mk (ho); clear HO_7; clear HO_9; clear HO_10; clear HO_15; clear BK101; clear HB; clear HO_12; have HO_7 := n0_; have HO_9 := n1_; have HO_10 := n2_; have HO_15 := n3_; have BK101 := n4_; have HB := n5_; have HO140 := n6_; clear n0_ n1_ n2_ n3_ n4_ n5_ n6_; clear ho hb hg hat))
             (try simp only [← hl9_2])
             go_roundg k3
             case measure => have := HK1.out; have := HK2.out; have := HK3.out; omega
             case rel => exact ⟨(x9_2), (x10_2), (y138), (wrap64 (x14_2 + 1)), (by first | rfl | (simp; done) | (simp [*]; done)), H', ⟨by have := HK1.out; have := HK2.out; have := HK3.out; omega⟩, ⟨by (try simp only [hl9_2]); (with_reducible repeat (first | apply Kd.S_alloc | apply Kd.S_drewN | apply Kd.S_drew)); exact Kd.S_mono HO_7.out (fun _ hk => ⟨hk.1.1, ⟨hk.1.2.1, hk.2⟩⟩)⟩, ⟨by (try simp only [hl9_2]); (with_reducible repeat (first | apply Kd.R_alloc | apply Kd.R_drewN | apply Kd.R_drew)); exact Kd.R_mono HO_9.out (fun _ hk => ⟨hk.1.1, hk.2⟩)⟩, ⟨by (try simp only [hl9_2]); (with_reducible repeat (first | apply Kd.R_alloc | apply Kd.R_drewN | apply Kd.R_drew)); exact Kd.R_mono HO_10.out (fun _ hk => ⟨hk.1.1, hk.2⟩)⟩, ⟨by (try simp only [hl9_2]); (with_reducible repeat (first | apply Kd.R_alloc | apply Kd.R_drewN | apply Kd.R_drew)); exact Kd.R_mono HO140.out (fun _ hk => ⟨hk.1, hk.2.1⟩)⟩, ⟨by (try simp only [hl9_2]); (with_reducible repeat (first | refine blk_drewN ?_ _ | refine blk_drew ?_ | refine blk_alloc ?_ _)); exact BK101.out⟩, ⟨Vq HB.out⟩⟩
            ·rw [if_neg c49] at H
             exact absurd H (by simp)
        ·rw [if_neg c34] at H
         have c34b0 : decide (x14_2 < t129) = false := decide_eq_false c34
         clear c34
         simp only [Option.some.injEq, Prod.mk.injEq] at H
         obtain ⟨rfl, rfl, rfl⟩ := H
         go_wp2
         go_ret3
         exact ⟨_, _, by first | rfl | (simp [errW_none, errW_some] <;> rfl) | (simp [*, errW_none, errW_some] <;> rfl), by (with_reducible repeat (first | apply Kd.R_alloc | apply Kd.R_drewN | apply Kd.R_drew)); exact Kd.R_mono HO_12.out (fun _ hk => hk.1), by (with_reducible repeat (first | apply Kd.R_alloc | apply Kd.R_drewN | apply Kd.R_drew)); exact Kd.R_mono HO_9.out (fun _ hk => hk.2), by repeat (first | (with_reducible first | exact HB.out | apply below_alloc | apply pw_below_drewN | apply below_drew1 | refine below_set ?_ GE101.out) | exact HB.out)⟩
     ·replace c29 := Bool.eq_false_iff.mpr c29
      subst c29
      have H1 : (some (x10_1, x9_1, 7)) = some (r1, r2, r3) := by rw [if_neg (show ¬ (false = true) by decide)] at H; exact H
      clear H
      have H := H1
      clear H1
      simp only [Option.some.injEq, Prod.mk.injEq] at H
      obtain ⟨rfl, rfl, rfl⟩ := H
      obtain ⟨Ao53, co53, eo53⟩ := Kd.R_slice HO_9.out
      subst eo53
      go_wp2_with (first | ((with_reducible refine gate_callee (f := 72) rfl ?_); refine goesL_ (some 66) rfl rfl Try.func72 (by kernel_rfl) rfl #[.slice Ao53 x9_1.length co53] rfl (by (try simp only [List.map_toArray, List.map_cons, List.map_nil]); first | done | rfl | (simp only [List.length_drop, List.length_take]; rfl)) ?_; (with_reducible refine (spec_l3ShapeOk.calls k1 _ _ x9_1 false _ ?side1 ?side2 A28.out).mono ?_); (case side1 => exact Cq (Kd.R_reads' HO_9.out).2.2); (case side2 => exact (Kd.R_reads' HO_9.out).2.1); rintro e w' ⟨rfl, ⟨nd, rfl⟩⟩; refine ⟨_, rfl, ?_⟩))
      go_ret3
      exact ⟨_, _, by first | rfl | (simp [errW_none, errW_some] <;> rfl) | (simp [*, errW_none, errW_some] <;> rfl), by (with_reducible repeat (first | apply Kd.R_alloc | apply Kd.R_drewN | apply Kd.R_drew)); exact HO_10.out, by (with_reducible repeat (first | apply Kd.R_alloc | apply Kd.R_drewN | apply Kd.R_drew)); exact HO_9.out, by repeat (first | (with_reducible first | exact HB.out | apply below_alloc | apply pw_below_drewN | apply below_drew1 | refine below_set ?_ GE101.out) | exact HB.out)⟩
 ·rw [if_neg c4] at H
  have c4b0 : (t105 == 0) = false := beq_eq_false_iff_ne.mpr c4
  have c4b1 : (t105 != 0) = true := bne_iff_ne.mpr c4
  simp only [Option.some.injEq, Prod.mk.injEq] at H
  obtain ⟨rfl, rfl, rfl⟩ := H
  go_enter Try.func54, Try.ntmps54
  go_wp2_with (first | ((with_reducible refine gate_dst (N := 2) rfl ?_); refine box_ev (cs := #[.bool a0_0, .slice A0_1 l0_1.length c0_1, .slice A0_2 l0_2.length c0_2]) (t := 28) ?_; intro gb101 hg w54 hbox hb; have BK101 := Aside0.mk (hbox); have GW101 := Aside0.mk (Gq hg HB.out); have GE101 := Aside0.mk (Gq hg HB.out); replace HB := Aside0.mk (below_step (Vq HB.out) hb); clear hb hbox hg; obtain ⟨hcz55_0, hcz55_1, hcz55_2, hfz55_0, hfz55_1, hfz55_2⟩ := cz3 BK101.out) | ((with_reducible refine gate_callee (f := 115) rfl ?_); refine goesL_ (some 20) rfl rfl Try.func115 (by kernel_rfl) rfl #[.agg #[.bool a0_0, .slice A0_1 l0_1.length c0_1, .slice A0_2 l0_2.length c0_2], .slice A1 l1.length c1] rfl (by (try simp only [List.map_toArray, List.map_cons, List.map_nil]); first | done | rfl | (simp only [List.length_drop, List.length_take]; rfl)) ?_; (with_reducible refine (spec_l5Picks.calls k a0_0 _ _ l0_1 _ _ l0_2 _ _ l1 t102 t105 _ ?side1 ?side2 ?side3 ?side4 ?side5 ?side6 A3.out).mono ?_); (case side1 => exact Cq (Kd.C_below HR0_1.out HB.out)); (case side2 => exact HC0_1.out); (case side3 => exact Cq (Kd.C_below HR0_2.out HB.out)); (case side4 => exact HC0_2.out); (case side5 => exact Cq (Kd.C_below HR1.out HB.out)); (case side6 => exact HC1.out); rintro e w56 ⟨v103, rfl, ho0, hb⟩; refine ⟨_, rfl, ?_⟩; have HO104 := Aside0.mk (Kd.S_lower ho0 (below_size (Vq HB.out))); replace BK101 := Aside0.mk (blk_below (g := gb101) (o := .cells #[.bool a0_0, .slice A0_1 l0_1.length c0_1, .slice A0_2 l0_2.length c0_2] 28 (0, 0)) (Bq BK101.out) hb); replace HB := Aside0.mk (below_step (Vq HB.out) hb); (try clear hb); (try clear hb2); (try clear hk); (try clear hi); (try clear ho0)) | ((with_reducible refine gate_dst (N := 23) rfl ?_); refine Kd.R_lit (Kd.int .i64) _ 3 ?hg (N := 23) ?hd (xs := ([] : List Int)) (inner := []) (ok := fun _ => True) (okp := fun _ => True) ?hr ?hp (fun _ hk => hk) trivial (Below.refl _ _) (Nat.le_refl _) (by simp) ?_; (case hd => rfl); (case hg => rfl); (case hr => first | (go_simp; done) | (go_simp; rfl)); (case hp => exact (Reps.none _ _)); intro v107 w57 ho58 hb hg_ hnew_; clear hg_ hnew_; (first | rw [← Ny106.out] at ho58 | (simp only [Int.reduceToNat] at ho58; rw [← Ny106.out] at ho58)); replace HO104 := Aside0.mk (Kd.S_elder' (Sq HO104.out) (Kd.R_base ho58) hb); have HO108 := Aside0.mk (Kd.R_lower ho58 (below_size (Vq HB.out))); replace BK101 := Aside0.mk (blk_below (g := gb101) (o := .cells #[.bool a0_0, .slice A0_1 l0_1.length c0_1, .slice A0_2 l0_2.length c0_2] 28 (0, 0)) (Bq BK101.out) hb); replace HB := Aside0.mk (below_step (Vq HB.out) hb); clear hb ho58) | ((with_reducible refine gate_dst (N := 24) rfl ?_); refine Kd.R_lit (Kd.int .i64) _ 3 ?hg (N := 24) ?hd (xs := ([] : List Int)) (inner := []) (ok := fun _ => True) (okp := fun _ => True) ?hr ?hp (fun _ hk => hk) trivial (Below.refl _ _) (Nat.le_refl _) (by simp) ?_; (case hd => rfl); (case hg => rfl); (case hr => first | (go_simp; done) | (go_simp; rfl)); (case hp => exact (Reps.none _ _)); intro v110 w59 ho60 hb hg_ hnew_; clear hg_ hnew_; (first | rw [← Ny109.out] at ho60 | (simp only [Int.reduceToNat] at ho60; rw [← Ny109.out] at ho60)); replace HO104 := Aside0.mk (Kd.S_elder' (Sq HO104.out) (Kd.R_base ho60) hb); have HO111 := Aside0.mk (Kd.R_lower (Kd.R_new' ho60 (Kd.R_lt (Rq HO108.out))) (below_size (Vq HB.out))); replace HO108 := Aside0.mk (Kd.R_elder' (Rq HO108.out) (Kd.R_base ho60) hb); replace BK101 := Aside0.mk (blk_below (g := gb101) (o := .cells #[.bool a0_0, .slice A0_1 l0_1.length c0_1, .slice A0_2 l0_2.length c0_2] 28 (0, 0)) (Bq BK101.out) hb); replace HB := Aside0.mk (below_step (Vq HB.out) hb); clear hb ho60))
  go_ret3
  exact ⟨_, _, by first | rfl | (simp [errW_none, errW_some] <;> rfl) | (simp [*, errW_none, errW_some] <;> rfl), by (with_reducible repeat (first | apply Kd.R_alloc | apply Kd.R_drewN | apply Kd.R_drew)); exact Kd.R_mono HO111.out (fun _ hk => hk.2), by (with_reducible repeat (first | apply Kd.R_alloc | apply Kd.R_drewN | apply Kd.R_drew)); exact Kd.R_mono HO108.out (fun _ hk => hk.2), by repeat (first | (with_reducible first | exact HB.out | apply below_alloc | apply pw_below_drewN | apply below_drew1 | refine below_set ?_ GE101.out) | exact HB.out)⟩
/-! ### impl_Array_rank: function 90 -/
def impl_Array_rank.f (a0_0 : Bool) (l0_1 : List Int) (l0_2 : List Int) : Option (Int) := some (l0_1.length : Int)
set_option maxHeartbeats 8000000 in
set_option maxRecDepth 100000 in
theorem impl_Array_rank.calls (a0_0 : Bool) (A0_1 : Option Addr) (c0_1 : Nat) (l0_1 : List Int) (A0_2 : Option Addr) (c0_2 : Nat) (l0_2 : List Int) (r : Int) (w : World) (hr0_1 : Kd.C (Kd.int .i64) w A0_1 l0_1.length l0_1) (hc0_1 : l0_1.length ≤ c0_1) (hr0_2 : Kd.C (Kd.int .i64) w A0_2 l0_2.length l0_2) (hc0_2 : l0_2.length ≤ c0_2) (h : impl_Array_rank.f a0_0 l0_1 l0_2 = some r) :
 Calls Try.prog 90 #[.agg #[.bool a0_0, .slice A0_1 l0_1.length c0_1, .slice A0_2 l0_2.length c0_2]] w fun e w' => e = .returned (.int .i64 r) ∧ Below w.heap.size w w' := by
 have hu28 := Try.underlying28
 have HR0_1 := Aside0.mk hr0_1
 have HC0_1 := Aside0.mk hc0_1
 clear hr0_1 hc0_1
 have HR0_2 := Aside0.mk hr0_2
 have HC0_2 := Aside0.mk hc0_2
 clear hr0_2 hc0_2
 have HB := Aside0.mk (Below.refl w.heap.size w)
 have H : (some (l0_1.length : Int)) = some r := h
 clear h
 obtain rfl := Option.some.inj H
 go_enter Try.func90, Try.ntmps90
 go_wp2_with (first | ((with_reducible refine gate_dst (N := 1) rfl ?_); refine box_ev (cs := #[.bool a0_0, .slice A0_1 l0_1.length c0_1, .slice A0_2 l0_2.length c0_2]) (t := 28) ?_; intro gb101 hg w2 hbox hb; have BK101 := Aside0.mk (hbox); have GW101 := Aside0.mk (Gq hg HB.out); have GE101 := Aside0.mk (Gq hg HB.out); replace HB := Aside0.mk (below_step (Vq HB.out) hb); clear hb hbox hg; obtain ⟨hcz3_0, hcz3_1, hcz3_2, hfz3_0, hfz3_1, hfz3_2⟩ := cz3 BK101.out))
 go_ret
 exact ⟨by first | rfl | (simp [errW_none, errW_some] <;> rfl) | (simp [*, errW_none, errW_some] <;> rfl), by repeat (first | (with_reducible first | exact HB.out | apply below_alloc | apply pw_below_drewN | apply below_drew1 | refine below_set ?_ GE101.out) | exact HB.out)⟩
/-! ### impl_listOk: function 99 -/
def impl_listOk.f (a0_0 : Bool) (l0_1 : List Int) (l0_2 : List Int) : Option (Int) := (impl_Array_rank.f a0_0 l0_1 l0_2).bind fun t102 => (if t102 > 1 then (some 4) else (if a0_0 = true then (some 3) else (some 0)))
/-! ### spec_l5List: function 71 -/
def spec_l5List.f (a0_0 : Bool) (l0_1 : List Int) (l0_2 : List Int) : Option (Int) := if (l0_1.length : Int) > 1 then (some 4) else (if a0_0 = true then (some 3) else (some 0))
/-! ### spec_l4Axis: function 82 -/
mutual
def spec_l4Axis.j0 : Nat → List Int → Int → Option (Int × Int × Int)
 | 0, _, _ => none
 | k + 1, x0, x7 => spec_l4Axis.l0 k x0 x7 1 1 0
def spec_l4Axis.l0 : Nat → List Int → Int → Int → Int → Int → Option (Int × Int × Int)
 | 0, _, _, _, _, _ => none
 | k + 1, x0, x7, x8, x9, x10 => if x10 < (x0.length : Int) then (if x10 < x7 then (if 0 ≤ x10 then (if x10 > x7 then (spec_l4Axis.l0 k x0 x7 (wrap64 (x8 * (rd x0 x10))) (wrap64 (x9 * (rd x0 x10))) (wrap64 (x10 + 1))) else (spec_l4Axis.l0 k x0 x7 (wrap64 (x8 * (rd x0 x10))) x9 (wrap64 (x10 + 1)))) else (none)) else (if x10 > x7 then (if 0 ≤ x10 then (spec_l4Axis.l0 k x0 x7 x8 (wrap64 (x9 * (rd x0 x10))) (wrap64 (x10 + 1))) else (none)) else (spec_l4Axis.l0 k x0 x7 x8 x9 (wrap64 (x10 + 1))))) else (if 0 ≤ x7 then (if x7 < (x0.length : Int) then (some (x8, rd x0 x7, x9)) else (none)) else (none))
end
def spec_l4Axis.f (k : Nat) (l0 : List Int) (a1 : Bool) : Option (Int × Int × Int) := if a1 = true then (spec_l4Axis.j0 k l0 0) else (spec_l4Axis.j0 k l0 (wrap64 ((l0.length : Int) - 1)))
theorem spec_l4Axis.mono_l : ∀ k, (∀ y0 y1, LeO (spec_l4Axis.j0 k y0 y1) (spec_l4Axis.j0 (k + 1) y0 y1)) ∧ (∀ y0 y1 y2 y3 y4, LeO (spec_l4Axis.l0 k y0 y1 y2 y3 y4) (spec_l4Axis.l0 (k + 1) y0 y1 y2 y3 y4))
 | 0 => ⟨fun _ _ r h => by simp [spec_l4Axis.j0] at h, fun _ _ _ _ _ r h => by simp [spec_l4Axis.l0] at h⟩
 | k + 1 => by
  obtain ⟨ih0, ih1⟩ := spec_l4Axis.mono_l k
  refine ⟨?_, ?_⟩
  case' refine_1 => (intro y0 y1; unfold spec_l4Axis.j0)
  case' refine_2 => (intro y0 y1 y2 y3 y4; unfold spec_l4Axis.l0)
  all_goals
   repeat' first
   | (with_reducible exact ih0 _ _)
   | (with_reducible exact ih1 _ _ _ _ _)
   | (with_reducible exact LeO.refl _)
   | (with_reducible exact LeO.none _)
   | (with_reducible refine LeO.ite ?_ ?_)
   | (with_reducible refine LeO.bind ?_ (fun _ => ?_))
   | exact ih0 _ _
   | exact ih1 _ _ _ _ _
   | exact LeO.none _
   | refine LeO.ite ?_ ?_
   | refine LeO.bind ?_ (fun _ => ?_)
theorem spec_l4Axis.mono : ∀ a0 a1 k, LeO (spec_l4Axis.f k a0 a1) (spec_l4Axis.f (k + 1) a0 a1) := by
 intro a0 a1 k
 obtain ⟨ih0, ih1⟩ := spec_l4Axis.mono_l k
 unfold spec_l4Axis.f
 repeat' first
  | (with_reducible exact ih0 _ _)
  | (with_reducible exact ih1 _ _ _ _ _)
  | (with_reducible exact LeO.refl _)
  | (with_reducible exact LeO.none _)
  | (with_reducible refine LeO.ite ?_ ?_)
  | (with_reducible refine LeO.bind ?_ (fun _ => ?_))
  | exact ih0 _ _
  | exact ih1 _ _ _ _ _
  | exact LeO.none _
  | refine LeO.ite ?_ ?_
  | refine LeO.bind ?_ (fun _ => ?_)
/-! ### spec_l4Mod: function 83 -/
def spec_l4Mod.f (a0 : Int) (a1 : Int) : Option (Int) := if a0 = 0 then (some a1) else (if (Int.tmod a1 a0) = 0 then (some (Int.tmod a1 a0)) else (if ((decide ((Int.tmod a1 a0) < 0)) != (decide (a0 < 0))) = true then (some (wrap64 ((Int.tmod a1 a0) + a0))) else (some (Int.tmod a1 a0))))
/-! ### spec_l3Copy: function 81 -/
def spec_l3Copy.f (a0_0 : Bool) (l0_1 : List Int) (l0_2 : List Int) : Option (Bool × List Int × List Int) := (spec_l3Ints.f l0_1).bind fun t103 => ((spec_l3Ints.f l0_2).bind fun t106 => (some (a0_0, t103, t106)))
def spec_l3Copy.B1 : List Nat := [0, 1, 0, 4, 12, 0, 32, 124, 255, 511]
/-! ### spec_l5Single: function 80 -/
def spec_l5Single.f (a0_0 : Bool) (l0_1 : List Int) (l0_2 : List Int) : Option (Int) := if (l0_2.length : Int) = 1 then (if a0_0 = true then (some 3) else (some 0)) else (some 5)
/-! ### bits_Mul64: function 142 -/
def bits_Mul64.f (a0 : Int) (a1 : Int) : Option (Int × Int) := some (IntKind.u64.wrap ((IntKind.u64.wrap ((IntKind.u64.wrap ((a0 / 4294967296) * (a1 / 4294967296))) + ((IntKind.u64.wrap ((IntKind.u64.wrap ((a0 / 4294967296) * (Go.bits .and .u64 a1 4294967295))) + ((IntKind.u64.wrap ((Go.bits .and .u64 a0 4294967295) * (Go.bits .and .u64 a1 4294967295))) / 4294967296))) / 4294967296))) + ((IntKind.u64.wrap ((Go.bits .and .u64 (IntKind.u64.wrap ((IntKind.u64.wrap ((a0 / 4294967296) * (Go.bits .and .u64 a1 4294967295))) + ((IntKind.u64.wrap ((Go.bits .and .u64 a0 4294967295) * (Go.bits .and .u64 a1 4294967295))) / 4294967296))) 4294967295) + (IntKind.u64.wrap ((Go.bits .and .u64 a0 4294967295) * (a1 / 4294967296))))) / 4294967296)), IntKind.u64.wrap (a0 * a1))
/-! ### bits_Mul: function 138 -/
def bits_Mul.f (a0 : Int) (a1 : Int) : Option (Int × Int) := (bits_Mul64.f a0 a1).bind fun bt101 => (some (bt101.1, bt101.2))
/-! ### impl_Array_without: function 92 -/
def impl_Array_without.f (a0_0 : Bool) (l0_1 : List Int) (l0_2 : List Int) (a1 : Bool) : Option (List Int) := if a1 = true then (if 1 ≤ (l0_1.length : Int) then ((slices_Clone_int_int.f (l0_1.drop 1)).bind fun t103 => (some t103)) else (none)) else ((impl_Array_rank.f a0_0 l0_1 l0_2).bind fun t106 => (if 0 ≤ (wrap64 (t106 - 1)) then (if (wrap64 (t106 - 1)) ≤ (l0_1.length : Int) then ((slices_Clone_int_int.f (l0_1.take ((wrap64 (t106 - 1)) : Int).toNat)).bind fun t108 => (some t108)) else (none)) else (none)))
def impl_Array_without.B3 : List Nat := [0, 1, 0, 4, 12, 31, 63, 127]
/-! ### spec_l5Abs: function 96 -/
def spec_l5Abs.f (a0 : Int) : Option (Int) := if a0 < 0 then (some (wrap64 (-a0))) else (some a0)
/-! ### slices_Equal_int_int: function 91 -/
def slices_Equal_int_int.l0 : Nat → List Int → List Int → Int → Int → Option (Bool)
 | 0, _, _, _, _ => none
 | k + 1, x0, x1, x12, x13 => if x13 < x12 then (if 0 ≤ x13 then (if x13 < (x0.length : Int) then (if x13 < (x1.length : Int) then (if (rd x0 x13) = (rd x1 x13) then (slices_Equal_int_int.l0 k x0 x1 x12 (wrap64 (x13 + 1))) else (some false)) else (none)) else (none)) else (none)) else (some true)
def slices_Equal_int_int.f (k : Nat) (l0 : List Int) (l1 : List Int) : Option (Bool) := if (l0.length : Int) = (l1.length : Int) then (slices_Equal_int_int.l0 k l0 l1 (l0.length : Int) 0) else (some false)
theorem slices_Equal_int_int.mono_l : ∀ k, (∀ y0 y1 y2 y3, LeO (slices_Equal_int_int.l0 k y0 y1 y2 y3) (slices_Equal_int_int.l0 (k + 1) y0 y1 y2 y3))
 | 0 => fun _ _ _ _ r h => by simp [slices_Equal_int_int.l0] at h
 | k + 1 => by
  have ih0 := slices_Equal_int_int.mono_l k
  ·intro y0 y1 y2 y3
   unfold slices_Equal_int_int.l0
   repeat' first
   | (with_reducible exact ih0 _ _ _ _)
   | (with_reducible exact LeO.refl _)
   | (with_reducible exact LeO.none _)
   | (with_reducible refine LeO.ite ?_ ?_)
   | (with_reducible refine LeO.bind ?_ (fun _ => ?_))
   | exact ih0 _ _ _ _
   | exact LeO.none _
   | refine LeO.ite ?_ ?_
   | refine LeO.bind ?_ (fun _ => ?_)
theorem slices_Equal_int_int.mono : ∀ a0 a1 k, LeO (slices_Equal_int_int.f k a0 a1) (slices_Equal_int_int.f (k + 1) a0 a1) := by
 intro a0 a1 k
 have ih0 := slices_Equal_int_int.mono_l k
 unfold slices_Equal_int_int.f
 repeat' first
  | (with_reducible exact ih0 _ _ _ _)
  | (with_reducible exact LeO.refl _)
  | (with_reducible exact LeO.none _)
  | (with_reducible refine LeO.ite ?_ ?_)
  | (with_reducible refine LeO.bind ?_ (fun _ => ?_))
  | exact ih0 _ _ _ _
  | exact LeO.none _
  | refine LeO.ite ?_ ?_
  | refine LeO.bind ?_ (fun _ => ?_)
/-! ### spec_l3Same: function 87 -/
def spec_l3Same.l0 : Nat → List Int → List Int → Int → Option (Bool)
 | 0, _, _, _ => none
 | k + 1, x0, x1, x5 => if x5 < (x0.length : Int) then (if 0 ≤ x5 then (if x5 < (x1.length : Int) then (if (rd x0 x5) = (rd x1 x5) then (spec_l3Same.l0 k x0 x1 (wrap64 (x5 + 1))) else (some false)) else (none)) else (none)) else (some true)
def spec_l3Same.f (k : Nat) (l0 : List Int) (l1 : List Int) : Option (Bool) := if (l0.length : Int) = (l1.length : Int) then (spec_l3Same.l0 k l0 l1 0) else (some false)
theorem spec_l3Same.mono_l : ∀ k, (∀ y0 y1 y2, LeO (spec_l3Same.l0 k y0 y1 y2) (spec_l3Same.l0 (k + 1) y0 y1 y2))
 | 0 => fun _ _ _ r h => by simp [spec_l3Same.l0] at h
 | k + 1 => by
  have ih0 := spec_l3Same.mono_l k
  ·intro y0 y1 y2
   unfold spec_l3Same.l0
   repeat' first
   | (with_reducible exact ih0 _ _ _)
   | (with_reducible exact LeO.refl _)
   | (with_reducible exact LeO.none _)
   | (with_reducible refine LeO.ite ?_ ?_)
   | (with_reducible refine LeO.bind ?_ (fun _ => ?_))
   | exact ih0 _ _ _
   | exact LeO.none _
   | refine LeO.ite ?_ ?_
   | refine LeO.bind ?_ (fun _ => ?_)
theorem spec_l3Same.mono : ∀ a0 a1 k, LeO (spec_l3Same.f k a0 a1) (spec_l3Same.f (k + 1) a0 a1) := by
 intro a0 a1 k
 have ih0 := spec_l3Same.mono_l k
 unfold spec_l3Same.f
 repeat' first
  | (with_reducible exact ih0 _ _ _)
  | (with_reducible exact LeO.refl _)
  | (with_reducible exact LeO.none _)
  | (with_reducible refine LeO.ite ?_ ?_)
  | (with_reducible refine LeO.bind ?_ (fun _ => ?_))
  | exact ih0 _ _ _
  | exact LeO.none _
  | refine LeO.ite ?_ ?_
  | refine LeO.bind ?_ (fun _ => ?_)
end Go.Proofs.Ytehfcnndjhjkoaa.PA
