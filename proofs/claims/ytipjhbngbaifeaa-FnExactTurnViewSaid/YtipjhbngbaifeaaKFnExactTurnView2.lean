import Derived.Test.YtipjhbngbaifeaaKFnExactTurnView1
import Derived.WalkSpells
import Derived.RegionTactic
import Derived.ChangeAlike
import Derived.BigRegion
import Derived.Laws.CopyOwn
import Derived.Outline
import Derived.ChangeKeysEq
import Derived.Stop.BytesEq
import Derived.Deep.RegionHeld3
import Derived.Deep.DeepCutAuto
import Derived.Deep.RegionLaw

-- By a program (prt.py, over the print of the kit), for this claim. Not trusted: Lean checks it.
namespace Go.Proofs.Ytipjhbngbaifeaa.PA
open Go.RowKit Go.Proofs.YtipjhbngbaifeaaW.PrintWords Go.Proofs.YtipjhbngbaifeaaW.PrintLast Go.Proofs.YtipjhbngbaifeaaW.PrintMore
attribute [local go_sem] max2_int min2_int max_two min_two max_three min_three max_four min_four   -- for this text's walks alone
set_option linter.unusedVariables false
set_option linter.unusedSimpArgs false

/-! ### spec_TurnView: function 42 -/
mutual
def spec_TurnView.j0 : Nat → List Int → Int → Bool → Int → List Int → List Int → Option (Int × List Int × List Int × Bool)
  | 0, _, _, _, _, _, _ => none
  | k + 1, x1, x6, x22, x102000, x102001, x102002 => if x22 = true then (some (0, ([] : List Int), ([] : List Int), false)) else ((spec_l7Copy.f x102000 x102001 x102002).bind fun bt104 => (if 0 ≤ x6 then (if (x6 : Int).toNat ≤ 281474976710656 then (spec_TurnView.l0 k x1 x6 (List.replicate (x6 : Int).toNat false) 0 x102000 x102001 x102002 bt104.1 bt104.2.1 bt104.2.2) else (none)) else (none)))
def spec_TurnView.l0 : Nat → List Int → Int → List Bool → Int → Int → List Int → List Int → Int → List Int → List Int → Option (Int × List Int × List Int × Bool)
  | 0, _, _, _, _, _, _, _, _, _, _ => none
  | k + 1, x1, x6, x8, x9, x102000, x102001, x102002, x112000, x112001, x112002 => if x9 < x6 then (if 0 ≤ x9 then (if x9 < (x1.length : Int) then (if (wrap64 ((rd x1 x9) - 1)) < 0 then (some (0, ([] : List Int), ([] : List Int), false)) else (if (wrap64 ((rd x1 x9) - 1)) ≥ x6 then (some (0, ([] : List Int), ([] : List Int), false)) else (if 0 ≤ (wrap64 ((rd x1 x9) - 1)) then (if (wrap64 ((rd x1 x9) - 1)) < (x8.length : Int) then (if rdOf false x8 (wrap64 ((rd x1 x9) - 1)) = true then (some (0, ([] : List Int), ([] : List Int), false)) else (if x9 < (x102001.length : Int) then (if (wrap64 ((rd x1 x9) - 1)) < (x112001.length : Int) then (if x9 < (x102002.length : Int) then (if (wrap64 ((rd x1 x9) - 1)) < (x112002.length : Int) then (spec_TurnView.l0 k x1 x6 (x8.set ((wrap64 ((rd x1 x9) - 1)) : Int).toNat true) (wrap64 (x9 + 1)) x102000 x102001 x102002 x112000 (x112001.set ((wrap64 ((rd x1 x9) - 1)) : Int).toNat (rd x102001 x9)) (x112002.set ((wrap64 ((rd x1 x9) - 1)) : Int).toNat (rd x102002 x9))) else (none)) else (none)) else (none)) else (none))) else (none)) else (none)))) else (none)) else (none)) else (some (x112000, x112001, x112002, true))
end
def spec_TurnView.f (k : Nat) (a0_0 : Int) (l0_1 : List Int) (l0_2 : List Int) (l1 : List Int) : Option (Int × List Int × List Int × Bool) := (spec_l7Formed.f k a0_0 l0_1 l0_2).bind fun t103 => (if t103 = true then (spec_TurnView.j0 k l1 (l0_1.length : Int) ((l1.length : Int) != (l0_1.length : Int)) a0_0 l0_1 l0_2) else (spec_TurnView.j0 k l1 (l0_1.length : Int) true a0_0 l0_1 l0_2))
theorem spec_TurnView.mono_l : ∀ k, (∀ y0 y1 y2 y3 y4 y5, LeO (spec_TurnView.j0 k y0 y1 y2 y3 y4 y5) (spec_TurnView.j0 (k + 1) y0 y1 y2 y3 y4 y5)) ∧ (∀ y0 y1 y2 y3 y4 y5 y6 y7 y8 y9, LeO (spec_TurnView.l0 k y0 y1 y2 y3 y4 y5 y6 y7 y8 y9) (spec_TurnView.l0 (k + 1) y0 y1 y2 y3 y4 y5 y6 y7 y8 y9))
  | 0 => ⟨fun _ _ _ _ _ _ r h => by simp [spec_TurnView.j0] at h, fun _ _ _ _ _ _ _ _ _ _ r h => by simp [spec_TurnView.l0] at h⟩
  | k + 1 => by
    obtain ⟨ih0, ih1⟩ := spec_TurnView.mono_l k
    refine ⟨?_, ?_⟩
    · intro y0 y1 y2 y3 y4 y5
      unfold spec_TurnView.j0
      repeat' first
      | (with_reducible exact ih0 _ _ _ _ _ _)
      | (with_reducible exact ih1 _ _ _ _ _ _ _ _ _ _)
      | (with_reducible exact spec_l7Formed.mono _ _ _ _)
      | (with_reducible exact LeO.refl _)
      | (with_reducible exact LeO.none _)
      | (with_reducible refine LeO.ite ?_ ?_)
      | (with_reducible refine LeO.bind ?_ (fun _ => ?_))
      | exact ih0 _ _ _ _ _ _
      | exact ih1 _ _ _ _ _ _ _ _ _ _
      | exact spec_l7Formed.mono _ _ _ _
      | exact LeO.none _
      | refine LeO.ite ?_ ?_
      | refine LeO.bind ?_ (fun _ => ?_)
    · intro y0 y1 y2 y3 y4 y5 y6 y7 y8 y9
      unfold spec_TurnView.l0
      repeat' first
      | (with_reducible exact ih0 _ _ _ _ _ _)
      | (with_reducible exact ih1 _ _ _ _ _ _ _ _ _ _)
      | (with_reducible exact spec_l7Formed.mono _ _ _ _)
      | (with_reducible exact LeO.refl _)
      | (with_reducible exact LeO.none _)
      | (with_reducible refine LeO.ite ?_ ?_)
      | (with_reducible refine LeO.bind ?_ (fun _ => ?_))
      | exact ih0 _ _ _ _ _ _
      | exact ih1 _ _ _ _ _ _ _ _ _ _
      | exact spec_l7Formed.mono _ _ _ _
      | exact LeO.none _
      | refine LeO.ite ?_ ?_
      | refine LeO.bind ?_ (fun _ => ?_)
theorem spec_TurnView.mono : ∀ a0 a1 a2 a3 k, LeO (spec_TurnView.f k a0 a1 a2 a3) (spec_TurnView.f (k + 1) a0 a1 a2 a3) := by
  intro a0 a1 a2 a3 k
  obtain ⟨ih0, ih1⟩ := spec_TurnView.mono_l k
  unfold spec_TurnView.f
  repeat' first
      | (with_reducible exact ih0 _ _ _ _ _ _)
      | (with_reducible exact ih1 _ _ _ _ _ _ _ _ _ _)
      | (with_reducible exact spec_l7Formed.mono _ _ _ _)
      | (with_reducible exact LeO.refl _)
      | (with_reducible exact LeO.none _)
      | (with_reducible refine LeO.ite ?_ ?_)
      | (with_reducible refine LeO.bind ?_ (fun _ => ?_))
      | exact ih0 _ _ _ _ _ _
      | exact ih1 _ _ _ _ _ _ _ _ _ _
      | exact spec_l7Formed.mono _ _ _ _
      | exact LeO.none _
      | refine LeO.ite ?_ ?_
      | refine LeO.bind ?_ (fun _ => ?_)
def spec_TurnView.T13 : Bool × List (List Nat × List Nat) := (true, [([], []), ([0], [0]), ([], []), ([], []), ([3], [3]), ([], []), ([4, 5], [4, 5]), ([6], [6]), ([1, 2, 0, 1, 2, 3, 4, 5, 6, 7], [1, 2]), ([8, 7, 0, 1, 2, 3, 4, 5, 6, 7], [7, 8])])
def spec_TurnView.B13 : List Nat := [0, 1, 0, 0, 8, 0, 56, 120, 255, 511]
theorem spec_TurnView.tab13 : rtab .any (opsOf Try.f42 13) = spec_TurnView.T13 := by kernel_rfl
theorem spec_TurnView.bits13 : waitsOk spec_TurnView.T13.2 spec_TurnView.B13 = true := by kernel_rfl
def spec_TurnView.T14 : Bool × List (List Nat × List Nat) := (true, [([], []), ([0], [0]), ([], []), ([], []), ([3], [3]), ([], []), ([4, 5], [4, 5]), ([6], [6]), ([1, 2, 0, 1, 2, 3, 4, 5, 6, 7], [1, 2]), ([8, 7, 0, 1, 2, 3, 4, 5, 6, 7], [7, 8])])
def spec_TurnView.B14 : List Nat := [0, 1, 0, 0, 8, 0, 56, 120, 255, 511]
theorem spec_TurnView.tab14 : rtab .any (opsOf Try.f42 14) = spec_TurnView.T14 := by kernel_rfl
theorem spec_TurnView.bits14 : waitsOk spec_TurnView.T14.2 spec_TurnView.B14 = true := by kernel_rfl
set_option maxHeartbeats 8000000 in
set_option maxRecDepth 100000 in
theorem spec_TurnView.calls (k : Nat) (a0_0 : Int) (A0_1 : Option Addr) (c0_1 : Nat) (l0_1 : List Int) (A0_2 : Option Addr) (c0_2 : Nat) (l0_2 : List Int) (A1 : Option Addr) (c1 : Nat) (l1 : List Int) (r1 : Int) (r2 : List Int) (r3 : List Int) (r4 : Bool) (w : World) (hr0_1 : Kd.C (Kd.int .i64) w A0_1 l0_1.length l0_1) (hc0_1 : l0_1.length ≤ c0_1) (hr0_2 : Kd.C (Kd.int .i64) w A0_2 l0_2.length l0_2) (hc0_2 : l0_2.length ≤ c0_2) (hr1 : Kd.C (Kd.int .i64) w A1 l1.length l1) (hc1 : l1.length ≤ c1) (h : spec_TurnView.f k a0_0 l0_1 l0_2 l1 = some (r1, r2, r3, r4)) :
    Calls Try.prog 42 #[.agg #[.int .i64 a0_0, .slice A0_1 l0_1.length c0_1, .slice A0_2 l0_2.length c0_2], .slice A1 l1.length c1] w fun e w' => ∃ v1_ v2_ : Value, e = .returned (.tuple #[.agg #[.int .i64 r1, v1_, v2_], .bool r4]) ∧ Kd.R (Kd.int .i64) 3 w' w.heap.size (fun k_ => some k_ ≠ (v2_ : Value).ownBlock) v1_ r2 ∧ Kd.R (Kd.int .i64) 3 w' w.heap.size (fun k_ => some k_ ≠ (v1_ : Value).ownBlock) v2_ r3 ∧ Below w.heap.size w w' := by
  have hu33 := Try.underlying33
  have HR0_1 := Aside0.mk hr0_1
  have HC0_1 := Aside0.mk hc0_1
  clear hr0_1 hc0_1
  have HR0_2 := Aside0.mk hr0_2
  have HC0_2 := Aside0.mk hc0_2
  clear hr0_2 hc0_2
  have HR1 := Aside0.mk hr1
  have HC1 := Aside0.mk hc1
  clear hr1 hc1
  have HB := Aside0.mk (Below.refl w.heap.size w)
  have H : ((spec_l7Formed.f k a0_0 l0_1 l0_2).bind fun t103 => (if t103 = true then (spec_TurnView.j0 k l1 (l0_1.length : Int) ((l1.length : Int) != (l0_1.length : Int)) a0_0 l0_1 l0_2) else (spec_TurnView.j0 k l1 (l0_1.length : Int) true a0_0 l0_1 l0_2))) = some (r1, r2, r3, r4) := h
  clear h
  have HC3 := Aside0.mk H
  clear H
  go_enter Try.func42, Try.ntmps42
  go_upto_region 2 with (first | ((with_reducible refine gate_dst (N := 2) rfl ?_); (try (refine gate_guard (by rfl) ?_; dsimp only)); refine box_event ?hg (N := 2) ?hd (cs := #[.int .i64 a0_0, .slice A0_1 l0_1.length c0_1, .slice A0_2 l0_2.length c0_2]) (t := 33) ?hr ?_; (case hd => rfl); (case hg => rfl); (case hr => first | (go_simp; done) | (go_simp; rfl)); intro gb101 hg w4 hbox hb; have n0_ := Aside0.mk (below_step (by repeat (first | (with_reducible first | exact HB.out | apply below_alloc | apply pw_below_drewN | apply below_drew1) | exact HB.out)) hb); have n1_ := Aside0.mk (hbox); have n2_ := Aside0.mk ((by rw [hg]; exact (below_size (by repeat (first | (with_reducible first | exact HB.out | apply below_alloc | apply pw_below_drewN | apply below_drew1) | exact HB.out))) : w.heap.size ≤ gb101)); have n3_ := Aside0.mk ((by rw [hg]; exact (below_size (by repeat (first | (with_reducible first | exact HB.out | apply below_alloc | apply pw_below_drewN | apply below_drew1) | exact HB.out))) : w.heap.size ≤ gb101)); clear HB; have HB := n0_; have BK101 := n1_; have GW101 := n2_; have GE101 := n3_; clear n0_ n1_ n2_ n3_; clear hb hbox hg) | ((with_reducible refine gate_dst (N := 4) rfl ?_); (try (refine gate_guard (by rfl) ?_; dsimp only)); refine box_event ?hg (N := 4) ?hd (cs := #[.int .i64 0, .slice none 0 0, .slice none 0 0]) (t := 33) ?hr ?_; (case hd => rfl); (case hg => rfl); (case hr => first | (go_simp; done) | (go_simp; rfl)); intro gb102 hg w5 hbox hb; have n0_ := Aside0.mk (blk_below (g := gb101) (o := .cells #[.int .i64 a0_0, .slice A0_1 l0_1.length c0_1, .slice A0_2 l0_2.length c0_2] 33 (0, 0)) (by (with_reducible repeat (first | refine blk_drewN ?_ _ | refine blk_drew ?_ | refine blk_alloc ?_ _)); exact BK101.out) hb); have n1_ := Aside0.mk (below_step (by repeat (first | (with_reducible first | exact HB.out | apply below_alloc | apply pw_below_drewN | apply below_drew1 | refine below_set ?_ GE101.out) | exact HB.out)) hb); have n2_ := Aside0.mk (hbox); have n3_ := Aside0.mk ((by rw [hg]; exact (below_size (by repeat (first | (with_reducible first | exact HB.out | apply below_alloc | apply pw_below_drewN | apply below_drew1 | refine below_set ?_ GE101.out) | exact HB.out))) : w.heap.size ≤ gb102)); have n4_ := Aside0.mk ((by rw [hg]; exact (below_size (by repeat (first | (with_reducible first | exact HB.out | apply below_alloc | apply pw_below_drewN | apply below_drew1 | refine below_set ?_ GE101.out) | exact HB.out))) : w.heap.size ≤ gb102)); have n5_ := Aside0.mk ((by rw [hg]; exact Nat.ne_of_lt (blk_lt (g := gb101) (o := .cells #[.int .i64 a0_0, .slice A0_1 l0_1.length c0_1, .slice A0_2 l0_2.length c0_2] 33 (0, 0)) (by (with_reducible repeat (first | refine blk_drewN ?_ _ | refine blk_drew ?_ | refine blk_alloc ?_ _)); exact BK101.out)) : gb101 ≠ gb102)); have n6_ := Aside0.mk ((by rw [hg]; exact Nat.ne_of_gt (blk_lt (g := gb101) (o := .cells #[.int .i64 a0_0, .slice A0_1 l0_1.length c0_1, .slice A0_2 l0_2.length c0_2] 33 (0, 0)) (by (with_reducible repeat (first | refine blk_drewN ?_ _ | refine blk_drew ?_ | refine blk_alloc ?_ _)); exact BK101.out)) : gb102 ≠ gb101)); clear BK101; clear HB; have BK101 := n0_; have HB := n1_; have BK102 := n2_; have GW102 := n3_; have GE102 := n4_; have NB101_102 := n5_; have NB102_101 := n6_; clear n0_ n1_ n2_ n3_ n4_ n5_ n6_; clear hb hbox hg; have hnb6 := NB101_102.out; have hnc6 := NB102_101.out; have hcz7_0 : w5.cell? ⟨gb101, 0, none⟩ = some (.int .i64 a0_0) := (blk_cell BK101.out 0).trans rfl; have hcz7_1 : w5.cell? ⟨gb101, 1, none⟩ = some (.slice A0_1 l0_1.length c0_1) := (blk_cell BK101.out 1).trans rfl; have hcz7_2 : w5.cell? ⟨gb101, 2, none⟩ = some (.slice A0_2 l0_2.length c0_2) := (blk_cell BK101.out 2).trans rfl; have hfz7_0 := blk_frozen BK101.out 0; have hfz7_1 := blk_frozen BK101.out 1; have hfz7_2 := blk_frozen BK101.out 2))
  (try simp only [Act.put, List.setIfInBounds_toArray, List.set_cons_zero, List.set_cons_succ])
  go_cut [22] (fun v22 wc => ∃ (kq : Nat) (x22_2 : Bool), v22 = .bool x22_2 ∧ Aside0 (spec_TurnView.j0 kq l1 (l0_1.length : Int) x22_2 a0_0 l0_1 l0_2 = some (r1, r2, r3, r4)) ∧ Aside0 (kq ≤ k) ∧ Aside0 (wc.heap[gb101]? = some (.cells #[.int .i64 a0_0, (.slice A0_1 l0_1.length c0_1), (.slice A0_2 l0_2.length c0_2)] 33 (0, 0))) ∧ Aside0 (wc.heap[gb102]? = some (.cells #[.int .i64 0, (.slice none 0 0), (.slice none 0 0)] 33 (0, 0))) ∧ Aside0 (Below w.heap.size w wc))
  case first =>
    have H := HC3.out
    clear HC3
    replace H := Option.bind_eq_some_iff.mp H
    obtain ⟨t103, A80, H⟩ := H
    replace H : (if t103 = true then (spec_TurnView.j0 k l1 (l0_1.length : Int) ((l1.length : Int) != (l0_1.length : Int)) a0_0 l0_1 l0_2) else (spec_TurnView.j0 k l1 (l0_1.length : Int) true a0_0 l0_1 l0_2)) = some (r1, r2, r3, r4) := H
    have A8 := Aside0.mk A80
    clear A80
    by_cases c9 : t103 = true
    · subst c9
      have H1 : (spec_TurnView.j0 k l1 (l0_1.length : Int) ((l1.length : Int) != (l0_1.length : Int)) a0_0 l0_1 l0_2) = some (r1, r2, r3, r4) := by rw [if_pos rfl] at H; exact H
      clear H
      have H := H1
      clear H1
      have H' := Aside0.mk H
      clear H
      have hnb10 := NB101_102.out
      have hnc10 := NB102_101.out
      have hcz11_0 : w5.cell? ⟨gb101, 0, none⟩ = some (.int .i64 a0_0) := (blk_cell BK101.out 0).trans rfl
      have hcz11_1 : w5.cell? ⟨gb101, 1, none⟩ = some (.slice A0_1 l0_1.length c0_1) := (blk_cell BK101.out 1).trans rfl
      have hcz11_2 : w5.cell? ⟨gb101, 2, none⟩ = some (.slice A0_2 l0_2.length c0_2) := (blk_cell BK101.out 2).trans rfl
      have hfz11_0 := blk_frozen BK101.out 0
      have hfz11_1 := blk_frozen BK101.out 1
      have hfz11_2 := blk_frozen BK101.out 2
      go_wp2_with (first | ((with_reducible refine gate_callee (f := 61) rfl ?_); refine goesL_ (some 15) rfl rfl Try.func61 (by kernel_rfl) rfl #[.agg #[.int .i64 a0_0, .slice A0_1 l0_1.length c0_1, .slice A0_2 l0_2.length c0_2]] rfl (by (try simp only [List.map_toArray, List.map_cons, List.map_nil]); first | done | rfl | (simp only [List.length_drop, List.length_take]; rfl)) ?_; (with_reducible refine (spec_l7Formed.calls k a0_0 _ _ l0_1 _ _ l0_2 true _ ?side1 ?side2 ?side3 ?side4 A8.out).mono ?_); (case side1 => repeat (first | exact (Kd.C_below HR0_1.out HB.out) | (with_reducible refine Kd.C_alloc ?_ _) | (with_reducible refine Kd.C_drewN ?_ _) | (with_reducible refine Kd.C_drew ?_))); (case side2 => exact HC0_1.out); (case side3 => repeat (first | exact (Kd.C_below HR0_2.out HB.out) | (with_reducible refine Kd.C_alloc ?_ _) | (with_reducible refine Kd.C_drewN ?_ _) | (with_reducible refine Kd.C_drew ?_))); (case side4 => exact HC0_2.out); rintro e w12 ⟨rfl, hb⟩; refine ⟨_, rfl, ?_⟩; have n0_ := Aside0.mk (blk_below (g := gb101) (o := .cells #[.int .i64 a0_0, .slice A0_1 l0_1.length c0_1, .slice A0_2 l0_2.length c0_2] 33 (0, 0)) (by (with_reducible repeat (first | refine blk_drewN ?_ _ | refine blk_drew ?_ | refine blk_alloc ?_ _)); exact BK101.out) hb); have n1_ := Aside0.mk (blk_below (g := gb102) (o := .cells #[.int .i64 0, .slice none 0 0, .slice none 0 0] 33 (0, 0)) (by (with_reducible repeat (first | refine blk_drewN ?_ _ | refine blk_drew ?_ | refine blk_alloc ?_ _)); exact BK102.out) hb); have n2_ := Aside0.mk (below_step (by repeat (first | (with_reducible first | exact HB.out | apply below_alloc | apply pw_below_drewN | apply below_drew1 | refine below_set ?_ GE101.out | refine below_set ?_ GE102.out) | exact HB.out)) hb); clear BK101; clear BK102; clear HB; have BK101 := n0_; have BK102 := n1_; have HB := n2_; clear n0_ n1_ n2_; (try clear hb); (try clear hb2); (try clear hk); (try clear hi)))
      go_meet
      case rel => exact ⟨_, (((l1.length : Int) != (l0_1.length : Int))), (by first | rfl | (simp; done) | (simp [*]; done)), H', ⟨by first | omega | exact Nat.le_refl _⟩, ⟨by (with_reducible repeat (first | refine blk_drewN ?_ _ | refine blk_drew ?_ | refine blk_alloc ?_ _)); exact BK101.out⟩, ⟨by (with_reducible repeat (first | refine blk_drewN ?_ _ | refine blk_drew ?_ | refine blk_alloc ?_ _)); exact BK102.out⟩, ⟨by repeat (first | (with_reducible first | exact HB.out | apply below_alloc | apply pw_below_drewN | apply below_drew1 | refine below_set ?_ GE101.out | refine below_set ?_ GE102.out) | exact HB.out)⟩⟩
    · replace c9 := Bool.eq_false_iff.mpr c9
      subst c9
      have H1 : (spec_TurnView.j0 k l1 (l0_1.length : Int) true a0_0 l0_1 l0_2) = some (r1, r2, r3, r4) := by rw [if_neg (show ¬ (false = true) by decide)] at H; exact H
      clear H
      have H := H1
      clear H1
      have H' := Aside0.mk H
      clear H
      have hnb13 := NB101_102.out
      have hnc13 := NB102_101.out
      have hcz14_0 : w5.cell? ⟨gb101, 0, none⟩ = some (.int .i64 a0_0) := (blk_cell BK101.out 0).trans rfl
      have hcz14_1 : w5.cell? ⟨gb101, 1, none⟩ = some (.slice A0_1 l0_1.length c0_1) := (blk_cell BK101.out 1).trans rfl
      have hcz14_2 : w5.cell? ⟨gb101, 2, none⟩ = some (.slice A0_2 l0_2.length c0_2) := (blk_cell BK101.out 2).trans rfl
      have hfz14_0 := blk_frozen BK101.out 0
      have hfz14_1 := blk_frozen BK101.out 1
      have hfz14_2 := blk_frozen BK101.out 2
      go_wp2_with (first | ((with_reducible refine gate_callee (f := 61) rfl ?_); refine goesL_ (some 15) rfl rfl Try.func61 (by kernel_rfl) rfl #[.agg #[.int .i64 a0_0, .slice A0_1 l0_1.length c0_1, .slice A0_2 l0_2.length c0_2]] rfl (by (try simp only [List.map_toArray, List.map_cons, List.map_nil]); first | done | rfl | (simp only [List.length_drop, List.length_take]; rfl)) ?_; (with_reducible refine (spec_l7Formed.calls k a0_0 _ _ l0_1 _ _ l0_2 false _ ?side1 ?side2 ?side3 ?side4 A8.out).mono ?_); (case side1 => repeat (first | exact (Kd.C_below HR0_1.out HB.out) | (with_reducible refine Kd.C_alloc ?_ _) | (with_reducible refine Kd.C_drewN ?_ _) | (with_reducible refine Kd.C_drew ?_))); (case side2 => exact HC0_1.out); (case side3 => repeat (first | exact (Kd.C_below HR0_2.out HB.out) | (with_reducible refine Kd.C_alloc ?_ _) | (with_reducible refine Kd.C_drewN ?_ _) | (with_reducible refine Kd.C_drew ?_))); (case side4 => exact HC0_2.out); rintro e w15 ⟨rfl, hb⟩; refine ⟨_, rfl, ?_⟩; have n0_ := Aside0.mk (blk_below (g := gb101) (o := .cells #[.int .i64 a0_0, .slice A0_1 l0_1.length c0_1, .slice A0_2 l0_2.length c0_2] 33 (0, 0)) (by (with_reducible repeat (first | refine blk_drewN ?_ _ | refine blk_drew ?_ | refine blk_alloc ?_ _)); exact BK101.out) hb); have n1_ := Aside0.mk (blk_below (g := gb102) (o := .cells #[.int .i64 0, .slice none 0 0, .slice none 0 0] 33 (0, 0)) (by (with_reducible repeat (first | refine blk_drewN ?_ _ | refine blk_drew ?_ | refine blk_alloc ?_ _)); exact BK102.out) hb); have n2_ := Aside0.mk (below_step (by repeat (first | (with_reducible first | exact HB.out | apply below_alloc | apply pw_below_drewN | apply below_drew1 | refine below_set ?_ GE101.out | refine below_set ?_ GE102.out) | exact HB.out)) hb); clear BK101; clear BK102; clear HB; have BK101 := n0_; have BK102 := n1_; have HB := n2_; clear n0_ n1_ n2_; (try clear hb); (try clear hb2); (try clear hk); (try clear hi)))
      go_meet
      case rel => exact ⟨_, (true), (by first | rfl | (simp; done) | (simp [*]; done)), H', ⟨by first | omega | exact Nat.le_refl _⟩, ⟨by (with_reducible repeat (first | refine blk_drewN ?_ _ | refine blk_drew ?_ | refine blk_alloc ?_ _)); exact BK101.out⟩, ⟨by (with_reducible repeat (first | refine blk_drewN ?_ _ | refine blk_drew ?_ | refine blk_alloc ?_ _)); exact BK102.out⟩, ⟨by repeat (first | (with_reducible first | exact HB.out | apply below_alloc | apply pw_below_drewN | apply below_drew1 | refine below_set ?_ GE101.out | refine below_set ?_ GE102.out) | exact HB.out)⟩⟩
  case rest =>
    clear HC3
    try clear c1
    try clear p2
    try clear c4
    try clear c6
    try clear c9
    try clear c10
    try clear c13
    try clear hcz11_0
    try clear hcz11_1
    try clear hcz11_2
    try clear hcz14_0
    try clear hcz14_1
    try clear hcz14_2
    try clear hcz7_0
    try clear hcz7_1
    try clear hcz7_2
    try clear hfz11_0
    try clear hfz11_1
    try clear hfz11_2
    try clear hfz14_0
    try clear hfz14_1
    try clear hfz14_2
    try clear hfz7_0
    try clear hfz7_1
    try clear hfz7_2
    obtain ⟨kq, x22_2, rfl, HA, HJ2, BK101, BK102, HB⟩ := hcut
    cases kq with
    | zero => exact absurd HA.out (by simp [spec_TurnView.j0])
    | succ kj2 =>
      have H := HA.out
      clear HA
      simp only [spec_TurnView.j0] at H
      by_cases c16 : x22_2 = true
      · subst c16
        have H1 : (some (0, ([] : List Int), ([] : List Int), false)) = some (r1, r2, r3, r4) := by rw [if_pos rfl] at H; exact H
        clear H
        have H := H1
        clear H1
        simp only [Option.some.injEq, Prod.mk.injEq] at H
        obtain ⟨rfl, rfl, rfl, rfl⟩ := H
        have hnb17 := NB102_101.out
        have hnc17 := NB101_102.out
        have hcz18_0 : wc.cell? ⟨gb102, 0, none⟩ = some (.int .i64 0) := (blk_cell BK102.out 0).trans rfl
        have hcz18_1 : wc.cell? ⟨gb102, 1, none⟩ = some (.slice none 0 0) := (blk_cell BK102.out 1).trans rfl
        have hcz18_2 : wc.cell? ⟨gb102, 2, none⟩ = some (.slice none 0 0) := (blk_cell BK102.out 2).trans rfl
        have hfz18_0 := blk_frozen BK102.out 0
        have hfz18_1 := blk_frozen BK102.out 1
        have hfz18_2 := blk_frozen BK102.out 2
        go_wp2
        refine bodyPost_ret (results_ct rfl _ _ gb102 33 #[.int .i64 0, .slice none 0 0, .slice none 0 0] (0, 0) _ rfl (by (with_reducible repeat (first | refine blk_drewN ?_ _ | refine blk_drew ?_ | refine blk_alloc ?_ _)); refine blk_put (cs := #[.int .i64 0, .slice none 0 0, .slice none 0 0]) ?_ 2 _ rfl; (with_reducible repeat (first | refine blk_drewN ?_ _ | refine blk_drew ?_ | refine blk_alloc ?_ _)); refine blk_put (cs := #[.int .i64 0, .slice none 0 0, .slice none 0 0]) ?_ 1 _ rfl; (with_reducible repeat (first | refine blk_drewN ?_ _ | refine blk_drew ?_ | refine blk_alloc ?_ _)); refine blk_put (cs := #[.int .i64 0, .slice none 0 0, .slice none 0 0]) ?_ 0 _ rfl; (with_reducible repeat (first | refine blk_drewN ?_ _ | refine blk_drew ?_ | refine blk_alloc ?_ _)); exact BK102.out) Try.underlying33 rfl (by kernel_rfl)) rfl ?_
        exact ⟨_, _, by first | rfl | (simp [errW_none, errW_some] <;> rfl) | (simp [*, errW_none, errW_some] <;> rfl), by first | exact Kd.R_nil _ _ _ _ _ | exact Kd.N_nil _ _ _ _ _ | exact Kd.V_nil _ _ _ _ _ | exact Kd.Q_nil _ _ _ _ _ | exact Kd.S_nil _ _ _ _ _, by first | exact Kd.R_nil _ _ _ _ _ | exact Kd.N_nil _ _ _ _ _ | exact Kd.V_nil _ _ _ _ _ | exact Kd.Q_nil _ _ _ _ _ | exact Kd.S_nil _ _ _ _ _, by repeat (first | (with_reducible first | exact HB.out | apply below_alloc | apply pw_below_drewN | apply below_drew1 | refine below_set ?_ GE101.out | refine below_set ?_ GE102.out) | exact HB.out)⟩
      · replace c16 := Bool.eq_false_iff.mpr c16
        subst c16
        have H1 : ((spec_l7Copy.f a0_0 l0_1 l0_2).bind fun bt104 => (if 0 ≤ (l0_1.length : Int) then (if ((l0_1.length : Int) : Int).toNat ≤ 281474976710656 then (spec_TurnView.l0 kj2 l1 (l0_1.length : Int) (List.replicate ((l0_1.length : Int) : Int).toNat false) 0 a0_0 l0_1 l0_2 bt104.1 bt104.2.1 bt104.2.2) else (none)) else (none))) = some (r1, r2, r3, r4) := by rw [if_neg (show ¬ (false = true) by decide)] at H; exact H
        clear H
        have H := H1
        clear H1
        replace H := Option.bind_eq_some_iff.mp H
        obtain ⟨⟨t104, t105, t108⟩, A190, H⟩ := H
        replace H : (if 0 ≤ (l0_1.length : Int) then (if ((l0_1.length : Int) : Int).toNat ≤ 281474976710656 then (spec_TurnView.l0 kj2 l1 (l0_1.length : Int) (List.replicate ((l0_1.length : Int) : Int).toNat false) 0 a0_0 l0_1 l0_2 t104 t105 t108) else (none)) else (none)) = some (r1, r2, r3, r4) := H
        have A19 := Aside0.mk A190
        clear A190
        by_cases c20 : 0 ≤ (l0_1.length : Int)
        · rw [if_pos c20] at H
          have c20b0 := eq_true c20
          have c20b1 : decide (0 ≤ (l0_1.length : Int)) = true := decide_eq_true c20
          clear c20
          by_cases c21 : ((l0_1.length : Int) : Int).toNat ≤ 281474976710656
          · rw [if_pos c21] at H
            have c21b0 := eq_true c21
            have c21b1 : decide (((l0_1.length : Int) : Int).toNat ≤ 281474976710656) = true := decide_eq_true c21
            clear c21
            obtain ⟨y112, hy112⟩ : ∃ y_ : List Bool, y_ = (List.replicate ((l0_1.length : Int) : Int).toNat false) := ⟨_, rfl⟩
            replace H : (spec_TurnView.l0 kj2 l1 (l0_1.length : Int) y112 0 a0_0 l0_1 l0_2 t104 t105 t108) = some (r1, r2, r3, r4) := by first | (rw [hy112]; with_reducible exact H) | (have H2_ := (Option.bind_some _ _).symm.trans H; rw [hy112]; with_reducible exact H2_) | (have H2_ := (Option.bind_some _ _).symm.trans H; with_reducible exact H2_) | with_reducible exact H | (rw [hy112]; exact H) | exact H
            have Ny112 := Aside0.mk hy112
            clear hy112
            have H' := Aside0.mk H
            clear H
            have hnb22 := NB101_102.out
            have hnc22 := NB102_101.out
            have hcz23_0 : wc.cell? ⟨gb101, 0, none⟩ = some (.int .i64 a0_0) := (blk_cell BK101.out 0).trans rfl
            have hcz23_1 : wc.cell? ⟨gb101, 1, none⟩ = some (.slice A0_1 l0_1.length c0_1) := (blk_cell BK101.out 1).trans rfl
            have hcz23_2 : wc.cell? ⟨gb101, 2, none⟩ = some (.slice A0_2 l0_2.length c0_2) := (blk_cell BK101.out 2).trans rfl
            have hfz23_0 := blk_frozen BK101.out 0
            have hfz23_1 := blk_frozen BK101.out 1
            have hfz23_2 := blk_frozen BK101.out 2
            go_wp2_with (first | ((with_reducible refine gate_callee (f := 69) rfl ?_); refine goesL_ (some 25) rfl rfl Try.func69 (by kernel_rfl) rfl #[.agg #[.int .i64 a0_0, .slice A0_1 l0_1.length c0_1, .slice A0_2 l0_2.length c0_2]] rfl (by (try simp only [List.map_toArray, List.map_cons, List.map_nil]); first | done | rfl | (simp only [List.length_drop, List.length_take]; rfl)) ?_; (with_reducible refine (spec_l7Copy.calls a0_0 _ _ l0_1 _ _ l0_2 t104 t105 t108 _ ?side1 ?side2 ?side3 ?side4 A19.out).mono ?_); (case side1 => repeat (first | exact (Kd.C_below HR0_1.out HB.out) | (with_reducible refine Kd.C_alloc ?_ _) | (with_reducible refine Kd.C_drewN ?_ _) | (with_reducible refine Kd.C_drew ?_))); (case side2 => exact HC0_1.out); (case side3 => repeat (first | exact (Kd.C_below HR0_2.out HB.out) | (with_reducible refine Kd.C_alloc ?_ _) | (with_reducible refine Kd.C_drewN ?_ _) | (with_reducible refine Kd.C_drew ?_))); (case side4 => exact HC0_2.out); rintro e w24 ⟨v106, v109, rfl, ho0, ho1, hb⟩; refine ⟨_, rfl, ?_⟩; have n0_ := Aside0.mk (Kd.R_lower ho0 (below_size (by repeat (first | (with_reducible first | exact HB.out | apply below_alloc | apply pw_below_drewN | apply below_drew1 | refine below_set ?_ GE101.out | refine below_set ?_ GE102.out) | exact HB.out)))); have n1_ := Aside0.mk (Kd.R_lower ho1 (below_size (by repeat (first | (with_reducible first | exact HB.out | apply below_alloc | apply pw_below_drewN | apply below_drew1 | refine below_set ?_ GE101.out | refine below_set ?_ GE102.out) | exact HB.out)))); have n2_ := Aside0.mk (blk_below (g := gb101) (o := .cells #[.int .i64 a0_0, .slice A0_1 l0_1.length c0_1, .slice A0_2 l0_2.length c0_2] 33 (0, 0)) (by (with_reducible repeat (first | refine blk_drewN ?_ _ | refine blk_drew ?_ | refine blk_alloc ?_ _)); exact BK101.out) hb); have n3_ := Aside0.mk (blk_below (g := gb102) (o := .cells #[.int .i64 0, .slice none 0 0, .slice none 0 0] 33 (0, 0)) (by (with_reducible repeat (first | refine blk_drewN ?_ _ | refine blk_drew ?_ | refine blk_alloc ?_ _)); exact BK102.out) hb); have n4_ := Aside0.mk (below_step (by repeat (first | (with_reducible first | exact HB.out | apply below_alloc | apply pw_below_drewN | apply below_drew1 | refine below_set ?_ GE101.out | refine below_set ?_ GE102.out) | exact HB.out)) hb); clear BK101; clear BK102; clear HB; have HO107 := n0_; have HO110 := n1_; have BK101 := n2_; have BK102 := n3_; have HB := n4_; clear n0_ n1_ n2_ n3_ n4_; (try clear hb); (try clear hb2); (try clear hk); (try clear hi); (try clear ho0); (try clear ho1)) | ((with_reducible refine gate_dst (N := 7) rfl ?_); (try (refine gate_guard (by rfl) ?_; dsimp only)); refine box_event ?hg (N := 7) ?hd (cs := #[.int .i64 0, .slice none 0 0, .slice none 0 0]) (t := 33) ?hr ?_; (case hd => rfl); (case hg => rfl); (case hr => first | (go_simp; done) | (go_simp; rfl)); intro gb111 hg w25 hbox hb; have n0_ := Aside0.mk (Kd.R_below (by (with_reducible repeat (first | apply Kd.R_alloc | apply Kd.R_drewN | apply Kd.R_drew)); exact HO107.out) hb); have n1_ := Aside0.mk (Kd.R_below (by (with_reducible repeat (first | apply Kd.R_alloc | apply Kd.R_drewN | apply Kd.R_drew)); exact HO110.out) hb); have n2_ := Aside0.mk (blk_below (g := gb101) (o := .cells #[.int .i64 a0_0, .slice A0_1 l0_1.length c0_1, .slice A0_2 l0_2.length c0_2] 33 (0, 0)) (by (with_reducible repeat (first | refine blk_drewN ?_ _ | refine blk_drew ?_ | refine blk_alloc ?_ _)); exact BK101.out) hb); have n3_ := Aside0.mk (blk_below (g := gb102) (o := .cells #[.int .i64 0, .slice none 0 0, .slice none 0 0] 33 (0, 0)) (by (with_reducible repeat (first | refine blk_drewN ?_ _ | refine blk_drew ?_ | refine blk_alloc ?_ _)); exact BK102.out) hb); have n4_ := Aside0.mk (below_step (by repeat (first | (with_reducible first | exact HB.out | apply below_alloc | apply pw_below_drewN | apply below_drew1 | refine below_set ?_ GE101.out | refine below_set ?_ GE102.out) | exact HB.out)) hb); have n5_ := Aside0.mk (hbox); have n6_ := Aside0.mk ((by rw [hg]; exact (below_size (by repeat (first | (with_reducible first | exact HB.out | apply below_alloc | apply pw_below_drewN | apply below_drew1 | refine below_set ?_ GE101.out | refine below_set ?_ GE102.out) | exact HB.out))) : w.heap.size ≤ gb111)); have n7_ := Aside0.mk ((by rw [hg]; exact (below_size (by repeat (first | (with_reducible first | exact HB.out | apply below_alloc | apply pw_below_drewN | apply below_drew1 | refine below_set ?_ GE101.out | refine below_set ?_ GE102.out) | exact HB.out))) : w.heap.size ≤ gb111)); have n8_ := Aside0.mk ((by rw [hg]; exact Nat.ne_of_lt (blk_lt (g := gb101) (o := .cells #[.int .i64 a0_0, .slice A0_1 l0_1.length c0_1, .slice A0_2 l0_2.length c0_2] 33 (0, 0)) (by (with_reducible repeat (first | refine blk_drewN ?_ _ | refine blk_drew ?_ | refine blk_alloc ?_ _)); exact BK101.out)) : gb101 ≠ gb111)); have n9_ := Aside0.mk ((by rw [hg]; exact Nat.ne_of_gt (blk_lt (g := gb101) (o := .cells #[.int .i64 a0_0, .slice A0_1 l0_1.length c0_1, .slice A0_2 l0_2.length c0_2] 33 (0, 0)) (by (with_reducible repeat (first | refine blk_drewN ?_ _ | refine blk_drew ?_ | refine blk_alloc ?_ _)); exact BK101.out)) : gb111 ≠ gb101)); have n10_ := Aside0.mk ((by rw [hg]; exact Nat.ne_of_lt (blk_lt (g := gb102) (o := .cells #[.int .i64 0, .slice none 0 0, .slice none 0 0] 33 (0, 0)) (by (with_reducible repeat (first | refine blk_drewN ?_ _ | refine blk_drew ?_ | refine blk_alloc ?_ _)); exact BK102.out)) : gb102 ≠ gb111)); have n11_ := Aside0.mk ((by rw [hg]; exact Nat.ne_of_gt (blk_lt (g := gb102) (o := .cells #[.int .i64 0, .slice none 0 0, .slice none 0 0] 33 (0, 0)) (by (with_reducible repeat (first | refine blk_drewN ?_ _ | refine blk_drew ?_ | refine blk_alloc ?_ _)); exact BK102.out)) : gb111 ≠ gb102)); clear HO107; clear HO110; clear BK101; clear BK102; clear HB; have HO107 := n0_; have HO110 := n1_; have BK101 := n2_; have BK102 := n3_; have HB := n4_; have BK111 := n5_; have GW111 := n6_; have GE111 := n7_; have NB101_111 := n8_; have NB111_101 := n9_; have NB102_111 := n10_; have NB111_102 := n11_; clear n0_ n1_ n2_ n3_ n4_ n5_ n6_ n7_ n8_ n9_ n10_ n11_; clear hb hbox hg; have hnb26 := NB111_101.out; have hnc26 := NB101_111.out; have hnb27 := NB111_102.out; have hnc27 := NB102_111.out; have hcz28_0 : w25.cell? ⟨gb111, 0, none⟩ = some (.int .i64 0) := (blk_cell BK111.out 0).trans rfl; have hcz28_1 : w25.cell? ⟨gb111, 1, none⟩ = some (.slice none 0 0) := (blk_cell BK111.out 1).trans rfl; have hcz28_2 : w25.cell? ⟨gb111, 2, none⟩ = some (.slice none 0 0) := (blk_cell BK111.out 2).trans rfl; have hfz28_0 := blk_frozen BK111.out 0; have hfz28_1 := blk_frozen BK111.out 1; have hfz28_2 := blk_frozen BK111.out 2; obtain ⟨Ao29, co29, eo29⟩ := Kd.R_slice HO107.out; subst eo29; obtain ⟨Ao30, co30, eo30⟩ := Kd.R_slice HO110.out; subst eo30) | ((with_reducible refine gate_dst (N := 27) rfl ?_); (try (refine gate_guard (by rfl) ?_; dsimp only)); refine Kd.R_make Kd.bool _ 4 rfl (N := 27) rfl 78 _ _ rfl (l0_1.length : Int) rfl rfl Try.underlying78 (.bool false) 1 info4 rfl (by decide) (by omega) false (ok := fun _ => True) (okp := fun _ => True) rfl (fun _ hk => hk) trivial (of_decide_eq_true (by first | (with_reducible assumption) | assumption)) (Nat.le_trans (Nat.mul_le_mul_right _ (of_decide_eq_true (by first | (with_reducible assumption) | assumption) : (l0_1.length : Int).toNat ≤ 281474976710656)) (by omega)) (Below.refl _ _) (Nat.le_refl _) ?_; intro v113 w31 ho32 hb hg_ hnew_; clear hg_ hnew_; (first | rw [← Ny112.out] at ho32 | (simp only [Int.reduceToNat] at ho32; rw [← Ny112.out] at ho32)); have n0_ := Aside0.mk (Kd.R_below (by (with_reducible repeat (first | apply Kd.R_alloc | apply Kd.R_drewN | apply Kd.R_drew)); exact (Kd.R_mono (Kd.R_far (p := ⟨gb111, 2, none⟩) (Kd.R_far (p := ⟨gb111, 1, none⟩) (Kd.R_far (p := ⟨gb111, 0, none⟩) (Kd.R_types HO107.out BK111.out (by decide)) (fun _ hk => hk.2) (.int .i64 t104)) (fun _ hk => hk.2) (.slice Ao29 t105.length co29)) (fun _ hk => hk.2) (.slice Ao30 t108.length co30)) (fun _ h_ => h_.1))) hb); have n1_ := Aside0.mk (Kd.R_below (by (with_reducible repeat (first | apply Kd.R_alloc | apply Kd.R_drewN | apply Kd.R_drew)); exact (Kd.R_mono (Kd.R_far (p := ⟨gb111, 2, none⟩) (Kd.R_far (p := ⟨gb111, 1, none⟩) (Kd.R_far (p := ⟨gb111, 0, none⟩) (Kd.R_types HO110.out BK111.out (by decide)) (fun _ hk => hk.2) (.int .i64 t104)) (fun _ hk => hk.2) (.slice Ao29 t105.length co29)) (fun _ hk => hk.2) (.slice Ao30 t108.length co30)) (fun _ h_ => h_.1))) hb); have n2_ := Aside0.mk (Kd.R_lower ho32 (below_size (by repeat (first | (with_reducible first | exact HB.out | apply below_alloc | apply pw_below_drewN | apply below_drew1 | refine below_set ?_ GE101.out | refine below_set ?_ GE102.out | refine below_set ?_ GE111.out) | exact HB.out)))); have n3_ := Aside0.mk (blk_below (g := gb101) (o := .cells #[.int .i64 a0_0, .slice A0_1 l0_1.length c0_1, .slice A0_2 l0_2.length c0_2] 33 (0, 0)) (by (with_reducible repeat (first | refine blk_drewN ?_ _ | refine blk_drew ?_ | refine blk_alloc ?_ _)); refine blk_far ?_ NB101_111.out _; (with_reducible repeat (first | refine blk_drewN ?_ _ | refine blk_drew ?_ | refine blk_alloc ?_ _)); refine blk_far ?_ NB101_111.out _; (with_reducible repeat (first | refine blk_drewN ?_ _ | refine blk_drew ?_ | refine blk_alloc ?_ _)); refine blk_far ?_ NB101_111.out _; (with_reducible repeat (first | refine blk_drewN ?_ _ | refine blk_drew ?_ | refine blk_alloc ?_ _)); exact BK101.out) hb); have n4_ := Aside0.mk (blk_below (g := gb102) (o := .cells #[.int .i64 0, .slice none 0 0, .slice none 0 0] 33 (0, 0)) (by (with_reducible repeat (first | refine blk_drewN ?_ _ | refine blk_drew ?_ | refine blk_alloc ?_ _)); refine blk_far ?_ NB102_111.out _; (with_reducible repeat (first | refine blk_drewN ?_ _ | refine blk_drew ?_ | refine blk_alloc ?_ _)); refine blk_far ?_ NB102_111.out _; (with_reducible repeat (first | refine blk_drewN ?_ _ | refine blk_drew ?_ | refine blk_alloc ?_ _)); refine blk_far ?_ NB102_111.out _; (with_reducible repeat (first | refine blk_drewN ?_ _ | refine blk_drew ?_ | refine blk_alloc ?_ _)); exact BK102.out) hb); have n5_ := Aside0.mk (blk_below (g := gb111) (o := .cells #[.int .i64 t104, .slice Ao29 t105.length co29, .slice Ao30 t108.length co30] 33 (0, 0)) (by (with_reducible repeat (first | refine blk_drewN ?_ _ | refine blk_drew ?_ | refine blk_alloc ?_ _)); refine blk_put (cs := #[.int .i64 t104, .slice Ao29 t105.length co29, .slice none 0 0]) ?_ 2 _ rfl; (with_reducible repeat (first | refine blk_drewN ?_ _ | refine blk_drew ?_ | refine blk_alloc ?_ _)); refine blk_put (cs := #[.int .i64 t104, .slice none 0 0, .slice none 0 0]) ?_ 1 _ rfl; (with_reducible repeat (first | refine blk_drewN ?_ _ | refine blk_drew ?_ | refine blk_alloc ?_ _)); refine blk_put (cs := #[.int .i64 0, .slice none 0 0, .slice none 0 0]) ?_ 0 _ rfl; (with_reducible repeat (first | refine blk_drewN ?_ _ | refine blk_drew ?_ | refine blk_alloc ?_ _)); exact BK111.out) hb); have n6_ := Aside0.mk (below_step (by repeat (first | (with_reducible first | exact HB.out | apply below_alloc | apply pw_below_drewN | apply below_drew1 | refine below_set ?_ GE101.out | refine below_set ?_ GE102.out | refine below_set ?_ GE111.out) | exact HB.out)) hb); clear HO107; clear HO110; clear BK101; clear BK102; clear BK111; clear HB; have HO107 := n0_; have HO110 := n1_; have HO114 := n2_; have BK101 := n3_; have BK102 := n4_; have BK111 := n5_; have HB := n6_; clear n0_ n1_ n2_ n3_ n4_ n5_ n6_; clear hb ho32))
            go_loopg [9] kj2 (fun kq v9 w' => ∃ (x8_2 : List Bool) (x9_2 : Int) (x103000_2 : Int) (x112001_2 : List Int) (x112002_2 : List Int) (u112001 : Value) (u112002 : Value), v9 = .int .i64 x9_2 ∧ Aside0 (spec_TurnView.l0 kq l1 (l0_1.length : Int) x8_2 x9_2 a0_0 l0_1 l0_2 t104 x112001_2 x112002_2 = some (r1, r2, r3, r4)) ∧ Aside0 (kq ≤ kj2) ∧ Aside0 (Kd.R Kd.bool 4 w' w.heap.size (fun _ => True) v113 x8_2) ∧ Aside0 (Kd.R (Kd.int .i64) 3 w' w.heap.size (fun k_ => some k_ ≠ (u112002 : Value).ownBlock) u112001 x112001_2) ∧ Aside0 (Kd.R (Kd.int .i64) 3 w' w.heap.size (fun k_ => some k_ ≠ (u112001 : Value).ownBlock) u112002 x112002_2) ∧ Aside0 (w'.heap[gb101]? = some (.cells #[.int .i64 a0_0, (.slice A0_1 l0_1.length c0_1), (.slice A0_2 l0_2.length c0_2)] 33 (0, 0))) ∧ Aside0 (w'.heap[gb102]? = some (.cells #[.int .i64 x103000_2, (.slice none 0 0), (.slice none 0 0)] 33 (0, 0))) ∧ Aside0 (w'.heap[gb111]? = some (.cells #[.int .i64 t104, u112001, u112002] 33 (0, 0))) ∧ Aside0 (Below w.heap.size w w'))
            case atStart => exact ⟨(y112), (0), (0), (t105), (t108), (.slice Ao29 t105.length co29), (.slice Ao30 t108.length co30), (by first | rfl | (simp; done) | (simp [*]; done)), H', ⟨Nat.le_refl _⟩, ⟨by (with_reducible repeat (first | apply Kd.R_alloc | apply Kd.R_drewN | apply Kd.R_drew)); exact HO114.out⟩, ⟨by (with_reducible repeat (first | apply Kd.R_alloc | apply Kd.R_drewN | apply Kd.R_drew)); exact HO107.out⟩, ⟨by (with_reducible repeat (first | apply Kd.R_alloc | apply Kd.R_drewN | apply Kd.R_drew)); exact HO110.out⟩, ⟨by (with_reducible repeat (first | refine blk_drewN ?_ _ | refine blk_drew ?_ | refine blk_alloc ?_ _)); exact BK101.out⟩, ⟨by (with_reducible repeat (first | refine blk_drewN ?_ _ | refine blk_drew ?_ | refine blk_alloc ?_ _)); exact BK102.out⟩, ⟨by (with_reducible repeat (first | refine blk_drewN ?_ _ | refine blk_drew ?_ | refine blk_alloc ?_ _)); exact BK111.out⟩, ⟨by repeat (first | (with_reducible first | exact HB.out | apply below_alloc | apply pw_below_drewN | apply below_drew1 | refine below_set ?_ GE101.out | refine below_set ?_ GE102.out | refine below_set ?_ GE111.out) | exact HB.out)⟩⟩
            case round =>
              clear H'
              try clear c1
              try clear c2
              try clear p2
              try clear c4
              try clear c6
              try clear c9
              try clear c10
              try clear c13
              try clear c16
              try clear c17
              try clear c20
              try clear c20b0
              try clear c20b1
              try clear c21
              try clear c21b0
              try clear c21b1
              try clear c22
              try clear c26
              try clear c27
              try clear hcz11_0
              try clear hcz11_1
              try clear hcz11_2
              try clear hcz14_0
              try clear hcz14_1
              try clear hcz14_2
              try clear hcz18_0
              try clear hcz18_1
              try clear hcz18_2
              try clear hcz23_0
              try clear hcz23_1
              try clear hcz23_2
              try clear hcz28_0
              try clear hcz28_1
              try clear hcz28_2
              try clear hcz7_0
              try clear hcz7_1
              try clear hcz7_2
              try clear hfz11_0
              try clear hfz11_1
              try clear hfz11_2
              try clear hfz14_0
              try clear hfz14_1
              try clear hfz14_2
              try clear hfz18_0
              try clear hfz18_1
              try clear hfz18_2
              try clear hfz23_0
              try clear hfz23_1
              try clear hfz23_2
              try clear hfz28_0
              try clear hfz28_1
              try clear hfz28_2
              try clear hfz7_0
              try clear hfz7_1
              try clear hfz7_2
              try clear p2
              obtain ⟨x8_2, x9_2, x103000_2, x112001_2, x112002_2, u112001, u112002, rfl, HA, HK2, HO_8, HO_112001, HO_112002, BK101, BK102, BK111, HB⟩ := hrel
              cases gk with
              | zero => exact absurd HA.out (by simp [spec_TurnView.l0])
              | succ k2 =>
                have H := HA.out
                clear HA
                simp only [spec_TurnView.l0] at H
                by_cases c33 : x9_2 < (l0_1.length : Int)
                · rw [if_pos c33] at H
                  have c33b0 : decide (x9_2 < (l0_1.length : Int)) = true := decide_eq_true c33
                  clear c33
                  by_cases c34 : 0 ≤ x9_2
                  · rw [if_pos c34] at H
                    have c34b0 : decide (0 ≤ x9_2) = true := decide_eq_true c34
                    clear c34
                    by_cases c35 : x9_2 < (l1.length : Int)
                    · rw [if_pos c35] at H
                      have c35b0 : decide (x9_2 < (l1.length : Int)) = true := decide_eq_true c35
                      clear c35
                      by_cases c36 : (wrap64 ((rd l1 x9_2) - 1)) < 0
                      · rw [if_pos c36] at H
                        have c36b0 : decide ((wrap64 ((rd l1 x9_2) - 1)) < 0) = true := decide_eq_true c36
                        clear c36
                        simp only [Option.some.injEq, Prod.mk.injEq] at H
                        obtain ⟨rfl, rfl, rfl, rfl⟩ := H
                        have p115 : 0 ≤ (x9_2 : Int) := of_decide_eq_true (by first | (with_reducible assumption) | assumption)
                        have q115 : x9_2 < (l1.length : Int) := of_decide_eq_true (by first | (with_reducible assumption) | assumption)
                        obtain ⟨ad115, e115, hx115_0⟩ := Kd.at_int HR1.out x9_2 p115 q115
                        cases e115
                        replace hx115_0 := (HB.out.cell (World.block_lt_of_cell? w _ hx115_0)).trans hx115_0
                        replace p115 := eq_true p115
                        replace q115 := eq_true q115
                        have hnb37 := NB102_101.out
                        have hnc37 := NB101_102.out
                        have hnb38 := NB102_111.out
                        have hnc38 := NB111_102.out
                        have hcz39_0 : wr.cell? ⟨gb102, 0, none⟩ = some (.int .i64 x103000_2) := (blk_cell BK102.out 0).trans rfl
                        have hcz39_1 : wr.cell? ⟨gb102, 1, none⟩ = some (.slice none 0 0) := (blk_cell BK102.out 1).trans rfl
                        have hcz39_2 : wr.cell? ⟨gb102, 2, none⟩ = some (.slice none 0 0) := (blk_cell BK102.out 2).trans rfl
                        have hfz39_0 := blk_frozen BK102.out 0
                        have hfz39_1 := blk_frozen BK102.out 1
                        have hfz39_2 := blk_frozen BK102.out 2
                        go_wp2
                        refine bodyPost_ret (results_ct rfl _ _ gb102 33 #[.int .i64 0, .slice none 0 0, .slice none 0 0] (0, 0) _ rfl (by (with_reducible repeat (first | refine blk_drewN ?_ _ | refine blk_drew ?_ | refine blk_alloc ?_ _)); refine blk_put (cs := #[.int .i64 0, .slice none 0 0, .slice none 0 0]) ?_ 2 _ rfl; (with_reducible repeat (first | refine blk_drewN ?_ _ | refine blk_drew ?_ | refine blk_alloc ?_ _)); refine blk_put (cs := #[.int .i64 0, .slice none 0 0, .slice none 0 0]) ?_ 1 _ rfl; (with_reducible repeat (first | refine blk_drewN ?_ _ | refine blk_drew ?_ | refine blk_alloc ?_ _)); refine blk_put (cs := #[.int .i64 x103000_2, .slice none 0 0, .slice none 0 0]) ?_ 0 _ rfl; (with_reducible repeat (first | refine blk_drewN ?_ _ | refine blk_drew ?_ | refine blk_alloc ?_ _)); exact BK102.out) Try.underlying33 rfl (by kernel_rfl)) rfl ?_
                        exact ⟨_, _, by first | rfl | (simp [errW_none, errW_some] <;> rfl) | (simp [*, errW_none, errW_some] <;> rfl), by first | exact Kd.R_nil _ _ _ _ _ | exact Kd.N_nil _ _ _ _ _ | exact Kd.V_nil _ _ _ _ _ | exact Kd.Q_nil _ _ _ _ _ | exact Kd.S_nil _ _ _ _ _, by first | exact Kd.R_nil _ _ _ _ _ | exact Kd.N_nil _ _ _ _ _ | exact Kd.V_nil _ _ _ _ _ | exact Kd.Q_nil _ _ _ _ _ | exact Kd.S_nil _ _ _ _ _, by repeat (first | (with_reducible first | exact HB.out | apply below_alloc | apply pw_below_drewN | apply below_drew1 | refine below_set ?_ GE101.out | refine below_set ?_ GE102.out | refine below_set ?_ GE111.out) | exact HB.out)⟩
                      · rw [if_neg c36] at H
                        have c36b0 : decide ((wrap64 ((rd l1 x9_2) - 1)) < 0) = false := decide_eq_false c36
                        clear c36
                        by_cases c40 : (wrap64 ((rd l1 x9_2) - 1)) ≥ (l0_1.length : Int)
                        · rw [if_pos c40] at H
                          have c40b0 : decide ((l0_1.length : Int) ≤ (wrap64 ((rd l1 x9_2) - 1))) = true := decide_eq_true c40
                          clear c40
                          simp only [Option.some.injEq, Prod.mk.injEq] at H
                          obtain ⟨rfl, rfl, rfl, rfl⟩ := H
                          have p115 : 0 ≤ (x9_2 : Int) := of_decide_eq_true (by first | (with_reducible assumption) | assumption)
                          have q115 : x9_2 < (l1.length : Int) := of_decide_eq_true (by first | (with_reducible assumption) | assumption)
                          obtain ⟨ad115, e115, hx115_0⟩ := Kd.at_int HR1.out x9_2 p115 q115
                          cases e115
                          replace hx115_0 := (HB.out.cell (World.block_lt_of_cell? w _ hx115_0)).trans hx115_0
                          replace p115 := eq_true p115
                          replace q115 := eq_true q115
                          have hnb41 := NB102_101.out
                          have hnc41 := NB101_102.out
                          have hnb42 := NB102_111.out
                          have hnc42 := NB111_102.out
                          have hcz43_0 : wr.cell? ⟨gb102, 0, none⟩ = some (.int .i64 x103000_2) := (blk_cell BK102.out 0).trans rfl
                          have hcz43_1 : wr.cell? ⟨gb102, 1, none⟩ = some (.slice none 0 0) := (blk_cell BK102.out 1).trans rfl
                          have hcz43_2 : wr.cell? ⟨gb102, 2, none⟩ = some (.slice none 0 0) := (blk_cell BK102.out 2).trans rfl
                          have hfz43_0 := blk_frozen BK102.out 0
                          have hfz43_1 := blk_frozen BK102.out 1
                          have hfz43_2 := blk_frozen BK102.out 2
                          go_wp2
                          refine bodyPost_ret (results_ct rfl _ _ gb102 33 #[.int .i64 0, .slice none 0 0, .slice none 0 0] (0, 0) _ rfl (by (with_reducible repeat (first | refine blk_drewN ?_ _ | refine blk_drew ?_ | refine blk_alloc ?_ _)); refine blk_put (cs := #[.int .i64 0, .slice none 0 0, .slice none 0 0]) ?_ 2 _ rfl; (with_reducible repeat (first | refine blk_drewN ?_ _ | refine blk_drew ?_ | refine blk_alloc ?_ _)); refine blk_put (cs := #[.int .i64 0, .slice none 0 0, .slice none 0 0]) ?_ 1 _ rfl; (with_reducible repeat (first | refine blk_drewN ?_ _ | refine blk_drew ?_ | refine blk_alloc ?_ _)); refine blk_put (cs := #[.int .i64 x103000_2, .slice none 0 0, .slice none 0 0]) ?_ 0 _ rfl; (with_reducible repeat (first | refine blk_drewN ?_ _ | refine blk_drew ?_ | refine blk_alloc ?_ _)); exact BK102.out) Try.underlying33 rfl (by kernel_rfl)) rfl ?_
                          exact ⟨_, _, by first | rfl | (simp [errW_none, errW_some] <;> rfl) | (simp [*, errW_none, errW_some] <;> rfl), by first | exact Kd.R_nil _ _ _ _ _ | exact Kd.N_nil _ _ _ _ _ | exact Kd.V_nil _ _ _ _ _ | exact Kd.Q_nil _ _ _ _ _ | exact Kd.S_nil _ _ _ _ _, by first | exact Kd.R_nil _ _ _ _ _ | exact Kd.N_nil _ _ _ _ _ | exact Kd.V_nil _ _ _ _ _ | exact Kd.Q_nil _ _ _ _ _ | exact Kd.S_nil _ _ _ _ _, by repeat (first | (with_reducible first | exact HB.out | apply below_alloc | apply pw_below_drewN | apply below_drew1 | refine below_set ?_ GE101.out | refine below_set ?_ GE102.out | refine below_set ?_ GE111.out) | exact HB.out)⟩
                        · rw [if_neg c40] at H
                          have c40b0 : decide ((l0_1.length : Int) ≤ (wrap64 ((rd l1 x9_2) - 1))) = false := decide_eq_false c40
                          clear c40
                          obtain ⟨ji44, hji44⟩ : ∃ j_ : Int, (wrap64 ((rd l1 x9_2) - 1)) = j_ := ⟨_, rfl⟩
                          replace H : (if 0 ≤ (ji44) then (if (ji44) < (x8_2.length : Int) then (if rdOf false x8_2 (ji44) = true then (some (0, ([] : List Int), ([] : List Int), false)) else (if x9_2 < (l0_1.length : Int) then (if (ji44) < (x112001_2.length : Int) then (if x9_2 < (l0_2.length : Int) then (if (ji44) < (x112002_2.length : Int) then (spec_TurnView.l0 k2 l1 (l0_1.length : Int) (x8_2.set ((ji44) : Int).toNat true) (wrap64 (x9_2 + 1)) a0_0 l0_1 l0_2 t104 (x112001_2.set ((ji44) : Int).toNat (rd l0_1 x9_2)) (x112002_2.set ((ji44) : Int).toNat (rd l0_2 x9_2))) else (none)) else (none)) else (none)) else (none))) else (none)) else (none)) = some (r1, r2, r3, r4) := by first | (rw [hji44] at H; exact H) | (simp only [hji44] at H ⊢; exact H)
                          (try rw [hji44] at c36b0)
                          (try rw [hji44] at c40b0)
                          have hji44w : (IntKind.i64.wrap ((rd l1 x9_2) - 1)) = ji44 := (i64_w _).trans hji44
                          by_cases c45 : 0 ≤ (ji44)
                          · rw [if_pos c45] at H
                            have c45b0 : decide (0 ≤ (ji44)) = true := decide_eq_true c45
                            clear c45
                            by_cases c46 : (ji44) < (x8_2.length : Int)
                            · rw [if_pos c46] at H
                              have c46b0 : decide ((ji44) < (x8_2.length : Int)) = true := decide_eq_true c46
                              clear c46
                              obtain ⟨bq47, hbq47⟩ : ∃ b_ : Bool, b_ = (rdOf false x8_2 (ji44)) := ⟨_, rfl⟩
                              replace H : (if bq47 = true then (some (0, ([] : List Int), ([] : List Int), false)) else (if x9_2 < (l0_1.length : Int) then (if (ji44) < (x112001_2.length : Int) then (if x9_2 < (l0_2.length : Int) then (if (ji44) < (x112002_2.length : Int) then (spec_TurnView.l0 k2 l1 (l0_1.length : Int) (x8_2.set ((ji44) : Int).toNat true) (wrap64 (x9_2 + 1)) a0_0 l0_1 l0_2 t104 (x112001_2.set ((ji44) : Int).toNat (rd l0_1 x9_2)) (x112002_2.set ((ji44) : Int).toNat (rd l0_2 x9_2))) else (none)) else (none)) else (none)) else (none))) = some (r1, r2, r3, r4) := by rw [← hbq47] at H; exact H
                              have Nbq47 := Aside0.mk hbq47
                              clear hbq47
                              by_cases c48 : bq47 = true
                              · subst c48
                                have H1 : (some (0, ([] : List Int), ([] : List Int), false)) = some (r1, r2, r3, r4) := by rw [if_pos rfl] at H; exact H
                                clear H
                                have H := H1
                                clear H1
                                simp only [Option.some.injEq, Prod.mk.injEq] at H
                                obtain ⟨rfl, rfl, rfl, rfl⟩ := H
                                have p115 : 0 ≤ (x9_2 : Int) := of_decide_eq_true (by first | (with_reducible assumption) | assumption)
                                have q115 : x9_2 < (l1.length : Int) := of_decide_eq_true (by first | (with_reducible assumption) | assumption)
                                obtain ⟨ad115, e115, hx115_0⟩ := Kd.at_int HR1.out x9_2 p115 q115
                                cases e115
                                replace hx115_0 := (HB.out.cell (World.block_lt_of_cell? w _ hx115_0)).trans hx115_0
                                replace p115 := eq_true p115
                                replace q115 := eq_true q115
                                obtain ⟨Ao49, co49, eo49⟩ := Kd.R_slice HO_8.out
                                subst eo49
                                have p116 : 0 ≤ ((ji44) : Int) := of_decide_eq_true (by first | (with_reducible assumption) | assumption)
                                have q116 : (ji44) < (x8_2.length : Int) := of_decide_eq_true (by first | (with_reducible assumption) | assumption)
                                obtain ⟨ad116, e116, hx116_0⟩ := Kd.at_bool (Kd.R_reads' HO_8.out).2.2 (ji44) p116 q116
                                (try rw [← Nbq47.out] at hx116_0)
                                cases e116
                                replace p116 := eq_true p116
                                replace q116 := eq_true q116
                                have hnb50 := NB102_101.out
                                have hnc50 := NB101_102.out
                                have hnb51 := NB102_111.out
                                have hnc51 := NB111_102.out
                                have hcz52_0 : wr.cell? ⟨gb102, 0, none⟩ = some (.int .i64 x103000_2) := (blk_cell BK102.out 0).trans rfl
                                have hcz52_1 : wr.cell? ⟨gb102, 1, none⟩ = some (.slice none 0 0) := (blk_cell BK102.out 1).trans rfl
                                have hcz52_2 : wr.cell? ⟨gb102, 2, none⟩ = some (.slice none 0 0) := (blk_cell BK102.out 2).trans rfl
                                have hfz52_0 := blk_frozen BK102.out 0
                                have hfz52_1 := blk_frozen BK102.out 1
                                have hfz52_2 := blk_frozen BK102.out 2
                                go_wp2
                                refine bodyPost_ret (results_ct rfl _ _ gb102 33 #[.int .i64 0, .slice none 0 0, .slice none 0 0] (0, 0) _ rfl (by (with_reducible repeat (first | refine blk_drewN ?_ _ | refine blk_drew ?_ | refine blk_alloc ?_ _)); refine blk_put (cs := #[.int .i64 0, .slice none 0 0, .slice none 0 0]) ?_ 2 _ rfl; (with_reducible repeat (first | refine blk_drewN ?_ _ | refine blk_drew ?_ | refine blk_alloc ?_ _)); refine blk_put (cs := #[.int .i64 0, .slice none 0 0, .slice none 0 0]) ?_ 1 _ rfl; (with_reducible repeat (first | refine blk_drewN ?_ _ | refine blk_drew ?_ | refine blk_alloc ?_ _)); refine blk_put (cs := #[.int .i64 x103000_2, .slice none 0 0, .slice none 0 0]) ?_ 0 _ rfl; (with_reducible repeat (first | refine blk_drewN ?_ _ | refine blk_drew ?_ | refine blk_alloc ?_ _)); exact BK102.out) Try.underlying33 rfl (by kernel_rfl)) rfl ?_
                                exact ⟨_, _, by first | rfl | (simp [errW_none, errW_some] <;> rfl) | (simp only [← hji44]; first | rfl | (simp [errW_none, errW_some] <;> rfl)) | (simp [*, errW_none, errW_some] <;> rfl), by first | exact Kd.R_nil _ _ _ _ _ | exact Kd.N_nil _ _ _ _ _ | exact Kd.V_nil _ _ _ _ _ | exact Kd.Q_nil _ _ _ _ _ | exact Kd.S_nil _ _ _ _ _, by first | exact Kd.R_nil _ _ _ _ _ | exact Kd.N_nil _ _ _ _ _ | exact Kd.V_nil _ _ _ _ _ | exact Kd.Q_nil _ _ _ _ _ | exact Kd.S_nil _ _ _ _ _, by repeat (first | (with_reducible first | exact HB.out | apply below_alloc | apply pw_below_drewN | apply below_drew1 | refine below_set ?_ GE101.out | refine below_set ?_ GE102.out | refine below_set ?_ GE111.out) | exact HB.out)⟩
                              · replace c48 := Bool.eq_false_iff.mpr c48
                                subst c48
                                have H1 : (if x9_2 < (l0_1.length : Int) then (if (ji44) < (x112001_2.length : Int) then (if x9_2 < (l0_2.length : Int) then (if (ji44) < (x112002_2.length : Int) then (spec_TurnView.l0 k2 l1 (l0_1.length : Int) (x8_2.set ((ji44) : Int).toNat true) (wrap64 (x9_2 + 1)) a0_0 l0_1 l0_2 t104 (x112001_2.set ((ji44) : Int).toNat (rd l0_1 x9_2)) (x112002_2.set ((ji44) : Int).toNat (rd l0_2 x9_2))) else (none)) else (none)) else (none)) else (none)) = some (r1, r2, r3, r4) := by rw [if_neg (show ¬ (false = true) by decide)] at H; exact H
                                clear H
                                have H := H1
                                clear H1
                                obtain ⟨y117, hy117⟩ : ∃ y_ : List Bool, y_ = (x8_2.set ((ji44) : Int).toNat true) := ⟨_, rfl⟩
                                replace H : (if x9_2 < (l0_1.length : Int) then (if (ji44) < (x112001_2.length : Int) then (if x9_2 < (l0_2.length : Int) then (if (ji44) < (x112002_2.length : Int) then (spec_TurnView.l0 k2 l1 (l0_1.length : Int) y117 (wrap64 (x9_2 + 1)) a0_0 l0_1 l0_2 t104 (x112001_2.set ((ji44) : Int).toNat (rd l0_1 x9_2)) (x112002_2.set ((ji44) : Int).toNat (rd l0_2 x9_2))) else (none)) else (none)) else (none)) else (none)) = some (r1, r2, r3, r4) := by first | (rw [hy117]; with_reducible exact H) | (have H2_ := (Option.bind_some _ _).symm.trans H; rw [hy117]; with_reducible exact H2_) | (have H2_ := (Option.bind_some _ _).symm.trans H; with_reducible exact H2_) | with_reducible exact H | (rw [hy117]; exact H) | exact H
                                have Ny117 := Aside0.mk hy117
                                clear hy117
                                by_cases c54 : x9_2 < (l0_1.length : Int)
                                · rw [if_pos c54] at H
                                  have c54b0 : decide (x9_2 < (l0_1.length : Int)) = true := decide_eq_true c54
                                  clear c54
                                  by_cases c55 : (ji44) < (x112001_2.length : Int)
                                  · rw [if_pos c55] at H
                                    have c55b0 : decide ((ji44) < (x112001_2.length : Int)) = true := decide_eq_true c55
                                    clear c55
                                    obtain ⟨y119, hy119⟩ : ∃ y_ : List Int, y_ = (x112001_2.set ((ji44) : Int).toNat (rd l0_1 x9_2)) := ⟨_, rfl⟩
                                    replace H : (if x9_2 < (l0_2.length : Int) then (if (ji44) < (x112002_2.length : Int) then (spec_TurnView.l0 k2 l1 (l0_1.length : Int) y117 (wrap64 (x9_2 + 1)) a0_0 l0_1 l0_2 t104 y119 (x112002_2.set ((ji44) : Int).toNat (rd l0_2 x9_2))) else (none)) else (none)) = some (r1, r2, r3, r4) := by first | (rw [hy119]; with_reducible exact H) | (have H2_ := (Option.bind_some _ _).symm.trans H; rw [hy119]; with_reducible exact H2_) | (have H2_ := (Option.bind_some _ _).symm.trans H; with_reducible exact H2_) | with_reducible exact H | (rw [hy119]; exact H) | exact H
                                    have Ny119 := Aside0.mk hy119
                                    clear hy119
                                    by_cases c57 : x9_2 < (l0_2.length : Int)
                                    · rw [if_pos c57] at H
                                      have c57b0 : decide (x9_2 < (l0_2.length : Int)) = true := decide_eq_true c57
                                      clear c57
                                      by_cases c58 : (ji44) < (x112002_2.length : Int)
                                      · rw [if_pos c58] at H
                                        have c58b0 : decide ((ji44) < (x112002_2.length : Int)) = true := decide_eq_true c58
                                        clear c58
                                        obtain ⟨y121, hy121⟩ : ∃ y_ : List Int, y_ = (x112002_2.set ((ji44) : Int).toNat (rd l0_2 x9_2)) := ⟨_, rfl⟩
                                        replace H : (spec_TurnView.l0 k2 l1 (l0_1.length : Int) y117 (wrap64 (x9_2 + 1)) a0_0 l0_1 l0_2 t104 y119 y121) = some (r1, r2, r3, r4) := by first | (rw [hy121]; with_reducible exact H) | (have H2_ := (Option.bind_some _ _).symm.trans H; rw [hy121]; with_reducible exact H2_) | (have H2_ := (Option.bind_some _ _).symm.trans H; with_reducible exact H2_) | with_reducible exact H | (rw [hy121]; exact H) | exact H
                                        have Ny121 := Aside0.mk hy121
                                        clear hy121
                                        have H' := Aside0.mk H
                                        clear H
                                        have p115 : 0 ≤ (x9_2 : Int) := of_decide_eq_true (by first | (with_reducible assumption) | assumption)
                                        have q115 : x9_2 < (l1.length : Int) := of_decide_eq_true (by first | (with_reducible assumption) | assumption)
                                        obtain ⟨ad115, e115, hx115_0⟩ := Kd.at_int HR1.out x9_2 p115 q115
                                        cases e115
                                        replace hx115_0 := (HB.out.cell (World.block_lt_of_cell? w _ hx115_0)).trans hx115_0
                                        replace p115 := eq_true p115
                                        replace q115 := eq_true q115
                                        obtain ⟨Ao60, co60, eo60⟩ := Kd.R_slice HO_8.out
                                        subst eo60
                                        have p116 : 0 ≤ ((ji44) : Int) := of_decide_eq_true (by first | (with_reducible assumption) | assumption)
                                        have q116 : (ji44) < (x8_2.length : Int) := of_decide_eq_true (by first | (with_reducible assumption) | assumption)
                                        obtain ⟨ad116, e116, hx116_0⟩ := Kd.at_bool (Kd.R_reads' HO_8.out).2.2 (ji44) p116 q116
                                        (try rw [← Nbq47.out] at hx116_0)
                                        cases e116
                                        replace p116 := eq_true p116
                                        replace q116 := eq_true q116
                                        have p53 : 0 ≤ ((ji44) : Int) := of_decide_eq_true (by first | (with_reducible assumption) | assumption)
                                        have q53 : ((ji44) : Int) < ((x8_2.length : Int) : Int) := of_decide_eq_true (by first | (with_reducible assumption) | assumption)
                                        obtain ⟨go53, co53, eo53, gb53, gl53, cl53, HG53⟩ := Kd.R_form HO_8.out (by omega)
                                        (first | cases eo53 | (injection eo53 with ea_ en_ ec_; (first | subst ea_ | (injection ea_ with ea_; subst ea_)); subst ec_; clear en_))
                                        have GB53 := Aside0.mk gb53
                                        have GG53 := Aside0.mk HG53
                                        clear gb53 gl53 HG53
                                        (first | simp only [add_plain] at hx116_0 | skip)
                                        obtain ⟨hx53_0, hf53_0⟩ := Kd.R_celln false HO_8.out ((ji44) : Int) p53 q53
                                        replace p53 := eq_true p53
                                        replace q53 := eq_true q53
                                        have HP61 := Kd.R_putg HO_8.out ((ji44) : Int) true
                                        try go_wp2_with (first | ((with_reducible refine gate_store (t := 4) (p := 54) rfl ?_); refine store_event (t := 4) (p := 54) (v := ?vo_w62) (w1 := (wr.setCell ⟨go53, ((ji44) : Int).toNat, none⟩ (.bool true))) ?hg ?ho ?hn ?hr ?_; (case ho => rfl); (case hg => rfl); (case hn => rfl); (case hr => first | (go_simp; done) | (go_simp; rfl)); intro w62 hw; have hg : wr.grownBy w62 (some go53) := (by rw [hw]; exact HP61.2); have hp_ : Kd.R Kd.bool 4 w62 w.heap.size (fun _ => True) (.slice (some ⟨go53, 0, none⟩) x8_2.length co60) y117 := (by rw [hw, Ny117.out]; exact HP61.1); clear HP61; have n0_ := Aside0.mk (hp_); have n1_ := Aside0.mk (Kd.R_over' (v := (.slice (some ⟨go53, 0, none⟩) x8_2.length co60)) (by (with_reducible repeat (first | apply Kd.R_alloc | apply Kd.R_drewN | apply Kd.R_drew)); exact HO_112001.out) (Kd.R_typed HO_8.out) (by decide) hg); have n2_ := Aside0.mk (Kd.R_over' (v := (.slice (some ⟨go53, 0, none⟩) x8_2.length co60)) (by (with_reducible repeat (first | apply Kd.R_alloc | apply Kd.R_drewN | apply Kd.R_drew)); exact HO_112002.out) (Kd.R_typed HO_8.out) (by decide) hg); have n3_ := Aside0.mk (blk_grown (g := gb101) (o := .cells #[.int .i64 a0_0, .slice A0_1 l0_1.length c0_1, .slice A0_2 l0_2.length c0_2] 33 (0, 0)) (by (with_reducible repeat (first | refine blk_drewN ?_ _ | refine blk_drew ?_ | refine blk_alloc ?_ _)); exact BK101.out) hg (Kd.R_ne HO_8.out BK101.out (by decide))); have n4_ := Aside0.mk (blk_grown (g := gb102) (o := .cells #[.int .i64 x103000_2, .slice none 0 0, .slice none 0 0] 33 (0, 0)) (by (with_reducible repeat (first | refine blk_drewN ?_ _ | refine blk_drew ?_ | refine blk_alloc ?_ _)); exact BK102.out) hg (Kd.R_ne HO_8.out BK102.out (by decide))); have n5_ := Aside0.mk (blk_grown (g := gb111) (o := .cells #[.int .i64 t104, u112001, u112002] 33 (0, 0)) (by (with_reducible repeat (first | refine blk_drewN ?_ _ | refine blk_drew ?_ | refine blk_alloc ?_ _)); exact BK111.out) hg (Kd.R_ne HO_8.out BK111.out (by decide))); have n6_ := Aside0.mk ((by rw [hw]; exact below_set (HB.out) GB53.out : Below w.heap.size w w62)); clear HO_8; clear HO_112001; clear HO_112002; clear BK101; clear BK102; clear BK111; clear HB; have HO_8 := n0_; have HO_112001 := n1_; have HO_112002 := n2_; have BK101 := n3_; have BK102 := n4_; have BK111 := n5_; have HB := n6_; clear n0_ n1_ n2_ n3_ n4_ n5_ n6_; clear hg hw hp_))
                                        have n0_ := Aside0.mk (Kd.R_drew HO_8.out)
                                        have n1_ := Aside0.mk (Kd.R_drew HO_112001.out)
                                        have n2_ := Aside0.mk (Kd.R_drew HO_112002.out)
                                        have n3_ := Aside0.mk (blk_drew BK101.out)
                                        have n4_ := Aside0.mk (blk_drew BK102.out)
                                        have n5_ := Aside0.mk (blk_drew BK111.out)
                                        have n6_ := Aside0.mk (below_drew1 HB.out)
                                        clear HO_8
                                        clear HO_112001
                                        clear HO_112002
                                        clear BK101
                                        clear BK102
                                        clear BK111
                                        clear HB
                                        have HO_8 := n0_
                                        have HO_112001 := n1_
                                        have HO_112002 := n2_
                                        have BK101 := n3_
                                        have BK102 := n4_
                                        have BK111 := n5_
                                        have HB := n6_
                                        clear n0_ n1_ n2_ n3_ n4_ n5_ n6_
                                        have p118 : 0 ≤ (x9_2 : Int) := of_decide_eq_true (by first | (with_reducible assumption) | assumption)
                                        have q118 : x9_2 < (l0_1.length : Int) := of_decide_eq_true (by first | (with_reducible assumption) | assumption)
                                        obtain ⟨ad118, e118, hx118_0⟩ := Kd.at_int HR0_1.out x9_2 p118 q118
                                        have hw118_0 := hx118_0
                                        cases e118
                                        replace hx118_0 := (HB.out.cell (World.block_lt_of_cell? w _ hx118_0)).trans hx118_0
                                        replace p118 := eq_true p118
                                        replace q118 := eq_true q118
                                        have p56 : 0 ≤ ((ji44) : Int) := of_decide_eq_true (by first | (with_reducible assumption) | assumption)
                                        have q56 : ((ji44) : Int) < ((x112001_2.length : Int) : Int) := of_decide_eq_true (by first | (with_reducible assumption) | assumption)
                                        obtain ⟨go56, co56, eo56, gb56, gl56, cl56, HG56⟩ := Kd.R_form HO_112001.out (by omega)
                                        (first | cases eo56 | (injection eo56 with ea_ en_ ec_; (first | subst ea_ | (injection ea_ with ea_; subst ea_)); subst ec_; clear en_))
                                        have GB56 := Aside0.mk gb56
                                        have GG56 := Aside0.mk HG56
                                        clear gb56 gl56 HG56
                                        obtain ⟨hx56_0, hf56_0⟩ := Kd.R_celln 0 HO_112001.out ((ji44) : Int) p56 q56
                                        replace p56 := eq_true p56
                                        replace q56 := eq_true q56
                                        have HP64 := Kd.R_putn HO_112001.out ((ji44) : Int) (rd l0_1 x9_2)
                                        rw [← Ny119.out] at HP64
                                        have HQ64 := Aside0.mk HP64
                                        clear HP64
                                        refine start_ (n := 10) (S := fun w' => w'.cell? ⟨gb111, 0, none⟩ = some (.int .i64 t104) ∧ w'.cell? ⟨gb111, 1, none⟩ = some (.slice (some ⟨go56, 0, none⟩) x112001_2.length co56) ∧ w'.cell? ⟨gb111, 2, none⟩ = some (u112002) ∧ w'.cell? ⟨gb101, 0, none⟩ = some (.int .i64 a0_0) ∧ w'.cell? ⟨gb101, 1, none⟩ = some (.slice (some ad118) l0_1.length c0_1) ∧ w'.cell? ⟨gb101, 2, none⟩ = some (.slice A0_2 l0_2.length c0_2) ∧ w'.cell? (ad118.add (x9_2).toNat) = some (.int .i64 (rd l0_1 x9_2))) (ds := [9]) #[false, false, false, false, false, false, false, false, false, false] (by kernel_rfl) rfl rfl ⟨(blk_cell BK111.out 0).trans rfl, (blk_cell BK111.out 1).trans rfl, (blk_cell BK111.out 2).trans rfl, (blk_cell BK101.out 0).trans rfl, (blk_cell BK101.out 1).trans rfl, (blk_cell BK101.out 2).trans rfl, ((HB.out.cell (World.block_lt_of_cell? w _ hw118_0)).trans hw118_0)⟩ (fun hHeld => ?_); refine with_tabW spec_TurnView.tab13 spec_TurnView.bits13 (fun HT_ HW_ => ?_)
                                        generalize w62.drew = w63 at HO_8 HO_112001 HO_112002 BK101 BK102 BK111 HB GG56 HQ64 hf56_0 hx118_0 hx56_0 hHeld ⊢
                                        refine pure_ (i := 0) (N := some 55) (v := ?_) (a' := ?_) #[true, false, false, false, false, false, false, false, false, false] rfl rfl (any_of HT_.out (by kernel_rfl)) (fun _ _ _ h => h) (Or.inl ⟨by rfl, ?_⟩) ?_ ?_
                                        rotate_left
                                        · intro w'
                                          go_simp
                                          with_reducible rfl
                                        rotate_left
                                        · simp only [Act.put, List.setIfInBounds_toArray, List.set_cons_zero, List.set_cons_succ, i64_w, i32_w]
                                          rfl
                                        refine pure_ (i := 2) (N := some 57) (v := ?_) (a' := ?_) #[true, false, true, false, false, false, false, false, false, false] rfl rfl (any_of HT_.out (by kernel_rfl)) (fun _ _ _ h => h) (Or.inl ⟨by rfl, ?_⟩) ?_ ?_
                                        rotate_left
                                        · intro w'
                                          go_simp
                                          with_reducible rfl
                                        rotate_left
                                        · simp only [Act.put, List.setIfInBounds_toArray, List.set_cons_zero, List.set_cons_succ, i64_w, i32_w]
                                          rfl
                                        refine pure_ (i := 3) (N := some 58) (v := ?_) (a' := ?_) #[true, false, true, true, false, false, false, false, false, false] rfl rfl (any_of HT_.out (by kernel_rfl)) (fun _ _ _ h => h) (Or.inl ⟨by rfl, ?_⟩) ?_ ?_
                                        rotate_left
                                        · intro w'
                                          go_simp
                                          with_reducible rfl
                                        rotate_left
                                        · simp only [Act.put, List.setIfInBounds_toArray, List.set_cons_zero, List.set_cons_succ, i64_w, i32_w]
                                          rfl
                                        refine pure_ (i := 5) (N := some 60) (v := ?_) (a' := ?_) #[true, false, true, true, false, true, false, false, false, false] rfl rfl (any_of HT_.out (by kernel_rfl)) (fun _ _ _ h => h) (Or.inl ⟨by rfl, ?_⟩) ?_ ?_
                                        rotate_left
                                        · intro w'
                                          go_simp
                                          with_reducible rfl
                                        rotate_left
                                        · simp only [Act.put, List.setIfInBounds_toArray, List.set_cons_zero, List.set_cons_succ, i64_w, i32_w]
                                          rfl
                                        refine take_ (i := 1) (N := some 56) (v := ?_) (a' := ?_) #[true, true, true, true, false, true, false, false, false, false] rfl rfl (take_ofW HT_.out HW_.out (by kernel_rfl)) (fun _ _ _ h => h) (Or.inl ⟨by rfl, ?_⟩) hHeld ?_ ?_
                                        rotate_left
                                        · rintro w' ⟨s0, s1, s2, s3, s4, s5, s6⟩
                                          go_simp
                                          with_reducible rfl
                                        rotate_left
                                        · simp only [Act.put, List.setIfInBounds_toArray, List.set_cons_zero, List.set_cons_succ, i64_w, i32_w]
                                          rfl
                                        refine take_ (i := 4) (N := some 59) (v := ?_) (a' := ?_) #[true, true, true, true, true, true, false, false, false, false] rfl rfl (take_ofW HT_.out HW_.out (by kernel_rfl)) (fun _ _ _ h => h) (Or.inl ⟨by rfl, ?_⟩) hHeld ?_ ?_
                                        rotate_left
                                        · rintro w' ⟨s0, s1, s2, s3, s4, s5, s6⟩
                                          go_simp
                                          with_reducible rfl
                                        rotate_left
                                        · simp only [Act.put, List.setIfInBounds_toArray, List.set_cons_zero, List.set_cons_succ, i64_w, i32_w]
                                          rfl
                                        refine pure_ (i := 6) (N := some 61) (v := ?_) (a' := ?_) #[true, true, true, true, true, true, true, false, false, false] rfl rfl (any_of HT_.out (by kernel_rfl)) (fun _ _ _ h => h) (Or.inl ⟨by rfl, ?_⟩) ?_ ?_
                                        rotate_left
                                        · intro w'
                                          go_simp
                                          with_reducible rfl
                                        rotate_left
                                        · simp only [Act.put, List.setIfInBounds_toArray, List.set_cons_zero, List.set_cons_succ, i64_w, i32_w]
                                          rfl
                                        refine take_ (i := 7) (N := some 62) (v := ?_) (a' := ?_) #[true, true, true, true, true, true, true, true, false, false] rfl rfl (take_ofW HT_.out HW_.out (by kernel_rfl)) (fun _ _ _ h => h) (Or.inl ⟨by rfl, ?_⟩) hHeld ?_ ?_
                                        rotate_left
                                        · rintro w' ⟨s0, s1, s2, s3, s4, s5, s6⟩
                                          go_simp
                                          with_reducible rfl
                                        rotate_left
                                        · simp only [Act.put, List.setIfInBounds_toArray, List.set_cons_zero, List.set_cons_succ, i64_w, i32_w]
                                          rfl
                                        refine pure_ (i := 8) (N := some 63) (v := ?_) (a' := ?_) #[true, true, true, true, true, true, true, true, true, false] rfl rfl (any_of HT_.out (by kernel_rfl)) (fun _ _ _ h => h) (Or.inl ⟨by rfl, ?_⟩) ?_ ?_
                                        rotate_left
                                        · intro w'
                                          go_simp
                                          with_reducible rfl
                                        rotate_left
                                        · simp only [Act.put, List.setIfInBounds_toArray, List.set_cons_zero, List.set_cons_succ, i64_w, i32_w]
                                          rfl
                                        refine last_ (i := 9) (N := none) #[true, true, true, true, true, true, true, true, true, true] rfl rfl (one_of HT_.out (by kernel_rfl)) (by decide) (fun K hK => ?_)
                                        refine skip_ (w1 := ?_) (by rfl) rfl ?_ ?_
                                        rotate_left
                                        · go_simp
                                          rfl
                                        refine hK.out _ _ ?_
                                        clear hK K
                                        refine done_ (done_of HT_.out (by kernel_rfl)) ?_
                                        try go_wp2
                                        have n0_ : Aside0 (Kd.R Kd.bool 4 (w63.setCell ⟨go56, ((ji44) : Int).toNat, none⟩ (.int .i64 (rd l0_1 x9_2))) w.heap.size (fun _ => True) (.slice (some ⟨go53, 0, none⟩) x8_2.length co60) y117) := ⟨by (with_reducible repeat (first | apply Kd.R_alloc | apply Kd.R_drewN | apply Kd.R_drew)); exact Kd.R_mono (Kd.R_far (p := ⟨go56, ((ji44) : Int).toNat, none⟩) (Kd.R_types HO_8.out GG56.out (by decide)) (fun _ hk => hk.2) (.int .i64 (rd l0_1 x9_2))) (fun _ hk => trivial)⟩
                                        have n1_ : Aside0 (Kd.R (Kd.int .i64) 3 (w63.setCell ⟨go56, ((ji44) : Int).toNat, none⟩ (.int .i64 (rd l0_1 x9_2))) w.heap.size (fun k_ => some k_ ≠ (u112002 : Value).ownBlock) (.slice (some ⟨go56, 0, none⟩) x112001_2.length co56) y119) := ⟨by (with_reducible repeat (first | apply Kd.R_alloc | apply Kd.R_drewN | apply Kd.R_drew)); exact HQ64.out⟩
                                        have n2_ : Aside0 (Kd.R (Kd.int .i64) 3 (w63.setCell ⟨go56, ((ji44) : Int).toNat, none⟩ (.int .i64 (rd l0_1 x9_2))) w.heap.size (fun k_ => some k_ ≠ (.slice (some ⟨go56, 0, none⟩) x112001_2.length co56 : Value).ownBlock) u112002 x112002_2) := ⟨by (with_reducible repeat (first | apply Kd.R_alloc | apply Kd.R_drewN | apply Kd.R_drew)); exact Kd.R_mono (Kd.R_far (p := ⟨go56, ((ji44) : Int).toNat, none⟩) (Kd.R_mono HO_112002.out (fun k_ hk => (⟨hk, fun e_ => hk (by rw [e_]; rfl)⟩ : _ ∧ k_ ≠ go56))) (fun _ hk => hk.2) (.int .i64 (rd l0_1 x9_2))) (fun _ hk => hk.1)⟩
                                        have n3_ : Aside0 ((w63.setCell ⟨go56, ((ji44) : Int).toNat, none⟩ (.int .i64 (rd l0_1 x9_2))).heap[gb101]? = some (.cells #[.int .i64 a0_0, .slice (some ad118) l0_1.length c0_1, .slice A0_2 l0_2.length c0_2] 33 (0, 0))) := ⟨by (with_reducible repeat (first | refine blk_drewN ?_ _ | refine blk_drew ?_ | refine blk_alloc ?_ _)); refine blk_far ?_ (by have h_ := Kd.R_ne HO_112001.out BK101.out (by decide); intro e_; exact h_ (by rw [e_]; rfl)) _; (with_reducible repeat (first | refine blk_drewN ?_ _ | refine blk_drew ?_ | refine blk_alloc ?_ _)); exact BK101.out⟩
                                        have n4_ : Aside0 ((w63.setCell ⟨go56, ((ji44) : Int).toNat, none⟩ (.int .i64 (rd l0_1 x9_2))).heap[gb102]? = some (.cells #[.int .i64 x103000_2, .slice none 0 0, .slice none 0 0] 33 (0, 0))) := ⟨by (with_reducible repeat (first | refine blk_drewN ?_ _ | refine blk_drew ?_ | refine blk_alloc ?_ _)); refine blk_far ?_ (by have h_ := Kd.R_ne HO_112001.out BK102.out (by decide); intro e_; exact h_ (by rw [e_]; rfl)) _; (with_reducible repeat (first | refine blk_drewN ?_ _ | refine blk_drew ?_ | refine blk_alloc ?_ _)); exact BK102.out⟩
                                        have n5_ : Aside0 ((w63.setCell ⟨go56, ((ji44) : Int).toNat, none⟩ (.int .i64 (rd l0_1 x9_2))).heap[gb111]? = some (.cells #[.int .i64 t104, .slice (some ⟨go56, 0, none⟩) x112001_2.length co56, u112002] 33 (0, 0))) := ⟨by (with_reducible repeat (first | refine blk_drewN ?_ _ | refine blk_drew ?_ | refine blk_alloc ?_ _)); refine blk_far ?_ (by have h_ := Kd.R_ne HO_112001.out BK111.out (by decide); intro e_; exact h_ (by rw [e_]; rfl)) _; (with_reducible repeat (first | refine blk_drewN ?_ _ | refine blk_drew ?_ | refine blk_alloc ?_ _)); exact BK111.out⟩
                                        have n6_ : Aside0 (Below w.heap.size w (w63.setCell ⟨go56, ((ji44) : Int).toNat, none⟩ (.int .i64 (rd l0_1 x9_2)))) := ⟨by repeat (first | (with_reducible first | exact HB.out | apply below_alloc | apply pw_below_drewN | apply below_drew1 | refine below_set ?_ GB56.out | refine below_set ?_ GE101.out | refine below_set ?_ GE102.out | refine below_set ?_ GE111.out) | exact HB.out)⟩
                                        (try clear HO_8)
                                        (try clear HO_112001)
                                        (try clear HO_112002)
                                        (try clear BK101)
                                        (try clear BK102)
                                        (try clear BK111)
                                        (try clear HB)
                                        generalize (w63.setCell ⟨go56, ((ji44) : Int).toNat, none⟩ (.int .i64 (rd l0_1 x9_2))) = w65 at n0_ n1_ n2_ n3_ n4_ n5_ n6_ ⊢
                                        have HO_8 := n0_
                                        have HO_112001 := n1_
                                        have HO_112002 := n2_
                                        have BK101 := n3_
                                        have BK102 := n4_
                                        have BK111 := n5_
                                        have HB := n6_
                                        clear n0_ n1_ n2_ n3_ n4_ n5_ n6_
                                        have n0_ := Aside0.mk (Kd.R_drew HO_8.out)
                                        have n1_ := Aside0.mk (Kd.R_drew HO_112001.out)
                                        have n2_ := Aside0.mk (Kd.R_drew HO_112002.out)
                                        have n3_ := Aside0.mk (blk_drew BK101.out)
                                        have n4_ := Aside0.mk (blk_drew BK102.out)
                                        have n5_ := Aside0.mk (blk_drew BK111.out)
                                        have n6_ := Aside0.mk (below_drew1 HB.out)
                                        clear HO_8
                                        clear HO_112001
                                        clear HO_112002
                                        clear BK101
                                        clear BK102
                                        clear BK111
                                        clear HB
                                        have HO_8 := n0_
                                        have HO_112001 := n1_
                                        have HO_112002 := n2_
                                        have BK101 := n3_
                                        have BK102 := n4_
                                        have BK111 := n5_
                                        have HB := n6_
                                        clear n0_ n1_ n2_ n3_ n4_ n5_ n6_
                                        have p120 : 0 ≤ (x9_2 : Int) := of_decide_eq_true (by first | (with_reducible assumption) | assumption)
                                        have q120 : x9_2 < (l0_2.length : Int) := of_decide_eq_true (by first | (with_reducible assumption) | assumption)
                                        obtain ⟨ad120, e120, hx120_0⟩ := Kd.at_int HR0_2.out x9_2 p120 q120
                                        have hw120_0 := hx120_0
                                        cases e120
                                        replace hx120_0 := (HB.out.cell (World.block_lt_of_cell? w _ hx120_0)).trans hx120_0
                                        replace p120 := eq_true p120
                                        replace q120 := eq_true q120
                                        have p59 : 0 ≤ ((ji44) : Int) := of_decide_eq_true (by first | (with_reducible assumption) | assumption)
                                        have q59 : ((ji44) : Int) < ((x112002_2.length : Int) : Int) := of_decide_eq_true (by first | (with_reducible assumption) | assumption)
                                        obtain ⟨go59, co59, eo59, gb59, gl59, cl59, HG59⟩ := Kd.R_form HO_112002.out (by omega)
                                        (first | cases eo59 | (injection eo59 with ea_ en_ ec_; (first | subst ea_ | (injection ea_ with ea_; subst ea_)); subst ec_; clear en_))
                                        have GB59 := Aside0.mk gb59
                                        have GG59 := Aside0.mk HG59
                                        clear gb59 gl59 HG59
                                        obtain ⟨hx59_0, hf59_0⟩ := Kd.R_celln 0 HO_112002.out ((ji44) : Int) p59 q59
                                        replace p59 := eq_true p59
                                        replace q59 := eq_true q59
                                        have HP67 := Kd.R_putn HO_112002.out ((ji44) : Int) (rd l0_2 x9_2)
                                        rw [← Ny121.out] at HP67
                                        have HQ67 := Aside0.mk HP67
                                        clear HP67
                                        refine start_ (n := 10) (S := fun w' => w'.cell? ⟨gb111, 0, none⟩ = some (.int .i64 t104) ∧ w'.cell? ⟨gb111, 1, none⟩ = some (.slice (some ⟨go56, 0, none⟩) x112001_2.length co56) ∧ w'.cell? ⟨gb111, 2, none⟩ = some (.slice (some ⟨go59, 0, none⟩) x112002_2.length co59) ∧ w'.cell? ⟨gb101, 0, none⟩ = some (.int .i64 a0_0) ∧ w'.cell? ⟨gb101, 1, none⟩ = some (.slice (some ad118) l0_1.length c0_1) ∧ w'.cell? ⟨gb101, 2, none⟩ = some (.slice (some ad120) l0_2.length c0_2) ∧ w'.cell? (ad120.add (x9_2).toNat) = some (.int .i64 (rd l0_2 x9_2))) (ds := [9]) #[false, false, false, false, false, false, false, false, false, false] (by kernel_rfl) rfl rfl ⟨(blk_cell BK111.out 0).trans rfl, (blk_cell BK111.out 1).trans rfl, (blk_cell BK111.out 2).trans rfl, (blk_cell BK101.out 0).trans rfl, (blk_cell BK101.out 1).trans rfl, (blk_cell BK101.out 2).trans rfl, ((HB.out.cell (World.block_lt_of_cell? w _ hw120_0)).trans hw120_0)⟩ (fun hHeld => ?_); refine with_tabW spec_TurnView.tab14 spec_TurnView.bits14 (fun HT_ HW_ => ?_)
                                        generalize w65.drew = w66 at HO_8 HO_112001 HO_112002 BK101 BK102 BK111 HB GG59 HQ64 HQ67 hf59_0 hx120_0 hx59_0 hHeld ⊢
                                        refine pure_ (i := 0) (N := some 64) (v := ?_) (a' := ?_) #[true, false, false, false, false, false, false, false, false, false] rfl rfl (any_of HT_.out (by kernel_rfl)) (fun _ _ _ h => h) (Or.inl ⟨by rfl, ?_⟩) ?_ ?_
                                        rotate_left
                                        · intro w'
                                          go_simp
                                          with_reducible rfl
                                        rotate_left
                                        · simp only [Act.put, List.setIfInBounds_toArray, List.set_cons_zero, List.set_cons_succ, i64_w, i32_w]
                                          rfl
                                        refine pure_ (i := 2) (N := some 66) (v := ?_) (a' := ?_) #[true, false, true, false, false, false, false, false, false, false] rfl rfl (any_of HT_.out (by kernel_rfl)) (fun _ _ _ h => h) (Or.inl ⟨by rfl, ?_⟩) ?_ ?_
                                        rotate_left
                                        · intro w'
                                          go_simp
                                          with_reducible rfl
                                        rotate_left
                                        · simp only [Act.put, List.setIfInBounds_toArray, List.set_cons_zero, List.set_cons_succ, i64_w, i32_w]
                                          rfl
                                        refine pure_ (i := 3) (N := some 67) (v := ?_) (a' := ?_) #[true, false, true, true, false, false, false, false, false, false] rfl rfl (any_of HT_.out (by kernel_rfl)) (fun _ _ _ h => h) (Or.inl ⟨by rfl, ?_⟩) ?_ ?_
                                        rotate_left
                                        · intro w'
                                          go_simp
                                          with_reducible rfl
                                        rotate_left
                                        · simp only [Act.put, List.setIfInBounds_toArray, List.set_cons_zero, List.set_cons_succ, i64_w, i32_w]
                                          rfl
                                        refine pure_ (i := 5) (N := some 69) (v := ?_) (a' := ?_) #[true, false, true, true, false, true, false, false, false, false] rfl rfl (any_of HT_.out (by kernel_rfl)) (fun _ _ _ h => h) (Or.inl ⟨by rfl, ?_⟩) ?_ ?_
                                        rotate_left
                                        · intro w'
                                          go_simp
                                          with_reducible rfl
                                        rotate_left
                                        · simp only [Act.put, List.setIfInBounds_toArray, List.set_cons_zero, List.set_cons_succ, i64_w, i32_w]
                                          rfl
                                        refine take_ (i := 1) (N := some 65) (v := ?_) (a' := ?_) #[true, true, true, true, false, true, false, false, false, false] rfl rfl (take_ofW HT_.out HW_.out (by kernel_rfl)) (fun _ _ _ h => h) (Or.inl ⟨by rfl, ?_⟩) hHeld ?_ ?_
                                        rotate_left
                                        · rintro w' ⟨s0, s1, s2, s3, s4, s5, s6⟩
                                          go_simp
                                          with_reducible rfl
                                        rotate_left
                                        · simp only [Act.put, List.setIfInBounds_toArray, List.set_cons_zero, List.set_cons_succ, i64_w, i32_w]
                                          rfl
                                        refine take_ (i := 4) (N := some 68) (v := ?_) (a' := ?_) #[true, true, true, true, true, true, false, false, false, false] rfl rfl (take_ofW HT_.out HW_.out (by kernel_rfl)) (fun _ _ _ h => h) (Or.inl ⟨by rfl, ?_⟩) hHeld ?_ ?_
                                        rotate_left
                                        · rintro w' ⟨s0, s1, s2, s3, s4, s5, s6⟩
                                          go_simp
                                          with_reducible rfl
                                        rotate_left
                                        · simp only [Act.put, List.setIfInBounds_toArray, List.set_cons_zero, List.set_cons_succ, i64_w, i32_w]
                                          rfl
                                        refine pure_ (i := 6) (N := some 70) (v := ?_) (a' := ?_) #[true, true, true, true, true, true, true, false, false, false] rfl rfl (any_of HT_.out (by kernel_rfl)) (fun _ _ _ h => h) (Or.inl ⟨by rfl, ?_⟩) ?_ ?_
                                        rotate_left
                                        · intro w'
                                          go_simp
                                          with_reducible rfl
                                        rotate_left
                                        · simp only [Act.put, List.setIfInBounds_toArray, List.set_cons_zero, List.set_cons_succ, i64_w, i32_w]
                                          rfl
                                        refine take_ (i := 7) (N := some 71) (v := ?_) (a' := ?_) #[true, true, true, true, true, true, true, true, false, false] rfl rfl (take_ofW HT_.out HW_.out (by kernel_rfl)) (fun _ _ _ h => h) (Or.inl ⟨by rfl, ?_⟩) hHeld ?_ ?_
                                        rotate_left
                                        · rintro w' ⟨s0, s1, s2, s3, s4, s5, s6⟩
                                          go_simp
                                          with_reducible rfl
                                        rotate_left
                                        · simp only [Act.put, List.setIfInBounds_toArray, List.set_cons_zero, List.set_cons_succ, i64_w, i32_w]
                                          rfl
                                        refine pure_ (i := 8) (N := some 72) (v := ?_) (a' := ?_) #[true, true, true, true, true, true, true, true, true, false] rfl rfl (any_of HT_.out (by kernel_rfl)) (fun _ _ _ h => h) (Or.inl ⟨by rfl, ?_⟩) ?_ ?_
                                        rotate_left
                                        · intro w'
                                          go_simp
                                          with_reducible rfl
                                        rotate_left
                                        · simp only [Act.put, List.setIfInBounds_toArray, List.set_cons_zero, List.set_cons_succ, i64_w, i32_w]
                                          rfl
                                        refine last_ (i := 9) (N := none) #[true, true, true, true, true, true, true, true, true, true] rfl rfl (one_of HT_.out (by kernel_rfl)) (by decide) (fun K hK => ?_)
                                        refine skip_ (w1 := ?_) (by rfl) rfl ?_ ?_
                                        rotate_left
                                        · go_simp
                                          rfl
                                        refine hK.out _ _ ?_
                                        clear hK K
                                        refine done_ (done_of HT_.out (by kernel_rfl)) ?_
                                        try go_wp2
                                        go_roundg k2
                                        case measure => have := HJ2.out; have := HK2.out; omega
                                        case rel => exact ⟨(y117), (wrap64 (x9_2 + 1)), (x103000_2), (y119), (y121), (.slice (some ⟨go56, 0, none⟩) x112001_2.length co56), (.slice (some ⟨go59, 0, none⟩) x112002_2.length co59), (by first | rfl | (simp; done) | (simp [*]; done)), H', ⟨by have := HJ2.out; have := HK2.out; omega⟩, ⟨by (with_reducible repeat (first | apply Kd.R_alloc | apply Kd.R_drewN | apply Kd.R_drew)); exact Kd.R_mono (Kd.R_far (p := ⟨go59, ((ji44) : Int).toNat, none⟩) (Kd.R_types HO_8.out GG59.out (by decide)) (fun _ hk => hk.2) (.int .i64 (rd l0_2 x9_2))) (fun _ hk => trivial)⟩, ⟨by (with_reducible repeat (first | apply Kd.R_alloc | apply Kd.R_drewN | apply Kd.R_drew)); exact Kd.R_mono (Kd.R_far (p := ⟨go59, ((ji44) : Int).toNat, none⟩) (Kd.R_mono HO_112001.out (fun k_ hk => (⟨hk, fun e_ => hk (by rw [e_]; rfl)⟩ : _ ∧ k_ ≠ go59))) (fun _ hk => hk.2) (.int .i64 (rd l0_2 x9_2))) (fun _ hk => hk.1)⟩, ⟨by (with_reducible repeat (first | apply Kd.R_alloc | apply Kd.R_drewN | apply Kd.R_drew)); exact HQ67.out⟩, ⟨by (with_reducible repeat (first | refine blk_drewN ?_ _ | refine blk_drew ?_ | refine blk_alloc ?_ _)); refine blk_far ?_ (by have h_ := Kd.R_ne HO_112002.out BK101.out (by decide); intro e_; exact h_ (by rw [e_]; rfl)) _; (with_reducible repeat (first | refine blk_drewN ?_ _ | refine blk_drew ?_ | refine blk_alloc ?_ _)); exact BK101.out⟩, ⟨by (with_reducible repeat (first | refine blk_drewN ?_ _ | refine blk_drew ?_ | refine blk_alloc ?_ _)); refine blk_far ?_ (by have h_ := Kd.R_ne HO_112002.out BK102.out (by decide); intro e_; exact h_ (by rw [e_]; rfl)) _; (with_reducible repeat (first | refine blk_drewN ?_ _ | refine blk_drew ?_ | refine blk_alloc ?_ _)); exact BK102.out⟩, ⟨by (with_reducible repeat (first | refine blk_drewN ?_ _ | refine blk_drew ?_ | refine blk_alloc ?_ _)); refine blk_far ?_ (by have h_ := Kd.R_ne HO_112002.out BK111.out (by decide); intro e_; exact h_ (by rw [e_]; rfl)) _; (with_reducible repeat (first | refine blk_drewN ?_ _ | refine blk_drew ?_ | refine blk_alloc ?_ _)); exact BK111.out⟩, ⟨by repeat (first | (with_reducible first | exact HB.out | apply below_alloc | apply pw_below_drewN | apply below_drew1 | refine below_set ?_ GB59.out | refine below_set ?_ GE101.out | refine below_set ?_ GE102.out | refine below_set ?_ GE111.out) | exact HB.out)⟩⟩
                                      · rw [if_neg c58] at H
                                        exact absurd H (by simp)
                                    · rw [if_neg c57] at H
                                      exact absurd H (by simp)
                                  · rw [if_neg c55] at H
                                    exact absurd H (by simp)
                                · rw [if_neg c54] at H
                                  exact absurd H (by simp)
                            · rw [if_neg c46] at H
                              exact absurd H (by simp)
                          · rw [if_neg c45] at H
                            exact absurd H (by simp)
                    · rw [if_neg c35] at H
                      exact absurd H (by simp)
                  · rw [if_neg c34] at H
                    exact absurd H (by simp)
                · rw [if_neg c33] at H
                  have c33b0 : decide (x9_2 < (l0_1.length : Int)) = false := decide_eq_false c33
                  clear c33
                  simp only [Option.some.injEq, Prod.mk.injEq] at H
                  obtain ⟨rfl, rfl, rfl, rfl⟩ := H
                  have hnb68 := NB111_101.out
                  have hnc68 := NB101_111.out
                  have hnb69 := NB111_102.out
                  have hnc69 := NB102_111.out
                  have hcz70_0 : wr.cell? ⟨gb111, 0, none⟩ = some (.int .i64 t104) := (blk_cell BK111.out 0).trans rfl
                  have hcz70_1 : wr.cell? ⟨gb111, 1, none⟩ = some (u112001) := (blk_cell BK111.out 1).trans rfl
                  have hcz70_2 : wr.cell? ⟨gb111, 2, none⟩ = some (u112002) := (blk_cell BK111.out 2).trans rfl
                  have hfz70_0 := blk_frozen BK111.out 0
                  have hfz70_1 := blk_frozen BK111.out 1
                  have hfz70_2 := blk_frozen BK111.out 2
                  have hnb71 := NB102_101.out
                  have hnc71 := NB101_102.out
                  have hcz72_0 : wr.cell? ⟨gb102, 0, none⟩ = some (.int .i64 x103000_2) := (blk_cell BK102.out 0).trans rfl
                  have hcz72_1 : wr.cell? ⟨gb102, 1, none⟩ = some (.slice none 0 0) := (blk_cell BK102.out 1).trans rfl
                  have hcz72_2 : wr.cell? ⟨gb102, 2, none⟩ = some (.slice none 0 0) := (blk_cell BK102.out 2).trans rfl
                  have hfz72_0 := blk_frozen BK102.out 0
                  have hfz72_1 := blk_frozen BK102.out 1
                  have hfz72_2 := blk_frozen BK102.out 2
                  obtain ⟨Ao73, co73, eo73⟩ := Kd.R_slice HO_112001.out
                  subst eo73
                  obtain ⟨Ao74, co74, eo74⟩ := Kd.R_slice HO_112002.out
                  subst eo74
                  go_wp2
                  refine bodyPost_ret (results_ct rfl _ _ gb102 33 #[.int .i64 t104, .slice Ao73 x112001_2.length co73, .slice Ao74 x112002_2.length co74] (0, 0) _ rfl (by (with_reducible repeat (first | refine blk_drewN ?_ _ | refine blk_drew ?_ | refine blk_alloc ?_ _)); refine blk_put (cs := #[.int .i64 t104, .slice Ao73 x112001_2.length co73, .slice none 0 0]) ?_ 2 _ rfl; (with_reducible repeat (first | refine blk_drewN ?_ _ | refine blk_drew ?_ | refine blk_alloc ?_ _)); refine blk_put (cs := #[.int .i64 t104, .slice none 0 0, .slice none 0 0]) ?_ 1 _ rfl; (with_reducible repeat (first | refine blk_drewN ?_ _ | refine blk_drew ?_ | refine blk_alloc ?_ _)); refine blk_put (cs := #[.int .i64 x103000_2, .slice none 0 0, .slice none 0 0]) ?_ 0 _ rfl; (with_reducible repeat (first | refine blk_drewN ?_ _ | refine blk_drew ?_ | refine blk_alloc ?_ _)); exact BK102.out) Try.underlying33 rfl (by kernel_rfl)) rfl ?_
                  exact ⟨_, _, by first | rfl | (simp [errW_none, errW_some] <;> rfl) | (simp [*, errW_none, errW_some] <;> rfl), by (with_reducible repeat (first | apply Kd.R_alloc | apply Kd.R_drewN | apply Kd.R_drew)); exact Kd.R_mono (Kd.R_far (p := ⟨gb102, 2, none⟩) (Kd.R_far (p := ⟨gb102, 1, none⟩) (Kd.R_far (p := ⟨gb102, 0, none⟩) (Kd.R_types HO_112001.out BK102.out (by decide)) (fun _ hk => hk.2) (.int .i64 t104)) (fun _ hk => hk.2) (.slice Ao73 x112001_2.length co73)) (fun _ hk => hk.2) (.slice Ao74 x112002_2.length co74)) (fun _ hk => hk.1), by (with_reducible repeat (first | apply Kd.R_alloc | apply Kd.R_drewN | apply Kd.R_drew)); exact Kd.R_mono (Kd.R_far (p := ⟨gb102, 2, none⟩) (Kd.R_far (p := ⟨gb102, 1, none⟩) (Kd.R_far (p := ⟨gb102, 0, none⟩) (Kd.R_types HO_112002.out BK102.out (by decide)) (fun _ hk => hk.2) (.int .i64 t104)) (fun _ hk => hk.2) (.slice Ao73 x112001_2.length co73)) (fun _ hk => hk.2) (.slice Ao74 x112002_2.length co74)) (fun _ hk => hk.1), by repeat (first | (with_reducible first | exact HB.out | apply below_alloc | apply pw_below_drewN | apply below_drew1 | refine below_set ?_ GE101.out | refine below_set ?_ GE102.out | refine below_set ?_ GE111.out) | exact HB.out)⟩
          · rw [if_neg c21] at H
            exact absurd H (by simp)
        · rw [if_neg c20] at H
          exact absurd H (by simp)

end Go.Proofs.Ytipjhbngbaifeaa.PA

namespace Go.Proofs.Ytipjhbngbaifeaa.PA
open Go.RowKit Go.Proofs.YtipjhbngbaifeaaW.PrintWords Go.Proofs.YtipjhbngbaifeaaW.PrintLast Go.Proofs.YtipjhbngbaifeaaW.PrintMore
set_option linter.unusedVariables false
set_option linter.unusedSimpArgs false
def gi (l : List Int) (i : Nat) : Int := l.getD i 0
def lay (l : List Int) : Array Value := (l.map (Value.int .i64)).toArray
theorem lay_size (l : List Int) : (lay l).size = l.length := by simp [lay]
theorem lay_get (l : List Int) (i : Nat) (h : i < l.length) : (lay l)[i]? = some (.int .i64 (gi l i)) := by
  simp [lay, gi, h, List.getD_eq_getElem?_getD]
theorem lay_set (l : List Int) (i : Nat) (x : Int) : (lay l).setIfInBounds i (.int .i64 x) = lay (l.set i x) := by
  apply Array.ext_getElem?; intro j; simp [lay, List.getElem?_set, Array.getElem?_setIfInBounds, List.getElem?_map]
theorem lay_one (l : List Int) : (lay l).all (·.oneCell') = true := by
  rw [Array.all_eq_true_iff_forall_mem]; intro v hv; simp [lay] at hv; obtain ⟨x, _, rfl⟩ := hv; rfl
theorem lay_cell {w : World} {g : Nat} {t : TypeId} {l : List Int} (h : w.heap[g]? = some (.cells (lay l) t (0, 0))) (i : Nat) (hi : i < l.length) : w.cell? ⟨g, i, none⟩ = some (.int .i64 (gi l i)) :=
  (blk_cell h i).trans (lay_get l i hi)
theorem lay_put {w : World} {g : Nat} {t : TypeId} {l : List Int} (h : w.heap[g]? = some (.cells (lay l) t (0, 0))) (i : Nat) (x : Int) : (w.setCell ⟨g, i, none⟩ (.int .i64 x)).heap[g]? = some (.cells (lay (l.set i x)) t (0, 0)) := by
  rw [← lay_set]; exact blk_set h i _
theorem blk_farG {w : World} {g G i : Nat} {t : TypeId} {cs : Array Value} (h : w.heap[g]? = some (.cells cs t (0, 0))) (hp : g ≠ G) (u : Value) : (w.setCell ⟨G, i, none⟩ u).heap[g]? = some (.cells cs t (0, 0)) :=
  blk_far (p := ⟨G, i, none⟩) h hp u
theorem info67 (l : List Int) (hl : l.length = 12) : (Try.prog.info? 67).map (·.size) = some (lay l).size := by
  rw [lay_size, hl]; kernel_rfl
/-- The numbers of a layout turned round along axis m. -/
def flipL (l : List Int) (m : Nat) : List Int := if 1 < gi l (2 + m) then (l.set 0 (wrap64 (gi l 0 + wrap64 (gi l (7 + m) * wrap64 (gi l (2 + m) - 1))))).set (7 + m) (wrap64 (-(gi l (7 + m)))) else l
end Go.Proofs.Ytipjhbngbaifeaa.PA

namespace Go.Proofs.Ytipjhbngbaifeaa.PA
open Go.RowKit Go.Proofs.YtipjhbngbaifeaaW.PrintWords Go.Proofs.YtipjhbngbaifeaaW.PrintLast Go.Proofs.YtipjhbngbaifeaaW.PrintMore
set_option linter.unusedVariables false
set_option linter.unusedSimpArgs false
def slices_Clone_int_int.f (l0 : List Int) : Option (List Int) := if l0.length < 17592186044416 then some l0 else none
set_option maxHeartbeats 1000000 in
set_option maxRecDepth 100000 in
theorem slices_Clone_int_int.calls (A0 : Option Addr) (c0 : Nat) (l0 : List Int) (r : List Int) (w : World) (hr0 : Kd.C (Kd.int .i64) w A0 l0.length l0) (hc0 : l0.length ≤ c0) (h : slices_Clone_int_int.f l0 = some r) :
    Calls Try.prog 57 #[.slice A0 l0.length c0] w fun e w' => ∃ v0_ : Value, e = .returned (v0_) ∧ Kd.R (Kd.int .i64) 3 w' w.heap.size (fun _ => True) v0_ r ∧ Below w.heap.size w w' := by
  have HR0 := Aside0.mk hr0
  have HC0 := Aside0.mk hc0
  clear hr0 hc0
  have HB := Aside0.mk (Below.refl w.heap.size w)
  unfold slices_Clone_int_int.f at h
  by_cases c2 : l0.length < 17592186044416
  · rw [if_pos c2] at h
    obtain rfl := Option.some.inj h
    clear h
    have LM := Aside0.mk c2
    clear c2
    cases A0 with
    | none =>
      have hl : l0 = [] := by
        rcases Nat.eq_zero_or_pos l0.length with e | e
        · exact List.eq_nil_of_length_eq_zero e
        · obtain ⟨ad, e, _⟩ := HR0.out.2.2 e; cases e
      have hnil := fun (W : World) (n c : Nat) => Lib.run_eql_slice_nil (P := Try.prog) W 23 3 none n c 0 0 Try.underlying23
      go_enter Try.func57, Try.ntmps57
      go_wp2
      go_ret
      exact ⟨_, rfl, by rw [hl]; exact Kd.R_nil _ _ _ _ _, HB.out⟩
    | some ad =>
      have hnil := fun (W : World) (n c : Nat) => Lib.run_eql_slice_nil (P := Try.prog) W 23 3 (some ad) n c 0 0 Try.underlying23
      go_enter Try.func57, Try.ntmps57
      go_wp2_with (first | ((with_reducible refine gate_dst (N := 5) rfl ?_); refine Kd.R_lit (Kd.int .i64) _ 3 ?hg (N := 5) ?hd (xs := ([] : List Int)) (inner := []) (ok := fun _ => True) (okp := fun _ => True) ?hr ?hp (fun _ hk => hk) trivial (Below.refl _ _) (Nat.le_refl _) (by simp) ?_; (case hd => rfl); (case hg => rfl); (case hr => first | (go_simp; done) | (go_simp; rfl)); (case hp => exact (Reps.none _ _)); intro v102 w3 ho4 hb hg_ hnew_; clear hg_ hnew_; have n0_ := Aside0.mk (Kd.R_lower ho4 (below_size (by repeat (first | (with_reducible first | exact HB.out | apply below_alloc | apply pw_below_drewN | apply below_drew1) | exact HB.out)))); have n1_ := Aside0.mk (below_step (by repeat (first | (with_reducible first | exact HB.out | apply below_alloc | apply pw_below_drewN | apply below_drew1) | exact HB.out)) hb); clear HB; have HO103 := n0_; have HB := n1_; clear n0_ n1_; clear hb ho4) | ((with_reducible refine gate_builtin (b := .append) (xs := #[.tmp 5, .tmp 6]) rfl ?_); at_builtin; refine Kd.R_append_rows (Kd.int .i64) (w0 := w) w.heap.size rfl (.tmp 5) (.tmp 6) 23 3 (.int .i64 0) 8 rfl Try.underlying23 info3 rfl (by decide) (by omega) v102 ([] : List Int) l0 _ _ _ (fun _ => True) (fun _ => False) rfl rfl ?aO ?aR (fun _ _ h => h) (fun _ h => h.elim) ?aF ?aB ?aS ?aL ?_; (case aR => repeat (first | exact (Kd.C_below HR0.out HB.out) | (with_reducible refine Kd.C_alloc ?_ _) | (with_reducible refine Kd.C_drewN ?_ _) | (with_reducible refine Kd.C_drew ?_))); (case aB => exact (by repeat (first | (with_reducible first | exact HB.out | apply below_alloc | apply pw_below_drewN | apply below_drew1) | exact HB.out))); (case aF => exact (fun _ _ => trivial)); (case aO => exact (by (with_reducible repeat (first | apply Kd.R_alloc | apply Kd.R_drewN | apply Kd.R_drew)); exact HO103.out)); (case aS => exact (below_size (by repeat (first | (with_reducible first | exact HB.out | apply below_alloc | apply pw_below_drewN | apply below_drew1) | exact HB.out)))); (case aL => have := LM.out; simp only [List.length_nil]; omega); intro v105 w5 ho hb hg hat; rw [List.nil_append] at ho; have n0_ := Aside0.mk (hb); have n1_ := Aside0.mk (ho); clear HB; clear HO103; have HB := n0_; have HO106 := n1_; clear n0_ n1_; clear ho hb hg hat))
      go_ret
      exact ⟨_, rfl, HO106.out, HB.out⟩
  · rw [if_neg c2] at h; cases h
end Go.Proofs.Ytipjhbngbaifeaa.PA

namespace Go.Proofs.Ytipjhbngbaifeaa.PA
set_option linter.unusedVariables false
set_option linter.unusedSimpArgs false
open Go.RowKit Go.Proofs.YtipjhbngbaifeaaW.PrintWords Go.Proofs.YtipjhbngbaifeaaW.PrintLast Go.Proofs.YtipjhbngbaifeaaW.PrintMore
theorem eqItems_run (W : World) (d : Nat) (xs ys : List Int) (n : Nat) (hx : xs.length = n) (hy : ys.length = n) : ∀ is : List Nat, (∀ i ∈ is, i < n) →
    (Op.eqItems (d + 1) 3 1 (lay xs) (lay ys) is).run Try.prog W = .ok (is.all fun i => gi xs i == gi ys i) W
  | [], _ => by simp [Op.eqItems]
  | i :: is, h => by
    have hi : i < n := h i (by simp)
    have px : (part 3 (lay xs) (i * 1)).run Try.prog W = .ok (.int .i64 (gi xs i)) W := by
      have := lay_get xs i (by omega)
      simp [part, isAgg, run_underlying Try.underlying3, this]
    have py : (part 3 (lay ys) (i * 1)).run Try.prog W = .ok (.int .i64 (gi ys i)) W := by
      have := lay_get ys i (by omega)
      simp [part, isAgg, run_underlying Try.underlying3, this]
    have ih := eqItems_run W d xs ys n hx hy is (fun j hj => h j (by simp [hj]))
    have pe : (Op.equalIn (d + 1) 3 (.int .i64 (gi xs i)) (.int .i64 (gi ys i))).run Try.prog W = .ok (gi xs i == gi ys i) W := by
      rw [run_equalIn_int W d 3 .i64 .i64 _ _ Try.underlying3]
    simp only [Op.eqItems, Sem.run_bind, px, py, pe, Result.andThen_ok, List.all_cons]
    cases hb : (gi xs i == gi ys i)
    · simp
    · simp only [Bool.not_true, Bool.false_eq_true, if_false, Bool.true_and]; exact ih
theorem list5 (xs ys : List Int) (hx : xs.length = 5) (hy : ys.length = 5) : ((List.range 5).all fun i => gi xs i == gi ys i) = (xs == ys) := by
  match xs, hx, ys, hy with
  | [a, b, c, d, e], _, [a', b', c', d', e'], _ => simp [gi, List.range, List.range.loop]
theorem eq_arr (W : World) (d : Nat) (xs ys : List Int) (hx : xs.length = 5) (hy : ys.length = 5) : (Op.equalIn (d + 2) 65 (.agg (lay xs)) (.agg (lay ys))).run Try.prog W = .ok (xs == ys) W := by
  obtain ⟨i, hi, hz⟩ := Option.map_eq_some_iff.1 info3
  rw [run_equalIn_array W (d + 1) (lay xs) (lay ys) Try.underlying65 hi, show Try.prog.cellsOf 3 = 1 by kernel_rfl]
  rw [eqItems_run W d xs ys 5 hx hy _ (by simp), list5 xs ys hx hy]
theorem part_arr (W : World) (l : List Int) (hl : l.length = 12) (o : Nat) (ho : o + 5 ≤ 12) : (part 65 (lay l) o).run Try.prog W = .ok (.agg (lay ((l.drop o).take 5))) W := by
  have he : (lay l).extract o (o + 5) = lay ((l.drop o).take 5) := by
    apply Array.ext_getElem?; intro j
    simp [lay, List.getElem?_take, List.getElem?_drop]
  simp [part, isAgg, run_underlying Try.underlying65, he]
theorem part_int (W : World) (l : List Int) (o : Nat) (ho : o < l.length) : (part 3 (lay l) o).run Try.prog W = .ok (.int .i64 (gi l o)) W := by
  have := lay_get l o ho
  simp [part, isAgg, run_underlying Try.underlying3, this]
theorem list12 (l m : List Int) (hl : l.length = 12) (hm : m.length = 12) :
    ((gi l 0 == gi m 0) && ((gi l 1 == gi m 1) && (((l.drop 2).take 5 == (m.drop 2).take 5) && ((l.drop 7).take 5 == (m.drop 7).take 5)))) = (l == m) := by
  match l, hl, m, hm with
  | [a0, a1, a2, a3, a4, a5, a6, a7, a8, a9, a10, a11], _, [b0, b1, b2, b3, b4, b5, b6, b7, b8, b9, b10, b11], _ => simp [gi, Bool.and_assoc]
/-- Two layouts are compared number by number. -/
theorem eq_lay (l m : List Int) (hl : l.length = 12) (hm : m.length = 12) (W : World) : (Op.equalIn 10000 67 (.agg (lay l)) (.agg (lay m))).run Try.prog W = .ok (l == m) W := by
  rw [← list12 l m hl hm]
  refine eqA_of Try.underlying67 (by kernel_rfl) ?_
  refine eqf_cons (by rfl) (part_int W l 0 (by omega)) (part_int W m 0 (by omega)) (run_equalIn_int W _ 3 .i64 .i64 _ _ Try.underlying3) ?_
  refine eqf_cons (by rfl) (part_int W l 1 (by omega)) (part_int W m 1 (by omega)) (run_equalIn_int W _ 3 .i64 .i64 _ _ Try.underlying3) ?_
  refine eqf_cons (by rfl) (part_arr W l hl 2 (by omega)) (part_arr W m hm 2 (by omega)) (eq_arr W _ _ _ (by simp; omega) (by simp; omega)) ?_
  refine eqf_last (by rfl) (part_arr W l hl 7 (by omega)) (part_arr W m hm 7 (by omega)) (eq_arr W _ _ _ (by simp; omega) (by simp; omega))
end Go.Proofs.Ytipjhbngbaifeaa.PA

namespace Go.Proofs.Ytipjhbngbaifeaa.PA
open Go.RowKit Go.Proofs.YtipjhbngbaifeaaW.PrintWords Go.Proofs.YtipjhbngbaifeaaW.PrintLast Go.Proofs.YtipjhbngbaifeaaW.PrintMore
set_option linter.unusedVariables false
set_option linter.unusedSimpArgs false
theorem slice_arr (a : Addr) (r : Nat) (h : r ≤ 5) (W : World) : (Instr.sliceAt 65 (.pointer (some a)) none (some (.int .i64 (r : Int))) none).run Try.prog W = .ok (.slice (some a) r 5) W := by
  have hal : Try.prog.arrayLen 65 = 5 := by kernel_rfl
  have hel : Try.prog.elem 65 = 3 := by kernel_rfl
  have := run_sliceAt_array_h (P := Try.prog) (w := W) 65 a (by kernel_rfl) .i64 (r : Int) (by omega) (by rw [hal]; omega)
  rw [hal, hel] at this
  obtain ⟨i, hi, hz⟩ := Option.map_eq_some_iff.1 info3
  rw [this]
  simp [sizeOf, typeInfo, hi, slicedAt, Addr.add]
theorem clone_at (A0 : Option Addr) (n c0 : Nat) (l0 : List Int) (hn : l0.length = n) (w : World) (hr0 : Kd.C (Kd.int .i64) w A0 l0.length l0) (hc0 : n ≤ c0) (hb : n < 17592186044416) :
    Calls Try.prog 57 #[.slice A0 n c0] w fun e w' => ∃ v0_ : Value, e = .returned (v0_) ∧ Kd.R (Kd.int .i64) 3 w' w.heap.size (fun _ => True) v0_ l0 ∧ Below w.heap.size w w' := by
  subst hn
  exact slices_Clone_int_int.calls A0 c0 l0 l0 w hr0 hc0 (by simp [slices_Clone_int_int.f, hb])
theorem lay_reads {w : World} {g : Nat} {t : TypeId} {l : List Int} (h : w.heap[g]? = some (.cells (lay l) t (0, 0))) (o r : Nat) (hr : o + r ≤ l.length) (hm : l.length ≤ 9223372036854775807) :
    Kd.C (Kd.int .i64) w (some ⟨g, o, none⟩) ((l.drop o).take r).length ((l.drop o).take r) := by
  have hlen : ((l.drop o).take r).length = r := by simp; omega
  refine Kd.C_of_reads (d := (0 : Int)) (h1 := fun _ => rfl) ⟨rfl, by omega, fun _ => ⟨_, rfl, fun j hj => ?_⟩⟩
  have ha : (⟨g, o, none⟩ : Addr).add j = ⟨g, o + j, none⟩ := by unfold Addr.add; split <;> simp_all
  rw [ha, lay_cell h (o + j) (by omega)]
  simp only [gi, List.getD_eq_getElem?_getD, List.getElem?_take, List.getElem?_drop]
  rw [if_pos (by omega)]
/-- What the first statement of 'view' leaves: the view's block and its two rows. -/
def ViewMade (w : World) (l l2 : List Int) (r g1 g2 g3 : Nat) (v : Value) (W : World) : Prop :=
  ∃ (G : Nat) (Aa Ab : Option Addr) (ca cb : Nat), v = .pointer (some ⟨G, 0, none⟩) ∧ W.heap[G]? = some (.cells #[.int .i64 (gi l 0), .slice Aa r ca, .slice Ab r cb] 33 (0, 0)) ∧ g3 < G ∧
    W.heap[g1]? = some (.cells (lay l) 67 (0, 0)) ∧ W.heap[g2]? = some (.cells (lay l2) 67 (0, 0)) ∧ W.heap[g3]? = some (.cells #[.int .i64 0, .slice none 0 0, .slice none 0 0] 33 (0, 0)) ∧
    Kd.R (Kd.int .i64) 3 W w.heap.size (fun k_ => some k_ ≠ (Value.slice Ab r cb).ownBlock) (.slice Aa r ca) ((l.drop 2).take r) ∧ Kd.R (Kd.int .i64) 3 W w.heap.size (fun k_ => some k_ ≠ (Value.slice Aa r ca).ownBlock) (.slice Ab r cb) ((l.drop 7).take r) ∧ Below w.heap.size w W
theorem R_setV {w : World} {base g : Nat} {ok : Nat → Prop} {v : Value} {xs : List Int} {cells : Array Value} (h : (Kd.int .i64).R 3 w base ok v xs) (hb : w.heap[g]? = some (.cells cells 33 (0, 0))) (j : Nat) (u : Value) : (Kd.int .i64).R 3 (w.setCell ⟨g, j, none⟩ u) base ok v xs :=
  Kd.R_set h hb (by intro q hq; simp [Kd.int, Kd.scalar] at hq; omega) j u
theorem R_rowV {w : World} {base g : Nat} {ok : Nat → Prop} {v : Value} {xs : List Int} {cells : Array Value} (h : (Kd.int .i64).R 3 w base ok v xs) (hb : w.heap[g]? = some (.cells cells 33 (0, 0))) (cs : Array Value) : (Kd.int .i64).R 3 (w.setRow g cs) base ok v xs :=
  Kd.R_mono (Kd.R_step (Kd.R_types h hb (by intro q hq; simp [Kd.int, Kd.scalar] at hq; omega)) (fun k hk _ => setRow_other w g k cs hk.2)) (fun _ hk => hk.1)
theorem vmA {w W : World} {l l2 : List Int} {r g1 g2 g3 : Nat} {Aa Ab : Option Addr} {ca cb : Nat} (h1 : W.heap[g1]? = some (.cells (lay l) 67 (0, 0))) (h2 : W.heap[g2]? = some (.cells (lay l2) 67 (0, 0)))
    (h3 : W.heap[g3]? = some (.cells #[.int .i64 0, .slice none 0 0, .slice none 0 0] 33 (0, 0)))
    (R1 : Kd.R (Kd.int .i64) 3 W w.heap.size (fun k_ => True ∧ some k_ ≠ (Value.slice Ab r cb).ownBlock) (.slice Aa r ca) ((l.drop 2).take r)) (R2 : Kd.R (Kd.int .i64) 3 W w.heap.size (fun k_ => True ∧ some k_ ≠ (Value.slice Aa r ca).ownBlock) (.slice Ab r cb) ((l.drop 7).take r)) (hW : Below w.heap.size w W) :
    ViewMade w l l2 r g1 g2 g3 (.pointer (some ⟨W.heap.size, 0, none⟩)) (W.alloc (.cells #[.int .i64 (gi l 0), .slice Aa r ca, .slice Ab r cb] 33)) :=
  ⟨_, Aa, Ab, ca, cb, rfl, blk_new _ _, blk_lt h3, blk_alloc h1 _, blk_alloc h2 _, blk_alloc h3 _, Kd.R_mono (Kd.R_alloc R1 _) (fun _ h => h.2), Kd.R_mono (Kd.R_alloc R2 _) (fun _ h => h.2), below_alloc hW _⟩
theorem vmB {w W : World} {l l2 : List Int} {r g1 g2 g3 G : Nat} {Aa Ab : Option Addr} {ca cb : Nat} (hG : W.heap[G]? = some (.cells #[.int .i64 0, .slice none 0 0, .slice none 0 0] 33 (0, 0))) (n1 : g1 ≠ G) (n2 : g2 ≠ G) (n3 : g3 < G) (hge : w.heap.size ≤ G)
    (h1 : W.heap[g1]? = some (.cells (lay l) 67 (0, 0))) (h2 : W.heap[g2]? = some (.cells (lay l2) 67 (0, 0)))
    (h3 : W.heap[g3]? = some (.cells #[.int .i64 0, .slice none 0 0, .slice none 0 0] 33 (0, 0)))
    (R1 : Kd.R (Kd.int .i64) 3 W w.heap.size (fun k_ => True ∧ some k_ ≠ (Value.slice Ab r cb).ownBlock) (.slice Aa r ca) ((l.drop 2).take r)) (R2 : Kd.R (Kd.int .i64) 3 W w.heap.size (fun k_ => True ∧ some k_ ≠ (Value.slice Aa r ca).ownBlock) (.slice Ab r cb) ((l.drop 7).take r)) (hW : Below w.heap.size w W) :
    ViewMade w l l2 r g1 g2 g3 (.pointer (some ⟨G, 0, none⟩)) (((W.setCell ⟨G, 0, none⟩ (.int .i64 (gi l 0))).setCell ⟨G, 1, none⟩ (.slice Aa r ca)).setCell ⟨G, 2, none⟩ (.slice Ab r cb)) := by
  have s0 := blk_set hG 0 (.int .i64 (gi l 0))
  have s1 := blk_set s0 1 (.slice Aa r ca)
  have s2 := blk_set s1 2 (.slice Ab r cb)
  have n3' : g3 ≠ G := by omega
  refine ⟨G, Aa, Ab, ca, cb, rfl, by simpa using s2, n3, blk_farG (blk_farG (blk_farG h1 n1 _) n1 _) n1 _, blk_farG (blk_farG (blk_farG h2 n2 _) n2 _) n2 _, blk_farG (blk_farG (blk_farG h3 n3' _) n3' _) n3' _, Kd.R_mono (R_setV (R_setV (R_setV R1 hG 0 _) s0 1 _) s1 2 _) (fun _ h => h.2), Kd.R_mono (R_setV (R_setV (R_setV R2 hG 0 _) s0 1 _) s1 2 _) (fun _ h => h.2), below_set (below_set (below_set hW hge) hge) hge⟩
set_option maxHeartbeats 1000000 in
set_option maxRecDepth 100000 in
theorem view_same (l : List Int) (r : Nat) (hl : l.length = 12) (hr : gi l 1 = (r : Int)) (h5 : r ≤ 5) (w : World) :
    Calls Try.prog 72 #[.agg (lay l), .agg (lay l)] w fun e w' => ∃ v1_ v2_ : Value, e = .returned (.tuple #[.agg #[.int .i64 (gi l 0), v1_, v2_], .bool true]) ∧ Kd.R (Kd.int .i64) 3 w' w.heap.size (fun k_ => some k_ ≠ (v2_ : Value).ownBlock) v1_ ((l.drop 2).take r) ∧ Kd.R (Kd.int .i64) 3 w' w.heap.size (fun k_ => some k_ ≠ (v1_ : Value).ownBlock) v2_ ((l.drop 7).take r) ∧ Below w.heap.size w w' := by
  have HL := Aside0.mk hl
  have HR := Aside0.mk hr
  clear hl hr
  go_enter Try.func72, Try.ntmps72
  go_upto_region 1 with (first | ((with_reducible refine gate_dst (N := 2) rfl ?_); refine box_event ?hg (N := 2) ?hd (cs := lay l) (t := 67) ?hr ?_; (case hd => rfl); (case hg => rfl); (case hr => first | (go_simp; done) | (go_simp; rfl)); intro g1 hg1 w1 hb1 hB1; have HB1 := Aside0.mk hb1; have HW := Aside0.mk hB1; have HG1 := Aside0.mk hg1; clear hb1 hB1 hg1) | ((with_reducible refine gate_dst (N := 3) rfl ?_); refine box_event ?hg (N := 3) ?hd (cs := lay l) (t := 67) ?hr ?_; (case hd => rfl); (case hg => rfl); (case hr => first | (go_simp; done) | (go_simp; rfl)); intro g2 hg2 w2 hb2 hB2; have HB2 := Aside0.mk hb2; have nw := Aside0.mk (below_step HW.out hB2); have HG2 := Aside0.mk (show g1 < g2 by have := blk_lt HB1.out; omega); have n1 := Aside0.mk (blk_below HB1.out hB2); clear HB1 HW; have HB1 := n1; have HW := nw; clear n1 nw; clear hb2 hB2 hg2) | ((with_reducible refine gate_dst (N := 4) rfl ?_); refine box_event ?hg (N := 4) ?hd (cs := #[.int .i64 0, .slice none 0 0, .slice none 0 0]) (t := 33) ?hr ?_; (case hd => rfl); (case hg => rfl); (case hr => first | (go_simp; done) | (go_simp; rfl)); intro g3 hg3 w3 hb3 hB3; have HB3 := Aside0.mk hb3; have nw := Aside0.mk (below_step HW.out hB3); have HG3 := Aside0.mk (show g2 < g3 by have := blk_lt HB2.out; omega); have n1 := Aside0.mk (blk_below HB1.out hB3); have n2 := Aside0.mk (blk_below HB2.out hB3); clear HB1 HB2 HW; have HB1 := n1; have HB2 := n2; have HW := nw; clear n1 n2 nw; clear hb3 hB3 hg3))
  have hs1 := slice_arr ⟨g1, 2, none⟩ r h5
  have hs2 := slice_arr ⟨g1, 7, none⟩ r h5
  have hc0 := lay_cell HB1.out 0 (by have := HL.out; omega)
  have hc1 : w3.cell? ⟨g1, 1, none⟩ = some (.int .i64 (r : Int)) := by rw [← HR.out]; exact lay_cell HB1.out 1 (by have := HL.out; omega)
  have HN1_3 := Aside0.mk (Nat.ne_of_lt (blk_lt HB1.out))
  have HN2_3 := Aside0.mk (Nat.ne_of_lt (blk_lt HB2.out))
  have HN3_3 := Aside0.mk (Nat.ne_of_lt (blk_lt HB3.out))
  have HLT3 := Aside0.mk (blk_lt HB3.out)
  have HGE3 := Aside0.mk (below_size HW.out)
  go_cut [6] (fun v W => ViewMade w l l r g1 g2 g3 v W)
  case first =>
    go_region_held3 (fun w' => w'.cell? ⟨g1, 0, none⟩ = some (.int .i64 (gi l 0)) ∧ w'.cell? ⟨g1, 1, none⟩ = some (.int .i64 (r : Int))) (exact ⟨lay_cell (t := 67) (by (with_reducible repeat (first | refine blk_drew ?_ | refine blk_alloc ?_ _ | refine blk_farG ?_ HN1_5.out _ | refine blk_farG ?_ HN2_5.out _ | refine blk_farG ?_ HN3_5.out _ | refine blk_farG ?_ HN1_3.out _ | refine blk_farG ?_ HN2_3.out _ | refine blk_farG ?_ HN3_3.out _)); exact HB1.out) 0 (by have := HL.out; omega), by rw [← HR.out]; exact lay_cell (t := 67) (by (with_reducible repeat (first | refine blk_drew ?_ | refine blk_alloc ?_ _ | refine blk_farG ?_ HN1_5.out _ | refine blk_farG ?_ HN2_5.out _ | refine blk_farG ?_ HN3_5.out _ | refine blk_farG ?_ HN1_3.out _ | refine blk_farG ?_ HN2_3.out _ | refine blk_farG ?_ HN3_3.out _)); exact HB1.out) 1 (by have := HL.out; omega)⟩) (first | (go_at_call_of 57 (Value.slice (some { block := g1, off := 2 }) r 5); refine (clone_at (some ⟨g1, 2, none⟩) r 5 ((l.drop 2).take r) (by have := HL.out; simp; omega) _ (lay_reads (t := 67) (by (with_reducible repeat (first | refine blk_drew ?_ | refine blk_alloc ?_ _ | refine blk_farG ?_ HN1_5.out _ | refine blk_farG ?_ HN2_5.out _ | refine blk_farG ?_ HN3_5.out _ | refine blk_farG ?_ HN1_3.out _ | refine blk_farG ?_ HN2_3.out _ | refine blk_farG ?_ HN3_3.out _)); exact HB1.out) 2 r (by have := HL.out; omega) (by have := HL.out; omega)) h5 (by omega)).mono ?_; rintro e w5 ⟨v1, rfl, ho1, hb5⟩; (try (have hnw : Aside0 (w5.heap[w3.heap.size]? = some (.cells #[.int .i64 0, .slice none 0 0, .slice none 0 0] 33 (0, 0))) := ⟨blk_below (blk_new w3.drew (.cells #[.int .i64 0, .slice none 0 0, .slice none 0 0] 33)) hb5⟩)); obtain ⟨Aa, ca, rfl⟩ := Kd.R_slice ho1; have hla : ((l.drop 2).take r).length = r := (by have := HL.out; simp; omega); rw [hla] at ho1 ⊢; have HO1 := Aside0.mk (Kd.R_lower ho1 (below_size (by repeat (first | (with_reducible first | exact HW.out | apply below_alloc | apply below_drew1) | exact HW.out)))); clear ho1 hla; have n0 := Aside0.mk (blk_below (g := g1) (o := .cells (lay l) 67 (0, 0)) (by (with_reducible repeat (first | refine blk_drew ?_ | refine blk_alloc ?_ _ | refine blk_farG ?_ HN1_5.out _ | refine blk_farG ?_ HN2_5.out _ | refine blk_farG ?_ HN3_5.out _ | refine blk_farG ?_ HN1_3.out _ | refine blk_farG ?_ HN2_3.out _ | refine blk_farG ?_ HN3_3.out _)); exact HB1.out) hb5); have n1 := Aside0.mk (blk_below (g := g2) (o := .cells (lay l) 67 (0, 0)) (by (with_reducible repeat (first | refine blk_drew ?_ | refine blk_alloc ?_ _ | refine blk_farG ?_ HN1_5.out _ | refine blk_farG ?_ HN2_5.out _ | refine blk_farG ?_ HN3_5.out _ | refine blk_farG ?_ HN1_3.out _ | refine blk_farG ?_ HN2_3.out _ | refine blk_farG ?_ HN3_3.out _)); exact HB2.out) hb5); have n2 := Aside0.mk (blk_below (g := g3) (o := .cells #[.int .i64 0, .slice none 0 0, .slice none 0 0] 33 (0, 0)) (by (with_reducible repeat (first | refine blk_drew ?_ | refine blk_alloc ?_ _ | refine blk_farG ?_ HN1_5.out _ | refine blk_farG ?_ HN2_5.out _ | refine blk_farG ?_ HN3_5.out _ | refine blk_farG ?_ HN1_3.out _ | refine blk_farG ?_ HN2_3.out _ | refine blk_farG ?_ HN3_3.out _)); exact HB3.out) hb5); have nw := Aside0.mk (below_step (by repeat (first | (with_reducible first | exact HW.out | apply below_alloc | apply below_drew1) | exact HW.out)) hb5); clear HB1 HB2 HB3 HW; have HB1 := n0; have HB2 := n1; have HB3 := n2; have HW := nw; clear nw n0 n1 n2; have HN1_5 := Aside0.mk (Nat.ne_of_lt (blk_lt HB1.out)); have HN2_5 := Aside0.mk (Nat.ne_of_lt (blk_lt HB2.out)); have HN3_5 := Aside0.mk (Nat.ne_of_lt (blk_lt HB3.out)); have HLT5 := Aside0.mk (blk_lt HB3.out); have HGE5 := Aside0.mk (below_size HW.out); clear hb5) | (go_at_call_of 57 (Value.slice (some { block := g1, off := 7 }) r 5); refine (clone_at (some ⟨g1, 7, none⟩) r 5 ((l.drop 7).take r) (by have := HL.out; simp; omega) _ (lay_reads (t := 67) (by (with_reducible repeat (first | refine blk_drew ?_ | refine blk_alloc ?_ _ | refine blk_farG ?_ HN1_5.out _ | refine blk_farG ?_ HN2_5.out _ | refine blk_farG ?_ HN3_5.out _ | refine blk_farG ?_ HN1_3.out _ | refine blk_farG ?_ HN2_3.out _ | refine blk_farG ?_ HN3_3.out _)); exact HB1.out) 7 r (by have := HL.out; omega) (by have := HL.out; omega)) h5 (by omega)).mono ?_; rintro e w6 ⟨v2, rfl, ho2, hb6⟩; (try (have hnw : Aside0 (w6.heap[w5.heap.size]? = some (.cells #[.int .i64 0, .slice none 0 0, .slice none 0 0] 33 (0, 0))) := ⟨blk_below (blk_new w5 (.cells #[.int .i64 0, .slice none 0 0, .slice none 0 0] 33)) hb6⟩; have hx0 : _ = some (Value.int .i64 0) := (blk_cell hnw.out 0).trans rfl; have hx1 : _ = some (Value.slice none 0 0) := (blk_cell hnw.out 1).trans rfl; have hx2 : _ = some (Value.slice none 0 0) := (blk_cell hnw.out 2).trans rfl; have hy0 := blk_frozen hnw.out 0; have hy1 := blk_frozen hnw.out 1; have hy2 := blk_frozen hnw.out 2)); (try (have hnx : Aside0 (w6.heap[w3.heap.size]? = some (.cells #[.int .i64 0, .slice none 0 0, .slice none 0 0] 33 (0, 0))) := ⟨blk_below hnw.out hb6⟩; clear hnw; have hnw := hnx; clear hnx; have hx0 : _ = some (Value.int .i64 0) := (blk_cell hnw.out 0).trans rfl; have hx1 : _ = some (Value.slice none 0 0) := (blk_cell hnw.out 1).trans rfl; have hx2 : _ = some (Value.slice none 0 0) := (blk_cell hnw.out 2).trans rfl; have hy0 := blk_frozen hnw.out 0; have hy1 := blk_frozen hnw.out 1; have hy2 := blk_frozen hnw.out 2)); obtain ⟨Ab, cb, rfl⟩ := Kd.R_slice ho2; have hlb : ((l.drop 7).take r).length = r := (by have := HL.out; simp; omega); rw [hlb] at ho2 ⊢; have HO1n := Aside0.mk (Kd.R_elder' (by (with_reducible repeat (first | apply Kd.R_alloc | apply Kd.R_drewN | apply Kd.R_drew)); exact HO1.out) (Kd.R_base ho2) hb6); have HO2 := Aside0.mk (Kd.R_lower (Kd.R_new' ho2 (Kd.R_lt (by (with_reducible repeat (first | apply Kd.R_alloc | apply Kd.R_drewN | apply Kd.R_drew)); exact HO1.out))) (below_size (by repeat (first | (with_reducible first | exact HW.out | apply below_alloc | apply below_drew1) | exact HW.out)))); clear HO1; have HO1 := HO1n; clear HO1n ho2 hlb; have n0 := Aside0.mk (blk_below (g := g1) (o := .cells (lay l) 67 (0, 0)) (by (with_reducible repeat (first | refine blk_drew ?_ | refine blk_alloc ?_ _ | refine blk_farG ?_ HN1_5.out _ | refine blk_farG ?_ HN2_5.out _ | refine blk_farG ?_ HN3_5.out _ | refine blk_farG ?_ HN1_3.out _ | refine blk_farG ?_ HN2_3.out _ | refine blk_farG ?_ HN3_3.out _)); exact HB1.out) hb6); have n1 := Aside0.mk (blk_below (g := g2) (o := .cells (lay l) 67 (0, 0)) (by (with_reducible repeat (first | refine blk_drew ?_ | refine blk_alloc ?_ _ | refine blk_farG ?_ HN1_5.out _ | refine blk_farG ?_ HN2_5.out _ | refine blk_farG ?_ HN3_5.out _ | refine blk_farG ?_ HN1_3.out _ | refine blk_farG ?_ HN2_3.out _ | refine blk_farG ?_ HN3_3.out _)); exact HB2.out) hb6); have n2 := Aside0.mk (blk_below (g := g3) (o := .cells #[.int .i64 0, .slice none 0 0, .slice none 0 0] 33 (0, 0)) (by (with_reducible repeat (first | refine blk_drew ?_ | refine blk_alloc ?_ _ | refine blk_farG ?_ HN1_5.out _ | refine blk_farG ?_ HN2_5.out _ | refine blk_farG ?_ HN3_5.out _ | refine blk_farG ?_ HN1_3.out _ | refine blk_farG ?_ HN2_3.out _ | refine blk_farG ?_ HN3_3.out _)); exact HB3.out) hb6); have nw := Aside0.mk (below_step (by repeat (first | (with_reducible first | exact HW.out | apply below_alloc | apply below_drew1) | exact HW.out)) hb6); clear HB1 HB2 HB3 HW; have HB1 := n0; have HB2 := n1; have HB3 := n2; have HW := nw; clear nw n0 n1 n2; clear hb6))
    · go_wp2_with fail
      go_meet
      case rel => exact vmA HB1.out HB2.out HB3.out HO1.out HO2.out HW.out
    · go_wp2_with fail
      go_meet
      case rel => exact vmB hnw.out HN1_5.out HN2_5.out HLT5.out HGE5.out HB1.out HB2.out HB3.out HO1.out HO2.out HW.out
    · go_wp2_with fail
      go_meet
      case rel => exact vmB hnw.out HN1_3.out HN2_3.out HLT3.out HGE3.out HB1.out HB2.out HB3.out HO1.out HO2.out HW.out
  case rest =>
    obtain ⟨G, Aa, Ab, ca, cb, rfl, hG, hlt, k1, k2, k3, R1, R2, hW⟩ := hcut
    have KG := Aside0.mk hG
    have K1 := Aside0.mk k1
    have K2 := Aside0.mk k2
    have K3 := Aside0.mk k3
    have KR1 := Aside0.mk R1
    have KR2 := Aside0.mk R2
    have KW := Aside0.mk hW
    have KGE := Aside0.mk (show w.heap.size ≤ g3 by have := HG1.out; have := HG2.out; have := HG3.out; omega)
    clear hG k1 k2 k3 R1 R2 hW
    have hEq := eq_lay l l HL.out HL.out
    simp only [beq_self_eq_true] at hEq
    go_wp2_with (first | ((with_reducible refine gate_dst (N := 22) rfl ?_); refine wpList_load_row rfl 67 (.tmp 2) rfl g1 rfl 67 (lay _) (0, 0) _ K1.out Try.underlying67 rfl (info67 _ HL.out) ?_) | ((with_reducible refine gate_dst (N := 23) rfl ?_); refine wpList_load_row rfl 67 (.tmp 3) rfl g2 rfl 67 (lay _) (0, 0) _ K2.out Try.underlying67 rfl (info67 _ HL.out) ?_) | ((with_reducible refine gate_dst (N := 25) rfl ?_); refine wpList_load_row rfl 33 (.tmp 6) rfl G rfl 33 #[.int .i64 (gi l 0), .slice Aa r ca, .slice Ab r cb] (0, 0) _ KG.out Try.underlying33 rfl (by kernel_rfl) ?_) | ((with_reducible refine gate_store rfl ?_); refine wpList_store_row rfl 33 (.tmp 4) (.tmp 25) rfl g3 #[.int .i64 (gi l 0), .slice Aa r ca, .slice Ab r cb] rfl rfl 33 #[.int .i64 0, .slice none 0 0, .slice none 0 0] K3.out (by kernel_rfl) rfl (by simp [Value.oneCell']) ?_))
    refine bodyPost_ret (results_ct rfl _ _ g3 33 #[.int .i64 (gi l 0), .slice Aa r ca, .slice Ab r cb] (0, 0) _ rfl (setRow_heap _ g3 _ _ _ (0, 0) K3.out) Try.underlying33 rfl (by kernel_rfl)) rfl ?_
    exact ⟨_, _, rfl, R_rowV KR1.out K3.out _, R_rowV KR2.out K3.out _, below_setRow KW.out KGE.out _⟩
end Go.Proofs.Ytipjhbngbaifeaa.PA

-- By a program (prt.py, over the print of the kit), for this claim. Not trusted: Lean checks it.
namespace Go.Proofs.Ytipjhbngbaifeaa.PA
open Go.RowKit Go.Proofs.YtipjhbngbaifeaaW.PrintWords Go.Proofs.YtipjhbngbaifeaaW.PrintLast Go.Proofs.YtipjhbngbaifeaaW.PrintMore
attribute [local go_sem] max2_int min2_int max_two min_two max_three min_three max_four min_four   -- for this text's walks alone
set_option linter.unusedVariables false
set_option linter.unusedSimpArgs false

/-! ### laws_toArray: function 17 -/
def laws_toArray.f (k : Nat) (a0_0 : Bool) (l0_1 : List Int) (l0_2 : List Int) : Option (Bool × List Int × List Int) := (laws_toIntS.f k l0_1).bind fun t104 => ((laws_toIntS.f k l0_2).bind fun t107 => (some (a0_0, t104, t107)))
theorem laws_toArray.mono : ∀ a0 a1 a2 k, LeO (laws_toArray.f k a0 a1 a2) (laws_toArray.f (k + 1) a0 a1 a2) := by
  intro a0 a1 a2 k
  unfold laws_toArray.f
  repeat' first
      | (with_reducible exact laws_toIntS.mono _ _)
      | (with_reducible exact LeO.refl _)
      | (with_reducible exact LeO.none _)
      | (with_reducible refine LeO.ite ?_ ?_)
      | (with_reducible refine LeO.bind ?_ (fun _ => ?_))
      | exact laws_toIntS.mono _ _
      | exact LeO.none _
      | refine LeO.ite ?_ ?_
      | refine LeO.bind ?_ (fun _ => ?_)

end Go.Proofs.Ytipjhbngbaifeaa.PA

-- By a program (prt.py, over the print of the kit), for this claim. Not trusted: Lean checks it.
namespace Go.Proofs.Ytipjhbngbaifeaa.PA
open Go.RowKit Go.Proofs.YtipjhbngbaifeaaW.PrintWords Go.Proofs.YtipjhbngbaifeaaW.PrintLast Go.Proofs.YtipjhbngbaifeaaW.PrintMore
attribute [local go_sem] max2_int min2_int max_two min_two max_three min_three max_four min_four   -- for this text's walks alone
set_option linter.unusedVariables false
set_option linter.unusedSimpArgs false

/-! ### laws_eqArray: function 19 -/
def laws_eqArray.f (k : Nat) (a0_0 : Bool) (l0_1 : List Int) (l0_2 : List Int) (a1_0 : Bool) (l1_1 : List Int) (l1_2 : List Int) : Option (Bool) := if (a0_0 != a1_0) = true then (some false) else ((laws_eqIntS.f k l0_1 l1_1).bind fun t103 => (if t103 = true then ((laws_eqIntS.f k l0_2 l1_2).bind fun t104 => (if t104 = true then (some true) else (some false))) else (some false)))
theorem laws_eqArray.mono : ∀ a0 a1 a2 a3 a4 a5 k, LeO (laws_eqArray.f k a0 a1 a2 a3 a4 a5) (laws_eqArray.f (k + 1) a0 a1 a2 a3 a4 a5) := by
  intro a0 a1 a2 a3 a4 a5 k
  unfold laws_eqArray.f
  repeat' first
      | (with_reducible exact laws_eqIntS.mono _ _ _)
      | (with_reducible exact LeO.refl _)
      | (with_reducible exact LeO.none _)
      | (with_reducible refine LeO.ite ?_ ?_)
      | (with_reducible refine LeO.bind ?_ (fun _ => ?_))
      | exact laws_eqIntS.mono _ _ _
      | exact LeO.none _
      | refine LeO.ite ?_ ?_
      | refine LeO.bind ?_ (fun _ => ?_)

end Go.Proofs.Ytipjhbngbaifeaa.PA

-- By a program (prt.py, over the print of the kit), for this claim. Not trusted: Lean checks it.
namespace Go.Proofs.Ytipjhbngbaifeaa.PA
open Go.RowKit Go.Proofs.YtipjhbngbaifeaaW.PrintWords Go.Proofs.YtipjhbngbaifeaaW.PrintLast Go.Proofs.YtipjhbngbaifeaaW.PrintMore
attribute [local go_sem] max2_int min2_int max_two min_two max_three min_three max_four min_four   -- for this text's walks alone
set_option linter.unusedVariables false
set_option linter.unusedSimpArgs false

/-! ### laws_szArray: function 15 -/
def laws_szArray.f (a0_0 : Bool) (l0_1 : List Int) (l0_2 : List Int) (a1 : Int) : Option (Int) := (laws_szIntS.f l0_1 a1).bind fun t102 => (if t102 < 0 then (some (-1)) else ((laws_szIntS.f l0_2 t102).bind fun t103 => (if t103 < 0 then (some (-1)) else (some t103))))

end Go.Proofs.Ytipjhbngbaifeaa.PA

-- By a program (prt.py, over the print of the kit), for this claim. Not trusted: Lean checks it.
namespace Go.Proofs.Ytipjhbngbaifeaa.PA
open Go.RowKit Go.Proofs.YtipjhbngbaifeaaW.PrintWords Go.Proofs.YtipjhbngbaifeaaW.PrintLast Go.Proofs.YtipjhbngbaifeaaW.PrintMore
attribute [local go_sem] max2_int min2_int max_two min_two max_three min_three max_four min_four   -- for this text's walks alone
set_option linter.unusedVariables false
set_option linter.unusedSimpArgs false

/-! ### impl_within: function 54 -/
def impl_within.f (a0 : Int) (a1 : Int) (a2 : Int) : Option (Bool) := if a0 ≥ a1 then (some (decide (a0 ≤ a2))) else (some false)
set_option maxHeartbeats 8000000 in
set_option maxRecDepth 100000 in
theorem impl_within.calls (a0 : Int) (a1 : Int) (a2 : Int) (r : Bool) (w : World) (h : impl_within.f a0 a1 a2 = some r) :
    Calls Try.prog 54 #[.int .i64 a0, .int .i64 a1, .int .i64 a2] w fun e w' => e = .returned (.bool r) ∧ Drawn0 w w' := by
  have H : (if a0 ≥ a1 then (some (decide (a0 ≤ a2))) else (some false)) = some r := h
  clear h
  by_cases c4 : a0 ≥ a1
  · rw [if_pos c4] at H
    have c4b0 : decide (a1 ≤ a0) = true := decide_eq_true c4
    clear c4
    obtain rfl := Option.some.inj H
    go_enter Try.func54, Try.ntmps54
    go_wp2
    go_ret
    exact ⟨by first | rfl | (simp; done) | (simp [*]; done), by repeat (first | exact Drawn0.refl _ | apply Drawn0.step)⟩
  · rw [if_neg c4] at H
    have c4b0 : decide (a1 ≤ a0) = false := decide_eq_false c4
    clear c4
    obtain rfl := Option.some.inj H
    go_enter Try.func54, Try.ntmps54
    go_wp2
    go_ret
    exact ⟨by first | rfl | (simp; done) | (simp [*]; done), by repeat (first | exact Drawn0.refl _ | apply Drawn0.step)⟩

end Go.Proofs.Ytipjhbngbaifeaa.PA

-- By a program (prt.py, over the print of the kit), for this claim. Not trusted: Lean checks it.
namespace Go.Proofs.Ytipjhbngbaifeaa.PA
open Go.RowKit Go.Proofs.YtipjhbngbaifeaaW.PrintWords Go.Proofs.YtipjhbngbaifeaaW.PrintLast Go.Proofs.YtipjhbngbaifeaaW.PrintMore
attribute [local go_sem] max2_int min2_int max_two min_two max_three min_three max_four min_four   -- for this text's walks alone
set_option linter.unusedVariables false
set_option linter.unusedSimpArgs false

/-! ### impl_shapeOk: function 52 -/
def impl_shapeOk.l0 : Nat → Int → Int → List Int → Int → Int → Option (Int × Bool)
  | 0, _, _, _, _, _ => none
  | k + 1, x2, x4, x10, x11, x12 => if x12 < x11 then (if 0 ≤ x12 then (if x12 < (x10.length : Int) then ((impl_within.f (rd x10 x12) 0 10000).bind fun t102 => (if t102 = true then (if (rd x10 x12) > 0 then (if (wrap64 (x4 * (rd x10 x12))) > 10000 then (some (0, false)) else (impl_shapeOk.l0 k (wrap64 (x2 * (rd x10 x12))) (wrap64 (x4 * (rd x10 x12))) x10 x11 (wrap64 (x12 + 1)))) else (if x4 > 10000 then (some (0, false)) else (impl_shapeOk.l0 k (wrap64 (x2 * (rd x10 x12))) x4 x10 x11 (wrap64 (x12 + 1))))) else (some (0, false)))) else (none)) else (none)) else (some (x2, true))
def impl_shapeOk.f (k : Nat) (l0 : List Int) : Option (Int × Bool) := if (l0.length : Int) > 5 then (some (0, false)) else (impl_shapeOk.l0 k 1 1 l0 (l0.length : Int) 0)
theorem impl_shapeOk.mono_l : ∀ k, (∀ y0 y1 y2 y3 y4, LeO (impl_shapeOk.l0 k y0 y1 y2 y3 y4) (impl_shapeOk.l0 (k + 1) y0 y1 y2 y3 y4))
  | 0 => fun _ _ _ _ _ r h => by simp [impl_shapeOk.l0] at h
  | k + 1 => by
    have ih0 := impl_shapeOk.mono_l k
    · intro y0 y1 y2 y3 y4
      unfold impl_shapeOk.l0
      repeat' first
      | (with_reducible exact ih0 _ _ _ _ _)
      | (with_reducible exact LeO.refl _)
      | (with_reducible exact LeO.none _)
      | (with_reducible refine LeO.ite ?_ ?_)
      | (with_reducible refine LeO.bind ?_ (fun _ => ?_))
      | exact ih0 _ _ _ _ _
      | exact LeO.none _
      | refine LeO.ite ?_ ?_
      | refine LeO.bind ?_ (fun _ => ?_)
theorem impl_shapeOk.mono : ∀ a0 k, LeO (impl_shapeOk.f k a0) (impl_shapeOk.f (k + 1) a0) := by
  intro a0 k
  have ih0 := impl_shapeOk.mono_l k
  unfold impl_shapeOk.f
  repeat' first
      | (with_reducible exact ih0 _ _ _ _ _)
      | (with_reducible exact LeO.refl _)
      | (with_reducible exact LeO.none _)
      | (with_reducible refine LeO.ite ?_ ?_)
      | (with_reducible refine LeO.bind ?_ (fun _ => ?_))
      | exact ih0 _ _ _ _ _
      | exact LeO.none _
      | refine LeO.ite ?_ ?_
      | refine LeO.bind ?_ (fun _ => ?_)
set_option maxHeartbeats 8000000 in
set_option maxRecDepth 100000 in
theorem impl_shapeOk.calls (k : Nat) (A0 : Option Addr) (c0 : Nat) (l0 : List Int) (r1 : Int) (r2 : Bool) (w : World) (hr0 : Kd.C (Kd.int .i64) w A0 l0.length l0) (hc0 : l0.length ≤ c0) (h : impl_shapeOk.f k l0 = some (r1, r2)) :
    Calls Try.prog 52 #[.slice A0 l0.length c0] w fun e w' => e = .returned (.tuple #[.int .i64 r1, .bool r2]) ∧ Drawn0 w w' := by
  have HR0 := Aside0.mk hr0
  have HC0 := Aside0.mk hc0
  clear hr0 hc0
  have H : (if (l0.length : Int) > 5 then (some (0, false)) else (impl_shapeOk.l0 k 1 1 l0 (l0.length : Int) 0)) = some (r1, r2) := h
  clear h
  by_cases c2 : (l0.length : Int) > 5
  · rw [if_pos c2] at H
    have c2b0 : decide (5 < (l0.length : Int)) = true := decide_eq_true c2
    have c2b1 : decide (5 < l0.length) = true := decide_eq_true (by omega)
    clear c2
    simp only [Option.some.injEq, Prod.mk.injEq] at H
    obtain ⟨rfl, rfl⟩ := H
    go_enter Try.func52, Try.ntmps52
    go_wp2
    go_ret2
    exact ⟨by first | rfl | (simp; done) | (simp [*]; done), by repeat (first | exact Drawn0.refl _ | apply Drawn0.step)⟩
  · rw [if_neg c2] at H
    have c2b0 : decide (5 < (l0.length : Int)) = false := decide_eq_false c2
    have c2b1 : decide (5 < l0.length) = false := decide_eq_false (by omega)
    clear c2
    have H' := Aside0.mk H
    clear H
    go_enter Try.func52, Try.ntmps52
    go_wp2
    go_loopg [2, 4, 12] k (fun kq v2 v4 v12 w' => ∃ (x2_1 : Int) (x4_1 : Int) (x12_1 : Int), v2 = .int .i64 x2_1 ∧ v4 = .int .i64 x4_1 ∧ v12 = .int .i64 x12_1 ∧ Aside0 (impl_shapeOk.l0 kq x2_1 x4_1 l0 (l0.length : Int) x12_1 = some (r1, r2)) ∧ Aside0 (kq ≤ k) ∧ Drawn0 w w')
    case atStart => exact ⟨(1), (1), (0), (by first | rfl | (simp; done) | (simp [*]; done)), (by first | rfl | (simp; done) | (simp [*]; done)), (by first | rfl | (simp; done) | (simp [*]; done)), H', ⟨Nat.le_refl _⟩, by repeat (first | exact Drawn0.refl _ | apply Drawn0.step)⟩
    case round =>
      clear H'
      try clear c2
      try clear c2b0
      try clear c2b1
      try clear p2
      obtain ⟨x2_1, x4_1, x12_1, rfl, rfl, rfl, HA, HK1, ⟨m1, rfl⟩⟩ := hrel
      cases gk with
      | zero => exact absurd HA.out (by simp [impl_shapeOk.l0])
      | succ k1 =>
        have H := HA.out
        clear HA
        simp only [impl_shapeOk.l0] at H
        by_cases c3 : x12_1 < (l0.length : Int)
        · rw [if_pos c3] at H
          have c3b0 : decide (x12_1 < (l0.length : Int)) = true := decide_eq_true c3
          clear c3
          by_cases c4 : 0 ≤ x12_1
          · rw [if_pos c4] at H
            have c4b0 : decide (0 ≤ x12_1) = true := decide_eq_true c4
            clear c4
            by_cases c5 : x12_1 < (l0.length : Int)
            · rw [if_pos c5] at H
              have c5b0 : decide (x12_1 < (l0.length : Int)) = true := decide_eq_true c5
              clear c5
              replace H := Option.bind_eq_some_iff.mp H
              obtain ⟨t102, A60, H⟩ := H
              replace H : (if t102 = true then (if (rd l0 x12_1) > 0 then (if (wrap64 (x4_1 * (rd l0 x12_1))) > 10000 then (some (0, false)) else (impl_shapeOk.l0 k1 (wrap64 (x2_1 * (rd l0 x12_1))) (wrap64 (x4_1 * (rd l0 x12_1))) l0 (l0.length : Int) (wrap64 (x12_1 + 1)))) else (if x4_1 > 10000 then (some (0, false)) else (impl_shapeOk.l0 k1 (wrap64 (x2_1 * (rd l0 x12_1))) x4_1 l0 (l0.length : Int) (wrap64 (x12_1 + 1))))) else (some (0, false))) = some (r1, r2) := H
              have A6 := Aside0.mk A60
              clear A60
              by_cases c7 : t102 = true
              · subst c7
                have H1 : (if (rd l0 x12_1) > 0 then (if (wrap64 (x4_1 * (rd l0 x12_1))) > 10000 then (some (0, false)) else (impl_shapeOk.l0 k1 (wrap64 (x2_1 * (rd l0 x12_1))) (wrap64 (x4_1 * (rd l0 x12_1))) l0 (l0.length : Int) (wrap64 (x12_1 + 1)))) else (if x4_1 > 10000 then (some (0, false)) else (impl_shapeOk.l0 k1 (wrap64 (x2_1 * (rd l0 x12_1))) x4_1 l0 (l0.length : Int) (wrap64 (x12_1 + 1))))) = some (r1, r2) := by rw [if_pos rfl] at H; exact H
                clear H
                have H := H1
                clear H1
                by_cases c8 : (rd l0 x12_1) > 0
                · rw [if_pos c8] at H
                  have c8b0 : decide (0 < (rd l0 x12_1)) = true := decide_eq_true c8
                  clear c8
                  by_cases c9 : (wrap64 (x4_1 * (rd l0 x12_1))) > 10000
                  · rw [if_pos c9] at H
                    have c9b0 : decide (10000 < (wrap64 (x4_1 * (rd l0 x12_1)))) = true := decide_eq_true c9
                    clear c9
                    simp only [Option.some.injEq, Prod.mk.injEq] at H
                    obtain ⟨rfl, rfl⟩ := H
                    have p101 : 0 ≤ (x12_1 : Int) := of_decide_eq_true (by first | (with_reducible assumption) | assumption)
                    have q101 : x12_1 < (l0.length : Int) := of_decide_eq_true (by first | (with_reducible assumption) | assumption)
                    obtain ⟨ad101, e101, hx101_0⟩ := Kd.at_int HR0.out x12_1 p101 q101
                    cases e101
                    replace p101 := eq_true p101
                    replace q101 := eq_true q101
                    go_wp2_with (first | ((with_reducible refine gate_callee (f := 54) rfl ?_); refine goesL_ (some 17) rfl rfl Try.func54 (by kernel_rfl) rfl #[.int .i64 (rd l0 x12_1), .int .i64 0, .int .i64 10000] rfl (by (try simp only [List.map_toArray, List.map_cons, List.map_nil]); first | done | rfl | (simp only [List.length_drop, List.length_take]; rfl)) ?_; (with_reducible refine (impl_within.calls (rd l0 x12_1) 0 10000 true _ A6.out).mono ?_); rintro e w' ⟨rfl, ⟨nd, rfl⟩⟩; refine ⟨_, rfl, ?_⟩))
                    go_ret2
                    exact ⟨by first | rfl | (simp; done) | (simp [*]; done), by repeat (first | exact Drawn0.refl _ | apply Drawn0.step)⟩
                  · rw [if_neg c9] at H
                    have c9b0 : decide (10000 < (wrap64 (x4_1 * (rd l0 x12_1)))) = false := decide_eq_false c9
                    clear c9
                    have H' := Aside0.mk H
                    clear H
                    have p101 : 0 ≤ (x12_1 : Int) := of_decide_eq_true (by first | (with_reducible assumption) | assumption)
                    have q101 : x12_1 < (l0.length : Int) := of_decide_eq_true (by first | (with_reducible assumption) | assumption)
                    obtain ⟨ad101, e101, hx101_0⟩ := Kd.at_int HR0.out x12_1 p101 q101
                    cases e101
                    replace p101 := eq_true p101
                    replace q101 := eq_true q101
                    go_wp2_with (first | ((with_reducible refine gate_callee (f := 54) rfl ?_); refine goesL_ (some 17) rfl rfl Try.func54 (by kernel_rfl) rfl #[.int .i64 (rd l0 x12_1), .int .i64 0, .int .i64 10000] rfl (by (try simp only [List.map_toArray, List.map_cons, List.map_nil]); first | done | rfl | (simp only [List.length_drop, List.length_take]; rfl)) ?_; (with_reducible refine (impl_within.calls (rd l0 x12_1) 0 10000 true _ A6.out).mono ?_); rintro e w' ⟨rfl, ⟨nd, rfl⟩⟩; refine ⟨_, rfl, ?_⟩))
                    go_roundg k1
                    case measure => have := HK1.out; omega
                    case rel => exact ⟨(wrap64 (x2_1 * (rd l0 x12_1))), (wrap64 (x4_1 * (rd l0 x12_1))), (wrap64 (x12_1 + 1)), (by first | rfl | (simp; done) | (simp [*]; done)), (by first | rfl | (simp; done) | (simp [*]; done)), (by first | rfl | (simp; done) | (simp [*]; done)), H', ⟨by have := HK1.out; omega⟩, by repeat (first | exact Drawn0.refl _ | apply Drawn0.step)⟩
                · rw [if_neg c8] at H
                  have c8b0 : decide (0 < (rd l0 x12_1)) = false := decide_eq_false c8
                  clear c8
                  by_cases c10 : x4_1 > 10000
                  · rw [if_pos c10] at H
                    have c10b0 : decide (10000 < x4_1) = true := decide_eq_true c10
                    clear c10
                    simp only [Option.some.injEq, Prod.mk.injEq] at H
                    obtain ⟨rfl, rfl⟩ := H
                    have p101 : 0 ≤ (x12_1 : Int) := of_decide_eq_true (by first | (with_reducible assumption) | assumption)
                    have q101 : x12_1 < (l0.length : Int) := of_decide_eq_true (by first | (with_reducible assumption) | assumption)
                    obtain ⟨ad101, e101, hx101_0⟩ := Kd.at_int HR0.out x12_1 p101 q101
                    cases e101
                    replace p101 := eq_true p101
                    replace q101 := eq_true q101
                    go_wp2_with (first | ((with_reducible refine gate_callee (f := 54) rfl ?_); refine goesL_ (some 17) rfl rfl Try.func54 (by kernel_rfl) rfl #[.int .i64 (rd l0 x12_1), .int .i64 0, .int .i64 10000] rfl (by (try simp only [List.map_toArray, List.map_cons, List.map_nil]); first | done | rfl | (simp only [List.length_drop, List.length_take]; rfl)) ?_; (with_reducible refine (impl_within.calls (rd l0 x12_1) 0 10000 true _ A6.out).mono ?_); rintro e w' ⟨rfl, ⟨nd, rfl⟩⟩; refine ⟨_, rfl, ?_⟩))
                    go_ret2
                    exact ⟨by first | rfl | (simp; done) | (simp [*]; done), by repeat (first | exact Drawn0.refl _ | apply Drawn0.step)⟩
                  · rw [if_neg c10] at H
                    have c10b0 : decide (10000 < x4_1) = false := decide_eq_false c10
                    clear c10
                    have H' := Aside0.mk H
                    clear H
                    have p101 : 0 ≤ (x12_1 : Int) := of_decide_eq_true (by first | (with_reducible assumption) | assumption)
                    have q101 : x12_1 < (l0.length : Int) := of_decide_eq_true (by first | (with_reducible assumption) | assumption)
                    obtain ⟨ad101, e101, hx101_0⟩ := Kd.at_int HR0.out x12_1 p101 q101
                    cases e101
                    replace p101 := eq_true p101
                    replace q101 := eq_true q101
                    go_wp2_with (first | ((with_reducible refine gate_callee (f := 54) rfl ?_); refine goesL_ (some 17) rfl rfl Try.func54 (by kernel_rfl) rfl #[.int .i64 (rd l0 x12_1), .int .i64 0, .int .i64 10000] rfl (by (try simp only [List.map_toArray, List.map_cons, List.map_nil]); first | done | rfl | (simp only [List.length_drop, List.length_take]; rfl)) ?_; (with_reducible refine (impl_within.calls (rd l0 x12_1) 0 10000 true _ A6.out).mono ?_); rintro e w' ⟨rfl, ⟨nd, rfl⟩⟩; refine ⟨_, rfl, ?_⟩))
                    go_roundg k1
                    case measure => have := HK1.out; omega
                    case rel => exact ⟨(wrap64 (x2_1 * (rd l0 x12_1))), (x4_1), (wrap64 (x12_1 + 1)), (by first | rfl | (simp; done) | (simp [*]; done)), (by first | rfl | (simp; done) | (simp [*]; done)), (by first | rfl | (simp; done) | (simp [*]; done)), H', ⟨by have := HK1.out; omega⟩, by repeat (first | exact Drawn0.refl _ | apply Drawn0.step)⟩
              · replace c7 := Bool.eq_false_iff.mpr c7
                subst c7
                have H1 : (some (0, false)) = some (r1, r2) := by rw [if_neg (show ¬ (false = true) by decide)] at H; exact H
                clear H
                have H := H1
                clear H1
                simp only [Option.some.injEq, Prod.mk.injEq] at H
                obtain ⟨rfl, rfl⟩ := H
                have p101 : 0 ≤ (x12_1 : Int) := of_decide_eq_true (by first | (with_reducible assumption) | assumption)
                have q101 : x12_1 < (l0.length : Int) := of_decide_eq_true (by first | (with_reducible assumption) | assumption)
                obtain ⟨ad101, e101, hx101_0⟩ := Kd.at_int HR0.out x12_1 p101 q101
                cases e101
                replace p101 := eq_true p101
                replace q101 := eq_true q101
                go_wp2_with (first | ((with_reducible refine gate_callee (f := 54) rfl ?_); refine goesL_ (some 17) rfl rfl Try.func54 (by kernel_rfl) rfl #[.int .i64 (rd l0 x12_1), .int .i64 0, .int .i64 10000] rfl (by (try simp only [List.map_toArray, List.map_cons, List.map_nil]); first | done | rfl | (simp only [List.length_drop, List.length_take]; rfl)) ?_; (with_reducible refine (impl_within.calls (rd l0 x12_1) 0 10000 false _ A6.out).mono ?_); rintro e w' ⟨rfl, ⟨nd, rfl⟩⟩; refine ⟨_, rfl, ?_⟩))
                go_ret2
                exact ⟨by first | rfl | (simp; done) | (simp [*]; done), by repeat (first | exact Drawn0.refl _ | apply Drawn0.step)⟩
            · rw [if_neg c5] at H
              exact absurd H (by simp)
          · rw [if_neg c4] at H
            exact absurd H (by simp)
        · rw [if_neg c3] at H
          have c3b0 : decide (x12_1 < (l0.length : Int)) = false := decide_eq_false c3
          clear c3
          simp only [Option.some.injEq, Prod.mk.injEq] at H
          obtain ⟨rfl, rfl⟩ := H
          go_wp2
          go_ret2
          exact ⟨by first | rfl | (simp; done) | (simp [*]; done), by repeat (first | exact Drawn0.refl _ | apply Drawn0.step)⟩

end Go.Proofs.Ytipjhbngbaifeaa.PA

namespace Go.Proofs.Ytipjhbngbaifeaa.PA
open Go.RowKit Go.Proofs.YtipjhbngbaifeaaW.PrintWords Go.Proofs.YtipjhbngbaifeaaW.PrintLast Go.Proofs.YtipjhbngbaifeaaW.PrintMore

theorem w64 {x : Int} (h0 : -9223372036854775808 ≤ x) (h1 : x < 9223372036854775808) : wrap64 x = x := by unfold wrap64; omega
theorem rd_mid (p t : List Int) (a : Int) : rd (p ++ a :: t) (p.length : Int) = a := by simp [rd, List.getD_eq_getElem?_getD]
theorem len_lt {p t : List Int} {a : Int} : ((p.length : Nat) : Int) < (((p ++ a :: t).length : Nat) : Int) := by simp; omega
theorem len_nlt {p : List Int} : ¬ ((p.length : Nat) : Int) < (((p ++ ([] : List Int)).length : Nat) : Int) := by simp
theorem next_mid (p t : List Int) (a : Int) (h : (p ++ a :: t).length < 35184372088833) : wrap64 ((p.length : Int) + 1) = (((p ++ [a]).length : Nat) : Int) := by
  rw [w64 (by omega) (by simp at h; omega)]; simp
theorem app_mid (p t : List Int) (a : Int) : p ++ a :: t = (p ++ [a]) ++ t := by simp
theorem evVal {α : Type} {g : Nat → Option α} {r r' : α} (h : Ev g r) (e : r = r') : Ev g r' := e ▸ h
theorem evEq {α : Type} {g : Nat → Option α} {r : α} (h : ∀ k, g k = some r) : Ev g r := ⟨0, fun k _ => h k⟩
/-- One round whose test is decided: from the round's own equation. -/
theorem evRound {α : Type} {g f : Nat → Option α} {r : α} (k : Ev f r) (h : ∀ k, g (k + 1) = f k) : Ev g r := Ev.step h k

/-! ### copies -/
theorem set_mid (q t : List Int) (b a : Int) : (q ++ b :: t).set q.length a = (q ++ [a]) ++ t := by simp
theorem toIntS_loop : ∀ (t p q s : List Int), p.length = q.length → t.length = s.length → (p ++ t).length < 35184372088833 →
    Ev (fun k => laws_toIntS.l0 k (p ++ t) (q ++ s) (p.length : Int)) (q ++ t)
  | [], p, q, s, _, hs, _ => by
    obtain rfl : s = [] := List.eq_nil_of_length_eq_zero hs.symm
    refine evRound (Ev.now _) fun k => ?_
    simp only [laws_toIntS.l0]; rw [if_neg len_nlt]
  | a :: t, p, q, [], _, hs, _ => by simp at hs
  | a :: t, p, q, b :: s, hp, hs, hl => by
    have ih := toIntS_loop t (p ++ [a]) (q ++ [a]) s (by simp [hp]) (by simpa using hs) (by simpa using hl)
    rw [← app_mid, ← app_mid q t] at ih
    refine evRound ih fun k => ?_
    simp only [laws_toIntS.l0]
    rw [if_pos len_lt, if_pos (by omega), if_pos (by simp [hp]; omega), rd_mid, next_mid p t a hl, hp, Int.toNat_natCast, set_mid]
theorem toIntS_ev (l : List Int) (h : l.length ≤ 35184372088832) : Ev (fun k => laws_toIntS.f k l) l := by
  have h1 := toIntS_loop l [] [] (List.replicate l.length 0) rfl (by simp) (by simpa using (by omega : l.length < 35184372088833))
  refine Ev.congr (fun k => ?_) h1
  simp only [laws_toIntS.f]
  rw [if_pos (by omega), if_pos (by simpa using h)]
  simp

/-! ### comparisons -/
theorem eqIntS_loop : ∀ (t p q s : List Int), p.length = q.length → t.length = s.length → (p ++ t).length < 35184372088833 →
    Ev (fun k => laws_eqIntS.l0 k (p ++ t) (q ++ s) (p.length : Int)) (decide (t = s))
  | [], p, q, s, _, hs, _ => by
    obtain rfl : s = [] := List.eq_nil_of_length_eq_zero hs.symm
    refine evRound (Ev.now _) fun k => ?_
    simp only [laws_eqIntS.l0]; rw [if_neg len_nlt]; simp
  | a :: t, p, q, [], _, hs, _ => by simp at hs
  | a :: t, p, q, b :: s, hp, hs, hl => by
    by_cases e : a = b
    · subst e
      have ih := eqIntS_loop t (p ++ [a]) (q ++ [a]) s (by simp [hp]) (by simpa using hs) (by simpa using hl)
      rw [← app_mid, ← app_mid] at ih
      refine evVal (evRound ih fun k => ?_) (by simp)
      simp only [laws_eqIntS.l0]
      rw [if_pos len_lt, if_pos (by omega), if_pos (by simp [hp]; omega), rd_mid, show rd (q ++ a :: s) (p.length : Int) = a by rw [hp]; exact rd_mid _ _ _, if_pos rfl, next_mid p t a hl]
    · refine evRound (Ev.now _) fun k => ?_
      simp only [laws_eqIntS.l0]
      rw [if_pos len_lt, if_pos (by omega), if_pos (by simp [hp]; omega), rd_mid, show rd (q ++ b :: s) (p.length : Int) = b by rw [hp]; exact rd_mid _ _ _, if_neg e]; simp [e]
theorem eqIntS_ev (l m : List Int) (h : l.length ≤ 35184372088832) : Ev (fun k => laws_eqIntS.f k l m) (decide (l = m)) := by
  by_cases e : l.length = m.length
  · have h1 := eqIntS_loop l [] [] m rfl e (by simpa using (by omega : l.length < 35184372088833))
    refine Ev.congr (fun k => ?_) h1
    simp only [laws_eqIntS.f]
    rw [if_pos (by omega)]; rfl
  · refine evEq fun k => ?_
    simp only [laws_eqIntS.f]
    rw [if_neg (by omega)]
    have : l ≠ m := fun h => e (h ▸ rfl)
    simp [this]

/-! ### sizes -/
theorem szIntS_eq (l : List Int) (a : Int) (h0 : 0 ≤ a) (h1 : a ≤ 1048576) (hl : l.length ≤ maxLen) :
    laws_szIntS.f l a = some (if (l.length : Int) ≤ a then a - l.length else -1) := by
  unfold laws_szIntS.f; unfold maxLen at hl
  rw [w64 (by omega) (by omega)]
  by_cases h : (l.length : Int) ≤ a
  · rw [if_neg (by omega), if_pos h]
  · rw [if_pos (by omega), if_neg h]

/-! ### shapes -/
/-- Every number in range, and the product of those that are not 0 at most 10000: from a product on. -/
def shGo : Int → List Int → Bool
  | _, [] => true
  | f, a :: t => decide (0 ≤ a ∧ a ≤ 10000) && (if a = 0 then shGo f t else decide (f * a ≤ 10000) && shGo (f * a) t)
def prod : List Int → Int
  | [] => 1
  | a :: t => a * prod t
def shOk (l : List Int) : Bool := decide (l.length ≤ 5) && shGo 1 l
theorem shGo_range : ∀ {l : List Int} {f : Int}, shGo f l = true → ∀ a ∈ l, 0 ≤ a ∧ a ≤ 10000
  | [], _, _, a, ha => by simp at ha
  | b :: t, f, h, a, ha => by
    simp only [shGo, Bool.and_eq_true, decide_eq_true_eq] at h
    rcases List.mem_cons.1 ha with rfl | ha
    · exact h.1
    · by_cases hb : b = 0
      · rw [if_pos hb] at h; exact shGo_range h.2 a ha
      · rw [if_neg hb] at h; simp only [Bool.and_eq_true] at h; exact shGo_range h.2.2 a ha
theorem shGo_prod : ∀ {l : List Int} {f : Int}, 1 ≤ f → shGo f l = true → prod l = 0 ∨ (f * prod l ≤ 10000 ∧ 1 ≤ prod l) ∨ l = []
  | [], _, _, _ => .inr (.inr rfl)
  | b :: t, f, hf, h => by
    have hr := shGo_range h
    simp only [shGo, Bool.and_eq_true, decide_eq_true_eq] at h
    by_cases hb : b = 0
    · subst hb; left; simp [prod]
    · rw [if_neg hb] at h; simp only [Bool.and_eq_true, decide_eq_true_eq] at h
      have hb1 : 1 ≤ b := by omega
      have hf1 : 1 ≤ f * b := by have := Int.mul_le_mul hf hb1 (by omega) (by omega); simpa using this
      rcases shGo_prod hf1 h.2.2 with h0 | ⟨h0, h1⟩ | rfl
      · left; simp [prod, h0]
      · right; left; simp only [prod]; refine ⟨by rw [← Int.mul_assoc]; exact h0, ?_⟩
        have := Int.mul_le_mul hb1 h1 (by omega) (by omega); simpa using this
      · right; left; simp only [prod, Int.mul_one]; exact ⟨h.2.1, hb1⟩
theorem shGo_bound {l : List Int} (h : shGo 1 l = true) : 0 ≤ prod l ∧ prod l ≤ 10000 := by
  rcases shGo_prod (by omega) h with h0 | ⟨h0, h1⟩ | rfl
  · omega
  · omega
  · simp [prod]
theorem within_eq (a b c : Int) : impl_within.f a b c = some (decide (b ≤ a ∧ a ≤ c)) := by
  unfold impl_within.f
  by_cases h : a ≥ b
  · rw [if_pos h]; simp; omega
  · rw [if_neg h]; simp; omega
/-- The product that the program keeps: 0, or the product of those that are not 0. -/
def szGo : Int → Int → List Int → Int × Bool
  | s, _, [] => (s, true)
  | s, f, a :: t => if 0 ≤ a ∧ a ≤ 10000 then (if a > 0 then (if f * a > 10000 then (0, false) else szGo (s * a) (f * a) t) else szGo (s * a) f t) else (0, false)
theorem szGo_eq : ∀ (l : List Int) (s f : Int), szGo s f l = if shGo f l then (s * prod l, true) else (0, false)
  | [], s, f => by simp [szGo, shGo, prod]
  | a :: t, s, f => by
    simp only [szGo, shGo]
    by_cases h : 0 ≤ a ∧ a ≤ 10000
    · rw [if_pos h]
      by_cases h0 : a = 0
      · subst h0; simp [szGo_eq t, prod]
      · rw [if_pos (by omega)]
        by_cases h1 : f * a > 10000
        · rw [if_pos h1]; simp [h, h0, show ¬ f * a ≤ 10000 by omega]
        · rw [if_neg h1, szGo_eq t]; simp [h, h0, show f * a ≤ 10000 by omega, prod, Int.mul_assoc]
    · rw [if_neg h]; simp [h]
theorem mul_in {s a : Int} (h0 : 0 ≤ s) (h1 : s ≤ 10000) (h2 : 0 ≤ a) (h3 : a ≤ 10000) : 0 ≤ s * a ∧ s * a ≤ 100000000 := by
  refine ⟨Int.mul_nonneg h0 h2, ?_⟩
  have := Int.mul_le_mul h1 h3 h2 (by omega : (0 : Int) ≤ 10000); omega
theorem shapeOk_loop : ∀ (t p : List Int) (s f : Int) (n : Int), (s = 0 ∨ s = f) → 0 ≤ f → f ≤ 10000 → (p ++ t).length < 35184372088833 → n = ((p ++ t).length : Nat) →
    Ev (fun k => impl_shapeOk.l0 k s f (p ++ t) n (p.length : Int)) (szGo s f t)
  | [], p, s, f, n, _, _, _, _, hn => by
    subst hn
    refine evRound (Ev.now _) fun k => ?_
    simp only [impl_shapeOk.l0]; rw [if_neg len_nlt]; rfl
  | a :: t, p, s, f, n, hs, h0, h1, hl, hn => by
    have hn' := hn
    subst hn
    have hsb : 0 ≤ s ∧ s ≤ 10000 := by rcases hs with rfl | rfl <;> omega
    by_cases ha : 0 ≤ a ∧ a ≤ 10000
    · have hsa := mul_in hsb.1 hsb.2 ha.1 ha.2
      have hfa := mul_in h0 h1 ha.1 ha.2
      by_cases hp : a > 0
      · by_cases hb : f * a > 10000
        · refine evRound (Ev.now _) fun k => ?_
          simp only [impl_shapeOk.l0, szGo]
          rw [if_pos len_lt, if_pos (by omega), if_pos len_lt, rd_mid, within_eq]; simp only [Option.bind_some, ha.1, ha.2, and_self, decide_true, if_true]
          rw [if_pos hp, w64 (by omega) (by omega), if_pos hb, if_pos hp, if_pos hb]
        · have ih := shapeOk_loop t (p ++ [a]) (s * a) (f * a) _ (by rcases hs with rfl | rfl <;> simp) hfa.1 (by omega) (by simpa using hl) rfl
          rw [← app_mid] at ih
          refine evVal (evRound ih fun k => ?_) (by simp [szGo, ha, hp, hb])
          simp only [impl_shapeOk.l0]
          rw [if_pos len_lt, if_pos (by omega), if_pos len_lt, rd_mid, within_eq]; simp only [Option.bind_some, ha.1, ha.2, and_self, decide_true, if_true]
          rw [if_pos hp, w64 (x := f * a) (by omega) (by omega), if_neg hb, w64 (x := s * a) (by omega) (by omega), next_mid p t a hl]
      · have ih := shapeOk_loop t (p ++ [a]) (s * a) f _ (by left; have : a = 0 := by omega
                                                             simp [this]) h0 h1 (by simpa using hl) rfl
        rw [← app_mid] at ih
        refine evVal (evRound ih fun k => ?_) (by simp [szGo, ha, hp])
        simp only [impl_shapeOk.l0]
        rw [if_pos len_lt, if_pos (by omega), if_pos len_lt, rd_mid, within_eq]; simp only [Option.bind_some, ha.1, ha.2, and_self, decide_true, if_true]
        rw [if_neg hp, if_neg (by omega), w64 (x := s * a) (by omega) (by omega), next_mid p t a hl]
    · refine evRound (Ev.now _) fun k => ?_
      simp only [impl_shapeOk.l0, szGo]
      rw [if_pos len_lt, if_pos (by omega), if_pos len_lt, rd_mid, within_eq, if_neg ha]; simp only [Option.bind_some, ha, decide_false, Bool.false_eq_true, if_false]
/-- What the program's shapeOk answers. -/
def shSize (l : List Int) : Int × Bool := if shOk l then (prod l, true) else (0, false)
theorem shapeOk_ev (l : List Int) : Ev (fun k => impl_shapeOk.f k l) (shSize l) := by
  unfold shSize shOk
  by_cases h : l.length ≤ 5
  · have h1 := shapeOk_loop l [] 1 1 _ (.inr rfl) (by omega) (by omega) (by simp; omega) rfl
    refine evVal (Ev.congr (fun k => ?_) h1) ?_
    · simp only [impl_shapeOk.f]; rw [if_neg (by omega)]; rfl
    · rw [szGo_eq]; simp [h]
  · refine evEq fun k => ?_
    simp only [impl_shapeOk.f]; rw [if_pos (by omega)]; simp [h]

/-- What the reference's l3Count answers. -/
def cnGo : Int → Bool → List Int → Int
  | x, z, [] => if z then 0 else x
  | x, z, a :: t => if a = 0 then cnGo x true t else if x * a > 10000 then -1 else cnGo (x * a) z t
def cnt (l : List Int) : Int := if shGo 1 l then prod l else -1
theorem cnGo_eq : ∀ (l : List Int) (x : Int) (z : Bool), (∀ a ∈ l, 0 ≤ a ∧ a ≤ 10000) → cnGo x z l = if shGo x l then (if z then 0 else x * prod l) else -1
  | [], x, z, _ => by simp [cnGo, shGo, prod]
  | a :: t, x, z, h => by
    have ha := h a (by simp)
    have ht : ∀ b ∈ t, 0 ≤ b ∧ b ≤ 10000 := fun b hb => h b (by simp [hb])
    simp only [cnGo, shGo]
    by_cases h0 : a = 0
    · subst h0; simp [cnGo_eq t _ _ ht, prod]
    · rw [if_neg h0]
      by_cases h1 : x * a > 10000
      · rw [if_pos h1]; simp [h0, show ¬ x * a ≤ 10000 by omega]
      · rw [if_neg h1, cnGo_eq t _ _ ht]; simp [ha, h0, show x * a ≤ 10000 by omega, prod, Int.mul_assoc]
theorem l3Count_loop1 : ∀ (t p : List Int) (x : Int) (z : Bool), (∀ a ∈ t, 0 ≤ a ∧ a ≤ 10000) → 0 ≤ x → x ≤ 10000 → (p ++ t).length < 35184372088833 →
    Ev (fun k => spec_l3Count.l1 k (p ++ t) x z (p.length : Int)) (cnGo x z t)
  | [], p, x, z, _, _, _, _ => by
    refine evRound (f := fun _ => some (cnGo x z [])) (Ev.now _) fun k => ?_
    simp only [spec_l3Count.l1]; rw [if_neg len_nlt]; cases z <;> simp [cnGo]
  | a :: t, p, x, z, hr, h0, h1, hl => by
    have ha := hr a (by simp)
    have hxa := mul_in h0 h1 ha.1 ha.2
    have ht : ∀ b ∈ t, 0 ≤ b ∧ b ≤ 10000 := fun b hb => hr b (by simp [hb])
    by_cases e : a = 0
    · have ih := l3Count_loop1 t (p ++ [a]) x true ht h0 h1 (by simpa using hl)
      rw [← app_mid] at ih
      refine evVal (evRound ih fun k => ?_) (by simp [cnGo, e])
      simp only [spec_l3Count.l1]
      rw [if_pos len_lt, if_pos (by omega), rd_mid, if_pos e, next_mid p t a hl]
    · by_cases hb : x * a > 10000
      · refine evRound (f := fun _ => some (cnGo x z (a :: t))) (Ev.now _) fun k => ?_
        simp only [spec_l3Count.l1]
        rw [if_pos len_lt, if_pos (by omega), rd_mid, if_neg e, w64 (by omega) (by omega), if_pos hb]; simp [cnGo, e, hb]
      · have ih := l3Count_loop1 t (p ++ [a]) (x * a) z ht hxa.1 (by omega) (by simpa using hl)
        rw [← app_mid] at ih
        refine evVal (evRound ih fun k => ?_) (by simp [cnGo, e, hb])
        simp only [spec_l3Count.l1]
        rw [if_pos len_lt, if_pos (by omega), rd_mid, if_neg e, w64 (by omega) (by omega), if_neg hb, next_mid p t a hl]
theorem l3Count_loop0 : ∀ (t p : List Int), (∀ a ∈ p, 0 ≤ a ∧ a ≤ 10000) → (p ++ t).length < 35184372088833 →
    Ev (fun k => spec_l3Count.l0 k (p ++ t) 1 (p.length : Int)) (if ∀ a ∈ t, 0 ≤ a ∧ a ≤ 10000 then cnGo 1 false (p ++ t) else -1)
  | [], p, hp, hl => by
    have h1 := l3Count_loop1 p [] 1 false hp (by omega) (by omega) (by simpa using hl)
    refine evVal (evRound h1 fun k => ?_) (by simp)
    simp only [spec_l3Count.l0]; rw [if_neg len_nlt]; simp
  | a :: t, p, hp, hl => by
    by_cases ha : 0 ≤ a ∧ a ≤ 10000
    · have ih := l3Count_loop0 t (p ++ [a]) (fun b hb => by rcases List.mem_append.1 hb with h | h
                                                            · exact hp b h
                                                            · obtain rfl := List.mem_singleton.1 h; exact ha) (by simpa using hl)
      rw [← app_mid] at ih
      refine evVal (evRound ih fun k => ?_) (by simp [ha])
      simp only [spec_l3Count.l0]
      rw [if_pos len_lt, if_pos (by omega), rd_mid, if_neg (by omega), if_neg (by omega), next_mid p t a hl]
    · refine evRound (f := fun _ => some (-1)) (evVal (Ev.now _) (by rw [if_neg]; intro h; exact ha (h a (by simp)))) fun k => ?_
      simp only [spec_l3Count.l0]
      rw [if_pos len_lt, if_pos (by omega), rd_mid]
      by_cases h : a < 0
      · rw [if_pos h]
      · rw [if_neg h, if_pos (by omega)]
theorem l3Count_ev (l : List Int) (h : l.length ≤ 35184372088832) : Ev (fun k => spec_l3Count.f k l) (cnt l) := by
  have h1 := l3Count_loop0 l [] (by simp) (by simp; omega)
  refine evVal (Ev.congr (fun k => rfl) h1) ?_
  unfold cnt
  by_cases hr : ∀ a ∈ l, 0 ≤ a ∧ a ≤ 10000
  · rw [if_pos hr, List.nil_append, cnGo_eq l 1 false hr]; simp
  · rw [if_neg hr, if_neg]; intro hs; exact hr (shGo_range hs)
end Go.Proofs.Ytipjhbngbaifeaa.PA

-- By a program (prt.py, over the print of the kit), for this claim. Not trusted: Lean checks it.
namespace Go.Proofs.Ytipjhbngbaifeaa.PA
open Go.RowKit Go.Proofs.YtipjhbngbaifeaaW.PrintWords Go.Proofs.YtipjhbngbaifeaaW.PrintLast Go.Proofs.YtipjhbngbaifeaaW.PrintMore
attribute [local go_sem] max2_int min2_int max_two min_two max_three min_three max_four min_four   -- for this text's walks alone
set_option linter.unusedVariables false
set_option linter.unusedSimpArgs false

/-! ### spec_WholeView: function 20 -/
def spec_WholeView.l0 : Nat → List Int → Int → Int → Int → List Int → List Int → Option (Int × List Int × List Int × Bool)
  | 0, _, _, _, _, _, _ => none
  | k + 1, x0, x5, x6, x110000, x110001, x110002 => if x6 ≥ 0 then (if 0 ≤ x6 then (if x6 < (x110002.length : Int) then ((some (x110002.set (x6 : Int).toNat x5 : List Int)).bind fun y110 => (if x6 < (x0.length : Int) then (if (rd x0 x6) > 0 then (spec_WholeView.l0 k x0 (wrap64 (x5 * (rd x0 x6))) (wrap64 (x6 - 1)) x110000 x110001 y110) else (spec_WholeView.l0 k x0 x5 (wrap64 (x6 - 1)) x110000 x110001 y110)) else (none))) else (none)) else (none)) else (some (x110000, x110001, x110002, true))
def spec_WholeView.f (k : Nat) (l0 : List Int) : Option (Int × List Int × List Int × Bool) := (spec_l3ShapeOk.f k l0).bind fun t102 => (if t102 = true then ((spec_l3Ints.f l0).bind fun t103 => (if 0 ≤ (l0.length : Int) then (if ((l0.length : Int) : Int).toNat ≤ 35184372088832 then (spec_WholeView.l0 k l0 1 (wrap64 ((l0.length : Int) - 1)) 0 t103 (List.replicate ((l0.length : Int) : Int).toNat 0)) else (none)) else (none))) else (some (0, ([] : List Int), ([] : List Int), false)))
theorem spec_WholeView.mono_l : ∀ k, (∀ y0 y1 y2 y3 y4 y5, LeO (spec_WholeView.l0 k y0 y1 y2 y3 y4 y5) (spec_WholeView.l0 (k + 1) y0 y1 y2 y3 y4 y5))
  | 0 => fun _ _ _ _ _ _ r h => by simp [spec_WholeView.l0] at h
  | k + 1 => by
    have ih0 := spec_WholeView.mono_l k
    · intro y0 y1 y2 y3 y4 y5
      unfold spec_WholeView.l0
      repeat' first
      | (with_reducible exact ih0 _ _ _ _ _ _)
      | (with_reducible exact spec_l3ShapeOk.mono _ _)
      | (with_reducible exact LeO.refl _)
      | (with_reducible exact LeO.none _)
      | (with_reducible refine LeO.ite ?_ ?_)
      | (with_reducible refine LeO.bind ?_ (fun _ => ?_))
      | exact ih0 _ _ _ _ _ _
      | exact spec_l3ShapeOk.mono _ _
      | exact LeO.none _
      | refine LeO.ite ?_ ?_
      | refine LeO.bind ?_ (fun _ => ?_)
theorem spec_WholeView.mono : ∀ a0 k, LeO (spec_WholeView.f k a0) (spec_WholeView.f (k + 1) a0) := by
  intro a0 k
  have ih0 := spec_WholeView.mono_l k
  unfold spec_WholeView.f
  repeat' first
      | (with_reducible exact ih0 _ _ _ _ _ _)
      | (with_reducible exact spec_l3ShapeOk.mono _ _)
      | (with_reducible exact LeO.refl _)
      | (with_reducible exact LeO.none _)
      | (with_reducible refine LeO.ite ?_ ?_)
      | (with_reducible refine LeO.bind ?_ (fun _ => ?_))
      | exact ih0 _ _ _ _ _ _
      | exact spec_l3ShapeOk.mono _ _
      | exact LeO.none _
      | refine LeO.ite ?_ ?_
      | refine LeO.bind ?_ (fun _ => ?_)
def spec_WholeView.B3 : List Nat := [0, 1, 0, 4, 12, 31, 0, 127]

end Go.Proofs.Ytipjhbngbaifeaa.PA

-- By a program (prt.py, over the print of the kit), for this claim. Not trusted: Lean checks it.
namespace Go.Proofs.Ytipjhbngbaifeaa.PA
open Go.RowKit Go.Proofs.YtipjhbngbaifeaaW.PrintWords Go.Proofs.YtipjhbngbaifeaaW.PrintLast Go.Proofs.YtipjhbngbaifeaaW.PrintMore
attribute [local go_sem] max2_int min2_int max_two min_two max_three min_three max_four min_four   -- for this text's walks alone
set_option linter.unusedVariables false
set_option linter.unusedSimpArgs false

/-! ### impl_wholeStrides: function 58 -/
def impl_wholeStrides.l0 : Nat → List Int → List Int → Int → Int → Option (List Int)
  | 0, _, _, _, _ => none
  | k + 1, x0, x3, x4, x5 => if x5 ≥ 0 then (if 0 ≤ x5 then (if x5 < (x3.length : Int) then (if x5 < (x0.length : Int) then (impl_wholeStrides.l0 k x0 (x3.set (x5 : Int).toNat x4) (wrap64 (x4 * (mx 1 (rd x0 x5)))) (wrap64 (x5 - 1))) else (none)) else (none)) else (none)) else (some x3)
def impl_wholeStrides.f (k : Nat) (l0 : List Int) : Option (List Int) := if 0 ≤ (l0.length : Int) then (if ((l0.length : Int) : Int).toNat ≤ 35184372088832 then (impl_wholeStrides.l0 k l0 (List.replicate ((l0.length : Int) : Int).toNat 0) 1 (wrap64 ((l0.length : Int) - 1))) else (none)) else (none)
theorem impl_wholeStrides.mono_l : ∀ k, (∀ y0 y1 y2 y3, LeO (impl_wholeStrides.l0 k y0 y1 y2 y3) (impl_wholeStrides.l0 (k + 1) y0 y1 y2 y3))
  | 0 => fun _ _ _ _ r h => by simp [impl_wholeStrides.l0] at h
  | k + 1 => by
    have ih0 := impl_wholeStrides.mono_l k
    · intro y0 y1 y2 y3
      unfold impl_wholeStrides.l0
      repeat' first
      | (with_reducible exact ih0 _ _ _ _)
      | (with_reducible exact LeO.refl _)
      | (with_reducible exact LeO.none _)
      | (with_reducible refine LeO.ite ?_ ?_)
      | (with_reducible refine LeO.bind ?_ (fun _ => ?_))
      | exact ih0 _ _ _ _
      | exact LeO.none _
      | refine LeO.ite ?_ ?_
      | refine LeO.bind ?_ (fun _ => ?_)
theorem impl_wholeStrides.mono : ∀ a0 k, LeO (impl_wholeStrides.f k a0) (impl_wholeStrides.f (k + 1) a0) := by
  intro a0 k
  have ih0 := impl_wholeStrides.mono_l k
  unfold impl_wholeStrides.f
  repeat' first
      | (with_reducible exact ih0 _ _ _ _)
      | (with_reducible exact LeO.refl _)
      | (with_reducible exact LeO.none _)
      | (with_reducible refine LeO.ite ?_ ?_)
      | (with_reducible refine LeO.bind ?_ (fun _ => ?_))
      | exact ih0 _ _ _ _
      | exact LeO.none _
      | refine LeO.ite ?_ ?_
      | refine LeO.bind ?_ (fun _ => ?_)

end Go.Proofs.Ytipjhbngbaifeaa.PA

-- By a program (prt.py, over the print of the kit), for this claim. Not trusted: Lean checks it.
namespace Go.Proofs.Ytipjhbngbaifeaa.PA
open Go.RowKit Go.Proofs.YtipjhbngbaifeaaW.PrintWords Go.Proofs.YtipjhbngbaifeaaW.PrintLast Go.Proofs.YtipjhbngbaifeaaW.PrintMore
attribute [local go_sem] max2_int min2_int max_two min_two max_three min_three max_four min_four   -- for this text's walks alone
set_option linter.unusedVariables false
set_option linter.unusedSimpArgs false

/-! ### impl_WholeView: function 22 -/
def impl_WholeView.f (k : Nat) (l0 : List Int) : Option (Int × List Int × List Int × Bool) := (impl_shapeOk.f k l0).bind fun bt102 => (if bt102.2 = true then ((slices_Clone_int_int.f l0).bind fun t104 => ((impl_wholeStrides.f k l0).bind fun t107 => (some (0, t104, t107, true)))) else (some (0, ([] : List Int), ([] : List Int), false)))
theorem impl_WholeView.mono : ∀ a0 k, LeO (impl_WholeView.f k a0) (impl_WholeView.f (k + 1) a0) := by
  intro a0 k
  unfold impl_WholeView.f
  repeat' first
      | (with_reducible exact impl_shapeOk.mono _ _)
      | (with_reducible exact impl_wholeStrides.mono _ _)
      | (with_reducible exact LeO.refl _)
      | (with_reducible exact LeO.none _)
      | (with_reducible refine LeO.ite ?_ ?_)
      | (with_reducible refine LeO.bind ?_ (fun _ => ?_))
      | exact impl_shapeOk.mono _ _
      | exact impl_wholeStrides.mono _ _
      | exact LeO.none _
      | refine LeO.ite ?_ ?_
      | refine LeO.bind ?_ (fun _ => ?_)

end Go.Proofs.Ytipjhbngbaifeaa.PA

namespace Go.Proofs.Ytipjhbngbaifeaa.PA
open Go.RowKit Go.Proofs.YtipjhbngbaifeaaW.PrintWords Go.Proofs.YtipjhbngbaifeaaW.PrintLast Go.Proofs.YtipjhbngbaifeaaW.PrintMore

theorem l3Ints_eq (l : List Int) (h : l.length < 17592186044416) : spec_l3Ints.f l = some l := by
  simp [spec_l3Ints.f, h]
theorem l3ShapeOk_ev (l : List Int) (h : l.length ≤ 35184372088832) : Ev (fun k => spec_l3ShapeOk.f k l) (shOk l) := by
  simp only [spec_l3ShapeOk.f, shOk]
  by_cases h5 : (l.length : Int) ≤ 5
  · simp only [h5, if_true]
    refine Ev.bind (l3Count_ev l h) ?_
    refine evVal (Ev.now _) ?_
    unfold cnt
    by_cases hs : shGo 1 l = true
    · have := shGo_bound hs
      simp [hs, show l.length ≤ 5 by omega]; omega
    · simp [hs]
  · simp only [h5, if_false]; exact evVal (Ev.now _) (by simp [show ¬ l.length ≤ 5 by omega])

theorem toView_ev (b : Int) (l1 l2 : List Int) (h1 : l1.length ≤ 35184372088832) (h2 : l2.length ≤ 35184372088832) : Ev (fun k => laws_toView.f k b l1 l2) (b, l1, l2) := by
  simp only [laws_toView.f]
  exact Ev.bind (toIntS_ev l1 h1) (Ev.bind (toIntS_ev l2 h2) (Ev.now _))
theorem eqView_self (b : Int) (l1 l2 : List Int) (h1 : l1.length ≤ 35184372088832) (h2 : l2.length ≤ 35184372088832) : Ev (fun k => laws_eqView.f k b l1 l2 b l1 l2) true := by
  simp only [laws_eqView.f, if_true]
  refine Ev.bind (evVal (eqIntS_ev l1 l1 h1) (decide_eq_true rfl)) ?_
  simp only [if_true]
  refine Ev.bind (evVal (eqIntS_ev l2 l2 h2) (decide_eq_true rfl)) ?_
  simp only [if_true]; exact Ev.now _
theorem szView_eq (b : Int) (l1 l2 : List Int) (a : Int) (h0 : 0 ≤ a) (h1 : a ≤ 1048576) (hl1 : l1.length ≤ maxLen) (hl2 : l2.length ≤ maxLen) :
    laws_szView.f b l1 l2 a = some (if (l1.length : Int) + l2.length ≤ a then a - l1.length - l2.length else -1) := by
  unfold laws_szView.f
  rw [szIntS_eq l1 a h0 h1 hl1]; simp only [Option.bind_some]
  by_cases h : (l1.length : Int) ≤ a
  · rw [if_pos h, if_neg (by omega), szIntS_eq l2 _ (by omega) (by omega) hl2]; simp only [Option.bind_some]
    by_cases h' : (l2.length : Int) ≤ a - l1.length
    · rw [if_pos h', if_neg (by omega), if_pos (by omega)]
    · rw [if_neg h', if_pos (by omega), if_neg (by omega)]
  · rw [if_neg h, if_pos (by omega), if_neg (by omega)]

/-- The numbers from a on, n of them. -/
def upFrom : Int → Nat → List Int
  | _, 0 => []
  | a, n + 1 => a :: upFrom (a + 1) n
theorem upFrom_len : ∀ (n : Nat) (a : Int), (upFrom a n).length = n
  | 0, _ => rfl
  | n + 1, a => by simp [upFrom, upFrom_len n]
theorem markIntS_loop : ∀ (t p : List Int) (a : Int), (p ++ t).length < 35184372088833 → 0 ≤ a → a + t.length ≤ 9000000000000000000 →
    Ev (fun k => laws_markIntS.l0 k (p ++ t) a (p.length : Int)) (a + t.length, p ++ upFrom a t.length)
  | [], p, a, _, _, _ => by
    refine evVal (evRound (Ev.now _) fun k => ?_) (by simp [upFrom] : (a, p ++ []) = _)
    simp only [laws_markIntS.l0]; rw [if_neg len_nlt]
  | b :: t, p, a, hl, h0, h1 => by
    have ih := markIntS_loop t (p ++ [a]) (a + 1) (by simpa using hl) (by omega) (by simp only [List.length_cons] at h1; omega)
    refine evVal (evRound ih fun k => ?_) (by simp [upFrom]; omega)
    simp only [laws_markIntS.l0]
    rw [if_pos len_lt, if_pos (by omega), next_mid p t b hl, Int.toNat_natCast, set_mid, w64 (by omega) (by simp only [List.length_cons] at h1; omega)]
    simp
theorem markIntS_ev (l : List Int) (a : Int) (hl : l.length ≤ 35184372088832) (h0 : 0 ≤ a) (h1 : a ≤ 1000000000000000000) : Ev (fun k => laws_markIntS.f k l a) (a + l.length, upFrom a l.length) := by
  have := markIntS_loop l [] a (by simp; omega) h0 (by omega)
  simpa [laws_markIntS.f] using this
theorem heldIntS_loop : ∀ (n : Nat) (p : List Int) (a : Int), p.length + n < 35184372088833 → 0 ≤ a → a + n ≤ 9000000000000000000 →
    Ev (fun k => laws_heldIntS.l0 k (p ++ upFrom a n) a (p.length : Int)) (a + n)
  | 0, p, a, _, _, _ => by
    rw [show upFrom a 0 = [] from rfl]
    refine evVal (evRound (Ev.now a) fun k => ?_) (by simp)
    simp only [laws_heldIntS.l0]; rw [if_neg len_nlt]
  | n + 1, p, a, hl, h0, h1 => by
    have ih := heldIntS_loop n (p ++ [a]) (a + 1) (by simp; omega) (by omega) (by omega)
    rw [← app_mid] at ih
    rw [show upFrom a (n + 1) = a :: upFrom (a + 1) n from rfl]
    refine evVal (evRound ih fun k => ?_) (by omega)
    simp only [laws_heldIntS.l0]
    rw [if_pos len_lt, if_pos (by omega), rd_mid, if_pos rfl, next_mid p (upFrom (a + 1) n) a (by simp [upFrom_len]; omega), w64 (by omega) (by omega)]
theorem heldIntS_ev (n : Nat) (a : Int) (hl : n ≤ 35184372088832) (h0 : 0 ≤ a) (h1 : a ≤ 1000000000000000000) : Ev (fun k => laws_heldIntS.f k (upFrom a n) a) (a + n) := by
  have := heldIntS_loop n [] a (by simp; omega) h0 (by omega)
  simpa [laws_heldIntS.f] using this
theorem markView_ev (b : Int) (l1 l2 : List Int) (a : Int) (h1 : l1.length ≤ 35184372088832) (h2 : l2.length ≤ 35184372088832) (h0 : 0 ≤ a) (ha : a ≤ 1000000000000) :
    Ev (fun k => laws_markView.f k b l1 l2 a) (a + l1.length + l2.length, upFrom a l1.length, upFrom (a + l1.length) l2.length) := by
  simp only [laws_markView.f]
  exact Ev.bind (markIntS_ev l1 a h1 h0 (by omega)) (Ev.bind (markIntS_ev l2 (a + l1.length) h2 (by omega) (by omega)) (Ev.now _))
theorem heldView_ev (b : Int) (n m : Nat) (a : Int) (h1 : n ≤ 35184372088832) (h2 : m ≤ 35184372088832) (h0 : 0 ≤ a) (ha : a ≤ 1000000000000) :
    Ev (fun k => laws_heldView.f k b (upFrom a n) (upFrom (a + n) m) a) (a + n + m) := by
  simp only [laws_heldView.f]
  refine Ev.bind (heldIntS_ev n a h1 h0 (by omega)) ?_
  simp only [show ¬ a + (n : Int) < 0 by omega, if_false]
  refine Ev.bind (heldIntS_ev m (a + n) h2 (by omega) (by omega)) ?_
  simp only [show ¬ a + (n : Int) + (m : Int) < 0 by omega, if_false]
  exact Ev.now _

/-! ### strides -/
theorem shOk_len {l : List Int} (h : shOk l = true) : l.length ≤ 5 := by
  simp only [shOk, Bool.and_eq_true, decide_eq_true_eq] at h; exact h.1
end Go.Proofs.Ytipjhbngbaifeaa.PA

namespace Go.Proofs.Ytipjhbngbaifeaa.PA
open Go.RowKit Go.Proofs.YtipjhbngbaifeaaW.PrintWords Go.Proofs.YtipjhbngbaifeaaW.PrintLast Go.Proofs.YtipjhbngbaifeaaW.PrintMore
set_option linter.unusedVariables false
set_option linter.unusedSimpArgs false
def inR (x : Int) : Bool := decide (-10000 ≤ x ∧ x ≤ 10000)
def pad5 (l : List Int) : List Int := l ++ List.replicate (5 - l.length) 0
def zero12 : List Int := List.replicate 12 0
def formedB (off : Int) (l1 l2 : List Int) : Bool := shOk l1 && decide (l2.length = l1.length) && inR off && l2.all inR
def formedL (off : Int) (l1 l2 : List Int) : List Int := if formedB off l1 l2 then off :: (l1.length : Int) :: (pad5 l1 ++ pad5 l2) else zero12
theorem pad5_len {l : List Int} (h : l.length ≤ 5) : (pad5 l).length = 5 := by simp [pad5]; omega
theorem formedL_len {off : Int} {l1 l2 : List Int} : (formedL off l1 l2).length = 12 := by
  unfold formedL
  by_cases h : formedB off l1 l2 = true
  · rw [if_pos h]
    simp only [formedB, Bool.and_eq_true, decide_eq_true_eq] at h
    have h5 := shOk_len h.1.1.1
    simp [pad5_len h5, pad5_len (show l2.length ≤ 5 by omega)]
  · rw [if_neg h]; rfl
set_option maxHeartbeats 2000000 in
set_option maxRecDepth 100000 in
theorem formed_a (k : Nat) (off : Int) (A1 A2 : Option Addr) (c1 c2 : Nat) (l1 l2 : List Int) (w : World) (hr1 : Kd.C (Kd.int .i64) w A1 l1.length l1) (hc1 : l1.length ≤ c1) (hr2 : Kd.C (Kd.int .i64) w A2 l2.length l2) (hc2 : l2.length ≤ c2)
    (hk : impl_shapeOk.f k l1 = some (shSize l1)) (h : shOk l1 = false) :
    Calls Try.prog 63 #[.agg #[.int .i64 off, .slice A1 l1.length c1, .slice A2 l2.length c2]] w fun e w' => e = .returned (.tuple #[.agg (lay zero12), .bool false]) ∧ Below w.heap.size w w' := by
  have HR1 := Aside0.mk hr1
  have HC1 := Aside0.mk hc1
  have HR2 := Aside0.mk hr2
  have HC2 := Aside0.mk hc2
  clear hr1 hc1 hr2 hc2
  have e : shSize l1 = (0, false) := by simp [shSize, h]
  rw [e] at hk
  have HK := Aside0.mk hk
  clear hk e h
  go_enter Try.func63, Try.ntmps63
  go_wp2_with (first | ((with_reducible refine gate_dst (N := 1) rfl ?_); refine box_event ?hg (N := 1) ?hd (cs := #[.int .i64 off, .slice A1 l1.length c1, .slice A2 l2.length c2]) (t := 33) ?hr ?_; (case hd => rfl); (case hg => rfl); (case hr => first | (go_simp; done) | (go_simp; rfl)); intro g1 hg1 w1 hb1 hB1; have HB1 := Aside0.mk hb1; have HW := Aside0.mk hB1; have HG1 := Aside0.mk hg1; clear hb1 hB1 hg1) | ((with_reducible refine gate_dst (N := 2) rfl ?_); refine box_event ?hg (N := 2) ?hd (cs := lay zero12) (t := 67) ?hr ?_; (case hd => rfl); (case hg => rfl); (case hr => first | (go_simp; done) | (go_simp; rfl)); intro g2 hg2 w2 hb2 hB2; have HB2 := Aside0.mk hb2; have nw := Aside0.mk (below_step HW.out hB2); have HLT := Aside0.mk (show g1 < g2 by have := blk_lt HB1.out; omega); have HGE := Aside0.mk (show w.heap.size ≤ g2 by have h1 := blk_lt HB1.out; have h2 := HG1.out; omega); have n1 := Aside0.mk (blk_below HB1.out hB2); clear HB1 HW; have HB1 := n1; have HW := nw; clear n1 nw; clear hb2 hB2 hg2; have hv0 : w2.cell? ⟨g1, 0, none⟩ = some (.int .i64 off) := (blk_cell HB1.out 0).trans rfl; have hv1 : w2.cell? ⟨g1, 1, none⟩ = some (.slice A1 l1.length c1) := (blk_cell HB1.out 1).trans rfl; have hv2 : w2.cell? ⟨g1, 2, none⟩ = some (.slice A2 l2.length c2) := (blk_cell HB1.out 2).trans rfl) | (go_at_call 52; refine (impl_shapeOk.calls k _ _ l1 0 false _ ?s1 ?s2 HK.out).mono ?_; (case s1 => exact Kd.C_below HR1.out HW.out); (case s2 => exact HC1.out); rintro e w5 ⟨rfl, ⟨⟨n5, rfl⟩⟩⟩) | ((with_reducible refine gate_store rfl ?_); refine wpList_store_row rfl 67 (.tmp 2) (.tmp 32) rfl g2 (lay zero12) rfl rfl 67 (lay zero12) (by (with_reducible repeat (first | refine blk_drew ?_ | refine blk_drewN ?_ _ | refine blk_alloc ?_ _)); exact HB2.out) (info67 _ rfl) rfl (lay_one _) ?_))
  refine bodyPost_ret (results_ct rfl _ _ g2 67 (lay zero12) (0, 0) _ rfl (setRow_heap _ g2 _ _ _ (0, 0) (by (with_reducible repeat (first | refine blk_drew ?_ | refine blk_drewN ?_ _ | refine blk_alloc ?_ _)); exact HB2.out)) Try.underlying67 rfl (info67 _ rfl)) rfl ⟨rfl, below_setRow (by repeat (first | exact HW.out | apply below_drew1 | apply pw_below_drewN)) HGE.out _⟩
set_option maxHeartbeats 2000000 in
set_option maxRecDepth 100000 in
theorem formed_b (k : Nat) (off : Int) (A1 A2 : Option Addr) (c1 c2 : Nat) (l1 l2 : List Int) (w : World) (hr1 : Kd.C (Kd.int .i64) w A1 l1.length l1) (hc1 : l1.length ≤ c1) (hr2 : Kd.C (Kd.int .i64) w A2 l2.length l2) (hc2 : l2.length ≤ c2)
    (hk : impl_shapeOk.f k l1 = some (shSize l1)) (h : shOk l1 = true) (hne : l2.length ≠ l1.length) :
    Calls Try.prog 63 #[.agg #[.int .i64 off, .slice A1 l1.length c1, .slice A2 l2.length c2]] w fun e w' => e = .returned (.tuple #[.agg (lay zero12), .bool false]) ∧ Below w.heap.size w w' := by
  have HR1 := Aside0.mk hr1
  have HC1 := Aside0.mk hc1
  have HR2 := Aside0.mk hr2
  have HC2 := Aside0.mk hc2
  clear hr1 hc1 hr2 hc2
  have e : shSize l1 = (prod l1, true) := by simp [shSize, h]
  rw [e] at hk
  have HK := Aside0.mk hk
  clear hk e h
  have q1 : ((l2.length : Int) != (l1.length : Int)) = true := by simp; omega
  have q2 : (l2.length != l1.length) = true := by simpa using hne
  have q3 : ((l2.length : Int) == (l1.length : Int)) = false := by simp; omega
  clear hne
  go_enter Try.func63, Try.ntmps63
  go_wp2_with (first | ((with_reducible refine gate_dst (N := 1) rfl ?_); refine box_event ?hg (N := 1) ?hd (cs := #[.int .i64 off, .slice A1 l1.length c1, .slice A2 l2.length c2]) (t := 33) ?hr ?_; (case hd => rfl); (case hg => rfl); (case hr => first | (go_simp; done) | (go_simp; rfl)); intro g1 hg1 w1 hb1 hB1; have HB1 := Aside0.mk hb1; have HW := Aside0.mk hB1; have HG1 := Aside0.mk hg1; clear hb1 hB1 hg1) | ((with_reducible refine gate_dst (N := 2) rfl ?_); refine box_event ?hg (N := 2) ?hd (cs := lay zero12) (t := 67) ?hr ?_; (case hd => rfl); (case hg => rfl); (case hr => first | (go_simp; done) | (go_simp; rfl)); intro g2 hg2 w2 hb2 hB2; have HB2 := Aside0.mk hb2; have nw := Aside0.mk (below_step HW.out hB2); have HLT := Aside0.mk (show g1 < g2 by have := blk_lt HB1.out; omega); have HGE := Aside0.mk (show w.heap.size ≤ g2 by have h1 := blk_lt HB1.out; have h2 := HG1.out; omega); have n1 := Aside0.mk (blk_below HB1.out hB2); clear HB1 HW; have HB1 := n1; have HW := nw; clear n1 nw; clear hb2 hB2 hg2; have hv0 : w2.cell? ⟨g1, 0, none⟩ = some (.int .i64 off) := (blk_cell HB1.out 0).trans rfl; have hv1 : w2.cell? ⟨g1, 1, none⟩ = some (.slice A1 l1.length c1) := (blk_cell HB1.out 1).trans rfl; have hv2 : w2.cell? ⟨g1, 2, none⟩ = some (.slice A2 l2.length c2) := (blk_cell HB1.out 2).trans rfl) | (go_at_call 52; refine (impl_shapeOk.calls k _ _ l1 (prod l1) true _ ?s1 ?s2 HK.out).mono ?_; (case s1 => exact Kd.C_below HR1.out HW.out); (case s2 => exact HC1.out); rintro e w5 ⟨rfl, ⟨⟨n5, rfl⟩⟩⟩) | ((with_reducible refine gate_store rfl ?_); refine wpList_store_row rfl 67 (.tmp 2) (.tmp 32) rfl g2 (lay zero12) rfl rfl 67 (lay zero12) (by (with_reducible repeat (first | refine blk_drew ?_ | refine blk_drewN ?_ _ | refine blk_alloc ?_ _)); exact HB2.out) (info67 _ rfl) rfl (lay_one _) ?_))
  refine bodyPost_ret (results_ct rfl _ _ g2 67 (lay zero12) (0, 0) _ rfl (setRow_heap _ g2 _ _ _ (0, 0) (by (with_reducible repeat (first | refine blk_drew ?_ | refine blk_drewN ?_ _ | refine blk_alloc ?_ _)); exact HB2.out)) Try.underlying67 rfl (info67 _ rfl)) rfl ⟨rfl, below_setRow (by repeat (first | exact HW.out | apply below_drew1 | apply pw_below_drewN)) HGE.out _⟩
set_option maxHeartbeats 2000000 in
set_option maxRecDepth 100000 in
theorem formed_c (k : Nat) (off : Int) (A1 A2 : Option Addr) (c1 c2 : Nat) (l1 l2 : List Int) (w : World) (hr1 : Kd.C (Kd.int .i64) w A1 l1.length l1) (hc1 : l1.length ≤ c1) (hr2 : Kd.C (Kd.int .i64) w A2 l2.length l2) (hc2 : l2.length ≤ c2)
    (hk : impl_shapeOk.f k l1 = some (shSize l1)) (h : shOk l1 = true) (hne : l2.length = l1.length) (ho : inR off = false) :
    Calls Try.prog 63 #[.agg #[.int .i64 off, .slice A1 l1.length c1, .slice A2 l2.length c2]] w fun e w' => e = .returned (.tuple #[.agg (lay zero12), .bool false]) ∧ Below w.heap.size w w' := by
  have HR1 := Aside0.mk hr1
  have HC1 := Aside0.mk hc1
  have HR2 := Aside0.mk hr2
  have HC2 := Aside0.mk hc2
  clear hr1 hc1 hr2 hc2
  have e : shSize l1 = (prod l1, true) := by simp [shSize, h]
  rw [e] at hk
  have HK := Aside0.mk hk
  clear hk e h
  have q1 : ((l2.length : Int) != (l1.length : Int)) = false := by simp; omega
  have q2 : (l2.length != l1.length) = false := by simpa using hne
  have HI : Aside0 (impl_within.f off (-10000) 10000 = some false) := ⟨by rw [within_eq]; exact congrArg some ho⟩
  clear hne ho
  go_enter Try.func63, Try.ntmps63
  go_wp2_with (first | ((with_reducible refine gate_dst (N := 1) rfl ?_); refine box_event ?hg (N := 1) ?hd (cs := #[.int .i64 off, .slice A1 l1.length c1, .slice A2 l2.length c2]) (t := 33) ?hr ?_; (case hd => rfl); (case hg => rfl); (case hr => first | (go_simp; done) | (go_simp; rfl)); intro g1 hg1 w1 hb1 hB1; have HB1 := Aside0.mk hb1; have HW := Aside0.mk hB1; have HG1 := Aside0.mk hg1; clear hb1 hB1 hg1) | ((with_reducible refine gate_dst (N := 2) rfl ?_); refine box_event ?hg (N := 2) ?hd (cs := lay zero12) (t := 67) ?hr ?_; (case hd => rfl); (case hg => rfl); (case hr => first | (go_simp; done) | (go_simp; rfl)); intro g2 hg2 w2 hb2 hB2; have HB2 := Aside0.mk hb2; have nw := Aside0.mk (below_step HW.out hB2); have HLT := Aside0.mk (show g1 < g2 by have := blk_lt HB1.out; omega); have HGE := Aside0.mk (show w.heap.size ≤ g2 by have h1 := blk_lt HB1.out; have h2 := HG1.out; omega); have n1 := Aside0.mk (blk_below HB1.out hB2); clear HB1 HW; have HB1 := n1; have HW := nw; clear n1 nw; clear hb2 hB2 hg2; have hv0 : w2.cell? ⟨g1, 0, none⟩ = some (.int .i64 off) := (blk_cell HB1.out 0).trans rfl; have hv1 : w2.cell? ⟨g1, 1, none⟩ = some (.slice A1 l1.length c1) := (blk_cell HB1.out 1).trans rfl; have hv2 : w2.cell? ⟨g1, 2, none⟩ = some (.slice A2 l2.length c2) := (blk_cell HB1.out 2).trans rfl) | (go_at_call 52; refine (impl_shapeOk.calls k _ _ l1 (prod l1) true _ ?s1 ?s2 HK.out).mono ?_; (case s1 => exact Kd.C_below HR1.out HW.out); (case s2 => exact HC1.out); rintro e w5 ⟨rfl, ⟨⟨n5, rfl⟩⟩⟩) | (go_at_call 54; refine (impl_within.calls _ _ _ false _ HI.out).mono ?_; rintro e w6 ⟨rfl, ⟨⟨n6, rfl⟩⟩⟩) | ((with_reducible refine gate_store rfl ?_); refine wpList_store_row rfl 67 (.tmp 2) (.tmp 32) rfl g2 (lay zero12) rfl rfl 67 (lay zero12) (by (with_reducible repeat (first | refine blk_drew ?_ | refine blk_drewN ?_ _ | refine blk_alloc ?_ _)); exact HB2.out) (info67 _ rfl) rfl (lay_one _) ?_))
  refine bodyPost_ret (results_ct rfl _ _ g2 67 (lay zero12) (0, 0) _ rfl (setRow_heap _ g2 _ _ _ (0, 0) (by (with_reducible repeat (first | refine blk_drew ?_ | refine blk_drewN ?_ _ | refine blk_alloc ?_ _)); exact HB2.out)) Try.underlying67 rfl (info67 _ rfl)) rfl ⟨rfl, below_setRow (by repeat (first | exact HW.out | apply below_drew1 | apply pw_below_drewN)) HGE.out _⟩
end Go.Proofs.Ytipjhbngbaifeaa.PA

namespace Go.Proofs.Ytipjhbngbaifeaa.PA
open Go.RowKit Go.Proofs.YtipjhbngbaifeaaW.PrintWords Go.Proofs.YtipjhbngbaifeaaW.PrintLast Go.Proofs.YtipjhbngbaifeaaW.PrintMore
set_option linter.unusedVariables false
set_option linter.unusedSimpArgs false
theorem slice_all (a : Addr) (W : World) : (Instr.sliceAt 65 (.pointer (some a)) none none none).run Try.prog W = .ok (.slice (some a) 5 5) W := by
  have hal : Try.prog.arrayLen 65 = 5 := by kernel_rfl
  have hel : Try.prog.elem 65 = 3 := by kernel_rfl
  have := run_sliceAt_array_all (P := Try.prog) (w := W) 65 a (by kernel_rfl)
  rw [hal, hel] at this
  obtain ⟨i, hi, hz⟩ := Option.map_eq_some_iff.1 info3
  rw [this]
  simp [sizeOf, typeInfo, hi, slicedAt, Addr.add]
theorem lay_splice (off n : Int) (l1 : List Int) (h : l1.length ≤ 5) : (splice (nums .i64 (off :: n :: List.replicate 10 0)) 2 (nums .i64 l1)).toArray = lay (off :: n :: (pad5 l1 ++ List.replicate 5 0)) := by
  unfold splice lay pad5
  congr 1
  have e : List.replicate 10 (0 : Int) = List.replicate l1.length 0 ++ (List.replicate (5 - l1.length) 0 ++ List.replicate 5 0) := by
    rw [List.replicate_append_replicate, List.replicate_append_replicate]; congr 1; omega
  rw [e]
  simp only [nums, List.map_cons, List.map_append, List.map_replicate, List.take_succ_cons, List.take_zero, List.length_map, List.drop_succ_cons, Nat.add_comm 2, Nat.add_eq, Nat.add_zero, List.cons_append, List.nil_append, List.append_assoc]
  rw [List.drop_left' (by simp)]
theorem lay_next {off n : Int} {l1 l2 : List Int} {j : Nat} {x : Int} (h5 : l1.length ≤ 5) (hne : l2.length = l1.length) (hj : j < l2.length) (hx : x = l2[j]) :
    (off :: n :: (pad5 l1 ++ (l2.take j ++ List.replicate (5 - j) 0))).set (7 + j) x = off :: n :: (pad5 l1 ++ (l2.take (j + 1) ++ List.replicate (5 - (j + 1)) 0)) := by
  have hp := pad5_len h5
  rw [show 7 + j = (5 + j) + 1 + 1 by omega, List.set_cons_succ, List.set_cons_succ, List.set_append_right _ _ (by omega), hp, show 5 + j - 5 = j by omega, List.set_append_right _ _ (by simp; omega), List.take_succ_eq_append_getElem hj]
  rw [show 5 - j = (5 - (j + 1)) + 1 by omega, List.replicate_succ]
  have : j - (List.take j l2).length = 0 := by simp; omega
  rw [this, hx]
  simp only [List.set_cons_zero, List.append_assoc, List.cons_append, List.nil_append]
set_option maxHeartbeats 2000000 in
set_option maxRecDepth 100000 in
theorem formed_d (k : Nat) (off : Int) (A1 A2 : Option Addr) (c1 c2 : Nat) (l1 l2 : List Int) (w : World) (hr1 : Kd.C (Kd.int .i64) w A1 l1.length l1) (hc1 : l1.length ≤ c1) (hr2 : Kd.C (Kd.int .i64) w A2 l2.length l2) (hc2 : l2.length ≤ c2)
    (hk : impl_shapeOk.f k l1 = some (shSize l1)) (h : shOk l1 = true) (hne : l2.length = l1.length) (ho : inR off = true) :
    Calls Try.prog 63 #[.agg #[.int .i64 off, .slice A1 l1.length c1, .slice A2 l2.length c2]] w fun e w' => e = .returned (.tuple #[.agg (lay (formedL off l1 l2)), .bool (formedB off l1 l2)]) ∧ Below w.heap.size w w' := by
  have HR1 := Aside0.mk hr1
  have HC1 := Aside0.mk hc1
  have HR2 := Aside0.mk hr2
  have HC2 := Aside0.mk hc2
  clear hr1 hc1 hr2 hc2
  have e : shSize l1 = (prod l1, true) := by simp [shSize, h]
  rw [e] at hk
  have HK := Aside0.mk hk
  have H5 := Aside0.mk (shOk_len h)
  clear hk e
  have HOK := Aside0.mk h
  clear h
  have q1 : ((l2.length : Int) != (l1.length : Int)) = false := by simp; omega
  have q2 : (l2.length != l1.length) = false := by simpa using hne
  have HI : Aside0 (impl_within.f off (-10000) 10000 = some true) := ⟨by rw [within_eq]; exact congrArg some ho⟩
  have HNE := Aside0.mk hne
  have HO := Aside0.mk ho
  clear hne ho
  go_enter Try.func63, Try.ntmps63
  go_upto_region 5 with (first | ((with_reducible refine gate_dst (N := 1) rfl ?_); refine box_event ?hg (N := 1) ?hd (cs := #[.int .i64 off, .slice A1 l1.length c1, .slice A2 l2.length c2]) (t := 33) ?hr ?_; (case hd => rfl); (case hg => rfl); (case hr => first | (go_simp; done) | (go_simp; rfl)); intro g1 hg1 w1 hb1 hB1; have HB1 := Aside0.mk hb1; have HW := Aside0.mk hB1; have HG1 := Aside0.mk hg1; clear hb1 hB1 hg1) | ((with_reducible refine gate_dst (N := 2) rfl ?_); refine box_event ?hg (N := 2) ?hd (cs := lay zero12) (t := 67) ?hr ?_; (case hd => rfl); (case hg => rfl); (case hr => first | (go_simp; done) | (go_simp; rfl)); intro g2 hg2 w2 hb2 hB2; have HB2 := Aside0.mk hb2; have nw := Aside0.mk (below_step HW.out hB2); have HLT := Aside0.mk (show g1 < g2 by have := blk_lt HB1.out; omega); have HGE := Aside0.mk (show w.heap.size ≤ g2 by have h1 := blk_lt HB1.out; have h2 := HG1.out; omega); have n1 := Aside0.mk (blk_below HB1.out hB2); clear HB1 HW; have HB1 := n1; have HW := nw; clear n1 nw; clear hb2 hB2 hg2; have hv0 : w2.cell? ⟨g1, 0, none⟩ = some (.int .i64 off) := (blk_cell HB1.out 0).trans rfl; have hv1 : w2.cell? ⟨g1, 1, none⟩ = some (.slice A1 l1.length c1) := (blk_cell HB1.out 1).trans rfl; have hv2 : w2.cell? ⟨g1, 2, none⟩ = some (.slice A2 l2.length c2) := (blk_cell HB1.out 2).trans rfl) | (go_at_call 52; refine (impl_shapeOk.calls k _ _ l1 (prod l1) true _ ?s1 ?s2 HK.out).mono ?_; (case s1 => exact Kd.C_below HR1.out HW.out); (case s2 => exact HC1.out); rintro e w5 ⟨rfl, ⟨⟨n5, rfl⟩⟩⟩) | (go_at_call 54; refine (impl_within.calls _ _ _ true _ HI.out).mono ?_; rintro e w6 ⟨rfl, ⟨⟨n6, rfl⟩⟩⟩) | ((with_reducible refine gate_dst (N := 6) rfl ?_); refine box_event ?hg (N := 6) ?hd (cs := lay zero12) (t := 67) ?hr ?_; (case hd => rfl); (case hg => rfl); (case hr => first | (go_simp; done) | (go_simp; rfl)); intro g3 hg3 w3 hb3 hB3; have HB3 := Aside0.mk hb3; have nw := Aside0.mk (below_step (by repeat (first | exact HW.out | apply below_drew1 | apply pw_below_drewN)) hB3); have HLT2 := Aside0.mk (show g2 < g3 by have := blk_lt HB2.out; have e := hg3; simp at e; omega); have n1 := Aside0.mk (blk_below (g := g1) (o := .cells #[.int .i64 off, .slice A1 l1.length c1, .slice A2 l2.length c2] 33 (0, 0)) (by (with_reducible repeat (first | refine blk_drew ?_ | refine blk_drewN ?_ _ | refine blk_alloc ?_ _)); exact HB1.out) hB3); have n2 := Aside0.mk (blk_below (g := g2) (o := .cells (lay zero12) 67 (0, 0)) (by (with_reducible repeat (first | refine blk_drew ?_ | refine blk_drewN ?_ _ | refine blk_alloc ?_ _)); exact HB2.out) hB3); clear HB1 HB2 HW; have HB1 := n1; have HB2 := n2; have HW := nw; clear n1 n2 nw; clear hb3 hB3 hg3) | ((with_reducible refine gate_store rfl ?_); refine wpList_store_row rfl 67 (.tmp 6) (.tmp 38) rfl g3 (lay (off :: (l1.length : Int) :: List.replicate 10 0)) rfl rfl 67 (lay zero12) HB3.out (info67 _ rfl) rfl (lay_one _) ?_))
  have NE1 := Aside0.mk (show g1 ≠ g3 by have := HLT.out; have := HLT2.out; omega)
  have NE2 := Aside0.mk (show g2 ≠ g3 by have := HLT2.out; omega)
  have B1 := Aside0.mk ((setRow_other w3 g3 g1 (lay (off :: (l1.length : Int) :: List.replicate 10 0)) NE1.out).trans HB1.out)
  have B2 := Aside0.mk ((setRow_other w3 g3 g2 (lay (off :: (l1.length : Int) :: List.replicate 10 0)) NE2.out).trans HB2.out)
  have B3 := Aside0.mk (setRow_heap w3 g3 _ (lay (off :: (l1.length : Int) :: List.replicate 10 0)) _ _ HB3.out)
  have BW := Aside0.mk (below_setRow HW.out (show w.heap.size ≤ g3 by have := HGE.out; have := HLT2.out; omega) (lay (off :: (l1.length : Int) :: List.replicate 10 0)))
  obtain ⟨W4, hW4⟩ : ∃ W, w3.setRow g3 (lay (off :: (l1.length : Int) :: List.replicate 10 0)) = W := ⟨_, rfl⟩
  rw [hW4] at B1 B2 B3 BW ⊢
  clear hW4 HB1 HB2 HB3 HW hv0 hv1 hv2
  have hu1 : W4.cell? ⟨g1, 1, none⟩ = some (.slice A1 l1.length c1) := (blk_cell B1.out 1).trans rfl
  have hs := slice_all ⟨g3, 2, none⟩
  have HCR := Aside0.mk (Kd.reads_of_C (d := (0 : Int)) (Kd.C_below HR1.out BW.out))
  go_region_law (refine step_copy_splice rfl (.tmp 40) (.tmp 42) 23 23 rfl 3 Try.underlying23 (by kernel_rfl) (some ⟨g3, 2, none⟩) A1 5 5 l1.length c1 rfl rfl g3 2 (nums .i64 (off :: (l1.length : Int) :: List.replicate 10 0)) 67 B3.out (nums .i64 l1) ?hn ?hpos ?hfit ?h1 g3 W4.drew (Below.refl _ _) (Nat.le_refl _) ?_; (case hn => rw [nums_length]; exact (Nat.min_eq_left H5.out).symm); (case hpos => intro hp; rw [nums_length] at hp; obtain ⟨ad, e, hc⟩ := HCR.out.2.2 hp; refine ⟨rfl, ad, e, fun j v hv => ?_⟩; simp only [nums, List.getElem?_map, Option.map_eq_some_iff] at hv; obtain ⟨x, hx, rfl⟩ := hv; have hj := (List.getElem?_eq_some_iff.1 hx).1; rw [show W4.drew.cell? (ad.add j) = W4.cell? (ad.add j) from rfl, hc j hj]; simp [List.getD_eq_getElem?_getD, hx]); (case hfit => have := H5.out; simp [nums_length]; omega); (case h1 => intro v hv; simp only [nums, List.mem_map] at hv; obtain ⟨x, _, rfl⟩ := hv; rfl); intro W5 hcp hB5)
  have LE := Aside0.mk (show w.heap.size ≤ g3 by have := HGE.out; have := HLT2.out; omega)
  have W5B := Aside0.mk ((below_drew1 BW.out).trans (hB5.mono LE.out))
  have C2 := Aside0.mk ((hB5.block g2 HLT2.out).trans B2.out)
  have hu2 : W5.cell? ⟨g1, 2, none⟩ = some (.slice A2 l2.length c2) := (blk_cell ((hB5.block g1 (show g1 < g3 by have := HLT.out; have := HLT2.out; omega)).trans B1.out) 2).trans rfl
  have C3 := Aside0.mk (by have h0 := hcp.out; rw [lay_splice _ _ _ H5.out] at h0; exact h0 : W5.heap[g3]? = some (.cells (lay (off :: (l1.length : Int) :: (pad5 l1 ++ List.replicate 5 0))) 67 (0, 0)))
  clear hcp hB5 B1 B2 B3 hu1 hs HCR BW
  go_wp2_with fail
  go_loopg [7, 8, 47] (l2.length + 1) (fun kq v7 v8 v47 w' => ∃ j : Nat, v47 = .int .i64 (j : Int) ∧ Aside0 (j + kq = l2.length + 1 ∧ j ≤ l2.length) ∧ Aside0 ((l2.take j).all inR = true) ∧ Aside0 (w'.heap[g2]? = some (.cells (lay zero12) 67 (0, 0))) ∧ Aside0 (w'.heap[g3]? = some (.cells (lay (off :: (l1.length : Int) :: (pad5 l1 ++ (l2.take j ++ List.replicate (5 - j) 0)))) 67 (0, 0))) ∧ Aside0 (Below w.heap.size w w'))
  case atStart => exact ⟨0, rfl, ⟨by omega⟩, ⟨rfl⟩, C2, C3, W5B⟩
  case round =>
    clear C2 C3 W5B hu2
    obtain ⟨j, rfl, HJ, HA, D2, D3, HW⟩ := hrel
    have HL12 := Aside0.mk (show (off :: (l1.length : Int) :: (pad5 l1 ++ (l2.take j ++ List.replicate (5 - j) 0))).length = 12 by have := HJ.out; have := H5.out; have := HNE.out; simp [pad5_len H5.out]; omega)
    cases gk with
    | zero => exact absurd HJ.out (by omega)
    | succ k1 =>
      by_cases hj : j < l2.length
      · have p1 : 0 ≤ (j : Int) := by omega
        have p2 : (j : Int) < (l2.length : Int) := by omega
        obtain ⟨ad1, e1, hx1⟩ := Kd.at_int (Kd.C_below HR2.out HW.out) (j : Int) p1 p2
        cases e1
        rw [Int.toNat_natCast] at hx1
        have hjb := decide_eq_true p2
        have hja := decide_eq_true p1
        replace p1 := eq_true p1
        replace p2 := eq_true p2
        have HJL := Aside0.mk hj
        have HX := Aside0.mk (show rd l2 (j : Int) = l2[j]'HJL.out by simp [rd, HJL.out])
        have hm : j < 5 := by have := HNE.out; have := H5.out; omega
        clear hj
        by_cases hin : inR (rd l2 (j : Int)) = true
        · have HI2 : Aside0 (impl_within.f (rd l2 (j : Int)) (-10000) 10000 = some true) := ⟨by rw [within_eq]; exact congrArg some hin⟩
          have hcc := lay_cell D3.out (7 + j) (by have := HL12.out; omega)
          have hff := blk_frozen D3.out (7 + j)
          go_wp2_with (first | (go_at_call 54; refine (impl_within.calls _ _ _ true _ HI2.out).mono ?_; rintro e w6 ⟨rfl, ⟨⟨n6, rfl⟩⟩⟩))
          go_roundg k1
          case measure => omega
          case rel =>
            refine ⟨j + 1, rfl, ⟨by have := HJ.out; have := HJL.out; omega⟩, ⟨?_⟩, ⟨blk_farG (by (with_reducible repeat (first | refine blk_drew ?_ | refine blk_drewN ?_ _)); exact D2.out) NE2.out _⟩, ⟨?_⟩, ⟨below_set (by repeat (first | (with_reducible first | exact HW.out | apply below_drew1 | apply pw_below_drewN) | exact HW.out)) LE.out⟩⟩
            · rw [List.take_succ_eq_append_getElem HJL.out, List.all_append, HA.out]
              simp only [List.all_cons, List.all_nil, Bool.and_true, Bool.true_and]
              rw [← HX.out]; exact hin
            · have h0 := lay_put (t := 67) (by (with_reducible repeat (first | refine blk_drew ?_ | refine blk_drewN ?_ _)); exact D3.out) (7 + j) (rd l2 (j : Int))
              rw [lay_next H5.out HNE.out HJL.out HX.out] at h0
              exact h0
        · have HI2 : Aside0 (impl_within.f (rd l2 (j : Int)) (-10000) 10000 = some false) := ⟨by rw [within_eq]; exact congrArg some ((Bool.not_eq_true _).mp hin)⟩
          have HNO : Aside0 (formedB off l1 l2 = false) := ⟨by
            unfold formedB
            rw [Bool.and_eq_false_iff]; right
            rw [List.all_eq_false]
            exact ⟨l2[j]'HJL.out, List.getElem_mem _, by rw [← HX.out]; exact hin⟩⟩
          clear hin
          have HNL : Aside0 (formedL off l1 l2 = zero12) := ⟨by unfold formedL; rw [HNO.out]; rfl⟩
          go_wp2_with (first | (go_at_call 54; refine (impl_within.calls _ _ _ false _ HI2.out).mono ?_; rintro e w6 ⟨rfl, ⟨⟨n6, rfl⟩⟩⟩) | ((with_reducible refine gate_store rfl ?_); refine wpList_store_row rfl 67 (.tmp 2) (.tmp 55) rfl g2 (lay zero12) rfl rfl 67 (lay zero12) (by (with_reducible repeat (first | refine blk_drew ?_ | refine blk_drewN ?_ _ | refine blk_alloc ?_ _)); exact D2.out) (info67 _ rfl) rfl (lay_one _) ?_))
          refine bodyPost_ret (results_ct rfl _ _ g2 67 (lay zero12) (0, 0) _ rfl (setRow_heap _ g2 _ _ _ (0, 0) (by (with_reducible repeat (first | refine blk_drew ?_ | refine blk_drewN ?_ _ | refine blk_alloc ?_ _)); exact D2.out)) Try.underlying67 rfl (info67 _ rfl)) rfl ⟨by rw [HNO.out, HNL.out]; rfl, below_setRow (by repeat (first | (with_reducible first | exact HW.out | apply below_drew1 | apply pw_below_drewN) | exact HW.out)) HGE.out _⟩
      · have hjb : decide ((j : Int) < (l2.length : Int)) = false := decide_eq_false (by omega)
        have hjc : decide (j < l2.length) = false := decide_eq_false hj
        have hjd : (j < l2.length) = False := eq_false hj
        have HYES : Aside0 (formedB off l1 l2 = true) := ⟨by
          have hl := HA.out
          rw [List.take_of_length_le (by omega)] at hl
          simp [formedB, HOK.out, HNE.out, HO.out, hl]⟩
        have HYL : Aside0 ((off :: (l1.length : Int) :: (pad5 l1 ++ (l2.take j ++ List.replicate (5 - j) 0))) = formedL off l1 l2) := ⟨by
          unfold formedL
          rw [if_pos HYES.out]
          have := HJ.out
          rw [List.take_of_length_le (by omega), show j = l2.length by omega]; rfl⟩
        clear hj
        go_wp2_with (first | ((with_reducible refine gate_dst (N := 61) rfl ?_); refine wpList_load_row rfl 67 (.tmp 6) rfl g3 rfl 67 (lay _) (0, 0) _ (by (with_reducible repeat (first | refine blk_drew ?_ | refine blk_drewN ?_ _ | refine blk_alloc ?_ _)); exact D3.out) Try.underlying67 rfl (info67 _ HL12.out) ?_) | ((with_reducible refine gate_store rfl ?_); refine wpList_store_row rfl 67 (.tmp 2) (.tmp 61) rfl g2 (lay (off :: (l1.length : Int) :: (pad5 l1 ++ (l2.take j ++ List.replicate (5 - j) 0)))) rfl rfl 67 (lay zero12) (by (with_reducible repeat (first | refine blk_drew ?_ | refine blk_drewN ?_ _ | refine blk_alloc ?_ _)); exact D2.out) (info67 _ HL12.out) (by rw [lay_size, lay_size, HL12.out]; rfl) (lay_one _) ?_))
        refine bodyPost_ret (results_ct rfl _ _ g2 67 (lay (off :: (l1.length : Int) :: (pad5 l1 ++ (l2.take j ++ List.replicate (5 - j) 0)))) (0, 0) _ rfl (setRow_heap _ g2 _ _ _ (0, 0) (by (with_reducible repeat (first | refine blk_drew ?_ | refine blk_drewN ?_ _ | refine blk_alloc ?_ _)); exact D2.out)) Try.underlying67 rfl (info67 _ HL12.out)) rfl ⟨by rw [HYES.out, ← HYL.out]; rfl, below_setRow (by repeat (first | (with_reducible first | exact HW.out | apply below_drew1 | apply pw_below_drewN) | exact HW.out)) HGE.out _⟩
theorem formed_calls (off : Int) (A1 A2 : Option Addr) (c1 c2 : Nat) (l1 l2 : List Int) (w : World) (hr1 : Kd.C (Kd.int .i64) w A1 l1.length l1) (hc1 : l1.length ≤ c1) (hr2 : Kd.C (Kd.int .i64) w A2 l2.length l2) (hc2 : l2.length ≤ c2) :
    Calls Try.prog 63 #[.agg #[.int .i64 off, .slice A1 l1.length c1, .slice A2 l2.length c2]] w fun e w' => e = .returned (.tuple #[.agg (lay (formedL off l1 l2)), .bool (formedB off l1 l2)]) ∧ Below w.heap.size w w' := by
  obtain ⟨k, hk0⟩ := shapeOk_ev l1
  have hk := hk0 k (Nat.le_refl _)
  by_cases h : shOk l1 = true
  · by_cases hne : l2.length = l1.length
    · by_cases ho : inR off = true
      · exact formed_d k off A1 A2 c1 c2 l1 l2 w hr1 hc1 hr2 hc2 hk h hne ho
      · have e : formedB off l1 l2 = false := by simp [formedB, (Bool.not_eq_true _).mp ho]
        have e2 : formedL off l1 l2 = zero12 := by simp [formedL, e]
        rw [e, e2]; exact formed_c k off A1 A2 c1 c2 l1 l2 w hr1 hc1 hr2 hc2 hk h hne ((Bool.not_eq_true _).mp ho)
    · have e : formedB off l1 l2 = false := by simp [formedB, hne]
      have e2 : formedL off l1 l2 = zero12 := by simp [formedL, e]
      rw [e, e2]; exact formed_b k off A1 A2 c1 c2 l1 l2 w hr1 hc1 hr2 hc2 hk h hne
  · have e : formedB off l1 l2 = false := by simp [formedB, (Bool.not_eq_true _).mp h]
    have e2 : formedL off l1 l2 = zero12 := by simp [formedL, e]
    rw [e, e2]; exact formed_a k off A1 A2 c1 c2 l1 l2 w hr1 hc1 hr2 hc2 hk ((Bool.not_eq_true _).mp h)
end Go.Proofs.Ytipjhbngbaifeaa.PA

namespace Go.Proofs.Ytipjhbngbaifeaa.PA
open Go.RowKit Go.Proofs.YtipjhbngbaifeaaW.PrintWords Go.Proofs.YtipjhbngbaifeaaW.PrintLast Go.Proofs.YtipjhbngbaifeaaW.PrintMore
set_option linter.unusedVariables false
set_option linter.unusedSimpArgs false
theorem formed_n {r : Nat} {l1 l2 : List Int} (e1 : r = l1.length) (e2 : r = l2.length) (off : Int) (A1 A2 : Option Addr) (c1 c2 : Nat) (w : World) (hr1 : Kd.C (Kd.int .i64) w A1 l1.length l1) (hc1 : r ≤ c1) (hr2 : Kd.C (Kd.int .i64) w A2 l2.length l2) (hc2 : r ≤ c2) :
    Calls Try.prog 63 #[.agg #[.int .i64 off, .slice A1 r c1, .slice A2 r c2]] w fun e w' => e = .returned (.tuple #[.agg (lay (formedL off l1 l2)), .bool (formedB off l1 l2)]) ∧ Below w.heap.size w w' := by
  have h := formed_calls off A1 A2 c1 c2 l1 l2 w hr1 (e1 ▸ hc1) hr2 (e2 ▸ hc2)
  rw [← e1, ← e2] at h
  exact h
theorem R_row67 {w : World} {base g : Nat} {ok : Nat → Prop} {v : Value} {xs : List Int} {cells : Array Value} (h : (Kd.int .i64).R 3 w base ok v xs) (hb : w.heap[g]? = some (.cells cells 67 (0, 0))) (cs : Array Value) : (Kd.int .i64).R 3 (w.setRow g cs) base ok v xs :=
  Kd.R_mono (Kd.R_step (Kd.R_types h hb (by intro q hq; simp [Kd.int, Kd.scalar] at hq; omega)) (fun k hk _ => setRow_other w g k cs hk.2)) (fun _ hk => hk.1)
set_option maxHeartbeats 2000000 in
set_option maxRecDepth 100000 in
theorem view_diff_ok (l b : List Int) (r : Nat) (hl : l.length = 12) (hb : b.length = 12) (hr : gi l 1 = (r : Int)) (h5 : r ≤ 5) (hd : l ≠ b) (hf : formedB (gi l 0) ((l.drop 2).take r) ((l.drop 7).take r) = true) (w : World) :
    Calls Try.prog 72 #[.agg (lay l), .agg (lay b)] w fun e w' => ∃ v1_ v2_ : Value, e = .returned (.tuple #[.agg #[.int .i64 (gi l 0), v1_, v2_], .bool true]) ∧ Kd.R (Kd.int .i64) 3 w' w.heap.size (fun k_ => some k_ ≠ (v2_ : Value).ownBlock) v1_ ((l.drop 2).take r) ∧ Kd.R (Kd.int .i64) 3 w' w.heap.size (fun k_ => some k_ ≠ (v1_ : Value).ownBlock) v2_ ((l.drop 7).take r) ∧ Below w.heap.size w w' := by
  have HL := Aside0.mk hl
  have HL2 := Aside0.mk hb
  have HR := Aside0.mk hr
  have HD := Aside0.mk hd
  have HF := Aside0.mk hf
  clear hl hb hr hd hf
  go_enter Try.func72, Try.ntmps72
  go_upto_region 1 with (first | ((with_reducible refine gate_dst (N := 2) rfl ?_); refine box_event ?hg (N := 2) ?hd (cs := lay l) (t := 67) ?hr ?_; (case hd => rfl); (case hg => rfl); (case hr => first | (go_simp; done) | (go_simp; rfl)); intro g1 hg1 w1 hb1 hB1; have HB1 := Aside0.mk hb1; have HW := Aside0.mk hB1; have HG1 := Aside0.mk hg1; clear hb1 hB1 hg1) | ((with_reducible refine gate_dst (N := 3) rfl ?_); refine box_event ?hg (N := 3) ?hd (cs := lay b) (t := 67) ?hr ?_; (case hd => rfl); (case hg => rfl); (case hr => first | (go_simp; done) | (go_simp; rfl)); intro g2 hg2 w2 hb2 hB2; have HB2 := Aside0.mk hb2; have nw := Aside0.mk (below_step HW.out hB2); have HG2 := Aside0.mk (show g1 < g2 by have := blk_lt HB1.out; omega); have n1 := Aside0.mk (blk_below HB1.out hB2); clear HB1 HW; have HB1 := n1; have HW := nw; clear n1 nw; clear hb2 hB2 hg2) | ((with_reducible refine gate_dst (N := 4) rfl ?_); refine box_event ?hg (N := 4) ?hd (cs := #[.int .i64 0, .slice none 0 0, .slice none 0 0]) (t := 33) ?hr ?_; (case hd => rfl); (case hg => rfl); (case hr => first | (go_simp; done) | (go_simp; rfl)); intro g3 hg3 w3 hb3 hB3; have HB3 := Aside0.mk hb3; have nw := Aside0.mk (below_step HW.out hB3); have HG3 := Aside0.mk (show g2 < g3 by have := blk_lt HB2.out; omega); have n1 := Aside0.mk (blk_below HB1.out hB3); have n2 := Aside0.mk (blk_below HB2.out hB3); clear HB1 HB2 HW; have HB1 := n1; have HB2 := n2; have HW := nw; clear n1 n2 nw; clear hb3 hB3 hg3))
  have hs1 := slice_arr ⟨g1, 2, none⟩ r h5
  have hs2 := slice_arr ⟨g1, 7, none⟩ r h5
  have hc0 := lay_cell HB1.out 0 (by have := HL.out; omega)
  have hc1 : w3.cell? ⟨g1, 1, none⟩ = some (.int .i64 (r : Int)) := by rw [← HR.out]; exact lay_cell HB1.out 1 (by have := HL.out; omega)
  have HN1_3 := Aside0.mk (Nat.ne_of_lt (blk_lt HB1.out))
  have HN2_3 := Aside0.mk (Nat.ne_of_lt (blk_lt HB2.out))
  have HN3_3 := Aside0.mk (Nat.ne_of_lt (blk_lt HB3.out))
  have HLT3 := Aside0.mk (blk_lt HB3.out)
  have HGE3 := Aside0.mk (below_size HW.out)
  go_cut [6] (fun v W => ViewMade w l b r g1 g2 g3 v W)
  case first =>
    go_region_held3 (fun w' => w'.cell? ⟨g1, 0, none⟩ = some (.int .i64 (gi l 0)) ∧ w'.cell? ⟨g1, 1, none⟩ = some (.int .i64 (r : Int))) (exact ⟨lay_cell (t := 67) (by (with_reducible repeat (first | refine blk_drew ?_ | refine blk_alloc ?_ _ | refine blk_farG ?_ HN1_5.out _ | refine blk_farG ?_ HN2_5.out _ | refine blk_farG ?_ HN3_5.out _ | refine blk_farG ?_ HN1_3.out _ | refine blk_farG ?_ HN2_3.out _ | refine blk_farG ?_ HN3_3.out _)); exact HB1.out) 0 (by have := HL.out; omega), by rw [← HR.out]; exact lay_cell (t := 67) (by (with_reducible repeat (first | refine blk_drew ?_ | refine blk_alloc ?_ _ | refine blk_farG ?_ HN1_5.out _ | refine blk_farG ?_ HN2_5.out _ | refine blk_farG ?_ HN3_5.out _ | refine blk_farG ?_ HN1_3.out _ | refine blk_farG ?_ HN2_3.out _ | refine blk_farG ?_ HN3_3.out _)); exact HB1.out) 1 (by have := HL.out; omega)⟩) (first | (go_at_call_of 57 (Value.slice (some { block := g1, off := 2 }) r 5); refine (clone_at (some ⟨g1, 2, none⟩) r 5 ((l.drop 2).take r) (by have := HL.out; simp; omega) _ (lay_reads (t := 67) (by (with_reducible repeat (first | refine blk_drew ?_ | refine blk_alloc ?_ _ | refine blk_farG ?_ HN1_5.out _ | refine blk_farG ?_ HN2_5.out _ | refine blk_farG ?_ HN3_5.out _ | refine blk_farG ?_ HN1_3.out _ | refine blk_farG ?_ HN2_3.out _ | refine blk_farG ?_ HN3_3.out _)); exact HB1.out) 2 r (by have := HL.out; omega) (by have := HL.out; omega)) h5 (by omega)).mono ?_; rintro e w5 ⟨v1, rfl, ho1, hb5⟩; (try (have hnw : Aside0 (w5.heap[w3.heap.size]? = some (.cells #[.int .i64 0, .slice none 0 0, .slice none 0 0] 33 (0, 0))) := ⟨blk_below (blk_new w3.drew (.cells #[.int .i64 0, .slice none 0 0, .slice none 0 0] 33)) hb5⟩)); obtain ⟨Aa, ca, rfl⟩ := Kd.R_slice ho1; have hla : ((l.drop 2).take r).length = r := (by have := HL.out; simp; omega); rw [hla] at ho1 ⊢; have HO1 := Aside0.mk (Kd.R_lower ho1 (below_size (by repeat (first | (with_reducible first | exact HW.out | apply below_alloc | apply below_drew1) | exact HW.out)))); clear ho1 hla; have n0 := Aside0.mk (blk_below (g := g1) (o := .cells (lay l) 67 (0, 0)) (by (with_reducible repeat (first | refine blk_drew ?_ | refine blk_alloc ?_ _ | refine blk_farG ?_ HN1_5.out _ | refine blk_farG ?_ HN2_5.out _ | refine blk_farG ?_ HN3_5.out _ | refine blk_farG ?_ HN1_3.out _ | refine blk_farG ?_ HN2_3.out _ | refine blk_farG ?_ HN3_3.out _)); exact HB1.out) hb5); have n1 := Aside0.mk (blk_below (g := g2) (o := .cells (lay b) 67 (0, 0)) (by (with_reducible repeat (first | refine blk_drew ?_ | refine blk_alloc ?_ _ | refine blk_farG ?_ HN1_5.out _ | refine blk_farG ?_ HN2_5.out _ | refine blk_farG ?_ HN3_5.out _ | refine blk_farG ?_ HN1_3.out _ | refine blk_farG ?_ HN2_3.out _ | refine blk_farG ?_ HN3_3.out _)); exact HB2.out) hb5); have n2 := Aside0.mk (blk_below (g := g3) (o := .cells #[.int .i64 0, .slice none 0 0, .slice none 0 0] 33 (0, 0)) (by (with_reducible repeat (first | refine blk_drew ?_ | refine blk_alloc ?_ _ | refine blk_farG ?_ HN1_5.out _ | refine blk_farG ?_ HN2_5.out _ | refine blk_farG ?_ HN3_5.out _ | refine blk_farG ?_ HN1_3.out _ | refine blk_farG ?_ HN2_3.out _ | refine blk_farG ?_ HN3_3.out _)); exact HB3.out) hb5); have nw := Aside0.mk (below_step (by repeat (first | (with_reducible first | exact HW.out | apply below_alloc | apply below_drew1) | exact HW.out)) hb5); clear HB1 HB2 HB3 HW; have HB1 := n0; have HB2 := n1; have HB3 := n2; have HW := nw; clear nw n0 n1 n2; have HN1_5 := Aside0.mk (Nat.ne_of_lt (blk_lt HB1.out)); have HN2_5 := Aside0.mk (Nat.ne_of_lt (blk_lt HB2.out)); have HN3_5 := Aside0.mk (Nat.ne_of_lt (blk_lt HB3.out)); have HLT5 := Aside0.mk (blk_lt HB3.out); have HGE5 := Aside0.mk (below_size HW.out); clear hb5) | (go_at_call_of 57 (Value.slice (some { block := g1, off := 7 }) r 5); refine (clone_at (some ⟨g1, 7, none⟩) r 5 ((l.drop 7).take r) (by have := HL.out; simp; omega) _ (lay_reads (t := 67) (by (with_reducible repeat (first | refine blk_drew ?_ | refine blk_alloc ?_ _ | refine blk_farG ?_ HN1_5.out _ | refine blk_farG ?_ HN2_5.out _ | refine blk_farG ?_ HN3_5.out _ | refine blk_farG ?_ HN1_3.out _ | refine blk_farG ?_ HN2_3.out _ | refine blk_farG ?_ HN3_3.out _)); exact HB1.out) 7 r (by have := HL.out; omega) (by have := HL.out; omega)) h5 (by omega)).mono ?_; rintro e w6 ⟨v2, rfl, ho2, hb6⟩; (try (have hnw : Aside0 (w6.heap[w5.heap.size]? = some (.cells #[.int .i64 0, .slice none 0 0, .slice none 0 0] 33 (0, 0))) := ⟨blk_below (blk_new w5 (.cells #[.int .i64 0, .slice none 0 0, .slice none 0 0] 33)) hb6⟩; have hx0 : _ = some (Value.int .i64 0) := (blk_cell hnw.out 0).trans rfl; have hx1 : _ = some (Value.slice none 0 0) := (blk_cell hnw.out 1).trans rfl; have hx2 : _ = some (Value.slice none 0 0) := (blk_cell hnw.out 2).trans rfl; have hy0 := blk_frozen hnw.out 0; have hy1 := blk_frozen hnw.out 1; have hy2 := blk_frozen hnw.out 2)); (try (have hnx : Aside0 (w6.heap[w3.heap.size]? = some (.cells #[.int .i64 0, .slice none 0 0, .slice none 0 0] 33 (0, 0))) := ⟨blk_below hnw.out hb6⟩; clear hnw; have hnw := hnx; clear hnx; have hx0 : _ = some (Value.int .i64 0) := (blk_cell hnw.out 0).trans rfl; have hx1 : _ = some (Value.slice none 0 0) := (blk_cell hnw.out 1).trans rfl; have hx2 : _ = some (Value.slice none 0 0) := (blk_cell hnw.out 2).trans rfl; have hy0 := blk_frozen hnw.out 0; have hy1 := blk_frozen hnw.out 1; have hy2 := blk_frozen hnw.out 2)); obtain ⟨Ab, cb, rfl⟩ := Kd.R_slice ho2; have hlb : ((l.drop 7).take r).length = r := (by have := HL.out; simp; omega); rw [hlb] at ho2 ⊢; have HO1n := Aside0.mk (Kd.R_elder' (by (with_reducible repeat (first | apply Kd.R_alloc | apply Kd.R_drewN | apply Kd.R_drew)); exact HO1.out) (Kd.R_base ho2) hb6); have HO2 := Aside0.mk (Kd.R_lower (Kd.R_new' ho2 (Kd.R_lt (by (with_reducible repeat (first | apply Kd.R_alloc | apply Kd.R_drewN | apply Kd.R_drew)); exact HO1.out))) (below_size (by repeat (first | (with_reducible first | exact HW.out | apply below_alloc | apply below_drew1) | exact HW.out)))); clear HO1; have HO1 := HO1n; clear HO1n ho2 hlb; have n0 := Aside0.mk (blk_below (g := g1) (o := .cells (lay l) 67 (0, 0)) (by (with_reducible repeat (first | refine blk_drew ?_ | refine blk_alloc ?_ _ | refine blk_farG ?_ HN1_5.out _ | refine blk_farG ?_ HN2_5.out _ | refine blk_farG ?_ HN3_5.out _ | refine blk_farG ?_ HN1_3.out _ | refine blk_farG ?_ HN2_3.out _ | refine blk_farG ?_ HN3_3.out _)); exact HB1.out) hb6); have n1 := Aside0.mk (blk_below (g := g2) (o := .cells (lay b) 67 (0, 0)) (by (with_reducible repeat (first | refine blk_drew ?_ | refine blk_alloc ?_ _ | refine blk_farG ?_ HN1_5.out _ | refine blk_farG ?_ HN2_5.out _ | refine blk_farG ?_ HN3_5.out _ | refine blk_farG ?_ HN1_3.out _ | refine blk_farG ?_ HN2_3.out _ | refine blk_farG ?_ HN3_3.out _)); exact HB2.out) hb6); have n2 := Aside0.mk (blk_below (g := g3) (o := .cells #[.int .i64 0, .slice none 0 0, .slice none 0 0] 33 (0, 0)) (by (with_reducible repeat (first | refine blk_drew ?_ | refine blk_alloc ?_ _ | refine blk_farG ?_ HN1_5.out _ | refine blk_farG ?_ HN2_5.out _ | refine blk_farG ?_ HN3_5.out _ | refine blk_farG ?_ HN1_3.out _ | refine blk_farG ?_ HN2_3.out _ | refine blk_farG ?_ HN3_3.out _)); exact HB3.out) hb6); have nw := Aside0.mk (below_step (by repeat (first | (with_reducible first | exact HW.out | apply below_alloc | apply below_drew1) | exact HW.out)) hb6); clear HB1 HB2 HB3 HW; have HB1 := n0; have HB2 := n1; have HB3 := n2; have HW := nw; clear nw n0 n1 n2; clear hb6))
    · go_wp2_with fail
      go_meet
      case rel => exact vmA HB1.out HB2.out HB3.out HO1.out HO2.out HW.out
    · go_wp2_with fail
      go_meet
      case rel => exact vmB hnw.out HN1_5.out HN2_5.out HLT5.out HGE5.out HB1.out HB2.out HB3.out HO1.out HO2.out HW.out
    · go_wp2_with fail
      go_meet
      case rel => exact vmB hnw.out HN1_3.out HN2_3.out HLT3.out HGE3.out HB1.out HB2.out HB3.out HO1.out HO2.out HW.out
  case rest =>
    obtain ⟨G, Aa, Ab, ca, cb, rfl, hG, hlt, k1, k2, k3, R1, R2, hW⟩ := hcut
    obtain ⟨e1, hca, C1⟩ := Kd.R_reads' R1
    obtain ⟨e2, hcb, C2⟩ := Kd.R_reads' R2
    have E1 := Aside0.mk e1
    have E2 := Aside0.mk e2
    have CA := Aside0.mk hca
    have CB := Aside0.mk hcb
    have KC1 := Aside0.mk C1
    have KC2 := Aside0.mk C2
    have KG := Aside0.mk hG
    have K1 := Aside0.mk k1
    have K2 := Aside0.mk k2
    have K3 := Aside0.mk k3
    have KR1 := Aside0.mk R1
    have KR2 := Aside0.mk R2
    have KW := Aside0.mk hW
    have KL := Aside0.mk hlt
    have KGE := Aside0.mk (show w.heap.size ≤ g3 by have := HG1.out; have := HG2.out; have := HG3.out; omega)
    clear hG k1 k2 k3 R1 R2 hW e1 e2 hca hcb C1 C2 hlt
    have hEq := eq_lay l b HL.out HL2.out
    rw [beq_eq_false_iff_ne.mpr HD.out] at hEq
    go_wp2_with (first | ((with_reducible refine gate_dst (N := 22) rfl ?_); refine wpList_load_row rfl 67 (.tmp 2) rfl g1 rfl 67 (lay _) (0, 0) _ K1.out Try.underlying67 rfl (info67 _ HL.out) ?_) | ((with_reducible refine gate_dst (N := 23) rfl ?_); refine wpList_load_row rfl 67 (.tmp 3) rfl g2 rfl 67 (lay _) (0, 0) _ K2.out Try.underlying67 rfl (info67 _ HL2.out) ?_) | ((with_reducible refine gate_dst (N := 27) rfl ?_); refine wpList_load_row rfl 33 (.tmp 6) rfl G rfl 33 #[.int .i64 (gi l 0), .slice Aa r ca, .slice Ab r cb] (0, 0) _ KG.out Try.underlying33 rfl (by kernel_rfl) ?_) | (go_at_call 63; refine (formed_n E1.out E2.out (gi l 0) Aa Ab ca cb _ KC1.out CA.out KC2.out CB.out).mono ?_; rw [HF.out]; rintro e w8 ⟨rfl, hb8⟩; have HB8 := Aside0.mk hb8; clear hb8) | ((with_reducible refine gate_dst (N := 7) rfl ?_); refine box_event ?hg (N := 7) ?hd (cs := lay zero12) (t := 67) ?hr ?_; (case hd => rfl); (case hg => rfl); (case hr => first | (go_simp; done) | (go_simp; rfl)); intro g8 hg8 w9 hb9 hB9; have N8 := Aside0.mk hb9; have NG := Aside0.mk (blk_below (g := G) (o := .cells #[.int .i64 (gi l 0), .slice Aa r ca, .slice Ab r cb] 33 (0, 0)) (by (with_reducible repeat (first | refine blk_drew ?_ | refine blk_drewN ?_ _ | refine blk_alloc ?_ _)); exact (blk_below KG.out HB8.out)) hB9); have N3 := Aside0.mk (blk_below (g := g3) (o := .cells #[.int .i64 0, .slice none 0 0, .slice none 0 0] 33 (0, 0)) (by (with_reducible repeat (first | refine blk_drew ?_ | refine blk_drewN ?_ _ | refine blk_alloc ?_ _)); exact (blk_below K3.out HB8.out)) hB9); have NR1 := Aside0.mk (Kd.R_below (Kd.R_below KR1.out HB8.out) hB9); have NR2 := Aside0.mk (Kd.R_below (Kd.R_below KR2.out HB8.out) hB9); have NW := Aside0.mk (below_step (below_step KW.out HB8.out) hB9); have XG := Aside0.mk (show G ≠ g8 by have := blk_lt (blk_below KG.out HB8.out); omega); have X3 := Aside0.mk (show g3 ≠ g8 by have := blk_lt (blk_below K3.out HB8.out); omega); have X8 := Aside0.mk (show w.heap.size ≤ g8 by have := KGE.out; have := blk_lt (blk_below K3.out HB8.out); omega); clear hb9 hB9 hg8) | ((with_reducible refine gate_store rfl ?_); refine wpList_store_row rfl 67 (.tmp 7) (.tmp 29) rfl g8 (lay (formedL (gi l 0) ((l.drop 2).take r) ((l.drop 7).take r))) rfl rfl 67 (lay zero12) N8.out (info67 _ formedL_len) (by rw [lay_size, lay_size, formedL_len]; rfl) (lay_one _) ?_) | ((with_reducible refine gate_dst (N := 34) rfl ?_); refine wpList_load_row rfl 33 (.tmp 6) rfl G rfl 33 #[.int .i64 (gi l 0), .slice Aa r ca, .slice Ab r cb] (0, 0) _ ((setRow_other w9 g8 G _ XG.out).trans NG.out) Try.underlying33 rfl (by kernel_rfl) ?_) | ((with_reducible refine gate_store rfl ?_); refine wpList_store_row rfl 33 (.tmp 4) (.tmp 34) rfl g3 #[.int .i64 (gi l 0), .slice Aa r ca, .slice Ab r cb] rfl rfl 33 #[.int .i64 0, .slice none 0 0, .slice none 0 0] ((setRow_other w9 g8 g3 _ X3.out).trans N3.out) (by kernel_rfl) rfl (by simp [Value.oneCell']) ?_))
    refine bodyPost_ret (results_ct rfl _ _ g3 33 #[.int .i64 (gi l 0), .slice Aa r ca, .slice Ab r cb] (0, 0) _ rfl (setRow_heap _ g3 _ _ _ (0, 0) ((setRow_other w9 g8 g3 _ X3.out).trans N3.out)) Try.underlying33 rfl (by kernel_rfl)) rfl ?_
    exact ⟨_, _, rfl, R_rowV (R_row67 NR1.out N8.out _) ((setRow_other w9 g8 g3 _ X3.out).trans N3.out) _, R_rowV (R_row67 NR2.out N8.out _) ((setRow_other w9 g8 g3 _ X3.out).trans N3.out) _, below_setRow (below_setRow NW.out X8.out _) KGE.out _⟩
set_option maxHeartbeats 2000000 in
set_option maxRecDepth 100000 in
theorem view_diff_no (l b : List Int) (r : Nat) (hl : l.length = 12) (hb : b.length = 12) (hr : gi l 1 = (r : Int)) (h5 : r ≤ 5) (hd : l ≠ b) (hf : formedB (gi l 0) ((l.drop 2).take r) ((l.drop 7).take r) = false) (w : World) :
    Calls Try.prog 72 #[.agg (lay l), .agg (lay b)] w fun e w' => ∃ v1_ v2_ : Value, e = .returned (.tuple #[.agg #[.int .i64 0, v1_, v2_], .bool false]) ∧ Kd.R (Kd.int .i64) 3 w' w.heap.size (fun k_ => some k_ ≠ (v2_ : Value).ownBlock) v1_ [] ∧ Kd.R (Kd.int .i64) 3 w' w.heap.size (fun k_ => some k_ ≠ (v1_ : Value).ownBlock) v2_ [] ∧ Below w.heap.size w w' := by
  have HL := Aside0.mk hl
  have HL2 := Aside0.mk hb
  have HR := Aside0.mk hr
  have HD := Aside0.mk hd
  have HF := Aside0.mk hf
  clear hl hb hr hd hf
  go_enter Try.func72, Try.ntmps72
  go_upto_region 1 with (first | ((with_reducible refine gate_dst (N := 2) rfl ?_); refine box_event ?hg (N := 2) ?hd (cs := lay l) (t := 67) ?hr ?_; (case hd => rfl); (case hg => rfl); (case hr => first | (go_simp; done) | (go_simp; rfl)); intro g1 hg1 w1 hb1 hB1; have HB1 := Aside0.mk hb1; have HW := Aside0.mk hB1; have HG1 := Aside0.mk hg1; clear hb1 hB1 hg1) | ((with_reducible refine gate_dst (N := 3) rfl ?_); refine box_event ?hg (N := 3) ?hd (cs := lay b) (t := 67) ?hr ?_; (case hd => rfl); (case hg => rfl); (case hr => first | (go_simp; done) | (go_simp; rfl)); intro g2 hg2 w2 hb2 hB2; have HB2 := Aside0.mk hb2; have nw := Aside0.mk (below_step HW.out hB2); have HG2 := Aside0.mk (show g1 < g2 by have := blk_lt HB1.out; omega); have n1 := Aside0.mk (blk_below HB1.out hB2); clear HB1 HW; have HB1 := n1; have HW := nw; clear n1 nw; clear hb2 hB2 hg2) | ((with_reducible refine gate_dst (N := 4) rfl ?_); refine box_event ?hg (N := 4) ?hd (cs := #[.int .i64 0, .slice none 0 0, .slice none 0 0]) (t := 33) ?hr ?_; (case hd => rfl); (case hg => rfl); (case hr => first | (go_simp; done) | (go_simp; rfl)); intro g3 hg3 w3 hb3 hB3; have HB3 := Aside0.mk hb3; have nw := Aside0.mk (below_step HW.out hB3); have HG3 := Aside0.mk (show g2 < g3 by have := blk_lt HB2.out; omega); have n1 := Aside0.mk (blk_below HB1.out hB3); have n2 := Aside0.mk (blk_below HB2.out hB3); clear HB1 HB2 HW; have HB1 := n1; have HB2 := n2; have HW := nw; clear n1 n2 nw; clear hb3 hB3 hg3))
  have hs1 := slice_arr ⟨g1, 2, none⟩ r h5
  have hs2 := slice_arr ⟨g1, 7, none⟩ r h5
  have hc0 := lay_cell HB1.out 0 (by have := HL.out; omega)
  have hc1 : w3.cell? ⟨g1, 1, none⟩ = some (.int .i64 (r : Int)) := by rw [← HR.out]; exact lay_cell HB1.out 1 (by have := HL.out; omega)
  have HN1_3 := Aside0.mk (Nat.ne_of_lt (blk_lt HB1.out))
  have HN2_3 := Aside0.mk (Nat.ne_of_lt (blk_lt HB2.out))
  have HN3_3 := Aside0.mk (Nat.ne_of_lt (blk_lt HB3.out))
  have HLT3 := Aside0.mk (blk_lt HB3.out)
  have HGE3 := Aside0.mk (below_size HW.out)
  go_cut [6] (fun v W => ViewMade w l b r g1 g2 g3 v W)
  case first =>
    go_region_held3 (fun w' => w'.cell? ⟨g1, 0, none⟩ = some (.int .i64 (gi l 0)) ∧ w'.cell? ⟨g1, 1, none⟩ = some (.int .i64 (r : Int))) (exact ⟨lay_cell (t := 67) (by (with_reducible repeat (first | refine blk_drew ?_ | refine blk_alloc ?_ _ | refine blk_farG ?_ HN1_5.out _ | refine blk_farG ?_ HN2_5.out _ | refine blk_farG ?_ HN3_5.out _ | refine blk_farG ?_ HN1_3.out _ | refine blk_farG ?_ HN2_3.out _ | refine blk_farG ?_ HN3_3.out _)); exact HB1.out) 0 (by have := HL.out; omega), by rw [← HR.out]; exact lay_cell (t := 67) (by (with_reducible repeat (first | refine blk_drew ?_ | refine blk_alloc ?_ _ | refine blk_farG ?_ HN1_5.out _ | refine blk_farG ?_ HN2_5.out _ | refine blk_farG ?_ HN3_5.out _ | refine blk_farG ?_ HN1_3.out _ | refine blk_farG ?_ HN2_3.out _ | refine blk_farG ?_ HN3_3.out _)); exact HB1.out) 1 (by have := HL.out; omega)⟩) (first | (go_at_call_of 57 (Value.slice (some { block := g1, off := 2 }) r 5); refine (clone_at (some ⟨g1, 2, none⟩) r 5 ((l.drop 2).take r) (by have := HL.out; simp; omega) _ (lay_reads (t := 67) (by (with_reducible repeat (first | refine blk_drew ?_ | refine blk_alloc ?_ _ | refine blk_farG ?_ HN1_5.out _ | refine blk_farG ?_ HN2_5.out _ | refine blk_farG ?_ HN3_5.out _ | refine blk_farG ?_ HN1_3.out _ | refine blk_farG ?_ HN2_3.out _ | refine blk_farG ?_ HN3_3.out _)); exact HB1.out) 2 r (by have := HL.out; omega) (by have := HL.out; omega)) h5 (by omega)).mono ?_; rintro e w5 ⟨v1, rfl, ho1, hb5⟩; (try (have hnw : Aside0 (w5.heap[w3.heap.size]? = some (.cells #[.int .i64 0, .slice none 0 0, .slice none 0 0] 33 (0, 0))) := ⟨blk_below (blk_new w3.drew (.cells #[.int .i64 0, .slice none 0 0, .slice none 0 0] 33)) hb5⟩)); obtain ⟨Aa, ca, rfl⟩ := Kd.R_slice ho1; have hla : ((l.drop 2).take r).length = r := (by have := HL.out; simp; omega); rw [hla] at ho1 ⊢; have HO1 := Aside0.mk (Kd.R_lower ho1 (below_size (by repeat (first | (with_reducible first | exact HW.out | apply below_alloc | apply below_drew1) | exact HW.out)))); clear ho1 hla; have n0 := Aside0.mk (blk_below (g := g1) (o := .cells (lay l) 67 (0, 0)) (by (with_reducible repeat (first | refine blk_drew ?_ | refine blk_alloc ?_ _ | refine blk_farG ?_ HN1_5.out _ | refine blk_farG ?_ HN2_5.out _ | refine blk_farG ?_ HN3_5.out _ | refine blk_farG ?_ HN1_3.out _ | refine blk_farG ?_ HN2_3.out _ | refine blk_farG ?_ HN3_3.out _)); exact HB1.out) hb5); have n1 := Aside0.mk (blk_below (g := g2) (o := .cells (lay b) 67 (0, 0)) (by (with_reducible repeat (first | refine blk_drew ?_ | refine blk_alloc ?_ _ | refine blk_farG ?_ HN1_5.out _ | refine blk_farG ?_ HN2_5.out _ | refine blk_farG ?_ HN3_5.out _ | refine blk_farG ?_ HN1_3.out _ | refine blk_farG ?_ HN2_3.out _ | refine blk_farG ?_ HN3_3.out _)); exact HB2.out) hb5); have n2 := Aside0.mk (blk_below (g := g3) (o := .cells #[.int .i64 0, .slice none 0 0, .slice none 0 0] 33 (0, 0)) (by (with_reducible repeat (first | refine blk_drew ?_ | refine blk_alloc ?_ _ | refine blk_farG ?_ HN1_5.out _ | refine blk_farG ?_ HN2_5.out _ | refine blk_farG ?_ HN3_5.out _ | refine blk_farG ?_ HN1_3.out _ | refine blk_farG ?_ HN2_3.out _ | refine blk_farG ?_ HN3_3.out _)); exact HB3.out) hb5); have nw := Aside0.mk (below_step (by repeat (first | (with_reducible first | exact HW.out | apply below_alloc | apply below_drew1) | exact HW.out)) hb5); clear HB1 HB2 HB3 HW; have HB1 := n0; have HB2 := n1; have HB3 := n2; have HW := nw; clear nw n0 n1 n2; have HN1_5 := Aside0.mk (Nat.ne_of_lt (blk_lt HB1.out)); have HN2_5 := Aside0.mk (Nat.ne_of_lt (blk_lt HB2.out)); have HN3_5 := Aside0.mk (Nat.ne_of_lt (blk_lt HB3.out)); have HLT5 := Aside0.mk (blk_lt HB3.out); have HGE5 := Aside0.mk (below_size HW.out); clear hb5) | (go_at_call_of 57 (Value.slice (some { block := g1, off := 7 }) r 5); refine (clone_at (some ⟨g1, 7, none⟩) r 5 ((l.drop 7).take r) (by have := HL.out; simp; omega) _ (lay_reads (t := 67) (by (with_reducible repeat (first | refine blk_drew ?_ | refine blk_alloc ?_ _ | refine blk_farG ?_ HN1_5.out _ | refine blk_farG ?_ HN2_5.out _ | refine blk_farG ?_ HN3_5.out _ | refine blk_farG ?_ HN1_3.out _ | refine blk_farG ?_ HN2_3.out _ | refine blk_farG ?_ HN3_3.out _)); exact HB1.out) 7 r (by have := HL.out; omega) (by have := HL.out; omega)) h5 (by omega)).mono ?_; rintro e w6 ⟨v2, rfl, ho2, hb6⟩; (try (have hnw : Aside0 (w6.heap[w5.heap.size]? = some (.cells #[.int .i64 0, .slice none 0 0, .slice none 0 0] 33 (0, 0))) := ⟨blk_below (blk_new w5 (.cells #[.int .i64 0, .slice none 0 0, .slice none 0 0] 33)) hb6⟩; have hx0 : _ = some (Value.int .i64 0) := (blk_cell hnw.out 0).trans rfl; have hx1 : _ = some (Value.slice none 0 0) := (blk_cell hnw.out 1).trans rfl; have hx2 : _ = some (Value.slice none 0 0) := (blk_cell hnw.out 2).trans rfl; have hy0 := blk_frozen hnw.out 0; have hy1 := blk_frozen hnw.out 1; have hy2 := blk_frozen hnw.out 2)); (try (have hnx : Aside0 (w6.heap[w3.heap.size]? = some (.cells #[.int .i64 0, .slice none 0 0, .slice none 0 0] 33 (0, 0))) := ⟨blk_below hnw.out hb6⟩; clear hnw; have hnw := hnx; clear hnx; have hx0 : _ = some (Value.int .i64 0) := (blk_cell hnw.out 0).trans rfl; have hx1 : _ = some (Value.slice none 0 0) := (blk_cell hnw.out 1).trans rfl; have hx2 : _ = some (Value.slice none 0 0) := (blk_cell hnw.out 2).trans rfl; have hy0 := blk_frozen hnw.out 0; have hy1 := blk_frozen hnw.out 1; have hy2 := blk_frozen hnw.out 2)); obtain ⟨Ab, cb, rfl⟩ := Kd.R_slice ho2; have hlb : ((l.drop 7).take r).length = r := (by have := HL.out; simp; omega); rw [hlb] at ho2 ⊢; have HO1n := Aside0.mk (Kd.R_elder' (by (with_reducible repeat (first | apply Kd.R_alloc | apply Kd.R_drewN | apply Kd.R_drew)); exact HO1.out) (Kd.R_base ho2) hb6); have HO2 := Aside0.mk (Kd.R_lower (Kd.R_new' ho2 (Kd.R_lt (by (with_reducible repeat (first | apply Kd.R_alloc | apply Kd.R_drewN | apply Kd.R_drew)); exact HO1.out))) (below_size (by repeat (first | (with_reducible first | exact HW.out | apply below_alloc | apply below_drew1) | exact HW.out)))); clear HO1; have HO1 := HO1n; clear HO1n ho2 hlb; have n0 := Aside0.mk (blk_below (g := g1) (o := .cells (lay l) 67 (0, 0)) (by (with_reducible repeat (first | refine blk_drew ?_ | refine blk_alloc ?_ _ | refine blk_farG ?_ HN1_5.out _ | refine blk_farG ?_ HN2_5.out _ | refine blk_farG ?_ HN3_5.out _ | refine blk_farG ?_ HN1_3.out _ | refine blk_farG ?_ HN2_3.out _ | refine blk_farG ?_ HN3_3.out _)); exact HB1.out) hb6); have n1 := Aside0.mk (blk_below (g := g2) (o := .cells (lay b) 67 (0, 0)) (by (with_reducible repeat (first | refine blk_drew ?_ | refine blk_alloc ?_ _ | refine blk_farG ?_ HN1_5.out _ | refine blk_farG ?_ HN2_5.out _ | refine blk_farG ?_ HN3_5.out _ | refine blk_farG ?_ HN1_3.out _ | refine blk_farG ?_ HN2_3.out _ | refine blk_farG ?_ HN3_3.out _)); exact HB2.out) hb6); have n2 := Aside0.mk (blk_below (g := g3) (o := .cells #[.int .i64 0, .slice none 0 0, .slice none 0 0] 33 (0, 0)) (by (with_reducible repeat (first | refine blk_drew ?_ | refine blk_alloc ?_ _ | refine blk_farG ?_ HN1_5.out _ | refine blk_farG ?_ HN2_5.out _ | refine blk_farG ?_ HN3_5.out _ | refine blk_farG ?_ HN1_3.out _ | refine blk_farG ?_ HN2_3.out _ | refine blk_farG ?_ HN3_3.out _)); exact HB3.out) hb6); have nw := Aside0.mk (below_step (by repeat (first | (with_reducible first | exact HW.out | apply below_alloc | apply below_drew1) | exact HW.out)) hb6); clear HB1 HB2 HB3 HW; have HB1 := n0; have HB2 := n1; have HB3 := n2; have HW := nw; clear nw n0 n1 n2; clear hb6))
    · go_wp2_with fail
      go_meet
      case rel => exact vmA HB1.out HB2.out HB3.out HO1.out HO2.out HW.out
    · go_wp2_with fail
      go_meet
      case rel => exact vmB hnw.out HN1_5.out HN2_5.out HLT5.out HGE5.out HB1.out HB2.out HB3.out HO1.out HO2.out HW.out
    · go_wp2_with fail
      go_meet
      case rel => exact vmB hnw.out HN1_3.out HN2_3.out HLT3.out HGE3.out HB1.out HB2.out HB3.out HO1.out HO2.out HW.out
  case rest =>
    obtain ⟨G, Aa, Ab, ca, cb, rfl, hG, hlt, k1, k2, k3, R1, R2, hW⟩ := hcut
    obtain ⟨e1, hca, C1⟩ := Kd.R_reads' R1
    obtain ⟨e2, hcb, C2⟩ := Kd.R_reads' R2
    have E1 := Aside0.mk e1
    have E2 := Aside0.mk e2
    have CA := Aside0.mk hca
    have CB := Aside0.mk hcb
    have KC1 := Aside0.mk C1
    have KC2 := Aside0.mk C2
    have KG := Aside0.mk hG
    have K1 := Aside0.mk k1
    have K2 := Aside0.mk k2
    have K3 := Aside0.mk k3
    have KR1 := Aside0.mk R1
    have KR2 := Aside0.mk R2
    have KW := Aside0.mk hW
    have KL := Aside0.mk hlt
    have KGE := Aside0.mk (show w.heap.size ≤ g3 by have := HG1.out; have := HG2.out; have := HG3.out; omega)
    clear hG k1 k2 k3 R1 R2 hW e1 e2 hca hcb C1 C2 hlt
    have hEq := eq_lay l b HL.out HL2.out
    rw [beq_eq_false_iff_ne.mpr HD.out] at hEq
    go_wp2_with (first | ((with_reducible refine gate_dst (N := 22) rfl ?_); refine wpList_load_row rfl 67 (.tmp 2) rfl g1 rfl 67 (lay _) (0, 0) _ K1.out Try.underlying67 rfl (info67 _ HL.out) ?_) | ((with_reducible refine gate_dst (N := 23) rfl ?_); refine wpList_load_row rfl 67 (.tmp 3) rfl g2 rfl 67 (lay _) (0, 0) _ K2.out Try.underlying67 rfl (info67 _ HL2.out) ?_) | ((with_reducible refine gate_dst (N := 27) rfl ?_); refine wpList_load_row rfl 33 (.tmp 6) rfl G rfl 33 #[.int .i64 (gi l 0), .slice Aa r ca, .slice Ab r cb] (0, 0) _ KG.out Try.underlying33 rfl (by kernel_rfl) ?_) | (go_at_call 63; refine (formed_n E1.out E2.out (gi l 0) Aa Ab ca cb _ KC1.out CA.out KC2.out CB.out).mono ?_; rw [HF.out]; rintro e w8 ⟨rfl, hb8⟩; have HB8 := Aside0.mk hb8; clear hb8) | ((with_reducible refine gate_dst (N := 7) rfl ?_); refine box_event ?hg (N := 7) ?hd (cs := lay zero12) (t := 67) ?hr ?_; (case hd => rfl); (case hg => rfl); (case hr => first | (go_simp; done) | (go_simp; rfl)); intro g8 hg8 w9 hb9 hB9; have N8 := Aside0.mk hb9; have NG := Aside0.mk (blk_below (g := G) (o := .cells #[.int .i64 (gi l 0), .slice Aa r ca, .slice Ab r cb] 33 (0, 0)) (by (with_reducible repeat (first | refine blk_drew ?_ | refine blk_drewN ?_ _ | refine blk_alloc ?_ _)); exact (blk_below KG.out HB8.out)) hB9); have N3 := Aside0.mk (blk_below (g := g3) (o := .cells #[.int .i64 0, .slice none 0 0, .slice none 0 0] 33 (0, 0)) (by (with_reducible repeat (first | refine blk_drew ?_ | refine blk_drewN ?_ _ | refine blk_alloc ?_ _)); exact (blk_below K3.out HB8.out)) hB9); have NR1 := Aside0.mk (Kd.R_below (Kd.R_below KR1.out HB8.out) hB9); have NR2 := Aside0.mk (Kd.R_below (Kd.R_below KR2.out HB8.out) hB9); have NW := Aside0.mk (below_step (below_step KW.out HB8.out) hB9); have XG := Aside0.mk (show G ≠ g8 by have := blk_lt (blk_below KG.out HB8.out); omega); have X3 := Aside0.mk (show g3 ≠ g8 by have := blk_lt (blk_below K3.out HB8.out); omega); have X8 := Aside0.mk (show w.heap.size ≤ g8 by have := KGE.out; have := blk_lt (blk_below K3.out HB8.out); omega); clear hb9 hB9 hg8) | ((with_reducible refine gate_store rfl ?_); refine wpList_store_row rfl 67 (.tmp 7) (.tmp 29) rfl g8 (lay (formedL (gi l 0) ((l.drop 2).take r) ((l.drop 7).take r))) rfl rfl 67 (lay zero12) N8.out (info67 _ formedL_len) (by rw [lay_size, lay_size, formedL_len]; rfl) (lay_one _) ?_) | ((with_reducible refine gate_store rfl ?_); refine wpList_store_row rfl 33 (.tmp 4) (.tmp 33) rfl g3 #[.int .i64 0, .slice none 0 0, .slice none 0 0] rfl rfl 33 #[.int .i64 0, .slice none 0 0, .slice none 0 0] ((setRow_other w9 g8 g3 _ X3.out).trans N3.out) (by kernel_rfl) rfl (by simp [Value.oneCell']) ?_))
    refine bodyPost_ret (results_ct rfl _ _ g3 33 #[.int .i64 0, .slice none 0 0, .slice none 0 0] (0, 0) _ rfl (setRow_heap _ g3 _ _ _ (0, 0) ((setRow_other w9 g8 g3 _ X3.out).trans N3.out)) Try.underlying33 rfl (by kernel_rfl)) rfl ?_
    exact ⟨_, _, rfl, Kd.R_nil _ _ _ _ _, Kd.R_nil _ _ _ _ _, below_setRow (below_setRow NW.out X8.out _) KGE.out _⟩
/-- What 'view' of a layout answers, beside the one before. -/
def viewB (l b : List Int) (r : Nat) : Bool := decide (l = b) || formedB (gi l 0) ((l.drop 2).take r) ((l.drop 7).take r)
def viewO (l b : List Int) (r : Nat) : Int := if viewB l b r then gi l 0 else 0
def viewS (l b : List Int) (r : Nat) : List Int := if viewB l b r then (l.drop 2).take r else []
def viewT (l b : List Int) (r : Nat) : List Int := if viewB l b r then (l.drop 7).take r else []
theorem view_calls (l b : List Int) (r : Nat) (hl : l.length = 12) (hb : b.length = 12) (hr : gi l 1 = (r : Int)) (h5 : r ≤ 5) (w : World) :
    Calls Try.prog 72 #[.agg (lay l), .agg (lay b)] w fun e w' => ∃ v1_ v2_ : Value, e = .returned (.tuple #[.agg #[.int .i64 (viewO l b r), v1_, v2_], .bool (viewB l b r)]) ∧ Kd.R (Kd.int .i64) 3 w' w.heap.size (fun k_ => some k_ ≠ (v2_ : Value).ownBlock) v1_ (viewS l b r) ∧ Kd.R (Kd.int .i64) 3 w' w.heap.size (fun k_ => some k_ ≠ (v1_ : Value).ownBlock) v2_ (viewT l b r) ∧ Below w.heap.size w w' := by
  by_cases hd : l = b
  · subst hd
    have e : viewB l l r = true := by simp [viewB]
    simp only [viewO, viewS, viewT, e, if_true]
    exact view_same l r hl hr h5 w
  · by_cases hf : formedB (gi l 0) ((l.drop 2).take r) ((l.drop 7).take r) = true
    · have e : viewB l b r = true := by simp [viewB, hf]
      simp only [viewO, viewS, viewT, e, if_true]
      exact view_diff_ok l b r hl hb hr h5 hd hf w
    · rw [Bool.not_eq_true] at hf
      have e : viewB l b r = false := by simp [viewB, hf, hd]
      simp only [viewO, viewS, viewT, e, Bool.false_eq_true, if_false]
      exact view_diff_no l b r hl hb hr h5 hd hf w
end Go.Proofs.Ytipjhbngbaifeaa.PA

namespace Go.Proofs.Ytipjhbngbaifeaa.PA
open Go.RowKit Go.Proofs.YtipjhbngbaifeaaW.PrintWords Go.Proofs.YtipjhbngbaifeaaW.PrintLast Go.Proofs.YtipjhbngbaifeaaW.PrintMore
set_option linter.unusedVariables false
set_option linter.unusedSimpArgs false
theorem lay_12 (l : List Int) (hl : l.length = 12) : lay l = #[.int .i64 (gi l 0), .int .i64 (gi l 1), .int .i64 (gi l 2), .int .i64 (gi l 3), .int .i64 (gi l 4), .int .i64 (gi l 5), .int .i64 (gi l 6), .int .i64 (gi l 7), .int .i64 (gi l 8), .int .i64 (gi l 9), .int .i64 (gi l 10), .int .i64 (gi l 11)] := by
  match l, hl with
  | [a0, a1, a2, a3, a4, a5, a6, a7, a8, a9, a10, a11], _ => rfl
theorem lay_S {w : World} {g : Nat} {t : TypeId} {l : List Int} (hl : l.length = 12) (h : w.heap[g]? = some (.cells (lay l) t (0, 0))) : w.cell? ⟨g, 0, none⟩ = some (.int .i64 (gi l 0)) ∧ w.cell? ⟨g, 1, none⟩ = some (.int .i64 (gi l 1)) ∧ w.cell? ⟨g, 2, none⟩ = some (.int .i64 (gi l 2)) ∧ w.cell? ⟨g, 3, none⟩ = some (.int .i64 (gi l 3)) ∧ w.cell? ⟨g, 4, none⟩ = some (.int .i64 (gi l 4)) ∧ w.cell? ⟨g, 5, none⟩ = some (.int .i64 (gi l 5)) ∧ w.cell? ⟨g, 6, none⟩ = some (.int .i64 (gi l 6)) ∧ w.cell? ⟨g, 7, none⟩ = some (.int .i64 (gi l 7)) ∧ w.cell? ⟨g, 8, none⟩ = some (.int .i64 (gi l 8)) ∧ w.cell? ⟨g, 9, none⟩ = some (.int .i64 (gi l 9)) ∧ w.cell? ⟨g, 10, none⟩ = some (.int .i64 (gi l 10)) ∧ w.cell? ⟨g, 11, none⟩ = some (.int .i64 (gi l 11)) :=
  ⟨lay_cell h 0 (by omega), lay_cell h 1 (by omega), lay_cell h 2 (by omega), lay_cell h 3 (by omega), lay_cell h 4 (by omega), lay_cell h 5 (by omega), lay_cell h 6 (by omega), lay_cell h 7 (by omega), lay_cell h 8 (by omega), lay_cell h 9 (by omega), lay_cell h 10 (by omega), lay_cell h 11 (by omega)⟩
theorem view_calls12 (b l : List Int) (r : Nat) (hb : b.length = 12) (hl : l.length = 12) (hr : gi b 1 = (r : Int)) (h5 : r ≤ 5) (w : World) :
    Calls Try.prog 72 #[.agg (lay b), .agg #[.int .i64 (gi l 0), .int .i64 (gi l 1), .int .i64 (gi l 2), .int .i64 (gi l 3), .int .i64 (gi l 4), .int .i64 (gi l 5), .int .i64 (gi l 6), .int .i64 (gi l 7), .int .i64 (gi l 8), .int .i64 (gi l 9), .int .i64 (gi l 10), .int .i64 (gi l 11)]] w fun e w' => ∃ v1_ v2_ : Value, e = .returned (.tuple #[.agg #[.int .i64 (viewO b l r), v1_, v2_], .bool (viewB b l r)]) ∧ Kd.R (Kd.int .i64) 3 w' w.heap.size (fun k_ => some k_ ≠ (v2_ : Value).ownBlock) v1_ (viewS b l r) ∧ Kd.R (Kd.int .i64) 3 w' w.heap.size (fun k_ => some k_ ≠ (v1_ : Value).ownBlock) v2_ (viewT b l r) ∧ Below w.heap.size w w' := by
  rw [← lay_12 l hl]; exact view_calls b l r hb hl hr h5 w
theorem formedL_1 {off : Int} {l1 l2 : List Int} (h : formedB off l1 l2 = true) : gi (formedL off l1 l2) 1 = (l1.length : Int) := by unfold formedL; rw [if_pos h]; rfl
theorem formed_5 {off : Int} {l1 l2 : List Int} (h : formedB off l1 l2 = true) : l1.length ≤ 5 := by
  simp only [formedB, Bool.and_eq_true, decide_eq_true_eq] at h
  exact shOk_len h.1.1.1
def viewed (l b : List Int) (r : Nat) : Int × List Int × List Int × Bool := (viewO l b r, viewS l b r, viewT l b r, viewB l b r)
def noView : Int × List Int × List Int × Bool := (0, [], [], false)
def impl_FlipView.f (off : Int) (l1 l2 : List Int) (a : Int) : Option (Int × List Int × List Int × Bool) :=
  some (if formedB off l1 l2 = true ∧ 0 ≤ a ∧ a < (l1.length : Int) then viewed (flipL (formedL off l1 l2) a.toNat) (formedL off l1 l2) l1.length else noView)
end Go.Proofs.Ytipjhbngbaifeaa.PA

namespace Go.Proofs.Ytipjhbngbaifeaa.PA
open Go.RowKit Go.Proofs.YtipjhbngbaifeaaW.PrintWords Go.Proofs.YtipjhbngbaifeaaW.PrintLast Go.Proofs.YtipjhbngbaifeaaW.PrintMore
set_option linter.unusedVariables false
set_option linter.unusedSimpArgs false
def turnStep (l out : List Int) (i q : Nat) : List Int := (out.set (2 + q) (gi l (2 + i))).set (7 + q) (gi l (7 + i))
def turnGo (l : List Int) : List Int → Nat → List Int → List Int
  | out, _, [] => out
  | out, i, n :: t => turnGo l (turnStep l out i (n - 1).toNat) (i + 1) t
theorem turnGo_len (l : List Int) : ∀ (p out : List Int) (i : Nat), (turnGo l out i p).length = out.length
  | [], _, _ => rfl
  | n :: t, out, i => by rw [turnGo, turnGo_len l t]; simp [turnStep]
theorem turnGo_snoc (l : List Int) (n : Int) : ∀ (p out : List Int) (i : Nat), turnGo l out i (p ++ [n]) = turnStep l (turnGo l out i p) (i + p.length) (n - 1).toNat
  | [], _, _ => rfl
  | a :: t, out, i => by rw [List.cons_append, turnGo, turnGo_snoc l n t, turnGo, List.length_cons, show i + 1 + t.length = i + (t.length + 1) by omega]
set_option maxHeartbeats 2000000 in
set_option maxRecDepth 100000 in
theorem turn_calls (l : List Int) (A : Option Addr) (c : Nat) (p : List Int) (hl : l.length = 12) (hp : p.length ≤ 5) (hq : ∀ n ∈ p, 1 ≤ n ∧ n ≤ 5) (w : World) (hr : Kd.C (Kd.int .i64) w A p.length p) (hc : p.length ≤ c) :
    Calls Try.prog 77 #[.agg (lay l), .slice A p.length c] w fun e w' => e = .returned (.agg (lay (turnGo l l 0 p))) ∧ Below w.heap.size w w' := by
  have HL := Aside0.mk hl
  have HP := Aside0.mk hp
  have HQ := Aside0.mk hq
  have HR := Aside0.mk hr
  have HC := Aside0.mk hc
  clear hl hp hq hr hc
  go_enter Try.func77, Try.ntmps77
  go_wp2_with (first | ((with_reducible refine gate_dst (N := 2) rfl ?_); refine box_event ?hg (N := 2) ?hd (cs := lay l) (t := 67) ?hr ?_; (case hd => rfl); (case hg => rfl); (case hr => first | (go_simp; done) | (go_simp; rfl)); intro g1 hg1 w1 hb1 hB1; have HB1 := Aside0.mk hb1; have HW := Aside0.mk hB1; have HG1 := Aside0.mk (show w.heap.size ≤ g1 by have e := hg1; (try simp at e); omega); clear hb1 hB1 hg1) | ((with_reducible refine gate_dst (N := 4) rfl ?_); refine box_event ?hg (N := 4) ?hd (cs := lay zero12) (t := 67) ?hr ?_; (case hd => rfl); (case hg => rfl); (case hr => first | (go_simp; done) | (go_simp; rfl)); intro g2 hg2 w2 hb2 hB2; have HB2 := Aside0.mk hb2; have nw := Aside0.mk (below_step (by repeat (first | (with_reducible first | exact HW.out | apply below_alloc | apply below_drew1 | apply pw_below_drewN) | exact HW.out)) hB2); have LT12 := Aside0.mk (show g1 < g2 by have := blk_lt HB1.out; have e := hg2; (try simp at e); omega); have n1 := Aside0.mk (blk_below (g := g1) (o := .cells (lay l) 67 (0, 0)) (by (with_reducible repeat (first | refine blk_drew ?_ | refine blk_drewN ?_ _ | refine blk_alloc ?_ _)); exact HB1.out) hB2); clear HB1 HW; have HB1 := n1; have HW := nw; clear n1 nw hb2 hB2 hg2) | ((with_reducible refine gate_dst (N := 8) rfl ?_); refine wpList_load_row rfl 67 (.tmp 2) rfl g1 rfl 67 (lay _) (0, 0) _ (by (with_reducible repeat (first | refine blk_drew ?_ | refine blk_drewN ?_ _ | refine blk_alloc ?_ _)); exact HB1.out) Try.underlying67 rfl (info67 _ HL.out) ?_) | ((with_reducible refine gate_dst (N := 5) rfl ?_); refine box_event ?hg (N := 5) ?hd (cs := lay zero12) (t := 67) ?hr ?_; (case hd => rfl); (case hg => rfl); (case hr => first | (go_simp; done) | (go_simp; rfl)); intro g3 hg3 w3 hb3 hB3; have HB3 := Aside0.mk hb3; have nw := Aside0.mk (below_step (by repeat (first | (with_reducible first | exact HW.out | apply below_alloc | apply below_drew1 | apply pw_below_drewN) | exact HW.out)) hB3); have LT23 := Aside0.mk (show g2 < g3 by have := blk_lt HB2.out; have e := hg3; (try simp at e); omega); have n1 := Aside0.mk (blk_below (g := g1) (o := .cells (lay l) 67 (0, 0)) (by (with_reducible repeat (first | refine blk_drew ?_ | refine blk_drewN ?_ _ | refine blk_alloc ?_ _)); exact HB1.out) hB3); have n2 := Aside0.mk (blk_below (g := g2) (o := .cells (lay zero12) 67 (0, 0)) (by (with_reducible repeat (first | refine blk_drew ?_ | refine blk_drewN ?_ _ | refine blk_alloc ?_ _)); exact HB2.out) hB3); have m1 := Aside0.mk ((setRow_other w3 g3 g1 (lay l) (show g1 ≠ g3 by have := LT12.out; have := LT23.out; omega)).trans n1.out); have m2 := Aside0.mk ((setRow_other w3 g3 g2 (lay l) (show g2 ≠ g3 by have := LT23.out; omega)).trans n2.out); have m3 := Aside0.mk (setRow_heap w3 g3 _ (lay l) _ _ HB3.out); have mw := Aside0.mk (below_setRow nw.out (show w.heap.size ≤ g3 by have := HG1.out; have := LT12.out; have := LT23.out; omega) (lay l)); clear HB1 HB2 HW n1 n2 nw; have HB1 := m1; have HB2 := m2; have BL := m3; have HW := mw; clear m1 m2 m3 mw hb3 hB3 hg3) | ((with_reducible refine gate_store rfl ?_); refine wpList_store_row rfl 67 (.tmp 5) (.tmp 8) rfl g3 (lay l) rfl rfl 67 (lay zero12) (by (with_reducible repeat (first | refine blk_drew ?_ | refine blk_drewN ?_ _ | refine blk_alloc ?_ _)); exact HB3.out) (info67 _ HL.out) (by rw [lay_size, lay_size, HL.out]; rfl) (lay_one _) ?_))
  go_loopg [6, 7, 11] (p.length + 1) (fun kq v6 v7 v11 w' => ∃ j : Nat, v11 = .int .i64 (j : Int) ∧ Aside0 (j + kq = p.length + 1 ∧ j ≤ p.length) ∧ Aside0 (w'.heap[g1]? = some (.cells (lay l) 67 (0, 0))) ∧ Aside0 (w'.heap[g2]? = some (.cells (lay zero12) 67 (0, 0))) ∧ Aside0 (w'.heap[g3]? = some (.cells (lay (turnGo l l 0 (p.take j))) 67 (0, 0))) ∧ Aside0 (Below w.heap.size w w'))
  case atStart => exact ⟨0, rfl, ⟨by omega⟩, HB1, HB2, BL, HW⟩
  case round =>
    clear HB1 HB2 BL HW
    obtain ⟨j, rfl, HJ, D1, D2, D3, HW⟩ := hrel
    have HL12 := Aside0.mk (show (turnGo l l 0 (p.take j)).length = 12 by rw [turnGo_len]; exact HL.out)
    cases gk with
    | zero => exact absurd HJ.out (by omega)
    | succ k1 =>
      by_cases hj : j < p.length
      · have p1 : 0 ≤ (j : Int) := by omega
        have p2 : (j : Int) < (p.length : Int) := by omega
        obtain ⟨ad1, e1, hx1⟩ := Kd.at_int (Kd.C_below HR.out HW.out) (j : Int) p1 p2
        cases e1
        rw [Int.toNat_natCast] at hx1
        have hjb := decide_eq_true p2
        have hja := decide_eq_true p1
        replace p1 := eq_true p1
        replace p2 := eq_true p2
        have HJL := Aside0.mk hj
        have hX := show rd p (j : Int) = p[j]'HJL.out by simp [rd, HJL.out]
        have hxq := HQ.out (rd p (j : Int)) (by rw [hX]; exact List.getElem_mem _)
        have HX := Aside0.mk hX
        clear hX
        obtain ⟨x, hx⟩ : ∃ x, rd p (j : Int) = x := ⟨_, rfl⟩
        rw [hx] at hx1 hxq
        obtain ⟨q, hqe⟩ := Int.eq_ofNat_of_zero_le (show 0 ≤ x - 1 by omega)
        have hwq : wrap64 (x - 1) = (q : Int) := by rw [hqe]; unfold wrap64; omega
        have HQE := Aside0.mk (show (x - 1).toNat = q by omega)
        have hq5 : q < 5 := by omega
        have hm : j < 5 := by have := HP.out; omega
        have HXX := Aside0.mk hx
        clear hj hxq hqe hx
        have HNE1 := Aside0.mk (show g1 ≠ g3 by have := LT12.out; have := LT23.out; omega)
        have HNE2 := Aside0.mk (show g2 ≠ g3 by have := LT23.out; omega)
        have c1 := lay_cell D1.out (2 + j) (by have := HL.out; omega)
        have c2 := lay_cell D3.out (2 + q) (by have := HL12.out; omega)
        have f2 := blk_frozen D3.out (2 + q)
        have E3 := Aside0.mk (lay_put D3.out (2 + q) (gi l (2 + j)))
        have E1 := Aside0.mk (blk_farG (i := 2 + q) D1.out HNE1.out (.int .i64 (gi l (2 + j))))
        have c3 := lay_cell E1.out (7 + j) (by have := HL.out; omega)
        have c4 := lay_cell E3.out (7 + q) (by have := HL12.out; rw [List.length_set]; omega)
        have f4 := blk_frozen E3.out (7 + q)
        go_wp2_with fail
        go_roundg k1
        case measure => omega
        case rel =>
          have LE := show w.heap.size ≤ g3 by have := HG1.out; have := LT12.out; have := LT23.out; omega
          refine ⟨j + 1, rfl, ⟨by have := HJ.out; have := HJL.out; omega⟩, ⟨blk_farG E1.out HNE1.out _⟩, ⟨blk_farG (blk_farG D2.out HNE2.out _) HNE2.out _⟩, ⟨?_⟩, ⟨below_set (below_set HW.out LE) LE⟩⟩
          have h0 := lay_put E3.out (7 + q) (gi l (7 + j))
          have e : turnGo l l 0 (p.take (j + 1)) = (((turnGo l l 0 (p.take j)).set (2 + q) (gi l (2 + j))).set (7 + q) (gi l (7 + j))) := by
            rw [List.take_succ_eq_append_getElem HJL.out, turnGo_snoc, ← HX.out, HXX.out, HQE.out, List.length_take, Nat.zero_add, Nat.min_eq_left (by have := HJL.out; omega)]; rfl
          rw [e]; exact h0
      · have hjb : decide ((j : Int) < (p.length : Int)) = false := decide_eq_false (by omega)
        have hjc : decide (j < p.length) = false := decide_eq_false hj
        have hjd : (j < p.length) = False := eq_false hj
        have HYL := Aside0.mk (show turnGo l l 0 (p.take j) = turnGo l l 0 p by have := HJ.out; rw [List.take_of_length_le (by omega)])
        clear hj
        go_wp2_with (first | ((with_reducible refine gate_dst (N := 33) rfl ?_); refine wpList_load_row rfl 67 (.tmp 5) rfl g3 rfl 67 (lay _) (0, 0) _ (by (with_reducible repeat (first | refine blk_drew ?_ | refine blk_drewN ?_ _ | refine blk_alloc ?_ _)); exact D3.out) Try.underlying67 rfl (info67 _ HL12.out) ?_) | ((with_reducible refine gate_store rfl ?_); refine wpList_store_row rfl 67 (.tmp 4) (.tmp 33) rfl g2 (lay (turnGo l l 0 (p.take j))) rfl rfl 67 (lay zero12) (by (with_reducible repeat (first | refine blk_drew ?_ | refine blk_drewN ?_ _ | refine blk_alloc ?_ _)); exact D2.out) (info67 _ HL12.out) (by rw [lay_size, lay_size, HL12.out]; rfl) (lay_one _) ?_))
        refine bodyPost_ret (results_cell_row rfl _ _ g2 67 (lay (turnGo l l 0 (p.take j))) (0, 0) _ rfl (setRow_heap _ g2 _ _ _ (0, 0) D2.out) Try.underlying67 rfl (info67 _ HL12.out)) rfl ⟨by rw [HYL.out], below_setRow HW.out (show w.heap.size ≤ g2 by have := HG1.out; have := LT12.out; omega) _⟩
theorem turn12 (l : List Int) (A : Option Addr) (c : Nat) (p : List Int) (hl : l.length = 12) (hp : p.length ≤ 5) (hq : ∀ n ∈ p, 1 ≤ n ∧ n ≤ 5) (w : World) (hr : Kd.C (Kd.int .i64) w A p.length p) (hc : p.length ≤ c) :
    Calls Try.prog 77 #[.agg #[.int .i64 (gi l 0), .int .i64 (gi l 1), .int .i64 (gi l 2), .int .i64 (gi l 3), .int .i64 (gi l 4), .int .i64 (gi l 5), .int .i64 (gi l 6), .int .i64 (gi l 7), .int .i64 (gi l 8), .int .i64 (gi l 9), .int .i64 (gi l 10), .int .i64 (gi l 11)], .slice A p.length c] w fun e w' => e = .returned (.agg (lay (turnGo l l 0 p))) ∧ Below w.heap.size w w' := by
  rw [← lay_12 l hl]; exact turn_calls l A c p hl hp hq w hr hc
end Go.Proofs.Ytipjhbngbaifeaa.PA

-- By a program (prt.py, over the print of the kit), for this claim. Not trusted: Lean checks it.
namespace Go.Proofs.Ytipjhbngbaifeaa.PA
open Go.RowKit Go.Proofs.YtipjhbngbaifeaaW.PrintWords Go.Proofs.YtipjhbngbaifeaaW.PrintLast Go.Proofs.YtipjhbngbaifeaaW.PrintMore
attribute [local go_sem] max2_int min2_int max_two min_two max_three min_three max_four min_four   -- for this text's walks alone
set_option linter.unusedVariables false
set_option linter.unusedSimpArgs false

/-! ### impl_permutation: function 76 -/
def impl_permutation.l0 : Nat → List Int → List Bool → List Int → Int → Int → Option (Bool)
  | 0, _, _, _, _, _ => none
  | k + 1, x0, x3, x9, x10, x11 => if x11 < x10 then (if 0 ≤ x11 then (if x11 < (x9.length : Int) then ((impl_within.f (rd x9 x11) 1 (x0.length : Int)).bind fun t105 => (if t105 = true then (if 0 ≤ (wrap64 ((rd x9 x11) - 1)) then (if (wrap64 ((rd x9 x11) - 1)) < (x3.length : Int) then (if rdOf false x3 (wrap64 ((rd x9 x11) - 1)) = true then (some false) else (impl_permutation.l0 k x0 (x3.set ((wrap64 ((rd x9 x11) - 1)) : Int).toNat true) x9 x10 (wrap64 (x11 + 1)))) else (none)) else (none)) else (some false))) else (none)) else (none)) else (some true)
def impl_permutation.f (k : Nat) (l0 : List Int) : Option (Bool) := if 0 ≤ (l0.length : Int) then (if ((l0.length : Int) : Int).toNat ≤ 281474976710656 then (impl_permutation.l0 k l0 (List.replicate ((l0.length : Int) : Int).toNat false) l0 (l0.length : Int) 0) else (none)) else (none)
theorem impl_permutation.mono_l : ∀ k, (∀ y0 y1 y2 y3 y4, LeO (impl_permutation.l0 k y0 y1 y2 y3 y4) (impl_permutation.l0 (k + 1) y0 y1 y2 y3 y4))
  | 0 => fun _ _ _ _ _ r h => by simp [impl_permutation.l0] at h
  | k + 1 => by
    have ih0 := impl_permutation.mono_l k
    · intro y0 y1 y2 y3 y4
      unfold impl_permutation.l0
      repeat' first
      | (with_reducible exact ih0 _ _ _ _ _)
      | (with_reducible exact LeO.refl _)
      | (with_reducible exact LeO.none _)
      | (with_reducible refine LeO.ite ?_ ?_)
      | (with_reducible refine LeO.bind ?_ (fun _ => ?_))
      | exact ih0 _ _ _ _ _
      | exact LeO.none _
      | refine LeO.ite ?_ ?_
      | refine LeO.bind ?_ (fun _ => ?_)
theorem impl_permutation.mono : ∀ a0 k, LeO (impl_permutation.f k a0) (impl_permutation.f (k + 1) a0) := by
  intro a0 k
  have ih0 := impl_permutation.mono_l k
  unfold impl_permutation.f
  repeat' first
      | (with_reducible exact ih0 _ _ _ _ _)
      | (with_reducible exact LeO.refl _)
      | (with_reducible exact LeO.none _)
      | (with_reducible refine LeO.ite ?_ ?_)
      | (with_reducible refine LeO.bind ?_ (fun _ => ?_))
      | exact ih0 _ _ _ _ _
      | exact LeO.none _
      | refine LeO.ite ?_ ?_
      | refine LeO.bind ?_ (fun _ => ?_)
set_option maxHeartbeats 8000000 in
set_option maxRecDepth 100000 in
theorem impl_permutation.calls (k : Nat) (A0 : Option Addr) (c0 : Nat) (l0 : List Int) (r : Bool) (w : World) (hr0 : Kd.C (Kd.int .i64) w A0 l0.length l0) (hc0 : l0.length ≤ c0) (h : impl_permutation.f k l0 = some r) :
    Calls Try.prog 76 #[.slice A0 l0.length c0] w fun e w' => e = .returned (.bool r) ∧ Below w.heap.size w w' := by
  have HR0 := Aside0.mk hr0
  have HC0 := Aside0.mk hc0
  clear hr0 hc0
  have HB := Aside0.mk (Below.refl w.heap.size w)
  have H : (if 0 ≤ (l0.length : Int) then (if ((l0.length : Int) : Int).toNat ≤ 281474976710656 then (impl_permutation.l0 k l0 (List.replicate ((l0.length : Int) : Int).toNat false) l0 (l0.length : Int) 0) else (none)) else (none)) = some r := h
  clear h
  by_cases c2 : 0 ≤ (l0.length : Int)
  · rw [if_pos c2] at H
    have c2b0 := eq_true c2
    have c2b1 : decide (0 ≤ (l0.length : Int)) = true := decide_eq_true c2
    clear c2
    by_cases c3 : ((l0.length : Int) : Int).toNat ≤ 281474976710656
    · rw [if_pos c3] at H
      have c3b0 := eq_true c3
      have c3b1 : decide (((l0.length : Int) : Int).toNat ≤ 281474976710656) = true := decide_eq_true c3
      clear c3
      obtain ⟨y101, hy101⟩ : ∃ y_ : List Bool, y_ = (List.replicate ((l0.length : Int) : Int).toNat false) := ⟨_, rfl⟩
      replace H : (impl_permutation.l0 k l0 y101 l0 (l0.length : Int) 0) = some r := by first | (rw [hy101]; with_reducible exact H) | (have H2_ := (Option.bind_some _ _).symm.trans H; rw [hy101]; with_reducible exact H2_) | (have H2_ := (Option.bind_some _ _).symm.trans H; with_reducible exact H2_) | with_reducible exact H | (rw [hy101]; exact H) | exact H
      have Ny101 := Aside0.mk hy101
      clear hy101
      have H' := Aside0.mk H
      clear H
      go_enter Try.func76, Try.ntmps76
      go_wp2_with (first | ((with_reducible refine gate_dst (N := 8) rfl ?_); refine Kd.R_make Kd.bool _ 4 rfl (N := 8) rfl 78 _ _ rfl (l0.length : Int) rfl rfl Try.underlying78 (.bool false) 1 info4 rfl (by decide) (by omega) false (ok := fun _ => True) (okp := fun _ => True) rfl (fun _ hk => hk) trivial (of_decide_eq_true (by first | (with_reducible assumption) | assumption)) (Nat.le_trans (Nat.mul_le_mul_right _ (of_decide_eq_true (by first | (with_reducible assumption) | assumption) : (l0.length : Int).toNat ≤ 281474976710656)) (by omega)) (Below.refl _ _) (Nat.le_refl _) ?_; intro v102 w4 ho5 hb hg_ hnew_; clear hg_ hnew_; (first | rw [← Ny101.out] at ho5 | (simp only [Int.reduceToNat] at ho5; rw [← Ny101.out] at ho5)); have n0_ := Aside0.mk (Kd.R_lower ho5 (below_size (by repeat (first | (with_reducible first | exact HB.out | apply below_alloc | apply pw_below_drewN | apply below_drew1) | exact HB.out)))); have n1_ := Aside0.mk (below_step (by repeat (first | (with_reducible first | exact HB.out | apply below_alloc | apply pw_below_drewN | apply below_drew1) | exact HB.out)) hb); clear HB; have HO103 := n0_; have HB := n1_; clear n0_ n1_; clear hb ho5))
      go_loopg [11] k (fun kq v11 w' => ∃ (x3_1 : List Bool) (x11_1 : Int), v11 = .int .i64 x11_1 ∧ Aside0 (impl_permutation.l0 kq l0 x3_1 l0 (l0.length : Int) x11_1 = some r) ∧ Aside0 (kq ≤ k) ∧ Aside0 (Kd.R Kd.bool 4 w' w.heap.size (fun _ => True) v102 x3_1) ∧ Aside0 (Below w.heap.size w w'))
      case atStart => exact ⟨(y101), (0), (by first | rfl | (simp; done) | (simp [*]; done)), H', ⟨Nat.le_refl _⟩, ⟨by (with_reducible repeat (first | apply Kd.R_alloc | apply Kd.R_drewN | apply Kd.R_drew)); exact HO103.out⟩, ⟨by repeat (first | (with_reducible first | exact HB.out | apply below_alloc | apply pw_below_drewN | apply below_drew1) | exact HB.out)⟩⟩
      case round =>
        clear H'
        try clear c2
        try clear c2b0
        try clear c2b1
        try clear p2
        try clear c3
        try clear c3b0
        try clear c3b1
        obtain ⟨x3_1, x11_1, rfl, HA, HK1, HO_3, HB⟩ := hrel
        cases gk with
        | zero => exact absurd HA.out (by simp [impl_permutation.l0])
        | succ k1 =>
          have H := HA.out
          clear HA
          simp only [impl_permutation.l0] at H
          by_cases c6 : x11_1 < (l0.length : Int)
          · rw [if_pos c6] at H
            have c6b0 : decide (x11_1 < (l0.length : Int)) = true := decide_eq_true c6
            clear c6
            by_cases c7 : 0 ≤ x11_1
            · rw [if_pos c7] at H
              have c7b0 : decide (0 ≤ x11_1) = true := decide_eq_true c7
              clear c7
              by_cases c8 : x11_1 < (l0.length : Int)
              · rw [if_pos c8] at H
                have c8b0 : decide (x11_1 < (l0.length : Int)) = true := decide_eq_true c8
                clear c8
                replace H := Option.bind_eq_some_iff.mp H
                obtain ⟨t105, A90, H⟩ := H
                replace H : (if t105 = true then (if 0 ≤ (wrap64 ((rd l0 x11_1) - 1)) then (if (wrap64 ((rd l0 x11_1) - 1)) < (x3_1.length : Int) then (if rdOf false x3_1 (wrap64 ((rd l0 x11_1) - 1)) = true then (some false) else (impl_permutation.l0 k1 l0 (x3_1.set ((wrap64 ((rd l0 x11_1) - 1)) : Int).toNat true) l0 (l0.length : Int) (wrap64 (x11_1 + 1)))) else (none)) else (none)) else (some false)) = some r := H
                have A9 := Aside0.mk A90
                clear A90
                by_cases c10 : t105 = true
                · subst c10
                  have H1 : (if 0 ≤ (wrap64 ((rd l0 x11_1) - 1)) then (if (wrap64 ((rd l0 x11_1) - 1)) < (x3_1.length : Int) then (if rdOf false x3_1 (wrap64 ((rd l0 x11_1) - 1)) = true then (some false) else (impl_permutation.l0 k1 l0 (x3_1.set ((wrap64 ((rd l0 x11_1) - 1)) : Int).toNat true) l0 (l0.length : Int) (wrap64 (x11_1 + 1)))) else (none)) else (none)) = some r := by rw [if_pos rfl] at H; exact H
                  clear H
                  have H := H1
                  clear H1
                  obtain ⟨ji11, hji11⟩ : ∃ j_ : Int, (wrap64 ((rd l0 x11_1) - 1)) = j_ := ⟨_, rfl⟩
                  replace H : (if 0 ≤ (ji11) then (if (ji11) < (x3_1.length : Int) then (if rdOf false x3_1 (ji11) = true then (some false) else (impl_permutation.l0 k1 l0 (x3_1.set ((ji11) : Int).toNat true) l0 (l0.length : Int) (wrap64 (x11_1 + 1)))) else (none)) else (none)) = some r := by first | (rw [hji11] at H; exact H) | (simp only [hji11] at H ⊢; exact H)
                  (try rw [hji11] at A9)
                  have hji11w : (IntKind.i64.wrap ((rd l0 x11_1) - 1)) = ji11 := (i64_w _).trans hji11
                  by_cases c12 : 0 ≤ (ji11)
                  · rw [if_pos c12] at H
                    have c12b0 : decide (0 ≤ (ji11)) = true := decide_eq_true c12
                    clear c12
                    by_cases c13 : (ji11) < (x3_1.length : Int)
                    · rw [if_pos c13] at H
                      have c13b0 : decide ((ji11) < (x3_1.length : Int)) = true := decide_eq_true c13
                      clear c13
                      obtain ⟨bq14, hbq14⟩ : ∃ b_ : Bool, b_ = (rdOf false x3_1 (ji11)) := ⟨_, rfl⟩
                      replace H : (if bq14 = true then (some false) else (impl_permutation.l0 k1 l0 (x3_1.set ((ji11) : Int).toNat true) l0 (l0.length : Int) (wrap64 (x11_1 + 1)))) = some r := by rw [← hbq14] at H; exact H
                      have Nbq14 := Aside0.mk hbq14
                      clear hbq14
                      by_cases c15 : bq14 = true
                      · subst c15
                        have H1 : (some false) = some r := by rw [if_pos rfl] at H; exact H
                        clear H
                        have H := H1
                        clear H1
                        obtain rfl := Option.some.inj H
                        have p104 : 0 ≤ (x11_1 : Int) := of_decide_eq_true (by first | (with_reducible assumption) | assumption)
                        have q104 : x11_1 < (l0.length : Int) := of_decide_eq_true (by first | (with_reducible assumption) | assumption)
                        obtain ⟨ad104, e104, hx104_0⟩ := Kd.at_int HR0.out x11_1 p104 q104
                        cases e104
                        replace hx104_0 := (HB.out.cell (World.block_lt_of_cell? w _ hx104_0)).trans hx104_0
                        replace p104 := eq_true p104
                        replace q104 := eq_true q104
                        go_wp2_with (first | ((with_reducible refine gate_callee (f := 54) rfl ?_); refine goesL_ (some 18) rfl rfl Try.func54 (by kernel_rfl) rfl #[.int .i64 (rd l0 x11_1), .int .i64 1, .int .i64 (l0.length : Int)] rfl (by (try simp only [List.map_toArray, List.map_cons, List.map_nil]); first | done | rfl | (simp only [List.length_drop, List.length_take]; rfl)) ?_; (with_reducible refine (impl_within.calls (rd l0 x11_1) 1 (l0.length : Int) true _ A9.out).mono ?_); rintro e w' ⟨rfl, ⟨nd, rfl⟩⟩; refine ⟨_, rfl, ?_⟩; obtain ⟨Ao16, co16, eo16⟩ := Kd.R_slice HO_3.out; subst eo16; have p106 : 0 ≤ ((ji11) : Int) := of_decide_eq_true (by first | (with_reducible assumption) | assumption); have q106 : (ji11) < (x3_1.length : Int) := of_decide_eq_true (by first | (with_reducible assumption) | assumption); obtain ⟨ad106, e106, hx106_0⟩ := Kd.at_bool (Kd.R_reads' HO_3.out).2.2 (ji11) p106 q106; (try rw [← Nbq14.out] at hx106_0); cases e106; replace p106 := eq_true p106; replace q106 := eq_true q106))
                        go_ret
                        exact ⟨by first | rfl | (simp [errW_none, errW_some] <;> rfl) | (simp only [← hji11]; first | rfl | (simp [errW_none, errW_some] <;> rfl)) | (simp [*, errW_none, errW_some] <;> rfl), by repeat (first | (with_reducible first | exact HB.out | apply below_alloc | apply pw_below_drewN | apply below_drew1) | exact HB.out)⟩
                      · replace c15 := Bool.eq_false_iff.mpr c15
                        subst c15
                        have H1 : (impl_permutation.l0 k1 l0 (x3_1.set ((ji11) : Int).toNat true) l0 (l0.length : Int) (wrap64 (x11_1 + 1))) = some r := by rw [if_neg (show ¬ (false = true) by decide)] at H; exact H
                        clear H
                        have H := H1
                        clear H1
                        obtain ⟨y107, hy107⟩ : ∃ y_ : List Bool, y_ = (x3_1.set ((ji11) : Int).toNat true) := ⟨_, rfl⟩
                        replace H : (impl_permutation.l0 k1 l0 y107 l0 (l0.length : Int) (wrap64 (x11_1 + 1))) = some r := by first | (rw [hy107]; with_reducible exact H) | (have H2_ := (Option.bind_some _ _).symm.trans H; rw [hy107]; with_reducible exact H2_) | (have H2_ := (Option.bind_some _ _).symm.trans H; with_reducible exact H2_) | with_reducible exact H | (rw [hy107]; exact H) | exact H
                        have Ny107 := Aside0.mk hy107
                        clear hy107
                        have H' := Aside0.mk H
                        clear H
                        have p104 : 0 ≤ (x11_1 : Int) := of_decide_eq_true (by first | (with_reducible assumption) | assumption)
                        have q104 : x11_1 < (l0.length : Int) := of_decide_eq_true (by first | (with_reducible assumption) | assumption)
                        obtain ⟨ad104, e104, hx104_0⟩ := Kd.at_int HR0.out x11_1 p104 q104
                        cases e104
                        replace hx104_0 := (HB.out.cell (World.block_lt_of_cell? w _ hx104_0)).trans hx104_0
                        replace p104 := eq_true p104
                        replace q104 := eq_true q104
                        go_wp2_with (first | ((with_reducible refine gate_callee (f := 54) rfl ?_); refine goesL_ (some 18) rfl rfl Try.func54 (by kernel_rfl) rfl #[.int .i64 (rd l0 x11_1), .int .i64 1, .int .i64 (l0.length : Int)] rfl (by (try simp only [List.map_toArray, List.map_cons, List.map_nil]); first | done | rfl | (simp only [List.length_drop, List.length_take]; rfl)) ?_; (with_reducible refine (impl_within.calls (rd l0 x11_1) 1 (l0.length : Int) true _ A9.out).mono ?_); rintro e w' ⟨rfl, ⟨nd, rfl⟩⟩; refine ⟨_, rfl, ?_⟩; (try (rw [drewN_self wr]; generalize hq_ : World.drewN wr _ = wr; have n0_ : Aside0 (Kd.R Kd.bool 4 wr w.heap.size (fun _ => True) v102 x3_1) := ⟨by rw [← hq_]; exact (by (with_reducible repeat (first | apply Kd.R_alloc | apply Kd.R_drewN | apply Kd.R_drew)); exact HO_3.out)⟩; have n1_ : Aside0 (Below w.heap.size w wr) := ⟨by rw [← hq_]; exact (by repeat (first | (with_reducible first | exact HB.out | apply below_alloc | apply pw_below_drewN | apply below_drew1) | exact HB.out))⟩; clear HO_3 HB hq_; have HO_3 := n0_; have HB := n1_; clear n0_ n1_)); obtain ⟨Ao18, co18, eo18⟩ := Kd.R_slice HO_3.out; subst eo18; have p106 : 0 ≤ ((ji11) : Int) := of_decide_eq_true (by first | (with_reducible assumption) | assumption); have q106 : (ji11) < (x3_1.length : Int) := of_decide_eq_true (by first | (with_reducible assumption) | assumption); obtain ⟨ad106, e106, hx106_0⟩ := Kd.at_bool (Kd.R_reads' HO_3.out).2.2 (ji11) p106 q106; (try rw [← Nbq14.out] at hx106_0); cases e106; replace p106 := eq_true p106; replace q106 := eq_true q106; have p17 : 0 ≤ ((ji11) : Int) := of_decide_eq_true (by first | (with_reducible assumption) | assumption); have q17 : ((ji11) : Int) < ((x3_1.length : Int) : Int) := of_decide_eq_true (by first | (with_reducible assumption) | assumption); obtain ⟨go17, co17, eo17, gb17, gl17, cl17, HG17⟩ := Kd.R_form HO_3.out (by omega); (first | cases eo17 | (injection eo17 with ea_ en_ ec_; (first | subst ea_ | (injection ea_ with ea_; subst ea_)); subst ec_; clear en_)); have GB17 := Aside0.mk gb17; have GG17 := Aside0.mk HG17; clear gb17 gl17 HG17; (first | simp only [add_plain] at hx106_0 | skip); obtain ⟨hx17_0, hf17_0⟩ := Kd.R_celln false HO_3.out ((ji11) : Int) p17 q17; replace p17 := eq_true p17; replace q17 := eq_true q17; obtain ⟨hy19_, hz19_⟩ := Kd.R_celln false HO_3.out ((ji11) : Int) (of_decide_eq_true (by first | (with_reducible assumption) | assumption)) (of_decide_eq_true (by first | (with_reducible assumption) | assumption)); have HP19 := Kd.R_putg HO_3.out ((ji11) : Int) true) | ((with_reducible refine gate_store (t := 4) (p := 30) rfl ?_); refine store_event (t := 4) (p := 30) (v := ?vo_w20) (w1 := (wr.setCell ⟨go17, ((ji11) : Int).toNat, none⟩ (.bool true))) ?hg ?ho ?hn ?hr ?_; (case ho => rfl); (case hg => rfl); (case hn => rfl); (case hr => first | (go_simp; done) | (go_simp; rfl)); intro w20 hw; have hg : wr.grownBy w20 (some go17) := (by rw [hw]; exact HP19.2); have hp_ : Kd.R Kd.bool 4 w20 w.heap.size (fun _ => True) (.slice (some ⟨go17, 0, none⟩) x3_1.length co18) y107 := (by rw [hw, Ny107.out]; exact HP19.1); clear HP19; have n0_ := Aside0.mk (hp_); have n1_ := Aside0.mk ((by rw [hw]; exact below_set (HB.out) GB17.out : Below w.heap.size w w20)); clear HO_3; clear HB; have HO_3 := n0_; have HB := n1_; clear n0_ n1_; clear hg hw hp_))
                        go_roundg k1
                        case measure => have := HK1.out; omega
                        case rel => exact ⟨(y107), (wrap64 (x11_1 + 1)), (by first | rfl | (simp; done) | (simp [*]; done)), H', ⟨by have := HK1.out; omega⟩, ⟨by (with_reducible repeat (first | apply Kd.R_alloc | apply Kd.R_drewN | apply Kd.R_drew)); exact HO_3.out⟩, ⟨by repeat (first | (with_reducible first | exact HB.out | apply below_alloc | apply pw_below_drewN | apply below_drew1) | exact HB.out)⟩⟩
                    · rw [if_neg c13] at H
                      exact absurd H (by simp)
                  · rw [if_neg c12] at H
                    exact absurd H (by simp)
                · replace c10 := Bool.eq_false_iff.mpr c10
                  subst c10
                  have H1 : (some false) = some r := by rw [if_neg (show ¬ (false = true) by decide)] at H; exact H
                  clear H
                  have H := H1
                  clear H1
                  obtain rfl := Option.some.inj H
                  have p104 : 0 ≤ (x11_1 : Int) := of_decide_eq_true (by first | (with_reducible assumption) | assumption)
                  have q104 : x11_1 < (l0.length : Int) := of_decide_eq_true (by first | (with_reducible assumption) | assumption)
                  obtain ⟨ad104, e104, hx104_0⟩ := Kd.at_int HR0.out x11_1 p104 q104
                  cases e104
                  replace hx104_0 := (HB.out.cell (World.block_lt_of_cell? w _ hx104_0)).trans hx104_0
                  replace p104 := eq_true p104
                  replace q104 := eq_true q104
                  go_wp2_with (first | ((with_reducible refine gate_callee (f := 54) rfl ?_); refine goesL_ (some 18) rfl rfl Try.func54 (by kernel_rfl) rfl #[.int .i64 (rd l0 x11_1), .int .i64 1, .int .i64 (l0.length : Int)] rfl (by (try simp only [List.map_toArray, List.map_cons, List.map_nil]); first | done | rfl | (simp only [List.length_drop, List.length_take]; rfl)) ?_; (with_reducible refine (impl_within.calls (rd l0 x11_1) 1 (l0.length : Int) false _ A9.out).mono ?_); rintro e w' ⟨rfl, ⟨nd, rfl⟩⟩; refine ⟨_, rfl, ?_⟩))
                  go_ret
                  exact ⟨by first | rfl | (simp [errW_none, errW_some] <;> rfl) | (simp [*, errW_none, errW_some] <;> rfl), by repeat (first | (with_reducible first | exact HB.out | apply below_alloc | apply pw_below_drewN | apply below_drew1) | exact HB.out)⟩
              · rw [if_neg c8] at H
                exact absurd H (by simp)
            · rw [if_neg c7] at H
              exact absurd H (by simp)
          · rw [if_neg c6] at H
            have c6b0 : decide (x11_1 < (l0.length : Int)) = false := decide_eq_false c6
            clear c6
            obtain rfl := Option.some.inj H
            go_wp2
            go_ret
            exact ⟨by first | rfl | (simp [errW_none, errW_some] <;> rfl) | (simp [*, errW_none, errW_some] <;> rfl), by repeat (first | (with_reducible first | exact HB.out | apply below_alloc | apply pw_below_drewN | apply below_drew1) | exact HB.out)⟩
    · rw [if_neg c3] at H
      exact absurd H (by simp)
  · rw [if_neg c2] at H
    exact absurd H (by simp)

end Go.Proofs.Ytipjhbngbaifeaa.PA
