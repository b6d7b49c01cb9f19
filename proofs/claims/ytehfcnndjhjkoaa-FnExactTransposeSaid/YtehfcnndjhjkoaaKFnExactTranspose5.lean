import Derived.Test.YtehfcnndjhjkoaaKFnExactTranspose4

-- By a program (prt.py, over the print of the kit), for this claim. Not trusted: Lean checks it.
namespace Go.Proofs.Ytehfcnndjhjkoaa.PA
open Go.RowKit Go.Proofs.YtehfcnndjhjkoaaW.PrintWords Go.Proofs.YtehfcnndjhjkoaaW.PrintLast Go.Proofs.YtehfcnndjhjkoaaW.PrintMore
attribute [local go_sem] max2_int min2_int max_two min_two max_three min_three max_four min_four   -- for this text's walks alone
set_option linter.unusedVariables false
set_option linter.unusedSimpArgs false

set_option maxHeartbeats 8000000 in
set_option maxRecDepth 100000 in
theorem spec_Transpose.calls (k : Nat) (a0_0 : Bool) (A0_1 : Option Addr) (c0_1 : Nat) (l0_1 : List Int) (A0_2 : Option Addr) (c0_2 : Nat) (l0_2 : List Int) (a1_0 : Bool) (A1_1 : Option Addr) (c1_1 : Nat) (l1_1 : List Int) (A1_2 : Option Addr) (c1_2 : Nat) (l1_2 : List Int) (r1 : Bool) (r2 : List Int) (r3 : List Int) (r4 : Int) (w : World) (hr0_1 : Kd.C (Kd.int .i64) w A0_1 l0_1.length l0_1) (hc0_1 : l0_1.length ≤ c0_1) (hr0_2 : Kd.C (Kd.int .i64) w A0_2 l0_2.length l0_2) (hc0_2 : l0_2.length ≤ c0_2) (hr1_1 : Kd.C (Kd.int .i64) w A1_1 l1_1.length l1_1) (hc1_1 : l1_1.length ≤ c1_1) (hr1_2 : Kd.C (Kd.int .i64) w A1_2 l1_2.length l1_2) (hc1_2 : l1_2.length ≤ c1_2) (h : spec_Transpose.f k a0_0 l0_1 l0_2 a1_0 l1_1 l1_2 = some (r1, r2, r3, r4)) :
    Calls Try.prog 33 #[.agg #[.bool a0_0, .slice A0_1 l0_1.length c0_1, .slice A0_2 l0_2.length c0_2], .agg #[.bool a1_0, .slice A1_1 l1_1.length c1_1, .slice A1_2 l1_2.length c1_2]] w fun e w' => ∃ v1_ v2_ : Value, e = .returned (.tuple #[.agg #[.bool r1, v1_, v2_], .int .i64 r4]) ∧ Kd.R (Kd.int .i64) 3 w' w.heap.size (fun k_ => some k_ ≠ (v2_ : Value).ownBlock) v1_ r2 ∧ Kd.R (Kd.int .i64) 3 w' w.heap.size (fun k_ => some k_ ≠ (v1_ : Value).ownBlock) v2_ r3 ∧ Below w.heap.size w w' := by
  have hu28 := Try.underlying28
  have HR0_1 := Aside0.mk hr0_1
  have HC0_1 := Aside0.mk hc0_1
  clear hr0_1 hc0_1
  have HR0_2 := Aside0.mk hr0_2
  have HC0_2 := Aside0.mk hc0_2
  clear hr0_2 hc0_2
  have HR1_1 := Aside0.mk hr1_1
  have HC1_1 := Aside0.mk hc1_1
  clear hr1_1 hc1_1
  have HR1_2 := Aside0.mk hr1_2
  have HC1_2 := Aside0.mk hc1_2
  clear hr1_2 hc1_2
  have HB := Aside0.mk (Below.refl w.heap.size w)
  have H : ((spec_ArrayOk.f k a0_0 l0_1 l0_2).bind fun t104 => (if t104 = true then ((spec_ArrayOk.f k a1_0 l1_1 l1_2).bind fun t105 => (spec_Transpose.j0 k (!t105) a0_0 l0_1 l0_2 a1_0 l1_1 l1_2)) else (spec_Transpose.j0 k true a0_0 l0_1 l0_2 a1_0 l1_1 l1_2))) = some (r1, r2, r3, r4) := h
  clear h
  have HC3 := Aside0.mk H
  clear H
  go_enter Try.func33, Try.ntmps33
  go_upto_region 1 with (first | ((with_reducible refine gate_dst (N := 2) rfl ?_); refine box_event ?hg (N := 2) ?hd (cs := #[.bool a0_0, .slice A0_1 l0_1.length c0_1, .slice A0_2 l0_2.length c0_2]) (t := 28) ?hr ?_; (case hd => rfl); (case hg => rfl); (case hr => first | (go_simp; done) | (go_simp; rfl)); intro gb101 hg w4 hbox hb; have n0_ := Aside0.mk (below_step (Wz HB.out) hb); have n1_ := Aside0.mk (hbox); have n2_ := Aside0.mk ((by rw [hg]; exact (below_size (Wz HB.out)) : w.heap.size ≤ gb101)); have n3_ := Aside0.mk ((by rw [hg]; exact (below_size (Wz HB.out)) : w.heap.size ≤ gb101)); clear HB; have HB := n0_; have BK101 := n1_; have GW101 := n2_; have GE101 := n3_; clear n0_ n1_ n2_ n3_; clear hb hbox hg) | ((with_reducible refine gate_dst (N := 3) rfl ?_); refine box_event ?hg (N := 3) ?hd (cs := #[.bool a1_0, .slice A1_1 l1_1.length c1_1, .slice A1_2 l1_2.length c1_2]) (t := 28) ?hr ?_; (case hd => rfl); (case hg => rfl); (case hr => first | (go_simp; done) | (go_simp; rfl)); intro gb102 hg w5 hbox hb; have n0_ := Aside0.mk (blk_below (g := gb101) (o := .cells #[.bool a0_0, .slice A0_1 l0_1.length c0_1, .slice A0_2 l0_2.length c0_2] 28 (0, 0)) (Bz BK101.out) hb); have n1_ := Aside0.mk (below_step (by repeat (first | (with_reducible first | exact HB.out | apply below_alloc | apply pw_below_drewN | apply below_drew1 | refine below_set ?_ GE101.out) | exact HB.out)) hb); have n2_ := Aside0.mk (hbox); have n3_ := Aside0.mk ((by rw [hg]; exact (below_size (by repeat (first | (with_reducible first | exact HB.out | apply below_alloc | apply pw_below_drewN | apply below_drew1 | refine below_set ?_ GE101.out) | exact HB.out))) : w.heap.size ≤ gb102)); have n4_ := Aside0.mk ((by rw [hg]; exact (below_size (by repeat (first | (with_reducible first | exact HB.out | apply below_alloc | apply pw_below_drewN | apply below_drew1 | refine below_set ?_ GE101.out) | exact HB.out))) : w.heap.size ≤ gb102)); have n5_ := Aside0.mk ((by rw [hg]; exact Nat.ne_of_lt (blk_lt (g := gb101) (o := .cells #[.bool a0_0, .slice A0_1 l0_1.length c0_1, .slice A0_2 l0_2.length c0_2] 28 (0, 0)) (Bz BK101.out)) : gb101 ≠ gb102)); have n6_ := Aside0.mk ((by rw [hg]; exact Nat.ne_of_gt (blk_lt (g := gb101) (o := .cells #[.bool a0_0, .slice A0_1 l0_1.length c0_1, .slice A0_2 l0_2.length c0_2] 28 (0, 0)) (Bz BK101.out)) : gb102 ≠ gb101)); clear BK101; clear HB; have BK101 := n0_; have HB := n1_; have BK102 := n2_; have GW102 := n3_; have GE102 := n4_; have NB101_102 := n5_; have NB102_101 := n6_; clear n0_ n1_ n2_ n3_ n4_ n5_ n6_; clear hb hbox hg) | ((with_reducible refine gate_dst (N := 4) rfl ?_); refine box_event ?hg (N := 4) ?hd (cs := #[.bool false, .slice none 0 0, .slice none 0 0]) (t := 28) ?hr ?_; (case hd => rfl); (case hg => rfl); (case hr => first | (go_simp; done) | (go_simp; rfl)); intro gb103 hg w6 hbox hb; have n0_ := Aside0.mk (blk_below (g := gb101) (o := .cells #[.bool a0_0, .slice A0_1 l0_1.length c0_1, .slice A0_2 l0_2.length c0_2] 28 (0, 0)) (Bz BK101.out) hb); have n1_ := Aside0.mk (blk_below (g := gb102) (o := .cells #[.bool a1_0, .slice A1_1 l1_1.length c1_1, .slice A1_2 l1_2.length c1_2] 28 (0, 0)) (Bz BK102.out) hb); have n2_ := Aside0.mk (below_step (by repeat (first | (with_reducible first | exact HB.out | apply below_alloc | apply pw_below_drewN | apply below_drew1 | refine below_set ?_ GE101.out | refine below_set ?_ GE102.out) | exact HB.out)) hb); have n3_ := Aside0.mk (hbox); have n4_ := Aside0.mk ((by rw [hg]; exact (below_size (by repeat (first | (with_reducible first | exact HB.out | apply below_alloc | apply pw_below_drewN | apply below_drew1 | refine below_set ?_ GE101.out | refine below_set ?_ GE102.out) | exact HB.out))) : w.heap.size ≤ gb103)); have n5_ := Aside0.mk ((by rw [hg]; exact (below_size (by repeat (first | (with_reducible first | exact HB.out | apply below_alloc | apply pw_below_drewN | apply below_drew1 | refine below_set ?_ GE101.out | refine below_set ?_ GE102.out) | exact HB.out))) : w.heap.size ≤ gb103)); have n6_ := Aside0.mk ((by rw [hg]; exact Nat.ne_of_lt (blk_lt (g := gb101) (o := .cells #[.bool a0_0, .slice A0_1 l0_1.length c0_1, .slice A0_2 l0_2.length c0_2] 28 (0, 0)) (Bz BK101.out)) : gb101 ≠ gb103)); have n7_ := Aside0.mk ((by rw [hg]; exact Nat.ne_of_gt (blk_lt (g := gb101) (o := .cells #[.bool a0_0, .slice A0_1 l0_1.length c0_1, .slice A0_2 l0_2.length c0_2] 28 (0, 0)) (Bz BK101.out)) : gb103 ≠ gb101)); have n8_ := Aside0.mk ((by rw [hg]; exact Nat.ne_of_lt (blk_lt (g := gb102) (o := .cells #[.bool a1_0, .slice A1_1 l1_1.length c1_1, .slice A1_2 l1_2.length c1_2] 28 (0, 0)) (Bz BK102.out)) : gb102 ≠ gb103)); have n9_ := Aside0.mk ((by rw [hg]; exact Nat.ne_of_gt (blk_lt (g := gb102) (o := .cells #[.bool a1_0, .slice A1_1 l1_1.length c1_1, .slice A1_2 l1_2.length c1_2] 28 (0, 0)) (Bz BK102.out)) : gb103 ≠ gb102)); clear BK101; clear BK102; clear HB; have BK101 := n0_; have BK102 := n1_; have HB := n2_; have BK103 := n3_; have GW103 := n4_; have GE103 := n5_; have NB101_103 := n6_; have NB103_101 := n7_; have NB102_103 := n8_; have NB103_102 := n9_; clear n0_ n1_ n2_ n3_ n4_ n5_ n6_ n7_ n8_ n9_; clear hb hbox hg))
  (try simp only [Act.put, List.setIfInBounds_toArray, List.set_cons_zero, List.set_cons_succ])
  go_cut [23] (fun v23 wc => ∃ (kq : Nat) (x23_2 : Bool), v23 = .bool x23_2 ∧ Aside0 (spec_Transpose.j0 kq x23_2 a0_0 l0_1 l0_2 a1_0 l1_1 l1_2 = some (r1, r2, r3, r4)) ∧ Aside0 (kq ≤ k) ∧ Aside0 (wc.heap[gb101]? = some (.cells #[.bool a0_0, (.slice A0_1 l0_1.length c0_1), (.slice A0_2 l0_2.length c0_2)] 28 (0, 0))) ∧ Aside0 (wc.heap[gb102]? = some (.cells #[.bool a1_0, (.slice A1_1 l1_1.length c1_1), (.slice A1_2 l1_2.length c1_2)] 28 (0, 0))) ∧ Aside0 (wc.heap[gb103]? = some (.cells #[.bool false, (.slice none 0 0), (.slice none 0 0)] 28 (0, 0))) ∧ Aside0 (Below w.heap.size w wc))
  case first =>
    have H := HC3.out
    clear HC3
    replace H := Option.bind_eq_some_iff.mp H
    obtain ⟨t104, A70, H⟩ := H
    replace H : (if t104 = true then ((spec_ArrayOk.f k a1_0 l1_1 l1_2).bind fun t105 => (spec_Transpose.j0 k (!t105) a0_0 l0_1 l0_2 a1_0 l1_1 l1_2)) else (spec_Transpose.j0 k true a0_0 l0_1 l0_2 a1_0 l1_1 l1_2)) = some (r1, r2, r3, r4) := H
    have A7 := Aside0.mk A70
    clear A70
    by_cases c8 : t104 = true
    · subst c8
      have H1 : ((spec_ArrayOk.f k a1_0 l1_1 l1_2).bind fun t105 => (spec_Transpose.j0 k (!t105) a0_0 l0_1 l0_2 a1_0 l1_1 l1_2)) = some (r1, r2, r3, r4) := by rw [if_pos rfl] at H; exact H
      clear H
      have H := H1
      clear H1
      replace H := Option.bind_eq_some_iff.mp H
      obtain ⟨t105, A90, H⟩ := H
      replace H : (spec_Transpose.j0 k (!t105) a0_0 l0_1 l0_2 a1_0 l1_1 l1_2) = some (r1, r2, r3, r4) := H
      have A9 := Aside0.mk A90
      clear A90
      have H' := Aside0.mk H
      clear H
      have hnb10 := NB101_102.out
      have hnc10 := NB102_101.out
      have hnb11 := NB101_103.out
      have hnc11 := NB103_101.out
      have hcz12_0 : w6.cell? ⟨gb101, 0, none⟩ = some (.bool a0_0) := (blk_cell BK101.out 0).trans rfl
      have hcz12_1 : w6.cell? ⟨gb101, 1, none⟩ = some (.slice A0_1 l0_1.length c0_1) := (blk_cell BK101.out 1).trans rfl
      have hcz12_2 : w6.cell? ⟨gb101, 2, none⟩ = some (.slice A0_2 l0_2.length c0_2) := (blk_cell BK101.out 2).trans rfl
      have hfz12_0 := blk_frozen BK101.out 0
      have hfz12_1 := blk_frozen BK101.out 1
      have hfz12_2 := blk_frozen BK101.out 2
      go_wp2_with (first | ((with_reducible refine gate_callee (f := 47) rfl ?_); refine goesL_ (some 17) rfl rfl Try.func47 (by kernel_rfl) rfl #[.agg #[.bool a0_0, .slice A0_1 l0_1.length c0_1, .slice A0_2 l0_2.length c0_2]] rfl (by (try simp only [List.map_toArray, List.map_cons, List.map_nil]); first | done | rfl | (simp only [List.length_drop, List.length_take]; rfl)) ?_; (with_reducible refine (spec_ArrayOk.calls k a0_0 _ _ l0_1 _ _ l0_2 true _ ?side1 ?side2 ?side3 ?side4 A7.out).mono ?_); (case side1 => repeat (first | exact (Kd.C_below HR0_1.out HB.out) | (with_reducible refine Kd.C_alloc ?_ _) | (with_reducible refine Kd.C_drewN ?_ _) | (with_reducible refine Kd.C_drew ?_))); (case side2 => exact HC0_1.out); (case side3 => repeat (first | exact (Kd.C_below HR0_2.out HB.out) | (with_reducible refine Kd.C_alloc ?_ _) | (with_reducible refine Kd.C_drewN ?_ _) | (with_reducible refine Kd.C_drew ?_))); (case side4 => exact HC0_2.out); rintro e w13 ⟨rfl, hb⟩; refine ⟨_, rfl, ?_⟩; have n0_ := Aside0.mk (blk_below (g := gb101) (o := .cells #[.bool a0_0, .slice A0_1 l0_1.length c0_1, .slice A0_2 l0_2.length c0_2] 28 (0, 0)) (Bz BK101.out) hb); have n1_ := Aside0.mk (blk_below (g := gb102) (o := .cells #[.bool a1_0, .slice A1_1 l1_1.length c1_1, .slice A1_2 l1_2.length c1_2] 28 (0, 0)) (Bz BK102.out) hb); have n2_ := Aside0.mk (blk_below (g := gb103) (o := .cells #[.bool false, .slice none 0 0, .slice none 0 0] 28 (0, 0)) (Bz BK103.out) hb); have n3_ := Aside0.mk (below_step (by repeat (first | (with_reducible first | exact HB.out | apply below_alloc | apply pw_below_drewN | apply below_drew1 | refine below_set ?_ GE101.out | refine below_set ?_ GE102.out | refine below_set ?_ GE103.out) | exact HB.out)) hb); clear BK101; clear BK102; clear BK103; clear HB; have BK101 := n0_; have BK102 := n1_; have BK103 := n2_; have HB := n3_; clear n0_ n1_ n2_ n3_; (try clear hb); have hnb14 := NB102_103.out; have hnc14 := NB103_102.out; have hcz15_0 : w13.cell? ⟨gb102, 0, none⟩ = some (.bool a1_0) := (blk_cell BK102.out 0).trans rfl; have hcz15_1 : w13.cell? ⟨gb102, 1, none⟩ = some (.slice A1_1 l1_1.length c1_1) := (blk_cell BK102.out 1).trans rfl; have hcz15_2 : w13.cell? ⟨gb102, 2, none⟩ = some (.slice A1_2 l1_2.length c1_2) := (blk_cell BK102.out 2).trans rfl; have hfz15_0 := blk_frozen BK102.out 0; have hfz15_1 := blk_frozen BK102.out 1; have hfz15_2 := blk_frozen BK102.out 2) | (go_at_call 47; (with_reducible refine (spec_ArrayOk.calls k a1_0 _ _ l1_1 _ _ l1_2 t105 _ ?side1 ?side2 ?side3 ?side4 A9.out).mono ?_); (case side1 => repeat (first | exact (Kd.C_below HR1_1.out HB.out) | (with_reducible refine Kd.C_alloc ?_ _) | (with_reducible refine Kd.C_drewN ?_ _) | (with_reducible refine Kd.C_drew ?_))); (case side2 => exact HC1_1.out); (case side3 => repeat (first | exact (Kd.C_below HR1_2.out HB.out) | (with_reducible refine Kd.C_alloc ?_ _) | (with_reducible refine Kd.C_drewN ?_ _) | (with_reducible refine Kd.C_drew ?_))); (case side4 => exact HC1_2.out); rintro e w16 ⟨rfl, hb⟩; have n0_ := Aside0.mk (blk_below (g := gb101) (o := .cells #[.bool a0_0, .slice A0_1 l0_1.length c0_1, .slice A0_2 l0_2.length c0_2] 28 (0, 0)) (Bz BK101.out) hb); have n1_ := Aside0.mk (blk_below (g := gb102) (o := .cells #[.bool a1_0, .slice A1_1 l1_1.length c1_1, .slice A1_2 l1_2.length c1_2] 28 (0, 0)) (Bz BK102.out) hb); have n2_ := Aside0.mk (blk_below (g := gb103) (o := .cells #[.bool false, .slice none 0 0, .slice none 0 0] 28 (0, 0)) (Bz BK103.out) hb); have n3_ := Aside0.mk (below_step (by repeat (first | (with_reducible first | exact HB.out | apply below_alloc | apply pw_below_drewN | apply below_drew1 | refine below_set ?_ GE101.out | refine below_set ?_ GE102.out | refine below_set ?_ GE103.out) | exact HB.out)) hb); clear BK101; clear BK102; clear BK103; clear HB; have BK101 := n0_; have BK102 := n1_; have BK103 := n2_; have HB := n3_; clear n0_ n1_ n2_ n3_; (try clear hb); (try clear hi)))
      go_meet
      case rel => exact ⟨_, (!t105), (by first | rfl | (simp; done) | (simp [*]; done)), H', ⟨by first | omega | exact Nat.le_refl _⟩, ⟨by (with_reducible repeat (first | refine blk_drewN ?_ _ | refine blk_drew ?_ | refine blk_alloc ?_ _)); exact BK101.out⟩, ⟨by (with_reducible repeat (first | refine blk_drewN ?_ _ | refine blk_drew ?_ | refine blk_alloc ?_ _)); exact BK102.out⟩, ⟨by (with_reducible repeat (first | refine blk_drewN ?_ _ | refine blk_drew ?_ | refine blk_alloc ?_ _)); exact BK103.out⟩, ⟨by repeat (first | (with_reducible first | exact HB.out | apply below_alloc | apply pw_below_drewN | apply below_drew1 | refine below_set ?_ GE101.out | refine below_set ?_ GE102.out | refine below_set ?_ GE103.out) | exact HB.out)⟩⟩
    · replace c8 := Bool.eq_false_iff.mpr c8
      subst c8
      have H1 : (spec_Transpose.j0 k true a0_0 l0_1 l0_2 a1_0 l1_1 l1_2) = some (r1, r2, r3, r4) := by rw [if_neg (show ¬ (false = true) by decide)] at H; exact H
      clear H
      have H := H1
      clear H1
      have H' := Aside0.mk H
      clear H
      have hnb17 := NB101_102.out
      have hnc17 := NB102_101.out
      have hnb18 := NB101_103.out
      have hnc18 := NB103_101.out
      have hcz19_0 : w6.cell? ⟨gb101, 0, none⟩ = some (.bool a0_0) := (blk_cell BK101.out 0).trans rfl
      have hcz19_1 : w6.cell? ⟨gb101, 1, none⟩ = some (.slice A0_1 l0_1.length c0_1) := (blk_cell BK101.out 1).trans rfl
      have hcz19_2 : w6.cell? ⟨gb101, 2, none⟩ = some (.slice A0_2 l0_2.length c0_2) := (blk_cell BK101.out 2).trans rfl
      have hfz19_0 := blk_frozen BK101.out 0
      have hfz19_1 := blk_frozen BK101.out 1
      have hfz19_2 := blk_frozen BK101.out 2
      go_wp2_with (first | ((with_reducible refine gate_callee (f := 47) rfl ?_); refine goesL_ (some 17) rfl rfl Try.func47 (by kernel_rfl) rfl #[.agg #[.bool a0_0, .slice A0_1 l0_1.length c0_1, .slice A0_2 l0_2.length c0_2]] rfl (by (try simp only [List.map_toArray, List.map_cons, List.map_nil]); first | done | rfl | (simp only [List.length_drop, List.length_take]; rfl)) ?_; (with_reducible refine (spec_ArrayOk.calls k a0_0 _ _ l0_1 _ _ l0_2 false _ ?side1 ?side2 ?side3 ?side4 A7.out).mono ?_); (case side1 => repeat (first | exact (Kd.C_below HR0_1.out HB.out) | (with_reducible refine Kd.C_alloc ?_ _) | (with_reducible refine Kd.C_drewN ?_ _) | (with_reducible refine Kd.C_drew ?_))); (case side2 => exact HC0_1.out); (case side3 => repeat (first | exact (Kd.C_below HR0_2.out HB.out) | (with_reducible refine Kd.C_alloc ?_ _) | (with_reducible refine Kd.C_drewN ?_ _) | (with_reducible refine Kd.C_drew ?_))); (case side4 => exact HC0_2.out); rintro e w20 ⟨rfl, hb⟩; refine ⟨_, rfl, ?_⟩; have n0_ := Aside0.mk (blk_below (g := gb101) (o := .cells #[.bool a0_0, .slice A0_1 l0_1.length c0_1, .slice A0_2 l0_2.length c0_2] 28 (0, 0)) (Bz BK101.out) hb); have n1_ := Aside0.mk (blk_below (g := gb102) (o := .cells #[.bool a1_0, .slice A1_1 l1_1.length c1_1, .slice A1_2 l1_2.length c1_2] 28 (0, 0)) (Bz BK102.out) hb); have n2_ := Aside0.mk (blk_below (g := gb103) (o := .cells #[.bool false, .slice none 0 0, .slice none 0 0] 28 (0, 0)) (Bz BK103.out) hb); have n3_ := Aside0.mk (below_step (by repeat (first | (with_reducible first | exact HB.out | apply below_alloc | apply pw_below_drewN | apply below_drew1 | refine below_set ?_ GE101.out | refine below_set ?_ GE102.out | refine below_set ?_ GE103.out) | exact HB.out)) hb); clear BK101; clear BK102; clear BK103; clear HB; have BK101 := n0_; have BK102 := n1_; have BK103 := n2_; have HB := n3_; clear n0_ n1_ n2_ n3_; (try clear hb); (try clear hi)))
      go_meet
      case rel => exact ⟨_, (true), (by first | rfl | (simp; done) | (simp [*]; done)), H', ⟨by first | omega | exact Nat.le_refl _⟩, ⟨by (with_reducible repeat (first | refine blk_drewN ?_ _ | refine blk_drew ?_ | refine blk_alloc ?_ _)); exact BK101.out⟩, ⟨by (with_reducible repeat (first | refine blk_drewN ?_ _ | refine blk_drew ?_ | refine blk_alloc ?_ _)); exact BK102.out⟩, ⟨by (with_reducible repeat (first | refine blk_drewN ?_ _ | refine blk_drew ?_ | refine blk_alloc ?_ _)); exact BK103.out⟩, ⟨by repeat (first | (with_reducible first | exact HB.out | apply below_alloc | apply pw_below_drewN | apply below_drew1 | refine below_set ?_ GE101.out | refine below_set ?_ GE102.out | refine below_set ?_ GE103.out) | exact HB.out)⟩⟩
  case rest =>
    clear HC3
    try clear c1
    try clear p2
    try clear c3
    try clear c4
    try clear c8
    try clear c10
    try clear c11
    try clear c14
    try clear c17
    try clear c18
    try clear hcz12_0
    try clear hcz12_1
    try clear hcz12_2
    try clear hcz15_0
    try clear hcz15_1
    try clear hcz15_2
    try clear hcz19_0
    try clear hcz19_1
    try clear hcz19_2
    try clear hfz12_0
    try clear hfz12_1
    try clear hfz12_2
    try clear hfz15_0
    try clear hfz15_1
    try clear hfz15_2
    try clear hfz19_0
    try clear hfz19_1
    try clear hfz19_2
    obtain ⟨kq, x23_2, rfl, HA, HJ2, BK101, BK102, BK103, HB⟩ := hcut
    cases kq with
    | zero => exact absurd HA.out (by simp [spec_Transpose.j0])
    | succ kj2 =>
      have H := HA.out
      clear HA
      simp only [spec_Transpose.j0] at H
      by_cases c21 : x23_2 = true
      · subst c21
        have H1 : ((spec_l4None.f).bind fun bt106 => (some (bt106.1, bt106.2.1, bt106.2.2, 3))) = some (r1, r2, r3, r4) := by rw [if_pos rfl] at H; exact H
        clear H
        have H := H1
        clear H1
        replace H := Option.bind_eq_some_iff.mp H
        obtain ⟨⟨t106, t107, t110⟩, A220, H⟩ := H
        replace H : (some (t106, t107, t110, 3)) = some (r1, r2, r3, r4) := H
        have A22 := Aside0.mk A220
        clear A220
        simp only [Option.some.injEq, Prod.mk.injEq] at H
        obtain ⟨rfl, rfl, rfl, rfl⟩ := H
        go_wp2_with (first | ((with_reducible refine gate_callee (f := 53) rfl ?_); refine goesL_ (some 24) rfl rfl Try.func53 (by kernel_rfl) rfl #[] rfl (by (try simp only [List.map_toArray, List.map_cons, List.map_nil]); first | done | rfl | (simp only [List.length_drop, List.length_take]; rfl)) ?_; (with_reducible refine (spec_l4None.calls  t106 t107 t110 _ A22.out).mono ?_); rintro e w23 ⟨v108, v111, rfl, ho0, ho1, hb⟩; refine ⟨_, rfl, ?_⟩; have n0_ := Aside0.mk (Kd.R_lower ho0 (below_size (by repeat (first | (with_reducible first | exact HB.out | apply below_alloc | apply pw_below_drewN | apply below_drew1 | refine below_set ?_ GE101.out | refine below_set ?_ GE102.out | refine below_set ?_ GE103.out) | exact HB.out)))); have n1_ := Aside0.mk (Kd.R_lower ho1 (below_size (by repeat (first | (with_reducible first | exact HB.out | apply below_alloc | apply pw_below_drewN | apply below_drew1 | refine below_set ?_ GE101.out | refine below_set ?_ GE102.out | refine below_set ?_ GE103.out) | exact HB.out)))); have n2_ := Aside0.mk (blk_below (g := gb101) (o := .cells #[.bool a0_0, .slice A0_1 l0_1.length c0_1, .slice A0_2 l0_2.length c0_2] 28 (0, 0)) (Bz BK101.out) hb); have n3_ := Aside0.mk (blk_below (g := gb102) (o := .cells #[.bool a1_0, .slice A1_1 l1_1.length c1_1, .slice A1_2 l1_2.length c1_2] 28 (0, 0)) (Bz BK102.out) hb); have n4_ := Aside0.mk (blk_below (g := gb103) (o := .cells #[.bool false, .slice none 0 0, .slice none 0 0] 28 (0, 0)) (Bz BK103.out) hb); have n5_ := Aside0.mk (below_step (by repeat (first | (with_reducible first | exact HB.out | apply below_alloc | apply pw_below_drewN | apply below_drew1 | refine below_set ?_ GE101.out | refine below_set ?_ GE102.out | refine below_set ?_ GE103.out) | exact HB.out)) hb); clear BK101; clear BK102; clear BK103; clear HB; have HO109 := n0_; have HO112 := n1_; have BK101 := n2_; have BK102 := n3_; have BK103 := n4_; have HB := n5_; clear n0_ n1_ n2_ n3_ n4_ n5_; (try clear hb); (try clear ho0); (try clear ho1); have hnb24 := NB103_101.out; have hnc24 := NB101_103.out; have hnb25 := NB103_102.out; have hnc25 := NB102_103.out; have hcz26_0 : w23.cell? ⟨gb103, 0, none⟩ = some (.bool false) := (blk_cell BK103.out 0).trans rfl; have hcz26_1 : w23.cell? ⟨gb103, 1, none⟩ = some (.slice none 0 0) := (blk_cell BK103.out 1).trans rfl; have hcz26_2 : w23.cell? ⟨gb103, 2, none⟩ = some (.slice none 0 0) := (blk_cell BK103.out 2).trans rfl; have hfz26_0 := blk_frozen BK103.out 0; have hfz26_1 := blk_frozen BK103.out 1; have hfz26_2 := blk_frozen BK103.out 2; obtain ⟨Ao27, co27, eo27⟩ := Kd.R_slice HO109.out; subst eo27; obtain ⟨Ao28, co28, eo28⟩ := Kd.R_slice HO112.out; subst eo28))
        refine bodyPost_ret (results_ct rfl _ _ gb103 28 #[.bool t106, .slice Ao27 t107.length co27, .slice Ao28 t110.length co28] (0, 0) _ rfl (by (with_reducible repeat (first | refine blk_drewN ?_ _ | refine blk_drew ?_ | refine blk_alloc ?_ _)); refine blk_put (cs := #[.bool t106, .slice Ao27 t107.length co27, .slice none 0 0]) ?_ 2 _ rfl; (with_reducible repeat (first | refine blk_drewN ?_ _ | refine blk_drew ?_ | refine blk_alloc ?_ _)); refine blk_put (cs := #[.bool t106, .slice none 0 0, .slice none 0 0]) ?_ 1 _ rfl; (with_reducible repeat (first | refine blk_drewN ?_ _ | refine blk_drew ?_ | refine blk_alloc ?_ _)); refine blk_put (cs := #[.bool false, .slice none 0 0, .slice none 0 0]) ?_ 0 _ rfl; (with_reducible repeat (first | refine blk_drewN ?_ _ | refine blk_drew ?_ | refine blk_alloc ?_ _)); exact BK103.out) Try.underlying28 rfl (by kernel_rfl)) rfl ?_
        exact ⟨_, _, by first | rfl | (simp [errW_none, errW_some] <;> rfl) | (simp [*, errW_none, errW_some] <;> rfl), by (with_reducible repeat (first | apply Kd.R_alloc | apply Kd.R_drewN | apply Kd.R_drew)); exact Kd.R_mono (Kd.R_far (p := ⟨gb103, 2, none⟩) (Kd.R_far (p := ⟨gb103, 1, none⟩) (Kd.R_far (p := ⟨gb103, 0, none⟩) (Kd.R_types HO109.out BK103.out (by decide)) (fun _ hk => hk.2) (.bool t106)) (fun _ hk => hk.2) (.slice Ao27 t107.length co27)) (fun _ hk => hk.2) (.slice Ao28 t110.length co28)) (fun _ hk => hk.1), by (with_reducible repeat (first | apply Kd.R_alloc | apply Kd.R_drewN | apply Kd.R_drew)); exact Kd.R_mono (Kd.R_far (p := ⟨gb103, 2, none⟩) (Kd.R_far (p := ⟨gb103, 1, none⟩) (Kd.R_far (p := ⟨gb103, 0, none⟩) (Kd.R_types HO112.out BK103.out (by decide)) (fun _ hk => hk.2) (.bool t106)) (fun _ hk => hk.2) (.slice Ao27 t107.length co27)) (fun _ hk => hk.2) (.slice Ao28 t110.length co28)) (fun _ hk => hk.1), by repeat (first | (with_reducible first | exact HB.out | apply below_alloc | apply pw_below_drewN | apply below_drew1 | refine below_set ?_ GE101.out | refine below_set ?_ GE102.out | refine below_set ?_ GE103.out) | exact HB.out)⟩
      · replace c21 := Bool.eq_false_iff.mpr c21
        subst c21
        have H1 : ((spec_l5List.f a0_0 l0_1 l0_2).bind fun t113 => (if t113 = 0 then (if (l0_2.length : Int) = (l1_1.length : Int) then (if 0 ≤ (l1_1.length : Int) then (if ((l1_1.length : Int) : Int).toNat ≤ 35184372088832 then (if ((l1_1.length : Int) : Int).toNat ≤ 281474976710656 then (spec_Transpose.l0 kj2 (l1_1.length : Int) (List.replicate ((l1_1.length : Int) : Int).toNat false) 0 a0_0 l0_1 l0_2 a1_0 l1_1 l1_2 a1_0 (List.replicate ((l1_1.length : Int) : Int).toNat 0) (([] : List Int))) else (none)) else (none)) else (none)) else ((spec_l4None.f).bind fun bt121 => (some (bt121.1, bt121.2.1, bt121.2.2, 5)))) else ((spec_l4None.f).bind fun bt114 => (some (bt114.1, bt114.2.1, bt114.2.2, t113))))) = some (r1, r2, r3, r4) := by rw [if_neg (show ¬ (false = true) by decide)] at H; exact H
        clear H
        have H := H1
        clear H1
        replace H := Option.bind_eq_some_iff.mp H
        obtain ⟨t113, A290, H⟩ := H
        replace H : (if t113 = 0 then (if (l0_2.length : Int) = (l1_1.length : Int) then (if 0 ≤ (l1_1.length : Int) then (if ((l1_1.length : Int) : Int).toNat ≤ 35184372088832 then (if ((l1_1.length : Int) : Int).toNat ≤ 281474976710656 then (spec_Transpose.l0 kj2 (l1_1.length : Int) (List.replicate ((l1_1.length : Int) : Int).toNat false) 0 a0_0 l0_1 l0_2 a1_0 l1_1 l1_2 a1_0 (List.replicate ((l1_1.length : Int) : Int).toNat 0) (([] : List Int))) else (none)) else (none)) else (none)) else ((spec_l4None.f).bind fun bt121 => (some (bt121.1, bt121.2.1, bt121.2.2, 5)))) else ((spec_l4None.f).bind fun bt114 => (some (bt114.1, bt114.2.1, bt114.2.2, t113)))) = some (r1, r2, r3, r4) := H
        have A29 := Aside0.mk A290
        clear A290
        by_cases c30 : t113 = 0
        · rw [if_pos c30] at H
          have c30b0 : (t113 == 0) = true := beq_iff_eq.mpr c30
          have c30b1 : (t113 != 0) = false := bne_eq_false_iff_eq.mpr c30
          clear c30
          by_cases c31 : (l0_2.length : Int) = (l1_1.length : Int)
          · rw [if_pos c31] at H
            have c31b0 : ((l0_2.length : Int) == (l1_1.length : Int)) = true := beq_iff_eq.mpr c31
            have c31b1 : ((l0_2.length : Int) != (l1_1.length : Int)) = false := bne_eq_false_iff_eq.mpr c31
            have c31b2 : (l0_2.length == l1_1.length) = true := by first | simpa using c31 | (simp at c31 ⊢; omega)
            clear c31
            by_cases c32 : 0 ≤ (l1_1.length : Int)
            · rw [if_pos c32] at H
              have c32b0 := eq_true c32
              have c32b1 : decide (0 ≤ (l1_1.length : Int)) = true := decide_eq_true c32
              clear c32
              by_cases c33 : ((l1_1.length : Int) : Int).toNat ≤ 35184372088832
              · rw [if_pos c33] at H
                have c33b0 := eq_true c33
                have c33b1 : decide (((l1_1.length : Int) : Int).toNat ≤ 35184372088832) = true := decide_eq_true c33
                clear c33
                obtain ⟨y128, hy128⟩ : ∃ y_ : List Int, y_ = (List.replicate ((l1_1.length : Int) : Int).toNat 0) := ⟨_, rfl⟩
                replace H : (if ((l1_1.length : Int) : Int).toNat ≤ 281474976710656 then (spec_Transpose.l0 kj2 (l1_1.length : Int) (List.replicate ((l1_1.length : Int) : Int).toNat false) 0 a0_0 l0_1 l0_2 a1_0 l1_1 l1_2 a1_0 y128 (([] : List Int))) else (none)) = some (r1, r2, r3, r4) := by first | (rw [hy128]; with_reducible exact H) | (have H2_ := (Option.bind_some _ _).symm.trans H; rw [hy128]; with_reducible exact H2_) | (have H2_ := (Option.bind_some _ _).symm.trans H; with_reducible exact H2_) | with_reducible exact H | (rw [hy128]; exact H) | exact H
                have Ny128 := Aside0.mk hy128
                clear hy128
                obtain ⟨y131, hy131⟩ : ∃ y_ : List Int, y_ = (([] : List Int)) := ⟨_, rfl⟩
                replace H : (if ((l1_1.length : Int) : Int).toNat ≤ 281474976710656 then (spec_Transpose.l0 kj2 (l1_1.length : Int) (List.replicate ((l1_1.length : Int) : Int).toNat false) 0 a0_0 l0_1 l0_2 a1_0 l1_1 l1_2 a1_0 y128 y131) else (none)) = some (r1, r2, r3, r4) := by first | (rw [hy131]; with_reducible exact H) | (have H2_ := (Option.bind_some _ _).symm.trans H; rw [hy131]; with_reducible exact H2_) | (have H2_ := (Option.bind_some _ _).symm.trans H; with_reducible exact H2_) | with_reducible exact H | (rw [hy131]; exact H) | exact H
                have Ny131 := Aside0.mk hy131
                clear hy131
                by_cases c34 : ((l1_1.length : Int) : Int).toNat ≤ 281474976710656
                · rw [if_pos c34] at H
                  have c34b0 := eq_true c34
                  have c34b1 : decide (((l1_1.length : Int) : Int).toNat ≤ 281474976710656) = true := decide_eq_true c34
                  clear c34
                  obtain ⟨y135, hy135⟩ : ∃ y_ : List Bool, y_ = (List.replicate ((l1_1.length : Int) : Int).toNat false) := ⟨_, rfl⟩
                  replace H : (spec_Transpose.l0 kj2 (l1_1.length : Int) y135 0 a0_0 l0_1 l0_2 a1_0 l1_1 l1_2 a1_0 y128 y131) = some (r1, r2, r3, r4) := by first | (rw [hy135]; with_reducible exact H) | (have H2_ := (Option.bind_some _ _).symm.trans H; rw [hy135]; with_reducible exact H2_) | (have H2_ := (Option.bind_some _ _).symm.trans H; with_reducible exact H2_) | with_reducible exact H | (rw [hy135]; exact H) | exact H
                  have Ny135 := Aside0.mk hy135
                  clear hy135
                  have H' := Aside0.mk H
                  clear H
                  have hnb35 := NB101_102.out
                  have hnc35 := NB102_101.out
                  have hnb36 := NB101_103.out
                  have hnc36 := NB103_101.out
                  have hcz37_0 : wc.cell? ⟨gb101, 0, none⟩ = some (.bool a0_0) := (blk_cell BK101.out 0).trans rfl
                  have hcz37_1 : wc.cell? ⟨gb101, 1, none⟩ = some (.slice A0_1 l0_1.length c0_1) := (blk_cell BK101.out 1).trans rfl
                  have hcz37_2 : wc.cell? ⟨gb101, 2, none⟩ = some (.slice A0_2 l0_2.length c0_2) := (blk_cell BK101.out 2).trans rfl
                  have hfz37_0 := blk_frozen BK101.out 0
                  have hfz37_1 := blk_frozen BK101.out 1
                  have hfz37_2 := blk_frozen BK101.out 2
                  try go_wp2_with (first | ((with_reducible refine gate_callee (f := 71) rfl ?_); refine goesL_ (some 26) rfl rfl Try.func71 (by kernel_rfl) rfl #[.agg #[.bool a0_0, .slice A0_1 l0_1.length c0_1, .slice A0_2 l0_2.length c0_2]] rfl (by (try simp only [List.map_toArray, List.map_cons, List.map_nil]); first | done | rfl | (simp only [List.length_drop, List.length_take]; rfl)) ?_; (with_reducible refine (spec_l5List.calls a0_0 _ _ l0_1 _ _ l0_2 t113 _ ?side1 ?side2 ?side3 ?side4 A29.out).mono ?_); (case side1 => repeat (first | exact (Kd.C_below HR0_1.out HB.out) | (with_reducible refine Kd.C_alloc ?_ _) | (with_reducible refine Kd.C_drewN ?_ _) | (with_reducible refine Kd.C_drew ?_))); (case side2 => exact HC0_1.out); (case side3 => repeat (first | exact (Kd.C_below HR0_2.out HB.out) | (with_reducible refine Kd.C_alloc ?_ _) | (with_reducible refine Kd.C_drewN ?_ _) | (with_reducible refine Kd.C_drew ?_))); (case side4 => exact HC0_2.out); rintro e w38 ⟨rfl, hb⟩; refine ⟨_, rfl, ?_⟩; have n0_ := Aside0.mk (blk_below (g := gb101) (o := .cells #[.bool a0_0, .slice A0_1 l0_1.length c0_1, .slice A0_2 l0_2.length c0_2] 28 (0, 0)) (Bz BK101.out) hb); have n1_ := Aside0.mk (blk_below (g := gb102) (o := .cells #[.bool a1_0, .slice A1_1 l1_1.length c1_1, .slice A1_2 l1_2.length c1_2] 28 (0, 0)) (Bz BK102.out) hb); have n2_ := Aside0.mk (blk_below (g := gb103) (o := .cells #[.bool false, .slice none 0 0, .slice none 0 0] 28 (0, 0)) (Bz BK103.out) hb); have n3_ := Aside0.mk (below_step (by repeat (first | (with_reducible first | exact HB.out | apply below_alloc | apply pw_below_drewN | apply below_drew1 | refine below_set ?_ GE101.out | refine below_set ?_ GE102.out | refine below_set ?_ GE103.out) | exact HB.out)) hb); clear BK101; clear BK102; clear BK103; clear HB; have BK101 := n0_; have BK102 := n1_; have BK103 := n2_; have HB := n3_; clear n0_ n1_ n2_ n3_; (try clear hb); have hnb39 := NB102_103.out; have hnc39 := NB103_102.out; have hcz40_0 : w38.cell? ⟨gb102, 0, none⟩ = some (.bool a1_0) := (blk_cell BK102.out 0).trans rfl; have hcz40_1 : w38.cell? ⟨gb102, 1, none⟩ = some (.slice A1_1 l1_1.length c1_1) := (blk_cell BK102.out 1).trans rfl; have hcz40_2 : w38.cell? ⟨gb102, 2, none⟩ = some (.slice A1_2 l1_2.length c1_2) := (blk_cell BK102.out 2).trans rfl; have hfz40_0 := blk_frozen BK102.out 0; have hfz40_1 := blk_frozen BK102.out 1; have hfz40_2 := blk_frozen BK102.out 2; have hcz41_0 : w38.cell? ⟨gb101, 0, none⟩ = some (.bool a0_0) := (blk_cell BK101.out 0).trans rfl; have hcz41_1 : w38.cell? ⟨gb101, 1, none⟩ = some (.slice A0_1 l0_1.length c0_1) := (blk_cell BK101.out 1).trans rfl; have hcz41_2 : w38.cell? ⟨gb101, 2, none⟩ = some (.slice A0_2 l0_2.length c0_2) := (blk_cell BK101.out 2).trans rfl; have hfz41_0 := blk_frozen BK101.out 0; have hfz41_1 := blk_frozen BK101.out 1; have hfz41_2 := blk_frozen BK101.out 2))
                  have n0_ := Aside0.mk (blk_drew BK101.out)
                  have n1_ := Aside0.mk (blk_drew BK102.out)
                  have n2_ := Aside0.mk (blk_drew BK103.out)
                  have n3_ := Aside0.mk (below_drew1 HB.out)
                  clear BK101
                  clear BK102
                  clear BK103
                  clear HB
                  have BK101 := n0_
                  have BK102 := n1_
                  have BK103 := n2_
                  have HB := n3_
                  clear n0_ n1_ n2_ n3_
                  refine start_ (n := 8) (S := fun w' => w'.cell? ⟨gb102, 0, none⟩ = some (.bool a1_0) ∧ w'.cell? ⟨gb102, 1, none⟩ = some (.slice A1_1 l1_1.length c1_1) ∧ w'.cell? ⟨gb102, 2, none⟩ = some (.slice A1_2 l1_2.length c1_2)) (ds := []) #[false, false, false, false, false, false, false, false] (by kernel_rfl) rfl rfl ⟨(blk_cell BK102.out 0).trans rfl, (blk_cell BK102.out 1).trans rfl, (blk_cell BK102.out 2).trans rfl⟩ (fun hHeld => ?_); refine with_tabW spec_Transpose.tab9 spec_Transpose.bits9 (fun HT_ HW_ => ?_)
                  generalize w38.drew = w42 at BK101 BK102 BK103 HB hHeld ⊢
                  refine pure_ (i := 0) (N := some 40) (v := ?_) (a' := ?_) #[true, false, false, false, false, false, false, false] rfl rfl (any_of HT_.out (by kernel_rfl)) (fun _ _ _ h => h) (Or.inl ⟨by rfl, ?_⟩) ?_ ?_
                  rotate_left
                  · intro w'
                    go_simp
                    with_reducible rfl
                  rotate_left
                  · simp only [Act.put, List.setIfInBounds_toArray, List.set_cons_zero, List.set_cons_succ, i64_w, i32_w]
                    rfl
                  refine pure_ (i := 2) (N := some 42) (v := ?_) (a' := ?_) #[true, false, true, false, false, false, false, false] rfl rfl (any_of HT_.out (by kernel_rfl)) (fun _ _ _ h => h) (Or.inl ⟨by rfl, ?_⟩) ?_ ?_
                  rotate_left
                  · intro w'
                    go_simp
                    with_reducible rfl
                  rotate_left
                  · simp only [Act.put, List.setIfInBounds_toArray, List.set_cons_zero, List.set_cons_succ, i64_w, i32_w]
                    rfl
                  refine take_ (i := 1) (N := some 41) (v := ?_) (a' := ?_) #[true, true, true, false, false, false, false, false] rfl rfl (take_ofW HT_.out HW_.out (by kernel_rfl)) (fun _ _ _ h => h) (Or.inl ⟨by rfl, ?_⟩) hHeld ?_ ?_
                  rotate_left
                  · rintro w' ⟨s0, s1, s2⟩
                    go_simp
                    with_reducible rfl
                  rotate_left
                  · simp only [Act.put, List.setIfInBounds_toArray, List.set_cons_zero, List.set_cons_succ, i64_w, i32_w]
                    rfl
                  refine join_ (σ := Value × Value × Nat) 1 #[true, true, true, true, true, true, true, false] (fun s_ => [(43, s_.1), (44, s_.2.1), (8, .pointer (some ⟨s_.2.2, 0, none⟩)), (45, .agg #[.bool a1_0, s_.1, s_.2.1])]) (fun s_ w' => (w'.cell? ⟨gb102, 0, none⟩ = some (.bool a1_0) ∧ w'.cell? ⟨gb102, 1, none⟩ = some (.slice A1_1 l1_1.length c1_1) ∧ w'.cell? ⟨gb102, 2, none⟩ = some (.slice A1_2 l1_2.length c1_2)) ∧ (Kd.R (Kd.int .i64) 3 w' w.heap.size (fun k_ => some k_ ≠ (s_.2.1 : Value).ownBlock) s_.1 y128) ∧ (Kd.R (Kd.int .i64) 3 w' w.heap.size (fun k_ => some k_ ≠ (s_.1 : Value).ownBlock) s_.2.1 y131) ∧ (w'.heap[gb101]? = some (.cells #[.bool a0_0, .slice A0_1 l0_1.length c0_1, .slice A0_2 l0_2.length c0_2] 28 (0, 0))) ∧ (w'.heap[gb102]? = some (.cells #[.bool a1_0, .slice A1_1 l1_1.length c1_1, .slice A1_2 l1_2.length c1_2] 28 (0, 0))) ∧ (w'.heap[gb103]? = some (.cells #[.bool false, .slice none 0 0, .slice none 0 0] 28 (0, 0))) ∧ (w'.heap[s_.2.2]? = some (.cells #[.bool false, .slice none 0 0, .slice none 0 0] 28 (0, 0))) ∧ (w.heap.size ≤ s_.2.2) ∧ (w.heap.size ≤ s_.2.2) ∧ (gb101 ≠ s_.2.2) ∧ (s_.2.2 ≠ gb101) ∧ (gb102 ≠ s_.2.2) ∧ (s_.2.2 ≠ gb102) ∧ (gb103 ≠ s_.2.2) ∧ (s_.2.2 ≠ gb103) ∧ (Below w.heap.size w w')) ?_ ?_
                  rotate_left
                  · intro hJ3_4_6
                    refine join_ (σ := Value × Value) 2 #[true, true, true, true, true, true, false, false] (fun s_ => [(43, s_.1), (44, s_.2), (45, .agg #[.bool a1_0, s_.1, s_.2])]) (fun s_ w' => (w'.cell? ⟨gb102, 0, none⟩ = some (.bool a1_0) ∧ w'.cell? ⟨gb102, 1, none⟩ = some (.slice A1_1 l1_1.length c1_1) ∧ w'.cell? ⟨gb102, 2, none⟩ = some (.slice A1_2 l1_2.length c1_2)) ∧ (Kd.R (Kd.int .i64) 3 w' w.heap.size (fun k_ => some k_ ≠ (s_.2 : Value).ownBlock) s_.1 y128) ∧ (Kd.R (Kd.int .i64) 3 w' w.heap.size (fun k_ => some k_ ≠ (s_.1 : Value).ownBlock) s_.2 y131) ∧ (w'.heap[gb101]? = some (.cells #[.bool a0_0, .slice A0_1 l0_1.length c0_1, .slice A0_2 l0_2.length c0_2] 28 (0, 0))) ∧ (w'.heap[gb102]? = some (.cells #[.bool a1_0, .slice A1_1 l1_1.length c1_1, .slice A1_2 l1_2.length c1_2] 28 (0, 0))) ∧ (w'.heap[gb103]? = some (.cells #[.bool false, .slice none 0 0, .slice none 0 0] 28 (0, 0))) ∧ (Below w.heap.size w w')) ?_ ?_
                    rotate_left
                    · intro hJ3_4
                      refine join_ (σ := Value × Nat) 3 #[true, true, true, true, false, false, true, false] (fun s_ => [(43, s_.1), (8, .pointer (some ⟨s_.2, 0, none⟩))]) (fun s_ w' => (w'.cell? ⟨gb102, 0, none⟩ = some (.bool a1_0) ∧ w'.cell? ⟨gb102, 1, none⟩ = some (.slice A1_1 l1_1.length c1_1) ∧ w'.cell? ⟨gb102, 2, none⟩ = some (.slice A1_2 l1_2.length c1_2)) ∧ (Kd.R (Kd.int .i64) 3 w' w.heap.size (fun _ => True) s_.1 y128) ∧ (w'.heap[gb101]? = some (.cells #[.bool a0_0, .slice A0_1 l0_1.length c0_1, .slice A0_2 l0_2.length c0_2] 28 (0, 0))) ∧ (w'.heap[gb102]? = some (.cells #[.bool a1_0, .slice A1_1 l1_1.length c1_1, .slice A1_2 l1_2.length c1_2] 28 (0, 0))) ∧ (w'.heap[gb103]? = some (.cells #[.bool false, .slice none 0 0, .slice none 0 0] 28 (0, 0))) ∧ (w'.heap[s_.2]? = some (.cells #[.bool false, .slice none 0 0, .slice none 0 0] 28 (0, 0))) ∧ (w.heap.size ≤ s_.2) ∧ (w.heap.size ≤ s_.2) ∧ (gb101 ≠ s_.2) ∧ (s_.2 ≠ gb101) ∧ (gb102 ≠ s_.2) ∧ (s_.2 ≠ gb102) ∧ (gb103 ≠ s_.2) ∧ (s_.2 ≠ gb103) ∧ (Below w.heap.size w w')) ?_ ?_
                      rotate_left
                      · intro hJ3_6
                        refine join_ (σ := Value × Nat) 3 #[true, true, true, false, true, false, true, false] (fun s_ => [(44, s_.1), (8, .pointer (some ⟨s_.2, 0, none⟩))]) (fun s_ w' => (w'.cell? ⟨gb102, 0, none⟩ = some (.bool a1_0) ∧ w'.cell? ⟨gb102, 1, none⟩ = some (.slice A1_1 l1_1.length c1_1) ∧ w'.cell? ⟨gb102, 2, none⟩ = some (.slice A1_2 l1_2.length c1_2)) ∧ (Kd.R (Kd.int .i64) 3 w' w.heap.size (fun _ => True) s_.1 y131) ∧ (w'.heap[gb101]? = some (.cells #[.bool a0_0, .slice A0_1 l0_1.length c0_1, .slice A0_2 l0_2.length c0_2] 28 (0, 0))) ∧ (w'.heap[gb102]? = some (.cells #[.bool a1_0, .slice A1_1 l1_1.length c1_1, .slice A1_2 l1_2.length c1_2] 28 (0, 0))) ∧ (w'.heap[gb103]? = some (.cells #[.bool false, .slice none 0 0, .slice none 0 0] 28 (0, 0))) ∧ (w'.heap[s_.2]? = some (.cells #[.bool false, .slice none 0 0, .slice none 0 0] 28 (0, 0))) ∧ (w.heap.size ≤ s_.2) ∧ (w.heap.size ≤ s_.2) ∧ (gb101 ≠ s_.2) ∧ (s_.2 ≠ gb101) ∧ (gb102 ≠ s_.2) ∧ (s_.2 ≠ gb102) ∧ (gb103 ≠ s_.2) ∧ (s_.2 ≠ gb103) ∧ (Below w.heap.size w w')) ?_ ?_
                        rotate_left
                        · intro hJ4_6
                          refine join_ (σ := Value) 4 #[true, true, true, true, false, false, false, false] (fun s_ => [(43, s_)]) (fun s_ w' => (w'.cell? ⟨gb102, 0, none⟩ = some (.bool a1_0) ∧ w'.cell? ⟨gb102, 1, none⟩ = some (.slice A1_1 l1_1.length c1_1) ∧ w'.cell? ⟨gb102, 2, none⟩ = some (.slice A1_2 l1_2.length c1_2)) ∧ (Kd.R (Kd.int .i64) 3 w' w.heap.size (fun _ => True) s_ y128) ∧ (w'.heap[gb101]? = some (.cells #[.bool a0_0, .slice A0_1 l0_1.length c0_1, .slice A0_2 l0_2.length c0_2] 28 (0, 0))) ∧ (w'.heap[gb102]? = some (.cells #[.bool a1_0, .slice A1_1 l1_1.length c1_1, .slice A1_2 l1_2.length c1_2] 28 (0, 0))) ∧ (w'.heap[gb103]? = some (.cells #[.bool false, .slice none 0 0, .slice none 0 0] 28 (0, 0))) ∧ (Below w.heap.size w w')) ?_ ?_
                          rotate_left
                          · intro hJ3
                            refine join_ (σ := Value) 4 #[true, true, true, false, true, false, false, false] (fun s_ => [(44, s_)]) (fun s_ w' => (w'.cell? ⟨gb102, 0, none⟩ = some (.bool a1_0) ∧ w'.cell? ⟨gb102, 1, none⟩ = some (.slice A1_1 l1_1.length c1_1) ∧ w'.cell? ⟨gb102, 2, none⟩ = some (.slice A1_2 l1_2.length c1_2)) ∧ (Kd.R (Kd.int .i64) 3 w' w.heap.size (fun _ => True) s_ y131) ∧ (w'.heap[gb101]? = some (.cells #[.bool a0_0, .slice A0_1 l0_1.length c0_1, .slice A0_2 l0_2.length c0_2] 28 (0, 0))) ∧ (w'.heap[gb102]? = some (.cells #[.bool a1_0, .slice A1_1 l1_1.length c1_1, .slice A1_2 l1_2.length c1_2] 28 (0, 0))) ∧ (w'.heap[gb103]? = some (.cells #[.bool false, .slice none 0 0, .slice none 0 0] 28 (0, 0))) ∧ (Below w.heap.size w w')) ?_ ?_
                            rotate_left
                            · intro hJ4
                              refine join_ (σ := Nat) 4 #[true, true, true, false, false, false, true, false] (fun s_ => [(8, .pointer (some ⟨s_, 0, none⟩))]) (fun s_ w' => (w'.cell? ⟨gb102, 0, none⟩ = some (.bool a1_0) ∧ w'.cell? ⟨gb102, 1, none⟩ = some (.slice A1_1 l1_1.length c1_1) ∧ w'.cell? ⟨gb102, 2, none⟩ = some (.slice A1_2 l1_2.length c1_2)) ∧ (w'.heap[gb101]? = some (.cells #[.bool a0_0, .slice A0_1 l0_1.length c0_1, .slice A0_2 l0_2.length c0_2] 28 (0, 0))) ∧ (w'.heap[gb102]? = some (.cells #[.bool a1_0, .slice A1_1 l1_1.length c1_1, .slice A1_2 l1_2.length c1_2] 28 (0, 0))) ∧ (w'.heap[gb103]? = some (.cells #[.bool false, .slice none 0 0, .slice none 0 0] 28 (0, 0))) ∧ (w'.heap[s_]? = some (.cells #[.bool false, .slice none 0 0, .slice none 0 0] 28 (0, 0))) ∧ (w.heap.size ≤ s_) ∧ (w.heap.size ≤ s_) ∧ (gb101 ≠ s_) ∧ (s_ ≠ gb101) ∧ (gb102 ≠ s_) ∧ (s_ ≠ gb102) ∧ (gb103 ≠ s_) ∧ (s_ ≠ gb103) ∧ (Below w.heap.size w w')) ?_ ?_
                              rotate_left
                              · intro hJ6
                                refine three_ (i := 3) (j := 4) (k := 6) (Ni := some 43) (Nj := some 44) (Nk := some 8) #[true, true, true, true, false, false, false, false] #[true, true, true, false, true, false, false, false] #[true, true, true, false, false, false, true, false] rfl rfl rfl rfl rfl rfl (three_of HT_.out (by kernel_rfl)) (by decide) (by decide) (by decide) (fun K hK => ?_) (fun K hK => ?_) (fun K hK => ?_)
                                · skip
                                  refine Kd.R_make_step (Kd.int .i64) _ 3 (by rfl) (N := 43) rfl 22 _ _ rfl (l1_1.length : Int) rfl rfl Try.underlying22 (.int .i64 0) 8 info3 rfl (by decide) (by omega) 0 (ok := fun _ => True) (okp := fun _ => True) rfl (fun _ hk => hk) trivial (of_decide_eq_true (by first | (with_reducible assumption) | assumption)) (Nat.le_trans (Nat.mul_le_mul_right _ (of_decide_eq_true (by first | (with_reducible assumption) | assumption) : (l1_1.length : Int).toNat ≤ 35184372088832)) (by omega)) (Below.refl _ _) (Nat.le_refl _) ?_
                                  intro v129 w43 ho44 hb hg_ hnew_
                                  clear hg_ hnew_
                                  (first | rw [← Ny128.out] at ho44 | (simp only [Int.reduceToNat] at ho44; rw [← Ny128.out] at ho44))
                                  have n0_ := Aside0.mk (Kd.R_lower ho44 (below_size (by repeat (first | (with_reducible first | exact HB.out | apply below_alloc | apply pw_below_drewN | apply below_drew1 | refine below_set ?_ GE101.out | refine below_set ?_ GE102.out | refine below_set ?_ GE103.out) | exact HB.out))))
                                  have n1_ := Aside0.mk (blk_below (g := gb101) (o := .cells #[.bool a0_0, .slice A0_1 l0_1.length c0_1, .slice A0_2 l0_2.length c0_2] 28 (0, 0)) (Bz BK101.out) hb)
                                  have n2_ := Aside0.mk (blk_below (g := gb102) (o := .cells #[.bool a1_0, .slice A1_1 l1_1.length c1_1, .slice A1_2 l1_2.length c1_2] 28 (0, 0)) (Bz BK102.out) hb)
                                  have n3_ := Aside0.mk (blk_below (g := gb103) (o := .cells #[.bool false, .slice none 0 0, .slice none 0 0] 28 (0, 0)) (Bz BK103.out) hb)
                                  have n4_ := Aside0.mk (below_step (by repeat (first | (with_reducible first | exact HB.out | apply below_alloc | apply pw_below_drewN | apply below_drew1 | refine below_set ?_ GE101.out | refine below_set ?_ GE102.out | refine below_set ?_ GE103.out) | exact HB.out)) hb)
                                  clear BK101
                                  clear BK102
                                  clear BK103
                                  clear HB
                                  have HO130 := n0_
                                  have BK101 := n1_
                                  have BK102 := n2_
                                  have BK103 := n3_
                                  have HB := n4_
                                  clear n0_ n1_ n2_ n3_ n4_
                                  clear hb ho44
                                  refine hK.out _ _ ⟨(blk_cell BK102.out 0).trans rfl, (blk_cell BK102.out 1).trans rfl, (blk_cell BK102.out 2).trans rfl⟩ (fun hHeld => ?_)
                                  clear hK K
                                  refine norm_ (a' := ?_) ?_ ?_
                                  rotate_left
                                  · show Act.put _ (some 43) _ = _
                                    simp only [Act.put, List.setIfInBounds_toArray, List.set_cons_zero, List.set_cons_succ, i64_w, i32_w]
                                    rfl
                                  exact norm_ (by first | (simp only [putAll, Act.put, List.setIfInBounds_toArray, List.set_cons_zero, List.set_cons_succ]; done) | (simp only [putAll, Act.put, List.setIfInBounds_toArray, List.set_cons_zero, List.set_cons_succ]; rfl)) (hJ3 (v129) _ ⟨hHeld, (Rz HO130.out), (Bz BK101.out), (Bz BK102.out), (Bz BK103.out), (by repeat (first | (with_reducible first | exact HB.out | apply below_alloc | apply pw_below_drewN | apply below_drew1 | refine below_set ?_ GE101.out | refine below_set ?_ GE102.out | refine below_set ?_ GE103.out) | exact HB.out))⟩)
                                · skip
                                  refine Kd.R_lit_step (Kd.int .i64) _ 3 ?hg (N := 44) ?hd (xs := ([] : List Int)) (inner := []) (ok := fun _ => True) (okp := fun _ => True) ?hr ?hp (fun _ hk => hk) trivial (Below.refl _ _) (Nat.le_refl _) (by simp) ?_; (case hd => rfl); (case hg => rfl); (case hr => first | (go_simp; done) | (go_simp; rfl)); (case hp => exact (Reps.none _ _))
                                  intro v132 w43 ho44 hb hg_ hnew_
                                  clear hg_ hnew_
                                  (first | rw [← Ny131.out] at ho44 | (simp only [Int.reduceToNat] at ho44; rw [← Ny131.out] at ho44))
                                  have n0_ := Aside0.mk (Kd.R_lower ho44 (below_size (by repeat (first | (with_reducible first | exact HB.out | apply below_alloc | apply pw_below_drewN | apply below_drew1 | refine below_set ?_ GE101.out | refine below_set ?_ GE102.out | refine below_set ?_ GE103.out) | exact HB.out))))
                                  have n1_ := Aside0.mk (blk_below (g := gb101) (o := .cells #[.bool a0_0, .slice A0_1 l0_1.length c0_1, .slice A0_2 l0_2.length c0_2] 28 (0, 0)) (Bz BK101.out) hb)
                                  have n2_ := Aside0.mk (blk_below (g := gb102) (o := .cells #[.bool a1_0, .slice A1_1 l1_1.length c1_1, .slice A1_2 l1_2.length c1_2] 28 (0, 0)) (Bz BK102.out) hb)
                                  have n3_ := Aside0.mk (blk_below (g := gb103) (o := .cells #[.bool false, .slice none 0 0, .slice none 0 0] 28 (0, 0)) (Bz BK103.out) hb)
                                  have n4_ := Aside0.mk (below_step (by repeat (first | (with_reducible first | exact HB.out | apply below_alloc | apply pw_below_drewN | apply below_drew1 | refine below_set ?_ GE101.out | refine below_set ?_ GE102.out | refine below_set ?_ GE103.out) | exact HB.out)) hb)
                                  clear BK101
                                  clear BK102
                                  clear BK103
                                  clear HB
                                  have HO133 := n0_
                                  have BK101 := n1_
                                  have BK102 := n2_
                                  have BK103 := n3_
                                  have HB := n4_
                                  clear n0_ n1_ n2_ n3_ n4_
                                  clear hb ho44
                                  refine hK.out _ _ ⟨(blk_cell BK102.out 0).trans rfl, (blk_cell BK102.out 1).trans rfl, (blk_cell BK102.out 2).trans rfl⟩ (fun hHeld => ?_)
                                  clear hK K
                                  refine norm_ (a' := ?_) ?_ ?_
                                  rotate_left
                                  · show Act.put _ (some 44) _ = _
                                    simp only [Act.put, List.setIfInBounds_toArray, List.set_cons_zero, List.set_cons_succ, i64_w, i32_w]
                                    rfl
                                  exact norm_ (by first | (simp only [putAll, Act.put, List.setIfInBounds_toArray, List.set_cons_zero, List.set_cons_succ]; done) | (simp only [putAll, Act.put, List.setIfInBounds_toArray, List.set_cons_zero, List.set_cons_succ]; rfl)) (hJ4 (v132) _ ⟨hHeld, (Rz HO133.out), (Bz BK101.out), (Bz BK102.out), (Bz BK103.out), (by repeat (first | (with_reducible first | exact HB.out | apply below_alloc | apply pw_below_drewN | apply below_drew1 | refine below_set ?_ GE101.out | refine below_set ?_ GE102.out | refine below_set ?_ GE103.out) | exact HB.out))⟩)
                                · skip
                                  refine box_step ?hg (N := 8) ?hd (cs := #[.bool false, .slice none 0 0, .slice none 0 0]) (t := 28) ?hr ?_; (case hd => rfl); (case hg => rfl); (case hr => first | (go_simp; done) | (go_simp; rfl))
                                  intro gb134 hg w43 hbox hb
                                  have n0_ := Aside0.mk (blk_below (g := gb101) (o := .cells #[.bool a0_0, .slice A0_1 l0_1.length c0_1, .slice A0_2 l0_2.length c0_2] 28 (0, 0)) (Bz BK101.out) hb)
                                  have n1_ := Aside0.mk (blk_below (g := gb102) (o := .cells #[.bool a1_0, .slice A1_1 l1_1.length c1_1, .slice A1_2 l1_2.length c1_2] 28 (0, 0)) (Bz BK102.out) hb)
                                  have n2_ := Aside0.mk (blk_below (g := gb103) (o := .cells #[.bool false, .slice none 0 0, .slice none 0 0] 28 (0, 0)) (Bz BK103.out) hb)
                                  have n3_ := Aside0.mk (below_step (by repeat (first | (with_reducible first | exact HB.out | apply below_alloc | apply pw_below_drewN | apply below_drew1 | refine below_set ?_ GE101.out | refine below_set ?_ GE102.out | refine below_set ?_ GE103.out) | exact HB.out)) hb)
                                  have n4_ := Aside0.mk (hbox)
                                  have n5_ := Aside0.mk ((by rw [hg]; exact (below_size (by repeat (first | (with_reducible first | exact HB.out | apply below_alloc | apply pw_below_drewN | apply below_drew1 | refine below_set ?_ GE101.out | refine below_set ?_ GE102.out | refine below_set ?_ GE103.out) | exact HB.out))) : w.heap.size ≤ gb134))
                                  have n6_ := Aside0.mk ((by rw [hg]; exact (below_size (by repeat (first | (with_reducible first | exact HB.out | apply below_alloc | apply pw_below_drewN | apply below_drew1 | refine below_set ?_ GE101.out | refine below_set ?_ GE102.out | refine below_set ?_ GE103.out) | exact HB.out))) : w.heap.size ≤ gb134))
                                  have n7_ := Aside0.mk ((by rw [hg]; exact Nat.ne_of_lt (blk_lt (g := gb101) (o := .cells #[.bool a0_0, .slice A0_1 l0_1.length c0_1, .slice A0_2 l0_2.length c0_2] 28 (0, 0)) (Bz BK101.out)) : gb101 ≠ gb134))
                                  have n8_ := Aside0.mk ((by rw [hg]; exact Nat.ne_of_gt (blk_lt (g := gb101) (o := .cells #[.bool a0_0, .slice A0_1 l0_1.length c0_1, .slice A0_2 l0_2.length c0_2] 28 (0, 0)) (Bz BK101.out)) : gb134 ≠ gb101))
                                  have n9_ := Aside0.mk ((by rw [hg]; exact Nat.ne_of_lt (blk_lt (g := gb102) (o := .cells #[.bool a1_0, .slice A1_1 l1_1.length c1_1, .slice A1_2 l1_2.length c1_2] 28 (0, 0)) (Bz BK102.out)) : gb102 ≠ gb134))
                                  have n10_ := Aside0.mk ((by rw [hg]; exact Nat.ne_of_gt (blk_lt (g := gb102) (o := .cells #[.bool a1_0, .slice A1_1 l1_1.length c1_1, .slice A1_2 l1_2.length c1_2] 28 (0, 0)) (Bz BK102.out)) : gb134 ≠ gb102))
                                  have n11_ := Aside0.mk ((by rw [hg]; exact Nat.ne_of_lt (blk_lt (g := gb103) (o := .cells #[.bool false, .slice none 0 0, .slice none 0 0] 28 (0, 0)) (Bz BK103.out)) : gb103 ≠ gb134))
                                  have n12_ := Aside0.mk ((by rw [hg]; exact Nat.ne_of_gt (blk_lt (g := gb103) (o := .cells #[.bool false, .slice none 0 0, .slice none 0 0] 28 (0, 0)) (Bz BK103.out)) : gb134 ≠ gb103))
                                  clear BK101
                                  clear BK102
                                  clear BK103
                                  clear HB
                                  have BK101 := n0_
                                  have BK102 := n1_
                                  have BK103 := n2_
                                  have HB := n3_
                                  have BK134 := n4_
                                  have GW134 := n5_
                                  have GE134 := n6_
                                  have NB101_134 := n7_
                                  have NB134_101 := n8_
                                  have NB102_134 := n9_
                                  have NB134_102 := n10_
                                  have NB103_134 := n11_
                                  have NB134_103 := n12_
                                  clear n0_ n1_ n2_ n3_ n4_ n5_ n6_ n7_ n8_ n9_ n10_ n11_ n12_
                                  clear hb hbox hg
                                  refine hK.out _ _ ⟨(blk_cell BK102.out 0).trans rfl, (blk_cell BK102.out 1).trans rfl, (blk_cell BK102.out 2).trans rfl⟩ (fun hHeld => ?_)
                                  clear hK K
                                  refine norm_ (a' := ?_) ?_ ?_
                                  rotate_left
                                  · show Act.put _ (some 8) _ = _
                                    simp only [Act.put, List.setIfInBounds_toArray, List.set_cons_zero, List.set_cons_succ, i64_w, i32_w]
                                    rfl
                                  exact norm_ (by first | (simp only [putAll, Act.put, List.setIfInBounds_toArray, List.set_cons_zero, List.set_cons_succ]; done) | (simp only [putAll, Act.put, List.setIfInBounds_toArray, List.set_cons_zero, List.set_cons_succ]; rfl)) (hJ6 (gb134) _ ⟨hHeld, (Bz BK101.out), (Bz BK102.out), (Bz BK103.out), (Bz BK134.out), GW134.out, GE134.out, NB101_134.out, NB134_101.out, NB102_134.out, NB134_102.out, NB103_134.out, NB134_103.out, (by repeat (first | (with_reducible first | exact HB.out | apply below_alloc | apply pw_below_drewN | apply below_drew1 | refine below_set ?_ GE101.out | refine below_set ?_ GE102.out | refine below_set ?_ GE103.out | refine below_set ?_ GE134.out) | exact HB.out))⟩)
                              · skip
                                rintro gb134 w44 ⟨hS_, h0_, h1_, h2_, h3_, h4_, h5_, h6_, h7_, h8_, h9_, h10_, h11_, h12_⟩
                                have n0_ : Aside0 (w44.heap[gb101]? = some (.cells #[.bool a0_0, .slice A0_1 l0_1.length c0_1, .slice A0_2 l0_2.length c0_2] 28 (0, 0))) := ⟨h0_⟩
                                have n1_ : Aside0 (w44.heap[gb102]? = some (.cells #[.bool a1_0, .slice A1_1 l1_1.length c1_1, .slice A1_2 l1_2.length c1_2] 28 (0, 0))) := ⟨h1_⟩
                                have n2_ : Aside0 (w44.heap[gb103]? = some (.cells #[.bool false, .slice none 0 0, .slice none 0 0] 28 (0, 0))) := ⟨h2_⟩
                                have n3_ : Aside0 (w44.heap[gb134]? = some (.cells #[.bool false, .slice none 0 0, .slice none 0 0] 28 (0, 0))) := ⟨h3_⟩
                                have n4_ : Aside0 (w.heap.size ≤ gb134) := ⟨h4_⟩
                                have n5_ : Aside0 (w.heap.size ≤ gb134) := ⟨h5_⟩
                                have n6_ : Aside0 (gb101 ≠ gb134) := ⟨h6_⟩
                                have n7_ : Aside0 (gb134 ≠ gb101) := ⟨h7_⟩
                                have n8_ : Aside0 (gb102 ≠ gb134) := ⟨h8_⟩
                                have n9_ : Aside0 (gb134 ≠ gb102) := ⟨h9_⟩
                                have n10_ : Aside0 (gb103 ≠ gb134) := ⟨h10_⟩
                                have n11_ : Aside0 (gb134 ≠ gb103) := ⟨h11_⟩
                                have n12_ : Aside0 (Below w.heap.size w w44) := ⟨h12_⟩
                                clear BK101
                                clear BK102
                                clear BK103
                                clear HB
                                clear h0_ h1_ h2_ h3_ h4_ h5_ h6_ h7_ h8_ h9_ h10_ h11_ h12_
                                have BK101 := n0_
                                have BK102 := n1_
                                have BK103 := n2_
                                have BK134 := n3_
                                have GW134 := n4_
                                have GE134 := n5_
                                have NB101_134 := n6_
                                have NB134_101 := n7_
                                have NB102_134 := n8_
                                have NB134_102 := n9_
                                have NB103_134 := n10_
                                have NB134_103 := n11_
                                have HB := n12_
                                clear n0_ n1_ n2_ n3_ n4_ n5_ n6_ n7_ n8_ n9_ n10_ n11_ n12_
                                have hHeld : w44.cell? ⟨gb102, 0, none⟩ = some (.bool a1_0) ∧ w44.cell? ⟨gb102, 1, none⟩ = some (.slice A1_1 l1_1.length c1_1) ∧ w44.cell? ⟨gb102, 2, none⟩ = some (.slice A1_2 l1_2.length c1_2) := hS_
                                refine norm_ (a' := ?_) ?_ ?_
                                rotate_left
                                · simp only [putAll, Act.put, List.setIfInBounds_toArray, List.set_cons_zero, List.set_cons_succ]
                                  rfl
                                refine two_ (i := 3) (j := 4) (Ni := some 43) (Nj := some 44) #[true, true, true, true, false, false, true, false] #[true, true, true, false, true, false, true, false] rfl rfl rfl rfl (two_of HT_.out (by kernel_rfl)) (by decide) (by decide) (fun K hK => ?_) (fun K hK => ?_)
                                · skip
                                  refine Kd.R_make_step (Kd.int .i64) _ 3 (by rfl) (N := 43) rfl 22 _ _ rfl (l1_1.length : Int) rfl rfl Try.underlying22 (.int .i64 0) 8 info3 rfl (by decide) (by omega) 0 (ok := fun _ => True) (okp := fun _ => True) rfl (fun _ hk => hk) trivial (of_decide_eq_true (by first | (with_reducible assumption) | assumption)) (Nat.le_trans (Nat.mul_le_mul_right _ (of_decide_eq_true (by first | (with_reducible assumption) | assumption) : (l1_1.length : Int).toNat ≤ 35184372088832)) (by omega)) (Below.refl _ _) (Nat.le_refl _) ?_
                                  intro v129 w45 ho46 hb hg_ hnew_
                                  clear hg_ hnew_
                                  (first | rw [← Ny128.out] at ho46 | (simp only [Int.reduceToNat] at ho46; rw [← Ny128.out] at ho46))
                                  have n0_ := Aside0.mk (Kd.R_lower ho46 (below_size (by repeat (first | (with_reducible first | exact HB.out | apply below_alloc | apply pw_below_drewN | apply below_drew1 | refine below_set ?_ GE101.out | refine below_set ?_ GE102.out | refine below_set ?_ GE103.out | refine below_set ?_ GE134.out) | exact HB.out))))
                                  have n1_ := Aside0.mk (blk_below (g := gb101) (o := .cells #[.bool a0_0, .slice A0_1 l0_1.length c0_1, .slice A0_2 l0_2.length c0_2] 28 (0, 0)) (Bz BK101.out) hb)
                                  have n2_ := Aside0.mk (blk_below (g := gb102) (o := .cells #[.bool a1_0, .slice A1_1 l1_1.length c1_1, .slice A1_2 l1_2.length c1_2] 28 (0, 0)) (Bz BK102.out) hb)
                                  have n3_ := Aside0.mk (blk_below (g := gb103) (o := .cells #[.bool false, .slice none 0 0, .slice none 0 0] 28 (0, 0)) (Bz BK103.out) hb)
                                  have n4_ := Aside0.mk (blk_below (g := gb134) (o := .cells #[.bool false, .slice none 0 0, .slice none 0 0] 28 (0, 0)) (Bz BK134.out) hb)
                                  have n5_ := Aside0.mk (below_step (by repeat (first | (with_reducible first | exact HB.out | apply below_alloc | apply pw_below_drewN | apply below_drew1 | refine below_set ?_ GE101.out | refine below_set ?_ GE102.out | refine below_set ?_ GE103.out | refine below_set ?_ GE134.out) | exact HB.out)) hb)
                                  clear BK101
                                  clear BK102
                                  clear BK103
                                  clear BK134
                                  clear HB
                                  have HO130 := n0_
                                  have BK101 := n1_
                                  have BK102 := n2_
                                  have BK103 := n3_
                                  have BK134 := n4_
                                  have HB := n5_
                                  clear n0_ n1_ n2_ n3_ n4_ n5_
                                  clear hb ho46
                                  refine hK.out _ _ ⟨(blk_cell BK102.out 0).trans rfl, (blk_cell BK102.out 1).trans rfl, (blk_cell BK102.out 2).trans rfl⟩ (fun hHeld => ?_)
                                  clear hK K
                                  refine norm_ (a' := ?_) ?_ ?_
                                  rotate_left
                                  · show Act.put _ (some 43) _ = _
                                    simp only [Act.put, List.setIfInBounds_toArray, List.set_cons_zero, List.set_cons_succ, i64_w, i32_w]
                                    rfl
                                  exact norm_ (by first | (simp only [putAll, Act.put, List.setIfInBounds_toArray, List.set_cons_zero, List.set_cons_succ]; done) | (simp only [putAll, Act.put, List.setIfInBounds_toArray, List.set_cons_zero, List.set_cons_succ]; rfl)) (hJ3_6 (v129, gb134) _ ⟨hHeld, (Rz HO130.out), (Bz BK101.out), (Bz BK102.out), (Bz BK103.out), (Bz BK134.out), GW134.out, GE134.out, NB101_134.out, NB134_101.out, NB102_134.out, NB134_102.out, NB103_134.out, NB134_103.out, (by repeat (first | (with_reducible first | exact HB.out | apply below_alloc | apply pw_below_drewN | apply below_drew1 | refine below_set ?_ GE101.out | refine below_set ?_ GE102.out | refine below_set ?_ GE103.out | refine below_set ?_ GE134.out) | exact HB.out))⟩)
                                · skip
                                  refine Kd.R_lit_step (Kd.int .i64) _ 3 ?hg (N := 44) ?hd (xs := ([] : List Int)) (inner := []) (ok := fun _ => True) (okp := fun _ => True) ?hr ?hp (fun _ hk => hk) trivial (Below.refl _ _) (Nat.le_refl _) (by simp) ?_; (case hd => rfl); (case hg => rfl); (case hr => first | (go_simp; done) | (go_simp; rfl)); (case hp => exact (Reps.none _ _))
                                  intro v132 w45 ho46 hb hg_ hnew_
                                  clear hg_ hnew_
                                  (first | rw [← Ny131.out] at ho46 | (simp only [Int.reduceToNat] at ho46; rw [← Ny131.out] at ho46))
                                  have n0_ := Aside0.mk (Kd.R_lower ho46 (below_size (by repeat (first | (with_reducible first | exact HB.out | apply below_alloc | apply pw_below_drewN | apply below_drew1 | refine below_set ?_ GE101.out | refine below_set ?_ GE102.out | refine below_set ?_ GE103.out | refine below_set ?_ GE134.out) | exact HB.out))))
                                  have n1_ := Aside0.mk (blk_below (g := gb101) (o := .cells #[.bool a0_0, .slice A0_1 l0_1.length c0_1, .slice A0_2 l0_2.length c0_2] 28 (0, 0)) (Bz BK101.out) hb)
                                  have n2_ := Aside0.mk (blk_below (g := gb102) (o := .cells #[.bool a1_0, .slice A1_1 l1_1.length c1_1, .slice A1_2 l1_2.length c1_2] 28 (0, 0)) (Bz BK102.out) hb)
                                  have n3_ := Aside0.mk (blk_below (g := gb103) (o := .cells #[.bool false, .slice none 0 0, .slice none 0 0] 28 (0, 0)) (Bz BK103.out) hb)
                                  have n4_ := Aside0.mk (blk_below (g := gb134) (o := .cells #[.bool false, .slice none 0 0, .slice none 0 0] 28 (0, 0)) (Bz BK134.out) hb)
                                  have n5_ := Aside0.mk (below_step (by repeat (first | (with_reducible first | exact HB.out | apply below_alloc | apply pw_below_drewN | apply below_drew1 | refine below_set ?_ GE101.out | refine below_set ?_ GE102.out | refine below_set ?_ GE103.out | refine below_set ?_ GE134.out) | exact HB.out)) hb)
                                  clear BK101
                                  clear BK102
                                  clear BK103
                                  clear BK134
                                  clear HB
                                  have HO133 := n0_
                                  have BK101 := n1_
                                  have BK102 := n2_
                                  have BK103 := n3_
                                  have BK134 := n4_
                                  have HB := n5_
                                  clear n0_ n1_ n2_ n3_ n4_ n5_
                                  clear hb ho46
                                  refine hK.out _ _ ⟨(blk_cell BK102.out 0).trans rfl, (blk_cell BK102.out 1).trans rfl, (blk_cell BK102.out 2).trans rfl⟩ (fun hHeld => ?_)
                                  clear hK K
                                  refine norm_ (a' := ?_) ?_ ?_
                                  rotate_left
                                  · show Act.put _ (some 44) _ = _
                                    simp only [Act.put, List.setIfInBounds_toArray, List.set_cons_zero, List.set_cons_succ, i64_w, i32_w]
                                    rfl
                                  exact norm_ (by first | (simp only [putAll, Act.put, List.setIfInBounds_toArray, List.set_cons_zero, List.set_cons_succ]; done) | (simp only [putAll, Act.put, List.setIfInBounds_toArray, List.set_cons_zero, List.set_cons_succ]; rfl)) (hJ4_6 (v132, gb134) _ ⟨hHeld, (Rz HO133.out), (Bz BK101.out), (Bz BK102.out), (Bz BK103.out), (Bz BK134.out), GW134.out, GE134.out, NB101_134.out, NB134_101.out, NB102_134.out, NB134_102.out, NB103_134.out, NB134_103.out, (by repeat (first | (with_reducible first | exact HB.out | apply below_alloc | apply pw_below_drewN | apply below_drew1 | refine below_set ?_ GE101.out | refine below_set ?_ GE102.out | refine below_set ?_ GE103.out | refine below_set ?_ GE134.out) | exact HB.out))⟩)
                            · skip
                              rintro v132 w45 ⟨hS_, h0_, h1_, h2_, h3_, h4_⟩
                              have n0_ : Aside0 (Kd.R (Kd.int .i64) 3 w45 w.heap.size (fun _ => True) v132 y131) := ⟨h0_⟩
                              have n1_ : Aside0 (w45.heap[gb101]? = some (.cells #[.bool a0_0, .slice A0_1 l0_1.length c0_1, .slice A0_2 l0_2.length c0_2] 28 (0, 0))) := ⟨h1_⟩
                              have n2_ : Aside0 (w45.heap[gb102]? = some (.cells #[.bool a1_0, .slice A1_1 l1_1.length c1_1, .slice A1_2 l1_2.length c1_2] 28 (0, 0))) := ⟨h2_⟩
                              have n3_ : Aside0 (w45.heap[gb103]? = some (.cells #[.bool false, .slice none 0 0, .slice none 0 0] 28 (0, 0))) := ⟨h3_⟩
                              have n4_ : Aside0 (Below w.heap.size w w45) := ⟨h4_⟩
                              clear BK101
                              clear BK102
                              clear BK103
                              clear HB
                              clear h0_ h1_ h2_ h3_ h4_
                              have HO133 := n0_
                              have BK101 := n1_
                              have BK102 := n2_
                              have BK103 := n3_
                              have HB := n4_
                              clear n0_ n1_ n2_ n3_ n4_
                              have hHeld : w45.cell? ⟨gb102, 0, none⟩ = some (.bool a1_0) ∧ w45.cell? ⟨gb102, 1, none⟩ = some (.slice A1_1 l1_1.length c1_1) ∧ w45.cell? ⟨gb102, 2, none⟩ = some (.slice A1_2 l1_2.length c1_2) := hS_
                              refine norm_ (a' := ?_) ?_ ?_
                              rotate_left
                              · simp only [putAll, Act.put, List.setIfInBounds_toArray, List.set_cons_zero, List.set_cons_succ]
                                rfl
                              refine two_ (i := 3) (j := 6) (Ni := some 43) (Nj := some 8) #[true, true, true, true, true, false, false, false] #[true, true, true, false, true, false, true, false] rfl rfl rfl rfl (two_of HT_.out (by kernel_rfl)) (by decide) (by decide) (fun K hK => ?_) (fun K hK => ?_)
                              · skip
                                refine Kd.R_make_step (Kd.int .i64) _ 3 (by rfl) (N := 43) rfl 22 _ _ rfl (l1_1.length : Int) rfl rfl Try.underlying22 (.int .i64 0) 8 info3 rfl (by decide) (by omega) 0 (ok := fun _ => True) (okp := fun _ => True) rfl (fun _ hk => hk) trivial (of_decide_eq_true (by first | (with_reducible assumption) | assumption)) (Nat.le_trans (Nat.mul_le_mul_right _ (of_decide_eq_true (by first | (with_reducible assumption) | assumption) : (l1_1.length : Int).toNat ≤ 35184372088832)) (by omega)) (Below.refl _ _) (Nat.le_refl _) ?_
                                intro v129 w46 ho47 hb hg_ hnew_
                                clear hg_ hnew_
                                (first | rw [← Ny128.out] at ho47 | (simp only [Int.reduceToNat] at ho47; rw [← Ny128.out] at ho47))
                                have n0_ := Aside0.mk (Kd.R_elder' (Rz HO133.out) (Kd.R_base ho47) hb)
                                have n1_ := Aside0.mk (Kd.R_lower (Kd.R_new' ho47 (Kd.R_lt (Rz HO133.out))) (below_size (by repeat (first | (with_reducible first | exact HB.out | apply below_alloc | apply pw_below_drewN | apply below_drew1 | refine below_set ?_ GE101.out | refine below_set ?_ GE102.out | refine below_set ?_ GE103.out) | exact HB.out))))
                                have n2_ := Aside0.mk (blk_below (g := gb101) (o := .cells #[.bool a0_0, .slice A0_1 l0_1.length c0_1, .slice A0_2 l0_2.length c0_2] 28 (0, 0)) (Bz BK101.out) hb)
                                have n3_ := Aside0.mk (blk_below (g := gb102) (o := .cells #[.bool a1_0, .slice A1_1 l1_1.length c1_1, .slice A1_2 l1_2.length c1_2] 28 (0, 0)) (Bz BK102.out) hb)
                                have n4_ := Aside0.mk (blk_below (g := gb103) (o := .cells #[.bool false, .slice none 0 0, .slice none 0 0] 28 (0, 0)) (Bz BK103.out) hb)
                                have n5_ := Aside0.mk (below_step (by repeat (first | (with_reducible first | exact HB.out | apply below_alloc | apply pw_below_drewN | apply below_drew1 | refine below_set ?_ GE101.out | refine below_set ?_ GE102.out | refine below_set ?_ GE103.out) | exact HB.out)) hb)
                                clear HO133
                                clear BK101
                                clear BK102
                                clear BK103
                                clear HB
                                have HO133 := n0_
                                have HO130 := n1_
                                have BK101 := n2_
                                have BK102 := n3_
                                have BK103 := n4_
                                have HB := n5_
                                clear n0_ n1_ n2_ n3_ n4_ n5_
                                clear hb ho47
                                obtain ⟨Ao48, co48, eo48⟩ := Kd.R_slice HO133.out
                                (first | subst eo48 | (injection eo48 with f1_ f2_ f3_; have f4_ := f1_.symm; have f5_ := f3_.symm; clear f1_ f2_ f3_; subst f4_; subst f5_))
                                obtain ⟨Ao49, co49, eo49⟩ := Kd.R_slice HO130.out
                                (first | subst eo49 | (injection eo49 with f1_ f2_ f3_; have f4_ := f1_.symm; have f5_ := f3_.symm; clear f1_ f2_ f3_; subst f4_; subst f5_))
                                refine hK.out _ _ ⟨(blk_cell BK102.out 0).trans rfl, (blk_cell BK102.out 1).trans rfl, (blk_cell BK102.out 2).trans rfl⟩ (fun hHeld => ?_)
                                clear hK K
                                refine norm_ (a' := ?_) ?_ ?_
                                rotate_left
                                · show Act.put _ (some 43) _ = _
                                  simp only [Act.put, List.setIfInBounds_toArray, List.set_cons_zero, List.set_cons_succ, i64_w, i32_w]
                                  rfl
                                refine pure_ (i := 5) (N := some 45) (v := ?_) (a' := ?_) #[true, true, true, true, true, true, false, false] rfl rfl (any_of HT_.out (by kernel_rfl)) (fun _ _ _ h => h) (Or.inl ⟨by rfl, ?_⟩) ?_ ?_
                                rotate_left
                                · intro w'
                                  go_simp
                                  with_reducible rfl
                                rotate_left
                                · simp only [Act.put, List.setIfInBounds_toArray, List.set_cons_zero, List.set_cons_succ, i64_w, i32_w]
                                  rfl
                                exact norm_ (by first | (simp only [putAll, Act.put, List.setIfInBounds_toArray, List.set_cons_zero, List.set_cons_succ]; done) | (simp only [putAll, Act.put, List.setIfInBounds_toArray, List.set_cons_zero, List.set_cons_succ]; rfl)) (hJ3_4 (.slice Ao49 y128.length co49, .slice Ao48 y131.length co48) _ ⟨hHeld, (by (with_reducible repeat (first | apply Kd.R_alloc | apply Kd.R_drewN | apply Kd.R_drew)); exact Kd.R_mono HO130.out (fun _ hk => hk.2)), (by (with_reducible repeat (first | apply Kd.R_alloc | apply Kd.R_drewN | apply Kd.R_drew)); exact Kd.R_mono HO133.out (fun _ hk => hk.2)), (Bz BK101.out), (Bz BK102.out), (Bz BK103.out), (by repeat (first | (with_reducible first | exact HB.out | apply below_alloc | apply pw_below_drewN | apply below_drew1 | refine below_set ?_ GE101.out | refine below_set ?_ GE102.out | refine below_set ?_ GE103.out) | exact HB.out))⟩)
                              · skip
                                refine box_step ?hg (N := 8) ?hd (cs := #[.bool false, .slice none 0 0, .slice none 0 0]) (t := 28) ?hr ?_; (case hd => rfl); (case hg => rfl); (case hr => first | (go_simp; done) | (go_simp; rfl))
                                intro gb134 hg w46 hbox hb
                                have n0_ := Aside0.mk (Kd.R_below (Rz HO133.out) hb)
                                have n1_ := Aside0.mk (blk_below (g := gb101) (o := .cells #[.bool a0_0, .slice A0_1 l0_1.length c0_1, .slice A0_2 l0_2.length c0_2] 28 (0, 0)) (Bz BK101.out) hb)
                                have n2_ := Aside0.mk (blk_below (g := gb102) (o := .cells #[.bool a1_0, .slice A1_1 l1_1.length c1_1, .slice A1_2 l1_2.length c1_2] 28 (0, 0)) (Bz BK102.out) hb)
                                have n3_ := Aside0.mk (blk_below (g := gb103) (o := .cells #[.bool false, .slice none 0 0, .slice none 0 0] 28 (0, 0)) (Bz BK103.out) hb)
                                have n4_ := Aside0.mk (below_step (by repeat (first | (with_reducible first | exact HB.out | apply below_alloc | apply pw_below_drewN | apply below_drew1 | refine below_set ?_ GE101.out | refine below_set ?_ GE102.out | refine below_set ?_ GE103.out) | exact HB.out)) hb)
                                have n5_ := Aside0.mk (hbox)
                                have n6_ := Aside0.mk ((by rw [hg]; exact (below_size (by repeat (first | (with_reducible first | exact HB.out | apply below_alloc | apply pw_below_drewN | apply below_drew1 | refine below_set ?_ GE101.out | refine below_set ?_ GE102.out | refine below_set ?_ GE103.out) | exact HB.out))) : w.heap.size ≤ gb134))
                                have n7_ := Aside0.mk ((by rw [hg]; exact (below_size (by repeat (first | (with_reducible first | exact HB.out | apply below_alloc | apply pw_below_drewN | apply below_drew1 | refine below_set ?_ GE101.out | refine below_set ?_ GE102.out | refine below_set ?_ GE103.out) | exact HB.out))) : w.heap.size ≤ gb134))
                                have n8_ := Aside0.mk ((by rw [hg]; exact Nat.ne_of_lt (blk_lt (g := gb101) (o := .cells #[.bool a0_0, .slice A0_1 l0_1.length c0_1, .slice A0_2 l0_2.length c0_2] 28 (0, 0)) (Bz BK101.out)) : gb101 ≠ gb134))
                                have n9_ := Aside0.mk ((by rw [hg]; exact Nat.ne_of_gt (blk_lt (g := gb101) (o := .cells #[.bool a0_0, .slice A0_1 l0_1.length c0_1, .slice A0_2 l0_2.length c0_2] 28 (0, 0)) (Bz BK101.out)) : gb134 ≠ gb101))
                                have n10_ := Aside0.mk ((by rw [hg]; exact Nat.ne_of_lt (blk_lt (g := gb102) (o := .cells #[.bool a1_0, .slice A1_1 l1_1.length c1_1, .slice A1_2 l1_2.length c1_2] 28 (0, 0)) (Bz BK102.out)) : gb102 ≠ gb134))
                                have n11_ := Aside0.mk ((by rw [hg]; exact Nat.ne_of_gt (blk_lt (g := gb102) (o := .cells #[.bool a1_0, .slice A1_1 l1_1.length c1_1, .slice A1_2 l1_2.length c1_2] 28 (0, 0)) (Bz BK102.out)) : gb134 ≠ gb102))
                                have n12_ := Aside0.mk ((by rw [hg]; exact Nat.ne_of_lt (blk_lt (g := gb103) (o := .cells #[.bool false, .slice none 0 0, .slice none 0 0] 28 (0, 0)) (Bz BK103.out)) : gb103 ≠ gb134))
                                have n13_ := Aside0.mk ((by rw [hg]; exact Nat.ne_of_gt (blk_lt (g := gb103) (o := .cells #[.bool false, .slice none 0 0, .slice none 0 0] 28 (0, 0)) (Bz BK103.out)) : gb134 ≠ gb103))
                                clear HO133
                                clear BK101
                                clear BK102
                                clear BK103
                                clear HB
                                have HO133 := n0_
                                have BK101 := n1_
                                have BK102 := n2_
                                have BK103 := n3_
                                have HB := n4_
                                have BK134 := n5_
                                have GW134 := n6_
                                have GE134 := n7_
                                have NB101_134 := n8_
                                have NB134_101 := n9_
                                have NB102_134 := n10_
                                have NB134_102 := n11_
                                have NB103_134 := n12_
                                have NB134_103 := n13_
                                clear n0_ n1_ n2_ n3_ n4_ n5_ n6_ n7_ n8_ n9_ n10_ n11_ n12_ n13_
                                clear hb hbox hg
                                refine hK.out _ _ ⟨(blk_cell BK102.out 0).trans rfl, (blk_cell BK102.out 1).trans rfl, (blk_cell BK102.out 2).trans rfl⟩ (fun hHeld => ?_)
                                clear hK K
                                refine norm_ (a' := ?_) ?_ ?_
                                rotate_left
                                · show Act.put _ (some 8) _ = _
                                  simp only [Act.put, List.setIfInBounds_toArray, List.set_cons_zero, List.set_cons_succ, i64_w, i32_w]
                                  rfl
                                exact norm_ (by first | (simp only [putAll, Act.put, List.setIfInBounds_toArray, List.set_cons_zero, List.set_cons_succ]; done) | (simp only [putAll, Act.put, List.setIfInBounds_toArray, List.set_cons_zero, List.set_cons_succ]; rfl)) (hJ4_6 (v132, gb134) _ ⟨hHeld, (Rz HO133.out), (Bz BK101.out), (Bz BK102.out), (Bz BK103.out), (Bz BK134.out), GW134.out, GE134.out, NB101_134.out, NB134_101.out, NB102_134.out, NB134_102.out, NB103_134.out, NB134_103.out, (by repeat (first | (with_reducible first | exact HB.out | apply below_alloc | apply pw_below_drewN | apply below_drew1 | refine below_set ?_ GE101.out | refine below_set ?_ GE102.out | refine below_set ?_ GE103.out | refine below_set ?_ GE134.out) | exact HB.out))⟩)
                          · skip
                            rintro v129 w45 ⟨hS_, h0_, h1_, h2_, h3_, h4_⟩
                            have n0_ : Aside0 (Kd.R (Kd.int .i64) 3 w45 w.heap.size (fun _ => True) v129 y128) := ⟨h0_⟩
                            have n1_ : Aside0 (w45.heap[gb101]? = some (.cells #[.bool a0_0, .slice A0_1 l0_1.length c0_1, .slice A0_2 l0_2.length c0_2] 28 (0, 0))) := ⟨h1_⟩
                            have n2_ : Aside0 (w45.heap[gb102]? = some (.cells #[.bool a1_0, .slice A1_1 l1_1.length c1_1, .slice A1_2 l1_2.length c1_2] 28 (0, 0))) := ⟨h2_⟩
                            have n3_ : Aside0 (w45.heap[gb103]? = some (.cells #[.bool false, .slice none 0 0, .slice none 0 0] 28 (0, 0))) := ⟨h3_⟩
                            have n4_ : Aside0 (Below w.heap.size w w45) := ⟨h4_⟩
                            clear BK101
                            clear BK102
                            clear BK103
                            clear HB
                            clear h0_ h1_ h2_ h3_ h4_
                            have HO130 := n0_
                            have BK101 := n1_
                            have BK102 := n2_
                            have BK103 := n3_
                            have HB := n4_
                            clear n0_ n1_ n2_ n3_ n4_
                            have hHeld : w45.cell? ⟨gb102, 0, none⟩ = some (.bool a1_0) ∧ w45.cell? ⟨gb102, 1, none⟩ = some (.slice A1_1 l1_1.length c1_1) ∧ w45.cell? ⟨gb102, 2, none⟩ = some (.slice A1_2 l1_2.length c1_2) := hS_
                            refine norm_ (a' := ?_) ?_ ?_
                            rotate_left
                            · simp only [putAll, Act.put, List.setIfInBounds_toArray, List.set_cons_zero, List.set_cons_succ]
                              rfl
                            refine two_ (i := 4) (j := 6) (Ni := some 44) (Nj := some 8) #[true, true, true, true, true, false, false, false] #[true, true, true, true, false, false, true, false] rfl rfl rfl rfl (two_of HT_.out (by kernel_rfl)) (by decide) (by decide) (fun K hK => ?_) (fun K hK => ?_)
                            · skip
                              refine Kd.R_lit_step (Kd.int .i64) _ 3 ?hg (N := 44) ?hd (xs := ([] : List Int)) (inner := []) (ok := fun _ => True) (okp := fun _ => True) ?hr ?hp (fun _ hk => hk) trivial (Below.refl _ _) (Nat.le_refl _) (by simp) ?_; (case hd => rfl); (case hg => rfl); (case hr => first | (go_simp; done) | (go_simp; rfl)); (case hp => exact (Reps.none _ _))
                              intro v132 w46 ho47 hb hg_ hnew_
                              clear hg_ hnew_
                              (first | rw [← Ny131.out] at ho47 | (simp only [Int.reduceToNat] at ho47; rw [← Ny131.out] at ho47))
                              have n0_ := Aside0.mk (Kd.R_elder' (Rz HO130.out) (Kd.R_base ho47) hb)
                              have n1_ := Aside0.mk (Kd.R_lower (Kd.R_new' ho47 (Kd.R_lt (Rz HO130.out))) (below_size (by repeat (first | (with_reducible first | exact HB.out | apply below_alloc | apply pw_below_drewN | apply below_drew1 | refine below_set ?_ GE101.out | refine below_set ?_ GE102.out | refine below_set ?_ GE103.out) | exact HB.out))))
                              have n2_ := Aside0.mk (blk_below (g := gb101) (o := .cells #[.bool a0_0, .slice A0_1 l0_1.length c0_1, .slice A0_2 l0_2.length c0_2] 28 (0, 0)) (Bz BK101.out) hb)
                              have n3_ := Aside0.mk (blk_below (g := gb102) (o := .cells #[.bool a1_0, .slice A1_1 l1_1.length c1_1, .slice A1_2 l1_2.length c1_2] 28 (0, 0)) (Bz BK102.out) hb)
                              have n4_ := Aside0.mk (blk_below (g := gb103) (o := .cells #[.bool false, .slice none 0 0, .slice none 0 0] 28 (0, 0)) (Bz BK103.out) hb)
                              have n5_ := Aside0.mk (below_step (by repeat (first | (with_reducible first | exact HB.out | apply below_alloc | apply pw_below_drewN | apply below_drew1 | refine below_set ?_ GE101.out | refine below_set ?_ GE102.out | refine below_set ?_ GE103.out) | exact HB.out)) hb)
                              clear HO130
                              clear BK101
                              clear BK102
                              clear BK103
                              clear HB
                              have HO130 := n0_
                              have HO133 := n1_
                              have BK101 := n2_
                              have BK102 := n3_
                              have BK103 := n4_
                              have HB := n5_
                              clear n0_ n1_ n2_ n3_ n4_ n5_
                              clear hb ho47
                              obtain ⟨Ao48, co48, eo48⟩ := Kd.R_slice HO133.out
                              (first | subst eo48 | (injection eo48 with f1_ f2_ f3_; have f4_ := f1_.symm; have f5_ := f3_.symm; clear f1_ f2_ f3_; subst f4_; subst f5_))
                              obtain ⟨Ao49, co49, eo49⟩ := Kd.R_slice HO130.out
                              (first | subst eo49 | (injection eo49 with f1_ f2_ f3_; have f4_ := f1_.symm; have f5_ := f3_.symm; clear f1_ f2_ f3_; subst f4_; subst f5_))
                              refine hK.out _ _ ⟨(blk_cell BK102.out 0).trans rfl, (blk_cell BK102.out 1).trans rfl, (blk_cell BK102.out 2).trans rfl⟩ (fun hHeld => ?_)
                              clear hK K
                              refine norm_ (a' := ?_) ?_ ?_
                              rotate_left
                              · show Act.put _ (some 44) _ = _
                                simp only [Act.put, List.setIfInBounds_toArray, List.set_cons_zero, List.set_cons_succ, i64_w, i32_w]
                                rfl
                              refine pure_ (i := 5) (N := some 45) (v := ?_) (a' := ?_) #[true, true, true, true, true, true, false, false] rfl rfl (any_of HT_.out (by kernel_rfl)) (fun _ _ _ h => h) (Or.inl ⟨by rfl, ?_⟩) ?_ ?_
                              rotate_left
                              · intro w'
                                go_simp
                                with_reducible rfl
                              rotate_left
                              · simp only [Act.put, List.setIfInBounds_toArray, List.set_cons_zero, List.set_cons_succ, i64_w, i32_w]
                                rfl
                              exact norm_ (by first | (simp only [putAll, Act.put, List.setIfInBounds_toArray, List.set_cons_zero, List.set_cons_succ]; done) | (simp only [putAll, Act.put, List.setIfInBounds_toArray, List.set_cons_zero, List.set_cons_succ]; rfl)) (hJ3_4 (.slice Ao49 y128.length co49, .slice Ao48 y131.length co48) _ ⟨hHeld, (by (with_reducible repeat (first | apply Kd.R_alloc | apply Kd.R_drewN | apply Kd.R_drew)); exact Kd.R_mono HO130.out (fun _ hk => hk.2)), (by (with_reducible repeat (first | apply Kd.R_alloc | apply Kd.R_drewN | apply Kd.R_drew)); exact Kd.R_mono HO133.out (fun _ hk => hk.2)), (Bz BK101.out), (Bz BK102.out), (Bz BK103.out), (by repeat (first | (with_reducible first | exact HB.out | apply below_alloc | apply pw_below_drewN | apply below_drew1 | refine below_set ?_ GE101.out | refine below_set ?_ GE102.out | refine below_set ?_ GE103.out) | exact HB.out))⟩)
                            · skip
                              refine box_step ?hg (N := 8) ?hd (cs := #[.bool false, .slice none 0 0, .slice none 0 0]) (t := 28) ?hr ?_; (case hd => rfl); (case hg => rfl); (case hr => first | (go_simp; done) | (go_simp; rfl))
                              intro gb134 hg w46 hbox hb
                              have n0_ := Aside0.mk (Kd.R_below (Rz HO130.out) hb)
                              have n1_ := Aside0.mk (blk_below (g := gb101) (o := .cells #[.bool a0_0, .slice A0_1 l0_1.length c0_1, .slice A0_2 l0_2.length c0_2] 28 (0, 0)) (Bz BK101.out) hb)
                              have n2_ := Aside0.mk (blk_below (g := gb102) (o := .cells #[.bool a1_0, .slice A1_1 l1_1.length c1_1, .slice A1_2 l1_2.length c1_2] 28 (0, 0)) (Bz BK102.out) hb)
                              have n3_ := Aside0.mk (blk_below (g := gb103) (o := .cells #[.bool false, .slice none 0 0, .slice none 0 0] 28 (0, 0)) (Bz BK103.out) hb)
                              have n4_ := Aside0.mk (below_step (by repeat (first | (with_reducible first | exact HB.out | apply below_alloc | apply pw_below_drewN | apply below_drew1 | refine below_set ?_ GE101.out | refine below_set ?_ GE102.out | refine below_set ?_ GE103.out) | exact HB.out)) hb)
                              have n5_ := Aside0.mk (hbox)
                              have n6_ := Aside0.mk ((by rw [hg]; exact (below_size (by repeat (first | (with_reducible first | exact HB.out | apply below_alloc | apply pw_below_drewN | apply below_drew1 | refine below_set ?_ GE101.out | refine below_set ?_ GE102.out | refine below_set ?_ GE103.out) | exact HB.out))) : w.heap.size ≤ gb134))
                              have n7_ := Aside0.mk ((by rw [hg]; exact (below_size (by repeat (first | (with_reducible first | exact HB.out | apply below_alloc | apply pw_below_drewN | apply below_drew1 | refine below_set ?_ GE101.out | refine below_set ?_ GE102.out | refine below_set ?_ GE103.out) | exact HB.out))) : w.heap.size ≤ gb134))
                              have n8_ := Aside0.mk ((by rw [hg]; exact Nat.ne_of_lt (blk_lt (g := gb101) (o := .cells #[.bool a0_0, .slice A0_1 l0_1.length c0_1, .slice A0_2 l0_2.length c0_2] 28 (0, 0)) (Bz BK101.out)) : gb101 ≠ gb134))
                              have n9_ := Aside0.mk ((by rw [hg]; exact Nat.ne_of_gt (blk_lt (g := gb101) (o := .cells #[.bool a0_0, .slice A0_1 l0_1.length c0_1, .slice A0_2 l0_2.length c0_2] 28 (0, 0)) (Bz BK101.out)) : gb134 ≠ gb101))
                              have n10_ := Aside0.mk ((by rw [hg]; exact Nat.ne_of_lt (blk_lt (g := gb102) (o := .cells #[.bool a1_0, .slice A1_1 l1_1.length c1_1, .slice A1_2 l1_2.length c1_2] 28 (0, 0)) (Bz BK102.out)) : gb102 ≠ gb134))
                              have n11_ := Aside0.mk ((by rw [hg]; exact Nat.ne_of_gt (blk_lt (g := gb102) (o := .cells #[.bool a1_0, .slice A1_1 l1_1.length c1_1, .slice A1_2 l1_2.length c1_2] 28 (0, 0)) (Bz BK102.out)) : gb134 ≠ gb102))
                              have n12_ := Aside0.mk ((by rw [hg]; exact Nat.ne_of_lt (blk_lt (g := gb103) (o := .cells #[.bool false, .slice none 0 0, .slice none 0 0] 28 (0, 0)) (Bz BK103.out)) : gb103 ≠ gb134))
                              have n13_ := Aside0.mk ((by rw [hg]; exact Nat.ne_of_gt (blk_lt (g := gb103) (o := .cells #[.bool false, .slice none 0 0, .slice none 0 0] 28 (0, 0)) (Bz BK103.out)) : gb134 ≠ gb103))
                              clear HO130
                              clear BK101
                              clear BK102
                              clear BK103
                              clear HB
                              have HO130 := n0_
                              have BK101 := n1_
                              have BK102 := n2_
                              have BK103 := n3_
                              have HB := n4_
                              have BK134 := n5_
                              have GW134 := n6_
                              have GE134 := n7_
                              have NB101_134 := n8_
                              have NB134_101 := n9_
                              have NB102_134 := n10_
                              have NB134_102 := n11_
                              have NB103_134 := n12_
                              have NB134_103 := n13_
                              clear n0_ n1_ n2_ n3_ n4_ n5_ n6_ n7_ n8_ n9_ n10_ n11_ n12_ n13_
                              clear hb hbox hg
                              refine hK.out _ _ ⟨(blk_cell BK102.out 0).trans rfl, (blk_cell BK102.out 1).trans rfl, (blk_cell BK102.out 2).trans rfl⟩ (fun hHeld => ?_)
                              clear hK K
                              refine norm_ (a' := ?_) ?_ ?_
                              rotate_left
                              · show Act.put _ (some 8) _ = _
                                simp only [Act.put, List.setIfInBounds_toArray, List.set_cons_zero, List.set_cons_succ, i64_w, i32_w]
                                rfl
                              exact norm_ (by first | (simp only [putAll, Act.put, List.setIfInBounds_toArray, List.set_cons_zero, List.set_cons_succ]; done) | (simp only [putAll, Act.put, List.setIfInBounds_toArray, List.set_cons_zero, List.set_cons_succ]; rfl)) (hJ3_6 (v129, gb134) _ ⟨hHeld, (Rz HO130.out), (Bz BK101.out), (Bz BK102.out), (Bz BK103.out), (Bz BK134.out), GW134.out, GE134.out, NB101_134.out, NB134_101.out, NB102_134.out, NB134_102.out, NB103_134.out, NB134_103.out, (by repeat (first | (with_reducible first | exact HB.out | apply below_alloc | apply pw_below_drewN | apply below_drew1 | refine below_set ?_ GE101.out | refine below_set ?_ GE102.out | refine below_set ?_ GE103.out | refine below_set ?_ GE134.out) | exact HB.out))⟩)
                        · skip
                          rintro ⟨v132, gb134⟩ w46 ⟨hS_, h0_, h1_, h2_, h3_, h4_, h5_, h6_, h7_, h8_, h9_, h10_, h11_, h12_, h13_⟩
                          have n0_ : Aside0 (Kd.R (Kd.int .i64) 3 w46 w.heap.size (fun _ => True) v132 y131) := ⟨h0_⟩
                          have n1_ : Aside0 (w46.heap[gb101]? = some (.cells #[.bool a0_0, .slice A0_1 l0_1.length c0_1, .slice A0_2 l0_2.length c0_2] 28 (0, 0))) := ⟨h1_⟩
                          have n2_ : Aside0 (w46.heap[gb102]? = some (.cells #[.bool a1_0, .slice A1_1 l1_1.length c1_1, .slice A1_2 l1_2.length c1_2] 28 (0, 0))) := ⟨h2_⟩
                          have n3_ : Aside0 (w46.heap[gb103]? = some (.cells #[.bool false, .slice none 0 0, .slice none 0 0] 28 (0, 0))) := ⟨h3_⟩
                          have n4_ : Aside0 (w46.heap[gb134]? = some (.cells #[.bool false, .slice none 0 0, .slice none 0 0] 28 (0, 0))) := ⟨h4_⟩
                          have n5_ : Aside0 (w.heap.size ≤ gb134) := ⟨h5_⟩
                          have n6_ : Aside0 (w.heap.size ≤ gb134) := ⟨h6_⟩
                          have n7_ : Aside0 (gb101 ≠ gb134) := ⟨h7_⟩
                          have n8_ : Aside0 (gb134 ≠ gb101) := ⟨h8_⟩
                          have n9_ : Aside0 (gb102 ≠ gb134) := ⟨h9_⟩
                          have n10_ : Aside0 (gb134 ≠ gb102) := ⟨h10_⟩
                          have n11_ : Aside0 (gb103 ≠ gb134) := ⟨h11_⟩
                          have n12_ : Aside0 (gb134 ≠ gb103) := ⟨h12_⟩
                          have n13_ : Aside0 (Below w.heap.size w w46) := ⟨h13_⟩
                          clear BK101
                          clear BK102
                          clear BK103
                          clear HB
                          clear h0_ h1_ h2_ h3_ h4_ h5_ h6_ h7_ h8_ h9_ h10_ h11_ h12_ h13_
                          have HO133 := n0_
                          have BK101 := n1_
                          have BK102 := n2_
                          have BK103 := n3_
                          have BK134 := n4_
                          have GW134 := n5_
                          have GE134 := n6_
                          have NB101_134 := n7_
                          have NB134_101 := n8_
                          have NB102_134 := n9_
                          have NB134_102 := n10_
                          have NB103_134 := n11_
                          have NB134_103 := n12_
                          have HB := n13_
                          clear n0_ n1_ n2_ n3_ n4_ n5_ n6_ n7_ n8_ n9_ n10_ n11_ n12_ n13_
                          have hHeld : w46.cell? ⟨gb102, 0, none⟩ = some (.bool a1_0) ∧ w46.cell? ⟨gb102, 1, none⟩ = some (.slice A1_1 l1_1.length c1_1) ∧ w46.cell? ⟨gb102, 2, none⟩ = some (.slice A1_2 l1_2.length c1_2) := hS_
                          refine norm_ (a' := ?_) ?_ ?_
                          rotate_left
                          · simp only [putAll, Act.put, List.setIfInBounds_toArray, List.set_cons_zero, List.set_cons_succ]
                            rfl
                          refine one_ (i := 3) (N := some 43) #[true, true, true, true, true, false, true, false] rfl rfl (one_of HT_.out (by kernel_rfl)) (by decide) (fun K hK => ?_)
                          refine Kd.R_make_step (Kd.int .i64) _ 3 (by rfl) (N := 43) rfl 22 _ _ rfl (l1_1.length : Int) rfl rfl Try.underlying22 (.int .i64 0) 8 info3 rfl (by decide) (by omega) 0 (ok := fun _ => True) (okp := fun _ => True) rfl (fun _ hk => hk) trivial (of_decide_eq_true (by first | (with_reducible assumption) | assumption)) (Nat.le_trans (Nat.mul_le_mul_right _ (of_decide_eq_true (by first | (with_reducible assumption) | assumption) : (l1_1.length : Int).toNat ≤ 35184372088832)) (by omega)) (Below.refl _ _) (Nat.le_refl _) ?_
                          intro v129 w47 ho48 hb hg_ hnew_
                          clear hg_ hnew_
                          (first | rw [← Ny128.out] at ho48 | (simp only [Int.reduceToNat] at ho48; rw [← Ny128.out] at ho48))
                          have n0_ := Aside0.mk (Kd.R_elder' (Rz HO133.out) (Kd.R_base ho48) hb)
                          have n1_ := Aside0.mk (Kd.R_lower (Kd.R_new' ho48 (Kd.R_lt (Rz HO133.out))) (below_size (by repeat (first | (with_reducible first | exact HB.out | apply below_alloc | apply pw_below_drewN | apply below_drew1 | refine below_set ?_ GE101.out | refine below_set ?_ GE102.out | refine below_set ?_ GE103.out | refine below_set ?_ GE134.out) | exact HB.out))))
                          have n2_ := Aside0.mk (blk_below (g := gb101) (o := .cells #[.bool a0_0, .slice A0_1 l0_1.length c0_1, .slice A0_2 l0_2.length c0_2] 28 (0, 0)) (Bz BK101.out) hb)
                          have n3_ := Aside0.mk (blk_below (g := gb102) (o := .cells #[.bool a1_0, .slice A1_1 l1_1.length c1_1, .slice A1_2 l1_2.length c1_2] 28 (0, 0)) (Bz BK102.out) hb)
                          have n4_ := Aside0.mk (blk_below (g := gb103) (o := .cells #[.bool false, .slice none 0 0, .slice none 0 0] 28 (0, 0)) (Bz BK103.out) hb)
                          have n5_ := Aside0.mk (blk_below (g := gb134) (o := .cells #[.bool false, .slice none 0 0, .slice none 0 0] 28 (0, 0)) (Bz BK134.out) hb)
                          have n6_ := Aside0.mk (below_step (by repeat (first | (with_reducible first | exact HB.out | apply below_alloc | apply pw_below_drewN | apply below_drew1 | refine below_set ?_ GE101.out | refine below_set ?_ GE102.out | refine below_set ?_ GE103.out | refine below_set ?_ GE134.out) | exact HB.out)) hb)
                          clear HO133
                          clear BK101
                          clear BK102
                          clear BK103
                          clear BK134
                          clear HB
                          have HO133 := n0_
                          have HO130 := n1_
                          have BK101 := n2_
                          have BK102 := n3_
                          have BK103 := n4_
                          have BK134 := n5_
                          have HB := n6_
                          clear n0_ n1_ n2_ n3_ n4_ n5_ n6_
                          clear hb ho48
                          obtain ⟨Ao49, co49, eo49⟩ := Kd.R_slice HO133.out
                          (first | subst eo49 | (injection eo49 with f1_ f2_ f3_; have f4_ := f1_.symm; have f5_ := f3_.symm; clear f1_ f2_ f3_; subst f4_; subst f5_))
                          obtain ⟨Ao50, co50, eo50⟩ := Kd.R_slice HO130.out
                          (first | subst eo50 | (injection eo50 with f1_ f2_ f3_; have f4_ := f1_.symm; have f5_ := f3_.symm; clear f1_ f2_ f3_; subst f4_; subst f5_))
                          refine hK.out _ _ ⟨(blk_cell BK102.out 0).trans rfl, (blk_cell BK102.out 1).trans rfl, (blk_cell BK102.out 2).trans rfl⟩ (fun hHeld => ?_)
                          clear hK K
                          refine norm_ (a' := ?_) ?_ ?_
                          rotate_left
                          · show Act.put _ (some 43) _ = _
                            simp only [Act.put, List.setIfInBounds_toArray, List.set_cons_zero, List.set_cons_succ, i64_w, i32_w]
                            rfl
                          refine pure_ (i := 5) (N := some 45) (v := ?_) (a' := ?_) #[true, true, true, true, true, true, true, false] rfl rfl (any_of HT_.out (by kernel_rfl)) (fun _ _ _ h => h) (Or.inl ⟨by rfl, ?_⟩) ?_ ?_
                          rotate_left
                          · intro w'
                            go_simp
                            with_reducible rfl
                          rotate_left
                          · simp only [Act.put, List.setIfInBounds_toArray, List.set_cons_zero, List.set_cons_succ, i64_w, i32_w]
                            rfl
                          exact norm_ (by first | (simp only [putAll, Act.put, List.setIfInBounds_toArray, List.set_cons_zero, List.set_cons_succ]; done) | (simp only [putAll, Act.put, List.setIfInBounds_toArray, List.set_cons_zero, List.set_cons_succ]; rfl)) (hJ3_4_6 (.slice Ao50 y128.length co50, .slice Ao49 y131.length co49, gb134) _ ⟨hHeld, (by (with_reducible repeat (first | apply Kd.R_alloc | apply Kd.R_drewN | apply Kd.R_drew)); exact Kd.R_mono HO130.out (fun _ hk => hk.2)), (by (with_reducible repeat (first | apply Kd.R_alloc | apply Kd.R_drewN | apply Kd.R_drew)); exact Kd.R_mono HO133.out (fun _ hk => hk.2)), (Bz BK101.out), (Bz BK102.out), (Bz BK103.out), (Bz BK134.out), GW134.out, GE134.out, NB101_134.out, NB134_101.out, NB102_134.out, NB134_102.out, NB103_134.out, NB134_103.out, (by repeat (first | (with_reducible first | exact HB.out | apply below_alloc | apply pw_below_drewN | apply below_drew1 | refine below_set ?_ GE101.out | refine below_set ?_ GE102.out | refine below_set ?_ GE103.out | refine below_set ?_ GE134.out) | exact HB.out))⟩)
                      · skip
                        rintro ⟨v129, gb134⟩ w46 ⟨hS_, h0_, h1_, h2_, h3_, h4_, h5_, h6_, h7_, h8_, h9_, h10_, h11_, h12_, h13_⟩
                        have n0_ : Aside0 (Kd.R (Kd.int .i64) 3 w46 w.heap.size (fun _ => True) v129 y128) := ⟨h0_⟩
                        have n1_ : Aside0 (w46.heap[gb101]? = some (.cells #[.bool a0_0, .slice A0_1 l0_1.length c0_1, .slice A0_2 l0_2.length c0_2] 28 (0, 0))) := ⟨h1_⟩
                        have n2_ : Aside0 (w46.heap[gb102]? = some (.cells #[.bool a1_0, .slice A1_1 l1_1.length c1_1, .slice A1_2 l1_2.length c1_2] 28 (0, 0))) := ⟨h2_⟩
                        have n3_ : Aside0 (w46.heap[gb103]? = some (.cells #[.bool false, .slice none 0 0, .slice none 0 0] 28 (0, 0))) := ⟨h3_⟩
                        have n4_ : Aside0 (w46.heap[gb134]? = some (.cells #[.bool false, .slice none 0 0, .slice none 0 0] 28 (0, 0))) := ⟨h4_⟩
                        have n5_ : Aside0 (w.heap.size ≤ gb134) := ⟨h5_⟩
                        have n6_ : Aside0 (w.heap.size ≤ gb134) := ⟨h6_⟩
                        have n7_ : Aside0 (gb101 ≠ gb134) := ⟨h7_⟩
                        have n8_ : Aside0 (gb134 ≠ gb101) := ⟨h8_⟩
                        have n9_ : Aside0 (gb102 ≠ gb134) := ⟨h9_⟩
                        have n10_ : Aside0 (gb134 ≠ gb102) := ⟨h10_⟩
                        have n11_ : Aside0 (gb103 ≠ gb134) := ⟨h11_⟩
                        have n12_ : Aside0 (gb134 ≠ gb103) := ⟨h12_⟩
                        have n13_ : Aside0 (Below w.heap.size w w46) := ⟨h13_⟩
                        clear BK101
                        clear BK102
                        clear BK103
                        clear HB
                        clear h0_ h1_ h2_ h3_ h4_ h5_ h6_ h7_ h8_ h9_ h10_ h11_ h12_ h13_
                        have HO130 := n0_
                        have BK101 := n1_
                        have BK102 := n2_
                        have BK103 := n3_
                        have BK134 := n4_
                        have GW134 := n5_
                        have GE134 := n6_
                        have NB101_134 := n7_
                        have NB134_101 := n8_
                        have NB102_134 := n9_
                        have NB134_102 := n10_
                        have NB103_134 := n11_
                        have NB134_103 := n12_
                        have HB := n13_
                        clear n0_ n1_ n2_ n3_ n4_ n5_ n6_ n7_ n8_ n9_ n10_ n11_ n12_ n13_
                        have hHeld : w46.cell? ⟨gb102, 0, none⟩ = some (.bool a1_0) ∧ w46.cell? ⟨gb102, 1, none⟩ = some (.slice A1_1 l1_1.length c1_1) ∧ w46.cell? ⟨gb102, 2, none⟩ = some (.slice A1_2 l1_2.length c1_2) := hS_
                        refine norm_ (a' := ?_) ?_ ?_
                        rotate_left
                        · simp only [putAll, Act.put, List.setIfInBounds_toArray, List.set_cons_zero, List.set_cons_succ]
                          rfl
                        refine one_ (i := 4) (N := some 44) #[true, true, true, true, true, false, true, false] rfl rfl (one_of HT_.out (by kernel_rfl)) (by decide) (fun K hK => ?_)
                        refine Kd.R_lit_step (Kd.int .i64) _ 3 ?hg (N := 44) ?hd (xs := ([] : List Int)) (inner := []) (ok := fun _ => True) (okp := fun _ => True) ?hr ?hp (fun _ hk => hk) trivial (Below.refl _ _) (Nat.le_refl _) (by simp) ?_; (case hd => rfl); (case hg => rfl); (case hr => first | (go_simp; done) | (go_simp; rfl)); (case hp => exact (Reps.none _ _))
                        intro v132 w47 ho48 hb hg_ hnew_
                        clear hg_ hnew_
                        (first | rw [← Ny131.out] at ho48 | (simp only [Int.reduceToNat] at ho48; rw [← Ny131.out] at ho48))
                        have n0_ := Aside0.mk (Kd.R_elder' (Rz HO130.out) (Kd.R_base ho48) hb)
                        have n1_ := Aside0.mk (Kd.R_lower (Kd.R_new' ho48 (Kd.R_lt (Rz HO130.out))) (below_size (by repeat (first | (with_reducible first | exact HB.out | apply below_alloc | apply pw_below_drewN | apply below_drew1 | refine below_set ?_ GE101.out | refine below_set ?_ GE102.out | refine below_set ?_ GE103.out | refine below_set ?_ GE134.out) | exact HB.out))))
                        have n2_ := Aside0.mk (blk_below (g := gb101) (o := .cells #[.bool a0_0, .slice A0_1 l0_1.length c0_1, .slice A0_2 l0_2.length c0_2] 28 (0, 0)) (Bz BK101.out) hb)
                        have n3_ := Aside0.mk (blk_below (g := gb102) (o := .cells #[.bool a1_0, .slice A1_1 l1_1.length c1_1, .slice A1_2 l1_2.length c1_2] 28 (0, 0)) (Bz BK102.out) hb)
                        have n4_ := Aside0.mk (blk_below (g := gb103) (o := .cells #[.bool false, .slice none 0 0, .slice none 0 0] 28 (0, 0)) (Bz BK103.out) hb)
                        have n5_ := Aside0.mk (blk_below (g := gb134) (o := .cells #[.bool false, .slice none 0 0, .slice none 0 0] 28 (0, 0)) (Bz BK134.out) hb)
                        have n6_ := Aside0.mk (below_step (by repeat (first | (with_reducible first | exact HB.out | apply below_alloc | apply pw_below_drewN | apply below_drew1 | refine below_set ?_ GE101.out | refine below_set ?_ GE102.out | refine below_set ?_ GE103.out | refine below_set ?_ GE134.out) | exact HB.out)) hb)
                        clear HO130
                        clear BK101
                        clear BK102
                        clear BK103
                        clear BK134
                        clear HB
                        have HO130 := n0_
                        have HO133 := n1_
                        have BK101 := n2_
                        have BK102 := n3_
                        have BK103 := n4_
                        have BK134 := n5_
                        have HB := n6_
                        clear n0_ n1_ n2_ n3_ n4_ n5_ n6_
                        clear hb ho48
                        obtain ⟨Ao49, co49, eo49⟩ := Kd.R_slice HO133.out
                        (first | subst eo49 | (injection eo49 with f1_ f2_ f3_; have f4_ := f1_.symm; have f5_ := f3_.symm; clear f1_ f2_ f3_; subst f4_; subst f5_))
                        obtain ⟨Ao50, co50, eo50⟩ := Kd.R_slice HO130.out
                        (first | subst eo50 | (injection eo50 with f1_ f2_ f3_; have f4_ := f1_.symm; have f5_ := f3_.symm; clear f1_ f2_ f3_; subst f4_; subst f5_))
                        refine hK.out _ _ ⟨(blk_cell BK102.out 0).trans rfl, (blk_cell BK102.out 1).trans rfl, (blk_cell BK102.out 2).trans rfl⟩ (fun hHeld => ?_)
                        clear hK K
                        refine norm_ (a' := ?_) ?_ ?_
                        rotate_left
                        · show Act.put _ (some 44) _ = _
                          simp only [Act.put, List.setIfInBounds_toArray, List.set_cons_zero, List.set_cons_succ, i64_w, i32_w]
                          rfl
                        refine pure_ (i := 5) (N := some 45) (v := ?_) (a' := ?_) #[true, true, true, true, true, true, true, false] rfl rfl (any_of HT_.out (by kernel_rfl)) (fun _ _ _ h => h) (Or.inl ⟨by rfl, ?_⟩) ?_ ?_
                        rotate_left
                        · intro w'
                          go_simp
                          with_reducible rfl
                        rotate_left
                        · simp only [Act.put, List.setIfInBounds_toArray, List.set_cons_zero, List.set_cons_succ, i64_w, i32_w]
                          rfl
                        exact norm_ (by first | (simp only [putAll, Act.put, List.setIfInBounds_toArray, List.set_cons_zero, List.set_cons_succ]; done) | (simp only [putAll, Act.put, List.setIfInBounds_toArray, List.set_cons_zero, List.set_cons_succ]; rfl)) (hJ3_4_6 (.slice Ao50 y128.length co50, .slice Ao49 y131.length co49, gb134) _ ⟨hHeld, (by (with_reducible repeat (first | apply Kd.R_alloc | apply Kd.R_drewN | apply Kd.R_drew)); exact Kd.R_mono HO130.out (fun _ hk => hk.2)), (by (with_reducible repeat (first | apply Kd.R_alloc | apply Kd.R_drewN | apply Kd.R_drew)); exact Kd.R_mono HO133.out (fun _ hk => hk.2)), (Bz BK101.out), (Bz BK102.out), (Bz BK103.out), (Bz BK134.out), GW134.out, GE134.out, NB101_134.out, NB134_101.out, NB102_134.out, NB134_102.out, NB103_134.out, NB134_103.out, (by repeat (first | (with_reducible first | exact HB.out | apply below_alloc | apply pw_below_drewN | apply below_drew1 | refine below_set ?_ GE101.out | refine below_set ?_ GE102.out | refine below_set ?_ GE103.out | refine below_set ?_ GE134.out) | exact HB.out))⟩)
                    · skip
                      rintro ⟨v129, v132⟩ w49 ⟨hS_, h0_, h1_, h2_, h3_, h4_, h5_⟩
                      have n0_ : Aside0 (Kd.R (Kd.int .i64) 3 w49 w.heap.size (fun k_ => some k_ ≠ (v132 : Value).ownBlock) v129 y128) := ⟨h0_⟩
                      have n1_ : Aside0 (Kd.R (Kd.int .i64) 3 w49 w.heap.size (fun k_ => some k_ ≠ (v129 : Value).ownBlock) v132 y131) := ⟨h1_⟩
                      have n2_ : Aside0 (w49.heap[gb101]? = some (.cells #[.bool a0_0, .slice A0_1 l0_1.length c0_1, .slice A0_2 l0_2.length c0_2] 28 (0, 0))) := ⟨h2_⟩
                      have n3_ : Aside0 (w49.heap[gb102]? = some (.cells #[.bool a1_0, .slice A1_1 l1_1.length c1_1, .slice A1_2 l1_2.length c1_2] 28 (0, 0))) := ⟨h3_⟩
                      have n4_ : Aside0 (w49.heap[gb103]? = some (.cells #[.bool false, .slice none 0 0, .slice none 0 0] 28 (0, 0))) := ⟨h4_⟩
                      have n5_ : Aside0 (Below w.heap.size w w49) := ⟨h5_⟩
                      clear BK101
                      clear BK102
                      clear BK103
                      clear HB
                      clear h0_ h1_ h2_ h3_ h4_ h5_
                      have HO130 := n0_
                      have HO133 := n1_
                      have BK101 := n2_
                      have BK102 := n3_
                      have BK103 := n4_
                      have HB := n5_
                      clear n0_ n1_ n2_ n3_ n4_ n5_
                      have hHeld : w49.cell? ⟨gb102, 0, none⟩ = some (.bool a1_0) ∧ w49.cell? ⟨gb102, 1, none⟩ = some (.slice A1_1 l1_1.length c1_1) ∧ w49.cell? ⟨gb102, 2, none⟩ = some (.slice A1_2 l1_2.length c1_2) := hS_
                      obtain ⟨Ao50, co50, eo50⟩ := Kd.R_slice HO133.out
                      (first | subst eo50 | (injection eo50 with f1_ f2_ f3_; have f4_ := f1_.symm; have f5_ := f3_.symm; clear f1_ f2_ f3_; subst f4_; subst f5_))
                      obtain ⟨Ao51, co51, eo51⟩ := Kd.R_slice HO130.out
                      (first | subst eo51 | (injection eo51 with f1_ f2_ f3_; have f4_ := f1_.symm; have f5_ := f3_.symm; clear f1_ f2_ f3_; subst f4_; subst f5_))
                      refine norm_ (a' := ?_) ?_ ?_
                      rotate_left
                      · simp only [putAll, Act.put, List.setIfInBounds_toArray, List.set_cons_zero, List.set_cons_succ]
                        rfl
                      refine one_ (i := 6) (N := some 8) #[true, true, true, true, true, true, true, false] rfl rfl (one_of HT_.out (by kernel_rfl)) (by decide) (fun K hK => ?_)
                      refine box_step ?hg (N := 8) ?hd (cs := #[.bool false, .slice none 0 0, .slice none 0 0]) (t := 28) ?hr ?_; (case hd => rfl); (case hg => rfl); (case hr => first | (go_simp; done) | (go_simp; rfl))
                      intro gb134 hg w52 hbox hb
                      have n0_ := Aside0.mk (Kd.R_below (Rz HO130.out) hb)
                      have n1_ := Aside0.mk (Kd.R_below (Rz HO133.out) hb)
                      have n2_ := Aside0.mk (blk_below (g := gb101) (o := .cells #[.bool a0_0, .slice A0_1 l0_1.length c0_1, .slice A0_2 l0_2.length c0_2] 28 (0, 0)) (Bz BK101.out) hb)
                      have n3_ := Aside0.mk (blk_below (g := gb102) (o := .cells #[.bool a1_0, .slice A1_1 l1_1.length c1_1, .slice A1_2 l1_2.length c1_2] 28 (0, 0)) (Bz BK102.out) hb)
                      have n4_ := Aside0.mk (blk_below (g := gb103) (o := .cells #[.bool false, .slice none 0 0, .slice none 0 0] 28 (0, 0)) (Bz BK103.out) hb)
                      have n5_ := Aside0.mk (below_step (by repeat (first | (with_reducible first | exact HB.out | apply below_alloc | apply pw_below_drewN | apply below_drew1 | refine below_set ?_ GE101.out | refine below_set ?_ GE102.out | refine below_set ?_ GE103.out) | exact HB.out)) hb)
                      have n6_ := Aside0.mk (hbox)
                      have n7_ := Aside0.mk ((by rw [hg]; exact (below_size (by repeat (first | (with_reducible first | exact HB.out | apply below_alloc | apply pw_below_drewN | apply below_drew1 | refine below_set ?_ GE101.out | refine below_set ?_ GE102.out | refine below_set ?_ GE103.out) | exact HB.out))) : w.heap.size ≤ gb134))
                      have n8_ := Aside0.mk ((by rw [hg]; exact (below_size (by repeat (first | (with_reducible first | exact HB.out | apply below_alloc | apply pw_below_drewN | apply below_drew1 | refine below_set ?_ GE101.out | refine below_set ?_ GE102.out | refine below_set ?_ GE103.out) | exact HB.out))) : w.heap.size ≤ gb134))
                      have n9_ := Aside0.mk ((by rw [hg]; exact Nat.ne_of_lt (blk_lt (g := gb101) (o := .cells #[.bool a0_0, .slice A0_1 l0_1.length c0_1, .slice A0_2 l0_2.length c0_2] 28 (0, 0)) (Bz BK101.out)) : gb101 ≠ gb134))
                      have n10_ := Aside0.mk ((by rw [hg]; exact Nat.ne_of_gt (blk_lt (g := gb101) (o := .cells #[.bool a0_0, .slice A0_1 l0_1.length c0_1, .slice A0_2 l0_2.length c0_2] 28 (0, 0)) (Bz BK101.out)) : gb134 ≠ gb101))
                      have n11_ := Aside0.mk ((by rw [hg]; exact Nat.ne_of_lt (blk_lt (g := gb102) (o := .cells #[.bool a1_0, .slice A1_1 l1_1.length c1_1, .slice A1_2 l1_2.length c1_2] 28 (0, 0)) (Bz BK102.out)) : gb102 ≠ gb134))
                      have n12_ := Aside0.mk ((by rw [hg]; exact Nat.ne_of_gt (blk_lt (g := gb102) (o := .cells #[.bool a1_0, .slice A1_1 l1_1.length c1_1, .slice A1_2 l1_2.length c1_2] 28 (0, 0)) (Bz BK102.out)) : gb134 ≠ gb102))
                      have n13_ := Aside0.mk ((by rw [hg]; exact Nat.ne_of_lt (blk_lt (g := gb103) (o := .cells #[.bool false, .slice none 0 0, .slice none 0 0] 28 (0, 0)) (Bz BK103.out)) : gb103 ≠ gb134))
                      have n14_ := Aside0.mk ((by rw [hg]; exact Nat.ne_of_gt (blk_lt (g := gb103) (o := .cells #[.bool false, .slice none 0 0, .slice none 0 0] 28 (0, 0)) (Bz BK103.out)) : gb134 ≠ gb103))
                      clear HO130
                      clear HO133
                      clear BK101
                      clear BK102
                      clear BK103
                      clear HB
                      have HO130 := n0_
                      have HO133 := n1_
                      have BK101 := n2_
                      have BK102 := n3_
                      have BK103 := n4_
                      have HB := n5_
                      have BK134 := n6_
                      have GW134 := n7_
                      have GE134 := n8_
                      have NB101_134 := n9_
                      have NB134_101 := n10_
                      have NB102_134 := n11_
                      have NB134_102 := n12_
                      have NB103_134 := n13_
                      have NB134_103 := n14_
                      clear n0_ n1_ n2_ n3_ n4_ n5_ n6_ n7_ n8_ n9_ n10_ n11_ n12_ n13_ n14_
                      clear hb hbox hg
                      refine hK.out _ _ ⟨(blk_cell BK102.out 0).trans rfl, (blk_cell BK102.out 1).trans rfl, (blk_cell BK102.out 2).trans rfl⟩ (fun hHeld => ?_)
                      clear hK K
                      refine norm_ (a' := ?_) ?_ ?_
                      rotate_left
                      · show Act.put _ (some 8) _ = _
                        simp only [Act.put, List.setIfInBounds_toArray, List.set_cons_zero, List.set_cons_succ, i64_w, i32_w]
                        rfl
                      exact norm_ (by first | (simp only [putAll, Act.put, List.setIfInBounds_toArray, List.set_cons_zero, List.set_cons_succ]; done) | (simp only [putAll, Act.put, List.setIfInBounds_toArray, List.set_cons_zero, List.set_cons_succ]; rfl)) (hJ3_4_6 (.slice Ao51 y128.length co51, .slice Ao50 y131.length co50, gb134) _ ⟨hHeld, (Rz HO130.out), (Rz HO133.out), (Bz BK101.out), (Bz BK102.out), (Bz BK103.out), (Bz BK134.out), GW134.out, GE134.out, NB101_134.out, NB134_101.out, NB102_134.out, NB134_102.out, NB103_134.out, NB134_103.out, (by repeat (first | (with_reducible first | exact HB.out | apply below_alloc | apply pw_below_drewN | apply below_drew1 | refine below_set ?_ GE101.out | refine below_set ?_ GE102.out | refine below_set ?_ GE103.out | refine below_set ?_ GE134.out) | exact HB.out))⟩)
                  rintro ⟨v129, v132, gb134⟩ w50 ⟨hS_, h0_, h1_, h2_, h3_, h4_, h5_, h6_, h7_, h8_, h9_, h10_, h11_, h12_, h13_, h14_⟩
                  have n0_ : Aside0 (Kd.R (Kd.int .i64) 3 w50 w.heap.size (fun k_ => some k_ ≠ (v132 : Value).ownBlock) v129 y128) := ⟨h0_⟩
                  have n1_ : Aside0 (Kd.R (Kd.int .i64) 3 w50 w.heap.size (fun k_ => some k_ ≠ (v129 : Value).ownBlock) v132 y131) := ⟨h1_⟩
                  have n2_ : Aside0 (w50.heap[gb101]? = some (.cells #[.bool a0_0, .slice A0_1 l0_1.length c0_1, .slice A0_2 l0_2.length c0_2] 28 (0, 0))) := ⟨h2_⟩
                  have n3_ : Aside0 (w50.heap[gb102]? = some (.cells #[.bool a1_0, .slice A1_1 l1_1.length c1_1, .slice A1_2 l1_2.length c1_2] 28 (0, 0))) := ⟨h3_⟩
                  have n4_ : Aside0 (w50.heap[gb103]? = some (.cells #[.bool false, .slice none 0 0, .slice none 0 0] 28 (0, 0))) := ⟨h4_⟩
                  have n5_ : Aside0 (w50.heap[gb134]? = some (.cells #[.bool false, .slice none 0 0, .slice none 0 0] 28 (0, 0))) := ⟨h5_⟩
                  have n6_ : Aside0 (w.heap.size ≤ gb134) := ⟨h6_⟩
                  have n7_ : Aside0 (w.heap.size ≤ gb134) := ⟨h7_⟩
                  have n8_ : Aside0 (gb101 ≠ gb134) := ⟨h8_⟩
                  have n9_ : Aside0 (gb134 ≠ gb101) := ⟨h9_⟩
                  have n10_ : Aside0 (gb102 ≠ gb134) := ⟨h10_⟩
                  have n11_ : Aside0 (gb134 ≠ gb102) := ⟨h11_⟩
                  have n12_ : Aside0 (gb103 ≠ gb134) := ⟨h12_⟩
                  have n13_ : Aside0 (gb134 ≠ gb103) := ⟨h13_⟩
                  have n14_ : Aside0 (Below w.heap.size w w50) := ⟨h14_⟩
                  clear BK101
                  clear BK102
                  clear BK103
                  clear HB
                  clear h0_ h1_ h2_ h3_ h4_ h5_ h6_ h7_ h8_ h9_ h10_ h11_ h12_ h13_ h14_
                  have HO130 := n0_
                  have HO133 := n1_
                  have BK101 := n2_
                  have BK102 := n3_
                  have BK103 := n4_
                  have BK134 := n5_
                  have GW134 := n6_
                  have GE134 := n7_
                  have NB101_134 := n8_
                  have NB134_101 := n9_
                  have NB102_134 := n10_
                  have NB134_102 := n11_
                  have NB103_134 := n12_
                  have NB134_103 := n13_
                  have HB := n14_
                  clear n0_ n1_ n2_ n3_ n4_ n5_ n6_ n7_ n8_ n9_ n10_ n11_ n12_ n13_ n14_
                  have hHeld : w50.cell? ⟨gb102, 0, none⟩ = some (.bool a1_0) ∧ w50.cell? ⟨gb102, 1, none⟩ = some (.slice A1_1 l1_1.length c1_1) ∧ w50.cell? ⟨gb102, 2, none⟩ = some (.slice A1_2 l1_2.length c1_2) := hS_
                  obtain ⟨Ao51, co51, eo51⟩ := Kd.R_slice HO133.out
                  (first | subst eo51 | (injection eo51 with f1_ f2_ f3_; have f4_ := f1_.symm; have f5_ := f3_.symm; clear f1_ f2_ f3_; subst f4_; subst f5_))
                  obtain ⟨Ao52, co52, eo52⟩ := Kd.R_slice HO130.out
                  (first | subst eo52 | (injection eo52 with f1_ f2_ f3_; have f4_ := f1_.symm; have f5_ := f3_.symm; clear f1_ f2_ f3_; subst f4_; subst f5_))
                  refine norm_ (a' := ?_) ?_ ?_
                  rotate_left
                  · simp only [putAll, Act.put, List.setIfInBounds_toArray, List.set_cons_zero, List.set_cons_succ]
                    rfl
                  refine one_ (i := 7) (N := none) #[true, true, true, true, true, true, true, true] rfl rfl (one_of HT_.out (by kernel_rfl)) (by decide) (fun K hK => ?_)
                  have hs53 : w50.cell? ⟨gb134, 0, none⟩ = some (.bool false) := (blk_cell BK134.out 0).trans rfl
                  have hfs53 := blk_frozen BK134.out 0
                  have hns53_0 := NB101_134.out
                  have hns53_1 := NB102_134.out
                  have hns53_2 := NB103_134.out
                  have hms53_0 := NB134_101.out
                  have hms53_1 := NB134_102.out
                  have hms53_2 := NB134_103.out
                  have hs54 : w50.cell? ⟨gb134, 1, none⟩ = some (.slice none 0 0) := (blk_cell BK134.out 1).trans rfl
                  have hfs54 := blk_frozen BK134.out 1
                  have hns54_0 := NB101_134.out
                  have hns54_1 := NB102_134.out
                  have hns54_2 := NB103_134.out
                  have hms54_0 := NB134_101.out
                  have hms54_1 := NB134_102.out
                  have hms54_2 := NB134_103.out
                  have hs55 : w50.cell? ⟨gb134, 2, none⟩ = some (.slice none 0 0) := (blk_cell BK134.out 2).trans rfl
                  have hfs55 := blk_frozen BK134.out 2
                  have hns55_0 := NB101_134.out
                  have hns55_1 := NB102_134.out
                  have hns55_2 := NB103_134.out
                  have hms55_0 := NB134_101.out
                  have hms55_1 := NB134_102.out
                  have hms55_2 := NB134_103.out
                  refine skip_ (w1 := ?_) (by rfl) rfl ?_ ?_
                  rotate_left
                  · go_simp
                    rfl
                  refine hK.out _ _ ⟨((cell_far (p := ⟨gb134, _, none⟩) NB102_134.out _).trans (((cell_far (p := ⟨gb134, _, none⟩) NB102_134.out _).trans (((cell_far (p := ⟨gb134, _, none⟩) NB102_134.out _).trans (hHeld.1)))))), ((cell_far (p := ⟨gb134, _, none⟩) NB102_134.out _).trans (((cell_far (p := ⟨gb134, _, none⟩) NB102_134.out _).trans (((cell_far (p := ⟨gb134, _, none⟩) NB102_134.out _).trans (hHeld.2.1)))))), ((cell_far (p := ⟨gb134, _, none⟩) NB102_134.out _).trans (((cell_far (p := ⟨gb134, _, none⟩) NB102_134.out _).trans (((cell_far (p := ⟨gb134, _, none⟩) NB102_134.out _).trans (hHeld.2.2))))))⟩ (fun hHeld => ?_)
                  clear hK K
                  refine done_ (done_of HT_.out (by kernel_rfl)) ?_
                  try go_wp2_with (first | ((with_reducible refine gate_dst (N := 47) rfl ?_); refine Kd.R_make Kd.bool _ 4 rfl (N := 47) rfl 88 _ _ rfl (l1_1.length : Int) rfl rfl Try.underlying88 (.bool false) 1 info4 rfl (by decide) (by omega) false (ok := fun _ => True) (okp := fun _ => True) rfl (fun _ hk => hk) trivial (of_decide_eq_true (by first | (with_reducible assumption) | assumption)) (Nat.le_trans (Nat.mul_le_mul_right _ (of_decide_eq_true (by first | (with_reducible assumption) | assumption) : (l1_1.length : Int).toNat ≤ 281474976710656)) (by omega)) (Below.refl _ _) (Nat.le_refl _) ?_; intro v136 w56 ho57 hb hg_ hnew_; clear hg_ hnew_; (first | rw [← Ny135.out] at ho57 | (simp only [Int.reduceToNat] at ho57; rw [← Ny135.out] at ho57)); have n0_ := Aside0.mk (Kd.R_below (by (with_reducible repeat (first | apply Kd.R_alloc | apply Kd.R_drewN | apply Kd.R_drew)); exact (Kd.R_mono (Kd.R_far (p := ⟨gb134, 2, none⟩) (Kd.R_far (p := ⟨gb134, 1, none⟩) (Kd.R_far (p := ⟨gb134, 0, none⟩) (Kd.R_types HO130.out BK134.out (by decide)) (fun _ hk => hk.2) (.bool a1_0)) (fun _ hk => hk.2) (.slice Ao52 y128.length co52)) (fun _ hk => hk.2) (.slice Ao51 y131.length co51)) (fun _ h_ => h_.1))) hb); have n1_ := Aside0.mk (Kd.R_below (by (with_reducible repeat (first | apply Kd.R_alloc | apply Kd.R_drewN | apply Kd.R_drew)); exact (Kd.R_mono (Kd.R_far (p := ⟨gb134, 2, none⟩) (Kd.R_far (p := ⟨gb134, 1, none⟩) (Kd.R_far (p := ⟨gb134, 0, none⟩) (Kd.R_types HO133.out BK134.out (by decide)) (fun _ hk => hk.2) (.bool a1_0)) (fun _ hk => hk.2) (.slice Ao52 y128.length co52)) (fun _ hk => hk.2) (.slice Ao51 y131.length co51)) (fun _ h_ => h_.1))) hb); have n2_ := Aside0.mk (Kd.R_lower ho57 (below_size (by repeat (first | (with_reducible first | exact HB.out | apply below_alloc | apply pw_below_drewN | apply below_drew1 | refine below_set ?_ GE101.out | refine below_set ?_ GE102.out | refine below_set ?_ GE103.out | refine below_set ?_ GE134.out) | exact HB.out)))); have n3_ := Aside0.mk (blk_below (g := gb101) (o := .cells #[.bool a0_0, .slice A0_1 l0_1.length c0_1, .slice A0_2 l0_2.length c0_2] 28 (0, 0)) (by (with_reducible repeat (first | refine blk_drewN ?_ _ | refine blk_drew ?_ | refine blk_alloc ?_ _)); refine blk_far ?_ NB101_134.out _; (with_reducible repeat (first | refine blk_drewN ?_ _ | refine blk_drew ?_ | refine blk_alloc ?_ _)); refine blk_far ?_ NB101_134.out _; (with_reducible repeat (first | refine blk_drewN ?_ _ | refine blk_drew ?_ | refine blk_alloc ?_ _)); refine blk_far ?_ NB101_134.out _; (with_reducible repeat (first | refine blk_drewN ?_ _ | refine blk_drew ?_ | refine blk_alloc ?_ _)); exact BK101.out) hb); have n4_ := Aside0.mk (blk_below (g := gb102) (o := .cells #[.bool a1_0, .slice A1_1 l1_1.length c1_1, .slice A1_2 l1_2.length c1_2] 28 (0, 0)) (by (with_reducible repeat (first | refine blk_drewN ?_ _ | refine blk_drew ?_ | refine blk_alloc ?_ _)); refine blk_far ?_ NB102_134.out _; (with_reducible repeat (first | refine blk_drewN ?_ _ | refine blk_drew ?_ | refine blk_alloc ?_ _)); refine blk_far ?_ NB102_134.out _; (with_reducible repeat (first | refine blk_drewN ?_ _ | refine blk_drew ?_ | refine blk_alloc ?_ _)); refine blk_far ?_ NB102_134.out _; (with_reducible repeat (first | refine blk_drewN ?_ _ | refine blk_drew ?_ | refine blk_alloc ?_ _)); exact BK102.out) hb); have n5_ := Aside0.mk (blk_below (g := gb103) (o := .cells #[.bool false, .slice none 0 0, .slice none 0 0] 28 (0, 0)) (by (with_reducible repeat (first | refine blk_drewN ?_ _ | refine blk_drew ?_ | refine blk_alloc ?_ _)); refine blk_far ?_ NB103_134.out _; (with_reducible repeat (first | refine blk_drewN ?_ _ | refine blk_drew ?_ | refine blk_alloc ?_ _)); refine blk_far ?_ NB103_134.out _; (with_reducible repeat (first | refine blk_drewN ?_ _ | refine blk_drew ?_ | refine blk_alloc ?_ _)); refine blk_far ?_ NB103_134.out _; (with_reducible repeat (first | refine blk_drewN ?_ _ | refine blk_drew ?_ | refine blk_alloc ?_ _)); exact BK103.out) hb); have n6_ := Aside0.mk (blk_below (g := gb134) (o := .cells #[.bool a1_0, .slice Ao52 y128.length co52, .slice Ao51 y131.length co51] 28 (0, 0)) (by (with_reducible repeat (first | refine blk_drewN ?_ _ | refine blk_drew ?_ | refine blk_alloc ?_ _)); refine blk_put (cs := #[.bool a1_0, .slice Ao52 y128.length co52, .slice none 0 0]) ?_ 2 _ rfl; (with_reducible repeat (first | refine blk_drewN ?_ _ | refine blk_drew ?_ | refine blk_alloc ?_ _)); refine blk_put (cs := #[.bool a1_0, .slice none 0 0, .slice none 0 0]) ?_ 1 _ rfl; (with_reducible repeat (first | refine blk_drewN ?_ _ | refine blk_drew ?_ | refine blk_alloc ?_ _)); refine blk_put (cs := #[.bool false, .slice none 0 0, .slice none 0 0]) ?_ 0 _ rfl; (with_reducible repeat (first | refine blk_drewN ?_ _ | refine blk_drew ?_ | refine blk_alloc ?_ _)); exact BK134.out) hb); have n7_ := Aside0.mk (below_step (by repeat (first | (with_reducible first | exact HB.out | apply below_alloc | apply pw_below_drewN | apply below_drew1 | refine below_set ?_ GE101.out | refine below_set ?_ GE102.out | refine below_set ?_ GE103.out | refine below_set ?_ GE134.out) | exact HB.out)) hb); clear HO130; clear HO133; clear BK101; clear BK102; clear BK103; clear BK134; clear HB; have HO130 := n0_; have HO133 := n1_; have HO137 := n2_; have BK101 := n3_; have BK102 := n4_; have BK103 := n5_; have BK134 := n6_; have HB := n7_; clear n0_ n1_ n2_ n3_ n4_ n5_ n6_ n7_; clear hb ho57))
                  go_loopg [10] kj2 (fun kq v10 w' => ∃ (x9_2 : List Bool) (x10_2 : Int) (x104000_2 : Bool) (x135001_2 : List Int) (x135002_2 : List Int) (u135001 : Value) (u135002 : Value), v10 = .int .i64 x10_2 ∧ Aside0 (spec_Transpose.l0 kq (l1_1.length : Int) x9_2 x10_2 a0_0 l0_1 l0_2 a1_0 l1_1 l1_2 a1_0 x135001_2 x135002_2 = some (r1, r2, r3, r4)) ∧ Aside0 (kq ≤ kj2) ∧ Aside0 (Kd.R Kd.bool 4 w' w.heap.size (fun _ => True) v136 x9_2) ∧ Aside0 (Kd.R (Kd.int .i64) 3 w' w.heap.size (fun k_ => some k_ ≠ (u135002 : Value).ownBlock) u135001 x135001_2) ∧ Aside0 (Kd.R (Kd.int .i64) 3 w' w.heap.size (fun k_ => some k_ ≠ (u135001 : Value).ownBlock) u135002 x135002_2) ∧ Aside0 (w'.heap[gb101]? = some (.cells #[.bool a0_0, (.slice A0_1 l0_1.length c0_1), (.slice A0_2 l0_2.length c0_2)] 28 (0, 0))) ∧ Aside0 (w'.heap[gb102]? = some (.cells #[.bool a1_0, (.slice A1_1 l1_1.length c1_1), (.slice A1_2 l1_2.length c1_2)] 28 (0, 0))) ∧ Aside0 (w'.heap[gb103]? = some (.cells #[.bool x104000_2, (.slice none 0 0), (.slice none 0 0)] 28 (0, 0))) ∧ Aside0 (w'.heap[gb134]? = some (.cells #[.bool a1_0, u135001, u135002] 28 (0, 0))) ∧ Aside0 (Below w.heap.size w w'))
                  case atStart => exact ⟨(y135), (0), (false), (y128), (y131), (.slice Ao52 y128.length co52), (.slice Ao51 y131.length co51), (by first | rfl | (simp; done) | (simp [*]; done)), H', ⟨Nat.le_refl _⟩, ⟨by (with_reducible repeat (first | apply Kd.R_alloc | apply Kd.R_drewN | apply Kd.R_drew)); exact HO137.out⟩, ⟨by (with_reducible repeat (first | apply Kd.R_alloc | apply Kd.R_drewN | apply Kd.R_drew)); exact HO130.out⟩, ⟨by (with_reducible repeat (first | apply Kd.R_alloc | apply Kd.R_drewN | apply Kd.R_drew)); exact HO133.out⟩, ⟨by (with_reducible repeat (first | refine blk_drewN ?_ _ | refine blk_drew ?_ | refine blk_alloc ?_ _)); exact BK101.out⟩, ⟨by (with_reducible repeat (first | refine blk_drewN ?_ _ | refine blk_drew ?_ | refine blk_alloc ?_ _)); exact BK102.out⟩, ⟨by (with_reducible repeat (first | refine blk_drewN ?_ _ | refine blk_drew ?_ | refine blk_alloc ?_ _)); exact BK103.out⟩, ⟨by (with_reducible repeat (first | refine blk_drewN ?_ _ | refine blk_drew ?_ | refine blk_alloc ?_ _)); exact BK134.out⟩, ⟨by repeat (first | (with_reducible first | exact HB.out | apply below_alloc | apply pw_below_drewN | apply below_drew1 | refine below_set ?_ GE101.out | refine below_set ?_ GE102.out | refine below_set ?_ GE103.out | refine below_set ?_ GE134.out) | exact HB.out)⟩⟩
                  case round =>
                    clear H'
                    try clear c1
                    try clear p2
                    obtain ⟨x9_2, x10_2, x104000_2, x135001_2, x135002_2, u135001, u135002, rfl, HA, HK2, HO_9, HO_135001, HO_135002, BK101, BK102, BK103, BK134, HB⟩ := hrel
                    cases gk with
                    | zero => exact absurd HA.out (by simp [spec_Transpose.l0])
                    | succ k2 =>
                      have H := HA.out
                      clear HA
                      simp only [spec_Transpose.l0] at H
                      by_cases c58 : x10_2 < (l1_1.length : Int)
                      · rw [if_pos c58] at H
                        have c58b0 : decide (x10_2 < (l1_1.length : Int)) = true := decide_eq_true c58
                        clear c58
                        by_cases c59 : 0 ≤ x10_2
                        · rw [if_pos c59] at H
                          have c59b0 : decide (0 ≤ x10_2) = true := decide_eq_true c59
                          clear c59
                          by_cases c60 : x10_2 < (l0_2.length : Int)
                          · rw [if_pos c60] at H
                            have c60b0 : decide (x10_2 < (l0_2.length : Int)) = true := decide_eq_true c60
                            clear c60
                            by_cases c61 : (wrap64 ((rd l0_2 x10_2) - 1)) < 0
                            · rw [if_pos c61] at H
                              have c61b0 : decide ((wrap64 ((rd l0_2 x10_2) - 1)) < 0) = true := decide_eq_true c61
                              clear c61
                              replace H := Option.bind_eq_some_iff.mp H
                              obtain ⟨⟨t139, t140, t143⟩, A620, H⟩ := H
                              replace H : (some (t139, t140, t143, 3)) = some (r1, r2, r3, r4) := H
                              have A62 := Aside0.mk A620
                              clear A620
                              simp only [Option.some.injEq, Prod.mk.injEq] at H
                              obtain ⟨rfl, rfl, rfl, rfl⟩ := H
                              have hnb63 := NB101_102.out
                              have hnc63 := NB102_101.out
                              have hnb64 := NB101_103.out
                              have hnc64 := NB103_101.out
                              have hnb65 := NB101_134.out
                              have hnc65 := NB134_101.out
                              have hcz66_0 : wr.cell? ⟨gb101, 0, none⟩ = some (.bool a0_0) := (blk_cell BK101.out 0).trans rfl
                              have hcz66_1 : wr.cell? ⟨gb101, 1, none⟩ = some (.slice A0_1 l0_1.length c0_1) := (blk_cell BK101.out 1).trans rfl
                              have hcz66_2 : wr.cell? ⟨gb101, 2, none⟩ = some (.slice A0_2 l0_2.length c0_2) := (blk_cell BK101.out 2).trans rfl
                              have hfz66_0 := blk_frozen BK101.out 0
                              have hfz66_1 := blk_frozen BK101.out 1
                              have hfz66_2 := blk_frozen BK101.out 2
                              have p138 : 0 ≤ (x10_2 : Int) := of_decide_eq_true (by first | (with_reducible assumption) | assumption)
                              have q138 : x10_2 < (l0_2.length : Int) := of_decide_eq_true (by first | (with_reducible assumption) | assumption)
                              obtain ⟨ad138, e138, hx138_0⟩ := Kd.at_int HR0_2.out x10_2 p138 q138
                              cases e138
                              replace hx138_0 := (HB.out.cell (World.block_lt_of_cell? w _ hx138_0)).trans hx138_0
                              replace p138 := eq_true p138
                              replace q138 := eq_true q138
                              go_wp2_with (first | ((with_reducible refine gate_callee (f := 53) rfl ?_); refine goesL_ (some 72) rfl rfl Try.func53 (by kernel_rfl) rfl #[] rfl (by (try simp only [List.map_toArray, List.map_cons, List.map_nil]); first | done | rfl | (simp only [List.length_drop, List.length_take]; rfl)) ?_; (with_reducible refine (spec_l4None.calls  t139 t140 t143 _ A62.out).mono ?_); rintro e w67 ⟨v141, v144, rfl, ho0, ho1, hb⟩; refine ⟨_, rfl, ?_⟩; have n0_ := Aside0.mk (Kd.R_below (Rz HO_9.out) hb); have n1_ := Aside0.mk (Kd.R_mono (Kd.R_told (Kd.R_told (Kd.R_old (Rz HO_135001.out) hb) (Kd.R_base ho0)) (Kd.R_base ho1)) (fun _ h_ => h_.1)); have n2_ := Aside0.mk (Kd.R_mono (Kd.R_told (Kd.R_told (Kd.R_old (Rz HO_135002.out) hb) (Kd.R_base ho0)) (Kd.R_base ho1)) (fun _ h_ => h_.1)); have n3_ := Aside0.mk (Kd.R_lower (Kd.R_new' (Kd.R_new' ho0 (Kd.R_lt (Rz HO_135001.out))) (Kd.R_lt (Rz HO_135002.out))) (below_size (by repeat (first | (with_reducible first | exact HB.out | apply below_alloc | apply pw_below_drewN | apply below_drew1 | refine below_set ?_ GE101.out | refine below_set ?_ GE102.out | refine below_set ?_ GE103.out | refine below_set ?_ GE134.out) | exact HB.out)))); have n4_ := Aside0.mk (Kd.R_lower (Kd.R_new' (Kd.R_new' ho1 (Kd.R_lt (Rz HO_135001.out))) (Kd.R_lt (Rz HO_135002.out))) (below_size (by repeat (first | (with_reducible first | exact HB.out | apply below_alloc | apply pw_below_drewN | apply below_drew1 | refine below_set ?_ GE101.out | refine below_set ?_ GE102.out | refine below_set ?_ GE103.out | refine below_set ?_ GE134.out) | exact HB.out)))); have n5_ := Aside0.mk (blk_below (g := gb101) (o := .cells #[.bool a0_0, .slice A0_1 l0_1.length c0_1, .slice (some ad138) l0_2.length c0_2] 28 (0, 0)) (Bz BK101.out) hb); have n6_ := Aside0.mk (blk_below (g := gb102) (o := .cells #[.bool a1_0, .slice A1_1 l1_1.length c1_1, .slice A1_2 l1_2.length c1_2] 28 (0, 0)) (Bz BK102.out) hb); have n7_ := Aside0.mk (blk_below (g := gb103) (o := .cells #[.bool x104000_2, .slice none 0 0, .slice none 0 0] 28 (0, 0)) (Bz BK103.out) hb); have n8_ := Aside0.mk (blk_below (g := gb134) (o := .cells #[.bool a1_0, u135001, u135002] 28 (0, 0)) (Bz BK134.out) hb); have n9_ := Aside0.mk (below_step (by repeat (first | (with_reducible first | exact HB.out | apply below_alloc | apply pw_below_drewN | apply below_drew1 | refine below_set ?_ GE101.out | refine below_set ?_ GE102.out | refine below_set ?_ GE103.out | refine below_set ?_ GE134.out) | exact HB.out)) hb); clear HO_9; clear HO_135001; clear HO_135002; clear BK101; clear BK102; clear BK103; clear BK134; clear HB; have HO_9 := n0_; have HO_135001 := n1_; have HO_135002 := n2_; have HO142 := n3_; have HO145 := n4_; have BK101 := n5_; have BK102 := n6_; have BK103 := n7_; have BK134 := n8_; have HB := n9_; clear n0_ n1_ n2_ n3_ n4_ n5_ n6_ n7_ n8_ n9_; (try clear hb); (try clear ho0); (try clear ho1); have hnb68 := NB103_102.out; have hnc68 := NB102_103.out; have hnb69 := NB103_134.out; have hnc69 := NB134_103.out; have hcz70_0 : w67.cell? ⟨gb103, 0, none⟩ = some (.bool x104000_2) := (blk_cell BK103.out 0).trans rfl; have hcz70_1 : w67.cell? ⟨gb103, 1, none⟩ = some (.slice none 0 0) := (blk_cell BK103.out 1).trans rfl; have hcz70_2 : w67.cell? ⟨gb103, 2, none⟩ = some (.slice none 0 0) := (blk_cell BK103.out 2).trans rfl; have hfz70_0 := blk_frozen BK103.out 0; have hfz70_1 := blk_frozen BK103.out 1; have hfz70_2 := blk_frozen BK103.out 2; obtain ⟨Ao71, co71, eo71⟩ := Kd.R_slice HO142.out; subst eo71; obtain ⟨Ao72, co72, eo72⟩ := Kd.R_slice HO145.out; subst eo72))
                              refine bodyPost_ret (results_ct rfl _ _ gb103 28 #[.bool t139, .slice Ao71 t140.length co71, .slice Ao72 t143.length co72] (0, 0) _ rfl (by (with_reducible repeat (first | refine blk_drewN ?_ _ | refine blk_drew ?_ | refine blk_alloc ?_ _)); refine blk_put (cs := #[.bool t139, .slice Ao71 t140.length co71, .slice none 0 0]) ?_ 2 _ rfl; (with_reducible repeat (first | refine blk_drewN ?_ _ | refine blk_drew ?_ | refine blk_alloc ?_ _)); refine blk_put (cs := #[.bool t139, .slice none 0 0, .slice none 0 0]) ?_ 1 _ rfl; (with_reducible repeat (first | refine blk_drewN ?_ _ | refine blk_drew ?_ | refine blk_alloc ?_ _)); refine blk_put (cs := #[.bool x104000_2, .slice none 0 0, .slice none 0 0]) ?_ 0 _ rfl; (with_reducible repeat (first | refine blk_drewN ?_ _ | refine blk_drew ?_ | refine blk_alloc ?_ _)); exact BK103.out) Try.underlying28 rfl (by kernel_rfl)) rfl ?_
                              exact ⟨_, _, by first | rfl | (simp [errW_none, errW_some] <;> rfl) | (simp [*, errW_none, errW_some] <;> rfl), by (with_reducible repeat (first | apply Kd.R_alloc | apply Kd.R_drewN | apply Kd.R_drew)); exact Kd.R_mono (Kd.R_far (p := ⟨gb103, 2, none⟩) (Kd.R_far (p := ⟨gb103, 1, none⟩) (Kd.R_far (p := ⟨gb103, 0, none⟩) (Kd.R_types HO142.out BK103.out (by decide)) (fun _ hk => hk.2) (.bool t139)) (fun _ hk => hk.2) (.slice Ao71 t140.length co71)) (fun _ hk => hk.2) (.slice Ao72 t143.length co72)) (fun _ hk => hk.1.1.1), by (with_reducible repeat (first | apply Kd.R_alloc | apply Kd.R_drewN | apply Kd.R_drew)); exact Kd.R_mono (Kd.R_far (p := ⟨gb103, 2, none⟩) (Kd.R_far (p := ⟨gb103, 1, none⟩) (Kd.R_far (p := ⟨gb103, 0, none⟩) (Kd.R_types HO145.out BK103.out (by decide)) (fun _ hk => hk.2) (.bool t139)) (fun _ hk => hk.2) (.slice Ao71 t140.length co71)) (fun _ hk => hk.2) (.slice Ao72 t143.length co72)) (fun _ hk => hk.1.1.1), by repeat (first | (with_reducible first | exact HB.out | apply below_alloc | apply pw_below_drewN | apply below_drew1 | refine below_set ?_ GE101.out | refine below_set ?_ GE102.out | refine below_set ?_ GE103.out | refine below_set ?_ GE134.out) | exact HB.out)⟩
                            · rw [if_neg c61] at H
                              have c61b0 : decide ((wrap64 ((rd l0_2 x10_2) - 1)) < 0) = false := decide_eq_false c61
                              clear c61
                              by_cases c73 : (wrap64 ((rd l0_2 x10_2) - 1)) ≥ (l1_1.length : Int)
                              · rw [if_pos c73] at H
                                have c73b0 : decide ((l1_1.length : Int) ≤ (wrap64 ((rd l0_2 x10_2) - 1))) = true := decide_eq_true c73
                                clear c73
                                replace H := Option.bind_eq_some_iff.mp H
                                obtain ⟨⟨t146, t147, t150⟩, A740, H⟩ := H
                                replace H : (some (t146, t147, t150, 3)) = some (r1, r2, r3, r4) := H
                                have A74 := Aside0.mk A740
                                clear A740
                                simp only [Option.some.injEq, Prod.mk.injEq] at H
                                obtain ⟨rfl, rfl, rfl, rfl⟩ := H
                                have hnb75 := NB101_102.out
                                have hnc75 := NB102_101.out
                                have hnb76 := NB101_103.out
                                have hnc76 := NB103_101.out
                                have hnb77 := NB101_134.out
                                have hnc77 := NB134_101.out
                                have hcz78_0 : wr.cell? ⟨gb101, 0, none⟩ = some (.bool a0_0) := (blk_cell BK101.out 0).trans rfl
                                have hcz78_1 : wr.cell? ⟨gb101, 1, none⟩ = some (.slice A0_1 l0_1.length c0_1) := (blk_cell BK101.out 1).trans rfl
                                have hcz78_2 : wr.cell? ⟨gb101, 2, none⟩ = some (.slice A0_2 l0_2.length c0_2) := (blk_cell BK101.out 2).trans rfl
                                have hfz78_0 := blk_frozen BK101.out 0
                                have hfz78_1 := blk_frozen BK101.out 1
                                have hfz78_2 := blk_frozen BK101.out 2
                                have p138 : 0 ≤ (x10_2 : Int) := of_decide_eq_true (by first | (with_reducible assumption) | assumption)
                                have q138 : x10_2 < (l0_2.length : Int) := of_decide_eq_true (by first | (with_reducible assumption) | assumption)
                                obtain ⟨ad138, e138, hx138_0⟩ := Kd.at_int HR0_2.out x10_2 p138 q138
                                cases e138
                                replace hx138_0 := (HB.out.cell (World.block_lt_of_cell? w _ hx138_0)).trans hx138_0
                                replace p138 := eq_true p138
                                replace q138 := eq_true q138
                                go_wp2_with (first | ((with_reducible refine gate_callee (f := 53) rfl ?_); refine goesL_ (some 72) rfl rfl Try.func53 (by kernel_rfl) rfl #[] rfl (by (try simp only [List.map_toArray, List.map_cons, List.map_nil]); first | done | rfl | (simp only [List.length_drop, List.length_take]; rfl)) ?_; (with_reducible refine (spec_l4None.calls  t146 t147 t150 _ A74.out).mono ?_); rintro e w79 ⟨v148, v151, rfl, ho0, ho1, hb⟩; refine ⟨_, rfl, ?_⟩; have n0_ := Aside0.mk (Kd.R_below (Rz HO_9.out) hb); have n1_ := Aside0.mk (Kd.R_mono (Kd.R_told (Kd.R_told (Kd.R_old (Rz HO_135001.out) hb) (Kd.R_base ho0)) (Kd.R_base ho1)) (fun _ h_ => h_.1)); have n2_ := Aside0.mk (Kd.R_mono (Kd.R_told (Kd.R_told (Kd.R_old (Rz HO_135002.out) hb) (Kd.R_base ho0)) (Kd.R_base ho1)) (fun _ h_ => h_.1)); have n3_ := Aside0.mk (Kd.R_lower (Kd.R_new' (Kd.R_new' ho0 (Kd.R_lt (Rz HO_135001.out))) (Kd.R_lt (Rz HO_135002.out))) (below_size (by repeat (first | (with_reducible first | exact HB.out | apply below_alloc | apply pw_below_drewN | apply below_drew1 | refine below_set ?_ GE101.out | refine below_set ?_ GE102.out | refine below_set ?_ GE103.out | refine below_set ?_ GE134.out) | exact HB.out)))); have n4_ := Aside0.mk (Kd.R_lower (Kd.R_new' (Kd.R_new' ho1 (Kd.R_lt (Rz HO_135001.out))) (Kd.R_lt (Rz HO_135002.out))) (below_size (by repeat (first | (with_reducible first | exact HB.out | apply below_alloc | apply pw_below_drewN | apply below_drew1 | refine below_set ?_ GE101.out | refine below_set ?_ GE102.out | refine below_set ?_ GE103.out | refine below_set ?_ GE134.out) | exact HB.out)))); have n5_ := Aside0.mk (blk_below (g := gb101) (o := .cells #[.bool a0_0, .slice A0_1 l0_1.length c0_1, .slice (some ad138) l0_2.length c0_2] 28 (0, 0)) (Bz BK101.out) hb); have n6_ := Aside0.mk (blk_below (g := gb102) (o := .cells #[.bool a1_0, .slice A1_1 l1_1.length c1_1, .slice A1_2 l1_2.length c1_2] 28 (0, 0)) (Bz BK102.out) hb); have n7_ := Aside0.mk (blk_below (g := gb103) (o := .cells #[.bool x104000_2, .slice none 0 0, .slice none 0 0] 28 (0, 0)) (Bz BK103.out) hb); have n8_ := Aside0.mk (blk_below (g := gb134) (o := .cells #[.bool a1_0, u135001, u135002] 28 (0, 0)) (Bz BK134.out) hb); have n9_ := Aside0.mk (below_step (by repeat (first | (with_reducible first | exact HB.out | apply below_alloc | apply pw_below_drewN | apply below_drew1 | refine below_set ?_ GE101.out | refine below_set ?_ GE102.out | refine below_set ?_ GE103.out | refine below_set ?_ GE134.out) | exact HB.out)) hb); clear HO_9; clear HO_135001; clear HO_135002; clear BK101; clear BK102; clear BK103; clear BK134; clear HB; have HO_9 := n0_; have HO_135001 := n1_; have HO_135002 := n2_; have HO149 := n3_; have HO152 := n4_; have BK101 := n5_; have BK102 := n6_; have BK103 := n7_; have BK134 := n8_; have HB := n9_; clear n0_ n1_ n2_ n3_ n4_ n5_ n6_ n7_ n8_ n9_; (try clear hb); (try clear ho0); (try clear ho1); have hnb80 := NB103_102.out; have hnc80 := NB102_103.out; have hnb81 := NB103_134.out; have hnc81 := NB134_103.out; have hcz82_0 : w79.cell? ⟨gb103, 0, none⟩ = some (.bool x104000_2) := (blk_cell BK103.out 0).trans rfl; have hcz82_1 : w79.cell? ⟨gb103, 1, none⟩ = some (.slice none 0 0) := (blk_cell BK103.out 1).trans rfl; have hcz82_2 : w79.cell? ⟨gb103, 2, none⟩ = some (.slice none 0 0) := (blk_cell BK103.out 2).trans rfl; have hfz82_0 := blk_frozen BK103.out 0; have hfz82_1 := blk_frozen BK103.out 1; have hfz82_2 := blk_frozen BK103.out 2; obtain ⟨Ao83, co83, eo83⟩ := Kd.R_slice HO149.out; subst eo83; obtain ⟨Ao84, co84, eo84⟩ := Kd.R_slice HO152.out; subst eo84))
                                refine bodyPost_ret (results_ct rfl _ _ gb103 28 #[.bool t146, .slice Ao83 t147.length co83, .slice Ao84 t150.length co84] (0, 0) _ rfl (by (with_reducible repeat (first | refine blk_drewN ?_ _ | refine blk_drew ?_ | refine blk_alloc ?_ _)); refine blk_put (cs := #[.bool t146, .slice Ao83 t147.length co83, .slice none 0 0]) ?_ 2 _ rfl; (with_reducible repeat (first | refine blk_drewN ?_ _ | refine blk_drew ?_ | refine blk_alloc ?_ _)); refine blk_put (cs := #[.bool t146, .slice none 0 0, .slice none 0 0]) ?_ 1 _ rfl; (with_reducible repeat (first | refine blk_drewN ?_ _ | refine blk_drew ?_ | refine blk_alloc ?_ _)); refine blk_put (cs := #[.bool x104000_2, .slice none 0 0, .slice none 0 0]) ?_ 0 _ rfl; (with_reducible repeat (first | refine blk_drewN ?_ _ | refine blk_drew ?_ | refine blk_alloc ?_ _)); exact BK103.out) Try.underlying28 rfl (by kernel_rfl)) rfl ?_
                                exact ⟨_, _, by first | rfl | (simp [errW_none, errW_some] <;> rfl) | (simp [*, errW_none, errW_some] <;> rfl), by (with_reducible repeat (first | apply Kd.R_alloc | apply Kd.R_drewN | apply Kd.R_drew)); exact Kd.R_mono (Kd.R_far (p := ⟨gb103, 2, none⟩) (Kd.R_far (p := ⟨gb103, 1, none⟩) (Kd.R_far (p := ⟨gb103, 0, none⟩) (Kd.R_types HO149.out BK103.out (by decide)) (fun _ hk => hk.2) (.bool t146)) (fun _ hk => hk.2) (.slice Ao83 t147.length co83)) (fun _ hk => hk.2) (.slice Ao84 t150.length co84)) (fun _ hk => hk.1.1.1), by (with_reducible repeat (first | apply Kd.R_alloc | apply Kd.R_drewN | apply Kd.R_drew)); exact Kd.R_mono (Kd.R_far (p := ⟨gb103, 2, none⟩) (Kd.R_far (p := ⟨gb103, 1, none⟩) (Kd.R_far (p := ⟨gb103, 0, none⟩) (Kd.R_types HO152.out BK103.out (by decide)) (fun _ hk => hk.2) (.bool t146)) (fun _ hk => hk.2) (.slice Ao83 t147.length co83)) (fun _ hk => hk.2) (.slice Ao84 t150.length co84)) (fun _ hk => hk.1.1.1), by repeat (first | (with_reducible first | exact HB.out | apply below_alloc | apply pw_below_drewN | apply below_drew1 | refine below_set ?_ GE101.out | refine below_set ?_ GE102.out | refine below_set ?_ GE103.out | refine below_set ?_ GE134.out) | exact HB.out)⟩
                              · rw [if_neg c73] at H
                                have c73b0 : decide ((l1_1.length : Int) ≤ (wrap64 ((rd l0_2 x10_2) - 1))) = false := decide_eq_false c73
                                clear c73
                                obtain ⟨ji85, hji85⟩ : ∃ j_ : Int, (wrap64 ((rd l0_2 x10_2) - 1)) = j_ := ⟨_, rfl⟩
                                replace H : (if 0 ≤ (ji85) then (if (ji85) < (x9_2.length : Int) then (if rdOf false x9_2 (ji85) = true then ((spec_l4None.f).bind fun bt154 => (some (bt154.1, bt154.2.1, bt154.2.2, 3))) else (if x10_2 < (l1_1.length : Int) then (if (ji85) < (x135001_2.length : Int) then (spec_Transpose.l0 k2 (l1_1.length : Int) (x9_2.set ((ji85) : Int).toNat true) (wrap64 (x10_2 + 1)) a0_0 l0_1 l0_2 a1_0 l1_1 l1_2 a1_0 (x135001_2.set ((ji85) : Int).toNat (rd l1_1 x10_2)) x135002_2) else (none)) else (none))) else (none)) else (none)) = some (r1, r2, r3, r4) := by first | (rw [hji85] at H; exact H) | (simp only [hji85] at H ⊢; exact H)
                                (try rw [hji85] at c61b0)
                                (try rw [hji85] at c73b0)
                                have hji85w : (IntKind.i64.wrap ((rd l0_2 x10_2) - 1)) = ji85 := (i64_w _).trans hji85
                                by_cases c86 : 0 ≤ (ji85)
                                · rw [if_pos c86] at H
                                  have c86b0 : decide (0 ≤ (ji85)) = true := decide_eq_true c86
                                  clear c86
                                  by_cases c87 : (ji85) < (x9_2.length : Int)
                                  · rw [if_pos c87] at H
                                    have c87b0 : decide ((ji85) < (x9_2.length : Int)) = true := decide_eq_true c87
                                    clear c87
                                    obtain ⟨bq88, hbq88⟩ : ∃ b_ : Bool, b_ = (rdOf false x9_2 (ji85)) := ⟨_, rfl⟩
                                    replace H : (if bq88 = true then ((spec_l4None.f).bind fun bt154 => (some (bt154.1, bt154.2.1, bt154.2.2, 3))) else (if x10_2 < (l1_1.length : Int) then (if (ji85) < (x135001_2.length : Int) then (spec_Transpose.l0 k2 (l1_1.length : Int) (x9_2.set ((ji85) : Int).toNat true) (wrap64 (x10_2 + 1)) a0_0 l0_1 l0_2 a1_0 l1_1 l1_2 a1_0 (x135001_2.set ((ji85) : Int).toNat (rd l1_1 x10_2)) x135002_2) else (none)) else (none))) = some (r1, r2, r3, r4) := by rw [← hbq88] at H; exact H
                                    have Nbq88 := Aside0.mk hbq88
                                    clear hbq88
                                    by_cases c89 : bq88 = true
                                    · subst c89
                                      have H1 : ((spec_l4None.f).bind fun bt154 => (some (bt154.1, bt154.2.1, bt154.2.2, 3))) = some (r1, r2, r3, r4) := by rw [if_pos rfl] at H; exact H
                                      clear H
                                      have H := H1
                                      clear H1
                                      replace H := Option.bind_eq_some_iff.mp H
                                      obtain ⟨⟨t154, t155, t158⟩, A900, H⟩ := H
                                      replace H : (some (t154, t155, t158, 3)) = some (r1, r2, r3, r4) := H
                                      have A90 := Aside0.mk A900
                                      clear A900
                                      simp only [Option.some.injEq, Prod.mk.injEq] at H
                                      obtain ⟨rfl, rfl, rfl, rfl⟩ := H
                                      have hnb91 := NB101_102.out
                                      have hnc91 := NB102_101.out
                                      have hnb92 := NB101_103.out
                                      have hnc92 := NB103_101.out
                                      have hnb93 := NB101_134.out
                                      have hnc93 := NB134_101.out
                                      have hcz94_0 : wr.cell? ⟨gb101, 0, none⟩ = some (.bool a0_0) := (blk_cell BK101.out 0).trans rfl
                                      have hcz94_1 : wr.cell? ⟨gb101, 1, none⟩ = some (.slice A0_1 l0_1.length c0_1) := (blk_cell BK101.out 1).trans rfl
                                      have hcz94_2 : wr.cell? ⟨gb101, 2, none⟩ = some (.slice A0_2 l0_2.length c0_2) := (blk_cell BK101.out 2).trans rfl
                                      have hfz94_0 := blk_frozen BK101.out 0
                                      have hfz94_1 := blk_frozen BK101.out 1
                                      have hfz94_2 := blk_frozen BK101.out 2
                                      have p138 : 0 ≤ (x10_2 : Int) := of_decide_eq_true (by first | (with_reducible assumption) | assumption)
                                      have q138 : x10_2 < (l0_2.length : Int) := of_decide_eq_true (by first | (with_reducible assumption) | assumption)
                                      obtain ⟨ad138, e138, hx138_0⟩ := Kd.at_int HR0_2.out x10_2 p138 q138
                                      cases e138
                                      replace hx138_0 := (HB.out.cell (World.block_lt_of_cell? w _ hx138_0)).trans hx138_0
                                      replace p138 := eq_true p138
                                      replace q138 := eq_true q138
                                      obtain ⟨Ao95, co95, eo95⟩ := Kd.R_slice HO_9.out
                                      subst eo95
                                      have p153 : 0 ≤ ((ji85) : Int) := of_decide_eq_true (by first | (with_reducible assumption) | assumption)
                                      have q153 : (ji85) < (x9_2.length : Int) := of_decide_eq_true (by first | (with_reducible assumption) | assumption)
                                      obtain ⟨ad153, e153, hx153_0⟩ := Kd.at_bool (Kd.R_reads' HO_9.out).2.2 (ji85) p153 q153
                                      (try rw [← Nbq88.out] at hx153_0)
                                      cases e153
                                      replace p153 := eq_true p153
                                      replace q153 := eq_true q153
                                      go_wp2_with (first | ((with_reducible refine gate_callee (f := 53) rfl ?_); refine goesL_ (some 72) rfl rfl Try.func53 (by kernel_rfl) rfl #[] rfl (by (try simp only [List.map_toArray, List.map_cons, List.map_nil]); first | done | rfl | (simp only [List.length_drop, List.length_take]; rfl)) ?_; (with_reducible refine (spec_l4None.calls  t154 t155 t158 _ A90.out).mono ?_); rintro e w96 ⟨v156, v159, rfl, ho0, ho1, hb⟩; refine ⟨_, rfl, ?_⟩; have n0_ := Aside0.mk (Kd.R_below (Rz HO_9.out) hb); have n1_ := Aside0.mk (Kd.R_mono (Kd.R_told (Kd.R_told (Kd.R_old (Rz HO_135001.out) hb) (Kd.R_base ho0)) (Kd.R_base ho1)) (fun _ h_ => h_.1)); have n2_ := Aside0.mk (Kd.R_mono (Kd.R_told (Kd.R_told (Kd.R_old (Rz HO_135002.out) hb) (Kd.R_base ho0)) (Kd.R_base ho1)) (fun _ h_ => h_.1)); have n3_ := Aside0.mk (Kd.R_lower (Kd.R_new' (Kd.R_new' ho0 (Kd.R_lt (Rz HO_135001.out))) (Kd.R_lt (Rz HO_135002.out))) (below_size (by repeat (first | (with_reducible first | exact HB.out | apply below_alloc | apply pw_below_drewN | apply below_drew1 | refine below_set ?_ GE101.out | refine below_set ?_ GE102.out | refine below_set ?_ GE103.out | refine below_set ?_ GE134.out) | exact HB.out)))); have n4_ := Aside0.mk (Kd.R_lower (Kd.R_new' (Kd.R_new' ho1 (Kd.R_lt (Rz HO_135001.out))) (Kd.R_lt (Rz HO_135002.out))) (below_size (by repeat (first | (with_reducible first | exact HB.out | apply below_alloc | apply pw_below_drewN | apply below_drew1 | refine below_set ?_ GE101.out | refine below_set ?_ GE102.out | refine below_set ?_ GE103.out | refine below_set ?_ GE134.out) | exact HB.out)))); have n5_ := Aside0.mk (blk_below (g := gb101) (o := .cells #[.bool a0_0, .slice A0_1 l0_1.length c0_1, .slice (some ad138) l0_2.length c0_2] 28 (0, 0)) (Bz BK101.out) hb); have n6_ := Aside0.mk (blk_below (g := gb102) (o := .cells #[.bool a1_0, .slice A1_1 l1_1.length c1_1, .slice A1_2 l1_2.length c1_2] 28 (0, 0)) (Bz BK102.out) hb); have n7_ := Aside0.mk (blk_below (g := gb103) (o := .cells #[.bool x104000_2, .slice none 0 0, .slice none 0 0] 28 (0, 0)) (Bz BK103.out) hb); have n8_ := Aside0.mk (blk_below (g := gb134) (o := .cells #[.bool a1_0, u135001, u135002] 28 (0, 0)) (Bz BK134.out) hb); have n9_ := Aside0.mk (below_step (by repeat (first | (with_reducible first | exact HB.out | apply below_alloc | apply pw_below_drewN | apply below_drew1 | refine below_set ?_ GE101.out | refine below_set ?_ GE102.out | refine below_set ?_ GE103.out | refine below_set ?_ GE134.out) | exact HB.out)) hb); clear HO_9; clear HO_135001; clear HO_135002; clear BK101; clear BK102; clear BK103; clear BK134; clear HB; have HO_9 := n0_; have HO_135001 := n1_; have HO_135002 := n2_; have HO157 := n3_; have HO160 := n4_; have BK101 := n5_; have BK102 := n6_; have BK103 := n7_; have BK134 := n8_; have HB := n9_; clear n0_ n1_ n2_ n3_ n4_ n5_ n6_ n7_ n8_ n9_; (try clear hb); (try clear ho0); (try clear ho1); have hnb97 := NB103_102.out; have hnc97 := NB102_103.out; have hnb98 := NB103_134.out; have hnc98 := NB134_103.out; have hcz99_0 : w96.cell? ⟨gb103, 0, none⟩ = some (.bool x104000_2) := (blk_cell BK103.out 0).trans rfl; have hcz99_1 : w96.cell? ⟨gb103, 1, none⟩ = some (.slice none 0 0) := (blk_cell BK103.out 1).trans rfl; have hcz99_2 : w96.cell? ⟨gb103, 2, none⟩ = some (.slice none 0 0) := (blk_cell BK103.out 2).trans rfl; have hfz99_0 := blk_frozen BK103.out 0; have hfz99_1 := blk_frozen BK103.out 1; have hfz99_2 := blk_frozen BK103.out 2; obtain ⟨Ao100, co100, eo100⟩ := Kd.R_slice HO157.out; subst eo100; obtain ⟨Ao101, co101, eo101⟩ := Kd.R_slice HO160.out; subst eo101))
                                      refine bodyPost_ret (results_ct rfl _ _ gb103 28 #[.bool t154, .slice Ao100 t155.length co100, .slice Ao101 t158.length co101] (0, 0) _ rfl (by (with_reducible repeat (first | refine blk_drewN ?_ _ | refine blk_drew ?_ | refine blk_alloc ?_ _)); refine blk_put (cs := #[.bool t154, .slice Ao100 t155.length co100, .slice none 0 0]) ?_ 2 _ rfl; (with_reducible repeat (first | refine blk_drewN ?_ _ | refine blk_drew ?_ | refine blk_alloc ?_ _)); refine blk_put (cs := #[.bool t154, .slice none 0 0, .slice none 0 0]) ?_ 1 _ rfl; (with_reducible repeat (first | refine blk_drewN ?_ _ | refine blk_drew ?_ | refine blk_alloc ?_ _)); refine blk_put (cs := #[.bool x104000_2, .slice none 0 0, .slice none 0 0]) ?_ 0 _ rfl; (with_reducible repeat (first | refine blk_drewN ?_ _ | refine blk_drew ?_ | refine blk_alloc ?_ _)); exact BK103.out) Try.underlying28 rfl (by kernel_rfl)) rfl ?_
                                      exact ⟨_, _, by first | rfl | (simp [errW_none, errW_some] <;> rfl) | (simp only [← hji85]; first | rfl | (simp [errW_none, errW_some] <;> rfl)) | (simp [*, errW_none, errW_some] <;> rfl), by (with_reducible repeat (first | apply Kd.R_alloc | apply Kd.R_drewN | apply Kd.R_drew)); exact Kd.R_mono (Kd.R_far (p := ⟨gb103, 2, none⟩) (Kd.R_far (p := ⟨gb103, 1, none⟩) (Kd.R_far (p := ⟨gb103, 0, none⟩) (Kd.R_types HO157.out BK103.out (by decide)) (fun _ hk => hk.2) (.bool t154)) (fun _ hk => hk.2) (.slice Ao100 t155.length co100)) (fun _ hk => hk.2) (.slice Ao101 t158.length co101)) (fun _ hk => hk.1.1.1), by (with_reducible repeat (first | apply Kd.R_alloc | apply Kd.R_drewN | apply Kd.R_drew)); exact Kd.R_mono (Kd.R_far (p := ⟨gb103, 2, none⟩) (Kd.R_far (p := ⟨gb103, 1, none⟩) (Kd.R_far (p := ⟨gb103, 0, none⟩) (Kd.R_types HO160.out BK103.out (by decide)) (fun _ hk => hk.2) (.bool t154)) (fun _ hk => hk.2) (.slice Ao100 t155.length co100)) (fun _ hk => hk.2) (.slice Ao101 t158.length co101)) (fun _ hk => hk.1.1.1), by repeat (first | (with_reducible first | exact HB.out | apply below_alloc | apply pw_below_drewN | apply below_drew1 | refine below_set ?_ GE101.out | refine below_set ?_ GE102.out | refine below_set ?_ GE103.out | refine below_set ?_ GE134.out) | exact HB.out)⟩
                                    · replace c89 := Bool.eq_false_iff.mpr c89
                                      subst c89
                                      have H1 : (if x10_2 < (l1_1.length : Int) then (if (ji85) < (x135001_2.length : Int) then (spec_Transpose.l0 k2 (l1_1.length : Int) (x9_2.set ((ji85) : Int).toNat true) (wrap64 (x10_2 + 1)) a0_0 l0_1 l0_2 a1_0 l1_1 l1_2 a1_0 (x135001_2.set ((ji85) : Int).toNat (rd l1_1 x10_2)) x135002_2) else (none)) else (none)) = some (r1, r2, r3, r4) := by rw [if_neg (show ¬ (false = true) by decide)] at H; exact H
                                      clear H
                                      have H := H1
                                      clear H1
                                      obtain ⟨y161, hy161⟩ : ∃ y_ : List Bool, y_ = (x9_2.set ((ji85) : Int).toNat true) := ⟨_, rfl⟩
                                      replace H : (if x10_2 < (l1_1.length : Int) then (if (ji85) < (x135001_2.length : Int) then (spec_Transpose.l0 k2 (l1_1.length : Int) y161 (wrap64 (x10_2 + 1)) a0_0 l0_1 l0_2 a1_0 l1_1 l1_2 a1_0 (x135001_2.set ((ji85) : Int).toNat (rd l1_1 x10_2)) x135002_2) else (none)) else (none)) = some (r1, r2, r3, r4) := by first | (rw [hy161]; with_reducible exact H) | (have H2_ := (Option.bind_some _ _).symm.trans H; rw [hy161]; with_reducible exact H2_) | (have H2_ := (Option.bind_some _ _).symm.trans H; with_reducible exact H2_) | with_reducible exact H | (rw [hy161]; exact H) | exact H
                                      have Ny161 := Aside0.mk hy161
                                      clear hy161
                                      by_cases c103 : x10_2 < (l1_1.length : Int)
                                      · rw [if_pos c103] at H
                                        have c103b0 : decide (x10_2 < (l1_1.length : Int)) = true := decide_eq_true c103
                                        clear c103
                                        by_cases c104 : (ji85) < (x135001_2.length : Int)
                                        · rw [if_pos c104] at H
                                          have c104b0 : decide ((ji85) < (x135001_2.length : Int)) = true := decide_eq_true c104
                                          clear c104
                                          obtain ⟨y163, hy163⟩ : ∃ y_ : List Int, y_ = (x135001_2.set ((ji85) : Int).toNat (rd l1_1 x10_2)) := ⟨_, rfl⟩
                                          replace H : (spec_Transpose.l0 k2 (l1_1.length : Int) y161 (wrap64 (x10_2 + 1)) a0_0 l0_1 l0_2 a1_0 l1_1 l1_2 a1_0 y163 x135002_2) = some (r1, r2, r3, r4) := by first | (rw [hy163]; with_reducible exact H) | (have H2_ := (Option.bind_some _ _).symm.trans H; rw [hy163]; with_reducible exact H2_) | (have H2_ := (Option.bind_some _ _).symm.trans H; with_reducible exact H2_) | with_reducible exact H | (rw [hy163]; exact H) | exact H
                                          have Ny163 := Aside0.mk hy163
                                          clear hy163
                                          have H' := Aside0.mk H
                                          clear H
                                          have hnb106 := NB101_102.out
                                          have hnc106 := NB102_101.out
                                          have hnb107 := NB101_103.out
                                          have hnc107 := NB103_101.out
                                          have hnb108 := NB101_134.out
                                          have hnc108 := NB134_101.out
                                          have hcz109_0 : wr.cell? ⟨gb101, 0, none⟩ = some (.bool a0_0) := (blk_cell BK101.out 0).trans rfl
                                          have hcz109_1 : wr.cell? ⟨gb101, 1, none⟩ = some (.slice A0_1 l0_1.length c0_1) := (blk_cell BK101.out 1).trans rfl
                                          have hcz109_2 : wr.cell? ⟨gb101, 2, none⟩ = some (.slice A0_2 l0_2.length c0_2) := (blk_cell BK101.out 2).trans rfl
                                          have hfz109_0 := blk_frozen BK101.out 0
                                          have hfz109_1 := blk_frozen BK101.out 1
                                          have hfz109_2 := blk_frozen BK101.out 2
                                          have p138 : 0 ≤ (x10_2 : Int) := of_decide_eq_true (by first | (with_reducible assumption) | assumption)
                                          have q138 : x10_2 < (l0_2.length : Int) := of_decide_eq_true (by first | (with_reducible assumption) | assumption)
                                          obtain ⟨ad138, e138, hx138_0⟩ := Kd.at_int HR0_2.out x10_2 p138 q138
                                          cases e138
                                          replace hx138_0 := (HB.out.cell (World.block_lt_of_cell? w _ hx138_0)).trans hx138_0
                                          replace p138 := eq_true p138
                                          replace q138 := eq_true q138
                                          obtain ⟨Ao110, co110, eo110⟩ := Kd.R_slice HO_9.out
                                          subst eo110
                                          have p153 : 0 ≤ ((ji85) : Int) := of_decide_eq_true (by first | (with_reducible assumption) | assumption)
                                          have q153 : (ji85) < (x9_2.length : Int) := of_decide_eq_true (by first | (with_reducible assumption) | assumption)
                                          obtain ⟨ad153, e153, hx153_0⟩ := Kd.at_bool (Kd.R_reads' HO_9.out).2.2 (ji85) p153 q153
                                          (try rw [← Nbq88.out] at hx153_0)
                                          cases e153
                                          replace p153 := eq_true p153
                                          replace q153 := eq_true q153
                                          have p102 : 0 ≤ ((ji85) : Int) := of_decide_eq_true (by first | (with_reducible assumption) | assumption)
                                          have q102 : ((ji85) : Int) < ((x9_2.length : Int) : Int) := of_decide_eq_true (by first | (with_reducible assumption) | assumption)
                                          obtain ⟨go102, co102, eo102, gb102, gl102, cl102, HG102⟩ := Kd.R_form HO_9.out (by omega)
                                          (first | cases eo102 | (injection eo102 with ea_ en_ ec_; (first | subst ea_ | (injection ea_ with ea_; subst ea_)); subst ec_; clear en_))
                                          have GB102 := Aside0.mk gb102
                                          have GG102 := Aside0.mk HG102
                                          clear gb102 gl102 HG102
                                          (first | simp only [add_plain] at hx153_0 | skip)
                                          obtain ⟨hx102_0, hf102_0⟩ := Kd.R_celln false HO_9.out ((ji85) : Int) p102 q102
                                          replace p102 := eq_true p102
                                          replace q102 := eq_true q102
                                          have HP111 := Kd.R_putg HO_9.out ((ji85) : Int) true
                                          try go_wp2_with (first | ((with_reducible refine gate_store (t := 4) (p := 75) rfl ?_); refine store_event (t := 4) (p := 75) (v := ?vo_w112) (w1 := (wr.setCell ⟨go102, ((ji85) : Int).toNat, none⟩ (.bool true))) ?hg ?ho ?hn ?hr ?_; (case ho => rfl); (case hg => rfl); (case hn => rfl); (case hr => first | (go_simp; done) | (go_simp; rfl)); intro w112 hw; have hg : wr.grownBy w112 (some go102) := (by rw [hw]; exact HP111.2); have hp_ : Kd.R Kd.bool 4 w112 w.heap.size (fun _ => True) (.slice (some ⟨go102, 0, none⟩) x9_2.length co110) y161 := (by rw [hw, Ny161.out]; exact HP111.1); clear HP111; have n0_ := Aside0.mk (hp_); have n1_ := Aside0.mk (Kd.R_over' (v := (.slice (some ⟨go102, 0, none⟩) x9_2.length co110)) (Rz HO_135001.out) (Kd.R_typed HO_9.out) (by decide) hg); have n2_ := Aside0.mk (Kd.R_over' (v := (.slice (some ⟨go102, 0, none⟩) x9_2.length co110)) (Rz HO_135002.out) (Kd.R_typed HO_9.out) (by decide) hg); have n3_ := Aside0.mk (blk_grown (g := gb101) (o := .cells #[.bool a0_0, .slice A0_1 l0_1.length c0_1, .slice (some ad138) l0_2.length c0_2] 28 (0, 0)) (Bz BK101.out) hg (Kd.R_ne HO_9.out BK101.out (by decide))); have n4_ := Aside0.mk (blk_grown (g := gb102) (o := .cells #[.bool a1_0, .slice A1_1 l1_1.length c1_1, .slice A1_2 l1_2.length c1_2] 28 (0, 0)) (Bz BK102.out) hg (Kd.R_ne HO_9.out BK102.out (by decide))); have n5_ := Aside0.mk (blk_grown (g := gb103) (o := .cells #[.bool x104000_2, .slice none 0 0, .slice none 0 0] 28 (0, 0)) (Bz BK103.out) hg (Kd.R_ne HO_9.out BK103.out (by decide))); have n6_ := Aside0.mk (blk_grown (g := gb134) (o := .cells #[.bool a1_0, u135001, u135002] 28 (0, 0)) (Bz BK134.out) hg (Kd.R_ne HO_9.out BK134.out (by decide))); have n7_ := Aside0.mk ((by rw [hw]; exact below_set (HB.out) GB102.out : Below w.heap.size w w112)); clear HO_9; clear HO_135001; clear HO_135002; clear BK101; clear BK102; clear BK103; clear BK134; clear HB; have HO_9 := n0_; have HO_135001 := n1_; have HO_135002 := n2_; have BK101 := n3_; have BK102 := n4_; have BK103 := n5_; have BK134 := n6_; have HB := n7_; clear n0_ n1_ n2_ n3_ n4_ n5_ n6_ n7_; clear hg hw hp_))
                                          have n0_ := Aside0.mk (Kd.R_drew HO_9.out)
                                          have n1_ := Aside0.mk (Kd.R_drew HO_135001.out)
                                          have n2_ := Aside0.mk (Kd.R_drew HO_135002.out)
                                          have n3_ := Aside0.mk (blk_drew BK101.out)
                                          have n4_ := Aside0.mk (blk_drew BK102.out)
                                          have n5_ := Aside0.mk (blk_drew BK103.out)
                                          have n6_ := Aside0.mk (blk_drew BK134.out)
                                          have n7_ := Aside0.mk (below_drew1 HB.out)
                                          clear HO_9
                                          clear HO_135001
                                          clear HO_135002
                                          clear BK101
                                          clear BK102
                                          clear BK103
                                          clear BK134
                                          clear HB
                                          have HO_9 := n0_
                                          have HO_135001 := n1_
                                          have HO_135002 := n2_
                                          have BK101 := n3_
                                          have BK102 := n4_
                                          have BK103 := n5_
                                          have BK134 := n6_
                                          have HB := n7_
                                          clear n0_ n1_ n2_ n3_ n4_ n5_ n6_ n7_
                                          have p162 : 0 ≤ (x10_2 : Int) := of_decide_eq_true (by first | (with_reducible assumption) | assumption)
                                          have q162 : x10_2 < (l1_1.length : Int) := of_decide_eq_true (by first | (with_reducible assumption) | assumption)
                                          obtain ⟨ad162, e162, hx162_0⟩ := Kd.at_int HR1_1.out x10_2 p162 q162
                                          have hw162_0 := hx162_0
                                          cases e162
                                          replace hx162_0 := (HB.out.cell (World.block_lt_of_cell? w _ hx162_0)).trans hx162_0
                                          replace p162 := eq_true p162
                                          replace q162 := eq_true q162
                                          have p105 : 0 ≤ ((ji85) : Int) := of_decide_eq_true (by first | (with_reducible assumption) | assumption)
                                          have q105 : ((ji85) : Int) < ((x135001_2.length : Int) : Int) := of_decide_eq_true (by first | (with_reducible assumption) | assumption)
                                          obtain ⟨go105, co105, eo105, gb105, gl105, cl105, HG105⟩ := Kd.R_form HO_135001.out (by omega)
                                          (first | cases eo105 | (injection eo105 with ea_ en_ ec_; (first | subst ea_ | (injection ea_ with ea_; subst ea_)); subst ec_; clear en_))
                                          have GB105 := Aside0.mk gb105
                                          have GG105 := Aside0.mk HG105
                                          clear gb105 gl105 HG105
                                          obtain ⟨hx105_0, hf105_0⟩ := Kd.R_celln 0 HO_135001.out ((ji85) : Int) p105 q105
                                          replace p105 := eq_true p105
                                          replace q105 := eq_true q105
                                          have HP114 := Kd.R_putn HO_135001.out ((ji85) : Int) (rd l1_1 x10_2)
                                          rw [← Ny163.out] at HP114
                                          have HQ114 := Aside0.mk HP114
                                          clear HP114
                                          refine start_ (n := 10) (S := fun w' => w'.cell? ⟨gb134, 0, none⟩ = some (.bool a1_0) ∧ w'.cell? ⟨gb134, 1, none⟩ = some (.slice (some ⟨go105, 0, none⟩) x135001_2.length co105) ∧ w'.cell? ⟨gb134, 2, none⟩ = some (u135002) ∧ w'.cell? ⟨gb102, 0, none⟩ = some (.bool a1_0) ∧ w'.cell? ⟨gb102, 1, none⟩ = some (.slice (some ad162) l1_1.length c1_1) ∧ w'.cell? ⟨gb102, 2, none⟩ = some (.slice A1_2 l1_2.length c1_2) ∧ w'.cell? (ad162.add (x10_2).toNat) = some (.int .i64 (rd l1_1 x10_2))) (ds := [9]) #[false, false, false, false, false, false, false, false, false, false] (by kernel_rfl) rfl rfl ⟨(blk_cell BK134.out 0).trans rfl, (blk_cell BK134.out 1).trans rfl, (blk_cell BK134.out 2).trans rfl, (blk_cell BK102.out 0).trans rfl, (blk_cell BK102.out 1).trans rfl, (blk_cell BK102.out 2).trans rfl, ((HB.out.cell (World.block_lt_of_cell? w _ hw162_0)).trans hw162_0)⟩ (fun hHeld => ?_); refine with_tabW spec_Transpose.tab18 spec_Transpose.bits18 (fun HT_ HW_ => ?_)
                                          generalize w112.drew = w113 at HO_9 HO_135001 HO_135002 BK101 BK102 BK103 BK134 HB GG105 HQ114 hf105_0 hx105_0 hx162_0 hHeld ⊢
                                          refine pure_ (i := 0) (N := some 76) (v := ?_) (a' := ?_) #[true, false, false, false, false, false, false, false, false, false] rfl rfl (any_of HT_.out (by kernel_rfl)) (fun _ _ _ h => h) (Or.inl ⟨by rfl, ?_⟩) ?_ ?_
                                          rotate_left
                                          · intro w'
                                            go_simp
                                            with_reducible rfl
                                          rotate_left
                                          · simp only [Act.put, List.setIfInBounds_toArray, List.set_cons_zero, List.set_cons_succ, i64_w, i32_w]
                                            rfl
                                          refine pure_ (i := 2) (N := some 78) (v := ?_) (a' := ?_) #[true, false, true, false, false, false, false, false, false, false] rfl rfl (any_of HT_.out (by kernel_rfl)) (fun _ _ _ h => h) (Or.inl ⟨by rfl, ?_⟩) ?_ ?_
                                          rotate_left
                                          · intro w'
                                            go_simp
                                            with_reducible rfl
                                          rotate_left
                                          · simp only [Act.put, List.setIfInBounds_toArray, List.set_cons_zero, List.set_cons_succ, i64_w, i32_w]
                                            rfl
                                          refine pure_ (i := 3) (N := some 79) (v := ?_) (a' := ?_) #[true, false, true, true, false, false, false, false, false, false] rfl rfl (any_of HT_.out (by kernel_rfl)) (fun _ _ _ h => h) (Or.inl ⟨by rfl, ?_⟩) ?_ ?_
                                          rotate_left
                                          · intro w'
                                            go_simp
                                            with_reducible rfl
                                          rotate_left
                                          · simp only [Act.put, List.setIfInBounds_toArray, List.set_cons_zero, List.set_cons_succ, i64_w, i32_w]
                                            rfl
                                          refine pure_ (i := 5) (N := some 81) (v := ?_) (a' := ?_) #[true, false, true, true, false, true, false, false, false, false] rfl rfl (any_of HT_.out (by kernel_rfl)) (fun _ _ _ h => h) (Or.inl ⟨by rfl, ?_⟩) ?_ ?_
                                          rotate_left
                                          · intro w'
                                            go_simp
                                            with_reducible rfl
                                          rotate_left
                                          · simp only [Act.put, List.setIfInBounds_toArray, List.set_cons_zero, List.set_cons_succ, i64_w, i32_w]
                                            rfl
                                          refine take_ (i := 1) (N := some 77) (v := ?_) (a' := ?_) #[true, true, true, true, false, true, false, false, false, false] rfl rfl (take_ofW HT_.out HW_.out (by kernel_rfl)) (fun _ _ _ h => h) (Or.inl ⟨by rfl, ?_⟩) hHeld ?_ ?_
                                          rotate_left
                                          · rintro w' ⟨s0, s1, s2, s3, s4, s5, s6⟩
                                            go_simp
                                            with_reducible rfl
                                          rotate_left
                                          · simp only [Act.put, List.setIfInBounds_toArray, List.set_cons_zero, List.set_cons_succ, i64_w, i32_w]
                                            rfl
                                          refine take_ (i := 4) (N := some 80) (v := ?_) (a' := ?_) #[true, true, true, true, true, true, false, false, false, false] rfl rfl (take_ofW HT_.out HW_.out (by kernel_rfl)) (fun _ _ _ h => h) (Or.inl ⟨by rfl, ?_⟩) hHeld ?_ ?_
                                          rotate_left
                                          · rintro w' ⟨s0, s1, s2, s3, s4, s5, s6⟩
                                            go_simp
                                            with_reducible rfl
                                          rotate_left
                                          · simp only [Act.put, List.setIfInBounds_toArray, List.set_cons_zero, List.set_cons_succ, i64_w, i32_w]
                                            rfl
                                          refine pure_ (i := 6) (N := some 82) (v := ?_) (a' := ?_) #[true, true, true, true, true, true, true, false, false, false] rfl rfl (any_of HT_.out (by kernel_rfl)) (fun _ _ _ h => h) (Or.inl ⟨by rfl, ?_⟩) ?_ ?_
                                          rotate_left
                                          · intro w'
                                            go_simp
                                            with_reducible rfl
                                          rotate_left
                                          · simp only [Act.put, List.setIfInBounds_toArray, List.set_cons_zero, List.set_cons_succ, i64_w, i32_w]
                                            rfl
                                          refine take_ (i := 7) (N := some 83) (v := ?_) (a' := ?_) #[true, true, true, true, true, true, true, true, false, false] rfl rfl (take_ofW HT_.out HW_.out (by kernel_rfl)) (fun _ _ _ h => h) (Or.inl ⟨by rfl, ?_⟩) hHeld ?_ ?_
                                          rotate_left
                                          · rintro w' ⟨s0, s1, s2, s3, s4, s5, s6⟩
                                            go_simp
                                            with_reducible rfl
                                          rotate_left
                                          · simp only [Act.put, List.setIfInBounds_toArray, List.set_cons_zero, List.set_cons_succ, i64_w, i32_w]
                                            rfl
                                          refine pure_ (i := 8) (N := some 84) (v := ?_) (a' := ?_) #[true, true, true, true, true, true, true, true, true, false] rfl rfl (any_of HT_.out (by kernel_rfl)) (fun _ _ _ h => h) (Or.inl ⟨by rfl, ?_⟩) ?_ ?_
                                          rotate_left
                                          · intro w'
                                            go_simp
                                            with_reducible rfl
                                          rotate_left
                                          · simp only [Act.put, List.setIfInBounds_toArray, List.set_cons_zero, List.set_cons_succ, i64_w, i32_w]
                                            rfl
                                          refine last_ (i := 9) (N := none) #[true, true, true, true, true, true, true, true, true, true] rfl rfl (one_of HT_.out (by kernel_rfl)) (by decide) (fun K hK => ?_)
                                          refine skip_ (w1 := ?_) (by rfl) rfl ?_ ?_
                                          rotate_left
                                          · go_simp
                                            rfl
                                          refine hK.out _ _ ?_
                                          clear hK K
                                          refine done_ (done_of HT_.out (by kernel_rfl)) ?_
                                          try go_wp2
                                          go_roundg k2
                                          case measure => have := HJ2.out; have := HK2.out; omega
                                          case rel => exact ⟨(y161), (wrap64 (x10_2 + 1)), (x104000_2), (y163), (x135002_2), (.slice (some ⟨go105, 0, none⟩) x135001_2.length co105), (u135002), (by first | rfl | (simp; done) | (simp [*]; done)), H', ⟨by have := HJ2.out; have := HK2.out; omega⟩, ⟨by (with_reducible repeat (first | apply Kd.R_alloc | apply Kd.R_drewN | apply Kd.R_drew)); exact Kd.R_mono (Kd.R_far (p := ⟨go105, ((ji85) : Int).toNat, none⟩) (Kd.R_types HO_9.out GG105.out (by decide)) (fun _ hk => hk.2) (.int .i64 (rd l1_1 x10_2))) (fun _ hk => trivial)⟩, ⟨by (with_reducible repeat (first | apply Kd.R_alloc | apply Kd.R_drewN | apply Kd.R_drew)); exact HQ114.out⟩, ⟨by (with_reducible repeat (first | apply Kd.R_alloc | apply Kd.R_drewN | apply Kd.R_drew)); exact Kd.R_mono (Kd.R_far (p := ⟨go105, ((ji85) : Int).toNat, none⟩) (Kd.R_mono HO_135002.out (fun k_ hk => (⟨hk, fun e_ => hk (by rw [e_]; rfl)⟩ : _ ∧ k_ ≠ go105))) (fun _ hk => hk.2) (.int .i64 (rd l1_1 x10_2))) (fun _ hk => hk.1)⟩, ⟨by (with_reducible repeat (first | refine blk_drewN ?_ _ | refine blk_drew ?_ | refine blk_alloc ?_ _)); refine blk_far ?_ (by have h_ := Kd.R_ne HO_135001.out BK101.out (by decide); intro e_; exact h_ (by rw [e_]; rfl)) _; (with_reducible repeat (first | refine blk_drewN ?_ _ | refine blk_drew ?_ | refine blk_alloc ?_ _)); exact BK101.out⟩, ⟨by (with_reducible repeat (first | refine blk_drewN ?_ _ | refine blk_drew ?_ | refine blk_alloc ?_ _)); refine blk_far ?_ (by have h_ := Kd.R_ne HO_135001.out BK102.out (by decide); intro e_; exact h_ (by rw [e_]; rfl)) _; (with_reducible repeat (first | refine blk_drewN ?_ _ | refine blk_drew ?_ | refine blk_alloc ?_ _)); exact BK102.out⟩, ⟨by (with_reducible repeat (first | refine blk_drewN ?_ _ | refine blk_drew ?_ | refine blk_alloc ?_ _)); refine blk_far ?_ (by have h_ := Kd.R_ne HO_135001.out BK103.out (by decide); intro e_; exact h_ (by rw [e_]; rfl)) _; (with_reducible repeat (first | refine blk_drewN ?_ _ | refine blk_drew ?_ | refine blk_alloc ?_ _)); exact BK103.out⟩, ⟨by (with_reducible repeat (first | refine blk_drewN ?_ _ | refine blk_drew ?_ | refine blk_alloc ?_ _)); refine blk_far ?_ (by have h_ := Kd.R_ne HO_135001.out BK134.out (by decide); intro e_; exact h_ (by rw [e_]; rfl)) _; (with_reducible repeat (first | refine blk_drewN ?_ _ | refine blk_drew ?_ | refine blk_alloc ?_ _)); exact BK134.out⟩, ⟨by repeat (first | (with_reducible first | exact HB.out | apply below_alloc | apply pw_below_drewN | apply below_drew1 | refine below_set ?_ GB105.out | refine below_set ?_ GE101.out | refine below_set ?_ GE102.out | refine below_set ?_ GE103.out | refine below_set ?_ GE134.out) | exact HB.out)⟩⟩
                                        · rw [if_neg c104] at H
                                          exact absurd H (by simp)
                                      · rw [if_neg c103] at H
                                        exact absurd H (by simp)
                                  · rw [if_neg c87] at H
                                    exact absurd H (by simp)
                                · rw [if_neg c86] at H
                                  exact absurd H (by simp)
                          · rw [if_neg c60] at H
                            exact absurd H (by simp)
                        · rw [if_neg c59] at H
                          exact absurd H (by simp)
                      · rw [if_neg c58] at H
                        have c58b0 : decide (x10_2 < (l1_1.length : Int)) = false := decide_eq_false c58
                        clear c58
                        have H' := Aside0.mk H
                        clear H
                        go_wp2
                        go_loopg [12] k2 (fun kq v12 w' => ∃ (x12_3 : Int) (x135001_3 : List Int) (x135002_3 : List Int) (u135001 : Value) (u135002 : Value), v12 = .int .i64 x12_3 ∧ Aside0 (spec_Transpose.l1 kq (l1_1.length : Int) x12_3 a0_0 l0_1 l0_2 a1_0 l1_1 l1_2 a1_0 x135001_3 x135002_3 = some (r1, r2, r3, r4)) ∧ Aside0 (kq ≤ k2) ∧ Aside0 (Kd.R (Kd.int .i64) 3 w' w.heap.size (fun k_ => some k_ ≠ (u135002 : Value).ownBlock) u135001 x135001_3) ∧ Aside0 (Kd.R (Kd.int .i64) 3 w' w.heap.size (fun k_ => some k_ ≠ (u135001 : Value).ownBlock) u135002 x135002_3) ∧ Aside0 (w'.heap[gb101]? = some (.cells #[.bool a0_0, (.slice A0_1 l0_1.length c0_1), (.slice A0_2 l0_2.length c0_2)] 28 (0, 0))) ∧ Aside0 (w'.heap[gb102]? = some (.cells #[.bool a1_0, (.slice A1_1 l1_1.length c1_1), (.slice A1_2 l1_2.length c1_2)] 28 (0, 0))) ∧ Aside0 (w'.heap[gb103]? = some (.cells #[.bool x104000_2, (.slice none 0 0), (.slice none 0 0)] 28 (0, 0))) ∧ Aside0 (w'.heap[gb134]? = some (.cells #[.bool a1_0, u135001, u135002] 28 (0, 0))) ∧ Aside0 (Below w.heap.size w w'))
                        case atStart => exact ⟨(0), (x135001_2), (x135002_2), (u135001), (u135002), (by first | rfl | (simp; done) | (simp [*]; done)), H', ⟨Nat.le_refl _⟩, ⟨by (with_reducible repeat (first | apply Kd.R_alloc | apply Kd.R_drewN | apply Kd.R_drew)); exact HO_135001.out⟩, ⟨by (with_reducible repeat (first | apply Kd.R_alloc | apply Kd.R_drewN | apply Kd.R_drew)); exact HO_135002.out⟩, ⟨by (with_reducible repeat (first | refine blk_drewN ?_ _ | refine blk_drew ?_ | refine blk_alloc ?_ _)); exact BK101.out⟩, ⟨by (with_reducible repeat (first | refine blk_drewN ?_ _ | refine blk_drew ?_ | refine blk_alloc ?_ _)); exact BK102.out⟩, ⟨by (with_reducible repeat (first | refine blk_drewN ?_ _ | refine blk_drew ?_ | refine blk_alloc ?_ _)); exact BK103.out⟩, ⟨by (with_reducible repeat (first | refine blk_drewN ?_ _ | refine blk_drew ?_ | refine blk_alloc ?_ _)); exact BK134.out⟩, ⟨by repeat (first | (with_reducible first | exact HB.out | apply below_alloc | apply pw_below_drewN | apply below_drew1 | refine below_set ?_ GE101.out | refine below_set ?_ GE102.out | refine below_set ?_ GE103.out | refine below_set ?_ GE134.out) | exact HB.out)⟩⟩
                        case round =>
                          clear H'
                          try clear c1
                          try clear p1
                          try clear q1
                          try clear hx1
                          try clear p2
                          try clear c5
                          try clear c6
                          try clear p6
                          try clear c7
                          try clear c8
                          try clear q8
                          try clear c9
                          try clear c10
                          try clear p10
                          try clear q10
                          try clear hx10
                          try clear hf10
                          try clear p13
                          try clear q13
                          try clear hx13
                          try clear p15
                          try clear q15
                          try clear hx15
                          try clear p16
                          try clear q16
                          try clear hx16
                          try clear c53
                          try clear c58
                          try clear c58b0
                          try clear c59
                          try clear c59b0
                          try clear c60
                          try clear c60b0
                          try clear c61
                          try clear c61b0
                          try clear c63
                          try clear c64
                          try clear p64
                          try clear c65
                          try clear c68
                          try clear c69
                          try clear c73
                          try clear c73b0
                          try clear c75
                          try clear c76
                          try clear c77
                          try clear c80
                          try clear c81
                          try clear c86
                          try clear c86b0
                          try clear c87
                          try clear c87b0
                          try clear q88
                          try clear c89
                          try clear c91
                          try clear c92
                          try clear c93
                          try clear c97
                          try clear c98
                          try clear p102
                          try clear q102
                          try clear hx102
                          try clear hf102
                          try clear c103
                          try clear c103b0
                          try clear c104
                          try clear c104b0
                          try clear p105
                          try clear q105
                          try clear hx105
                          try clear hf105
                          try clear c106
                          try clear c107
                          try clear c108
                          try clear hcz109_0
                          try clear hcz109_1
                          try clear hcz109_2
                          try clear hcz66_0
                          try clear hcz66_1
                          try clear hcz66_2
                          try clear hcz70_0
                          try clear hcz70_1
                          try clear hcz70_2
                          try clear hcz78_0
                          try clear hcz78_1
                          try clear hcz78_2
                          try clear hcz82_0
                          try clear hcz82_1
                          try clear hcz82_2
                          try clear hcz94_0
                          try clear hcz94_1
                          try clear hcz94_2
                          try clear hcz99_0
                          try clear hcz99_1
                          try clear hcz99_2
                          try clear hfz109_0
                          try clear hfz109_1
                          try clear hfz109_2
                          try clear hfz66_0
                          try clear hfz66_1
                          try clear hfz66_2
                          try clear hfz70_0
                          try clear hfz70_1
                          try clear hfz70_2
                          try clear hfz78_0
                          try clear hfz78_1
                          try clear hfz78_2
                          try clear hfz82_0
                          try clear hfz82_1
                          try clear hfz82_2
                          try clear hfz94_0
                          try clear hfz94_1
                          try clear hfz94_2
                          try clear hfz99_0
                          try clear hfz99_1
                          try clear hfz99_2
                          try clear hx102_0
                          try clear hx105_0
                          try clear hx138_0
                          try clear hx153_0
                          try clear hx162_0
                          try clear p102
                          try clear p105
                          try clear p138
                          try clear p153
                          try clear p162
                          try clear p2
                          try clear q102
                          try clear q105
                          try clear q138
                          try clear q153
                          try clear q162
                          obtain ⟨x12_3, x135001_3, x135002_3, u135001, u135002, rfl, HA, HK3, HO_135001, HO_135002, BK101, BK102, BK103, BK134, HB⟩ := hrel
                          cases gk with
                          | zero => exact absurd HA.out (by simp [spec_Transpose.l1])
                          | succ k3 =>
                            have H := HA.out
                            clear HA
                            simp only [spec_Transpose.l1] at H
                            by_cases c115 : x12_3 < (l1_2.length : Int)
                            · rw [if_pos c115] at H
                              have c115b0 : decide (x12_3 < (l1_2.length : Int)) = true := decide_eq_true c115
                              clear c115
                              replace H := Option.bind_eq_some_iff.mp H
                              obtain ⟨t164, A1160, H⟩ := H
                              replace H : (if 0 ≤ (l1_1.length : Int) then (if ((l1_1.length : Int) : Int).toNat ≤ 35184372088832 then (spec_Transpose.l2 k3 (l1_1.length : Int) x12_3 t164 (List.replicate ((l1_1.length : Int) : Int).toNat 0) 0 a0_0 l0_1 l0_2 a1_0 l1_1 l1_2 a1_0 x135001_3 x135002_3) else (none)) else (none)) = some (r1, r2, r3, r4) := H
                              have A116 := Aside0.mk A1160
                              clear A1160
                              by_cases c117 : 0 ≤ (l1_1.length : Int)
                              · rw [if_pos c117] at H
                                have c117b0 := eq_true c117
                                have c117b1 : decide (0 ≤ (l1_1.length : Int)) = true := decide_eq_true c117
                                clear c117
                                by_cases c118 : ((l1_1.length : Int) : Int).toNat ≤ 35184372088832
                                · rw [if_pos c118] at H
                                  have c118b0 := eq_true c118
                                  have c118b1 : decide (((l1_1.length : Int) : Int).toNat ≤ 35184372088832) = true := decide_eq_true c118
                                  clear c118
                                  obtain ⟨y167, hy167⟩ : ∃ y_ : List Int, y_ = (List.replicate ((l1_1.length : Int) : Int).toNat 0) := ⟨_, rfl⟩
                                  replace H : (spec_Transpose.l2 k3 (l1_1.length : Int) x12_3 t164 y167 0 a0_0 l0_1 l0_2 a1_0 l1_1 l1_2 a1_0 x135001_3 x135002_3) = some (r1, r2, r3, r4) := by first | (rw [hy167]; with_reducible exact H) | (have H2_ := (Option.bind_some _ _).symm.trans H; rw [hy167]; with_reducible exact H2_) | (have H2_ := (Option.bind_some _ _).symm.trans H; with_reducible exact H2_) | with_reducible exact H | (rw [hy167]; exact H) | exact H
                                  have Ny167 := Aside0.mk hy167
                                  clear hy167
                                  have H' := Aside0.mk H
                                  clear H
                                  have hnb119 := NB102_101.out
                                  have hnc119 := NB101_102.out
                                  have hnb120 := NB102_103.out
                                  have hnc120 := NB103_102.out
                                  have hnb121 := NB102_134.out
                                  have hnc121 := NB134_102.out
                                  have hcz122_0 : wr.cell? ⟨gb102, 0, none⟩ = some (.bool a1_0) := (blk_cell BK102.out 0).trans rfl
                                  have hcz122_1 : wr.cell? ⟨gb102, 1, none⟩ = some (.slice A1_1 l1_1.length c1_1) := (blk_cell BK102.out 1).trans rfl
                                  have hcz122_2 : wr.cell? ⟨gb102, 2, none⟩ = some (.slice A1_2 l1_2.length c1_2) := (blk_cell BK102.out 2).trans rfl
                                  have hfz122_0 := blk_frozen BK102.out 0
                                  have hfz122_1 := blk_frozen BK102.out 1
                                  have hfz122_2 := blk_frozen BK102.out 2
                                  have hnb123 := NB134_101.out
                                  have hnc123 := NB101_134.out
                                  have hnb124 := NB134_103.out
                                  have hnc124 := NB103_134.out
                                  have hcz125_0 : wr.cell? ⟨gb134, 0, none⟩ = some (.bool a1_0) := (blk_cell BK134.out 0).trans rfl
                                  have hcz125_1 : wr.cell? ⟨gb134, 1, none⟩ = some (u135001) := (blk_cell BK134.out 1).trans rfl
                                  have hcz125_2 : wr.cell? ⟨gb134, 2, none⟩ = some (u135002) := (blk_cell BK134.out 2).trans rfl
                                  have hfz125_0 := blk_frozen BK134.out 0
                                  have hfz125_1 := blk_frozen BK134.out 1
                                  have hfz125_2 := blk_frozen BK134.out 2
                                  obtain ⟨Ao126, co126, eo126⟩ := Kd.R_slice HO_135001.out
                                  subst eo126
                                  go_wp2_with (first | ((with_reducible refine gate_callee (f := 77) rfl ?_); refine goesL_ (some 95) rfl rfl Try.func77 (by kernel_rfl) rfl #[.slice Ao126 x135001_3.length co126, .int .i64 x12_3] rfl (by (try simp only [List.map_toArray, List.map_cons, List.map_nil]); first | done | rfl | (simp only [List.length_drop, List.length_take]; rfl)) ?_; (with_reducible refine (spec_l5Index.calls k3 _ _ x135001_3 x12_3 t164 _ ?side1 ?side2 A116.out).mono ?_); (case side1 => repeat (first | exact (Kd.R_reads' HO_135001.out).2.2 | (with_reducible refine Kd.C_alloc ?_ _) | (with_reducible refine Kd.C_drewN ?_ _) | (with_reducible refine Kd.C_drew ?_))); (case side2 => exact (Kd.R_reads' HO_135001.out).2.1); rintro e w127 ⟨v165, rfl, ho0, hb⟩; refine ⟨_, rfl, ?_⟩; have n0_ := Aside0.mk (Kd.R_elder' (Rz HO_135001.out) (Kd.R_base ho0) hb); have n1_ := Aside0.mk (Kd.R_elder' (Rz HO_135002.out) (Kd.R_base ho0) hb); have n2_ := Aside0.mk (Kd.R_lower (Kd.R_new' (Kd.R_new' ho0 (Kd.R_lt (Rz HO_135001.out))) (Kd.R_lt (Rz HO_135002.out))) (below_size (by repeat (first | (with_reducible first | exact HB.out | apply below_alloc | apply pw_below_drewN | apply below_drew1 | refine below_set ?_ GE101.out | refine below_set ?_ GE102.out | refine below_set ?_ GE103.out | refine below_set ?_ GE134.out) | exact HB.out)))); have n3_ := Aside0.mk (blk_below (g := gb101) (o := .cells #[.bool a0_0, .slice A0_1 l0_1.length c0_1, .slice A0_2 l0_2.length c0_2] 28 (0, 0)) (Bz BK101.out) hb); have n4_ := Aside0.mk (blk_below (g := gb102) (o := .cells #[.bool a1_0, .slice A1_1 l1_1.length c1_1, .slice A1_2 l1_2.length c1_2] 28 (0, 0)) (Bz BK102.out) hb); have n5_ := Aside0.mk (blk_below (g := gb103) (o := .cells #[.bool x104000_2, .slice none 0 0, .slice none 0 0] 28 (0, 0)) (Bz BK103.out) hb); have n6_ := Aside0.mk (blk_below (g := gb134) (o := .cells #[.bool a1_0, .slice Ao126 x135001_3.length co126, u135002] 28 (0, 0)) (Bz BK134.out) hb); have n7_ := Aside0.mk (below_step (by repeat (first | (with_reducible first | exact HB.out | apply below_alloc | apply pw_below_drewN | apply below_drew1 | refine below_set ?_ GE101.out | refine below_set ?_ GE102.out | refine below_set ?_ GE103.out | refine below_set ?_ GE134.out) | exact HB.out)) hb); clear HO_135001; clear HO_135002; clear BK101; clear BK102; clear BK103; clear BK134; clear HB; have HO_135001 := n0_; have HO_135002 := n1_; have HO166 := n2_; have BK101 := n3_; have BK102 := n4_; have BK103 := n5_; have BK134 := n6_; have HB := n7_; clear n0_ n1_ n2_ n3_ n4_ n5_ n6_ n7_; (try clear hb); (try clear ho0)) | ((with_reducible refine gate_dst (N := 97) rfl ?_); refine Kd.R_make (Kd.int .i64) _ 3 rfl (N := 97) rfl 22 _ _ rfl (l1_1.length : Int) rfl rfl Try.underlying22 (.int .i64 0) 8 info3 rfl (by decide) (by omega) 0 (ok := fun _ => True) (okp := fun _ => True) rfl (fun _ hk => hk) trivial (of_decide_eq_true (by first | (with_reducible assumption) | assumption)) (Nat.le_trans (Nat.mul_le_mul_right _ (of_decide_eq_true (by first | (with_reducible assumption) | assumption) : (l1_1.length : Int).toNat ≤ 35184372088832)) (by omega)) (Below.refl _ _) (Nat.le_refl _) ?_; intro v168 w128 ho129 hb hg_ hnew_; clear hg_ hnew_; (first | rw [← Ny167.out] at ho129 | (simp only [Int.reduceToNat] at ho129; rw [← Ny167.out] at ho129)); have n0_ := Aside0.mk (Kd.R_elder' (Rz HO_135001.out) (Kd.R_base ho129) hb); have n1_ := Aside0.mk (Kd.R_elder' (Rz HO_135002.out) (Kd.R_base ho129) hb); have n2_ := Aside0.mk (Kd.R_elder' (Rz HO166.out) (Kd.R_base ho129) hb); have n3_ := Aside0.mk (Kd.R_lower (Kd.R_new' (Kd.R_new' (Kd.R_new' ho129 (Kd.R_lt (Rz HO_135001.out))) (Kd.R_lt (Rz HO_135002.out))) (Kd.R_lt (Rz HO166.out))) (below_size (by repeat (first | (with_reducible first | exact HB.out | apply below_alloc | apply pw_below_drewN | apply below_drew1 | refine below_set ?_ GE101.out | refine below_set ?_ GE102.out | refine below_set ?_ GE103.out | refine below_set ?_ GE134.out) | exact HB.out)))); have n4_ := Aside0.mk (blk_below (g := gb101) (o := .cells #[.bool a0_0, .slice A0_1 l0_1.length c0_1, .slice A0_2 l0_2.length c0_2] 28 (0, 0)) (Bz BK101.out) hb); have n5_ := Aside0.mk (blk_below (g := gb102) (o := .cells #[.bool a1_0, .slice A1_1 l1_1.length c1_1, .slice A1_2 l1_2.length c1_2] 28 (0, 0)) (Bz BK102.out) hb); have n6_ := Aside0.mk (blk_below (g := gb103) (o := .cells #[.bool x104000_2, .slice none 0 0, .slice none 0 0] 28 (0, 0)) (Bz BK103.out) hb); have n7_ := Aside0.mk (blk_below (g := gb134) (o := .cells #[.bool a1_0, .slice Ao126 x135001_3.length co126, u135002] 28 (0, 0)) (Bz BK134.out) hb); have n8_ := Aside0.mk (below_step (by repeat (first | (with_reducible first | exact HB.out | apply below_alloc | apply pw_below_drewN | apply below_drew1 | refine below_set ?_ GE101.out | refine below_set ?_ GE102.out | refine below_set ?_ GE103.out | refine below_set ?_ GE134.out) | exact HB.out)) hb); clear HO_135001; clear HO_135002; clear HO166; clear BK101; clear BK102; clear BK103; clear BK134; clear HB; have HO_135001 := n0_; have HO_135002 := n1_; have HO166 := n2_; have HO169 := n3_; have BK101 := n4_; have BK102 := n5_; have BK103 := n6_; have BK134 := n7_; have HB := n8_; clear n0_ n1_ n2_ n3_ n4_ n5_ n6_ n7_ n8_; clear hb ho129))
                                  go_loopg [15] k3 (fun kq v15 w' => ∃ (x14_4 : List Int) (x15_4 : Int), v15 = .int .i64 x15_4 ∧ Aside0 (spec_Transpose.l2 kq (l1_1.length : Int) x12_3 t164 x14_4 x15_4 a0_0 l0_1 l0_2 a1_0 l1_1 l1_2 a1_0 x135001_3 x135002_3 = some (r1, r2, r3, r4)) ∧ Aside0 (kq ≤ k3) ∧ Aside0 (Kd.R (Kd.int .i64) 3 w' w.heap.size (fun k_ => some k_ ≠ (v168 : Value).ownBlock ∧ some k_ ≠ ((.slice Ao126 x135001_3.length co126) : Value).ownBlock ∧ some k_ ≠ (u135002 : Value).ownBlock) v165 t164) ∧ Aside0 (Kd.R (Kd.int .i64) 3 w' w.heap.size (fun k_ => some k_ ≠ (v165 : Value).ownBlock ∧ some k_ ≠ ((.slice Ao126 x135001_3.length co126) : Value).ownBlock ∧ some k_ ≠ (u135002 : Value).ownBlock) v168 x14_4) ∧ Aside0 (Kd.R (Kd.int .i64) 3 w' w.heap.size (fun k_ => some k_ ≠ (v165 : Value).ownBlock ∧ some k_ ≠ (v168 : Value).ownBlock ∧ some k_ ≠ (u135002 : Value).ownBlock) (.slice Ao126 x135001_3.length co126) x135001_3) ∧ Aside0 (Kd.R (Kd.int .i64) 3 w' w.heap.size (fun k_ => some k_ ≠ (v165 : Value).ownBlock ∧ some k_ ≠ (v168 : Value).ownBlock ∧ some k_ ≠ ((.slice Ao126 x135001_3.length co126) : Value).ownBlock) u135002 x135002_3) ∧ Aside0 (w'.heap[gb101]? = some (.cells #[.bool a0_0, (.slice A0_1 l0_1.length c0_1), (.slice A0_2 l0_2.length c0_2)] 28 (0, 0))) ∧ Aside0 (w'.heap[gb102]? = some (.cells #[.bool a1_0, (.slice A1_1 l1_1.length c1_1), (.slice A1_2 l1_2.length c1_2)] 28 (0, 0))) ∧ Aside0 (w'.heap[gb103]? = some (.cells #[.bool x104000_2, (.slice none 0 0), (.slice none 0 0)] 28 (0, 0))) ∧ Aside0 (w'.heap[gb134]? = some (.cells #[.bool a1_0, (.slice Ao126 x135001_3.length co126), u135002] 28 (0, 0))) ∧ Aside0 (Below w.heap.size w w'))
                                  case atStart => exact ⟨(y167), (0), (by first | rfl | (simp; done) | (simp [*]; done)), H', ⟨Nat.le_refl _⟩, ⟨by (with_reducible repeat (first | apply Kd.R_alloc | apply Kd.R_drewN | apply Kd.R_drew)); exact Kd.R_mono HO166.out (fun _ hk => ⟨hk.2, ⟨hk.1.1.2, hk.1.2⟩⟩)⟩, ⟨by (with_reducible repeat (first | apply Kd.R_alloc | apply Kd.R_drewN | apply Kd.R_drew)); exact Kd.R_mono HO169.out (fun _ hk => ⟨hk.2, ⟨hk.1.1.2, hk.1.2⟩⟩)⟩, ⟨by (with_reducible repeat (first | apply Kd.R_alloc | apply Kd.R_drewN | apply Kd.R_drew)); exact Kd.R_mono HO_135001.out (fun _ hk => ⟨hk.1.2, ⟨hk.2, hk.1.1⟩⟩)⟩, ⟨by (with_reducible repeat (first | apply Kd.R_alloc | apply Kd.R_drewN | apply Kd.R_drew)); exact Kd.R_mono HO_135002.out (fun _ hk => ⟨hk.1.2, ⟨hk.2, hk.1.1⟩⟩)⟩, ⟨by (with_reducible repeat (first | refine blk_drewN ?_ _ | refine blk_drew ?_ | refine blk_alloc ?_ _)); exact BK101.out⟩, ⟨by (with_reducible repeat (first | refine blk_drewN ?_ _ | refine blk_drew ?_ | refine blk_alloc ?_ _)); exact BK102.out⟩, ⟨by (with_reducible repeat (first | refine blk_drewN ?_ _ | refine blk_drew ?_ | refine blk_alloc ?_ _)); exact BK103.out⟩, ⟨by (with_reducible repeat (first | refine blk_drewN ?_ _ | refine blk_drew ?_ | refine blk_alloc ?_ _)); exact BK134.out⟩, ⟨by repeat (first | (with_reducible first | exact HB.out | apply below_alloc | apply pw_below_drewN | apply below_drew1 | refine below_set ?_ GE101.out | refine below_set ?_ GE102.out | refine below_set ?_ GE103.out | refine below_set ?_ GE134.out) | exact HB.out)⟩⟩
                                  case round =>
                                    clear H'
                                    try clear c1
                                    try clear p1
                                    try clear q1
                                    try clear hx1
                                    try clear p2
                                    try clear c5
                                    try clear c6
                                    try clear p6
                                    try clear c7
                                    try clear c8
                                    try clear q8
                                    try clear c9
                                    try clear c10
                                    try clear p10
                                    try clear q10
                                    try clear hx10
                                    try clear hf10
                                    try clear c11
                                    try clear c12
                                    try clear p13
                                    try clear q13
                                    try clear hx13
                                    try clear p15
                                    try clear q15
                                    try clear hx15
                                    try clear p16
                                    try clear q16
                                    try clear hx16
                                    try clear c53
                                    try clear c58
                                    try clear c58b0
                                    try clear c59
                                    try clear c59b0
                                    try clear c60
                                    try clear c60b0
                                    try clear c61
                                    try clear c61b0
                                    try clear c63
                                    try clear c64
                                    try clear p64
                                    try clear c65
                                    try clear c68
                                    try clear c69
                                    try clear c73
                                    try clear c73b0
                                    try clear c75
                                    try clear c76
                                    try clear c77
                                    try clear c80
                                    try clear c81
                                    try clear c86
                                    try clear c86b0
                                    try clear c87
                                    try clear c87b0
                                    try clear q88
                                    try clear c89
                                    try clear c91
                                    try clear c92
                                    try clear c93
                                    try clear c97
                                    try clear c98
                                    try clear p102
                                    try clear q102
                                    try clear hx102
                                    try clear hf102
                                    try clear c103
                                    try clear c103b0
                                    try clear c104
                                    try clear c104b0
                                    try clear p105
                                    try clear q105
                                    try clear hx105
                                    try clear hf105
                                    try clear c106
                                    try clear c107
                                    try clear c108
                                    try clear c115
                                    try clear c115b0
                                    try clear c117
                                    try clear c117b0
                                    try clear c117b1
                                    try clear c118
                                    try clear c118b0
                                    try clear c118b1
                                    try clear c119
                                    try clear c120
                                    try clear c121
                                    try clear c123
                                    try clear c124
                                    try clear hcz109_0
                                    try clear hcz109_1
                                    try clear hcz109_2
                                    try clear hcz122_0
                                    try clear hcz122_1
                                    try clear hcz122_2
                                    try clear hcz125_0
                                    try clear hcz125_1
                                    try clear hcz125_2
                                    try clear hcz66_0
                                    try clear hcz66_1
                                    try clear hcz66_2
                                    try clear hcz70_0
                                    try clear hcz70_1
                                    try clear hcz70_2
                                    try clear hcz78_0
                                    try clear hcz78_1
                                    try clear hcz78_2
                                    try clear hcz82_0
                                    try clear hcz82_1
                                    try clear hcz82_2
                                    try clear hcz94_0
                                    try clear hcz94_1
                                    try clear hcz94_2
                                    try clear hcz99_0
                                    try clear hcz99_1
                                    try clear hcz99_2
                                    try clear hfz109_0
                                    try clear hfz109_1
                                    try clear hfz109_2
                                    try clear hfz122_0
                                    try clear hfz122_1
                                    try clear hfz122_2
                                    try clear hfz125_0
                                    try clear hfz125_1
                                    try clear hfz125_2
                                    try clear hfz66_0
                                    try clear hfz66_1
                                    try clear hfz66_2
                                    try clear hfz70_0
                                    try clear hfz70_1
                                    try clear hfz70_2
                                    try clear hfz78_0
                                    try clear hfz78_1
                                    try clear hfz78_2
                                    try clear hfz82_0
                                    try clear hfz82_1
                                    try clear hfz82_2
                                    try clear hfz94_0
                                    try clear hfz94_1
                                    try clear hfz94_2
                                    try clear hfz99_0
                                    try clear hfz99_1
                                    try clear hfz99_2
                                    try clear hx102_0
                                    try clear hx105_0
                                    try clear hx138_0
                                    try clear hx153_0
                                    try clear hx162_0
                                    try clear p1
                                    try clear p10
                                    try clear p102
                                    try clear p105
                                    try clear p13
                                    try clear p138
                                    try clear p15
                                    try clear p153
                                    try clear p16
                                    try clear p162
                                    try clear p2
                                    try clear p6
                                    try clear p64
                                    try clear q1
                                    try clear q10
                                    try clear q102
                                    try clear q105
                                    try clear q13
                                    try clear q138
                                    try clear q15
                                    try clear q153
                                    try clear q16
                                    try clear q162
                                    try clear q8
                                    try clear q88
                                    obtain ⟨x14_4, x15_4, rfl, HA, HK4, HO_13, HO_14, HO_135001, HO_135002, BK101, BK102, BK103, BK134, HB⟩ := hrel
                                    cases gk with
                                    | zero => exact absurd HA.out (by simp [spec_Transpose.l2])
                                    | succ k4 =>
                                      have H := HA.out
                                      clear HA
                                      simp only [spec_Transpose.l2] at H
                                      by_cases c130 : x15_4 < (l1_1.length : Int)
                                      · rw [if_pos c130] at H
                                        have c130b0 : decide (x15_4 < (l1_1.length : Int)) = true := decide_eq_true c130
                                        clear c130
                                        by_cases c131 : 0 ≤ x15_4
                                        · rw [if_pos c131] at H
                                          have c131b0 : decide (0 ≤ x15_4) = true := decide_eq_true c131
                                          clear c131
                                          by_cases c132 : x15_4 < (l0_2.length : Int)
                                          · rw [if_pos c132] at H
                                            have c132b0 : decide (x15_4 < (l0_2.length : Int)) = true := decide_eq_true c132
                                            clear c132
                                            obtain ⟨ji133, hji133⟩ : ∃ j_ : Int, (wrap64 ((rd l0_2 x15_4) - 1)) = j_ := ⟨_, rfl⟩
                                            replace H : (if 0 ≤ (ji133) then (if (ji133) < (t164.length : Int) then (if x15_4 < (x14_4.length : Int) then (spec_Transpose.l2 k4 (l1_1.length : Int) x12_3 t164 (x14_4.set (x15_4 : Int).toNat (rd t164 (ji133))) (wrap64 (x15_4 + 1)) a0_0 l0_1 l0_2 a1_0 l1_1 l1_2 a1_0 x135001_3 x135002_3) else (none)) else (none)) else (none)) = some (r1, r2, r3, r4) := by first | (rw [hji133] at H; exact H) | (simp only [hji133] at H ⊢; exact H)
                                            have hji133w : (IntKind.i64.wrap ((rd l0_2 x15_4) - 1)) = ji133 := (i64_w _).trans hji133
                                            by_cases c134 : 0 ≤ (ji133)
                                            · rw [if_pos c134] at H
                                              have c134b0 : decide (0 ≤ (ji133)) = true := decide_eq_true c134
                                              clear c134
                                              by_cases c135 : (ji133) < (t164.length : Int)
                                              · rw [if_pos c135] at H
                                                have c135b0 : decide ((ji133) < (t164.length : Int)) = true := decide_eq_true c135
                                                clear c135
                                                by_cases c136 : x15_4 < (x14_4.length : Int)
                                                · rw [if_pos c136] at H
                                                  have c136b0 : decide (x15_4 < (x14_4.length : Int)) = true := decide_eq_true c136
                                                  clear c136
                                                  obtain ⟨y172, hy172⟩ : ∃ y_ : List Int, y_ = (x14_4.set (x15_4 : Int).toNat (rd t164 (ji133))) := ⟨_, rfl⟩
                                                  replace H : (spec_Transpose.l2 k4 (l1_1.length : Int) x12_3 t164 y172 (wrap64 (x15_4 + 1)) a0_0 l0_1 l0_2 a1_0 l1_1 l1_2 a1_0 x135001_3 x135002_3) = some (r1, r2, r3, r4) := by first | (rw [hy172]; with_reducible exact H) | (have H2_ := (Option.bind_some _ _).symm.trans H; rw [hy172]; with_reducible exact H2_) | (have H2_ := (Option.bind_some _ _).symm.trans H; with_reducible exact H2_) | with_reducible exact H | (rw [hy172]; exact H) | exact H
                                                  have Ny172 := Aside0.mk hy172
                                                  clear hy172
                                                  have H' := Aside0.mk H
                                                  clear H
                                                  have hnb138 := NB101_102.out
                                                  have hnc138 := NB102_101.out
                                                  have hnb139 := NB101_103.out
                                                  have hnc139 := NB103_101.out
                                                  have hnb140 := NB101_134.out
                                                  have hnc140 := NB134_101.out
                                                  have hcz141_0 : wr.cell? ⟨gb101, 0, none⟩ = some (.bool a0_0) := (blk_cell BK101.out 0).trans rfl
                                                  have hcz141_1 : wr.cell? ⟨gb101, 1, none⟩ = some (.slice A0_1 l0_1.length c0_1) := (blk_cell BK101.out 1).trans rfl
                                                  have hcz141_2 : wr.cell? ⟨gb101, 2, none⟩ = some (.slice A0_2 l0_2.length c0_2) := (blk_cell BK101.out 2).trans rfl
                                                  have hfz141_0 := blk_frozen BK101.out 0
                                                  have hfz141_1 := blk_frozen BK101.out 1
                                                  have hfz141_2 := blk_frozen BK101.out 2
                                                  have p170 : 0 ≤ (x15_4 : Int) := of_decide_eq_true (by first | (with_reducible assumption) | assumption)
                                                  have q170 : x15_4 < (l0_2.length : Int) := of_decide_eq_true (by first | (with_reducible assumption) | assumption)
                                                  obtain ⟨ad170, e170, hx170_0⟩ := Kd.at_int HR0_2.out x15_4 p170 q170
                                                  cases e170
                                                  replace hx170_0 := (HB.out.cell (World.block_lt_of_cell? w _ hx170_0)).trans hx170_0
                                                  replace p170 := eq_true p170
                                                  replace q170 := eq_true q170
                                                  obtain ⟨Ao142, co142, eo142⟩ := Kd.R_slice HO_13.out
                                                  subst eo142
                                                  have p171 : 0 ≤ ((ji133) : Int) := of_decide_eq_true (by first | (with_reducible assumption) | assumption)
                                                  have q171 : (ji133) < (t164.length : Int) := of_decide_eq_true (by first | (with_reducible assumption) | assumption)
                                                  obtain ⟨ad171, e171, hx171_0⟩ := Kd.at_int (Kd.R_reads' HO_13.out).2.2 (ji133) p171 q171
                                                  cases e171
                                                  replace p171 := eq_true p171
                                                  replace q171 := eq_true q171
                                                  have p137 : 0 ≤ (x15_4 : Int) := of_decide_eq_true (by first | (with_reducible assumption) | assumption)
                                                  have q137 : (x15_4 : Int) < ((x14_4.length : Int) : Int) := of_decide_eq_true (by first | (with_reducible assumption) | assumption)
                                                  obtain ⟨go137, co137, eo137, gb137, gl137, cl137, HG137⟩ := Kd.R_form HO_14.out (by omega)
                                                  (first | cases eo137 | (injection eo137 with ea_ en_ ec_; (first | subst ea_ | (injection ea_ with ea_; subst ea_)); subst ec_; clear en_))
                                                  have GB137 := Aside0.mk gb137
                                                  have GG137 := Aside0.mk HG137
                                                  clear gb137 gl137 HG137
                                                  obtain ⟨hx137_0, hf137_0⟩ := Kd.R_celln 0 HO_14.out (x15_4 : Int) p137 q137
                                                  replace p137 := eq_true p137
                                                  replace q137 := eq_true q137
                                                  have HP143 := Kd.R_putg HO_14.out (x15_4 : Int) (rd t164 (ji133))
                                                  go_wp2_with (first | ((with_reducible refine gate_store (t := 3) (p := 114) rfl ?_); refine store_event (t := 3) (p := 114) (v := ?vo_w144) (w1 := (wr.setCell ⟨go137, (x15_4 : Int).toNat, none⟩ (.int .i64 (rd t164 (ji133))))) ?hg ?ho ?hn ?hr ?_; (case ho => rfl); (case hg => rfl); (case hn => rfl); (case hr => first | (go_simp; done) | (go_simp; rfl)); intro w144 hw; have hg : wr.grownBy w144 (some go137) := (by rw [hw]; exact HP143.2); have hp_ : Kd.R (Kd.int .i64) 3 w144 w.heap.size (fun k_ => some k_ ≠ (.slice (some ad171) t164.length co142 : Value).ownBlock ∧ some k_ ≠ (.slice Ao126 x135001_3.length co126 : Value).ownBlock ∧ some k_ ≠ (u135002 : Value).ownBlock) (.slice (some ⟨go137, 0, none⟩) x14_4.length co137) y172 := (by rw [hw, Ny172.out]; exact HP143.1); clear HP143; have n0_ := Aside0.mk (Kd.R_after (v := (.slice (some ⟨go137, 0, none⟩) x14_4.length co137)) (v1 := (.slice (some ⟨go137, 0, none⟩) x14_4.length co137)) (ok := (fun k_ => some k_ ≠ (.slice Ao126 x135001_3.length co126 : Value).ownBlock ∧ some k_ ≠ (u135002 : Value).ownBlock)) (by (with_reducible repeat (first | apply Kd.R_alloc | apply Kd.R_drewN | apply Kd.R_drew)); exact Kd.R_mono HO_13.out (fun _ hk => ⟨⟨hk.2.1, hk.2.2⟩, hk.1⟩)) hg (.inl rfl)); have n1_ := Aside0.mk (hp_); have n2_ := Aside0.mk (Kd.R_after (v := (.slice (some ⟨go137, 0, none⟩) x14_4.length co137)) (v1 := (.slice (some ⟨go137, 0, none⟩) x14_4.length co137)) (ok := (fun k_ => some k_ ≠ (.slice (some ad171) t164.length co142 : Value).ownBlock ∧ some k_ ≠ (u135002 : Value).ownBlock)) (by (with_reducible repeat (first | apply Kd.R_alloc | apply Kd.R_drewN | apply Kd.R_drew)); exact Kd.R_mono HO_135001.out (fun _ hk => ⟨⟨hk.1, hk.2.2⟩, hk.2.1⟩)) hg (.inl rfl)); have n3_ := Aside0.mk (Kd.R_after (v := (.slice (some ⟨go137, 0, none⟩) x14_4.length co137)) (v1 := (.slice (some ⟨go137, 0, none⟩) x14_4.length co137)) (ok := (fun k_ => some k_ ≠ (.slice (some ad171) t164.length co142 : Value).ownBlock ∧ some k_ ≠ (.slice Ao126 x135001_3.length co126 : Value).ownBlock)) (by (with_reducible repeat (first | apply Kd.R_alloc | apply Kd.R_drewN | apply Kd.R_drew)); exact Kd.R_mono HO_135002.out (fun _ hk => ⟨⟨hk.1, hk.2.2⟩, hk.2.1⟩)) hg (.inl rfl)); have n4_ := Aside0.mk (blk_grown (g := gb101) (o := .cells #[.bool a0_0, .slice A0_1 l0_1.length c0_1, .slice (some ad170) l0_2.length c0_2] 28 (0, 0)) (Bz BK101.out) hg (Kd.R_ne HO_14.out BK101.out (by decide))); have n5_ := Aside0.mk (blk_grown (g := gb102) (o := .cells #[.bool a1_0, .slice A1_1 l1_1.length c1_1, .slice A1_2 l1_2.length c1_2] 28 (0, 0)) (Bz BK102.out) hg (Kd.R_ne HO_14.out BK102.out (by decide))); have n6_ := Aside0.mk (blk_grown (g := gb103) (o := .cells #[.bool x104000_2, .slice none 0 0, .slice none 0 0] 28 (0, 0)) (Bz BK103.out) hg (Kd.R_ne HO_14.out BK103.out (by decide))); have n7_ := Aside0.mk (blk_grown (g := gb134) (o := .cells #[.bool a1_0, .slice Ao126 x135001_3.length co126, u135002] 28 (0, 0)) (Bz BK134.out) hg (Kd.R_ne HO_14.out BK134.out (by decide))); have n8_ := Aside0.mk ((by rw [hw]; exact below_set (HB.out) GB137.out : Below w.heap.size w w144)); clear HO_13; clear HO_14; clear HO_135001; clear HO_135002; clear BK101; clear BK102; clear BK103; clear BK134; clear HB; have HO_13 := n0_; have HO_14 := n1_; have HO_135001 := n2_; have HO_135002 := n3_; have BK101 := n4_; have BK102 := n5_; have BK103 := n6_; have BK134 := n7_; have HB := n8_; clear n0_ n1_ n2_ n3_ n4_ n5_ n6_ n7_ n8_; clear hg hw hp_))
                                                  go_roundg k4
                                                  case measure => have := HJ2.out; have := HK2.out; have := HK3.out; have := HK4.out; omega
                                                  case rel => exact ⟨(y172), (wrap64 (x15_4 + 1)), (by first | rfl | (simp; done) | (simp [*]; done)), H', ⟨by have := HJ2.out; have := HK2.out; have := HK3.out; have := HK4.out; omega⟩, ⟨by (with_reducible repeat (first | apply Kd.R_alloc | apply Kd.R_drewN | apply Kd.R_drew)); exact Kd.R_mono HO_13.out (fun _ hk => ⟨hk.2, ⟨hk.1.1, hk.1.2⟩⟩)⟩, ⟨by (with_reducible repeat (first | apply Kd.R_alloc | apply Kd.R_drewN | apply Kd.R_drew)); exact HO_14.out⟩, ⟨by (with_reducible repeat (first | apply Kd.R_alloc | apply Kd.R_drewN | apply Kd.R_drew)); exact Kd.R_mono HO_135001.out (fun _ hk => ⟨hk.1.1, ⟨hk.2, hk.1.2⟩⟩)⟩, ⟨by (with_reducible repeat (first | apply Kd.R_alloc | apply Kd.R_drewN | apply Kd.R_drew)); exact Kd.R_mono HO_135002.out (fun _ hk => ⟨hk.1.1, ⟨hk.2, hk.1.2⟩⟩)⟩, ⟨by (with_reducible repeat (first | refine blk_drewN ?_ _ | refine blk_drew ?_ | refine blk_alloc ?_ _)); exact BK101.out⟩, ⟨by (with_reducible repeat (first | refine blk_drewN ?_ _ | refine blk_drew ?_ | refine blk_alloc ?_ _)); exact BK102.out⟩, ⟨by (with_reducible repeat (first | refine blk_drewN ?_ _ | refine blk_drew ?_ | refine blk_alloc ?_ _)); exact BK103.out⟩, ⟨by (with_reducible repeat (first | refine blk_drewN ?_ _ | refine blk_drew ?_ | refine blk_alloc ?_ _)); exact BK134.out⟩, ⟨by repeat (first | (with_reducible first | exact HB.out | apply below_alloc | apply pw_below_drewN | apply below_drew1 | refine below_set ?_ GE101.out | refine below_set ?_ GE102.out | refine below_set ?_ GE103.out | refine below_set ?_ GE134.out) | exact HB.out)⟩⟩
                                                · rw [if_neg c136] at H
                                                  exact absurd H (by simp)
                                              · rw [if_neg c135] at H
                                                exact absurd H (by simp)
                                            · rw [if_neg c134] at H
                                              exact absurd H (by simp)
                                          · rw [if_neg c132] at H
                                            exact absurd H (by simp)
                                        · rw [if_neg c131] at H
                                          exact absurd H (by simp)
                                      · rw [if_neg c130] at H
                                        have c130b0 : decide (x15_4 < (l1_1.length : Int)) = false := decide_eq_false c130
                                        clear c130
                                        replace H := Option.bind_eq_some_iff.mp H
                                        obtain ⟨t173, A1450, H⟩ := H
                                        replace H : (if 0 ≤ t173 then (if t173 < (l1_2.length : Int) then (if x135002_3.length < 17592186044416 then (spec_Transpose.l1 k4 (l1_1.length : Int) (wrap64 (x12_3 + 1)) a0_0 l0_1 l0_2 a1_0 l1_1 l1_2 a1_0 x135001_3 (x135002_3 ++ [rd l1_2 t173])) else (none)) else (none)) else (none)) = some (r1, r2, r3, r4) := H
                                        have A145 := Aside0.mk A1450
                                        clear A1450
                                        by_cases c146 : 0 ≤ t173
                                        · rw [if_pos c146] at H
                                          have c146b0 : decide (0 ≤ t173) = true := decide_eq_true c146
                                          clear c146
                                          by_cases c147 : t173 < (l1_2.length : Int)
                                          · rw [if_pos c147] at H
                                            have c147b0 : decide (t173 < (l1_2.length : Int)) = true := decide_eq_true c147
                                            clear c147
                                            by_cases c148 : x135002_3.length < 17592186044416
                                            · rw [if_pos c148] at H
                                              have LMc148 := Aside0.mk c148
                                              clear c148
                                              obtain ⟨y175, hy175⟩ : ∃ y_ : List Int, y_ = (x135002_3 ++ [rd l1_2 t173]) := ⟨_, rfl⟩
                                              replace H : (spec_Transpose.l1 k4 (l1_1.length : Int) (wrap64 (x12_3 + 1)) a0_0 l0_1 l0_2 a1_0 l1_1 l1_2 a1_0 x135001_3 y175) = some (r1, r2, r3, r4) := by first | (rw [hy175]; with_reducible exact H) | (have H2_ := (Option.bind_some _ _).symm.trans H; rw [hy175]; with_reducible exact H2_) | (have H2_ := (Option.bind_some _ _).symm.trans H; with_reducible exact H2_) | with_reducible exact H | (rw [hy175]; exact H) | exact H
                                              have Ny175 := Aside0.mk hy175
                                              clear hy175
                                              have H' := Aside0.mk H
                                              clear H
                                              try go_wp2
                                              have n0_ := Aside0.mk (Kd.R_drew HO_13.out)
                                              have n1_ := Aside0.mk (Kd.R_drew HO_14.out)
                                              have n2_ := Aside0.mk (Kd.R_drew HO_135001.out)
                                              have n3_ := Aside0.mk (Kd.R_drew HO_135002.out)
                                              have n4_ := Aside0.mk (blk_drew BK101.out)
                                              have n5_ := Aside0.mk (blk_drew BK102.out)
                                              have n6_ := Aside0.mk (blk_drew BK103.out)
                                              have n7_ := Aside0.mk (blk_drew BK134.out)
                                              have n8_ := Aside0.mk (below_drew1 HB.out)
                                              clear HO_13
                                              clear HO_14
                                              clear HO_135001
                                              clear HO_135002
                                              clear BK101
                                              clear BK102
                                              clear BK103
                                              clear BK134
                                              clear HB
                                              have HO_13 := n0_
                                              have HO_14 := n1_
                                              have HO_135001 := n2_
                                              have HO_135002 := n3_
                                              have BK101 := n4_
                                              have BK102 := n5_
                                              have BK103 := n6_
                                              have BK134 := n7_
                                              have HB := n8_
                                              clear n0_ n1_ n2_ n3_ n4_ n5_ n6_ n7_ n8_
                                              obtain ⟨Ao150, co150, eo150⟩ := Kd.R_slice HO_14.out
                                              (first | subst eo150 | (injection eo150 with f1_ f2_ f3_; have f4_ := f1_.symm; have f5_ := f3_.symm; clear f1_ f2_ f3_; subst f4_; subst f5_))
                                              have p174 : 0 ≤ (t173 : Int) := of_decide_eq_true (by first | (with_reducible assumption) | assumption)
                                              have q174 : t173 < (l1_2.length : Int) := of_decide_eq_true (by first | (with_reducible assumption) | assumption)
                                              obtain ⟨ad174, e174, hx174_0⟩ := Kd.at_int HR1_2.out t173 p174 q174
                                              have hw174_0 := hx174_0
                                              cases e174
                                              replace hx174_0 := (HB.out.cell (World.block_lt_of_cell? w _ hx174_0)).trans hx174_0
                                              replace p174 := eq_true p174
                                              replace q174 := eq_true q174
                                              refine start_ (n := 14) (S := fun w' => w'.cell? ⟨gb134, 0, none⟩ = some (.bool a1_0) ∧ w'.cell? ⟨gb134, 1, none⟩ = some (.slice Ao126 x135001_3.length co126) ∧ w'.cell? ⟨gb134, 2, none⟩ = some (u135002) ∧ w'.cell? ⟨gb102, 0, none⟩ = some (.bool a1_0) ∧ w'.cell? ⟨gb102, 1, none⟩ = some (.slice A1_1 l1_1.length c1_1) ∧ w'.cell? ⟨gb102, 2, none⟩ = some (.slice (some ad174) l1_2.length c1_2) ∧ w'.cell? (ad174.add (t173).toNat) = some (.int .i64 (rd l1_2 t173))) (ds := [13]) #[false, false, false, false, false, false, false, false, false, false, false, false, false, false] (by kernel_rfl) rfl rfl ⟨(blk_cell BK134.out 0).trans rfl, (blk_cell BK134.out 1).trans rfl, (blk_cell BK134.out 2).trans rfl, (blk_cell BK102.out 0).trans rfl, (blk_cell BK102.out 1).trans rfl, (blk_cell BK102.out 2).trans rfl, ((HB.out.cell (World.block_lt_of_cell? w _ hw174_0)).trans hw174_0)⟩ (fun hHeld => ?_); refine with_tabW spec_Transpose.tab28 spec_Transpose.bits28 (fun HT_ HW_ => ?_)
                                              generalize wr.drew = w149 at HO_13 HO_14 HO_135001 HO_135002 BK101 BK102 BK103 BK134 HB hx174_0 hHeld ⊢
                                              refine pure_ (i := 0) (N := some 115) (v := ?_) (a' := ?_) #[true, false, false, false, false, false, false, false, false, false, false, false, false, false] rfl rfl (any_of HT_.out (by kernel_rfl)) (fun _ _ _ h => h) (Or.inl ⟨by rfl, ?_⟩) ?_ ?_
                                              rotate_left
                                              · intro w'
                                                go_simp
                                                with_reducible rfl
                                              rotate_left
                                              · simp only [Act.put, List.setIfInBounds_toArray, List.set_cons_zero, List.set_cons_succ, i64_w, i32_w]
                                                rfl
                                              refine pure_ (i := 2) (N := some 117) (v := ?_) (a' := ?_) #[true, false, true, false, false, false, false, false, false, false, false, false, false, false] rfl rfl (any_of HT_.out (by kernel_rfl)) (fun _ _ _ h => h) (Or.inl ⟨by rfl, ?_⟩) ?_ ?_
                                              rotate_left
                                              · intro w'
                                                go_simp
                                                with_reducible rfl
                                              rotate_left
                                              · simp only [Act.put, List.setIfInBounds_toArray, List.set_cons_zero, List.set_cons_succ, i64_w, i32_w]
                                                rfl
                                              refine pure_ (i := 4) (N := some 119) (v := ?_) (a' := ?_) #[true, false, true, false, true, false, false, false, false, false, false, false, false, false] rfl rfl (any_of HT_.out (by kernel_rfl)) (fun _ _ _ h => h) (Or.inl ⟨by rfl, ?_⟩) ?_ ?_
                                              rotate_left
                                              · intro w'
                                                go_simp
                                                with_reducible rfl
                                              rotate_left
                                              · simp only [Act.put, List.setIfInBounds_toArray, List.set_cons_zero, List.set_cons_succ, i64_w, i32_w]
                                                rfl
                                              refine pure_ (i := 6) (N := some 121) (v := ?_) (a' := ?_) #[true, false, true, false, true, false, true, false, false, false, false, false, false, false] rfl rfl (any_of HT_.out (by kernel_rfl)) (fun _ _ _ h => h) (Or.inl ⟨by rfl, ?_⟩) ?_ ?_
                                              rotate_left
                                              · intro w'
                                                go_simp
                                                with_reducible rfl
                                              rotate_left
                                              · simp only [Act.put, List.setIfInBounds_toArray, List.set_cons_zero, List.set_cons_succ, i64_w, i32_w]
                                                rfl
                                              refine take_ (i := 1) (N := some 116) (v := ?_) (a' := ?_) #[true, true, true, false, true, false, true, false, false, false, false, false, false, false] rfl rfl (take_ofW HT_.out HW_.out (by kernel_rfl)) (fun _ _ _ h => h) (Or.inl ⟨by rfl, ?_⟩) hHeld ?_ ?_
                                              rotate_left
                                              · rintro w' ⟨s0, s1, s2, s3, s4, s5, s6⟩
                                                go_simp
                                                with_reducible rfl
                                              rotate_left
                                              · simp only [Act.put, List.setIfInBounds_toArray, List.set_cons_zero, List.set_cons_succ, i64_w, i32_w]
                                                rfl
                                              refine take_ (i := 3) (N := some 118) (v := ?_) (a' := ?_) #[true, true, true, true, true, false, true, false, false, false, false, false, false, false] rfl rfl (take_ofW HT_.out HW_.out (by kernel_rfl)) (fun _ _ _ h => h) (Or.inl ⟨by rfl, ?_⟩) hHeld ?_ ?_
                                              rotate_left
                                              · rintro w' ⟨s0, s1, s2, s3, s4, s5, s6⟩
                                                go_simp
                                                with_reducible rfl
                                              rotate_left
                                              · simp only [Act.put, List.setIfInBounds_toArray, List.set_cons_zero, List.set_cons_succ, i64_w, i32_w]
                                                rfl
                                              refine take_ (i := 5) (N := some 120) (v := ?_) (a' := ?_) #[true, true, true, true, true, true, true, false, false, false, false, false, false, false] rfl rfl (take_ofW HT_.out HW_.out (by kernel_rfl)) (fun _ _ _ h => h) (Or.inl ⟨by rfl, ?_⟩) hHeld ?_ ?_
                                              rotate_left
                                              · rintro w' ⟨s0, s1, s2, s3, s4, s5, s6⟩
                                                go_simp
                                                with_reducible rfl
                                              rotate_left
                                              · simp only [Act.put, List.setIfInBounds_toArray, List.set_cons_zero, List.set_cons_succ, i64_w, i32_w]
                                                rfl
                                              refine one_ (i := 7) (N := some 122) #[true, true, true, true, true, true, true, true, false, false, false, false, false, false] rfl rfl (one_of HT_.out (by kernel_rfl)) (by decide) (fun K hK => ?_)
                                              refine goes_ Try.func78 (by kernel_rfl) rfl #[.slice A1_1 l1_1.length c1_1, .slice Ao150 x14_4.length co150] (by rfl) rfl rfl (by (try simp only [List.map_toArray, List.map_cons, List.map_nil]); first | done | rfl | (simp only [List.length_drop, List.length_take]; rfl)) ?_
                                              with_reducible refine (spec_l5At.calls k4 _ _ l1_1 _ _ x14_4 t173 _ ?side1 ?side2 ?side3 ?side4 A145.out).mono ?_
                                              (case side1 => repeat (first | exact (Kd.C_below HR1_1.out HB.out) | (with_reducible refine Kd.C_alloc ?_ _) | (with_reducible refine Kd.C_drewN ?_ _) | (with_reducible refine Kd.C_drew ?_)))
                                              (case side2 => exact HC1_1.out)
                                              (case side3 => repeat (first | exact (Kd.R_reads' HO_14.out).2.2 | (with_reducible refine Kd.C_alloc ?_ _) | (with_reducible refine Kd.C_drewN ?_ _) | (with_reducible refine Kd.C_drew ?_)))
                                              (case side4 => exact (Kd.R_reads' HO_14.out).2.1)
                                              rintro e w' ⟨rfl, ⟨nd, rfl⟩⟩
                                              refine ⟨_, rfl, ?_⟩
                                              refine hK.out _ _ ⟨(blk_cell BK134.out 0).trans rfl, (blk_cell BK134.out 1).trans rfl, (blk_cell BK134.out 2).trans rfl, (blk_cell BK102.out 0).trans rfl, (blk_cell BK102.out 1).trans rfl, (blk_cell BK102.out 2).trans rfl, ((HB.out.cell (World.block_lt_of_cell? w _ hw174_0)).trans hw174_0)⟩ (fun hHeld => ?_)
                                              clear hK K
                                              refine norm_ (a' := ?_) ?_ ?_
                                              rotate_left
                                              · show Act.put _ (some 122) _ = _
                                                simp only [Act.put, List.setIfInBounds_toArray, List.set_cons_zero, List.set_cons_succ, i64_w, i32_w]
                                                rfl
                                              refine pure_ (i := 8) (N := some 123) (v := ?_) (a' := ?_) #[true, true, true, true, true, true, true, true, true, false, false, false, false, false] rfl rfl (any_of HT_.out (by kernel_rfl)) (fun _ _ _ h => h) (Or.inl ⟨by rfl, ?_⟩) ?_ ?_
                                              rotate_left
                                              · intro w'
                                                go_simp
                                                with_reducible rfl
                                              rotate_left
                                              · simp only [Act.put, List.setIfInBounds_toArray, List.set_cons_zero, List.set_cons_succ, i64_w, i32_w]
                                                rfl
                                              refine take_ (i := 9) (N := some 124) (v := ?_) (a' := ?_) #[true, true, true, true, true, true, true, true, true, true, false, false, false, false] rfl rfl (take_ofW HT_.out HW_.out (by kernel_rfl)) (fun _ _ _ h => h) (Or.inl ⟨by rfl, ?_⟩) hHeld ?_ ?_
                                              rotate_left
                                              · rintro w' ⟨s0, s1, s2, s3, s4, s5, s6⟩
                                                go_simp
                                                with_reducible rfl
                                              rotate_left
                                              · simp only [Act.put, List.setIfInBounds_toArray, List.set_cons_zero, List.set_cons_succ, i64_w, i32_w]
                                                rfl
                                              refine one_ (i := 10) (N := some 125) #[true, true, true, true, true, true, true, true, true, true, true, false, false, false] rfl rfl (one_of HT_.out (by kernel_rfl)) (by decide) (fun K hK => ?_)
                                              refine value_ (w1 := ?_) (v := ?_) (by rfl) rfl ?_ ?_
                                              rotate_left 2
                                              · go_simp
                                                constructor
                                                · rfl
                                                · rfl
                                              refine hK.out _ _ ⟨(blk_cell (blk_alloc BK134.out _) 0).trans rfl, (blk_cell (blk_alloc BK134.out _) 1).trans rfl, (blk_cell (blk_alloc BK134.out _) 2).trans rfl, (blk_cell (blk_alloc BK102.out _) 0).trans rfl, (blk_cell (blk_alloc BK102.out _) 1).trans rfl, (blk_cell (blk_alloc BK102.out _) 2).trans rfl, (World.cell?_alloc_lt _ _ _ (World.block_lt_of_cell? _ _ (((HB.out.cell (World.block_lt_of_cell? w _ hw174_0)).trans hw174_0)))).trans (((HB.out.cell (World.block_lt_of_cell? w _ hw174_0)).trans hw174_0))⟩ (fun hHeld => ?_)
                                              clear hK K
                                              refine norm_ (a' := ?_) ?_ ?_
                                              rotate_left
                                              · show Act.put _ (some 125) _ = _
                                                simp only [Act.put, List.setIfInBounds_toArray, List.set_cons_zero, List.set_cons_succ, i64_w, i32_w]
                                                rfl
                                              refine one_ (i := 11) (N := some 126) #[true, true, true, true, true, true, true, true, true, true, true, true, false, false] rfl rfl (one_of HT_.out (by kernel_rfl)) (by decide) (fun K hK => ?_)
                                              refine Kd.R_append_step (Kd.int .i64) (w0 := w) w.heap.size (by rfl) (.tmp 116) (.tmp 125) 22 3 (.int .i64 0) 8 rfl Try.underlying22 info3 rfl (by decide) (by omega) u135002 x135002_3 (rd l1_2 t173) [.int .i64 (rd l1_2 t173)] (fun k_ => some k_ ≠ (v165 : Value).ownBlock ∧ some k_ ≠ (.slice Ao150 x14_4.length co150 : Value).ownBlock ∧ some k_ ≠ (.slice Ao126 x135001_3.length co126 : Value).ownBlock) (fun _ => False) rfl rfl ?aP (fun _ hk => hk.elim) ?aF ?aO ?aB ?aS ?aL ?_
                                              (case aP => exact rfl)
                                              (case aB => exact (by repeat (first | (with_reducible first | exact HB.out | apply below_alloc | apply pw_below_drewN | apply below_drew1 | refine below_set ?_ GE101.out | refine below_set ?_ GE102.out | refine below_set ?_ GE103.out | refine below_set ?_ GE134.out) | exact HB.out)))
                                              (case aF => exact (fun k_ hk => ⟨Kd.fresh' (Kd.R_lt (Rz HO_13.out)) k_ hk, Kd.fresh' (Kd.R_lt (Rz HO_14.out)) k_ hk, Kd.fresh' (Kd.R_lt (Rz HO_135001.out)) k_ hk⟩))
                                              (case aO => exact (Rz HO_135002.out))
                                              (case aS => exact (below_size (by repeat (first | (with_reducible first | exact HB.out | apply below_alloc | apply pw_below_drewN | apply below_drew1 | refine below_set ?_ GE101.out | refine below_set ?_ GE102.out | refine below_set ?_ GE103.out | refine below_set ?_ GE134.out) | exact HB.out))))
                                              (case aL => have := LMc148.out; omega)
                                              intro v176 w151 ho hb hg hat
                                              rw [← Ny175.out] at ho
                                              have n0_ := Aside0.mk (Kd.R_after (ok := (fun k_ => some k_ ≠ (.slice Ao150 x14_4.length co150 : Value).ownBlock ∧ some k_ ≠ (.slice Ao126 x135001_3.length co126 : Value).ownBlock)) (by (with_reducible repeat (first | apply Kd.R_alloc | apply Kd.R_drewN | apply Kd.R_drew)); exact Kd.R_mono HO_13.out (fun _ hk => ⟨⟨hk.1, hk.2.1⟩, hk.2.2⟩)) hg hat)
                                              have n1_ := Aside0.mk (Kd.R_after (ok := (fun k_ => some k_ ≠ (v165 : Value).ownBlock ∧ some k_ ≠ (.slice Ao126 x135001_3.length co126 : Value).ownBlock)) (by (with_reducible repeat (first | apply Kd.R_alloc | apply Kd.R_drewN | apply Kd.R_drew)); exact Kd.R_mono HO_14.out (fun _ hk => ⟨⟨hk.1, hk.2.1⟩, hk.2.2⟩)) hg hat)
                                              have n2_ := Aside0.mk (Kd.R_after (ok := (fun k_ => some k_ ≠ (v165 : Value).ownBlock ∧ some k_ ≠ (.slice Ao150 x14_4.length co150 : Value).ownBlock)) (by (with_reducible repeat (first | apply Kd.R_alloc | apply Kd.R_drewN | apply Kd.R_drew)); exact Kd.R_mono HO_135001.out (fun _ hk => ⟨⟨hk.1, hk.2.1⟩, hk.2.2⟩)) hg hat)
                                              have n3_ := Aside0.mk (blk_grown (g := gb101) (o := .cells #[.bool a0_0, .slice A0_1 l0_1.length c0_1, .slice A0_2 l0_2.length c0_2] 28 (0, 0)) (Bz BK101.out) hg (Kd.R_ne HO_135002.out BK101.out (by decide)))
                                              have n4_ := Aside0.mk (blk_grown (g := gb102) (o := .cells #[.bool a1_0, .slice A1_1 l1_1.length c1_1, .slice (some ad174) l1_2.length c1_2] 28 (0, 0)) (Bz BK102.out) hg (Kd.R_ne HO_135002.out BK102.out (by decide)))
                                              have n5_ := Aside0.mk (blk_grown (g := gb103) (o := .cells #[.bool x104000_2, .slice none 0 0, .slice none 0 0] 28 (0, 0)) (Bz BK103.out) hg (Kd.R_ne HO_135002.out BK103.out (by decide)))
                                              have n6_ := Aside0.mk (blk_grown (g := gb134) (o := .cells #[.bool a1_0, .slice Ao126 x135001_3.length co126, u135002] 28 (0, 0)) (Bz BK134.out) hg (Kd.R_ne HO_135002.out BK134.out (by decide)))
                                              have n7_ := Aside0.mk (hb)
                                              have n8_ := Aside0.mk (ho)
                                              clear HO_13
                                              clear HO_14
                                              clear HO_135001
                                              clear BK101
                                              clear BK102
                                              clear BK103
                                              clear BK134
                                              clear HB
                                              clear HO_135002
                                              have HO_13 := n0_
                                              have HO_14 := n1_
                                              have HO_135001 := n2_
                                              have BK101 := n3_
                                              have BK102 := n4_
                                              have BK103 := n5_
                                              have BK134 := n6_
                                              have HB := n7_
                                              have HO177 := n8_
                                              clear n0_ n1_ n2_ n3_ n4_ n5_ n6_ n7_ n8_
                                              clear ho hb hg hat
                                              obtain ⟨Ao152, co152, eo152⟩ := Kd.R_slice HO177.out
                                              (first | subst eo152 | (injection eo152 with f1_ f2_ f3_; have f4_ := f1_.symm; have f5_ := f3_.symm; clear f1_ f2_ f3_; subst f4_; subst f5_))
                                              refine hK.out _ _ ⟨(blk_cell BK134.out 0).trans rfl, (blk_cell BK134.out 1).trans rfl, (blk_cell BK134.out 2).trans rfl, (blk_cell BK102.out 0).trans rfl, (blk_cell BK102.out 1).trans rfl, (blk_cell BK102.out 2).trans rfl, ((HB.out.cell (World.block_lt_of_cell? w _ hw174_0)).trans hw174_0)⟩ (fun hHeld => ?_)
                                              clear hK K
                                              refine norm_ (a' := ?_) ?_ ?_
                                              rotate_left
                                              · show Act.put _ (some 126) _ = _
                                                simp only [Act.put, List.setIfInBounds_toArray, List.set_cons_zero, List.set_cons_succ, i64_w, i32_w]
                                                rfl
                                              refine pure_ (i := 12) (N := some 127) (v := ?_) (a' := ?_) #[true, true, true, true, true, true, true, true, true, true, true, true, true, false] rfl rfl (any_of HT_.out (by kernel_rfl)) (fun _ _ _ h => h) (Or.inl ⟨by rfl, ?_⟩) ?_ ?_
                                              rotate_left
                                              · intro w'
                                                go_simp
                                                with_reducible rfl
                                              rotate_left
                                              · simp only [Act.put, List.setIfInBounds_toArray, List.set_cons_zero, List.set_cons_succ, i64_w, i32_w]
                                                rfl
                                              refine last_ (i := 13) (N := none) #[true, true, true, true, true, true, true, true, true, true, true, true, true, true] rfl rfl (one_of HT_.out (by kernel_rfl)) (by decide) (fun K hK => ?_)
                                              have hs153 : w151.cell? ⟨gb134, 2, none⟩ = some (u135002) := (blk_cell BK134.out 2).trans rfl
                                              have hfs153 := blk_frozen BK134.out 2
                                              have hns153_0 := NB101_134.out
                                              have hns153_1 := NB102_134.out
                                              have hns153_2 := NB103_134.out
                                              have hms153_0 := NB134_101.out
                                              have hms153_1 := NB134_102.out
                                              have hms153_2 := NB134_103.out
                                              refine skip_ (w1 := ?_) (by rfl) rfl ?_ ?_
                                              rotate_left
                                              · go_simp
                                                rfl
                                              refine hK.out _ _ ?_
                                              clear hK K
                                              refine done_ (done_of HT_.out (by kernel_rfl)) ?_
                                              try go_wp2
                                              go_roundg k4
                                              case measure => have := HJ2.out; have := HK2.out; have := HK3.out; have := HK4.out; omega
                                              case rel => exact ⟨(wrap64 (x12_3 + 1)), (x135001_3), (y175), (.slice Ao126 x135001_3.length co126), (.slice Ao152 y175.length co152), (by first | rfl | (simp; done) | (simp [*]; done)), H', ⟨by have := HJ2.out; have := HK2.out; have := HK3.out; have := HK4.out; omega⟩, ⟨by (with_reducible repeat (first | apply Kd.R_alloc | apply Kd.R_drewN | apply Kd.R_drew)); exact Kd.R_mono (Kd.R_far (p := ⟨gb134, 2, none⟩) (Kd.R_types HO_135001.out BK134.out (by decide)) (fun _ hk => hk.2) (.slice Ao152 y175.length co152)) (fun _ hk => hk.1.2)⟩, ⟨by (with_reducible repeat (first | apply Kd.R_alloc | apply Kd.R_drewN | apply Kd.R_drew)); exact Kd.R_mono (Kd.R_far (p := ⟨gb134, 2, none⟩) (Kd.R_types HO177.out BK134.out (by decide)) (fun _ hk => hk.2) (.slice Ao152 y175.length co152)) (fun _ hk => hk.1.2.2)⟩, ⟨by (with_reducible repeat (first | refine blk_drewN ?_ _ | refine blk_drew ?_ | refine blk_alloc ?_ _)); refine blk_far ?_ NB101_134.out _; (with_reducible repeat (first | refine blk_drewN ?_ _ | refine blk_drew ?_ | refine blk_alloc ?_ _)); exact BK101.out⟩, ⟨by (with_reducible repeat (first | refine blk_drewN ?_ _ | refine blk_drew ?_ | refine blk_alloc ?_ _)); refine blk_far ?_ NB102_134.out _; (with_reducible repeat (first | refine blk_drewN ?_ _ | refine blk_drew ?_ | refine blk_alloc ?_ _)); exact BK102.out⟩, ⟨by (with_reducible repeat (first | refine blk_drewN ?_ _ | refine blk_drew ?_ | refine blk_alloc ?_ _)); refine blk_far ?_ NB103_134.out _; (with_reducible repeat (first | refine blk_drewN ?_ _ | refine blk_drew ?_ | refine blk_alloc ?_ _)); exact BK103.out⟩, ⟨by (with_reducible repeat (first | refine blk_drewN ?_ _ | refine blk_drew ?_ | refine blk_alloc ?_ _)); refine blk_put (cs := #[.bool a1_0, .slice Ao126 x135001_3.length co126, u135002]) ?_ 2 _ rfl; (with_reducible repeat (first | refine blk_drewN ?_ _ | refine blk_drew ?_ | refine blk_alloc ?_ _)); exact BK134.out⟩, ⟨by repeat (first | (with_reducible first | exact HB.out | apply below_alloc | apply pw_below_drewN | apply below_drew1 | refine below_set ?_ GE101.out | refine below_set ?_ GE102.out | refine below_set ?_ GE103.out | refine below_set ?_ GE134.out) | exact HB.out)⟩⟩
                                            · rw [if_neg c148] at H
                                              exact absurd H (by simp)
                                          · rw [if_neg c147] at H
                                            exact absurd H (by simp)
                                        · rw [if_neg c146] at H
                                          exact absurd H (by simp)
                                · rw [if_neg c118] at H
                                  exact absurd H (by simp)
                              · rw [if_neg c117] at H
                                exact absurd H (by simp)
                            · rw [if_neg c115] at H
                              have c115b0 : decide (x12_3 < (l1_2.length : Int)) = false := decide_eq_false c115
                              clear c115
                              simp only [Option.some.injEq, Prod.mk.injEq] at H
                              obtain ⟨rfl, rfl, rfl, rfl⟩ := H
                              have hnb154 := NB102_101.out
                              have hnc154 := NB101_102.out
                              have hnb155 := NB102_103.out
                              have hnc155 := NB103_102.out
                              have hnb156 := NB102_134.out
                              have hnc156 := NB134_102.out
                              have hcz157_0 : wr.cell? ⟨gb102, 0, none⟩ = some (.bool a1_0) := (blk_cell BK102.out 0).trans rfl
                              have hcz157_1 : wr.cell? ⟨gb102, 1, none⟩ = some (.slice A1_1 l1_1.length c1_1) := (blk_cell BK102.out 1).trans rfl
                              have hcz157_2 : wr.cell? ⟨gb102, 2, none⟩ = some (.slice A1_2 l1_2.length c1_2) := (blk_cell BK102.out 2).trans rfl
                              have hfz157_0 := blk_frozen BK102.out 0
                              have hfz157_1 := blk_frozen BK102.out 1
                              have hfz157_2 := blk_frozen BK102.out 2
                              have hnb158 := NB134_101.out
                              have hnc158 := NB101_134.out
                              have hnb159 := NB134_103.out
                              have hnc159 := NB103_134.out
                              have hcz160_0 : wr.cell? ⟨gb134, 0, none⟩ = some (.bool a1_0) := (blk_cell BK134.out 0).trans rfl
                              have hcz160_1 : wr.cell? ⟨gb134, 1, none⟩ = some (u135001) := (blk_cell BK134.out 1).trans rfl
                              have hcz160_2 : wr.cell? ⟨gb134, 2, none⟩ = some (u135002) := (blk_cell BK134.out 2).trans rfl
                              have hfz160_0 := blk_frozen BK134.out 0
                              have hfz160_1 := blk_frozen BK134.out 1
                              have hfz160_2 := blk_frozen BK134.out 2
                              have hnb161 := NB103_101.out
                              have hnc161 := NB101_103.out
                              have hcz162_0 : wr.cell? ⟨gb103, 0, none⟩ = some (.bool x104000_2) := (blk_cell BK103.out 0).trans rfl
                              have hcz162_1 : wr.cell? ⟨gb103, 1, none⟩ = some (.slice none 0 0) := (blk_cell BK103.out 1).trans rfl
                              have hcz162_2 : wr.cell? ⟨gb103, 2, none⟩ = some (.slice none 0 0) := (blk_cell BK103.out 2).trans rfl
                              have hfz162_0 := blk_frozen BK103.out 0
                              have hfz162_1 := blk_frozen BK103.out 1
                              have hfz162_2 := blk_frozen BK103.out 2
                              obtain ⟨Ao163, co163, eo163⟩ := Kd.R_slice HO_135001.out
                              subst eo163
                              obtain ⟨Ao164, co164, eo164⟩ := Kd.R_slice HO_135002.out
                              subst eo164
                              go_wp2
                              refine bodyPost_ret (results_ct rfl _ _ gb103 28 #[.bool a1_0, .slice Ao163 x135001_3.length co163, .slice Ao164 x135002_3.length co164] (0, 0) _ rfl (by (with_reducible repeat (first | refine blk_drewN ?_ _ | refine blk_drew ?_ | refine blk_alloc ?_ _)); refine blk_put (cs := #[.bool a1_0, .slice Ao163 x135001_3.length co163, .slice none 0 0]) ?_ 2 _ rfl; (with_reducible repeat (first | refine blk_drewN ?_ _ | refine blk_drew ?_ | refine blk_alloc ?_ _)); refine blk_put (cs := #[.bool a1_0, .slice none 0 0, .slice none 0 0]) ?_ 1 _ rfl; (with_reducible repeat (first | refine blk_drewN ?_ _ | refine blk_drew ?_ | refine blk_alloc ?_ _)); refine blk_put (cs := #[.bool x104000_2, .slice none 0 0, .slice none 0 0]) ?_ 0 _ rfl; (with_reducible repeat (first | refine blk_drewN ?_ _ | refine blk_drew ?_ | refine blk_alloc ?_ _)); exact BK103.out) Try.underlying28 rfl (by kernel_rfl)) rfl ?_
                              exact ⟨_, _, by first | rfl | (simp [errW_none, errW_some] <;> rfl) | (simp [*, errW_none, errW_some] <;> rfl), by (with_reducible repeat (first | apply Kd.R_alloc | apply Kd.R_drewN | apply Kd.R_drew)); exact Kd.R_mono (Kd.R_far (p := ⟨gb103, 2, none⟩) (Kd.R_far (p := ⟨gb103, 1, none⟩) (Kd.R_far (p := ⟨gb103, 0, none⟩) (Kd.R_types HO_135001.out BK103.out (by decide)) (fun _ hk => hk.2) (.bool a1_0)) (fun _ hk => hk.2) (.slice Ao163 x135001_3.length co163)) (fun _ hk => hk.2) (.slice Ao164 x135002_3.length co164)) (fun _ hk => hk.1), by (with_reducible repeat (first | apply Kd.R_alloc | apply Kd.R_drewN | apply Kd.R_drew)); exact Kd.R_mono (Kd.R_far (p := ⟨gb103, 2, none⟩) (Kd.R_far (p := ⟨gb103, 1, none⟩) (Kd.R_far (p := ⟨gb103, 0, none⟩) (Kd.R_types HO_135002.out BK103.out (by decide)) (fun _ hk => hk.2) (.bool a1_0)) (fun _ hk => hk.2) (.slice Ao163 x135001_3.length co163)) (fun _ hk => hk.2) (.slice Ao164 x135002_3.length co164)) (fun _ hk => hk.1), by repeat (first | (with_reducible first | exact HB.out | apply below_alloc | apply pw_below_drewN | apply below_drew1 | refine below_set ?_ GE101.out | refine below_set ?_ GE102.out | refine below_set ?_ GE103.out | refine below_set ?_ GE134.out) | exact HB.out)⟩
                · rw [if_neg c34] at H
                  exact absurd H (by simp)
              · rw [if_neg c33] at H
                exact absurd H (by simp)
            · rw [if_neg c32] at H
              exact absurd H (by simp)
          · rw [if_neg c31] at H
            have c31b0 : ((l0_2.length : Int) == (l1_1.length : Int)) = false := beq_eq_false_iff_ne.mpr c31
            have c31b1 : ((l0_2.length : Int) != (l1_1.length : Int)) = true := bne_iff_ne.mpr c31
            have c31b2 : (l0_2.length == l1_1.length) = false := by first | simpa using c31 | (simp at c31 ⊢; omega)
            replace H := Option.bind_eq_some_iff.mp H
            obtain ⟨⟨t121, t122, t125⟩, A1650, H⟩ := H
            replace H : (some (t121, t122, t125, 5)) = some (r1, r2, r3, r4) := H
            have A165 := Aside0.mk A1650
            clear A1650
            simp only [Option.some.injEq, Prod.mk.injEq] at H
            obtain ⟨rfl, rfl, rfl, rfl⟩ := H
            have hnb166 := NB101_102.out
            have hnc166 := NB102_101.out
            have hnb167 := NB101_103.out
            have hnc167 := NB103_101.out
            have hcz168_0 : wc.cell? ⟨gb101, 0, none⟩ = some (.bool a0_0) := (blk_cell BK101.out 0).trans rfl
            have hcz168_1 : wc.cell? ⟨gb101, 1, none⟩ = some (.slice A0_1 l0_1.length c0_1) := (blk_cell BK101.out 1).trans rfl
            have hcz168_2 : wc.cell? ⟨gb101, 2, none⟩ = some (.slice A0_2 l0_2.length c0_2) := (blk_cell BK101.out 2).trans rfl
            have hfz168_0 := blk_frozen BK101.out 0
            have hfz168_1 := blk_frozen BK101.out 1
            have hfz168_2 := blk_frozen BK101.out 2
            go_wp2_with (first | ((with_reducible refine gate_callee (f := 71) rfl ?_); refine goesL_ (some 26) rfl rfl Try.func71 (by kernel_rfl) rfl #[.agg #[.bool a0_0, .slice A0_1 l0_1.length c0_1, .slice A0_2 l0_2.length c0_2]] rfl (by (try simp only [List.map_toArray, List.map_cons, List.map_nil]); first | done | rfl | (simp only [List.length_drop, List.length_take]; rfl)) ?_; (with_reducible refine (spec_l5List.calls a0_0 _ _ l0_1 _ _ l0_2 t113 _ ?side1 ?side2 ?side3 ?side4 A29.out).mono ?_); (case side1 => repeat (first | exact (Kd.C_below HR0_1.out HB.out) | (with_reducible refine Kd.C_alloc ?_ _) | (with_reducible refine Kd.C_drewN ?_ _) | (with_reducible refine Kd.C_drew ?_))); (case side2 => exact HC0_1.out); (case side3 => repeat (first | exact (Kd.C_below HR0_2.out HB.out) | (with_reducible refine Kd.C_alloc ?_ _) | (with_reducible refine Kd.C_drewN ?_ _) | (with_reducible refine Kd.C_drew ?_))); (case side4 => exact HC0_2.out); rintro e w169 ⟨rfl, hb⟩; refine ⟨_, rfl, ?_⟩; have n0_ := Aside0.mk (blk_below (g := gb101) (o := .cells #[.bool a0_0, .slice A0_1 l0_1.length c0_1, .slice A0_2 l0_2.length c0_2] 28 (0, 0)) (Bz BK101.out) hb); have n1_ := Aside0.mk (blk_below (g := gb102) (o := .cells #[.bool a1_0, .slice A1_1 l1_1.length c1_1, .slice A1_2 l1_2.length c1_2] 28 (0, 0)) (Bz BK102.out) hb); have n2_ := Aside0.mk (blk_below (g := gb103) (o := .cells #[.bool false, .slice none 0 0, .slice none 0 0] 28 (0, 0)) (Bz BK103.out) hb); have n3_ := Aside0.mk (below_step (by repeat (first | (with_reducible first | exact HB.out | apply below_alloc | apply pw_below_drewN | apply below_drew1 | refine below_set ?_ GE101.out | refine below_set ?_ GE102.out | refine below_set ?_ GE103.out) | exact HB.out)) hb); clear BK101; clear BK102; clear BK103; clear HB; have BK101 := n0_; have BK102 := n1_; have BK103 := n2_; have HB := n3_; clear n0_ n1_ n2_ n3_; (try clear hb); have hnb170 := NB102_103.out; have hnc170 := NB103_102.out; have hcz171_0 : w169.cell? ⟨gb102, 0, none⟩ = some (.bool a1_0) := (blk_cell BK102.out 0).trans rfl; have hcz171_1 : w169.cell? ⟨gb102, 1, none⟩ = some (.slice A1_1 l1_1.length c1_1) := (blk_cell BK102.out 1).trans rfl; have hcz171_2 : w169.cell? ⟨gb102, 2, none⟩ = some (.slice A1_2 l1_2.length c1_2) := (blk_cell BK102.out 2).trans rfl; have hfz171_0 := blk_frozen BK102.out 0; have hfz171_1 := blk_frozen BK102.out 1; have hfz171_2 := blk_frozen BK102.out 2; have hcz172_0 : w169.cell? ⟨gb101, 0, none⟩ = some (.bool a0_0) := (blk_cell BK101.out 0).trans rfl; have hcz172_1 : w169.cell? ⟨gb101, 1, none⟩ = some (.slice A0_1 l0_1.length c0_1) := (blk_cell BK101.out 1).trans rfl; have hcz172_2 : w169.cell? ⟨gb101, 2, none⟩ = some (.slice A0_2 l0_2.length c0_2) := (blk_cell BK101.out 2).trans rfl; have hfz172_0 := blk_frozen BK101.out 0; have hfz172_1 := blk_frozen BK101.out 1; have hfz172_2 := blk_frozen BK101.out 2) | ((with_reducible refine gate_callee (f := 53) rfl ?_); refine goesL_ (some 39) rfl rfl Try.func53 (by kernel_rfl) rfl #[] rfl (by (try simp only [List.map_toArray, List.map_cons, List.map_nil]); first | done | rfl | (simp only [List.length_drop, List.length_take]; rfl)) ?_; (with_reducible refine (spec_l4None.calls  t121 t122 t125 _ A165.out).mono ?_); rintro e w173 ⟨v123, v126, rfl, ho0, ho1, hb⟩; refine ⟨_, rfl, ?_⟩; have n0_ := Aside0.mk (Kd.R_lower ho0 (below_size (by repeat (first | (with_reducible first | exact HB.out | apply below_alloc | apply pw_below_drewN | apply below_drew1 | refine below_set ?_ GE101.out | refine below_set ?_ GE102.out | refine below_set ?_ GE103.out) | exact HB.out)))); have n1_ := Aside0.mk (Kd.R_lower ho1 (below_size (by repeat (first | (with_reducible first | exact HB.out | apply below_alloc | apply pw_below_drewN | apply below_drew1 | refine below_set ?_ GE101.out | refine below_set ?_ GE102.out | refine below_set ?_ GE103.out) | exact HB.out)))); have n2_ := Aside0.mk (blk_below (g := gb101) (o := .cells #[.bool a0_0, .slice A0_1 l0_1.length c0_1, .slice A0_2 l0_2.length c0_2] 28 (0, 0)) (Bz BK101.out) hb); have n3_ := Aside0.mk (blk_below (g := gb102) (o := .cells #[.bool a1_0, .slice A1_1 l1_1.length c1_1, .slice A1_2 l1_2.length c1_2] 28 (0, 0)) (Bz BK102.out) hb); have n4_ := Aside0.mk (blk_below (g := gb103) (o := .cells #[.bool false, .slice none 0 0, .slice none 0 0] 28 (0, 0)) (Bz BK103.out) hb); have n5_ := Aside0.mk (below_step (by repeat (first | (with_reducible first | exact HB.out | apply below_alloc | apply pw_below_drewN | apply below_drew1 | refine below_set ?_ GE101.out | refine below_set ?_ GE102.out | refine below_set ?_ GE103.out) | exact HB.out)) hb); clear BK101; clear BK102; clear BK103; clear HB; have HO124 := n0_; have HO127 := n1_; have BK101 := n2_; have BK102 := n3_; have BK103 := n4_; have HB := n5_; clear n0_ n1_ n2_ n3_ n4_ n5_; (try clear hb); (try clear ho0); (try clear ho1); have hcz174_0 : w173.cell? ⟨gb103, 0, none⟩ = some (.bool false) := (blk_cell BK103.out 0).trans rfl; have hcz174_1 : w173.cell? ⟨gb103, 1, none⟩ = some (.slice none 0 0) := (blk_cell BK103.out 1).trans rfl; have hcz174_2 : w173.cell? ⟨gb103, 2, none⟩ = some (.slice none 0 0) := (blk_cell BK103.out 2).trans rfl; have hfz174_0 := blk_frozen BK103.out 0; have hfz174_1 := blk_frozen BK103.out 1; have hfz174_2 := blk_frozen BK103.out 2; obtain ⟨Ao175, co175, eo175⟩ := Kd.R_slice HO124.out; subst eo175; obtain ⟨Ao176, co176, eo176⟩ := Kd.R_slice HO127.out; subst eo176))
            refine bodyPost_ret (results_ct rfl _ _ gb103 28 #[.bool t121, .slice Ao175 t122.length co175, .slice Ao176 t125.length co176] (0, 0) _ rfl (by (with_reducible repeat (first | refine blk_drewN ?_ _ | refine blk_drew ?_ | refine blk_alloc ?_ _)); refine blk_put (cs := #[.bool t121, .slice Ao175 t122.length co175, .slice none 0 0]) ?_ 2 _ rfl; (with_reducible repeat (first | refine blk_drewN ?_ _ | refine blk_drew ?_ | refine blk_alloc ?_ _)); refine blk_put (cs := #[.bool t121, .slice none 0 0, .slice none 0 0]) ?_ 1 _ rfl; (with_reducible repeat (first | refine blk_drewN ?_ _ | refine blk_drew ?_ | refine blk_alloc ?_ _)); refine blk_put (cs := #[.bool false, .slice none 0 0, .slice none 0 0]) ?_ 0 _ rfl; (with_reducible repeat (first | refine blk_drewN ?_ _ | refine blk_drew ?_ | refine blk_alloc ?_ _)); exact BK103.out) Try.underlying28 rfl (by kernel_rfl)) rfl ?_
            exact ⟨_, _, by first | rfl | (simp [errW_none, errW_some] <;> rfl) | (simp [*, errW_none, errW_some] <;> rfl), by (with_reducible repeat (first | apply Kd.R_alloc | apply Kd.R_drewN | apply Kd.R_drew)); exact Kd.R_mono (Kd.R_far (p := ⟨gb103, 2, none⟩) (Kd.R_far (p := ⟨gb103, 1, none⟩) (Kd.R_far (p := ⟨gb103, 0, none⟩) (Kd.R_types HO124.out BK103.out (by decide)) (fun _ hk => hk.2) (.bool t121)) (fun _ hk => hk.2) (.slice Ao175 t122.length co175)) (fun _ hk => hk.2) (.slice Ao176 t125.length co176)) (fun _ hk => hk.1), by (with_reducible repeat (first | apply Kd.R_alloc | apply Kd.R_drewN | apply Kd.R_drew)); exact Kd.R_mono (Kd.R_far (p := ⟨gb103, 2, none⟩) (Kd.R_far (p := ⟨gb103, 1, none⟩) (Kd.R_far (p := ⟨gb103, 0, none⟩) (Kd.R_types HO127.out BK103.out (by decide)) (fun _ hk => hk.2) (.bool t121)) (fun _ hk => hk.2) (.slice Ao175 t122.length co175)) (fun _ hk => hk.2) (.slice Ao176 t125.length co176)) (fun _ hk => hk.1), by repeat (first | (with_reducible first | exact HB.out | apply below_alloc | apply pw_below_drewN | apply below_drew1 | refine below_set ?_ GE101.out | refine below_set ?_ GE102.out | refine below_set ?_ GE103.out) | exact HB.out)⟩
        · rw [if_neg c30] at H
          have c30b0 : (t113 == 0) = false := beq_eq_false_iff_ne.mpr c30
          have c30b1 : (t113 != 0) = true := bne_iff_ne.mpr c30
          replace H := Option.bind_eq_some_iff.mp H
          obtain ⟨⟨t114, t115, t118⟩, A1770, H⟩ := H
          replace H : (some (t114, t115, t118, t113)) = some (r1, r2, r3, r4) := H
          have A177 := Aside0.mk A1770
          clear A1770
          simp only [Option.some.injEq, Prod.mk.injEq] at H
          obtain ⟨rfl, rfl, rfl, rfl⟩ := H
          have hnb178 := NB101_102.out
          have hnc178 := NB102_101.out
          have hnb179 := NB101_103.out
          have hnc179 := NB103_101.out
          have hcz180_0 : wc.cell? ⟨gb101, 0, none⟩ = some (.bool a0_0) := (blk_cell BK101.out 0).trans rfl
          have hcz180_1 : wc.cell? ⟨gb101, 1, none⟩ = some (.slice A0_1 l0_1.length c0_1) := (blk_cell BK101.out 1).trans rfl
          have hcz180_2 : wc.cell? ⟨gb101, 2, none⟩ = some (.slice A0_2 l0_2.length c0_2) := (blk_cell BK101.out 2).trans rfl
          have hfz180_0 := blk_frozen BK101.out 0
          have hfz180_1 := blk_frozen BK101.out 1
          have hfz180_2 := blk_frozen BK101.out 2
          go_wp2_with (first | ((with_reducible refine gate_callee (f := 71) rfl ?_); refine goesL_ (some 26) rfl rfl Try.func71 (by kernel_rfl) rfl #[.agg #[.bool a0_0, .slice A0_1 l0_1.length c0_1, .slice A0_2 l0_2.length c0_2]] rfl (by (try simp only [List.map_toArray, List.map_cons, List.map_nil]); first | done | rfl | (simp only [List.length_drop, List.length_take]; rfl)) ?_; (with_reducible refine (spec_l5List.calls a0_0 _ _ l0_1 _ _ l0_2 t113 _ ?side1 ?side2 ?side3 ?side4 A29.out).mono ?_); (case side1 => repeat (first | exact (Kd.C_below HR0_1.out HB.out) | (with_reducible refine Kd.C_alloc ?_ _) | (with_reducible refine Kd.C_drewN ?_ _) | (with_reducible refine Kd.C_drew ?_))); (case side2 => exact HC0_1.out); (case side3 => repeat (first | exact (Kd.C_below HR0_2.out HB.out) | (with_reducible refine Kd.C_alloc ?_ _) | (with_reducible refine Kd.C_drewN ?_ _) | (with_reducible refine Kd.C_drew ?_))); (case side4 => exact HC0_2.out); rintro e w181 ⟨rfl, hb⟩; refine ⟨_, rfl, ?_⟩; have n0_ := Aside0.mk (blk_below (g := gb101) (o := .cells #[.bool a0_0, .slice A0_1 l0_1.length c0_1, .slice A0_2 l0_2.length c0_2] 28 (0, 0)) (Bz BK101.out) hb); have n1_ := Aside0.mk (blk_below (g := gb102) (o := .cells #[.bool a1_0, .slice A1_1 l1_1.length c1_1, .slice A1_2 l1_2.length c1_2] 28 (0, 0)) (Bz BK102.out) hb); have n2_ := Aside0.mk (blk_below (g := gb103) (o := .cells #[.bool false, .slice none 0 0, .slice none 0 0] 28 (0, 0)) (Bz BK103.out) hb); have n3_ := Aside0.mk (below_step (by repeat (first | (with_reducible first | exact HB.out | apply below_alloc | apply pw_below_drewN | apply below_drew1 | refine below_set ?_ GE101.out | refine below_set ?_ GE102.out | refine below_set ?_ GE103.out) | exact HB.out)) hb); clear BK101; clear BK102; clear BK103; clear HB; have BK101 := n0_; have BK102 := n1_; have BK103 := n2_; have HB := n3_; clear n0_ n1_ n2_ n3_; (try clear hb); (try clear hi)) | ((with_reducible refine gate_callee (f := 53) rfl ?_); refine goesL_ (some 29) rfl rfl Try.func53 (by kernel_rfl) rfl #[] rfl (by (try simp only [List.map_toArray, List.map_cons, List.map_nil]); first | done | rfl | (simp only [List.length_drop, List.length_take]; rfl)) ?_; (with_reducible refine (spec_l4None.calls  t114 t115 t118 _ A177.out).mono ?_); rintro e w182 ⟨v116, v119, rfl, ho0, ho1, hb⟩; refine ⟨_, rfl, ?_⟩; have n0_ := Aside0.mk (Kd.R_lower ho0 (below_size (by repeat (first | (with_reducible first | exact HB.out | apply below_alloc | apply pw_below_drewN | apply below_drew1 | refine below_set ?_ GE101.out | refine below_set ?_ GE102.out | refine below_set ?_ GE103.out) | exact HB.out)))); have n1_ := Aside0.mk (Kd.R_lower ho1 (below_size (by repeat (first | (with_reducible first | exact HB.out | apply below_alloc | apply pw_below_drewN | apply below_drew1 | refine below_set ?_ GE101.out | refine below_set ?_ GE102.out | refine below_set ?_ GE103.out) | exact HB.out)))); have n2_ := Aside0.mk (blk_below (g := gb101) (o := .cells #[.bool a0_0, .slice A0_1 l0_1.length c0_1, .slice A0_2 l0_2.length c0_2] 28 (0, 0)) (Bz BK101.out) hb); have n3_ := Aside0.mk (blk_below (g := gb102) (o := .cells #[.bool a1_0, .slice A1_1 l1_1.length c1_1, .slice A1_2 l1_2.length c1_2] 28 (0, 0)) (Bz BK102.out) hb); have n4_ := Aside0.mk (blk_below (g := gb103) (o := .cells #[.bool false, .slice none 0 0, .slice none 0 0] 28 (0, 0)) (Bz BK103.out) hb); have n5_ := Aside0.mk (below_step (by repeat (first | (with_reducible first | exact HB.out | apply below_alloc | apply pw_below_drewN | apply below_drew1 | refine below_set ?_ GE101.out | refine below_set ?_ GE102.out | refine below_set ?_ GE103.out) | exact HB.out)) hb); clear BK101; clear BK102; clear BK103; clear HB; have HO117 := n0_; have HO120 := n1_; have BK101 := n2_; have BK102 := n3_; have BK103 := n4_; have HB := n5_; clear n0_ n1_ n2_ n3_ n4_ n5_; (try clear hb); (try clear ho0); (try clear ho1); have hnb183 := NB103_102.out; have hnc183 := NB102_103.out; have hcz184_0 : w182.cell? ⟨gb103, 0, none⟩ = some (.bool false) := (blk_cell BK103.out 0).trans rfl; have hcz184_1 : w182.cell? ⟨gb103, 1, none⟩ = some (.slice none 0 0) := (blk_cell BK103.out 1).trans rfl; have hcz184_2 : w182.cell? ⟨gb103, 2, none⟩ = some (.slice none 0 0) := (blk_cell BK103.out 2).trans rfl; have hfz184_0 := blk_frozen BK103.out 0; have hfz184_1 := blk_frozen BK103.out 1; have hfz184_2 := blk_frozen BK103.out 2; obtain ⟨Ao185, co185, eo185⟩ := Kd.R_slice HO117.out; subst eo185; obtain ⟨Ao186, co186, eo186⟩ := Kd.R_slice HO120.out; subst eo186))
          refine bodyPost_ret (results_ct rfl _ _ gb103 28 #[.bool t114, .slice Ao185 t115.length co185, .slice Ao186 t118.length co186] (0, 0) _ rfl (by (with_reducible repeat (first | refine blk_drewN ?_ _ | refine blk_drew ?_ | refine blk_alloc ?_ _)); refine blk_put (cs := #[.bool t114, .slice Ao185 t115.length co185, .slice none 0 0]) ?_ 2 _ rfl; (with_reducible repeat (first | refine blk_drewN ?_ _ | refine blk_drew ?_ | refine blk_alloc ?_ _)); refine blk_put (cs := #[.bool t114, .slice none 0 0, .slice none 0 0]) ?_ 1 _ rfl; (with_reducible repeat (first | refine blk_drewN ?_ _ | refine blk_drew ?_ | refine blk_alloc ?_ _)); refine blk_put (cs := #[.bool false, .slice none 0 0, .slice none 0 0]) ?_ 0 _ rfl; (with_reducible repeat (first | refine blk_drewN ?_ _ | refine blk_drew ?_ | refine blk_alloc ?_ _)); exact BK103.out) Try.underlying28 rfl (by kernel_rfl)) rfl ?_
          exact ⟨_, _, by first | rfl | (simp [errW_none, errW_some] <;> rfl) | (simp [*, errW_none, errW_some] <;> rfl), by (with_reducible repeat (first | apply Kd.R_alloc | apply Kd.R_drewN | apply Kd.R_drew)); exact Kd.R_mono (Kd.R_far (p := ⟨gb103, 2, none⟩) (Kd.R_far (p := ⟨gb103, 1, none⟩) (Kd.R_far (p := ⟨gb103, 0, none⟩) (Kd.R_types HO117.out BK103.out (by decide)) (fun _ hk => hk.2) (.bool t114)) (fun _ hk => hk.2) (.slice Ao185 t115.length co185)) (fun _ hk => hk.2) (.slice Ao186 t118.length co186)) (fun _ hk => hk.1), by (with_reducible repeat (first | apply Kd.R_alloc | apply Kd.R_drewN | apply Kd.R_drew)); exact Kd.R_mono (Kd.R_far (p := ⟨gb103, 2, none⟩) (Kd.R_far (p := ⟨gb103, 1, none⟩) (Kd.R_far (p := ⟨gb103, 0, none⟩) (Kd.R_types HO120.out BK103.out (by decide)) (fun _ hk => hk.2) (.bool t114)) (fun _ hk => hk.2) (.slice Ao185 t115.length co185)) (fun _ hk => hk.2) (.slice Ao186 t118.length co186)) (fun _ hk => hk.1), by repeat (first | (with_reducible first | exact HB.out | apply below_alloc | apply pw_below_drewN | apply below_drew1 | refine below_set ?_ GE101.out | refine below_set ?_ GE102.out | refine below_set ?_ GE103.out) | exact HB.out)⟩

end Go.Proofs.Ytehfcnndjhjkoaa.PA
