import Derived.Test.YtehfcnndjhjkoaaKFnExactTranspose2
import Derived.Stop.RegionWithIn
import Derived.StillTailTactics
import Derived.IntWalk
import Derived.Deep.RegionHeld3

-- By a program (prt.py, over the print of the kit), for this claim. Not trusted: Lean checks it.
namespace Go.Proofs.Ytehfcnndjhjkoaa.PA
open Go.RowKit Go.Proofs.YtehfcnndjhjkoaaW.PrintWords Go.Proofs.YtehfcnndjhjkoaaW.PrintLast Go.Proofs.YtehfcnndjhjkoaaW.PrintMore
attribute [local go_sem] max2_int min2_int max_two min_two max_three min_three max_four min_four   -- for this text's walks alone
set_option linter.unusedVariables false
set_option linter.unusedSimpArgs false

/-! ### impl_made: function 70 -/
def impl_made.f (k : Nat) (a0_0 : Bool) (l0_1 : List Int) (l0_2 : List Int) (l1_0 : List Int) (l1_1 : List Int) (a2 : Int) : Option (Bool × List Int × List Int × Int) := if a2 = 0 then ((impl_move_of.f k l1_0 l1_1 a0_0 l0_1 l0_2).bind fun bt104 => (some (bt104.1, bt104.2.1, bt104.2.2, 0))) else (some (false, ([] : List Int), ([] : List Int), a2))
theorem impl_made.mono : ∀ a0 a1 a2 a3 a4 a5 k, LeO (impl_made.f k a0 a1 a2 a3 a4 a5) (impl_made.f (k + 1) a0 a1 a2 a3 a4 a5) := by
  intro a0 a1 a2 a3 a4 a5 k
  unfold impl_made.f
  repeat' first
      | (with_reducible exact impl_move_of.mono _ _ _ _ _ _)
      | (with_reducible exact LeO.refl _)
      | (with_reducible exact LeO.none _)
      | (with_reducible refine LeO.ite ?_ ?_)
      | (with_reducible refine LeO.bind ?_ (fun _ => ?_))
      | exact impl_move_of.mono _ _ _ _ _ _
      | exact LeO.none _
      | refine LeO.ite ?_ ?_
      | refine LeO.bind ?_ (fun _ => ?_)
set_option maxHeartbeats 8000000 in
set_option maxRecDepth 100000 in
theorem impl_made.calls (k : Nat) (a0_0 : Bool) (A0_1 : Option Addr) (c0_1 : Nat) (l0_1 : List Int) (A0_2 : Option Addr) (c0_2 : Nat) (l0_2 : List Int) (A1_0 : Option Addr) (c1_0 : Nat) (l1_0 : List Int) (A1_1 : Option Addr) (c1_1 : Nat) (l1_1 : List Int) (a2 : Int) (r1 : Bool) (r2 : List Int) (r3 : List Int) (r4 : Int) (w : World) (hr0_1 : Kd.C (Kd.int .i64) w A0_1 l0_1.length l0_1) (hc0_1 : l0_1.length ≤ c0_1) (hr0_2 : Kd.C (Kd.int .i64) w A0_2 l0_2.length l0_2) (hc0_2 : l0_2.length ≤ c0_2) (hr1_0 : Kd.C (Kd.int .i64) w A1_0 l1_0.length l1_0) (hc1_0 : l1_0.length ≤ c1_0) (hr1_1 : Kd.C (Kd.int .i64) w A1_1 l1_1.length l1_1) (hc1_1 : l1_1.length ≤ c1_1) (h : impl_made.f k a0_0 l0_1 l0_2 l1_0 l1_1 a2 = some (r1, r2, r3, r4)) :
    Calls Try.prog 70 #[.agg #[.bool a0_0, .slice A0_1 l0_1.length c0_1, .slice A0_2 l0_2.length c0_2], .agg #[.slice A1_0 l1_0.length c1_0, .slice A1_1 l1_1.length c1_1], .int .i64 a2] w fun e w' => ∃ v1_ v2_ : Value, e = .returned (.tuple #[.agg #[.bool r1, v1_, v2_], .int .i64 r4]) ∧ Kd.R (Kd.int .i64) 3 w' w.heap.size (fun k_ => some k_ ≠ (v2_ : Value).ownBlock) v1_ r2 ∧ Kd.R (Kd.int .i64) 3 w' w.heap.size (fun k_ => some k_ ≠ (v1_ : Value).ownBlock) v2_ r3 ∧ Below w.heap.size w w' := by
  have hu28 := Try.underlying28
  have hu70 := Try.underlying70
  have HR0_1 := Aside0.mk hr0_1
  have HC0_1 := Aside0.mk hc0_1
  clear hr0_1 hc0_1
  have HR0_2 := Aside0.mk hr0_2
  have HC0_2 := Aside0.mk hc0_2
  clear hr0_2 hc0_2
  have HR1_0 := Aside0.mk hr1_0
  have HC1_0 := Aside0.mk hc1_0
  clear hr1_0 hc1_0
  have HR1_1 := Aside0.mk hr1_1
  have HC1_1 := Aside0.mk hc1_1
  clear hr1_1 hc1_1
  have HB := Aside0.mk (Below.refl w.heap.size w)
  have H : (if a2 = 0 then ((impl_move_of.f k l1_0 l1_1 a0_0 l0_1 l0_2).bind fun bt104 => (some (bt104.1, bt104.2.1, bt104.2.2, 0))) else (some (false, ([] : List Int), ([] : List Int), a2))) = some (r1, r2, r3, r4) := h
  clear h
  by_cases c4 : a2 = 0
  · rw [if_pos c4] at H
    have c4b0 : (a2 == 0) = true := beq_iff_eq.mpr c4
    have c4b1 : (a2 != 0) = false := bne_eq_false_iff_eq.mpr c4
    clear c4
    replace H := Option.bind_eq_some_iff.mp H
    obtain ⟨⟨t104, t105, t108⟩, A50, H⟩ := H
    replace H : (some (t104, t105, t108, 0)) = some (r1, r2, r3, r4) := H
    have A5 := Aside0.mk A50
    clear A50
    simp only [Option.some.injEq, Prod.mk.injEq] at H
    obtain ⟨rfl, rfl, rfl, rfl⟩ := H
    go_enter Try.func70, Try.ntmps70
    go_wp2_with (first | ((with_reducible refine gate_dst (N := 3) rfl ?_); refine box_event ?hg (N := 3) ?hd (cs := #[.bool a0_0, .slice A0_1 l0_1.length c0_1, .slice A0_2 l0_2.length c0_2]) (t := 28) ?hr ?_; (case hd => rfl); (case hg => rfl); (case hr => first | (go_simp; done) | (go_simp; rfl)); intro gb101 hg w6 hbox hb; have n0_ := Aside0.mk (below_step (by repeat (first | (with_reducible first | exact HB.out | apply below_alloc | apply pw_below_drewN | apply below_drew1) | exact HB.out)) hb); have n1_ := Aside0.mk (hbox); have n2_ := Aside0.mk ((by rw [hg]; exact (below_size (by repeat (first | (with_reducible first | exact HB.out | apply below_alloc | apply pw_below_drewN | apply below_drew1) | exact HB.out))) : w.heap.size ≤ gb101)); have n3_ := Aside0.mk ((by rw [hg]; exact (below_size (by repeat (first | (with_reducible first | exact HB.out | apply below_alloc | apply pw_below_drewN | apply below_drew1) | exact HB.out))) : w.heap.size ≤ gb101)); clear HB; have HB := n0_; have BK101 := n1_; have GW101 := n2_; have GE101 := n3_; clear n0_ n1_ n2_ n3_; clear hb hbox hg) | ((with_reducible refine gate_dst (N := 4) rfl ?_); refine box_event ?hg (N := 4) ?hd (cs := #[.slice A1_0 l1_0.length c1_0, .slice A1_1 l1_1.length c1_1]) (t := 70) ?hr ?_; (case hd => rfl); (case hg => rfl); (case hr => first | (go_simp; done) | (go_simp; rfl)); intro gb102 hg w7 hbox hb; have n0_ := Aside0.mk (blk_below (g := gb101) (o := .cells #[.bool a0_0, .slice A0_1 l0_1.length c0_1, .slice A0_2 l0_2.length c0_2] 28 (0, 0)) (by (with_reducible repeat (first | refine blk_drewN ?_ _ | refine blk_drew ?_ | refine blk_alloc ?_ _)); exact BK101.out) hb); have n1_ := Aside0.mk (below_step (by repeat (first | (with_reducible first | exact HB.out | apply below_alloc | apply pw_below_drewN | apply below_drew1 | refine below_set ?_ GE101.out) | exact HB.out)) hb); have n2_ := Aside0.mk (hbox); have n3_ := Aside0.mk ((by rw [hg]; exact (below_size (by repeat (first | (with_reducible first | exact HB.out | apply below_alloc | apply pw_below_drewN | apply below_drew1 | refine below_set ?_ GE101.out) | exact HB.out))) : w.heap.size ≤ gb102)); have n4_ := Aside0.mk ((by rw [hg]; exact (below_size (by repeat (first | (with_reducible first | exact HB.out | apply below_alloc | apply pw_below_drewN | apply below_drew1 | refine below_set ?_ GE101.out) | exact HB.out))) : w.heap.size ≤ gb102)); have n5_ := Aside0.mk ((by rw [hg]; exact Nat.ne_of_lt (blk_lt (g := gb101) (o := .cells #[.bool a0_0, .slice A0_1 l0_1.length c0_1, .slice A0_2 l0_2.length c0_2] 28 (0, 0)) (by (with_reducible repeat (first | refine blk_drewN ?_ _ | refine blk_drew ?_ | refine blk_alloc ?_ _)); exact BK101.out)) : gb101 ≠ gb102)); have n6_ := Aside0.mk ((by rw [hg]; exact Nat.ne_of_gt (blk_lt (g := gb101) (o := .cells #[.bool a0_0, .slice A0_1 l0_1.length c0_1, .slice A0_2 l0_2.length c0_2] 28 (0, 0)) (by (with_reducible repeat (first | refine blk_drewN ?_ _ | refine blk_drew ?_ | refine blk_alloc ?_ _)); exact BK101.out)) : gb102 ≠ gb101)); clear BK101; clear HB; have BK101 := n0_; have HB := n1_; have BK102 := n2_; have GW102 := n3_; have GE102 := n4_; have NB101_102 := n5_; have NB102_101 := n6_; clear n0_ n1_ n2_ n3_ n4_ n5_ n6_; clear hb hbox hg) | ((with_reducible refine gate_dst (N := 6) rfl ?_); refine box_event ?hg (N := 6) ?hd (cs := #[.bool false, .slice none 0 0, .slice none 0 0]) (t := 28) ?hr ?_; (case hd => rfl); (case hg => rfl); (case hr => first | (go_simp; done) | (go_simp; rfl)); intro gb103 hg w8 hbox hb; have n0_ := Aside0.mk (blk_below (g := gb101) (o := .cells #[.bool a0_0, .slice A0_1 l0_1.length c0_1, .slice A0_2 l0_2.length c0_2] 28 (0, 0)) (by (with_reducible repeat (first | refine blk_drewN ?_ _ | refine blk_drew ?_ | refine blk_alloc ?_ _)); exact BK101.out) hb); have n1_ := Aside0.mk (blk_below (g := gb102) (o := .cells #[.slice A1_0 l1_0.length c1_0, .slice A1_1 l1_1.length c1_1] 70 (0, 0)) (by (with_reducible repeat (first | refine blk_drewN ?_ _ | refine blk_drew ?_ | refine blk_alloc ?_ _)); exact BK102.out) hb); have n2_ := Aside0.mk (below_step (by repeat (first | (with_reducible first | exact HB.out | apply below_alloc | apply pw_below_drewN | apply below_drew1 | refine below_set ?_ GE101.out | refine below_set ?_ GE102.out) | exact HB.out)) hb); have n3_ := Aside0.mk (hbox); have n4_ := Aside0.mk ((by rw [hg]; exact (below_size (by repeat (first | (with_reducible first | exact HB.out | apply below_alloc | apply pw_below_drewN | apply below_drew1 | refine below_set ?_ GE101.out | refine below_set ?_ GE102.out) | exact HB.out))) : w.heap.size ≤ gb103)); have n5_ := Aside0.mk ((by rw [hg]; exact (below_size (by repeat (first | (with_reducible first | exact HB.out | apply below_alloc | apply pw_below_drewN | apply below_drew1 | refine below_set ?_ GE101.out | refine below_set ?_ GE102.out) | exact HB.out))) : w.heap.size ≤ gb103)); have n6_ := Aside0.mk ((by rw [hg]; exact Nat.ne_of_lt (blk_lt (g := gb101) (o := .cells #[.bool a0_0, .slice A0_1 l0_1.length c0_1, .slice A0_2 l0_2.length c0_2] 28 (0, 0)) (by (with_reducible repeat (first | refine blk_drewN ?_ _ | refine blk_drew ?_ | refine blk_alloc ?_ _)); exact BK101.out)) : gb101 ≠ gb103)); have n7_ := Aside0.mk ((by rw [hg]; exact Nat.ne_of_gt (blk_lt (g := gb101) (o := .cells #[.bool a0_0, .slice A0_1 l0_1.length c0_1, .slice A0_2 l0_2.length c0_2] 28 (0, 0)) (by (with_reducible repeat (first | refine blk_drewN ?_ _ | refine blk_drew ?_ | refine blk_alloc ?_ _)); exact BK101.out)) : gb103 ≠ gb101)); have n8_ := Aside0.mk ((by rw [hg]; exact Nat.ne_of_lt (blk_lt (g := gb102) (o := .cells #[.slice A1_0 l1_0.length c1_0, .slice A1_1 l1_1.length c1_1] 70 (0, 0)) (by (with_reducible repeat (first | refine blk_drewN ?_ _ | refine blk_drew ?_ | refine blk_alloc ?_ _)); exact BK102.out)) : gb102 ≠ gb103)); have n9_ := Aside0.mk ((by rw [hg]; exact Nat.ne_of_gt (blk_lt (g := gb102) (o := .cells #[.slice A1_0 l1_0.length c1_0, .slice A1_1 l1_1.length c1_1] 70 (0, 0)) (by (with_reducible repeat (first | refine blk_drewN ?_ _ | refine blk_drew ?_ | refine blk_alloc ?_ _)); exact BK102.out)) : gb103 ≠ gb102)); clear BK101; clear BK102; clear HB; have BK101 := n0_; have BK102 := n1_; have HB := n2_; have BK103 := n3_; have GW103 := n4_; have GE103 := n5_; have NB101_103 := n6_; have NB103_101 := n7_; have NB102_103 := n8_; have NB103_102 := n9_; clear n0_ n1_ n2_ n3_ n4_ n5_ n6_ n7_ n8_ n9_; clear hb hbox hg; have hnb9 := NB102_101.out; have hnc9 := NB101_102.out; have hnb10 := NB102_103.out; have hnc10 := NB103_102.out; have hcz11_0 : w8.cell? ⟨gb102, 0, none⟩ = some (.slice A1_0 l1_0.length c1_0) := (blk_cell BK102.out 0).trans rfl; have hcz11_1 : w8.cell? ⟨gb102, 1, none⟩ = some (.slice A1_1 l1_1.length c1_1) := (blk_cell BK102.out 1).trans rfl; have hfz11_0 := blk_frozen BK102.out 0; have hfz11_1 := blk_frozen BK102.out 1; have hnb12 := NB101_103.out; have hnc12 := NB103_101.out; have hcz13_0 : w8.cell? ⟨gb101, 0, none⟩ = some (.bool a0_0) := (blk_cell BK101.out 0).trans rfl; have hcz13_1 : w8.cell? ⟨gb101, 1, none⟩ = some (.slice A0_1 l0_1.length c0_1) := (blk_cell BK101.out 1).trans rfl; have hcz13_2 : w8.cell? ⟨gb101, 2, none⟩ = some (.slice A0_2 l0_2.length c0_2) := (blk_cell BK101.out 2).trans rfl; have hfz13_0 := blk_frozen BK101.out 0; have hfz13_1 := blk_frozen BK101.out 1; have hfz13_2 := blk_frozen BK101.out 2) | ((with_reducible refine gate_callee (f := 107) rfl ?_); refine goesL_ (some 14) rfl rfl Try.func107 (by kernel_rfl) rfl #[.agg #[.slice A1_0 l1_0.length c1_0, .slice A1_1 l1_1.length c1_1], .agg #[.bool a0_0, .slice A0_1 l0_1.length c0_1, .slice A0_2 l0_2.length c0_2]] rfl (by (try simp only [List.map_toArray, List.map_cons, List.map_nil]); first | done | rfl | (simp only [List.length_drop, List.length_take]; rfl)) ?_; (with_reducible refine (impl_move_of.calls k _ _ l1_0 _ _ l1_1 a0_0 _ _ l0_1 _ _ l0_2 t104 t105 t108 _ ?side1 ?side2 ?side3 ?side4 ?side5 ?side6 ?side7 ?side8 A5.out).mono ?_); (case side1 => repeat (first | exact (Kd.C_below HR1_0.out HB.out) | (with_reducible refine Kd.C_alloc ?_ _) | (with_reducible refine Kd.C_drewN ?_ _) | (with_reducible refine Kd.C_drew ?_))); (case side2 => exact HC1_0.out); (case side3 => repeat (first | exact (Kd.C_below HR1_1.out HB.out) | (with_reducible refine Kd.C_alloc ?_ _) | (with_reducible refine Kd.C_drewN ?_ _) | (with_reducible refine Kd.C_drew ?_))); (case side4 => exact HC1_1.out); (case side5 => repeat (first | exact (Kd.C_below HR0_1.out HB.out) | (with_reducible refine Kd.C_alloc ?_ _) | (with_reducible refine Kd.C_drewN ?_ _) | (with_reducible refine Kd.C_drew ?_))); (case side6 => exact HC0_1.out); (case side7 => repeat (first | exact (Kd.C_below HR0_2.out HB.out) | (with_reducible refine Kd.C_alloc ?_ _) | (with_reducible refine Kd.C_drewN ?_ _) | (with_reducible refine Kd.C_drew ?_))); (case side8 => exact HC0_2.out); rintro e w14 ⟨v106, v109, rfl, ho0, ho1, hb⟩; refine ⟨_, rfl, ?_⟩; have n0_ := Aside0.mk (Kd.R_lower ho0 (below_size (by repeat (first | (with_reducible first | exact HB.out | apply below_alloc | apply pw_below_drewN | apply below_drew1 | refine below_set ?_ GE101.out | refine below_set ?_ GE102.out | refine below_set ?_ GE103.out) | exact HB.out)))); have n1_ := Aside0.mk (Kd.R_lower ho1 (below_size (by repeat (first | (with_reducible first | exact HB.out | apply below_alloc | apply pw_below_drewN | apply below_drew1 | refine below_set ?_ GE101.out | refine below_set ?_ GE102.out | refine below_set ?_ GE103.out) | exact HB.out)))); have n2_ := Aside0.mk (blk_below (g := gb101) (o := .cells #[.bool a0_0, .slice A0_1 l0_1.length c0_1, .slice A0_2 l0_2.length c0_2] 28 (0, 0)) (by (with_reducible repeat (first | refine blk_drewN ?_ _ | refine blk_drew ?_ | refine blk_alloc ?_ _)); exact BK101.out) hb); have n3_ := Aside0.mk (blk_below (g := gb102) (o := .cells #[.slice A1_0 l1_0.length c1_0, .slice A1_1 l1_1.length c1_1] 70 (0, 0)) (by (with_reducible repeat (first | refine blk_drewN ?_ _ | refine blk_drew ?_ | refine blk_alloc ?_ _)); exact BK102.out) hb); have n4_ := Aside0.mk (blk_below (g := gb103) (o := .cells #[.bool false, .slice none 0 0, .slice none 0 0] 28 (0, 0)) (by (with_reducible repeat (first | refine blk_drewN ?_ _ | refine blk_drew ?_ | refine blk_alloc ?_ _)); exact BK103.out) hb); have n5_ := Aside0.mk (below_step (by repeat (first | (with_reducible first | exact HB.out | apply below_alloc | apply pw_below_drewN | apply below_drew1 | refine below_set ?_ GE101.out | refine below_set ?_ GE102.out | refine below_set ?_ GE103.out) | exact HB.out)) hb); clear BK101; clear BK102; clear BK103; clear HB; have HO107 := n0_; have HO110 := n1_; have BK101 := n2_; have BK102 := n3_; have BK103 := n4_; have HB := n5_; clear n0_ n1_ n2_ n3_ n4_ n5_; (try clear hb); (try clear hb2); (try clear hk); (try clear hi); (try clear ho0); (try clear ho1); have hcz15_0 : w14.cell? ⟨gb103, 0, none⟩ = some (.bool false) := (blk_cell BK103.out 0).trans rfl; have hcz15_1 : w14.cell? ⟨gb103, 1, none⟩ = some (.slice none 0 0) := (blk_cell BK103.out 1).trans rfl; have hcz15_2 : w14.cell? ⟨gb103, 2, none⟩ = some (.slice none 0 0) := (blk_cell BK103.out 2).trans rfl; have hfz15_0 := blk_frozen BK103.out 0; have hfz15_1 := blk_frozen BK103.out 1; have hfz15_2 := blk_frozen BK103.out 2; obtain ⟨Ao16, co16, eo16⟩ := Kd.R_slice HO107.out; subst eo16; obtain ⟨Ao17, co17, eo17⟩ := Kd.R_slice HO110.out; subst eo17))
    refine bodyPost_ret (results_ct rfl _ _ gb103 28 #[.bool t104, .slice Ao16 t105.length co16, .slice Ao17 t108.length co17] (0, 0) _ rfl (by (with_reducible repeat (first | refine blk_drewN ?_ _ | refine blk_drew ?_ | refine blk_alloc ?_ _)); refine blk_put (cs := #[.bool t104, .slice Ao16 t105.length co16, .slice none 0 0]) ?_ 2 _ rfl; (with_reducible repeat (first | refine blk_drewN ?_ _ | refine blk_drew ?_ | refine blk_alloc ?_ _)); refine blk_put (cs := #[.bool t104, .slice none 0 0, .slice none 0 0]) ?_ 1 _ rfl; (with_reducible repeat (first | refine blk_drewN ?_ _ | refine blk_drew ?_ | refine blk_alloc ?_ _)); refine blk_put (cs := #[.bool false, .slice none 0 0, .slice none 0 0]) ?_ 0 _ rfl; (with_reducible repeat (first | refine blk_drewN ?_ _ | refine blk_drew ?_ | refine blk_alloc ?_ _)); exact BK103.out) Try.underlying28 rfl (by kernel_rfl)) rfl ?_
    exact ⟨_, _, by first | rfl | (simp [errW_none, errW_some] <;> rfl) | (simp [*, errW_none, errW_some] <;> rfl), by (with_reducible repeat (first | apply Kd.R_alloc | apply Kd.R_drewN | apply Kd.R_drew)); exact Kd.R_mono (Kd.R_far (p := ⟨gb103, 2, none⟩) (Kd.R_far (p := ⟨gb103, 1, none⟩) (Kd.R_far (p := ⟨gb103, 0, none⟩) (Kd.R_types HO107.out BK103.out (by decide)) (fun _ hk => hk.2) (.bool t104)) (fun _ hk => hk.2) (.slice Ao16 t105.length co16)) (fun _ hk => hk.2) (.slice Ao17 t108.length co17)) (fun _ hk => hk.1), by (with_reducible repeat (first | apply Kd.R_alloc | apply Kd.R_drewN | apply Kd.R_drew)); exact Kd.R_mono (Kd.R_far (p := ⟨gb103, 2, none⟩) (Kd.R_far (p := ⟨gb103, 1, none⟩) (Kd.R_far (p := ⟨gb103, 0, none⟩) (Kd.R_types HO110.out BK103.out (by decide)) (fun _ hk => hk.2) (.bool t104)) (fun _ hk => hk.2) (.slice Ao16 t105.length co16)) (fun _ hk => hk.2) (.slice Ao17 t108.length co17)) (fun _ hk => hk.1), by repeat (first | (with_reducible first | exact HB.out | apply below_alloc | apply pw_below_drewN | apply below_drew1 | refine below_set ?_ GE101.out | refine below_set ?_ GE102.out | refine below_set ?_ GE103.out) | exact HB.out)⟩
  · rw [if_neg c4] at H
    have c4b0 : (a2 == 0) = false := beq_eq_false_iff_ne.mpr c4
    have c4b1 : (a2 != 0) = true := bne_iff_ne.mpr c4
    simp only [Option.some.injEq, Prod.mk.injEq] at H
    obtain ⟨rfl, rfl, rfl, rfl⟩ := H
    go_enter Try.func70, Try.ntmps70
    go_wp2_with (first | ((with_reducible refine gate_dst (N := 3) rfl ?_); refine box_event ?hg (N := 3) ?hd (cs := #[.bool a0_0, .slice A0_1 l0_1.length c0_1, .slice A0_2 l0_2.length c0_2]) (t := 28) ?hr ?_; (case hd => rfl); (case hg => rfl); (case hr => first | (go_simp; done) | (go_simp; rfl)); intro gb101 hg w18 hbox hb; have n0_ := Aside0.mk (below_step (by repeat (first | (with_reducible first | exact HB.out | apply below_alloc | apply pw_below_drewN | apply below_drew1) | exact HB.out)) hb); have n1_ := Aside0.mk (hbox); have n2_ := Aside0.mk ((by rw [hg]; exact (below_size (by repeat (first | (with_reducible first | exact HB.out | apply below_alloc | apply pw_below_drewN | apply below_drew1) | exact HB.out))) : w.heap.size ≤ gb101)); have n3_ := Aside0.mk ((by rw [hg]; exact (below_size (by repeat (first | (with_reducible first | exact HB.out | apply below_alloc | apply pw_below_drewN | apply below_drew1) | exact HB.out))) : w.heap.size ≤ gb101)); clear HB; have HB := n0_; have BK101 := n1_; have GW101 := n2_; have GE101 := n3_; clear n0_ n1_ n2_ n3_; clear hb hbox hg) | ((with_reducible refine gate_dst (N := 4) rfl ?_); refine box_event ?hg (N := 4) ?hd (cs := #[.slice A1_0 l1_0.length c1_0, .slice A1_1 l1_1.length c1_1]) (t := 70) ?hr ?_; (case hd => rfl); (case hg => rfl); (case hr => first | (go_simp; done) | (go_simp; rfl)); intro gb102 hg w19 hbox hb; have n0_ := Aside0.mk (blk_below (g := gb101) (o := .cells #[.bool a0_0, .slice A0_1 l0_1.length c0_1, .slice A0_2 l0_2.length c0_2] 28 (0, 0)) (by (with_reducible repeat (first | refine blk_drewN ?_ _ | refine blk_drew ?_ | refine blk_alloc ?_ _)); exact BK101.out) hb); have n1_ := Aside0.mk (below_step (by repeat (first | (with_reducible first | exact HB.out | apply below_alloc | apply pw_below_drewN | apply below_drew1 | refine below_set ?_ GE101.out) | exact HB.out)) hb); have n2_ := Aside0.mk (hbox); have n3_ := Aside0.mk ((by rw [hg]; exact (below_size (by repeat (first | (with_reducible first | exact HB.out | apply below_alloc | apply pw_below_drewN | apply below_drew1 | refine below_set ?_ GE101.out) | exact HB.out))) : w.heap.size ≤ gb102)); have n4_ := Aside0.mk ((by rw [hg]; exact (below_size (by repeat (first | (with_reducible first | exact HB.out | apply below_alloc | apply pw_below_drewN | apply below_drew1 | refine below_set ?_ GE101.out) | exact HB.out))) : w.heap.size ≤ gb102)); have n5_ := Aside0.mk ((by rw [hg]; exact Nat.ne_of_lt (blk_lt (g := gb101) (o := .cells #[.bool a0_0, .slice A0_1 l0_1.length c0_1, .slice A0_2 l0_2.length c0_2] 28 (0, 0)) (by (with_reducible repeat (first | refine blk_drewN ?_ _ | refine blk_drew ?_ | refine blk_alloc ?_ _)); exact BK101.out)) : gb101 ≠ gb102)); have n6_ := Aside0.mk ((by rw [hg]; exact Nat.ne_of_gt (blk_lt (g := gb101) (o := .cells #[.bool a0_0, .slice A0_1 l0_1.length c0_1, .slice A0_2 l0_2.length c0_2] 28 (0, 0)) (by (with_reducible repeat (first | refine blk_drewN ?_ _ | refine blk_drew ?_ | refine blk_alloc ?_ _)); exact BK101.out)) : gb102 ≠ gb101)); clear BK101; clear HB; have BK101 := n0_; have HB := n1_; have BK102 := n2_; have GW102 := n3_; have GE102 := n4_; have NB101_102 := n5_; have NB102_101 := n6_; clear n0_ n1_ n2_ n3_ n4_ n5_ n6_; clear hb hbox hg) | ((with_reducible refine gate_dst (N := 6) rfl ?_); refine box_event ?hg (N := 6) ?hd (cs := #[.bool false, .slice none 0 0, .slice none 0 0]) (t := 28) ?hr ?_; (case hd => rfl); (case hg => rfl); (case hr => first | (go_simp; done) | (go_simp; rfl)); intro gb103 hg w20 hbox hb; have n0_ := Aside0.mk (blk_below (g := gb101) (o := .cells #[.bool a0_0, .slice A0_1 l0_1.length c0_1, .slice A0_2 l0_2.length c0_2] 28 (0, 0)) (by (with_reducible repeat (first | refine blk_drewN ?_ _ | refine blk_drew ?_ | refine blk_alloc ?_ _)); exact BK101.out) hb); have n1_ := Aside0.mk (blk_below (g := gb102) (o := .cells #[.slice A1_0 l1_0.length c1_0, .slice A1_1 l1_1.length c1_1] 70 (0, 0)) (by (with_reducible repeat (first | refine blk_drewN ?_ _ | refine blk_drew ?_ | refine blk_alloc ?_ _)); exact BK102.out) hb); have n2_ := Aside0.mk (below_step (by repeat (first | (with_reducible first | exact HB.out | apply below_alloc | apply pw_below_drewN | apply below_drew1 | refine below_set ?_ GE101.out | refine below_set ?_ GE102.out) | exact HB.out)) hb); have n3_ := Aside0.mk (hbox); have n4_ := Aside0.mk ((by rw [hg]; exact (below_size (by repeat (first | (with_reducible first | exact HB.out | apply below_alloc | apply pw_below_drewN | apply below_drew1 | refine below_set ?_ GE101.out | refine below_set ?_ GE102.out) | exact HB.out))) : w.heap.size ≤ gb103)); have n5_ := Aside0.mk ((by rw [hg]; exact (below_size (by repeat (first | (with_reducible first | exact HB.out | apply below_alloc | apply pw_below_drewN | apply below_drew1 | refine below_set ?_ GE101.out | refine below_set ?_ GE102.out) | exact HB.out))) : w.heap.size ≤ gb103)); have n6_ := Aside0.mk ((by rw [hg]; exact Nat.ne_of_lt (blk_lt (g := gb101) (o := .cells #[.bool a0_0, .slice A0_1 l0_1.length c0_1, .slice A0_2 l0_2.length c0_2] 28 (0, 0)) (by (with_reducible repeat (first | refine blk_drewN ?_ _ | refine blk_drew ?_ | refine blk_alloc ?_ _)); exact BK101.out)) : gb101 ≠ gb103)); have n7_ := Aside0.mk ((by rw [hg]; exact Nat.ne_of_gt (blk_lt (g := gb101) (o := .cells #[.bool a0_0, .slice A0_1 l0_1.length c0_1, .slice A0_2 l0_2.length c0_2] 28 (0, 0)) (by (with_reducible repeat (first | refine blk_drewN ?_ _ | refine blk_drew ?_ | refine blk_alloc ?_ _)); exact BK101.out)) : gb103 ≠ gb101)); have n8_ := Aside0.mk ((by rw [hg]; exact Nat.ne_of_lt (blk_lt (g := gb102) (o := .cells #[.slice A1_0 l1_0.length c1_0, .slice A1_1 l1_1.length c1_1] 70 (0, 0)) (by (with_reducible repeat (first | refine blk_drewN ?_ _ | refine blk_drew ?_ | refine blk_alloc ?_ _)); exact BK102.out)) : gb102 ≠ gb103)); have n9_ := Aside0.mk ((by rw [hg]; exact Nat.ne_of_gt (blk_lt (g := gb102) (o := .cells #[.slice A1_0 l1_0.length c1_0, .slice A1_1 l1_1.length c1_1] 70 (0, 0)) (by (with_reducible repeat (first | refine blk_drewN ?_ _ | refine blk_drew ?_ | refine blk_alloc ?_ _)); exact BK102.out)) : gb103 ≠ gb102)); clear BK101; clear BK102; clear HB; have BK101 := n0_; have BK102 := n1_; have HB := n2_; have BK103 := n3_; have GW103 := n4_; have GE103 := n5_; have NB101_103 := n6_; have NB103_101 := n7_; have NB102_103 := n8_; have NB103_102 := n9_; clear n0_ n1_ n2_ n3_ n4_ n5_ n6_ n7_ n8_ n9_; clear hb hbox hg; have hnb21 := NB103_101.out; have hnc21 := NB101_103.out; have hnb22 := NB103_102.out; have hnc22 := NB102_103.out; have hcz23_0 : w20.cell? ⟨gb103, 0, none⟩ = some (.bool false) := (blk_cell BK103.out 0).trans rfl; have hcz23_1 : w20.cell? ⟨gb103, 1, none⟩ = some (.slice none 0 0) := (blk_cell BK103.out 1).trans rfl; have hcz23_2 : w20.cell? ⟨gb103, 2, none⟩ = some (.slice none 0 0) := (blk_cell BK103.out 2).trans rfl; have hfz23_0 := blk_frozen BK103.out 0; have hfz23_1 := blk_frozen BK103.out 1; have hfz23_2 := blk_frozen BK103.out 2))
    refine bodyPost_ret (results_ct rfl _ _ gb103 28 #[.bool false, .slice none 0 0, .slice none 0 0] (0, 0) _ rfl (by (with_reducible repeat (first | refine blk_drewN ?_ _ | refine blk_drew ?_ | refine blk_alloc ?_ _)); refine blk_put (cs := #[.bool false, .slice none 0 0, .slice none 0 0]) ?_ 2 _ rfl; (with_reducible repeat (first | refine blk_drewN ?_ _ | refine blk_drew ?_ | refine blk_alloc ?_ _)); refine blk_put (cs := #[.bool false, .slice none 0 0, .slice none 0 0]) ?_ 1 _ rfl; (with_reducible repeat (first | refine blk_drewN ?_ _ | refine blk_drew ?_ | refine blk_alloc ?_ _)); refine blk_put (cs := #[.bool false, .slice none 0 0, .slice none 0 0]) ?_ 0 _ rfl; (with_reducible repeat (first | refine blk_drewN ?_ _ | refine blk_drew ?_ | refine blk_alloc ?_ _)); exact BK103.out) Try.underlying28 rfl (by kernel_rfl)) rfl ?_
    exact ⟨_, _, by first | rfl | (simp [errW_none, errW_some] <;> rfl) | (simp [*, errW_none, errW_some] <;> rfl), by first | exact Kd.R_nil _ _ _ _ _ | exact Kd.N_nil _ _ _ _ _ | exact Kd.V_nil _ _ _ _ _ | exact Kd.Q_nil _ _ _ _ _ | exact Kd.S_nil _ _ _ _ _, by first | exact Kd.R_nil _ _ _ _ _ | exact Kd.N_nil _ _ _ _ _ | exact Kd.V_nil _ _ _ _ _ | exact Kd.Q_nil _ _ _ _ _ | exact Kd.S_nil _ _ _ _ _, by repeat (first | (with_reducible first | exact HB.out | apply below_alloc | apply pw_below_drewN | apply below_drew1 | refine below_set ?_ GE101.out | refine below_set ?_ GE102.out | refine below_set ?_ GE103.out) | exact HB.out)⟩

end Go.Proofs.Ytehfcnndjhjkoaa.PA

-- By a program (prt.py, over the print of the kit), for this claim. Not trusted: Lean checks it.
namespace Go.Proofs.Ytehfcnndjhjkoaa.PA
open Go.RowKit Go.Proofs.YtehfcnndjhjkoaaW.PrintWords Go.Proofs.YtehfcnndjhjkoaaW.PrintLast Go.Proofs.YtehfcnndjhjkoaaW.PrintMore
attribute [local go_sem] max2_int min2_int max_two min_two max_three min_three max_four min_four   -- for this text's walks alone
set_option linter.unusedVariables false
set_option linter.unusedSimpArgs false

/-! ### impl_valid: function 58 -/
def impl_valid.l0 : Nat → List (S28) → Int → Int → Option (Int)
  | 0, _, _, _ => none
  | k + 1, x5, x6, x7 => if x7 < x6 then (if 0 ≤ x7 then (if x7 < (x5.length : Int) then ((impl_ArrayOk.f k ((rd_T28 x5 x7).f0) ((rd_T28 x5 x7).f1) ((rd_T28 x5 x7).f2)).bind fun t103 => (if t103 = true then (impl_valid.l0 k x5 x6 (wrap64 (x7 + 1))) else (some 3))) else (none)) else (none)) else (some 0)
def impl_valid.f (k : Nat) (l0 : List (S28)) : Option (Int) := impl_valid.l0 k l0 (l0.length : Int) 0
theorem impl_valid.mono_l : ∀ k, (∀ y0 y1 y2, LeO (impl_valid.l0 k y0 y1 y2) (impl_valid.l0 (k + 1) y0 y1 y2))
  | 0 => fun _ _ _ r h => by simp [impl_valid.l0] at h
  | k + 1 => by
    have ih0 := impl_valid.mono_l k
    · intro y0 y1 y2
      unfold impl_valid.l0
      repeat' first
      | (with_reducible exact ih0 _ _ _)
      | (with_reducible exact impl_ArrayOk.mono _ _ _ _)
      | (with_reducible exact LeO.refl _)
      | (with_reducible exact LeO.none _)
      | (with_reducible refine LeO.ite ?_ ?_)
      | (with_reducible refine LeO.bind ?_ (fun _ => ?_))
      | exact ih0 _ _ _
      | exact impl_ArrayOk.mono _ _ _ _
      | exact LeO.none _
      | refine LeO.ite ?_ ?_
      | refine LeO.bind ?_ (fun _ => ?_)
theorem impl_valid.mono : ∀ a0 k, LeO (impl_valid.f k a0) (impl_valid.f (k + 1) a0) := by
  intro a0 k
  have ih0 := impl_valid.mono_l k
  unfold impl_valid.f
  repeat' first
      | (with_reducible exact ih0 _ _ _)
      | (with_reducible exact impl_ArrayOk.mono _ _ _ _)
      | (with_reducible exact LeO.refl _)
      | (with_reducible exact LeO.none _)
      | (with_reducible refine LeO.ite ?_ ?_)
      | (with_reducible refine LeO.bind ?_ (fun _ => ?_))
      | exact ih0 _ _ _
      | exact impl_ArrayOk.mono _ _ _ _
      | exact LeO.none _
      | refine LeO.ite ?_ ?_
      | refine LeO.bind ?_ (fun _ => ?_)
set_option maxHeartbeats 8000000 in
set_option maxRecDepth 100000 in
theorem impl_valid.calls (k : Nat) (A0 : Option Addr) (c0 : Nat) (l0 : List (S28)) (r : Int) (w : World) (hr0 : Kd.C k28 w A0 l0.length l0) (hc0 : l0.length ≤ c0) (h : impl_valid.f k l0 = some r) :
    Calls Try.prog 58 #[.slice A0 l0.length c0] w fun e w' => e = .returned (.int .i64 r) ∧ Below w.heap.size w w' := by
  have hu28 := Try.underlying28
  have HR0 := Aside0.mk hr0
  have HC0 := Aside0.mk hc0
  clear hr0 hc0
  have HB := Aside0.mk (Below.refl w.heap.size w)
  have H : (impl_valid.l0 k l0 (l0.length : Int) 0) = some r := h
  clear h
  have H' := Aside0.mk H
  clear H
  go_enter Try.func58, Try.ntmps58
  go_wp2
  go_loopg [7] k (fun kq v7 w' => ∃ (x7_1 : Int), v7 = .int .i64 x7_1 ∧ Aside0 (impl_valid.l0 kq l0 (l0.length : Int) x7_1 = some r) ∧ Aside0 (kq ≤ k) ∧ Aside0 (Below w.heap.size w w'))
  case atStart => exact ⟨(0), (by first | rfl | (simp; done) | (simp [*]; done)), H', ⟨Nat.le_refl _⟩, ⟨by repeat (first | (with_reducible first | exact HB.out | apply below_alloc | apply pw_below_drewN | apply below_drew1) | exact HB.out)⟩⟩
  case round =>
    clear H'
    obtain ⟨x7_1, rfl, HA, HK1, HB⟩ := hrel
    cases gk with
    | zero => exact absurd HA.out (by simp [impl_valid.l0])
    | succ k1 =>
      have H := HA.out
      clear HA
      simp only [impl_valid.l0] at H
      by_cases c2 : x7_1 < (l0.length : Int)
      · rw [if_pos c2] at H
        have c2b0 : decide (x7_1 < (l0.length : Int)) = true := decide_eq_true c2
        clear c2
        by_cases c3 : 0 ≤ x7_1
        · rw [if_pos c3] at H
          have c3b0 : decide (0 ≤ x7_1) = true := decide_eq_true c3
          clear c3
          by_cases c4 : x7_1 < (l0.length : Int)
          · rw [if_pos c4] at H
            have c4b0 : decide (x7_1 < (l0.length : Int)) = true := decide_eq_true c4
            clear c4
            replace H := Option.bind_eq_some_iff.mp H
            obtain ⟨t103, A50, H⟩ := H
            replace H : (if t103 = true then (impl_valid.l0 k1 l0 (l0.length : Int) (wrap64 (x7_1 + 1))) else (some 3)) = some r := H
            have A5 := Aside0.mk A50
            clear A50
            by_cases c6 : t103 = true
            · subst c6
              have H1 : (impl_valid.l0 k1 l0 (l0.length : Int) (wrap64 (x7_1 + 1))) = some r := by rw [if_pos rfl] at H; exact H
              clear H
              have H := H1
              clear H1
              have H' := Aside0.mk H
              clear H
              have p101 : 0 ≤ (x7_1 : Int) := of_decide_eq_true (by first | (with_reducible assumption) | assumption)
              have q101 : x7_1 < (l0.length : Int) := of_decide_eq_true (by first | (with_reducible assumption) | assumption)
              obtain ⟨ad101, A101_1, c101_1, A101_2, c101_2, e101, hx101_0, hx101_1, hx101_2, hl101_1, hi101_1, hl101_2, hi101_2⟩ := at_T28 HR0.out x7_1 p101 q101
              cases e101
              replace hx101_0 := (HB.out.cell (World.block_lt_of_cell? w _ hx101_0)).trans hx101_0
              replace hx101_1 := (HB.out.cell (World.block_lt_of_cell? w _ hx101_1)).trans hx101_1
              replace hx101_2 := (HB.out.cell (World.block_lt_of_cell? w _ hx101_2)).trans hx101_2
              have HR101_1 := Aside0.mk hi101_1
              have HC101_1 := Aside0.mk hl101_1
              clear hi101_1 hl101_1
              have HR101_2 := Aside0.mk hi101_2
              have HC101_2 := Aside0.mk hl101_2
              clear hi101_2 hl101_2
              replace p101 := eq_true p101
              replace q101 := eq_true q101
              go_wp2_with (first | ((with_reducible refine gate_dst (N := 4) rfl ?_); refine box_event ?hg (N := 4) ?hd (cs := #[.bool false, .slice none 0 0, .slice none 0 0]) (t := 28) ?hr ?_; (case hd => rfl); (case hg => rfl); (case hr => first | (go_simp; done) | (go_simp; rfl)); intro gb102 hg w7 hbox hb; have n0_ := Aside0.mk (below_step (by repeat (first | (with_reducible first | exact HB.out | apply below_alloc | apply pw_below_drewN | apply below_drew1) | exact HB.out)) hb); have n1_ := Aside0.mk (hbox); have n2_ := Aside0.mk ((by rw [hg]; exact (below_size (by repeat (first | (with_reducible first | exact HB.out | apply below_alloc | apply pw_below_drewN | apply below_drew1) | exact HB.out))) : w.heap.size ≤ gb102)); have n3_ := Aside0.mk ((by rw [hg]; exact (below_size (by repeat (first | (with_reducible first | exact HB.out | apply below_alloc | apply pw_below_drewN | apply below_drew1) | exact HB.out))) : w.heap.size ≤ gb102)); clear HB; have HB := n0_; have BK102 := n1_; have GW102 := n2_; have GE102 := n3_; clear n0_ n1_ n2_ n3_; clear hb hbox hg; have hcz8_0 : w7.cell? ⟨gb102, 0, none⟩ = some (.bool false) := (blk_cell BK102.out 0).trans rfl; have hcz8_1 : w7.cell? ⟨gb102, 1, none⟩ = some (.slice none 0 0) := (blk_cell BK102.out 1).trans rfl; have hcz8_2 : w7.cell? ⟨gb102, 2, none⟩ = some (.slice none 0 0) := (blk_cell BK102.out 2).trans rfl; have hfz8_0 := blk_frozen BK102.out 0; have hfz8_1 := blk_frozen BK102.out 1; have hfz8_2 := blk_frozen BK102.out 2) | ((with_reducible refine gate_callee (f := 116) rfl ?_); refine goesL_ (some 12) rfl rfl Try.func116 (by kernel_rfl) rfl #[.agg #[.bool ((rd_T28 l0 x7_1).f0), .slice A101_1 ((rd_T28 l0 x7_1).f1).length c101_1, .slice A101_2 ((rd_T28 l0 x7_1).f2).length c101_2]] rfl (by (try simp only [List.map_toArray, List.map_cons, List.map_nil]); first | done | rfl | (simp only [List.length_drop, List.length_take]; rfl)) ?_; (with_reducible refine (impl_ArrayOk.calls k1 ((rd_T28 l0 x7_1).f0) _ _ ((rd_T28 l0 x7_1).f1) _ _ ((rd_T28 l0 x7_1).f2) true _ ?side1 ?side2 ?side3 ?side4 A5.out).mono ?_); (case side1 => exact Kd.C_below HR101_1.out (by repeat (first | (with_reducible first | exact HB.out | apply below_alloc | apply pw_below_drewN | apply below_drew1 | refine below_set ?_ GE102.out) | exact HB.out))); (case side2 => exact HC101_1.out); (case side3 => exact Kd.C_below HR101_2.out (by repeat (first | (with_reducible first | exact HB.out | apply below_alloc | apply pw_below_drewN | apply below_drew1 | refine below_set ?_ GE102.out) | exact HB.out))); (case side4 => exact HC101_2.out); rintro e w9 ⟨rfl, hb⟩; refine ⟨_, rfl, ?_⟩; have n0_ := Aside0.mk (blk_below (g := gb102) (o := .cells #[.bool ((rd_T28 l0 x7_1).f0), .slice A101_1 ((rd_T28 l0 x7_1).f1).length c101_1, .slice A101_2 ((rd_T28 l0 x7_1).f2).length c101_2] 28 (0, 0)) (by (with_reducible repeat (first | refine blk_drewN ?_ _ | refine blk_drew ?_ | refine blk_alloc ?_ _)); refine blk_put (cs := #[.bool ((rd_T28 l0 x7_1).f0), .slice A101_1 ((rd_T28 l0 x7_1).f1).length c101_1, .slice none 0 0]) ?_ 2 _ rfl; (with_reducible repeat (first | refine blk_drewN ?_ _ | refine blk_drew ?_ | refine blk_alloc ?_ _)); refine blk_put (cs := #[.bool ((rd_T28 l0 x7_1).f0), .slice none 0 0, .slice none 0 0]) ?_ 1 _ rfl; (with_reducible repeat (first | refine blk_drewN ?_ _ | refine blk_drew ?_ | refine blk_alloc ?_ _)); refine blk_put (cs := #[.bool false, .slice none 0 0, .slice none 0 0]) ?_ 0 _ rfl; (with_reducible repeat (first | refine blk_drewN ?_ _ | refine blk_drew ?_ | refine blk_alloc ?_ _)); exact BK102.out) hb); have n1_ := Aside0.mk (below_step (by repeat (first | (with_reducible first | exact HB.out | apply below_alloc | apply pw_below_drewN | apply below_drew1 | refine below_set ?_ GE102.out) | exact HB.out)) hb); clear BK102; clear HB; have BK102 := n0_; have HB := n1_; clear n0_ n1_; (try clear hb); (try clear hb2); (try clear hk); (try clear hi)))
              go_roundg k1
              case measure => have := HK1.out; omega
              case rel => exact ⟨(wrap64 (x7_1 + 1)), (by first | rfl | (simp; done) | (simp [*]; done)), H', ⟨by have := HK1.out; omega⟩, ⟨by repeat (first | (with_reducible first | exact HB.out | apply below_alloc | apply pw_below_drewN | apply below_drew1 | refine below_set ?_ GE102.out) | exact HB.out)⟩⟩
            · replace c6 := Bool.eq_false_iff.mpr c6
              subst c6
              have H1 : (some 3) = some r := by rw [if_neg (show ¬ (false = true) by decide)] at H; exact H
              clear H
              have H := H1
              clear H1
              obtain rfl := Option.some.inj H
              have p101 : 0 ≤ (x7_1 : Int) := of_decide_eq_true (by first | (with_reducible assumption) | assumption)
              have q101 : x7_1 < (l0.length : Int) := of_decide_eq_true (by first | (with_reducible assumption) | assumption)
              obtain ⟨ad101, A101_1, c101_1, A101_2, c101_2, e101, hx101_0, hx101_1, hx101_2, hl101_1, hi101_1, hl101_2, hi101_2⟩ := at_T28 HR0.out x7_1 p101 q101
              cases e101
              replace hx101_0 := (HB.out.cell (World.block_lt_of_cell? w _ hx101_0)).trans hx101_0
              replace hx101_1 := (HB.out.cell (World.block_lt_of_cell? w _ hx101_1)).trans hx101_1
              replace hx101_2 := (HB.out.cell (World.block_lt_of_cell? w _ hx101_2)).trans hx101_2
              have HR101_1 := Aside0.mk hi101_1
              have HC101_1 := Aside0.mk hl101_1
              clear hi101_1 hl101_1
              have HR101_2 := Aside0.mk hi101_2
              have HC101_2 := Aside0.mk hl101_2
              clear hi101_2 hl101_2
              replace p101 := eq_true p101
              replace q101 := eq_true q101
              go_wp2_with (first | ((with_reducible refine gate_dst (N := 4) rfl ?_); refine box_event ?hg (N := 4) ?hd (cs := #[.bool false, .slice none 0 0, .slice none 0 0]) (t := 28) ?hr ?_; (case hd => rfl); (case hg => rfl); (case hr => first | (go_simp; done) | (go_simp; rfl)); intro gb102 hg w10 hbox hb; have n0_ := Aside0.mk (below_step (by repeat (first | (with_reducible first | exact HB.out | apply below_alloc | apply pw_below_drewN | apply below_drew1) | exact HB.out)) hb); have n1_ := Aside0.mk (hbox); have n2_ := Aside0.mk ((by rw [hg]; exact (below_size (by repeat (first | (with_reducible first | exact HB.out | apply below_alloc | apply pw_below_drewN | apply below_drew1) | exact HB.out))) : w.heap.size ≤ gb102)); have n3_ := Aside0.mk ((by rw [hg]; exact (below_size (by repeat (first | (with_reducible first | exact HB.out | apply below_alloc | apply pw_below_drewN | apply below_drew1) | exact HB.out))) : w.heap.size ≤ gb102)); clear HB; have HB := n0_; have BK102 := n1_; have GW102 := n2_; have GE102 := n3_; clear n0_ n1_ n2_ n3_; clear hb hbox hg; have hcz11_0 : w10.cell? ⟨gb102, 0, none⟩ = some (.bool false) := (blk_cell BK102.out 0).trans rfl; have hcz11_1 : w10.cell? ⟨gb102, 1, none⟩ = some (.slice none 0 0) := (blk_cell BK102.out 1).trans rfl; have hcz11_2 : w10.cell? ⟨gb102, 2, none⟩ = some (.slice none 0 0) := (blk_cell BK102.out 2).trans rfl; have hfz11_0 := blk_frozen BK102.out 0; have hfz11_1 := blk_frozen BK102.out 1; have hfz11_2 := blk_frozen BK102.out 2) | ((with_reducible refine gate_callee (f := 116) rfl ?_); refine goesL_ (some 12) rfl rfl Try.func116 (by kernel_rfl) rfl #[.agg #[.bool ((rd_T28 l0 x7_1).f0), .slice A101_1 ((rd_T28 l0 x7_1).f1).length c101_1, .slice A101_2 ((rd_T28 l0 x7_1).f2).length c101_2]] rfl (by (try simp only [List.map_toArray, List.map_cons, List.map_nil]); first | done | rfl | (simp only [List.length_drop, List.length_take]; rfl)) ?_; (with_reducible refine (impl_ArrayOk.calls k1 ((rd_T28 l0 x7_1).f0) _ _ ((rd_T28 l0 x7_1).f1) _ _ ((rd_T28 l0 x7_1).f2) false _ ?side1 ?side2 ?side3 ?side4 A5.out).mono ?_); (case side1 => exact Kd.C_below HR101_1.out (by repeat (first | (with_reducible first | exact HB.out | apply below_alloc | apply pw_below_drewN | apply below_drew1 | refine below_set ?_ GE102.out) | exact HB.out))); (case side2 => exact HC101_1.out); (case side3 => exact Kd.C_below HR101_2.out (by repeat (first | (with_reducible first | exact HB.out | apply below_alloc | apply pw_below_drewN | apply below_drew1 | refine below_set ?_ GE102.out) | exact HB.out))); (case side4 => exact HC101_2.out); rintro e w12 ⟨rfl, hb⟩; refine ⟨_, rfl, ?_⟩; have n0_ := Aside0.mk (blk_below (g := gb102) (o := .cells #[.bool ((rd_T28 l0 x7_1).f0), .slice A101_1 ((rd_T28 l0 x7_1).f1).length c101_1, .slice A101_2 ((rd_T28 l0 x7_1).f2).length c101_2] 28 (0, 0)) (by (with_reducible repeat (first | refine blk_drewN ?_ _ | refine blk_drew ?_ | refine blk_alloc ?_ _)); refine blk_put (cs := #[.bool ((rd_T28 l0 x7_1).f0), .slice A101_1 ((rd_T28 l0 x7_1).f1).length c101_1, .slice none 0 0]) ?_ 2 _ rfl; (with_reducible repeat (first | refine blk_drewN ?_ _ | refine blk_drew ?_ | refine blk_alloc ?_ _)); refine blk_put (cs := #[.bool ((rd_T28 l0 x7_1).f0), .slice none 0 0, .slice none 0 0]) ?_ 1 _ rfl; (with_reducible repeat (first | refine blk_drewN ?_ _ | refine blk_drew ?_ | refine blk_alloc ?_ _)); refine blk_put (cs := #[.bool false, .slice none 0 0, .slice none 0 0]) ?_ 0 _ rfl; (with_reducible repeat (first | refine blk_drewN ?_ _ | refine blk_drew ?_ | refine blk_alloc ?_ _)); exact BK102.out) hb); have n1_ := Aside0.mk (below_step (by repeat (first | (with_reducible first | exact HB.out | apply below_alloc | apply pw_below_drewN | apply below_drew1 | refine below_set ?_ GE102.out) | exact HB.out)) hb); clear BK102; clear HB; have BK102 := n0_; have HB := n1_; clear n0_ n1_; (try clear hb); (try clear hb2); (try clear hk); (try clear hi)))
              go_ret
              exact ⟨by first | rfl | (simp [errW_none, errW_some] <;> rfl) | (simp [*, errW_none, errW_some] <;> rfl), by repeat (first | (with_reducible first | exact HB.out | apply below_alloc | apply pw_below_drewN | apply below_drew1 | refine below_set ?_ GE102.out) | exact HB.out)⟩
          · rw [if_neg c4] at H
            exact absurd H (by simp)
        · rw [if_neg c3] at H
          exact absurd H (by simp)
      · rw [if_neg c2] at H
        have c2b0 : decide (x7_1 < (l0.length : Int)) = false := decide_eq_false c2
        clear c2
        obtain rfl := Option.some.inj H
        go_wp2
        go_ret
        exact ⟨by first | rfl | (simp [errW_none, errW_some] <;> rfl) | (simp [*, errW_none, errW_some] <;> rfl), by repeat (first | (with_reducible first | exact HB.out | apply below_alloc | apply pw_below_drewN | apply below_drew1) | exact HB.out)⟩

end Go.Proofs.Ytehfcnndjhjkoaa.PA

namespace Go.Proofs.Ytehfcnndjhjkoaa.PA
open Go.RowKit Go.Proofs.YtehfcnndjhjkoaaW.PrintWords Go.Proofs.YtehfcnndjhjkoaaW.PrintLast Go.Proofs.YtehfcnndjhjkoaaW.PrintMore
set_option linter.unusedVariables false
set_option linter.unusedSimpArgs false
theorem clone_eq (l : List Int) (h : l.length < 17592186044416) : slices_Clone_int_int.f l = some l := by
  simp [slices_Clone_int_int.f, h]

/-- The numbers from a on, n of them. -/
def upFrom : Int → Nat → List Int
  | _, 0 => []
  | a, n + 1 => a :: upFrom (a + 1) n
theorem upFrom_len : ∀ (n : Nat) (a : Int), (upFrom a n).length = n
  | 0, _ => rfl
  | n + 1, a => by simp [upFrom, upFrom_len n]
theorem markIntS_loop : ∀ (t p : List Int) (a : Int), (p ++ t).length < 35184372088833 → 0 ≤ a → a + t.length ≤ 9000000000000000000 →
    Ev (fun k => laws_markIntS.l0 k (p ++ t) a (p.length : Int)) (a + t.length, p ++ upFrom a t.length)
  | [], p, a, _, _, _ => by
    refine evVal (evRound (Ev.now _) fun k => ?_) (by simp [upFrom] : (a, p ++ []) = _)
    simp only [laws_markIntS.l0]; rw [if_neg len_nlt]
  | b :: t, p, a, hl, h0, h1 => by
    have ih := markIntS_loop t (p ++ [a]) (a + 1) (by simpa using hl) (by omega) (by simp only [List.length_cons] at h1; omega)
    refine evVal (evRound ih fun k => ?_) (by simp [upFrom]; omega)
    simp only [laws_markIntS.l0]
    rw [if_pos len_lt, if_pos (by omega), next_mid p t b hl, Int.toNat_natCast, set_mid, w64 (by omega) (by simp only [List.length_cons] at h1; omega)]
    simp
theorem markIntS_ev (l : List Int) (a : Int) (hl : l.length ≤ 35184372088832) (h0 : 0 ≤ a) (h1 : a ≤ 1000000000000000000) : Ev (fun k => laws_markIntS.f k l a) (a + l.length, upFrom a l.length) := by
  have := markIntS_loop l [] a (by simp; omega) h0 (by omega)
  simpa [laws_markIntS.f] using this
theorem heldIntS_loop : ∀ (n : Nat) (p : List Int) (a : Int), p.length + n < 35184372088833 → 0 ≤ a → a + n ≤ 9000000000000000000 →
    Ev (fun k => laws_heldIntS.l0 k (p ++ upFrom a n) a (p.length : Int)) (a + n)
  | 0, p, a, _, _, _ => by
    rw [show upFrom a 0 = [] from rfl]
    refine evVal (evRound (Ev.now a) fun k => ?_) (by simp)
    simp only [laws_heldIntS.l0]; rw [if_neg len_nlt]
  | n + 1, p, a, hl, h0, h1 => by
    have ih := heldIntS_loop n (p ++ [a]) (a + 1) (by simp; omega) (by omega) (by omega)
    rw [← app_mid] at ih
    rw [show upFrom a (n + 1) = a :: upFrom (a + 1) n from rfl]
    refine evVal (evRound ih fun k => ?_) (by omega)
    simp only [laws_heldIntS.l0]
    rw [if_pos len_lt, if_pos (by omega), rd_mid, if_pos rfl, next_mid p (upFrom (a + 1) n) a (by simp [upFrom_len]; omega), w64 (by omega) (by omega)]
theorem heldIntS_ev (n : Nat) (a : Int) (hl : n ≤ 35184372088832) (h0 : 0 ≤ a) (h1 : a ≤ 1000000000000000000) : Ev (fun k => laws_heldIntS.f k (upFrom a n) a) (a + n) := by
  have := heldIntS_loop n [] a (by simp; omega) h0 (by omega)
  simpa [laws_heldIntS.f] using this
theorem shOk_len {l : List Int} (h : shOk l = true) : l.length ≤ 5 := by
  simp only [shOk, Bool.and_eq_true, decide_eq_true_eq] at h; exact h.1
theorem shOk_range {l : List Int} (h : shOk l = true) : ∀ a ∈ l, 0 ≤ a ∧ a ≤ 10000 := by
  simp only [shOk, Bool.and_eq_true, decide_eq_true_eq] at h; exact shGo_range h.2
theorem shOk_prod {l : List Int} (h : shOk l = true) : 0 ≤ prod l ∧ prod l ≤ 10000 := by
  simp only [shOk, Bool.and_eq_true, decide_eq_true_eq] at h; exact shGo_bound h.2

theorem markArray_ev (b : Bool) (l1 l2 : List Int) (a : Int) (h1 : l1.length ≤ 35184372088832) (h2 : l2.length ≤ 35184372088832) (h0 : 0 ≤ a) (ha : a ≤ 100000000000000000) :
    Ev (fun k => laws_markArray.f k b l1 l2 a) (a + l1.length + l2.length, upFrom a l1.length, upFrom (a + l1.length) l2.length) := by
  simp only [laws_markArray.f]
  exact Ev.bind (markIntS_ev l1 a h1 h0 (by omega)) (Ev.bind (markIntS_ev l2 (a + l1.length) h2 (by omega) (by omega)) (Ev.now _))
theorem heldArray_ev (b : Bool) (n m : Nat) (a : Int) (h1 : n ≤ 35184372088832) (h2 : m ≤ 35184372088832) (h0 : 0 ≤ a) (ha : a ≤ 100000000000000000) :
    Ev (fun k => laws_heldArray.f k b (upFrom a n) (upFrom (a + n) m) a) (a + n + m) := by
  simp only [laws_heldArray.f]
  refine Ev.bind (heldIntS_ev n a h1 h0 (by omega)) ?_
  simp only [show ¬ a + (n : Int) < 0 by omega, if_false]
  refine Ev.bind (heldIntS_ev m (a + n) h2 (by omega) (by omega)) ?_
  simp only [show ¬ a + (n : Int) + (m : Int) < 0 by omega, if_false]
  exact Ev.now _
theorem arrOk_sh {b : Bool} {l1 l2 : List Int} (h : arrOk b l1 l2 = true) : shOk l1 = true := by
  unfold arrOk at h; simp only [Bool.and_eq_true] at h; exact h.1.1
theorem arrOk_prod {b : Bool} {l1 l2 : List Int} (h : arrOk b l1 l2 = true) : prod l1 = l2.length := by
  unfold arrOk at h; simp only [Bool.and_eq_true, decide_eq_true_eq] at h; exact h.1.2
theorem arrOk_len {b : Bool} {l1 l2 : List Int} (h : arrOk b l1 l2 = true) : l1.length ≤ 5 ∧ l2.length ≤ 10000 := by
  have h1 := shOk_len (arrOk_sh h); have h2 := shOk_prod (arrOk_sh h); have h3 := arrOk_prod h; omega
theorem arrOk_cells {b : Bool} {l1 l2 : List Int} (h : arrOk b l1 l2 = true) : ∀ x ∈ l2, -1000000000000000 ≤ x ∧ x ≤ 1000000000000000 := fun x hx => by
  unfold arrOk at h; simp only [Bool.and_eq_true, List.all_eq_true] at h
  have := h.2 x hx
  unfold cellOk at this
  cases b
  · simp only [Bool.false_eq_true, if_false, decide_eq_true_eq] at this; exact this
  · simp only [if_true, decide_eq_true_eq] at this; omega
/-! ### valid -/
theorem valid_one (k : Nat) (t p : List S28) (a : S28) : impl_valid.l0 (k + 1) (p ++ a :: t) ((p ++ a :: t).length : Int) (p.length : Int) = (impl_ArrayOk.f k a.f0 a.f1 a.f2).bind fun r => if r = true then impl_valid.l0 k (p ++ a :: t) ((p ++ a :: t).length : Int) (wrap64 ((p.length : Int) + 1)) else some 3 := by
  simp only [impl_valid.l0]
  rw [if_pos (by simp; omega), if_pos (by omega), if_pos (by simp; omega)]
  simp [rd_T28, List.getD_eq_getElem?_getD]
theorem valid_ev2 (b : Bool) (l1 l2 : List Int) (c : Bool) (m1 m2 : List Int) (h2 : l2.length ≤ 35184372088832) (h3 : m2.length ≤ 35184372088832) : Ev (fun k => impl_valid.f k [⟨b, l1, l2⟩, ⟨c, m1, m2⟩]) (if arrOk b l1 l2 && arrOk c m1 m2 then 0 else 3) := by
  simp only [impl_valid.f]
  refine evRound (f := fun k => (impl_ArrayOk.f k b l1 l2).bind fun r => if r = true then impl_valid.l0 k [⟨b, l1, l2⟩, ⟨c, m1, m2⟩] 2 1 else some 3) ?_ (fun k => ?_)
  · refine Ev.bind (implArrayOk_ev b l1 l2 h2) ?_
    by_cases h : arrOk b l1 l2 = true
    · simp only [h, if_true, Bool.true_and]
      refine evRound (f := fun k => (impl_ArrayOk.f k c m1 m2).bind fun r => if r = true then impl_valid.l0 k [⟨b, l1, l2⟩, ⟨c, m1, m2⟩] 2 2 else some 3) ?_ (fun k => ?_)
      · refine Ev.bind (implArrayOk_ev c m1 m2 h3) ?_
        by_cases h' : arrOk c m1 m2 = true
        · simp only [h', if_true]; exact evRound (Ev.now _) fun k => by simp [impl_valid.l0]
        · simp only [h', if_false]; exact Ev.now _
      · have := valid_one k [] [⟨b, l1, l2⟩] ⟨c, m1, m2⟩
        simp only [List.cons_append, List.nil_append, List.length_nil, List.length_cons] at this
        exact this.trans (by rw [w64 (by omega) (by omega)]; rfl)
    · simp only [h, if_false, Bool.false_and, Bool.false_eq_true]; exact Ev.now _
  · have := valid_one k [⟨c, m1, m2⟩] [] ⟨b, l1, l2⟩
    simp only [List.nil_append, List.length_nil, List.length_cons] at this
    exact this.trans (by rw [w64 (by omega) (by omega)]; rfl)
/-! ### of -/
def fillV (c : Bool) : Int := if c then 32 else 0
def ofV (c : Bool) (l : List Int) (i : Int) : Int := if i ≥ 0 then rd l i else fillV c
/-- The elements of which a move makes an array. -/
def ofL (c : Bool) (l fr : List Int) : List Int := fr.map (ofV c l)
theorem ofL_len (c : Bool) (l fr : List Int) : (ofL c l fr).length = fr.length := by simp [ofL]
theorem fill_eq (c : Bool) (l1 l2 : List Int) : impl_Array_fill.f c l1 l2 = some (fillV c) := by unfold impl_Array_fill.f fillV; cases c <;> rfl
theorem set_twice (p z : List Int) (a b x : Int) (n : Nat) (h : p.length = n) : ((p ++ x :: z).set n a).set n b = p ++ b :: z := by subst h; simp
theorem set_once (p z : List Int) (a x : Int) (n : Nat) (h : p.length = n) : (p ++ x :: z).set n a = p ++ a :: z := by subst h; simp
theorem moveOf_loop (c : Bool) (l1 l2 sh : List Int) : ∀ (t p : List Int), (p ++ t).length < 35184372088833 → (∀ x ∈ t, x < l2.length) →
    Ev (fun k => impl_move_of.l0 k (p ++ t) ((p ++ t).length : Int) (p.length : Int) c l1 l2 c sh (ofL c l2 p ++ List.replicate t.length 0)) (c, sh, ofL c l2 (p ++ t))
  | [], p, hl, _ => by
    refine evVal (evRound (Ev.now (c, sh, ofL c l2 p)) fun k => ?_) (by simp)
    simp only [impl_move_of.l0]; rw [if_neg len_nlt]; simp
  | x :: t, p, hl, hx => by
    have hx0 := hx x (by simp)
    have ih := moveOf_loop c l1 l2 sh t (p ++ [x]) (by simpa using hl) (fun y hy => hx y (by simp [hy]))
    rw [← app_mid] at ih
    refine evRound ih fun k => ?_
    have hof : ofL c l2 (p ++ [x]) = ofL c l2 p ++ [ofV c l2 x] := by simp [ofL]
    have hpl : (ofL c l2 p).length = p.length := ofL_len _ _ _
    simp only [impl_move_of.l0]
    rw [if_pos len_lt, if_pos (by omega), if_pos len_lt, fill_eq, rd_mid, hof]
    simp only [Option.bind_some, List.length_cons, List.replicate_succ, Int.toNat_natCast]
    rw [if_pos (by simp [hpl]; omega), next_mid p t x hl]
    by_cases h0 : x ≥ 0
    · rw [if_pos h0, if_pos (by omega), if_pos hx0, set_twice _ _ _ _ _ _ hpl]
      simp [ofV, h0]
    · rw [if_neg h0, set_once _ _ _ _ _ hpl]
      simp [ofV, h0]
theorem moveOf_ev (c : Bool) (l1 l2 sh fr : List Int) (hs : sh.length < 17592186044416) (hf : fr.length ≤ 35184372088832) (hx : ∀ x ∈ fr, x < l2.length) : Ev (fun k => impl_move_of.f k sh fr c l1 l2) (c, sh, ofL c l2 fr) := by
  have h := moveOf_loop c l1 l2 sh fr [] (by simpa using (by omega : fr.length < 35184372088833)) hx
  refine Ev.congr (fun k => ?_) h
  simp only [impl_move_of.f, clone_eq sh hs, Option.bind_some]
  rw [if_pos (by omega), if_pos (by omega)]
  simp [ofL]
theorem made_ev (c : Bool) (l1 l2 sh fr : List Int) (hs : sh.length < 17592186044416) (hf : fr.length ≤ 35184372088832) (hx : ∀ x ∈ fr, x < l2.length) : Ev (fun k => impl_made.f k c l1 l2 sh fr 0) (c, sh, ofL c l2 fr, 0) := by
  simp only [impl_made.f, if_true]
  exact Ev.bind (moveOf_ev c l1 l2 sh fr hs hf hx) (Ev.now _)
theorem made_no (c : Bool) (l1 l2 sh fr : List Int) (a : Int) (h : a ≠ 0) : Ev (fun k => impl_made.f k c l1 l2 sh fr a) (false, [], [], a) := by
  simp only [impl_made.f, h, if_false]; exact Ev.now _
end Go.Proofs.Ytehfcnndjhjkoaa.PA

namespace Go.Proofs.Ytehfcnndjhjkoaa.PA
open Go.RowKit Go.Proofs.YtehfcnndjhjkoaaW.PrintWords Go.Proofs.YtehfcnndjhjkoaaW.PrintLast Go.Proofs.YtehfcnndjhjkoaaW.PrintMore
set_option linter.unusedVariables false
set_option linter.unusedSimpArgs false
/-- The number of an element, from an axis and a number on, over the numbers that are left (as the program reckons it). -/
def numGo (sh : List Int) : Nat → Int → List Int → Int
  | _, n, [] => n
  | k, n, i :: t => numGo sh (k + 1) (wrap64 (wrap64 (n * rd sh (k : Int)) + i)) t
/-- The same without bounds. -/
def hor : Int → List Int → List Int → Int
  | n, a :: sh, d :: ds => hor (n * a + d) sh ds
  | n, _, _ => n
theorem prod_snoc (p : List Int) (a : Int) : prod (p ++ [a]) = prod p * a := by rw [prod_app]; simp [prod]
theorem prod_pos : ∀ {p : List Int}, (∀ a ∈ p, 1 ≤ a) → 1 ≤ prod p
  | [], _ => by simp [prod]
  | a :: p, h => by
    have h1 := h a (by simp)
    have h2 := prod_pos (p := p) (fun x hx => h x (by simp [hx]))
    have := Int.mul_le_mul h1 h2 (by omega) (by omega)
    simpa [prod] using this
theorem digs_range : ∀ (n : Nat) (s : List Int) (c : Int), s.length = n → (∀ a ∈ s, 1 ≤ a) → 0 ≤ c → ∀ k : Nat, k < n → 0 ≤ rd (digs s c) (k : Int) ∧ rd (digs s c) (k : Int) < rd s (k : Int)
  | 0, s, c, hn, _, _, k, hk => by omega
  | n + 1, s, c, hn, hs, h0, k, hk => by
    obtain ⟨p, a, rfl, hp⟩ := snocI hn
    have ha := hs a (by simp)
    rw [digs_snoc]
    by_cases e : k = n
    · subst e
      rw [rd_last _ [] _ k (by rw [digs_len, hp]), rd_last p [] a k hp]
      exact ⟨Int.emod_nonneg _ (by omega), Int.emod_lt_of_pos _ (by omega)⟩
    · have ih := digs_range n p (c / a) hp (fun x hx => hs x (by simp [hx])) (Int.ediv_nonneg h0 (by omega)) k (by omega)
      have e1 : rd (digs p (c / a) ++ [c % a]) (k : Int) = rd (digs p (c / a)) (k : Int) := by
        simp only [rd, Int.toNat_natCast, List.getD_eq_getElem?_getD]; rw [List.getElem?_append_left (by rw [digs_len]; omega)]
      have e2 : rd (p ++ [a]) (k : Int) = rd p (k : Int) := by
        simp only [rd, Int.toNat_natCast, List.getD_eq_getElem?_getD]; rw [List.getElem?_append_left (by omega)]
      rw [e1, e2]; exact ih
/-- The program's number is the plain one where each digit is in range. -/
theorem numGo_hor (sh : List Int) (hs : ∀ a ∈ sh, 1 ≤ a) (hp : prod sh ≤ 1000000000) : ∀ (t : List Int) (p q : List Int) (n : Int), p ++ q = sh → q.length = t.length → 0 ≤ n → n < prod p → (∀ k : Nat, k < t.length → 0 ≤ rd t (k : Int) ∧ rd t (k : Int) < rd q (k : Int)) →
    numGo sh p.length n t = hor n q t
  | [], p, q, n, e, hl, h0, h1, hr => by
    obtain rfl := List.eq_nil_of_length_eq_zero hl
    simp [numGo, hor]
  | d :: t, p, [], n, e, hl, h0, h1, hr => by simp at hl
  | d :: t, p, a :: q, n, e, hl, h0, h1, hr => by
    have ha : 1 ≤ a := hs a (by rw [← e]; simp)
    have hd := hr 0 (by simp)
    simp only [rd, Int.ofNat_zero, Int.toNat_zero, List.getD_cons_zero] at hd
    have hd : 0 ≤ d ∧ d < a := hd
    have hq1 : 1 ≤ prod q := prod_pos (fun x hx => hs x (by rw [← e]; simp [hx]))
    have hp1 : 1 ≤ prod p := prod_pos (fun x hx => hs x (by rw [← e]; simp [hx]))
    have hpp : prod p * a * prod q ≤ 1000000000 := by
      have h := hp
      rw [← e, prod_app] at h; simp only [prod] at h; rw [Int.mul_assoc]; exact h
    have hpa : prod p * a ≤ 1000000000 := by
      have h1 := Int.mul_le_mul_of_nonneg_left hq1 (show 0 ≤ prod p * a from Int.mul_nonneg (by omega) (by omega))
      omega
    have hna : n * a + d < prod p * a := by
      have h := Int.mul_le_mul_of_nonneg_right (show n + 1 ≤ prod p by omega) (show 0 ≤ a by omega)
      rw [Int.add_mul] at h; omega
    have hn0 : 0 ≤ n * a := Int.mul_nonneg h0 (by omega)
    have hrd : rd sh (p.length : Int) = a := by rw [← e]; exact rd_last p q a _ rfl
    rw [numGo, hrd, w64 (x := n * a) (by omega) (by omega), w64 (by omega) (by omega), hor]
    have := numGo_hor sh hs hp t (p ++ [a]) q (n * a + d) (by rw [← e]; simp) (by simpa using hl) (by omega) (by rw [prod_snoc]; exact hna) (fun k hk => by
      have h := hr (k + 1) (by simp; omega)
      simp only [rd, Int.toNat_natCast, List.getD_cons_succ] at h ⊢
      exact h)
    simpa using this
end Go.Proofs.Ytehfcnndjhjkoaa.PA

-- By a program (prt.py, over the print of the kit), for this claim. Not trusted: Lean checks it.
namespace Go.Proofs.Ytehfcnndjhjkoaa.PA
open Go.RowKit Go.Proofs.YtehfcnndjhjkoaaW.PrintWords Go.Proofs.YtehfcnndjhjkoaaW.PrintLast Go.Proofs.YtehfcnndjhjkoaaW.PrintMore
attribute [local go_sem] max2_int min2_int max_two min_two max_three min_three max_four min_four   -- for this text's walks alone
set_option linter.unusedVariables false
set_option linter.unusedSimpArgs false

/-! ### impl_number: function 120 -/
def impl_number.l0 : Nat → List Int → Int → List Int → Int → Int → Option (Int)
  | 0, _, _, _, _, _ => none
  | k + 1, x0, x5, x8, x9, x10 => if x10 < x9 then (if 0 ≤ x10 then (if x10 < (x8.length : Int) then (if x10 < (x0.length : Int) then (impl_number.l0 k x0 (wrap64 ((wrap64 (x5 * (rd x0 x10))) + (rd x8 x10))) x8 x9 (wrap64 (x10 + 1))) else (none)) else (none)) else (none)) else (some x5)
def impl_number.f (k : Nat) (l0 : List Int) (l1 : List Int) : Option (Int) := impl_number.l0 k l0 0 l1 (l1.length : Int) 0
theorem impl_number.mono_l : ∀ k, (∀ y0 y1 y2 y3 y4, LeO (impl_number.l0 k y0 y1 y2 y3 y4) (impl_number.l0 (k + 1) y0 y1 y2 y3 y4))
  | 0 => fun _ _ _ _ _ r h => by simp [impl_number.l0] at h
  | k + 1 => by
    have ih0 := impl_number.mono_l k
    · intro y0 y1 y2 y3 y4
      unfold impl_number.l0
      repeat' first
      | (with_reducible exact ih0 _ _ _ _ _)
      | (with_reducible exact LeO.refl _)
      | (with_reducible exact LeO.none _)
      | (with_reducible refine LeO.ite ?_ ?_)
      | (with_reducible refine LeO.bind ?_ (fun _ => ?_))
      | exact ih0 _ _ _ _ _
      | exact LeO.none _
      | refine LeO.ite ?_ ?_
      | refine LeO.bind ?_ (fun _ => ?_)
theorem impl_number.mono : ∀ a0 a1 k, LeO (impl_number.f k a0 a1) (impl_number.f (k + 1) a0 a1) := by
  intro a0 a1 k
  have ih0 := impl_number.mono_l k
  unfold impl_number.f
  repeat' first
      | (with_reducible exact ih0 _ _ _ _ _)
      | (with_reducible exact LeO.refl _)
      | (with_reducible exact LeO.none _)
      | (with_reducible refine LeO.ite ?_ ?_)
      | (with_reducible refine LeO.bind ?_ (fun _ => ?_))
      | exact ih0 _ _ _ _ _
      | exact LeO.none _
      | refine LeO.ite ?_ ?_
      | refine LeO.bind ?_ (fun _ => ?_)
set_option maxHeartbeats 8000000 in
set_option maxRecDepth 100000 in
theorem impl_number.calls (k : Nat) (A0 : Option Addr) (c0 : Nat) (l0 : List Int) (A1 : Option Addr) (c1 : Nat) (l1 : List Int) (r : Int) (w : World) (hr0 : Kd.C (Kd.int .i64) w A0 l0.length l0) (hc0 : l0.length ≤ c0) (hr1 : Kd.C (Kd.int .i64) w A1 l1.length l1) (hc1 : l1.length ≤ c1) (h : impl_number.f k l0 l1 = some r) :
    Calls Try.prog 120 #[.slice A0 l0.length c0, .slice A1 l1.length c1] w fun e w' => e = .returned (.int .i64 r) ∧ Drawn0 w w' := by
  have HR0 := Aside0.mk hr0
  have HC0 := Aside0.mk hc0
  clear hr0 hc0
  have HR1 := Aside0.mk hr1
  have HC1 := Aside0.mk hc1
  clear hr1 hc1
  have H : (impl_number.l0 k l0 0 l1 (l1.length : Int) 0) = some r := h
  clear h
  have H' := Aside0.mk H
  clear H
  go_enter Try.func120, Try.ntmps120
  go_wp2
  go_loopg [5, 10] k (fun kq v5 v10 w' => ∃ (x5_1 : Int) (x10_1 : Int), v5 = .int .i64 x5_1 ∧ v10 = .int .i64 x10_1 ∧ Aside0 (impl_number.l0 kq l0 x5_1 l1 (l1.length : Int) x10_1 = some r) ∧ Aside0 (kq ≤ k) ∧ Drawn0 w w')
  case atStart => exact ⟨(0), (0), (by first | rfl | (simp; done) | (simp [*]; done)), (by first | rfl | (simp; done) | (simp [*]; done)), H', ⟨Nat.le_refl _⟩, by repeat (first | exact Drawn0.refl _ | apply Drawn0.step)⟩
  case round =>
    clear H'
    try clear c1
    try clear p2
    obtain ⟨x5_1, x10_1, rfl, rfl, HA, HK1, ⟨m1, rfl⟩⟩ := hrel
    cases gk with
    | zero => exact absurd HA.out (by simp [impl_number.l0])
    | succ k1 =>
      have H := HA.out
      clear HA
      simp only [impl_number.l0] at H
      by_cases c3 : x10_1 < (l1.length : Int)
      · rw [if_pos c3] at H
        have c3b0 : decide (x10_1 < (l1.length : Int)) = true := decide_eq_true c3
        clear c3
        by_cases c4 : 0 ≤ x10_1
        · rw [if_pos c4] at H
          have c4b0 : decide (0 ≤ x10_1) = true := decide_eq_true c4
          clear c4
          by_cases c5 : x10_1 < (l1.length : Int)
          · rw [if_pos c5] at H
            have c5b0 : decide (x10_1 < (l1.length : Int)) = true := decide_eq_true c5
            clear c5
            by_cases c6 : x10_1 < (l0.length : Int)
            · rw [if_pos c6] at H
              have c6b0 : decide (x10_1 < (l0.length : Int)) = true := decide_eq_true c6
              clear c6
              have H' := Aside0.mk H
              clear H
              have p101 : 0 ≤ (x10_1 : Int) := of_decide_eq_true (by first | (with_reducible assumption) | assumption)
              have q101 : x10_1 < (l1.length : Int) := of_decide_eq_true (by first | (with_reducible assumption) | assumption)
              obtain ⟨ad101, e101, hx101_0⟩ := Kd.at_int HR1.out x10_1 p101 q101
              cases e101
              replace p101 := eq_true p101
              replace q101 := eq_true q101
              have p102 : 0 ≤ (x10_1 : Int) := of_decide_eq_true (by first | (with_reducible assumption) | assumption)
              have q102 : x10_1 < (l0.length : Int) := of_decide_eq_true (by first | (with_reducible assumption) | assumption)
              obtain ⟨ad102, e102, hx102_0⟩ := Kd.at_int HR0.out x10_1 p102 q102
              cases e102
              replace p102 := eq_true p102
              replace q102 := eq_true q102
              go_wp2
              go_roundg k1
              case measure => have := HK1.out; omega
              case rel => exact ⟨(wrap64 ((wrap64 (x5_1 * (rd l0 x10_1))) + (rd l1 x10_1))), (wrap64 (x10_1 + 1)), (by first | rfl | (simp; done) | (simp [*]; done)), (by first | rfl | (simp; done) | (simp [*]; done)), H', ⟨by have := HK1.out; omega⟩, by repeat (first | exact Drawn0.refl _ | apply Drawn0.step)⟩
            · rw [if_neg c6] at H
              exact absurd H (by simp)
          · rw [if_neg c5] at H
            exact absurd H (by simp)
        · rw [if_neg c4] at H
          exact absurd H (by simp)
      · rw [if_neg c3] at H
        have c3b0 : decide (x10_1 < (l1.length : Int)) = false := decide_eq_false c3
        clear c3
        obtain rfl := Option.some.inj H
        go_wp2
        go_ret
        exact ⟨by first | rfl | (simp; done) | (simp [*]; done), by repeat (first | exact Drawn0.refl _ | apply Drawn0.step)⟩

end Go.Proofs.Ytehfcnndjhjkoaa.PA

namespace Go.Proofs.Ytehfcnndjhjkoaa.PA
open Go.RowKit Go.Proofs.YtehfcnndjhjkoaaW.PrintWords Go.Proofs.YtehfcnndjhjkoaaW.PrintLast Go.Proofs.YtehfcnndjhjkoaaW.PrintMore
set_option linter.unusedVariables false
theorem number_go (sh src : List Int) (h : src.length ≤ sh.length) (hb : src.length ≤ 1000000) : ∀ (m j : Nat) (n : Int), j + m = src.length →
    impl_number.l0 (m + 1) sh n src (src.length : Int) (j : Int) = some (numGo sh j n (src.drop j))
  | 0, j, n, hj => by
    rw [impl_number.l0, if_neg (by omega), List.drop_eq_nil_of_le (by omega), numGo]
  | m + 1, j, n, hj => by
    have hlt : j < src.length := by omega
    rw [impl_number.l0, if_pos (by omega), if_pos (by omega), if_pos (by omega), if_pos (by omega), show wrap64 ((j : Int) + 1) = ((j + 1 : Nat) : Int) from by rw [w64 (by omega) (by omega)]; push_cast; rfl]
    rw [number_go sh src h hb m (j + 1) _ (by omega), List.drop_eq_getElem_cons hlt, numGo]
    simp [rd, List.getD_eq_getElem?_getD, hlt]
theorem number_ev (sh src : List Int) (h : src.length ≤ sh.length) (hb : src.length ≤ 1000000) : impl_number.f (src.length + 1) sh src = some (numGo sh 0 0 src) :=
  number_go sh src h hb src.length 0 0 (by omega)
end Go.Proofs.Ytehfcnndjhjkoaa.PA

namespace Go.Proofs.Ytehfcnndjhjkoaa.PA
open Go.RowKit Go.Shelf Go.Proofs.YtehfcnndjhjkoaaW.PrintWords Go.Proofs.YtehfcnndjhjkoaaW.PrintLast Go.Proofs.YtehfcnndjhjkoaaW.PrintMore
attribute [local go_sem] Oper.semAt_some
set_option linter.unusedVariables false
set_option linter.unusedSimpArgs false
theorem rowI_C {w : World} {g : Nat} {t : TypeId} {l : List Int} (h : w.heap[g]? = some (.cells (rowI l) t (0, 0))) (hm : l.length ≤ 9223372036854775807) : Kd.C (Kd.int .i64) w (some ⟨g, 0, none⟩) l.length l := by
  refine Kd.C_of_reads (d := (0 : Int)) (h1 := fun _ => rfl) ⟨rfl, by omega, fun _ => ⟨_, rfl, fun j hj => ?_⟩⟩
  have ha : (⟨g, 0, none⟩ : Addr).add j = ⟨g, j, none⟩ := by unfold Addr.add; split <;> simp_all
  rw [ha, rowI_cell h j hj]
  simp only [rd, Int.toNat_natCast]
theorem C_block {w : World} {A : Option Addr} {l : List Int} (h : Kd.C (Kd.int .i64) w A l.length l) {k : Nat} (h0 : 0 < l.length) (hk : some k = A.map (·.block)) : k < w.heap.size := by
  obtain ⟨ad, rfl, hx⟩ := Kd.at_int h 0 (by omega) (by omega)
  cases Option.some.inj hk
  have := World.block_lt_of_cell? w _ hx
  rwa [show (ad.add (0 : Int).toNat).block = ad.block by unfold Addr.add; split <;> rfl] at this
end Go.Proofs.Ytehfcnndjhjkoaa.PA

namespace Go.Proofs.Ytehfcnndjhjkoaa.PA
open Go.RowKit Go.Shelf Go.Proofs.YtehfcnndjhjkoaaW.PrintWords Go.Proofs.YtehfcnndjhjkoaaW.PrintLast Go.Proofs.YtehfcnndjhjkoaaW.PrintMore
set_option linter.unusedVariables false
set_option linter.unusedSimpArgs false
theorem indexes_box (A : Option Addr) (n c : Nat) (w : World) :
    Calls Try.prog 119 #[.slice A n c] w fun e w' => ∃ g, e = .returned (.func (.func 137) #[] #[.pointer (some ⟨g, 0, none⟩)]) ∧ g = w.heap.size ∧ w'.heap[g]? = some (.cells #[.slice A n c] 22 (0, 0)) ∧ Below w.heap.size w w' := by
  refine (callsIn_wide.1 (indexes_in 0 A n c w)).mono ?_
  rintro e w' ⟨rfl, rfl⟩
  exact ⟨_, rfl, rfl, blk_new w _, below_alloc (Below.refl _ _) _⟩
/-- What the iterator reads: its own box and the row behind it. -/
def IdxM (gX : Nat) (A : Option Addr) (s : List Int) (k : Nat) : Prop := k = gX ∨ (0 < s.length ∧ some k = A.map (·.block))
theorem range_indexes {g : Operand} {ps : Array Tmp} {assign body : Code} {Q : Exit → Act → World → Prop} {a : Act} {W0 : World} (gX : Nat) (A : Option Addr) (c : Nat) (s : List Int)
    (hg : a.eval g = .func (.func 137) #[] #[.pointer (some ⟨gX, 0, none⟩)]) (hX : W0.heap[gX]? = some (.cells #[.slice A s.length c] 22 (0, 0))) (hC : Kd.C (Kd.int .i64) W0 A s.length s) (hc : s.length ≤ c) (h5 : s.length ≤ 5) (hp : prod s ≤ 10000)
    (k : Nat) (hk : impl_shapeOk.f k s = some (prod s, true)) (hps : 1 = ps.size)
    (I : Nat → World → Prop) (hI : ∀ t A B, I t A → ButS (fun k => W0.heap.size ≤ k ∧ k < W0.heap.size + 3) A B → I t B) (h0 : I 0 W0) (a₁ : Act)
    (hassign : ∀ (l : Nat) (W : World) (K : Act → World → Prop), K a₁ W →
      assign.wpIn (Fence.wide.inRound l) 7 Try.prog (Exit.then K (fun _ _ _ => False)) { tmps := (ps.zip #[.slice (some ⟨W0.heap.size + 2, 0, none⟩) s.length s.length]).foldl (fun t (p, v) => t.setIfInBounds p v) a.tmps, defers := [] } W)
    (hbody : ∀ (l t : Nat) (W : World), I t W → t < (prod s).toNat → W.heap[W0.heap.size + 2]? = some (.cells (rowI (idxL s t)) 3 (0, 0)) → W0.heap.size + 3 ≤ W.heap.size →
      body.wpIn (Fence.wide.inRound l) 7 Try.prog (roundPost (IdxM gX A s) (AtI s (W0.heap.size + 2) t) (I (t + 1)) (fun _ _ => False) W) a₁ W)
    (hdone : ∀ (W : World), I (prod s).toNat W → W.heap[W0.heap.size]? = some (.deferred (some [])) → Q .normal { a with defers := { target := .collected W0.heap.size, args := #[] } :: a.defers } W) :
    (Code.rangeFunc g ps assign body).wp Try.prog Q a W0 := by
  refine (wpIn_wide (n := 9)).1 ?_
  refine wpIn_rounds rfl (by omega) (gf := 137) (lb := #[.pointer (some ⟨gX, 0, none⟩)]) hg trivial (enters_of Try.func137 (by kernel_rfl) rfl)
    (idx_rounds 8 (by omega) gX A c s h5 hp k hk W0 ((blk_cell hX 0).trans rfl) hC hc (fun ad e e0 => C_block hC e0 (by rw [e]; rfl)))
    (Below.refl _ _) (fun k hk => by rcases hk with rfl | ⟨e0, hk⟩; exact blk_lt hX; exact C_block hC e0 hk) (fun G t A B h e => by unfold AtI at *; rw [e]; exact h) hps
    I (fun _ _ _ => False) hI (fun _ _ _ _ h _ => h) h0 a₁ hassign ?_ hdone (fun c t W _ h _ => h.elim)
  intro l t W h1 h2 h3 h4
  refine hbody l t W h1 h2 h3 ?_
  have := blk_lt h3
  omega
end Go.Proofs.Ytehfcnndjhjkoaa.PA

-- By a program (prt.py, over the print of the kit), for this claim. Not trusted: Lean checks it.
namespace Go.Proofs.Ytehfcnndjhjkoaa.PA
open Go.RowKit Go.Proofs.YtehfcnndjhjkoaaW.PrintWords Go.Proofs.YtehfcnndjhjkoaaW.PrintLast Go.Proofs.YtehfcnndjhjkoaaW.PrintMore
attribute [local go_sem] max2_int min2_int max_two min_two max_three min_three max_four min_four   -- for this text's walks alone
set_option linter.unusedVariables false
set_option linter.unusedSimpArgs false

/-! ### impl_permutation: function 124 -/
def impl_permutation.l0 : Nat → List Int → List Bool → List Int → Int → Int → Option (Bool)
  | 0, _, _, _, _, _ => none
  | k + 1, x0, x3, x9, x10, x11 => if x11 < x10 then (if 0 ≤ x11 then (if x11 < (x9.length : Int) then ((impl_within.f (rd x9 x11) 1 (x0.length : Int)).bind fun t105 => (if t105 = true then (if 0 ≤ (wrap64 ((rd x9 x11) - 1)) then (if (wrap64 ((rd x9 x11) - 1)) < (x3.length : Int) then (if rdOf false x3 (wrap64 ((rd x9 x11) - 1)) = true then (some false) else (impl_permutation.l0 k x0 (x3.set ((wrap64 ((rd x9 x11) - 1)) : Int).toNat true) x9 x10 (wrap64 (x11 + 1)))) else (none)) else (none)) else (some false))) else (none)) else (none)) else (some true)
def impl_permutation.f (k : Nat) (l0 : List Int) : Option (Bool) := if 0 ≤ (l0.length : Int) then (if ((l0.length : Int) : Int).toNat ≤ 281474976710656 then (impl_permutation.l0 k l0 (List.replicate ((l0.length : Int) : Int).toNat false) l0 (l0.length : Int) 0) else (none)) else (none)
theorem impl_permutation.mono_l : ∀ k, (∀ y0 y1 y2 y3 y4, LeO (impl_permutation.l0 k y0 y1 y2 y3 y4) (impl_permutation.l0 (k + 1) y0 y1 y2 y3 y4))
  | 0 => fun _ _ _ _ _ r h => by simp [impl_permutation.l0] at h
  | k + 1 => by
    have ih0 := impl_permutation.mono_l k
    · intro y0 y1 y2 y3 y4
      unfold impl_permutation.l0
      repeat' first
      | (with_reducible exact ih0 _ _ _ _ _)
      | (with_reducible exact LeO.refl _)
      | (with_reducible exact LeO.none _)
      | (with_reducible refine LeO.ite ?_ ?_)
      | (with_reducible refine LeO.bind ?_ (fun _ => ?_))
      | exact ih0 _ _ _ _ _
      | exact LeO.none _
      | refine LeO.ite ?_ ?_
      | refine LeO.bind ?_ (fun _ => ?_)
theorem impl_permutation.mono : ∀ a0 k, LeO (impl_permutation.f k a0) (impl_permutation.f (k + 1) a0) := by
  intro a0 k
  have ih0 := impl_permutation.mono_l k
  unfold impl_permutation.f
  repeat' first
      | (with_reducible exact ih0 _ _ _ _ _)
      | (with_reducible exact LeO.refl _)
      | (with_reducible exact LeO.none _)
      | (with_reducible refine LeO.ite ?_ ?_)
      | (with_reducible refine LeO.bind ?_ (fun _ => ?_))
      | exact ih0 _ _ _ _ _
      | exact LeO.none _
      | refine LeO.ite ?_ ?_
      | refine LeO.bind ?_ (fun _ => ?_)
set_option maxHeartbeats 8000000 in
set_option maxRecDepth 100000 in
theorem impl_permutation.calls (k : Nat) (A0 : Option Addr) (c0 : Nat) (l0 : List Int) (r : Bool) (w : World) (hr0 : Kd.C (Kd.int .i64) w A0 l0.length l0) (hc0 : l0.length ≤ c0) (h : impl_permutation.f k l0 = some r) :
    Calls Try.prog 124 #[.slice A0 l0.length c0] w fun e w' => e = .returned (.bool r) ∧ Below w.heap.size w w' := by
  have HR0 := Aside0.mk hr0
  have HC0 := Aside0.mk hc0
  clear hr0 hc0
  have HB := Aside0.mk (Below.refl w.heap.size w)
  have H : (if 0 ≤ (l0.length : Int) then (if ((l0.length : Int) : Int).toNat ≤ 281474976710656 then (impl_permutation.l0 k l0 (List.replicate ((l0.length : Int) : Int).toNat false) l0 (l0.length : Int) 0) else (none)) else (none)) = some r := h
  clear h
  by_cases c2 : 0 ≤ (l0.length : Int)
  · rw [if_pos c2] at H
    have c2b0 := eq_true c2
    have c2b1 : decide (0 ≤ (l0.length : Int)) = true := decide_eq_true c2
    clear c2
    by_cases c3 : ((l0.length : Int) : Int).toNat ≤ 281474976710656
    · rw [if_pos c3] at H
      have c3b0 := eq_true c3
      have c3b1 : decide (((l0.length : Int) : Int).toNat ≤ 281474976710656) = true := decide_eq_true c3
      clear c3
      obtain ⟨y101, hy101⟩ : ∃ y_ : List Bool, y_ = (List.replicate ((l0.length : Int) : Int).toNat false) := ⟨_, rfl⟩
      replace H : (impl_permutation.l0 k l0 y101 l0 (l0.length : Int) 0) = some r := by first | (rw [hy101]; with_reducible exact H) | (have H2_ := (Option.bind_some _ _).symm.trans H; rw [hy101]; with_reducible exact H2_) | (have H2_ := (Option.bind_some _ _).symm.trans H; with_reducible exact H2_) | with_reducible exact H | (rw [hy101]; exact H) | exact H
      have Ny101 := Aside0.mk hy101
      clear hy101
      have H' := Aside0.mk H
      clear H
      go_enter Try.func124, Try.ntmps124
      go_wp2_with (first | ((with_reducible refine gate_dst (N := 8) rfl ?_); refine Kd.R_make Kd.bool _ 4 rfl (N := 8) rfl 88 _ _ rfl (l0.length : Int) rfl rfl Try.underlying88 (.bool false) 1 info4 rfl (by decide) (by omega) false (ok := fun _ => True) (okp := fun _ => True) rfl (fun _ hk => hk) trivial (of_decide_eq_true (by first | (with_reducible assumption) | assumption)) (Nat.le_trans (Nat.mul_le_mul_right _ (of_decide_eq_true (by first | (with_reducible assumption) | assumption) : (l0.length : Int).toNat ≤ 281474976710656)) (by omega)) (Below.refl _ _) (Nat.le_refl _) ?_; intro v102 w4 ho5 hb hg_ hnew_; clear hg_ hnew_; (first | rw [← Ny101.out] at ho5 | (simp only [Int.reduceToNat] at ho5; rw [← Ny101.out] at ho5)); have n0_ := Aside0.mk (Kd.R_lower ho5 (below_size (by repeat (first | (with_reducible first | exact HB.out | apply below_alloc | apply pw_below_drewN | apply below_drew1) | exact HB.out)))); have n1_ := Aside0.mk (below_step (by repeat (first | (with_reducible first | exact HB.out | apply below_alloc | apply pw_below_drewN | apply below_drew1) | exact HB.out)) hb); clear HB; have HO103 := n0_; have HB := n1_; clear n0_ n1_; clear hb ho5))
      go_loopg [11] k (fun kq v11 w' => ∃ (x3_1 : List Bool) (x11_1 : Int), v11 = .int .i64 x11_1 ∧ Aside0 (impl_permutation.l0 kq l0 x3_1 l0 (l0.length : Int) x11_1 = some r) ∧ Aside0 (kq ≤ k) ∧ Aside0 (Kd.R Kd.bool 4 w' w.heap.size (fun _ => True) v102 x3_1) ∧ Aside0 (Below w.heap.size w w'))
      case atStart => exact ⟨(y101), (0), (by first | rfl | (simp; done) | (simp [*]; done)), H', ⟨Nat.le_refl _⟩, ⟨by (with_reducible repeat (first | apply Kd.R_alloc | apply Kd.R_drewN | apply Kd.R_drew)); exact HO103.out⟩, ⟨by repeat (first | (with_reducible first | exact HB.out | apply below_alloc | apply pw_below_drewN | apply below_drew1) | exact HB.out)⟩⟩
      case round =>
        clear H'
        try clear c1
        try clear c2
        try clear c2b0
        try clear c2b1
        try clear p2
        try clear c3
        try clear c3b0
        try clear c3b1
        obtain ⟨x3_1, x11_1, rfl, HA, HK1, HO_3, HB⟩ := hrel
        cases gk with
        | zero => exact absurd HA.out (by simp [impl_permutation.l0])
        | succ k1 =>
          have H := HA.out
          clear HA
          simp only [impl_permutation.l0] at H
          by_cases c6 : x11_1 < (l0.length : Int)
          · rw [if_pos c6] at H
            have c6b0 : decide (x11_1 < (l0.length : Int)) = true := decide_eq_true c6
            clear c6
            by_cases c7 : 0 ≤ x11_1
            · rw [if_pos c7] at H
              have c7b0 : decide (0 ≤ x11_1) = true := decide_eq_true c7
              clear c7
              by_cases c8 : x11_1 < (l0.length : Int)
              · rw [if_pos c8] at H
                have c8b0 : decide (x11_1 < (l0.length : Int)) = true := decide_eq_true c8
                clear c8
                replace H := Option.bind_eq_some_iff.mp H
                obtain ⟨t105, A90, H⟩ := H
                replace H : (if t105 = true then (if 0 ≤ (wrap64 ((rd l0 x11_1) - 1)) then (if (wrap64 ((rd l0 x11_1) - 1)) < (x3_1.length : Int) then (if rdOf false x3_1 (wrap64 ((rd l0 x11_1) - 1)) = true then (some false) else (impl_permutation.l0 k1 l0 (x3_1.set ((wrap64 ((rd l0 x11_1) - 1)) : Int).toNat true) l0 (l0.length : Int) (wrap64 (x11_1 + 1)))) else (none)) else (none)) else (some false)) = some r := H
                have A9 := Aside0.mk A90
                clear A90
                by_cases c10 : t105 = true
                · subst c10
                  have H1 : (if 0 ≤ (wrap64 ((rd l0 x11_1) - 1)) then (if (wrap64 ((rd l0 x11_1) - 1)) < (x3_1.length : Int) then (if rdOf false x3_1 (wrap64 ((rd l0 x11_1) - 1)) = true then (some false) else (impl_permutation.l0 k1 l0 (x3_1.set ((wrap64 ((rd l0 x11_1) - 1)) : Int).toNat true) l0 (l0.length : Int) (wrap64 (x11_1 + 1)))) else (none)) else (none)) = some r := by rw [if_pos rfl] at H; exact H
                  clear H
                  have H := H1
                  clear H1
                  obtain ⟨ji11, hji11⟩ : ∃ j_ : Int, (wrap64 ((rd l0 x11_1) - 1)) = j_ := ⟨_, rfl⟩
                  replace H : (if 0 ≤ (ji11) then (if (ji11) < (x3_1.length : Int) then (if rdOf false x3_1 (ji11) = true then (some false) else (impl_permutation.l0 k1 l0 (x3_1.set ((ji11) : Int).toNat true) l0 (l0.length : Int) (wrap64 (x11_1 + 1)))) else (none)) else (none)) = some r := by first | (rw [hji11] at H; exact H) | (simp only [hji11] at H ⊢; exact H)
                  (try rw [hji11] at A9)
                  have hji11w : (IntKind.i64.wrap ((rd l0 x11_1) - 1)) = ji11 := (i64_w _).trans hji11
                  by_cases c12 : 0 ≤ (ji11)
                  · rw [if_pos c12] at H
                    have c12b0 : decide (0 ≤ (ji11)) = true := decide_eq_true c12
                    clear c12
                    by_cases c13 : (ji11) < (x3_1.length : Int)
                    · rw [if_pos c13] at H
                      have c13b0 : decide ((ji11) < (x3_1.length : Int)) = true := decide_eq_true c13
                      clear c13
                      obtain ⟨bq14, hbq14⟩ : ∃ b_ : Bool, b_ = (rdOf false x3_1 (ji11)) := ⟨_, rfl⟩
                      replace H : (if bq14 = true then (some false) else (impl_permutation.l0 k1 l0 (x3_1.set ((ji11) : Int).toNat true) l0 (l0.length : Int) (wrap64 (x11_1 + 1)))) = some r := by rw [← hbq14] at H; exact H
                      have Nbq14 := Aside0.mk hbq14
                      clear hbq14
                      by_cases c15 : bq14 = true
                      · subst c15
                        have H1 : (some false) = some r := by rw [if_pos rfl] at H; exact H
                        clear H
                        have H := H1
                        clear H1
                        obtain rfl := Option.some.inj H
                        have p104 : 0 ≤ (x11_1 : Int) := of_decide_eq_true (by first | (with_reducible assumption) | assumption)
                        have q104 : x11_1 < (l0.length : Int) := of_decide_eq_true (by first | (with_reducible assumption) | assumption)
                        obtain ⟨ad104, e104, hx104_0⟩ := Kd.at_int HR0.out x11_1 p104 q104
                        cases e104
                        replace hx104_0 := (HB.out.cell (World.block_lt_of_cell? w _ hx104_0)).trans hx104_0
                        replace p104 := eq_true p104
                        replace q104 := eq_true q104
                        go_wp2_with (first | ((with_reducible refine gate_callee (f := 118) rfl ?_); refine goesL_ (some 18) rfl rfl Try.func118 (by kernel_rfl) rfl #[.int .i64 (rd l0 x11_1), .int .i64 1, .int .i64 (l0.length : Int)] rfl (by (try simp only [List.map_toArray, List.map_cons, List.map_nil]); first | done | rfl | (simp only [List.length_drop, List.length_take]; rfl)) ?_; (with_reducible refine (impl_within.calls (rd l0 x11_1) 1 (l0.length : Int) true _ A9.out).mono ?_); rintro e w' ⟨rfl, ⟨nd, rfl⟩⟩; refine ⟨_, rfl, ?_⟩; obtain ⟨Ao16, co16, eo16⟩ := Kd.R_slice HO_3.out; subst eo16; have p106 : 0 ≤ ((ji11) : Int) := of_decide_eq_true (by first | (with_reducible assumption) | assumption); have q106 : (ji11) < (x3_1.length : Int) := of_decide_eq_true (by first | (with_reducible assumption) | assumption); obtain ⟨ad106, e106, hx106_0⟩ := Kd.at_bool (Kd.R_reads' HO_3.out).2.2 (ji11) p106 q106; (try rw [← Nbq14.out] at hx106_0); cases e106; replace p106 := eq_true p106; replace q106 := eq_true q106))
                        go_ret
                        exact ⟨by first | rfl | (simp [errW_none, errW_some] <;> rfl) | (simp only [← hji11]; first | rfl | (simp [errW_none, errW_some] <;> rfl)) | (simp [*, errW_none, errW_some] <;> rfl), by repeat (first | (with_reducible first | exact HB.out | apply below_alloc | apply pw_below_drewN | apply below_drew1) | exact HB.out)⟩
                      · replace c15 := Bool.eq_false_iff.mpr c15
                        subst c15
                        have H1 : (impl_permutation.l0 k1 l0 (x3_1.set ((ji11) : Int).toNat true) l0 (l0.length : Int) (wrap64 (x11_1 + 1))) = some r := by rw [if_neg (show ¬ (false = true) by decide)] at H; exact H
                        clear H
                        have H := H1
                        clear H1
                        obtain ⟨y107, hy107⟩ : ∃ y_ : List Bool, y_ = (x3_1.set ((ji11) : Int).toNat true) := ⟨_, rfl⟩
                        replace H : (impl_permutation.l0 k1 l0 y107 l0 (l0.length : Int) (wrap64 (x11_1 + 1))) = some r := by first | (rw [hy107]; with_reducible exact H) | (have H2_ := (Option.bind_some _ _).symm.trans H; rw [hy107]; with_reducible exact H2_) | (have H2_ := (Option.bind_some _ _).symm.trans H; with_reducible exact H2_) | with_reducible exact H | (rw [hy107]; exact H) | exact H
                        have Ny107 := Aside0.mk hy107
                        clear hy107
                        have H' := Aside0.mk H
                        clear H
                        have p104 : 0 ≤ (x11_1 : Int) := of_decide_eq_true (by first | (with_reducible assumption) | assumption)
                        have q104 : x11_1 < (l0.length : Int) := of_decide_eq_true (by first | (with_reducible assumption) | assumption)
                        obtain ⟨ad104, e104, hx104_0⟩ := Kd.at_int HR0.out x11_1 p104 q104
                        cases e104
                        replace hx104_0 := (HB.out.cell (World.block_lt_of_cell? w _ hx104_0)).trans hx104_0
                        replace p104 := eq_true p104
                        replace q104 := eq_true q104
                        go_wp2_with (first | ((with_reducible refine gate_callee (f := 118) rfl ?_); refine goesL_ (some 18) rfl rfl Try.func118 (by kernel_rfl) rfl #[.int .i64 (rd l0 x11_1), .int .i64 1, .int .i64 (l0.length : Int)] rfl (by (try simp only [List.map_toArray, List.map_cons, List.map_nil]); first | done | rfl | (simp only [List.length_drop, List.length_take]; rfl)) ?_; (with_reducible refine (impl_within.calls (rd l0 x11_1) 1 (l0.length : Int) true _ A9.out).mono ?_); rintro e w' ⟨rfl, ⟨nd, rfl⟩⟩; refine ⟨_, rfl, ?_⟩; (try (rw [drewN_self wr]; generalize hq_ : World.drewN wr _ = wr; have n0_ : Aside0 (Kd.R Kd.bool 4 wr w.heap.size (fun _ => True) v102 x3_1) := ⟨by rw [← hq_]; exact (by (with_reducible repeat (first | apply Kd.R_alloc | apply Kd.R_drewN | apply Kd.R_drew)); exact HO_3.out)⟩; have n1_ : Aside0 (Below w.heap.size w wr) := ⟨by rw [← hq_]; exact (by repeat (first | (with_reducible first | exact HB.out | apply below_alloc | apply pw_below_drewN | apply below_drew1) | exact HB.out))⟩; clear HO_3 HB hq_; have HO_3 := n0_; have HB := n1_; clear n0_ n1_)); obtain ⟨Ao18, co18, eo18⟩ := Kd.R_slice HO_3.out; subst eo18; have p106 : 0 ≤ ((ji11) : Int) := of_decide_eq_true (by first | (with_reducible assumption) | assumption); have q106 : (ji11) < (x3_1.length : Int) := of_decide_eq_true (by first | (with_reducible assumption) | assumption); obtain ⟨ad106, e106, hx106_0⟩ := Kd.at_bool (Kd.R_reads' HO_3.out).2.2 (ji11) p106 q106; (try rw [← Nbq14.out] at hx106_0); cases e106; replace p106 := eq_true p106; replace q106 := eq_true q106; have p17 : 0 ≤ ((ji11) : Int) := of_decide_eq_true (by first | (with_reducible assumption) | assumption); have q17 : ((ji11) : Int) < ((x3_1.length : Int) : Int) := of_decide_eq_true (by first | (with_reducible assumption) | assumption); obtain ⟨go17, co17, eo17, gb17, gl17, cl17, HG17⟩ := Kd.R_form HO_3.out (by omega); (first | cases eo17 | (injection eo17 with ea_ en_ ec_; (first | subst ea_ | (injection ea_ with ea_; subst ea_)); subst ec_; clear en_)); have GB17 := Aside0.mk gb17; have GG17 := Aside0.mk HG17; clear gb17 gl17 HG17; (first | simp only [add_plain] at hx106_0 | skip); obtain ⟨hx17_0, hf17_0⟩ := Kd.R_celln false HO_3.out ((ji11) : Int) p17 q17; replace p17 := eq_true p17; replace q17 := eq_true q17; obtain ⟨hy19_, hz19_⟩ := Kd.R_celln false HO_3.out ((ji11) : Int) (of_decide_eq_true (by first | (with_reducible assumption) | assumption)) (of_decide_eq_true (by first | (with_reducible assumption) | assumption)); have HP19 := Kd.R_putg HO_3.out ((ji11) : Int) true) | ((with_reducible refine gate_store (t := 4) (p := 30) rfl ?_); refine store_event (t := 4) (p := 30) (v := ?vo_w20) (w1 := (wr.setCell ⟨go17, ((ji11) : Int).toNat, none⟩ (.bool true))) ?hg ?ho ?hn ?hr ?_; (case ho => rfl); (case hg => rfl); (case hn => rfl); (case hr => first | (go_simp; done) | (go_simp; rfl)); intro w20 hw; have hg : wr.grownBy w20 (some go17) := (by rw [hw]; exact HP19.2); have hp_ : Kd.R Kd.bool 4 w20 w.heap.size (fun _ => True) (.slice (some ⟨go17, 0, none⟩) x3_1.length co18) y107 := (by rw [hw, Ny107.out]; exact HP19.1); clear HP19; have n0_ := Aside0.mk (hp_); have n1_ := Aside0.mk ((by rw [hw]; exact below_set (HB.out) GB17.out : Below w.heap.size w w20)); clear HO_3; clear HB; have HO_3 := n0_; have HB := n1_; clear n0_ n1_; clear hg hw hp_))
                        go_roundg k1
                        case measure => have := HK1.out; omega
                        case rel => exact ⟨(y107), (wrap64 (x11_1 + 1)), (by first | rfl | (simp; done) | (simp [*]; done)), H', ⟨by have := HK1.out; omega⟩, ⟨by (with_reducible repeat (first | apply Kd.R_alloc | apply Kd.R_drewN | apply Kd.R_drew)); exact HO_3.out⟩, ⟨by repeat (first | (with_reducible first | exact HB.out | apply below_alloc | apply pw_below_drewN | apply below_drew1) | exact HB.out)⟩⟩
                    · rw [if_neg c13] at H
                      exact absurd H (by simp)
                  · rw [if_neg c12] at H
                    exact absurd H (by simp)
                · replace c10 := Bool.eq_false_iff.mpr c10
                  subst c10
                  have H1 : (some false) = some r := by rw [if_neg (show ¬ (false = true) by decide)] at H; exact H
                  clear H
                  have H := H1
                  clear H1
                  obtain rfl := Option.some.inj H
                  have p104 : 0 ≤ (x11_1 : Int) := of_decide_eq_true (by first | (with_reducible assumption) | assumption)
                  have q104 : x11_1 < (l0.length : Int) := of_decide_eq_true (by first | (with_reducible assumption) | assumption)
                  obtain ⟨ad104, e104, hx104_0⟩ := Kd.at_int HR0.out x11_1 p104 q104
                  cases e104
                  replace hx104_0 := (HB.out.cell (World.block_lt_of_cell? w _ hx104_0)).trans hx104_0
                  replace p104 := eq_true p104
                  replace q104 := eq_true q104
                  go_wp2_with (first | ((with_reducible refine gate_callee (f := 118) rfl ?_); refine goesL_ (some 18) rfl rfl Try.func118 (by kernel_rfl) rfl #[.int .i64 (rd l0 x11_1), .int .i64 1, .int .i64 (l0.length : Int)] rfl (by (try simp only [List.map_toArray, List.map_cons, List.map_nil]); first | done | rfl | (simp only [List.length_drop, List.length_take]; rfl)) ?_; (with_reducible refine (impl_within.calls (rd l0 x11_1) 1 (l0.length : Int) false _ A9.out).mono ?_); rintro e w' ⟨rfl, ⟨nd, rfl⟩⟩; refine ⟨_, rfl, ?_⟩))
                  go_ret
                  exact ⟨by first | rfl | (simp [errW_none, errW_some] <;> rfl) | (simp [*, errW_none, errW_some] <;> rfl), by repeat (first | (with_reducible first | exact HB.out | apply below_alloc | apply pw_below_drewN | apply below_drew1) | exact HB.out)⟩
              · rw [if_neg c8] at H
                exact absurd H (by simp)
            · rw [if_neg c7] at H
              exact absurd H (by simp)
          · rw [if_neg c6] at H
            have c6b0 : decide (x11_1 < (l0.length : Int)) = false := decide_eq_false c6
            clear c6
            obtain rfl := Option.some.inj H
            go_wp2
            go_ret
            exact ⟨by first | rfl | (simp [errW_none, errW_some] <;> rfl) | (simp [*, errW_none, errW_some] <;> rfl), by repeat (first | (with_reducible first | exact HB.out | apply below_alloc | apply pw_below_drewN | apply below_drew1) | exact HB.out)⟩
    · rw [if_neg c3] at H
      exact absurd H (by simp)
  · rw [if_neg c2] at H
    exact absurd H (by simp)

end Go.Proofs.Ytehfcnndjhjkoaa.PA

namespace Go.Proofs.Ytehfcnndjhjkoaa.PA
open Go.RowKit Go.Proofs.YtehfcnndjhjkoaaW.PrintWords Go.Proofs.YtehfcnndjhjkoaaW.PrintLast Go.Proofs.YtehfcnndjhjkoaaW.PrintMore
set_option linter.unusedVariables false
set_option linter.unusedSimpArgs false
def permGo (n : Nat) : List Bool → List Int → Bool
  | _, [] => true
  | seen, a :: t => if 1 ≤ a ∧ a ≤ (n : Int) then (if rdOf false seen (a - 1) = true then false else permGo n (seen.set (a - 1).toNat true) t) else false
def permB (p : List Int) : Bool := permGo p.length (List.replicate p.length false) p
theorem perm_loop : ∀ (t q : List Int) (seen : List Bool), (q ++ t).length < 17592186044416 → seen.length = (q ++ t).length →
    Ev (fun k => impl_permutation.l0 k (q ++ t) seen (q ++ t) ((q ++ t).length : Int) (q.length : Int)) (permGo (q ++ t).length seen t)
  | [], q, seen, _, _ => by
    refine evRound (Ev.now true) fun k => ?_
    simp only [impl_permutation.l0]; rw [if_neg len_nlt]
  | a :: t, q, seen, hl, hs => by
    by_cases ha : 1 ≤ a ∧ a ≤ ((q ++ a :: t).length : Int)
    · have hw : wrap64 (a - 1) = a - 1 := w64 (by omega) (by omega)
      by_cases hz : rdOf false seen (a - 1) = true
      · refine evVal (evRound (Ev.now false) fun k => ?_) (by rw [permGo, if_pos ha, if_pos hz])
        simp only [impl_permutation.l0]
        rw [if_pos len_lt, if_pos (by omega), if_pos len_lt, rd_mid, within_eq, decide_eq_true ha]; simp only [Option.bind_some, if_true]
        rw [hw, if_pos (by omega), if_pos (by omega), if_pos hz]
      · have ih := perm_loop t (q ++ [a]) (seen.set (a - 1).toNat true) (by simpa using hl) (by simpa using hs)
        rw [← app_mid] at ih
        refine evVal (evRound ih fun k => ?_) (by conv => rhs; rw [permGo]; rw [if_pos ha, if_neg hz])
        simp only [impl_permutation.l0]
        rw [if_pos len_lt, if_pos (by omega), if_pos len_lt, rd_mid, within_eq, decide_eq_true ha]; simp only [Option.bind_some, if_true]
        rw [hw, if_pos (by omega), if_pos (by omega), if_neg hz, next_mid q t a (by omega)]
    · refine evVal (evRound (Ev.now false) fun k => ?_) (by rw [permGo, if_neg ha])
      simp only [impl_permutation.l0]
      rw [if_pos len_lt, if_pos (by omega), if_pos len_lt, rd_mid, within_eq, decide_eq_false ha]; simp only [Option.bind_some, Bool.false_eq_true, if_false]
theorem permutation_ev (p : List Int) (h : p.length < 17592186044416) : Ev (fun k => impl_permutation.f k p) (permB p) := by
  have h1 := perm_loop p [] (List.replicate p.length false) (by simpa using h) (by simp)
  refine Ev.congr (fun k => ?_) h1
  simp only [impl_permutation.f]
  rw [if_pos (by omega), if_pos (by omega), Int.toNat_natCast]; rfl
theorem permGo_fact (n : Nat) : ∀ (p : List Int) (seen : List Bool), seen.length = n → permGo n seen p = true → (∀ a ∈ p, 1 ≤ a ∧ a ≤ (n : Int) ∧ rdOf false seen (a - 1) = false) ∧ p.Nodup
  | [], _, _, _ => ⟨fun a ha => by simp at ha, List.nodup_nil⟩
  | b :: t, seen, hs, h => by
    rw [permGo] at h
    by_cases hb : 1 ≤ b ∧ b ≤ (n : Int)
    · rw [if_pos hb] at h
      by_cases hz : rdOf false seen (b - 1) = true
      · rw [if_pos hz] at h; exact absurd h (by decide)
      · rw [if_neg hz] at h
        obtain ⟨i1, i2⟩ := permGo_fact n t _ (by simpa using hs) h
        have key : ∀ a ∈ t, a ≠ b ∧ rdOf false seen (a - 1) = false := fun a ha => by
          obtain ⟨h1, h2, h3⟩ := i1 a ha
          have hne : a ≠ b := fun e => by
            subst e
            simp [rdOf, List.getD_eq_getElem?_getD, List.getElem?_set, show a.toNat - 1 < seen.length by omega] at h3
          refine ⟨hne, ?_⟩
          have e : ¬ b.toNat - 1 = a.toNat - 1 := by omega
          simpa [rdOf, List.getD_eq_getElem?_getD, List.getElem?_set, e] using h3
        refine ⟨fun a ha => ?_, List.nodup_cons.2 ⟨fun hm => (key b hm).1 rfl, i2⟩⟩
        rcases List.mem_cons.1 ha with rfl | ha
        · exact ⟨hb.1, hb.2, by simpa using hz⟩
        · exact ⟨(i1 a ha).1, (i1 a ha).2.1, (key a ha).2⟩
    · rw [if_neg hb] at h; exact absurd h (by decide)
theorem permB_fact {p : List Int} (h : permB p = true) : (∀ a ∈ p, 1 ≤ a ∧ a ≤ (p.length : Int)) ∧ p.Nodup := by
  obtain ⟨h1, h2⟩ := permGo_fact p.length p _ (by simp) h
  exact ⟨fun a ha => ⟨(h1 a ha).1, (h1 a ha).2.1⟩, h2⟩
theorem perm_of_sub : ∀ (p q : List Int), p.Nodup → (∀ a ∈ p, a ∈ q) → q.length ≤ p.length → p.Perm q
  | [], q, _, _, h => by
    obtain rfl : q = [] := List.eq_nil_of_length_eq_zero (by simpa using h)
    exact List.Perm.refl _
  | a :: t, q, hn, hs, hl => by
    have ha := hs a (by simp)
    have hn' := List.nodup_cons.1 hn
    have ht : t.Perm (q.erase a) := perm_of_sub t (q.erase a) hn'.2 (fun b hb => (List.mem_erase_of_ne (fun e => by subst e; exact hn'.1 hb)).2 (hs b (by simp [hb]))) (by rw [List.length_erase_of_mem ha]; simp at hl; omega)
    exact (ht.cons a).trans (List.perm_cons_erase ha).symm
/-- The list l put at the places that p names. -/
def turnS (l : List Int) : List Int → Nat → List Int → List Int
  | S, _, [] => S
  | S, i, n :: t => turnS l (S.set (n - 1).toNat (rd l (i : Int))) (i + 1) t
theorem turnS_len (l : List Int) : ∀ (p S : List Int) (i : Nat), (turnS l S i p).length = S.length
  | [], _, _ => rfl
  | n :: t, S, i => by rw [turnS, turnS_len l t, List.length_set]
theorem turnS_far (l : List Int) (b : Int) (hb : 1 ≤ b) : ∀ (p S : List Int) (i : Nat), b ∉ p → (∀ a ∈ p, 1 ≤ a) → rd (turnS l S i p) (b - 1) = rd S (b - 1)
  | [], _, _, _, _ => rfl
  | n :: t, S, i, h, h1 => by
    have hn := h1 n (by simp)
    have hne : b ≠ n := fun e => h (by simp [e])
    rw [turnS, turnS_far l b hb t _ _ (fun hm => h (by simp [hm])) (fun a ha => h1 a (by simp [ha]))]
    have e : ¬ n.toNat - 1 = b.toNat - 1 := by omega
    simp [rd, List.getD_eq_getElem?_getD, List.getElem?_set, e]
theorem turnS_map (l : List Int) : ∀ (p S : List Int) (i : Nat), p.Nodup → (∀ a ∈ p, 1 ≤ a ∧ a ≤ (S.length : Int)) → i + p.length ≤ l.length → p.map (fun a => rd (turnS l S i p) (a - 1)) = (l.drop i).take p.length
  | [], _, _, _, _, _ => by simp
  | n :: t, S, i, hd, h1, hl => by
    have hd' := List.nodup_cons.1 hd
    have hn := h1 n (by simp)
    have hi : i < l.length := by simp at hl; omega
    have ih := turnS_map l t (S.set (n - 1).toNat (rd l (i : Int))) (i + 1) hd'.2 (fun a ha => by rw [List.length_set]; exact h1 a (by simp [ha])) (by simp at hl; omega)
    rw [List.map_cons, turnS, ih, turnS_far l n hn.1 t _ _ hd'.1 (fun a ha => (h1 a (by simp [ha])).1)]
    have e : rd (S.set (n - 1).toNat (rd l (i : Int))) (n - 1) = l[i] := by
      simp [rd, List.getD_eq_getElem?_getD, List.getElem?_set, show n.toNat - 1 < S.length by omega, hi]
    rw [e, List.drop_eq_getElem_cons hi, List.length_cons, List.take_succ_cons]
def upTo (n : Nat) : List Int := (List.range n).map fun (i : Nat) => (i : Int) + 1
theorem upTo_self (F : List Int) : (upTo F.length).map (fun a => rd F (a - 1)) = F := by
  apply List.ext_getElem
  · simp [upTo]
  · intro i h1 h2
    simp [upTo, rd, h2]
/-- The product of the numbers that are not 0. -/
def nz : List Int → Int
  | [] => 1
  | a :: t => (if a = 0 then 1 else a) * nz t
theorem nz_pos : ∀ {l : List Int}, (∀ a ∈ l, 0 ≤ a) → 1 ≤ nz l
  | [], _ => by simp [nz]
  | a :: t, h => by
    have ha := h a (by simp)
    have := nz_pos fun b hb => h b (List.mem_cons_of_mem a hb)
    have h1 : (1 : Int) ≤ (if a = 0 then 1 else a) := by split <;> omega
    have := Int.mul_le_mul h1 this (by omega) (by omega)
    simpa [nz] using this
theorem shGo_iff : ∀ (l : List Int) (f : Int), 1 ≤ f → f ≤ 10000 → (shGo f l = true ↔ (∀ a ∈ l, 0 ≤ a ∧ a ≤ 10000) ∧ f * nz l ≤ 10000)
  | [], f, h0, h1 => by simp [shGo, nz, h1]
  | a :: t, f, h0, h1 => by
    simp only [shGo, Bool.and_eq_true, decide_eq_true_eq, nz]
    by_cases hr : 0 ≤ a ∧ a ≤ 10000
    · by_cases ha : a = 0
      · simp only [ha, if_true, Int.one_mul]
        rw [shGo_iff t f h0 h1]; simp
      · simp only [ha, if_false, Bool.and_eq_true, decide_eq_true_eq]
        by_cases hf : f * a ≤ 10000
        · have h2 : 1 ≤ f * a := by have := Int.mul_le_mul h0 (show (1 : Int) ≤ a by omega) (by omega) (by omega); simpa using this
          rw [shGo_iff t (f * a) h2 hf, Int.mul_assoc]
          constructor
          · rintro ⟨_, _, h3, h4⟩
            exact ⟨fun b hb => by rcases List.mem_cons.1 hb with rfl | hb; exact hr; exact h3 b hb, h4⟩
          · rintro ⟨h3, h4⟩
            exact ⟨hr, hf, fun b hb => h3 b (by simp [hb]), h4⟩
        · constructor
          · rintro ⟨_, h3, _⟩; exact absurd h3 hf
          · rintro ⟨h3, h4⟩
            exfalso
            have hz : 1 ≤ nz t := nz_pos fun b hb => (h3 b (by simp [hb])).1
            have h5 : f * a * 1 ≤ f * a * nz t := Int.mul_le_mul (Int.le_refl _) hz (by omega) (Int.mul_nonneg (by omega) (by omega))
            rw [← Int.mul_assoc] at h4; omega
    · constructor
      · rintro ⟨h3, _⟩; exact absurd h3 hr
      · rintro ⟨h3, _⟩; exact absurd (h3 a (by simp)) hr
theorem nz_perm {l m : List Int} (h : l.Perm m) : nz l = nz m := by
  induction h with
  | nil => rfl
  | cons x _ ih => simp only [nz, ih]
  | swap x y t => simp only [nz]; rw [← Int.mul_assoc, ← Int.mul_assoc, Int.mul_comm (if y = 0 then 1 else y)]
  | trans _ _ i1 i2 => exact i1.trans i2
theorem shOk_perm {l m : List Int} (h : l.Perm m) (hm : shOk m = true) : shOk l = true := by
  simp only [shOk, Bool.and_eq_true, decide_eq_true_eq] at hm ⊢
  refine ⟨by rw [h.length_eq]; exact hm.1, ?_⟩
  rw [shGo_iff _ _ (by omega) (by omega)] at hm ⊢
  exact ⟨fun a ha => hm.2.1 a (h.mem_iff.1 ha), by rw [nz_perm h]; exact hm.2.2⟩
end Go.Proofs.Ytehfcnndjhjkoaa.PA

-- By a program (prt.py, over the print of the kit), for this claim. Not trusted: Lean checks it.
namespace Go.Proofs.Ytehfcnndjhjkoaa.PA
open Go.RowKit Go.Proofs.YtehfcnndjhjkoaaW.PrintWords Go.Proofs.YtehfcnndjhjkoaaW.PrintLast Go.Proofs.YtehfcnndjhjkoaaW.PrintMore
attribute [local go_sem] max2_int min2_int max_two min_two max_three min_three max_four min_four   -- for this text's walks alone
set_option linter.unusedVariables false
set_option linter.unusedSimpArgs false

/-! ### impl_Array_rank: function 90 -/
def impl_Array_rank.f (a0_0 : Bool) (l0_1 : List Int) (l0_2 : List Int) : Option (Int) := some (l0_1.length : Int)
set_option maxHeartbeats 8000000 in
set_option maxRecDepth 100000 in
theorem impl_Array_rank.calls (a0_0 : Bool) (A0_1 : Option Addr) (c0_1 : Nat) (l0_1 : List Int) (A0_2 : Option Addr) (c0_2 : Nat) (l0_2 : List Int) (r : Int) (w : World) (hr0_1 : Kd.C (Kd.int .i64) w A0_1 l0_1.length l0_1) (hc0_1 : l0_1.length ≤ c0_1) (hr0_2 : Kd.C (Kd.int .i64) w A0_2 l0_2.length l0_2) (hc0_2 : l0_2.length ≤ c0_2) (h : impl_Array_rank.f a0_0 l0_1 l0_2 = some r) :
    Calls Try.prog 90 #[.agg #[.bool a0_0, .slice A0_1 l0_1.length c0_1, .slice A0_2 l0_2.length c0_2]] w fun e w' => e = .returned (.int .i64 r) ∧ Below w.heap.size w w' := by
  have hu28 := Try.underlying28
  have HR0_1 := Aside0.mk hr0_1
  have HC0_1 := Aside0.mk hc0_1
  clear hr0_1 hc0_1
  have HR0_2 := Aside0.mk hr0_2
  have HC0_2 := Aside0.mk hc0_2
  clear hr0_2 hc0_2
  have HB := Aside0.mk (Below.refl w.heap.size w)
  have H : (some (l0_1.length : Int)) = some r := h
  clear h
  obtain rfl := Option.some.inj H
  go_enter Try.func90, Try.ntmps90
  go_wp2_with (first | ((with_reducible refine gate_dst (N := 1) rfl ?_); refine box_event ?hg (N := 1) ?hd (cs := #[.bool a0_0, .slice A0_1 l0_1.length c0_1, .slice A0_2 l0_2.length c0_2]) (t := 28) ?hr ?_; (case hd => rfl); (case hg => rfl); (case hr => first | (go_simp; done) | (go_simp; rfl)); intro gb101 hg w2 hbox hb; have n0_ := Aside0.mk (below_step (by repeat (first | (with_reducible first | exact HB.out | apply below_alloc | apply pw_below_drewN | apply below_drew1) | exact HB.out)) hb); have n1_ := Aside0.mk (hbox); have n2_ := Aside0.mk ((by rw [hg]; exact (below_size (by repeat (first | (with_reducible first | exact HB.out | apply below_alloc | apply pw_below_drewN | apply below_drew1) | exact HB.out))) : w.heap.size ≤ gb101)); have n3_ := Aside0.mk ((by rw [hg]; exact (below_size (by repeat (first | (with_reducible first | exact HB.out | apply below_alloc | apply pw_below_drewN | apply below_drew1) | exact HB.out))) : w.heap.size ≤ gb101)); clear HB; have HB := n0_; have BK101 := n1_; have GW101 := n2_; have GE101 := n3_; clear n0_ n1_ n2_ n3_; clear hb hbox hg; have hcz3_0 : w2.cell? ⟨gb101, 0, none⟩ = some (.bool a0_0) := (blk_cell BK101.out 0).trans rfl; have hcz3_1 : w2.cell? ⟨gb101, 1, none⟩ = some (.slice A0_1 l0_1.length c0_1) := (blk_cell BK101.out 1).trans rfl; have hcz3_2 : w2.cell? ⟨gb101, 2, none⟩ = some (.slice A0_2 l0_2.length c0_2) := (blk_cell BK101.out 2).trans rfl; have hfz3_0 := blk_frozen BK101.out 0; have hfz3_1 := blk_frozen BK101.out 1; have hfz3_2 := blk_frozen BK101.out 2))
  go_ret
  exact ⟨by first | rfl | (simp [errW_none, errW_some] <;> rfl) | (simp [*, errW_none, errW_some] <;> rfl), by repeat (first | (with_reducible first | exact HB.out | apply below_alloc | apply pw_below_drewN | apply below_drew1 | refine below_set ?_ GE101.out) | exact HB.out)⟩

end Go.Proofs.Ytehfcnndjhjkoaa.PA

-- By a program (prt.py, over the print of the kit), for this claim. Not trusted: Lean checks it.
namespace Go.Proofs.Ytehfcnndjhjkoaa.PA
open Go.RowKit Go.Proofs.YtehfcnndjhjkoaaW.PrintWords Go.Proofs.YtehfcnndjhjkoaaW.PrintLast Go.Proofs.YtehfcnndjhjkoaaW.PrintMore
attribute [local go_sem] max2_int min2_int max_two min_two max_three min_three max_four min_four   -- for this text's walks alone
set_option linter.unusedVariables false
set_option linter.unusedSimpArgs false

/-! ### impl_firstAxis: function 102 -/
def impl_firstAxis.f (a0_0 : Bool) (l0_1 : List Int) (l0_2 : List Int) (a1 : Bool) : Option (Int) := if a1 = true then (some 0) else ((impl_Array_rank.f a0_0 l0_1 l0_2).bind fun t102 => (some (wrap64 (t102 - 1))))

end Go.Proofs.Ytehfcnndjhjkoaa.PA

namespace Go.Proofs.Ytehfcnndjhjkoaa.PA
open Go.RowKit Go.Proofs.YtehfcnndjhjkoaaW.PrintWords Go.Proofs.YtehfcnndjhjkoaaW.PrintLast Go.Proofs.YtehfcnndjhjkoaaW.PrintMore
set_option linter.unusedVariables false
set_option linter.unusedSimpArgs false
theorem rd_mem (l : List Int) (i : Nat) (h : i < l.length) : rd l (i : Int) ∈ l := by
  simp only [rd, Int.toNat_natCast, List.getD_eq_getElem?_getD, List.getElem?_eq_getElem h, Option.getD_some]; exact List.getElem_mem h
end Go.Proofs.Ytehfcnndjhjkoaa.PA

namespace Go.Proofs.Ytehfcnndjhjkoaa.PA
open Go.RowKit Go.Proofs.YtehfcnndjhjkoaaW.PrintWords Go.Proofs.YtehfcnndjhjkoaaW.PrintLast Go.Proofs.YtehfcnndjhjkoaaW.PrintMore
set_option linter.unusedVariables false
set_option linter.unusedSimpArgs false
attribute [local go_sem] Oper.semAt_some
open Go.Shelf
def trSh (p s : List Int) : List Int := turnS s (List.replicate p.length 0) 0 p
def trOne (p s cur : List Int) : Int := numGo s 0 0 (p.map fun n => rd cur (n - 1))
def trL (p s : List Int) (N : Nat) : List Int := (List.range N).map fun t => trOne p s (idxL (trSh p s) t)
theorem turnS_snoc (l : List Int) : ∀ (p S : List Int) (i : Nat) (n : Int), turnS l S i (p ++ [n]) = (turnS l S i p).set (n - 1).toNat (rd l ((i + p.length : Nat) : Int))
  | [], S, i, n => by simp [turnS]
  | a :: p, S, i, n => by simp only [List.cons_append, turnS, turnS_snoc l p, List.length_cons]; congr 2; omega
theorem take_rd (p : List Int) (j : Nat) (h : j < p.length) : p.take (j + 1) = p.take j ++ [rd p (j : Int)] := by
  rw [List.take_succ_eq_append_getElem h]; simp [rd, List.getD_eq_getElem?_getD, h]
set_option maxHeartbeats 2000000 in
set_option maxRecDepth 100000 in
theorem permuted_in (Ap : Option Addr) (cp : Nat) (lp : List Int) (a : Bool) (Aa1 : Option Addr) (ca1 : Nat) (la1 : List Int) (Aa2 : Option Addr) (ca2 : Nat) (la2 : List Int) (w : World) (hp : Kd.C (Kd.int .i64) w Ap lp.length lp) (kp : lp.length ≤ cp) (ha1 : Kd.C (Kd.int .i64) w Aa1 la1.length la1) (ka1 : la1.length ≤ ca1) (ha2 : Kd.C (Kd.int .i64) w Aa2 la2.length la2) (ka2 : la2.length ≤ ca2) (hl : lp.length = la1.length) (h5 : lp.length ≤ 5) (hb : permB lp = true) (hpr : 0 ≤ prod (trSh lp la1) ∧ prod (trSh lp la1) ≤ 10000) (k0 : Nat) (hk : impl_shapeOk.f k0 (trSh lp la1) = some (prod (trSh lp la1), true)) :
    Calls Try.prog 125 #[.slice Ap lp.length cp, .agg #[.bool a, .slice Aa1 la1.length ca1, .slice Aa2 la2.length ca2]] w fun e w' => ∃ A1 c1 A2 c2, e = .returned (.agg #[.slice A1 (trSh lp la1).length c1, .slice A2 (trL lp la1 (prod (trSh lp la1)).toNat).length c2]) ∧ Kd.C (Kd.int .i64) w' A1 (trSh lp la1).length (trSh lp la1) ∧ (trSh lp la1).length ≤ c1 ∧ Kd.C (Kd.int .i64) w' A2 (trL lp la1 (prod (trSh lp la1)).toNat).length (trL lp la1 (prod (trSh lp la1)).toNat) ∧ (trL lp la1 (prod (trSh lp la1)).toNat).length ≤ c2 ∧ Below w.heap.size w w' := by
  have Ha1 := Aside0.mk ha1
  have Ka1 := Aside0.mk ka1
  clear ha1 ka1
  have Ha2 := Aside0.mk ha2
  have Ka2 := Aside0.mk ka2
  clear ha2 ka2
  have Hp := Aside0.mk hp
  have Kp := Aside0.mk kp
  have HL := Aside0.mk hl
  have HK := Aside0.mk hk
  have HPR := Aside0.mk hpr
  have HPB := Aside0.mk (permB_fact hb)
  clear hp kp hl hk hpr hb
  have hmk := make_row lp.length (by omega)
  have HS := Aside0.mk (Sx.start w)
  refine (callsIn_wide (n := 9)).1 ?_
  refine callsIn_of_wp_marks Try.func125 rfl trivial ?_ rfl
  simp only [Try.ntmps125, List.size_toArray, List.length_cons, List.length_nil, Nat.reduceAdd, Nat.reduceSub, Array.replicate_succ, Array.replicate_zero, List.push_toArray, List.append_toArray, List.nil_append, List.cons_append]
  refine wpIn_wide.2 ?_
  go_wp2_with (first | ((with_reducible refine gate_dst (N := 2) rfl ?_); refine box_event ?hg (N := 2) ?hd (cs := #[.slice Ap lp.length cp]) (t := 22) ?hr ?_; (case hd => rfl); (case hg => rfl); (case hr => first | (go_simp; done) | (go_simp; rfl)); intro gP hg1 w1 hx1 hb1; have nS : Aside0 (Sx w w1 [(.blk gP #[.slice Ap lp.length cp] 22)]) := Aside0.mk (HS.out.box hg1 hx1 hb1); clear HS; have HS := nS; clear nS hg1 hx1 hb1) | ((with_reducible refine gate_dst (N := 3) rfl ?_); refine box_event ?hg (N := 3) ?hd (cs := #[.bool a, .slice Aa1 la1.length ca1, .slice Aa2 la2.length ca2]) (t := 28) ?hr ?_; (case hd => rfl); (case hg => rfl); (case hr => first | (go_simp; done) | (go_simp; rfl)); intro gA hg2 w2 hx2 hb2; have nS : Aside0 (Sx w w2 [(.blk gA #[.bool a, .slice Aa1 la1.length ca1, .slice Aa2 la2.length ca2] 28), (.blk gP #[.slice Ap lp.length cp] 22)]) := Aside0.mk (HS.out.box hg2 hx2 hb2); clear HS; have HS := nS; clear nS hg2 hx2 hb2) | ((with_reducible refine gate_dst (N := 4) rfl ?_); refine box_event ?hg (N := 4) ?hd (cs := #[.slice none 0 0, .slice none 0 0]) (t := 70) ?hr ?_; (case hd => rfl); (case hg => rfl); (case hr => first | (go_simp; done) | (go_simp; rfl)); intro gR hg3 w3 hx3 hb3; have nS : Aside0 (Sx w w3 [(.blk gR #[.slice none 0 0, .slice none 0 0] 70), (.blk gA #[.bool a, .slice Aa1 la1.length ca1, .slice Aa2 la2.length ca2] 28), (.blk gP #[.slice Ap lp.length cp] 22)]) := Aside0.mk (HS.out.box hg3 hx3 hb3); clear HS; have HS := nS; clear nS hg3 hx3 hb3) | ((with_reducible refine gate_dst (N := 12) rfl ?_); refine ev_load rfl 22 (.tmp 2) rfl ⟨gP, 0, none⟩ rfl (.slice Ap lp.length cp) ((blk_cell (HS.out.blk 2 rfl) 0).trans rfl) (by kernel_rfl) ?_) | ((with_reducible refine gate_dst (N := 14) rfl ?_); refine lit_event ?hg (N := 14) ?hd (cs := (rowI (List.replicate lp.length 0))) (t := 3) (n := lp.length) ?hr ?_; (case hd => rfl); (case hg => rfl); (case hr => first | (go_simp; done) | (go_simp; rfl)); intro gS hg4 w4 hx4 hb4; have nS : Aside0 (Sx w w4 [(.blk gS (rowI (List.replicate lp.length 0)) 3), (.blk gR #[.slice none 0 0, .slice none 0 0] 70), (.blk gA #[.bool a, .slice Aa1 la1.length ca1, .slice Aa2 la2.length ca2] 28), (.blk gP #[.slice Ap lp.length cp] 22)]) := Aside0.mk (HS.out.box hg4 hx4 hb4); clear HS; have HS := nS; clear nS hg4 hx4 hb4) | ((with_reducible refine gate_dst (N := 5) rfl ?_); refine box_event ?hg (N := 5) ?hd (cs := #[.slice none 0 0, .slice none 0 0]) (t := 70) ?hr ?_; (case hd => rfl); (case hg => rfl); (case hr => first | (go_simp; done) | (go_simp; rfl)); intro gM hg5 w5 hx5 hb5; have nS : Aside0 (Sx w w5 [(.blk gM #[.slice none 0 0, .slice none 0 0] 70), (.blk gS (rowI (List.replicate lp.length 0)) 3), (.blk gR #[.slice none 0 0, .slice none 0 0] 70), (.blk gA #[.bool a, .slice Aa1 la1.length ca1, .slice Aa2 la2.length ca2] 28), (.blk gP #[.slice Ap lp.length cp] 22)]) := Aside0.mk (HS.out.box hg5 hx5 hb5); clear HS; have HS := nS; clear nS hg5 hx5 hb5) | ((with_reducible refine gate_store rfl ?_); refine store_named rfl 70 (.tmp 5) (.tmp 15) rfl gM #[.slice (some ⟨gS, 0, none⟩) lp.length lp.length, .slice none 0 0] rfl rfl 70 #[.slice none 0 0, .slice none 0 0] (HS.out.blk 0 rfl) (by kernel_rfl) rfl (by simp [Value.oneCell']) ?_; intro w6 hx6 hb6; have nS : Aside0 (Sx w w6 [(.blk gM #[.slice (some ⟨gS, 0, none⟩) lp.length lp.length, .slice none 0 0] 70), (.blk gS (rowI (List.replicate lp.length 0)) 3), (.blk gR #[.slice none 0 0, .slice none 0 0] 70), (.blk gA #[.bool a, .slice Aa1 la1.length ca1, .slice Aa2 la2.length ca2] 28), (.blk gP #[.slice Ap lp.length cp] 22)]) := Aside0.mk (HS.out.put 0 rfl hx6 hb6); clear HS; have HS := nS; clear nS hx6 hb6) | ((with_reducible refine gate_dst (N := 16) rfl ?_); refine ev_load rfl 22 (.tmp 2) rfl ⟨gP, 0, none⟩ rfl (.slice Ap lp.length cp) ((blk_cell (HS.out.blk 4 rfl) 0).trans rfl) (by kernel_rfl) ?_))
  go_loopw [6, 7, 18] (fun _ _ z wr => ∃ j : Nat, z = .int .i64 (j : Int) ∧ Aside0 (j ≤ lp.length) ∧ Aside0 (Sx w wr [.blk gM #[.slice (some ⟨gS, 0, none⟩) lp.length lp.length, .slice none 0 0] 70, .blk gS (rowI (turnS la1 (List.replicate lp.length 0) 0 (lp.take j))) 3, .blk gR #[.slice none 0 0, .slice none 0 0] 70, .blk gA #[.bool a, .slice Aa1 la1.length ca1, .slice Aa2 la2.length ca2] 28, .blk gP #[.slice Ap lp.length cp] 22]))
    (fun _ _ z _ => lp.length - (intOf z).toNat)
  case atStart => exact ⟨0, rfl, ⟨Nat.zero_le _⟩, HS⟩
  case round =>
    clear HS
    obtain ⟨j, rfl, hj, HS⟩ := hrel
    by_cases hlt : j < lp.length
    · obtain ⟨ad, rfl, y1⟩ := Kd.at_int (Kd.C_below Hp.out HS.out.below) (j : Int) (by omega) (by omega)
      obtain ⟨ad2, rfl, y2⟩ := Kd.at_int (Kd.C_below Ha1.out HS.out.below) (j : Int) (by omega) (by have := HL.out; omega)
      rw [Int.toNat_natCast] at y1 y2
      have hn := HPB.out.1 _ (rd_mem lp j hlt)
      have HT := Aside0.mk (take_rd lp j hlt)
      obtain ⟨n, hne⟩ : ∃ n, n = rd lp (j : Int) := ⟨_, rfl⟩
      rw [← hne] at y1 hn HT
      obtain ⟨z, hze⟩ : ∃ z, z = rd la1 (j : Int) := ⟨_, rfl⟩
      rw [← hze] at y2
      have HZ := Aside0.mk hze
      clear hne hze
      have n0 := hn.1
      have n1 := hn.2
      have p0 : 0 ≤ (j : Int) := by omega
      have p1 : (j : Int) < (lp.length : Int) := by omega
      have p2 : (j : Int) < (la1.length : Int) := by have := HL.out; omega
      obtain ⟨m, hm⟩ : ∃ m : Nat, n - 1 = (m : Int) := Int.eq_ofNat_of_zero_le (by omega)
      have HM := Aside0.mk (show (n - 1).toNat = m by omega)
      have p3 : 0 ≤ (m : Int) := by omega
      have p4 : (m : Int) < (lp.length : Int) := by omega
      have xM : wr.cell? ⟨gM, 0, none⟩ = some (.slice (some ⟨gS, 0, none⟩) lp.length lp.length) := (blk_cell (HS.out.blk 0 rfl) 0).trans rfl
      have xA : wr.cell? ⟨gA, 1, none⟩ = some (.slice (some ad2) la1.length ca1) := (blk_cell (HS.out.blk 3 rfl) 1).trans rfl
      have xS := rowI_cell (HS.out.blk 1 rfl) m (by rw [turnS_len, List.length_replicate]; omega)
      have fS := blk_frozen (HS.out.blk 1 rfl) m
      have hw : IntKind.i64.wrap (n - 1) = (m : Int) := (IntWalk.i64_in _ (by omega)).trans hm
      clear hn hm
      go_wp2
      go_still_tail 10, (by kernel_rfl)
      clear hw
      go_wp2
      go_roundw
      case rel =>
        refine ⟨j + 1, by push_cast; rfl, ⟨hlt⟩, ⟨?_⟩⟩
        have h := HS.out.drew.put 1 rfl (rowI_put (HS.out.drew.blk 1 rfl) m z) (But1.set1 gS m wr.drew (.int .i64 z))
        rw [HT.out, turnS_snoc, List.length_take, Nat.min_eq_left (Nat.le_of_lt hlt), Nat.zero_add, ← HZ.out, HM.out]
        exact h
      case measure => simp [intOf]; omega
    · obtain rfl : j = lp.length := by have := hj.out; omega
      rw [List.take_length] at HS
      change Aside0 (Sx w wr [(.blk gM #[.slice (some ⟨gS, 0, none⟩) lp.length lp.length, .slice none 0 0] 70), (.blk gS (rowI (trSh lp la1)) 3), (.blk gR #[.slice none 0 0, .slice none 0 0] 70), (.blk gA #[.bool a, .slice Aa1 la1.length ca1, .slice Aa2 la2.length ca2] 28), (.blk gP #[.slice Ap lp.length cp] 22)]) at HS
      go_wp2_with (first | ((with_reducible refine gate_dst (N := 34) rfl ?_); refine ev_load rfl 22 (.tmp 2) rfl ⟨gP, 0, none⟩ rfl (.slice Ap lp.length cp) ((blk_cell (HS.out.blk 4 rfl) 0).trans rfl) (by kernel_rfl) ?_) | ((with_reducible refine gate_dst (N := 36) rfl ?_); refine lit_event ?hg (N := 36) ?hd (cs := (rowI (List.replicate lp.length 0))) (t := 3) (n := lp.length) ?hr ?_; (case hd => rfl); (case hg => rfl); (case hr => first | (go_simp; done) | (go_simp; rfl)); intro gQ hgy1 wy1 hxy1 hby1; have nS : Aside0 (Sx w wy1 [(.blk gQ (rowI (List.replicate lp.length 0)) 3), (.blk gM #[.slice (some ⟨gS, 0, none⟩) lp.length lp.length, .slice none 0 0] 70), (.blk gS (rowI (trSh lp la1)) 3), (.blk gR #[.slice none 0 0, .slice none 0 0] 70), (.blk gA #[.bool a, .slice Aa1 la1.length ca1, .slice Aa2 la2.length ca2] 28), (.blk gP #[.slice Ap lp.length cp] 22)]) := Aside0.mk (HS.out.box hgy1 hxy1 hby1); clear HS; have HS := nS; clear nS hgy1 hxy1 hby1) | ((with_reducible refine gate_dst (N := 8) rfl ?_); refine box_event ?hg (N := 8) ?hd (cs := #[.slice none 0 0]) (t := 22) ?hr ?_; (case hd => rfl); (case hg => rfl); (case hr => first | (go_simp; done) | (go_simp; rfl)); intro gV hgy2 wy2 hxy2 hby2; have nS : Aside0 (Sx w wy2 [(.blk gV #[.slice none 0 0] 22), (.blk gQ (rowI (List.replicate lp.length 0)) 3), (.blk gM #[.slice (some ⟨gS, 0, none⟩) lp.length lp.length, .slice none 0 0] 70), (.blk gS (rowI (trSh lp la1)) 3), (.blk gR #[.slice none 0 0, .slice none 0 0] 70), (.blk gA #[.bool a, .slice Aa1 la1.length ca1, .slice Aa2 la2.length ca2] 28), (.blk gP #[.slice Ap lp.length cp] 22)]) := Aside0.mk (HS.out.box hgy2 hxy2 hby2); clear HS; have HS := nS; clear nS hgy2 hxy2 hby2) | ((with_reducible refine gate_store rfl ?_); refine ev_store rfl 22 (.tmp 8) (.tmp 36) rfl gV 0 rfl (.slice (some ⟨gQ, 0, none⟩) lp.length lp.length) rfl #[.slice none 0 0] 22 (HS.out.blk 0 rfl) (by decide) rfl (by kernel_rfl) ?_; intro wy3 hxy3 hby3; have nS : Aside0 (Sx w wy3 [(.blk gV #[.slice (some ⟨gQ, 0, none⟩) lp.length lp.length] 22), (.blk gQ (rowI (List.replicate lp.length 0)) 3), (.blk gM #[.slice (some ⟨gS, 0, none⟩) lp.length lp.length, .slice none 0 0] 70), (.blk gS (rowI (trSh lp la1)) 3), (.blk gR #[.slice none 0 0, .slice none 0 0] 70), (.blk gA #[.bool a, .slice Aa1 la1.length ca1, .slice Aa2 la2.length ca2] 28), (.blk gP #[.slice Ap lp.length cp] 22)]) := Aside0.mk (HS.out.put 0 rfl hxy3 hby3); clear HS; have HS := nS; clear nS hxy3 hby3) | ((with_reducible refine gate_dst (N := 38) rfl ?_); refine ev_load rfl 22 (.tmp 37) rfl ⟨gM, 0, none⟩ rfl (.slice (some ⟨gS, 0, none⟩) lp.length lp.length) ((blk_cell (HS.out.blk 2 rfl) 0).trans rfl) (by kernel_rfl) ?_) | (go_at_call 119; refine (indexes_box (some ⟨gS, 0, none⟩) lp.length lp.length _).mono ?_; rintro e wy4 ⟨gX, rfl, hgy4, hxy4, hby4⟩; have nS : Aside0 (Sx w wy4 [(.blk gX #[.slice (some ⟨gS, 0, none⟩) lp.length lp.length] 22), (.blk gV #[.slice (some ⟨gQ, 0, none⟩) lp.length lp.length] 22), (.blk gQ (rowI (List.replicate lp.length 0)) 3), (.blk gM #[.slice (some ⟨gS, 0, none⟩) lp.length lp.length, .slice none 0 0] 70), (.blk gS (rowI (trSh lp la1)) 3), (.blk gR #[.slice none 0 0, .slice none 0 0] 70), (.blk gA #[.bool a, .slice Aa1 la1.length ca1, .slice Aa2 la2.length ca2] 28), (.blk gP #[.slice Ap lp.length cp] 22)]) := Aside0.mk (HS.out.box hgy4 hxy4 hby4); clear HS; have HS := nS; clear nS hby4 hgy4 hxy4))
      have hsl : (trSh lp la1).length = lp.length := by unfold trSh; rw [turnS_len, List.length_replicate]
      have HSL := Aside0.mk hsl
      clear hsl
      obtain ⟨W0, hW0⟩ : ∃ W0, wy4 = W0 := ⟨_, rfl⟩
      rw [hW0] at HS ⊢
      clear hW0
      have HS0 : Aside0 (Sx w W0 [.blk gX #[.slice (some ⟨gS, 0, none⟩) lp.length lp.length] 22, .blk gV #[.slice (some ⟨gQ, 0, none⟩) lp.length lp.length] 22, .blk gQ (rowI (List.replicate lp.length 0)) 3, .row (.slice none 0 0) [], .blk gM #[.slice (some ⟨gS, 0, none⟩) lp.length lp.length, (.slice none 0 0)] 70, .blk gS (rowI (trSh lp la1)) 3, .blk gR #[.slice none 0 0, .slice none 0 0] 70, .blk gA #[.bool a, .slice Aa1 la1.length ca1, .slice Aa2 la2.length ca2] 28, .blk gP #[.slice Ap lp.length cp] 22]) := Aside0.mk (HS.out.nilRow 3 (by simp))
      clear HS
      have HLT := Aside0.mk (show gX < W0.heap.size ∧ gV < W0.heap.size ∧ gQ < W0.heap.size ∧ gM < W0.heap.size ∧ gS < W0.heap.size ∧ gR < W0.heap.size ∧ gA < W0.heap.size ∧ gP < W0.heap.size from ⟨blk_lt (HS0.out.blk 0 rfl), blk_lt (HS0.out.blk 1 rfl), blk_lt (HS0.out.blk 2 rfl), blk_lt (HS0.out.blk 4 rfl), blk_lt (HS0.out.blk 5 rfl), blk_lt (HS0.out.blk 6 rfl), blk_lt (HS0.out.blk 7 rfl), blk_lt (HS0.out.blk 8 rfl)⟩)
      refine range_indexes gX (some ⟨gS, 0, none⟩) lp.length (trSh lp la1) rfl (by rw [HSL.out]; exact HS0.out.blk 0 rfl) (rowI_C (HS0.out.blk 5 rfl) (by rw [HSL.out]; omega)) (by rw [HSL.out]; exact Nat.le_refl _) (by rw [HSL.out]; exact h5) HPR.out.2 k0 HK.out rfl
        (fun t W => ∃ (src : List Int) (v : Value), src.length = lp.length ∧ Sx w W [.blk gX #[.slice (some ⟨gS, 0, none⟩) lp.length lp.length] 22, .blk gV #[.slice (some ⟨gQ, 0, none⟩) lp.length lp.length] 22, .blk gQ (rowI src) 3, .row v (trL lp la1 t), .blk gM #[.slice (some ⟨gS, 0, none⟩) lp.length lp.length, v] 70, .blk gS (rowI (trSh lp la1)) 3, .blk gR #[.slice none 0 0, .slice none 0 0] 70, .blk gA #[.bool a, .slice Aa1 la1.length ca1, .slice Aa2 la2.length ca2] 28, .blk gP #[.slice Ap lp.length cp] 22] ∧ ∀ k, v.ownBlock = some k → W0.heap.size + 3 ≤ k)
        ?inv ⟨_, _, by simp, HS0.out, by simp [Value.ownBlock]⟩ ?a1 ?assign ?body ?done
      case inv =>
        rintro t A B ⟨src, v, e1, h1, e2⟩ hb
        refine ⟨src, v, e1, h1.butS hb (fun T hT k hk => ?_) (fun k hk => by have := HS0.out.below.size; omega), e2⟩
        have := HLT.out
        simp only [List.mem_cons, List.not_mem_nil, or_false] at hT
        rcases hT with rfl | rfl | rfl | rfl | rfl | rfl | rfl | rfl | rfl
        all_goals first
          | (have e : k = _ := hk; subst e; omega)
          | (have := e2 k hk; omega)
      case assign =>
        intro lo W K hK
        gi_wp2
        exact hK
      case body =>
        rintro lo t W ⟨src, v, hsrc, hS, hv⟩ hlt hat hge
        have HS1 := Aside0.mk hS
        have HV := Aside0.mk hv
        have HAT := Aside0.mk hat
        have HGE := Aside0.mk hge
        have HTT := Aside0.mk hlt
        have HSRC := Aside0.mk hsrc
        have HR : Aside0 (Rx (fun k => k = gQ ∨ k = gM ∨ v.ownBlock = some k) W W [.blk gX #[.slice (some ⟨gS, 0, none⟩) lp.length lp.length] 22, .blk gV #[.slice (some ⟨gQ, 0, none⟩) lp.length lp.length] 22, .blk gQ (rowI src) 3, .row v (trL lp la1 t), .blk gM #[.slice (some ⟨gS, 0, none⟩) lp.length lp.length, v] 70, .blk gS (rowI (trSh lp la1)) 3, .blk gR #[.slice none 0 0, .slice none 0 0] 70, .blk gA #[.bool a, .slice Aa1 la1.length ca1, .slice Aa2 la2.length ca2] 28, .blk gP #[.slice Ap lp.length cp] 22]) := Aside0.mk (Rx.start hS)
        have HOO : Aside0 (∀ k, (fun k => k = gQ ∨ k = gM ∨ v.ownBlock = some k) k → w.heap.size ≤ k) := Aside0.mk (fun k hk => by
          rcases hk with rfl | rfl | hk
          · exact (HS1.out.get 2 rfl).2
          · exact (HS1.out.get 4 rfl).2
          · exact Kd.R_base (HS1.out.row 3 rfl) k hk)
        have HNG : Aside0 (¬ (fun k => k = gQ ∨ k = gM ∨ v.ownBlock = some k) (W0.heap.size + 2)) := Aside0.mk (fun hk => by
          have := HLT.out
          rcases hk with e | e | e
          · omega
          · omega
          · have := HV.out _ e; omega)
        have HCI := Aside0.mk (idxL_len (trSh lp la1) t)
        have xP : W.cell? ⟨gP, 0, none⟩ = some (.slice Ap lp.length cp) := (blk_cell (HS1.out.blk 8 rfl) 0).trans rfl
        clear hS hv hat hge hlt hsrc
        gi_wp2
        gi_loopw [10, 11, 43] (fun _ _ z wr => ∃ (j : Nat) (sr : List Int), z = .int .i64 (j : Int) ∧ Aside0 (j ≤ lp.length) ∧ Aside0 (sr.length = lp.length) ∧ Aside0 (sr.take j = (lp.take j).map (fun n => rd (idxL (trSh lp la1) t) (n - 1))) ∧ Aside0 (Rx (fun k => k = gQ ∨ k = gM ∨ v.ownBlock = some k) W wr [.blk gX #[.slice (some ⟨gS, 0, none⟩) lp.length lp.length] 22, .blk gV #[.slice (some ⟨gQ, 0, none⟩) lp.length lp.length] 22, .blk gQ (rowI sr) 3, .row v (trL lp la1 t), .blk gM #[.slice (some ⟨gS, 0, none⟩) lp.length lp.length, v] 70, .blk gS (rowI (trSh lp la1)) 3, .blk gR #[.slice none 0 0, .slice none 0 0] 70, .blk gA #[.bool a, .slice Aa1 la1.length ca1, .slice Aa2 la2.length ca2] 28, .blk gP #[.slice Ap lp.length cp] 22]))
          (fun _ _ z _ => lp.length - (intOf z).toNat)
        case atStart => exact ⟨0, src, rfl, ⟨Nat.zero_le _⟩, HSRC, ⟨by simp⟩, HR⟩
        case round =>
          clear HR
          obtain ⟨j, sr, rfl, hj, hsr, htk, HR⟩ := hrel
          have HBW := Aside0.mk (HS1.out.below.trans (HR.out.fr.below HOO.out HS1.out.below.size))
          by_cases hlt : j < lp.length
          · obtain ⟨ad, rfl, y1⟩ := Kd.at_int (Kd.C_below Hp.out HBW.out) (j : Int) (by omega) (by omega)
            rw [Int.toNat_natCast] at y1
            have hn := HPB.out.1 _ (rd_mem lp j hlt)
            have HT := Aside0.mk (take_rd lp j hlt)
            obtain ⟨n, hne⟩ : ∃ n, n = rd lp (j : Int) := ⟨_, rfl⟩
            rw [← hne] at y1 hn HT
            clear hne
            have n0 := hn.1
            have n1 := hn.2
            have p0 : 0 ≤ (j : Int) := by omega
            have p1 : (j : Int) < (lp.length : Int) := by omega
            obtain ⟨m, hm⟩ : ∃ m : Nat, n - 1 = (m : Int) := Int.eq_ofNat_of_zero_le (by omega)
            have HM := Aside0.mk hm
            have p3 : 0 ≤ (m : Int) := by omega
            have p4 : (m : Int) < ((trSh lp la1).length : Int) := by have := HSL.out; omega
            have xV : wr.cell? ⟨gV, 0, none⟩ = some (.slice (some ⟨gQ, 0, none⟩) lp.length lp.length) := (blk_cell (HR.out.blk 1 rfl) 0).trans rfl
            have xQ := rowI_cell (HR.out.blk 2 rfl) j (by have := hsr.out; omega)
            have fQ := blk_frozen (HR.out.blk 2 rfl) j
            have xG := rowI_cell (HR.out.fr.blk HAT.out HNG.out) m (by have := HCI.out; omega)
            obtain ⟨z, hz⟩ : ∃ z, z = rd (idxL (trSh lp la1) t) (m : Int) := ⟨_, rfl⟩
            rw [← hz] at xG
            have HZ := Aside0.mk hz
            have hw : IntKind.i64.wrap (n - 1) = (m : Int) := (IntWalk.i64_in _ (by omega)).trans hm
            clear hn hm hz
            gi_wp2
            refine tail_round 8 (by rintro ⟨_, _, h⟩; exact h) (by kernel_rfl) (by kernel_rfl) (by kernel_rfl) ?_
            simp only [List.take_succ_cons, List.take_zero, List.drop_succ_cons, List.drop_zero]
            repeat still_step
            refine wpStill_nil ?_
            clear hw
            go_wp2
            gi_wp2
            refine ⟨⟨j + 1, sr.set j z, by push_cast; rfl, ⟨hlt⟩, ⟨by rw [List.length_set]; exact hsr.out⟩, ⟨?_⟩, ⟨?_⟩⟩, by simp [intOf]; omega⟩
            · rw [HT.out, List.map_append, ← htk.out, take_set_succ _ _ _ (by have := hsr.out; omega)]
              simp only [List.map_cons, List.map_nil, HM.out, ← HZ.out]
            · exact HR.out.drew.put 2 rfl (.inl (.inl rfl)) (rowI_put (HR.out.drew.blk 2 rfl) j z) (But1.set1 gQ j wr.drew (.int .i64 z))
          · obtain rfl : j = lp.length := by have := hj.out; omega
            have HSE : Aside0 (sr = lp.map fun n => rd (idxL (trSh lp la1) t) (n - 1)) := Aside0.mk (by
              have h := htk.out
              rw [List.take_of_length_le (by have := hsr.out; omega), List.take_length] at h; exact h)
            have xM0 : wr.cell? ⟨gM, 1, none⟩ = some v := (blk_cell (HR.out.blk 4 rfl) 1).trans rfl
            have xA0 : wr.cell? ⟨gA, 1, none⟩ = some (.slice Aa1 la1.length ca1) := (blk_cell (HR.out.blk 7 rfl) 1).trans rfl
            have xV0 : wr.cell? ⟨gV, 0, none⟩ = some (.slice (some ⟨gQ, 0, none⟩) lp.length lp.length) := (blk_cell (HR.out.blk 1 rfl) 0).trans rfl
            have hnum : ∀ W', Below wr.heap.size wr W' → Calls Try.prog 120 #[.slice Aa1 la1.length ca1, .slice (some ⟨gQ, 0, none⟩) lp.length lp.length] W' fun e w' => e = .returned (.int .i64 (numGo la1 0 0 sr)) ∧ ∃ m, w' = W'.drewN m := fun W' hW => by
              have h := impl_number.calls (sr.length + 1) Aa1 ca1 la1 (some ⟨gQ, 0, none⟩) sr.length sr _ W' (Kd.C_below Ha1.out (HBW.out.trans (hW.mono HBW.out.size))) Ka1.out (rowI_C (blk_below (HR.out.blk 2 rfl) hW) (by have := hsr.out; omega)) (Nat.le_refl _) (number_ev la1 sr (by have := hsr.out; have := HL.out; omega) (by have := hsr.out; omega))
              rw [hsr.out] at h
              exact h.mono fun _ _ h => ⟨h.1, h.2.out⟩
            have HN := Aside0.mk hnum
            clear hnum
            gi_wp2
            refine any_round (by rintro ⟨_, _, h⟩; exact h) (by kernel_rfl) (by kernel_rfl) ?_
            refine wpAny_take (i := 0) (v := ?_) rfl (by kernel_rfl) (by kernel_rfl) (by kernel_rfl) (fun _ _ _ h => h) (Or.inl ⟨by rfl, ?_⟩) ?_
            rotate_left
            · intro w'; go_simp; try with_reducible rfl
            refine wpAny_take (i := 2) (v := ?_) rfl (by kernel_rfl) (by kernel_rfl) (by kernel_rfl) (fun _ _ _ h => h) (Or.inl ⟨by rfl, ?_⟩) ?_
            rotate_left
            · intro w'; go_simp; try with_reducible rfl
            refine wpAny_ready (rs := [1, 3, 4]) (by kernel_rfl) (by simp) ?_
            refine AllReady.cons rfl (fun K hK => ?_) ?_
            · go_simp
              refine hK _ _ ?_
              clear hK K
              refine wpAny_ready (rs := [3, 4]) (by kernel_rfl) (by simp) ?_
              refine AllReady.cons rfl (fun K hK => ?_) ?_
              · go_simp
                refine hK _ _ ?_
                clear hK K
                refine wpAny_ready (rs := [4]) (by kernel_rfl) (by simp) ?_
                refine AllReady.cons rfl (fun K hK => ?_) ?_
                · go_simp
                  refine hK _ _ ?_
                  clear hK K
                  refine wpAny_ready (rs := [5]) (by kernel_rfl) (by simp) ?_
                  refine AllReady.cons rfl (fun K hK => ?_) ?_
                  · go_simp
                    refine (HN.out _ (below_drew (Below.refl _ _))).mono ?_
                    rintro e w' ⟨rfl, m, rfl⟩
                    have HR1 := Aside0.mk (HR.out.drewN (1 + m))
                    refine hK _ _ ?_
                    clear hK K
                    refine wpAny_ready (rs := [6]) (by kernel_rfl) (by simp) ?_
                    refine AllReady.cons rfl (fun K hK => ?_) ?_
                    · go_simp
                      have xM9 : ((wr.drewN (1 + m)).alloc (.cells #[.int .i64 (numGo la1 0 0 sr)] 3)).cell? ⟨gM, 1, none⟩ = some v := (blk_cell (blk_alloc (HR1.out.blk 4 rfl) _) 1).trans rfl
                      refine hK _ _ ?_
                      clear hK K
                      refine wpAny_ready (rs := [7]) (by kernel_rfl) (by simp) ?_
                      refine AllReady.cons rfl (fun K hK => ?_) ?_
                      · refine HR1.out.append_step 3 rfl (fun k e => .inl (.inr (.inr e))) rfl (.tmp 58) (.tmp 63) rfl Try.underlying22 info3 (numGo la1 0 0 sr) rfl rfl (by have := HTT.out; have := HPR.out; simp [trL]; omega) ?_
                        intro v1 w1 hr1 hat1
                        obtain ⟨Av, cv, hv_⟩ := Kd.R_slice (hr1.row 3 rfl)
                        obtain ⟨nv, hnv⟩ : ∃ n, n = (trL lp la1 t ++ [numGo la1 0 0 sr]).length := ⟨_, rfl⟩
                        rw [← hnv] at hv_
                        subst hv_
                        clear hnv
                        have HR2 : Aside0 (Rx (fun k => k = gQ ∨ k = gM ∨ v.ownBlock = some k) W w1 [.blk gX #[.slice (some ⟨gS, 0, none⟩) lp.length lp.length] 22, .blk gV #[.slice (some ⟨gQ, 0, none⟩) lp.length lp.length] 22, .blk gQ (rowI sr) 3, .row (.slice Av nv cv) (trL lp la1 t ++ [numGo la1 0 0 sr]), .blk gM #[.slice (some ⟨gS, 0, none⟩) lp.length lp.length, v] 70, .blk gS (rowI (trSh lp la1)) 3, .blk gR #[.slice none 0 0, .slice none 0 0] 70, .blk gA #[.bool a, .slice Aa1 la1.length ca1, .slice Aa2 la2.length ca2] 28, .blk gP #[.slice Ap lp.length cp] 22]) := Aside0.mk hr1
                        have HV1 : Aside0 (∀ k, ((.slice Av nv cv) : Value).ownBlock = some k → W0.heap.size + 3 ≤ k) := Aside0.mk (fun k e => by
                          rcases hat1 with h | ⟨b, h, hb⟩
                          · exact HV.out k (h ▸ e)
                          · rw [h] at e; cases e; have h1 : W.heap.size ≤ (wr.drewN (1 + m)).heap.size := HR1.out.fr.size; have := HGE.out; omega)
                        have xM2 : w1.cell? ⟨gM, 1, none⟩ = some v := (blk_cell (HR2.out.blk 4 rfl) 1).trans rfl
                        have fM2 := blk_frozen (HR2.out.blk 4 rfl) 1
                        have HR3 : Aside0 (Rx (fun k => k = gQ ∨ k = gM ∨ v.ownBlock = some k) W (w1.setCell ⟨gM, 1, none⟩ (.slice Av nv cv)) [.blk gX #[.slice (some ⟨gS, 0, none⟩) lp.length lp.length] 22, .blk gV #[.slice (some ⟨gQ, 0, none⟩) lp.length lp.length] 22, .blk gQ (rowI sr) 3, .row (.slice Av nv cv) (trL lp la1 t ++ [numGo la1 0 0 sr]), .blk gM #[.slice (some ⟨gS, 0, none⟩) lp.length lp.length, (.slice Av nv cv)] 70, .blk gS (rowI (trSh lp la1)) 3, .blk gR #[.slice none 0 0, .slice none 0 0] 70, .blk gA #[.bool a, .slice Aa1 la1.length ca1, .slice Aa2 la2.length ca2] 28, .blk gP #[.slice Ap lp.length cp] 22]) := Aside0.mk (HR2.out.put 4 rfl (.inl (.inr (.inl rfl))) (blk_set (HR2.out.blk 4 rfl) 1 _) (But1.set1 gM 1 w1 _))
                        clear hr1 hat1
                        refine hK _ _ ?_
                        clear hK K
                        refine wpAny_take (i := 8) (v := ?_) rfl (by kernel_rfl) (by kernel_rfl) (by kernel_rfl) (fun _ _ _ h => h) (Or.inl ⟨by rfl, ?_⟩) ?_
                        rotate_left
                        · intro w'; go_simp; try with_reducible rfl
                        refine wpAny_ready (rs := [9]) (by kernel_rfl) (by simp) ?_
                        refine AllReady.cons rfl (fun K hK => ?_) ?_
                        · go_simp
                          refine hK _ _ ?_
                          clear hK K
                          refine wpAny_done (by kernel_rfl) ?_ _
                          gi_wp2
                          have hz := HLT.out
                          refine ⟨HR3.out.keeps (fun k hk => by rcases hk with rfl | rfl | hk; exact Th.cells (HS1.out.get 2 rfl) _ rfl; exact Th.cells (HS1.out.get 4 rfl) _ rfl; exact Th.cells (HS1.out.get 3 rfl) k hk), fun k hk => HR3.out.fr.same k ?_ ?_, HR3.out.fr.blk HAT.out HNG.out, ⟨sr, .slice Av nv cv, hsr.out, ?_, ?_⟩⟩
                          · rcases hk with rfl | ⟨_, hk⟩
                            · exact blk_lt (HS1.out.blk 0 rfl)
                            · cases hk; exact blk_lt (HS1.out.blk 5 rfl)
                          · rcases hk with rfl | ⟨_, hk⟩
                            · rintro (e | e | e)
                              · exact HS1.out.apart 0 2 (by decide) rfl rfl _ rfl e
                              · exact HS1.out.apart 0 4 (by decide) rfl rfl _ rfl e
                              · exact HS1.out.apart 0 3 (by decide) rfl rfl _ rfl e
                            · cases hk
                              rintro (e | e | e)
                              · exact HS1.out.apart 5 2 (by decide) rfl rfl _ rfl e
                              · exact HS1.out.apart 5 4 (by decide) rfl rfl _ rfl e
                              · exact HS1.out.apart 5 3 (by decide) rfl rfl _ rfl e
                          · have e1 : trL lp la1 (t + 1) = trL lp la1 t ++ [numGo la1 0 0 sr] := by rw [HSE.out]; simp [trL, trOne, List.range_succ]
                            rw [e1]
                            refine Rx.back HS1.out HR3.out HOO.out (fun T hT k hk => ?_)
                            have hw0 := HS0.out.below.size
                            simp only [List.mem_cons, List.not_mem_nil, or_false] at hT
                            rcases hT with rfl | rfl | rfl | rfl | rfl | rfl | rfl | rfl | rfl
                            · rw [show k = gX from hk]; exact (HS1.out.get 0 rfl).2
                            · rw [show k = gV from hk]; exact (HS1.out.get 1 rfl).2
                            · rw [show k = gQ from hk]; exact (HS1.out.get 2 rfl).2
                            · have := HV1.out k hk; omega
                            · rw [show k = gM from hk]; exact (HS1.out.get 4 rfl).2
                            · rw [show k = gS from hk]; exact (HS1.out.get 5 rfl).2
                            · rw [show k = gR from hk]; exact (HS1.out.get 6 rfl).2
                            · rw [show k = gA from hk]; exact (HS1.out.get 7 rfl).2
                            · rw [show k = gP from hk]; exact (HS1.out.get 8 rfl).2
                          · exact HV1.out
                        exact AllReady.nil
                      exact AllReady.nil
                    exact AllReady.nil
                  exact AllReady.nil
                exact AllReady.nil
              refine AllReady.cons rfl (fun K hK => ?_) ?_
              · go_simp
                refine hK _ _ ?_
                clear hK K
                refine wpAny_ready (rs := [3]) (by kernel_rfl) (by simp) ?_
                refine AllReady.cons rfl (fun K hK => ?_) ?_
                · go_simp
                  refine hK _ _ ?_
                  clear hK K
                  refine wpAny_ready (rs := [5]) (by kernel_rfl) (by simp) ?_
                  refine AllReady.cons rfl (fun K hK => ?_) ?_
                  · go_simp
                    refine (HN.out _ (below_drew (Below.refl _ _))).mono ?_
                    rintro e w' ⟨rfl, m, rfl⟩
                    have HR1 := Aside0.mk (HR.out.drewN (1 + m))
                    refine hK _ _ ?_
                    clear hK K
                    refine wpAny_ready (rs := [6]) (by kernel_rfl) (by simp) ?_
                    refine AllReady.cons rfl (fun K hK => ?_) ?_
                    · go_simp
                      have xM9 : ((wr.drewN (1 + m)).alloc (.cells #[.int .i64 (numGo la1 0 0 sr)] 3)).cell? ⟨gM, 1, none⟩ = some v := (blk_cell (blk_alloc (HR1.out.blk 4 rfl) _) 1).trans rfl
                      refine hK _ _ ?_
                      clear hK K
                      refine wpAny_ready (rs := [7]) (by kernel_rfl) (by simp) ?_
                      refine AllReady.cons rfl (fun K hK => ?_) ?_
                      · refine HR1.out.append_step 3 rfl (fun k e => .inl (.inr (.inr e))) rfl (.tmp 58) (.tmp 63) rfl Try.underlying22 info3 (numGo la1 0 0 sr) rfl rfl (by have := HTT.out; have := HPR.out; simp [trL]; omega) ?_
                        intro v1 w1 hr1 hat1
                        obtain ⟨Av, cv, hv_⟩ := Kd.R_slice (hr1.row 3 rfl)
                        obtain ⟨nv, hnv⟩ : ∃ n, n = (trL lp la1 t ++ [numGo la1 0 0 sr]).length := ⟨_, rfl⟩
                        rw [← hnv] at hv_
                        subst hv_
                        clear hnv
                        have HR2 : Aside0 (Rx (fun k => k = gQ ∨ k = gM ∨ v.ownBlock = some k) W w1 [.blk gX #[.slice (some ⟨gS, 0, none⟩) lp.length lp.length] 22, .blk gV #[.slice (some ⟨gQ, 0, none⟩) lp.length lp.length] 22, .blk gQ (rowI sr) 3, .row (.slice Av nv cv) (trL lp la1 t ++ [numGo la1 0 0 sr]), .blk gM #[.slice (some ⟨gS, 0, none⟩) lp.length lp.length, v] 70, .blk gS (rowI (trSh lp la1)) 3, .blk gR #[.slice none 0 0, .slice none 0 0] 70, .blk gA #[.bool a, .slice Aa1 la1.length ca1, .slice Aa2 la2.length ca2] 28, .blk gP #[.slice Ap lp.length cp] 22]) := Aside0.mk hr1
                        have HV1 : Aside0 (∀ k, ((.slice Av nv cv) : Value).ownBlock = some k → W0.heap.size + 3 ≤ k) := Aside0.mk (fun k e => by
                          rcases hat1 with h | ⟨b, h, hb⟩
                          · exact HV.out k (h ▸ e)
                          · rw [h] at e; cases e; have h1 : W.heap.size ≤ (wr.drewN (1 + m)).heap.size := HR1.out.fr.size; have := HGE.out; omega)
                        have xM2 : w1.cell? ⟨gM, 1, none⟩ = some v := (blk_cell (HR2.out.blk 4 rfl) 1).trans rfl
                        have fM2 := blk_frozen (HR2.out.blk 4 rfl) 1
                        have HR3 : Aside0 (Rx (fun k => k = gQ ∨ k = gM ∨ v.ownBlock = some k) W (w1.setCell ⟨gM, 1, none⟩ (.slice Av nv cv)) [.blk gX #[.slice (some ⟨gS, 0, none⟩) lp.length lp.length] 22, .blk gV #[.slice (some ⟨gQ, 0, none⟩) lp.length lp.length] 22, .blk gQ (rowI sr) 3, .row (.slice Av nv cv) (trL lp la1 t ++ [numGo la1 0 0 sr]), .blk gM #[.slice (some ⟨gS, 0, none⟩) lp.length lp.length, (.slice Av nv cv)] 70, .blk gS (rowI (trSh lp la1)) 3, .blk gR #[.slice none 0 0, .slice none 0 0] 70, .blk gA #[.bool a, .slice Aa1 la1.length ca1, .slice Aa2 la2.length ca2] 28, .blk gP #[.slice Ap lp.length cp] 22]) := Aside0.mk (HR2.out.put 4 rfl (.inl (.inr (.inl rfl))) (blk_set (HR2.out.blk 4 rfl) 1 _) (But1.set1 gM 1 w1 _))
                        clear hr1 hat1
                        refine hK _ _ ?_
                        clear hK K
                        refine wpAny_take (i := 8) (v := ?_) rfl (by kernel_rfl) (by kernel_rfl) (by kernel_rfl) (fun _ _ _ h => h) (Or.inl ⟨by rfl, ?_⟩) ?_
                        rotate_left
                        · intro w'; go_simp; try with_reducible rfl
                        refine wpAny_ready (rs := [9]) (by kernel_rfl) (by simp) ?_
                        refine AllReady.cons rfl (fun K hK => ?_) ?_
                        · go_simp
                          refine hK _ _ ?_
                          clear hK K
                          refine wpAny_done (by kernel_rfl) ?_ _
                          gi_wp2
                          have hz := HLT.out
                          refine ⟨HR3.out.keeps (fun k hk => by rcases hk with rfl | rfl | hk; exact Th.cells (HS1.out.get 2 rfl) _ rfl; exact Th.cells (HS1.out.get 4 rfl) _ rfl; exact Th.cells (HS1.out.get 3 rfl) k hk), fun k hk => HR3.out.fr.same k ?_ ?_, HR3.out.fr.blk HAT.out HNG.out, ⟨sr, .slice Av nv cv, hsr.out, ?_, ?_⟩⟩
                          · rcases hk with rfl | ⟨_, hk⟩
                            · exact blk_lt (HS1.out.blk 0 rfl)
                            · cases hk; exact blk_lt (HS1.out.blk 5 rfl)
                          · rcases hk with rfl | ⟨_, hk⟩
                            · rintro (e | e | e)
                              · exact HS1.out.apart 0 2 (by decide) rfl rfl _ rfl e
                              · exact HS1.out.apart 0 4 (by decide) rfl rfl _ rfl e
                              · exact HS1.out.apart 0 3 (by decide) rfl rfl _ rfl e
                            · cases hk
                              rintro (e | e | e)
                              · exact HS1.out.apart 5 2 (by decide) rfl rfl _ rfl e
                              · exact HS1.out.apart 5 4 (by decide) rfl rfl _ rfl e
                              · exact HS1.out.apart 5 3 (by decide) rfl rfl _ rfl e
                          · have e1 : trL lp la1 (t + 1) = trL lp la1 t ++ [numGo la1 0 0 sr] := by rw [HSE.out]; simp [trL, trOne, List.range_succ]
                            rw [e1]
                            refine Rx.back HS1.out HR3.out HOO.out (fun T hT k hk => ?_)
                            have hw0 := HS0.out.below.size
                            simp only [List.mem_cons, List.not_mem_nil, or_false] at hT
                            rcases hT with rfl | rfl | rfl | rfl | rfl | rfl | rfl | rfl | rfl
                            · rw [show k = gX from hk]; exact (HS1.out.get 0 rfl).2
                            · rw [show k = gV from hk]; exact (HS1.out.get 1 rfl).2
                            · rw [show k = gQ from hk]; exact (HS1.out.get 2 rfl).2
                            · have := HV1.out k hk; omega
                            · rw [show k = gM from hk]; exact (HS1.out.get 4 rfl).2
                            · rw [show k = gS from hk]; exact (HS1.out.get 5 rfl).2
                            · rw [show k = gR from hk]; exact (HS1.out.get 6 rfl).2
                            · rw [show k = gA from hk]; exact (HS1.out.get 7 rfl).2
                            · rw [show k = gP from hk]; exact (HS1.out.get 8 rfl).2
                          · exact HV1.out
                        exact AllReady.nil
                      exact AllReady.nil
                    exact AllReady.nil
                  exact AllReady.nil
                exact AllReady.nil
              exact AllReady.nil
            refine AllReady.cons rfl (fun K hK => ?_) ?_
            · go_simp
              refine hK _ _ ?_
              clear hK K
              refine wpAny_ready (rs := [1, 4]) (by kernel_rfl) (by simp) ?_
              refine AllReady.cons rfl (fun K hK => ?_) ?_
              · go_simp
                refine hK _ _ ?_
                clear hK K
                refine wpAny_ready (rs := [4]) (by kernel_rfl) (by simp) ?_
                refine AllReady.cons rfl (fun K hK => ?_) ?_
                · go_simp
                  refine hK _ _ ?_
                  clear hK K
                  refine wpAny_ready (rs := [5]) (by kernel_rfl) (by simp) ?_
                  refine AllReady.cons rfl (fun K hK => ?_) ?_
                  · go_simp
                    refine (HN.out _ (below_drew (Below.refl _ _))).mono ?_
                    rintro e w' ⟨rfl, m, rfl⟩
                    have HR1 := Aside0.mk (HR.out.drewN (1 + m))
                    refine hK _ _ ?_
                    clear hK K
                    refine wpAny_ready (rs := [6]) (by kernel_rfl) (by simp) ?_
                    refine AllReady.cons rfl (fun K hK => ?_) ?_
                    · go_simp
                      have xM9 : ((wr.drewN (1 + m)).alloc (.cells #[.int .i64 (numGo la1 0 0 sr)] 3)).cell? ⟨gM, 1, none⟩ = some v := (blk_cell (blk_alloc (HR1.out.blk 4 rfl) _) 1).trans rfl
                      refine hK _ _ ?_
                      clear hK K
                      refine wpAny_ready (rs := [7]) (by kernel_rfl) (by simp) ?_
                      refine AllReady.cons rfl (fun K hK => ?_) ?_
                      · refine HR1.out.append_step 3 rfl (fun k e => .inl (.inr (.inr e))) rfl (.tmp 58) (.tmp 63) rfl Try.underlying22 info3 (numGo la1 0 0 sr) rfl rfl (by have := HTT.out; have := HPR.out; simp [trL]; omega) ?_
                        intro v1 w1 hr1 hat1
                        obtain ⟨Av, cv, hv_⟩ := Kd.R_slice (hr1.row 3 rfl)
                        obtain ⟨nv, hnv⟩ : ∃ n, n = (trL lp la1 t ++ [numGo la1 0 0 sr]).length := ⟨_, rfl⟩
                        rw [← hnv] at hv_
                        subst hv_
                        clear hnv
                        have HR2 : Aside0 (Rx (fun k => k = gQ ∨ k = gM ∨ v.ownBlock = some k) W w1 [.blk gX #[.slice (some ⟨gS, 0, none⟩) lp.length lp.length] 22, .blk gV #[.slice (some ⟨gQ, 0, none⟩) lp.length lp.length] 22, .blk gQ (rowI sr) 3, .row (.slice Av nv cv) (trL lp la1 t ++ [numGo la1 0 0 sr]), .blk gM #[.slice (some ⟨gS, 0, none⟩) lp.length lp.length, v] 70, .blk gS (rowI (trSh lp la1)) 3, .blk gR #[.slice none 0 0, .slice none 0 0] 70, .blk gA #[.bool a, .slice Aa1 la1.length ca1, .slice Aa2 la2.length ca2] 28, .blk gP #[.slice Ap lp.length cp] 22]) := Aside0.mk hr1
                        have HV1 : Aside0 (∀ k, ((.slice Av nv cv) : Value).ownBlock = some k → W0.heap.size + 3 ≤ k) := Aside0.mk (fun k e => by
                          rcases hat1 with h | ⟨b, h, hb⟩
                          · exact HV.out k (h ▸ e)
                          · rw [h] at e; cases e; have h1 : W.heap.size ≤ (wr.drewN (1 + m)).heap.size := HR1.out.fr.size; have := HGE.out; omega)
                        have xM2 : w1.cell? ⟨gM, 1, none⟩ = some v := (blk_cell (HR2.out.blk 4 rfl) 1).trans rfl
                        have fM2 := blk_frozen (HR2.out.blk 4 rfl) 1
                        have HR3 : Aside0 (Rx (fun k => k = gQ ∨ k = gM ∨ v.ownBlock = some k) W (w1.setCell ⟨gM, 1, none⟩ (.slice Av nv cv)) [.blk gX #[.slice (some ⟨gS, 0, none⟩) lp.length lp.length] 22, .blk gV #[.slice (some ⟨gQ, 0, none⟩) lp.length lp.length] 22, .blk gQ (rowI sr) 3, .row (.slice Av nv cv) (trL lp la1 t ++ [numGo la1 0 0 sr]), .blk gM #[.slice (some ⟨gS, 0, none⟩) lp.length lp.length, (.slice Av nv cv)] 70, .blk gS (rowI (trSh lp la1)) 3, .blk gR #[.slice none 0 0, .slice none 0 0] 70, .blk gA #[.bool a, .slice Aa1 la1.length ca1, .slice Aa2 la2.length ca2] 28, .blk gP #[.slice Ap lp.length cp] 22]) := Aside0.mk (HR2.out.put 4 rfl (.inl (.inr (.inl rfl))) (blk_set (HR2.out.blk 4 rfl) 1 _) (But1.set1 gM 1 w1 _))
                        clear hr1 hat1
                        refine hK _ _ ?_
                        clear hK K
                        refine wpAny_take (i := 8) (v := ?_) rfl (by kernel_rfl) (by kernel_rfl) (by kernel_rfl) (fun _ _ _ h => h) (Or.inl ⟨by rfl, ?_⟩) ?_
                        rotate_left
                        · intro w'; go_simp; try with_reducible rfl
                        refine wpAny_ready (rs := [9]) (by kernel_rfl) (by simp) ?_
                        refine AllReady.cons rfl (fun K hK => ?_) ?_
                        · go_simp
                          refine hK _ _ ?_
                          clear hK K
                          refine wpAny_done (by kernel_rfl) ?_ _
                          gi_wp2
                          have hz := HLT.out
                          refine ⟨HR3.out.keeps (fun k hk => by rcases hk with rfl | rfl | hk; exact Th.cells (HS1.out.get 2 rfl) _ rfl; exact Th.cells (HS1.out.get 4 rfl) _ rfl; exact Th.cells (HS1.out.get 3 rfl) k hk), fun k hk => HR3.out.fr.same k ?_ ?_, HR3.out.fr.blk HAT.out HNG.out, ⟨sr, .slice Av nv cv, hsr.out, ?_, ?_⟩⟩
                          · rcases hk with rfl | ⟨_, hk⟩
                            · exact blk_lt (HS1.out.blk 0 rfl)
                            · cases hk; exact blk_lt (HS1.out.blk 5 rfl)
                          · rcases hk with rfl | ⟨_, hk⟩
                            · rintro (e | e | e)
                              · exact HS1.out.apart 0 2 (by decide) rfl rfl _ rfl e
                              · exact HS1.out.apart 0 4 (by decide) rfl rfl _ rfl e
                              · exact HS1.out.apart 0 3 (by decide) rfl rfl _ rfl e
                            · cases hk
                              rintro (e | e | e)
                              · exact HS1.out.apart 5 2 (by decide) rfl rfl _ rfl e
                              · exact HS1.out.apart 5 4 (by decide) rfl rfl _ rfl e
                              · exact HS1.out.apart 5 3 (by decide) rfl rfl _ rfl e
                          · have e1 : trL lp la1 (t + 1) = trL lp la1 t ++ [numGo la1 0 0 sr] := by rw [HSE.out]; simp [trL, trOne, List.range_succ]
                            rw [e1]
                            refine Rx.back HS1.out HR3.out HOO.out (fun T hT k hk => ?_)
                            have hw0 := HS0.out.below.size
                            simp only [List.mem_cons, List.not_mem_nil, or_false] at hT
                            rcases hT with rfl | rfl | rfl | rfl | rfl | rfl | rfl | rfl | rfl
                            · rw [show k = gX from hk]; exact (HS1.out.get 0 rfl).2
                            · rw [show k = gV from hk]; exact (HS1.out.get 1 rfl).2
                            · rw [show k = gQ from hk]; exact (HS1.out.get 2 rfl).2
                            · have := HV1.out k hk; omega
                            · rw [show k = gM from hk]; exact (HS1.out.get 4 rfl).2
                            · rw [show k = gS from hk]; exact (HS1.out.get 5 rfl).2
                            · rw [show k = gR from hk]; exact (HS1.out.get 6 rfl).2
                            · rw [show k = gA from hk]; exact (HS1.out.get 7 rfl).2
                            · rw [show k = gP from hk]; exact (HS1.out.get 8 rfl).2
                          · exact HV1.out
                        exact AllReady.nil
                      exact AllReady.nil
                    exact AllReady.nil
                  exact AllReady.nil
                exact AllReady.nil
              refine AllReady.cons rfl (fun K hK => ?_) ?_
              · go_simp
                refine hK _ _ ?_
                clear hK K
                refine wpAny_ready (rs := [1, 5]) (by kernel_rfl) (by simp) ?_
                refine AllReady.cons rfl (fun K hK => ?_) ?_
                · go_simp
                  refine hK _ _ ?_
                  clear hK K
                  refine wpAny_ready (rs := [5]) (by kernel_rfl) (by simp) ?_
                  refine AllReady.cons rfl (fun K hK => ?_) ?_
                  · go_simp
                    refine (HN.out _ (below_drew (Below.refl _ _))).mono ?_
                    rintro e w' ⟨rfl, m, rfl⟩
                    have HR1 := Aside0.mk (HR.out.drewN (1 + m))
                    refine hK _ _ ?_
                    clear hK K
                    refine wpAny_ready (rs := [6]) (by kernel_rfl) (by simp) ?_
                    refine AllReady.cons rfl (fun K hK => ?_) ?_
                    · go_simp
                      have xM9 : ((wr.drewN (1 + m)).alloc (.cells #[.int .i64 (numGo la1 0 0 sr)] 3)).cell? ⟨gM, 1, none⟩ = some v := (blk_cell (blk_alloc (HR1.out.blk 4 rfl) _) 1).trans rfl
                      refine hK _ _ ?_
                      clear hK K
                      refine wpAny_ready (rs := [7]) (by kernel_rfl) (by simp) ?_
                      refine AllReady.cons rfl (fun K hK => ?_) ?_
                      · refine HR1.out.append_step 3 rfl (fun k e => .inl (.inr (.inr e))) rfl (.tmp 58) (.tmp 63) rfl Try.underlying22 info3 (numGo la1 0 0 sr) rfl rfl (by have := HTT.out; have := HPR.out; simp [trL]; omega) ?_
                        intro v1 w1 hr1 hat1
                        obtain ⟨Av, cv, hv_⟩ := Kd.R_slice (hr1.row 3 rfl)
                        obtain ⟨nv, hnv⟩ : ∃ n, n = (trL lp la1 t ++ [numGo la1 0 0 sr]).length := ⟨_, rfl⟩
                        rw [← hnv] at hv_
                        subst hv_
                        clear hnv
                        have HR2 : Aside0 (Rx (fun k => k = gQ ∨ k = gM ∨ v.ownBlock = some k) W w1 [.blk gX #[.slice (some ⟨gS, 0, none⟩) lp.length lp.length] 22, .blk gV #[.slice (some ⟨gQ, 0, none⟩) lp.length lp.length] 22, .blk gQ (rowI sr) 3, .row (.slice Av nv cv) (trL lp la1 t ++ [numGo la1 0 0 sr]), .blk gM #[.slice (some ⟨gS, 0, none⟩) lp.length lp.length, v] 70, .blk gS (rowI (trSh lp la1)) 3, .blk gR #[.slice none 0 0, .slice none 0 0] 70, .blk gA #[.bool a, .slice Aa1 la1.length ca1, .slice Aa2 la2.length ca2] 28, .blk gP #[.slice Ap lp.length cp] 22]) := Aside0.mk hr1
                        have HV1 : Aside0 (∀ k, ((.slice Av nv cv) : Value).ownBlock = some k → W0.heap.size + 3 ≤ k) := Aside0.mk (fun k e => by
                          rcases hat1 with h | ⟨b, h, hb⟩
                          · exact HV.out k (h ▸ e)
                          · rw [h] at e; cases e; have h1 : W.heap.size ≤ (wr.drewN (1 + m)).heap.size := HR1.out.fr.size; have := HGE.out; omega)
                        have xM2 : w1.cell? ⟨gM, 1, none⟩ = some v := (blk_cell (HR2.out.blk 4 rfl) 1).trans rfl
                        have fM2 := blk_frozen (HR2.out.blk 4 rfl) 1
                        have HR3 : Aside0 (Rx (fun k => k = gQ ∨ k = gM ∨ v.ownBlock = some k) W (w1.setCell ⟨gM, 1, none⟩ (.slice Av nv cv)) [.blk gX #[.slice (some ⟨gS, 0, none⟩) lp.length lp.length] 22, .blk gV #[.slice (some ⟨gQ, 0, none⟩) lp.length lp.length] 22, .blk gQ (rowI sr) 3, .row (.slice Av nv cv) (trL lp la1 t ++ [numGo la1 0 0 sr]), .blk gM #[.slice (some ⟨gS, 0, none⟩) lp.length lp.length, (.slice Av nv cv)] 70, .blk gS (rowI (trSh lp la1)) 3, .blk gR #[.slice none 0 0, .slice none 0 0] 70, .blk gA #[.bool a, .slice Aa1 la1.length ca1, .slice Aa2 la2.length ca2] 28, .blk gP #[.slice Ap lp.length cp] 22]) := Aside0.mk (HR2.out.put 4 rfl (.inl (.inr (.inl rfl))) (blk_set (HR2.out.blk 4 rfl) 1 _) (But1.set1 gM 1 w1 _))
                        clear hr1 hat1
                        refine hK _ _ ?_
                        clear hK K
                        refine wpAny_take (i := 8) (v := ?_) rfl (by kernel_rfl) (by kernel_rfl) (by kernel_rfl) (fun _ _ _ h => h) (Or.inl ⟨by rfl, ?_⟩) ?_
                        rotate_left
                        · intro w'; go_simp; try with_reducible rfl
                        refine wpAny_ready (rs := [9]) (by kernel_rfl) (by simp) ?_
                        refine AllReady.cons rfl (fun K hK => ?_) ?_
                        · go_simp
                          refine hK _ _ ?_
                          clear hK K
                          refine wpAny_done (by kernel_rfl) ?_ _
                          gi_wp2
                          have hz := HLT.out
                          refine ⟨HR3.out.keeps (fun k hk => by rcases hk with rfl | rfl | hk; exact Th.cells (HS1.out.get 2 rfl) _ rfl; exact Th.cells (HS1.out.get 4 rfl) _ rfl; exact Th.cells (HS1.out.get 3 rfl) k hk), fun k hk => HR3.out.fr.same k ?_ ?_, HR3.out.fr.blk HAT.out HNG.out, ⟨sr, .slice Av nv cv, hsr.out, ?_, ?_⟩⟩
                          · rcases hk with rfl | ⟨_, hk⟩
                            · exact blk_lt (HS1.out.blk 0 rfl)
                            · cases hk; exact blk_lt (HS1.out.blk 5 rfl)
                          · rcases hk with rfl | ⟨_, hk⟩
                            · rintro (e | e | e)
                              · exact HS1.out.apart 0 2 (by decide) rfl rfl _ rfl e
                              · exact HS1.out.apart 0 4 (by decide) rfl rfl _ rfl e
                              · exact HS1.out.apart 0 3 (by decide) rfl rfl _ rfl e
                            · cases hk
                              rintro (e | e | e)
                              · exact HS1.out.apart 5 2 (by decide) rfl rfl _ rfl e
                              · exact HS1.out.apart 5 4 (by decide) rfl rfl _ rfl e
                              · exact HS1.out.apart 5 3 (by decide) rfl rfl _ rfl e
                          · have e1 : trL lp la1 (t + 1) = trL lp la1 t ++ [numGo la1 0 0 sr] := by rw [HSE.out]; simp [trL, trOne, List.range_succ]
                            rw [e1]
                            refine Rx.back HS1.out HR3.out HOO.out (fun T hT k hk => ?_)
                            have hw0 := HS0.out.below.size
                            simp only [List.mem_cons, List.not_mem_nil, or_false] at hT
                            rcases hT with rfl | rfl | rfl | rfl | rfl | rfl | rfl | rfl | rfl
                            · rw [show k = gX from hk]; exact (HS1.out.get 0 rfl).2
                            · rw [show k = gV from hk]; exact (HS1.out.get 1 rfl).2
                            · rw [show k = gQ from hk]; exact (HS1.out.get 2 rfl).2
                            · have := HV1.out k hk; omega
                            · rw [show k = gM from hk]; exact (HS1.out.get 4 rfl).2
                            · rw [show k = gS from hk]; exact (HS1.out.get 5 rfl).2
                            · rw [show k = gR from hk]; exact (HS1.out.get 6 rfl).2
                            · rw [show k = gA from hk]; exact (HS1.out.get 7 rfl).2
                            · rw [show k = gP from hk]; exact (HS1.out.get 8 rfl).2
                          · exact HV1.out
                        exact AllReady.nil
                      exact AllReady.nil
                    exact AllReady.nil
                  exact AllReady.nil
                refine AllReady.cons rfl (fun K hK => ?_) ?_
                · go_simp
                  refine (HN.out _ (below_drew (Below.refl _ _))).mono ?_
                  rintro e w' ⟨rfl, m, rfl⟩
                  have HR1 := Aside0.mk (HR.out.drewN (1 + m))
                  refine hK _ _ ?_
                  clear hK K
                  refine wpAny_ready (rs := [1, 6]) (by kernel_rfl) (by simp) ?_
                  refine AllReady.cons rfl (fun K hK => ?_) ?_
                  · go_simp
                    refine hK _ _ ?_
                    clear hK K
                    refine wpAny_ready (rs := [6]) (by kernel_rfl) (by simp) ?_
                    refine AllReady.cons rfl (fun K hK => ?_) ?_
                    · go_simp
                      have xM9 : ((wr.drewN (1 + m)).alloc (.cells #[.int .i64 (numGo la1 0 0 sr)] 3)).cell? ⟨gM, 1, none⟩ = some v := (blk_cell (blk_alloc (HR1.out.blk 4 rfl) _) 1).trans rfl
                      refine hK _ _ ?_
                      clear hK K
                      refine wpAny_ready (rs := [7]) (by kernel_rfl) (by simp) ?_
                      refine AllReady.cons rfl (fun K hK => ?_) ?_
                      · refine HR1.out.append_step 3 rfl (fun k e => .inl (.inr (.inr e))) rfl (.tmp 58) (.tmp 63) rfl Try.underlying22 info3 (numGo la1 0 0 sr) rfl rfl (by have := HTT.out; have := HPR.out; simp [trL]; omega) ?_
                        intro v1 w1 hr1 hat1
                        obtain ⟨Av, cv, hv_⟩ := Kd.R_slice (hr1.row 3 rfl)
                        obtain ⟨nv, hnv⟩ : ∃ n, n = (trL lp la1 t ++ [numGo la1 0 0 sr]).length := ⟨_, rfl⟩
                        rw [← hnv] at hv_
                        subst hv_
                        clear hnv
                        have HR2 : Aside0 (Rx (fun k => k = gQ ∨ k = gM ∨ v.ownBlock = some k) W w1 [.blk gX #[.slice (some ⟨gS, 0, none⟩) lp.length lp.length] 22, .blk gV #[.slice (some ⟨gQ, 0, none⟩) lp.length lp.length] 22, .blk gQ (rowI sr) 3, .row (.slice Av nv cv) (trL lp la1 t ++ [numGo la1 0 0 sr]), .blk gM #[.slice (some ⟨gS, 0, none⟩) lp.length lp.length, v] 70, .blk gS (rowI (trSh lp la1)) 3, .blk gR #[.slice none 0 0, .slice none 0 0] 70, .blk gA #[.bool a, .slice Aa1 la1.length ca1, .slice Aa2 la2.length ca2] 28, .blk gP #[.slice Ap lp.length cp] 22]) := Aside0.mk hr1
                        have HV1 : Aside0 (∀ k, ((.slice Av nv cv) : Value).ownBlock = some k → W0.heap.size + 3 ≤ k) := Aside0.mk (fun k e => by
                          rcases hat1 with h | ⟨b, h, hb⟩
                          · exact HV.out k (h ▸ e)
                          · rw [h] at e; cases e; have h1 : W.heap.size ≤ (wr.drewN (1 + m)).heap.size := HR1.out.fr.size; have := HGE.out; omega)
                        have xM2 : w1.cell? ⟨gM, 1, none⟩ = some v := (blk_cell (HR2.out.blk 4 rfl) 1).trans rfl
                        have fM2 := blk_frozen (HR2.out.blk 4 rfl) 1
                        have HR3 : Aside0 (Rx (fun k => k = gQ ∨ k = gM ∨ v.ownBlock = some k) W (w1.setCell ⟨gM, 1, none⟩ (.slice Av nv cv)) [.blk gX #[.slice (some ⟨gS, 0, none⟩) lp.length lp.length] 22, .blk gV #[.slice (some ⟨gQ, 0, none⟩) lp.length lp.length] 22, .blk gQ (rowI sr) 3, .row (.slice Av nv cv) (trL lp la1 t ++ [numGo la1 0 0 sr]), .blk gM #[.slice (some ⟨gS, 0, none⟩) lp.length lp.length, (.slice Av nv cv)] 70, .blk gS (rowI (trSh lp la1)) 3, .blk gR #[.slice none 0 0, .slice none 0 0] 70, .blk gA #[.bool a, .slice Aa1 la1.length ca1, .slice Aa2 la2.length ca2] 28, .blk gP #[.slice Ap lp.length cp] 22]) := Aside0.mk (HR2.out.put 4 rfl (.inl (.inr (.inl rfl))) (blk_set (HR2.out.blk 4 rfl) 1 _) (But1.set1 gM 1 w1 _))
                        clear hr1 hat1
                        refine hK _ _ ?_
                        clear hK K
                        refine wpAny_take (i := 8) (v := ?_) rfl (by kernel_rfl) (by kernel_rfl) (by kernel_rfl) (fun _ _ _ h => h) (Or.inl ⟨by rfl, ?_⟩) ?_
                        rotate_left
                        · intro w'; go_simp; try with_reducible rfl
                        refine wpAny_ready (rs := [9]) (by kernel_rfl) (by simp) ?_
                        refine AllReady.cons rfl (fun K hK => ?_) ?_
                        · go_simp
                          refine hK _ _ ?_
                          clear hK K
                          refine wpAny_done (by kernel_rfl) ?_ _
                          gi_wp2
                          have hz := HLT.out
                          refine ⟨HR3.out.keeps (fun k hk => by rcases hk with rfl | rfl | hk; exact Th.cells (HS1.out.get 2 rfl) _ rfl; exact Th.cells (HS1.out.get 4 rfl) _ rfl; exact Th.cells (HS1.out.get 3 rfl) k hk), fun k hk => HR3.out.fr.same k ?_ ?_, HR3.out.fr.blk HAT.out HNG.out, ⟨sr, .slice Av nv cv, hsr.out, ?_, ?_⟩⟩
                          · rcases hk with rfl | ⟨_, hk⟩
                            · exact blk_lt (HS1.out.blk 0 rfl)
                            · cases hk; exact blk_lt (HS1.out.blk 5 rfl)
                          · rcases hk with rfl | ⟨_, hk⟩
                            · rintro (e | e | e)
                              · exact HS1.out.apart 0 2 (by decide) rfl rfl _ rfl e
                              · exact HS1.out.apart 0 4 (by decide) rfl rfl _ rfl e
                              · exact HS1.out.apart 0 3 (by decide) rfl rfl _ rfl e
                            · cases hk
                              rintro (e | e | e)
                              · exact HS1.out.apart 5 2 (by decide) rfl rfl _ rfl e
                              · exact HS1.out.apart 5 4 (by decide) rfl rfl _ rfl e
                              · exact HS1.out.apart 5 3 (by decide) rfl rfl _ rfl e
                          · have e1 : trL lp la1 (t + 1) = trL lp la1 t ++ [numGo la1 0 0 sr] := by rw [HSE.out]; simp [trL, trOne, List.range_succ]
                            rw [e1]
                            refine Rx.back HS1.out HR3.out HOO.out (fun T hT k hk => ?_)
                            have hw0 := HS0.out.below.size
                            simp only [List.mem_cons, List.not_mem_nil, or_false] at hT
                            rcases hT with rfl | rfl | rfl | rfl | rfl | rfl | rfl | rfl | rfl
                            · rw [show k = gX from hk]; exact (HS1.out.get 0 rfl).2
                            · rw [show k = gV from hk]; exact (HS1.out.get 1 rfl).2
                            · rw [show k = gQ from hk]; exact (HS1.out.get 2 rfl).2
                            · have := HV1.out k hk; omega
                            · rw [show k = gM from hk]; exact (HS1.out.get 4 rfl).2
                            · rw [show k = gS from hk]; exact (HS1.out.get 5 rfl).2
                            · rw [show k = gR from hk]; exact (HS1.out.get 6 rfl).2
                            · rw [show k = gA from hk]; exact (HS1.out.get 7 rfl).2
                            · rw [show k = gP from hk]; exact (HS1.out.get 8 rfl).2
                          · exact HV1.out
                        exact AllReady.nil
                      exact AllReady.nil
                    exact AllReady.nil
                  refine AllReady.cons rfl (fun K hK => ?_) ?_
                  · go_simp
                    have xM9 : ((wr.drewN (1 + m)).alloc (.cells #[.int .i64 (numGo la1 0 0 sr)] 3)).cell? ⟨gM, 1, none⟩ = some v := (blk_cell (blk_alloc (HR1.out.blk 4 rfl) _) 1).trans rfl
                    refine hK _ _ ?_
                    clear hK K
                    refine wpAny_ready (rs := [1]) (by kernel_rfl) (by simp) ?_
                    refine AllReady.cons rfl (fun K hK => ?_) ?_
                    · go_simp
                      refine hK _ _ ?_
                      clear hK K
                      refine wpAny_ready (rs := [7]) (by kernel_rfl) (by simp) ?_
                      refine AllReady.cons rfl (fun K hK => ?_) ?_
                      · refine HR1.out.append_step 3 rfl (fun k e => .inl (.inr (.inr e))) rfl (.tmp 58) (.tmp 63) rfl Try.underlying22 info3 (numGo la1 0 0 sr) rfl rfl (by have := HTT.out; have := HPR.out; simp [trL]; omega) ?_
                        intro v1 w1 hr1 hat1
                        obtain ⟨Av, cv, hv_⟩ := Kd.R_slice (hr1.row 3 rfl)
                        obtain ⟨nv, hnv⟩ : ∃ n, n = (trL lp la1 t ++ [numGo la1 0 0 sr]).length := ⟨_, rfl⟩
                        rw [← hnv] at hv_
                        subst hv_
                        clear hnv
                        have HR2 : Aside0 (Rx (fun k => k = gQ ∨ k = gM ∨ v.ownBlock = some k) W w1 [.blk gX #[.slice (some ⟨gS, 0, none⟩) lp.length lp.length] 22, .blk gV #[.slice (some ⟨gQ, 0, none⟩) lp.length lp.length] 22, .blk gQ (rowI sr) 3, .row (.slice Av nv cv) (trL lp la1 t ++ [numGo la1 0 0 sr]), .blk gM #[.slice (some ⟨gS, 0, none⟩) lp.length lp.length, v] 70, .blk gS (rowI (trSh lp la1)) 3, .blk gR #[.slice none 0 0, .slice none 0 0] 70, .blk gA #[.bool a, .slice Aa1 la1.length ca1, .slice Aa2 la2.length ca2] 28, .blk gP #[.slice Ap lp.length cp] 22]) := Aside0.mk hr1
                        have HV1 : Aside0 (∀ k, ((.slice Av nv cv) : Value).ownBlock = some k → W0.heap.size + 3 ≤ k) := Aside0.mk (fun k e => by
                          rcases hat1 with h | ⟨b, h, hb⟩
                          · exact HV.out k (h ▸ e)
                          · rw [h] at e; cases e; have h1 : W.heap.size ≤ (wr.drewN (1 + m)).heap.size := HR1.out.fr.size; have := HGE.out; omega)
                        have xM2 : w1.cell? ⟨gM, 1, none⟩ = some v := (blk_cell (HR2.out.blk 4 rfl) 1).trans rfl
                        have fM2 := blk_frozen (HR2.out.blk 4 rfl) 1
                        have HR3 : Aside0 (Rx (fun k => k = gQ ∨ k = gM ∨ v.ownBlock = some k) W (w1.setCell ⟨gM, 1, none⟩ (.slice Av nv cv)) [.blk gX #[.slice (some ⟨gS, 0, none⟩) lp.length lp.length] 22, .blk gV #[.slice (some ⟨gQ, 0, none⟩) lp.length lp.length] 22, .blk gQ (rowI sr) 3, .row (.slice Av nv cv) (trL lp la1 t ++ [numGo la1 0 0 sr]), .blk gM #[.slice (some ⟨gS, 0, none⟩) lp.length lp.length, (.slice Av nv cv)] 70, .blk gS (rowI (trSh lp la1)) 3, .blk gR #[.slice none 0 0, .slice none 0 0] 70, .blk gA #[.bool a, .slice Aa1 la1.length ca1, .slice Aa2 la2.length ca2] 28, .blk gP #[.slice Ap lp.length cp] 22]) := Aside0.mk (HR2.out.put 4 rfl (.inl (.inr (.inl rfl))) (blk_set (HR2.out.blk 4 rfl) 1 _) (But1.set1 gM 1 w1 _))
                        clear hr1 hat1
                        refine hK _ _ ?_
                        clear hK K
                        refine wpAny_take (i := 8) (v := ?_) rfl (by kernel_rfl) (by kernel_rfl) (by kernel_rfl) (fun _ _ _ h => h) (Or.inl ⟨by rfl, ?_⟩) ?_
                        rotate_left
                        · intro w'; go_simp; try with_reducible rfl
                        refine wpAny_ready (rs := [9]) (by kernel_rfl) (by simp) ?_
                        refine AllReady.cons rfl (fun K hK => ?_) ?_
                        · go_simp
                          refine hK _ _ ?_
                          clear hK K
                          refine wpAny_done (by kernel_rfl) ?_ _
                          gi_wp2
                          have hz := HLT.out
                          refine ⟨HR3.out.keeps (fun k hk => by rcases hk with rfl | rfl | hk; exact Th.cells (HS1.out.get 2 rfl) _ rfl; exact Th.cells (HS1.out.get 4 rfl) _ rfl; exact Th.cells (HS1.out.get 3 rfl) k hk), fun k hk => HR3.out.fr.same k ?_ ?_, HR3.out.fr.blk HAT.out HNG.out, ⟨sr, .slice Av nv cv, hsr.out, ?_, ?_⟩⟩
                          · rcases hk with rfl | ⟨_, hk⟩
                            · exact blk_lt (HS1.out.blk 0 rfl)
                            · cases hk; exact blk_lt (HS1.out.blk 5 rfl)
                          · rcases hk with rfl | ⟨_, hk⟩
                            · rintro (e | e | e)
                              · exact HS1.out.apart 0 2 (by decide) rfl rfl _ rfl e
                              · exact HS1.out.apart 0 4 (by decide) rfl rfl _ rfl e
                              · exact HS1.out.apart 0 3 (by decide) rfl rfl _ rfl e
                            · cases hk
                              rintro (e | e | e)
                              · exact HS1.out.apart 5 2 (by decide) rfl rfl _ rfl e
                              · exact HS1.out.apart 5 4 (by decide) rfl rfl _ rfl e
                              · exact HS1.out.apart 5 3 (by decide) rfl rfl _ rfl e
                          · have e1 : trL lp la1 (t + 1) = trL lp la1 t ++ [numGo la1 0 0 sr] := by rw [HSE.out]; simp [trL, trOne, List.range_succ]
                            rw [e1]
                            refine Rx.back HS1.out HR3.out HOO.out (fun T hT k hk => ?_)
                            have hw0 := HS0.out.below.size
                            simp only [List.mem_cons, List.not_mem_nil, or_false] at hT
                            rcases hT with rfl | rfl | rfl | rfl | rfl | rfl | rfl | rfl | rfl
                            · rw [show k = gX from hk]; exact (HS1.out.get 0 rfl).2
                            · rw [show k = gV from hk]; exact (HS1.out.get 1 rfl).2
                            · rw [show k = gQ from hk]; exact (HS1.out.get 2 rfl).2
                            · have := HV1.out k hk; omega
                            · rw [show k = gM from hk]; exact (HS1.out.get 4 rfl).2
                            · rw [show k = gS from hk]; exact (HS1.out.get 5 rfl).2
                            · rw [show k = gR from hk]; exact (HS1.out.get 6 rfl).2
                            · rw [show k = gA from hk]; exact (HS1.out.get 7 rfl).2
                            · rw [show k = gP from hk]; exact (HS1.out.get 8 rfl).2
                          · exact HV1.out
                        exact AllReady.nil
                      exact AllReady.nil
                    exact AllReady.nil
                  exact AllReady.nil
                exact AllReady.nil
              exact AllReady.nil
            refine AllReady.cons rfl (fun K hK => ?_) ?_
            · go_simp
              refine hK _ _ ?_
              clear hK K
              refine wpAny_ready (rs := [1, 3]) (by kernel_rfl) (by simp) ?_
              refine AllReady.cons rfl (fun K hK => ?_) ?_
              · go_simp
                refine hK _ _ ?_
                clear hK K
                refine wpAny_ready (rs := [3]) (by kernel_rfl) (by simp) ?_
                refine AllReady.cons rfl (fun K hK => ?_) ?_
                · go_simp
                  refine hK _ _ ?_
                  clear hK K
                  refine wpAny_ready (rs := [5]) (by kernel_rfl) (by simp) ?_
                  refine AllReady.cons rfl (fun K hK => ?_) ?_
                  · go_simp
                    refine (HN.out _ (below_drew (Below.refl _ _))).mono ?_
                    rintro e w' ⟨rfl, m, rfl⟩
                    have HR1 := Aside0.mk (HR.out.drewN (1 + m))
                    refine hK _ _ ?_
                    clear hK K
                    refine wpAny_ready (rs := [6]) (by kernel_rfl) (by simp) ?_
                    refine AllReady.cons rfl (fun K hK => ?_) ?_
                    · go_simp
                      have xM9 : ((wr.drewN (1 + m)).alloc (.cells #[.int .i64 (numGo la1 0 0 sr)] 3)).cell? ⟨gM, 1, none⟩ = some v := (blk_cell (blk_alloc (HR1.out.blk 4 rfl) _) 1).trans rfl
                      refine hK _ _ ?_
                      clear hK K
                      refine wpAny_ready (rs := [7]) (by kernel_rfl) (by simp) ?_
                      refine AllReady.cons rfl (fun K hK => ?_) ?_
                      · refine HR1.out.append_step 3 rfl (fun k e => .inl (.inr (.inr e))) rfl (.tmp 58) (.tmp 63) rfl Try.underlying22 info3 (numGo la1 0 0 sr) rfl rfl (by have := HTT.out; have := HPR.out; simp [trL]; omega) ?_
                        intro v1 w1 hr1 hat1
                        obtain ⟨Av, cv, hv_⟩ := Kd.R_slice (hr1.row 3 rfl)
                        obtain ⟨nv, hnv⟩ : ∃ n, n = (trL lp la1 t ++ [numGo la1 0 0 sr]).length := ⟨_, rfl⟩
                        rw [← hnv] at hv_
                        subst hv_
                        clear hnv
                        have HR2 : Aside0 (Rx (fun k => k = gQ ∨ k = gM ∨ v.ownBlock = some k) W w1 [.blk gX #[.slice (some ⟨gS, 0, none⟩) lp.length lp.length] 22, .blk gV #[.slice (some ⟨gQ, 0, none⟩) lp.length lp.length] 22, .blk gQ (rowI sr) 3, .row (.slice Av nv cv) (trL lp la1 t ++ [numGo la1 0 0 sr]), .blk gM #[.slice (some ⟨gS, 0, none⟩) lp.length lp.length, v] 70, .blk gS (rowI (trSh lp la1)) 3, .blk gR #[.slice none 0 0, .slice none 0 0] 70, .blk gA #[.bool a, .slice Aa1 la1.length ca1, .slice Aa2 la2.length ca2] 28, .blk gP #[.slice Ap lp.length cp] 22]) := Aside0.mk hr1
                        have HV1 : Aside0 (∀ k, ((.slice Av nv cv) : Value).ownBlock = some k → W0.heap.size + 3 ≤ k) := Aside0.mk (fun k e => by
                          rcases hat1 with h | ⟨b, h, hb⟩
                          · exact HV.out k (h ▸ e)
                          · rw [h] at e; cases e; have h1 : W.heap.size ≤ (wr.drewN (1 + m)).heap.size := HR1.out.fr.size; have := HGE.out; omega)
                        have xM2 : w1.cell? ⟨gM, 1, none⟩ = some v := (blk_cell (HR2.out.blk 4 rfl) 1).trans rfl
                        have fM2 := blk_frozen (HR2.out.blk 4 rfl) 1
                        have HR3 : Aside0 (Rx (fun k => k = gQ ∨ k = gM ∨ v.ownBlock = some k) W (w1.setCell ⟨gM, 1, none⟩ (.slice Av nv cv)) [.blk gX #[.slice (some ⟨gS, 0, none⟩) lp.length lp.length] 22, .blk gV #[.slice (some ⟨gQ, 0, none⟩) lp.length lp.length] 22, .blk gQ (rowI sr) 3, .row (.slice Av nv cv) (trL lp la1 t ++ [numGo la1 0 0 sr]), .blk gM #[.slice (some ⟨gS, 0, none⟩) lp.length lp.length, (.slice Av nv cv)] 70, .blk gS (rowI (trSh lp la1)) 3, .blk gR #[.slice none 0 0, .slice none 0 0] 70, .blk gA #[.bool a, .slice Aa1 la1.length ca1, .slice Aa2 la2.length ca2] 28, .blk gP #[.slice Ap lp.length cp] 22]) := Aside0.mk (HR2.out.put 4 rfl (.inl (.inr (.inl rfl))) (blk_set (HR2.out.blk 4 rfl) 1 _) (But1.set1 gM 1 w1 _))
                        clear hr1 hat1
                        refine hK _ _ ?_
                        clear hK K
                        refine wpAny_take (i := 8) (v := ?_) rfl (by kernel_rfl) (by kernel_rfl) (by kernel_rfl) (fun _ _ _ h => h) (Or.inl ⟨by rfl, ?_⟩) ?_
                        rotate_left
                        · intro w'; go_simp; try with_reducible rfl
                        refine wpAny_ready (rs := [9]) (by kernel_rfl) (by simp) ?_
                        refine AllReady.cons rfl (fun K hK => ?_) ?_
                        · go_simp
                          refine hK _ _ ?_
                          clear hK K
                          refine wpAny_done (by kernel_rfl) ?_ _
                          gi_wp2
                          have hz := HLT.out
                          refine ⟨HR3.out.keeps (fun k hk => by rcases hk with rfl | rfl | hk; exact Th.cells (HS1.out.get 2 rfl) _ rfl; exact Th.cells (HS1.out.get 4 rfl) _ rfl; exact Th.cells (HS1.out.get 3 rfl) k hk), fun k hk => HR3.out.fr.same k ?_ ?_, HR3.out.fr.blk HAT.out HNG.out, ⟨sr, .slice Av nv cv, hsr.out, ?_, ?_⟩⟩
                          · rcases hk with rfl | ⟨_, hk⟩
                            · exact blk_lt (HS1.out.blk 0 rfl)
                            · cases hk; exact blk_lt (HS1.out.blk 5 rfl)
                          · rcases hk with rfl | ⟨_, hk⟩
                            · rintro (e | e | e)
                              · exact HS1.out.apart 0 2 (by decide) rfl rfl _ rfl e
                              · exact HS1.out.apart 0 4 (by decide) rfl rfl _ rfl e
                              · exact HS1.out.apart 0 3 (by decide) rfl rfl _ rfl e
                            · cases hk
                              rintro (e | e | e)
                              · exact HS1.out.apart 5 2 (by decide) rfl rfl _ rfl e
                              · exact HS1.out.apart 5 4 (by decide) rfl rfl _ rfl e
                              · exact HS1.out.apart 5 3 (by decide) rfl rfl _ rfl e
                          · have e1 : trL lp la1 (t + 1) = trL lp la1 t ++ [numGo la1 0 0 sr] := by rw [HSE.out]; simp [trL, trOne, List.range_succ]
                            rw [e1]
                            refine Rx.back HS1.out HR3.out HOO.out (fun T hT k hk => ?_)
                            have hw0 := HS0.out.below.size
                            simp only [List.mem_cons, List.not_mem_nil, or_false] at hT
                            rcases hT with rfl | rfl | rfl | rfl | rfl | rfl | rfl | rfl | rfl
                            · rw [show k = gX from hk]; exact (HS1.out.get 0 rfl).2
                            · rw [show k = gV from hk]; exact (HS1.out.get 1 rfl).2
                            · rw [show k = gQ from hk]; exact (HS1.out.get 2 rfl).2
                            · have := HV1.out k hk; omega
                            · rw [show k = gM from hk]; exact (HS1.out.get 4 rfl).2
                            · rw [show k = gS from hk]; exact (HS1.out.get 5 rfl).2
                            · rw [show k = gR from hk]; exact (HS1.out.get 6 rfl).2
                            · rw [show k = gA from hk]; exact (HS1.out.get 7 rfl).2
                            · rw [show k = gP from hk]; exact (HS1.out.get 8 rfl).2
                          · exact HV1.out
                        exact AllReady.nil
                      exact AllReady.nil
                    exact AllReady.nil
                  exact AllReady.nil
                exact AllReady.nil
              refine AllReady.cons rfl (fun K hK => ?_) ?_
              · go_simp
                refine hK _ _ ?_
                clear hK K
                refine wpAny_ready (rs := [1, 5]) (by kernel_rfl) (by simp) ?_
                refine AllReady.cons rfl (fun K hK => ?_) ?_
                · go_simp
                  refine hK _ _ ?_
                  clear hK K
                  refine wpAny_ready (rs := [5]) (by kernel_rfl) (by simp) ?_
                  refine AllReady.cons rfl (fun K hK => ?_) ?_
                  · go_simp
                    refine (HN.out _ (below_drew (Below.refl _ _))).mono ?_
                    rintro e w' ⟨rfl, m, rfl⟩
                    have HR1 := Aside0.mk (HR.out.drewN (1 + m))
                    refine hK _ _ ?_
                    clear hK K
                    refine wpAny_ready (rs := [6]) (by kernel_rfl) (by simp) ?_
                    refine AllReady.cons rfl (fun K hK => ?_) ?_
                    · go_simp
                      have xM9 : ((wr.drewN (1 + m)).alloc (.cells #[.int .i64 (numGo la1 0 0 sr)] 3)).cell? ⟨gM, 1, none⟩ = some v := (blk_cell (blk_alloc (HR1.out.blk 4 rfl) _) 1).trans rfl
                      refine hK _ _ ?_
                      clear hK K
                      refine wpAny_ready (rs := [7]) (by kernel_rfl) (by simp) ?_
                      refine AllReady.cons rfl (fun K hK => ?_) ?_
                      · refine HR1.out.append_step 3 rfl (fun k e => .inl (.inr (.inr e))) rfl (.tmp 58) (.tmp 63) rfl Try.underlying22 info3 (numGo la1 0 0 sr) rfl rfl (by have := HTT.out; have := HPR.out; simp [trL]; omega) ?_
                        intro v1 w1 hr1 hat1
                        obtain ⟨Av, cv, hv_⟩ := Kd.R_slice (hr1.row 3 rfl)
                        obtain ⟨nv, hnv⟩ : ∃ n, n = (trL lp la1 t ++ [numGo la1 0 0 sr]).length := ⟨_, rfl⟩
                        rw [← hnv] at hv_
                        subst hv_
                        clear hnv
                        have HR2 : Aside0 (Rx (fun k => k = gQ ∨ k = gM ∨ v.ownBlock = some k) W w1 [.blk gX #[.slice (some ⟨gS, 0, none⟩) lp.length lp.length] 22, .blk gV #[.slice (some ⟨gQ, 0, none⟩) lp.length lp.length] 22, .blk gQ (rowI sr) 3, .row (.slice Av nv cv) (trL lp la1 t ++ [numGo la1 0 0 sr]), .blk gM #[.slice (some ⟨gS, 0, none⟩) lp.length lp.length, v] 70, .blk gS (rowI (trSh lp la1)) 3, .blk gR #[.slice none 0 0, .slice none 0 0] 70, .blk gA #[.bool a, .slice Aa1 la1.length ca1, .slice Aa2 la2.length ca2] 28, .blk gP #[.slice Ap lp.length cp] 22]) := Aside0.mk hr1
                        have HV1 : Aside0 (∀ k, ((.slice Av nv cv) : Value).ownBlock = some k → W0.heap.size + 3 ≤ k) := Aside0.mk (fun k e => by
                          rcases hat1 with h | ⟨b, h, hb⟩
                          · exact HV.out k (h ▸ e)
                          · rw [h] at e; cases e; have h1 : W.heap.size ≤ (wr.drewN (1 + m)).heap.size := HR1.out.fr.size; have := HGE.out; omega)
                        have xM2 : w1.cell? ⟨gM, 1, none⟩ = some v := (blk_cell (HR2.out.blk 4 rfl) 1).trans rfl
                        have fM2 := blk_frozen (HR2.out.blk 4 rfl) 1
                        have HR3 : Aside0 (Rx (fun k => k = gQ ∨ k = gM ∨ v.ownBlock = some k) W (w1.setCell ⟨gM, 1, none⟩ (.slice Av nv cv)) [.blk gX #[.slice (some ⟨gS, 0, none⟩) lp.length lp.length] 22, .blk gV #[.slice (some ⟨gQ, 0, none⟩) lp.length lp.length] 22, .blk gQ (rowI sr) 3, .row (.slice Av nv cv) (trL lp la1 t ++ [numGo la1 0 0 sr]), .blk gM #[.slice (some ⟨gS, 0, none⟩) lp.length lp.length, (.slice Av nv cv)] 70, .blk gS (rowI (trSh lp la1)) 3, .blk gR #[.slice none 0 0, .slice none 0 0] 70, .blk gA #[.bool a, .slice Aa1 la1.length ca1, .slice Aa2 la2.length ca2] 28, .blk gP #[.slice Ap lp.length cp] 22]) := Aside0.mk (HR2.out.put 4 rfl (.inl (.inr (.inl rfl))) (blk_set (HR2.out.blk 4 rfl) 1 _) (But1.set1 gM 1 w1 _))
                        clear hr1 hat1
                        refine hK _ _ ?_
                        clear hK K
                        refine wpAny_take (i := 8) (v := ?_) rfl (by kernel_rfl) (by kernel_rfl) (by kernel_rfl) (fun _ _ _ h => h) (Or.inl ⟨by rfl, ?_⟩) ?_
                        rotate_left
                        · intro w'; go_simp; try with_reducible rfl
                        refine wpAny_ready (rs := [9]) (by kernel_rfl) (by simp) ?_
                        refine AllReady.cons rfl (fun K hK => ?_) ?_
                        · go_simp
                          refine hK _ _ ?_
                          clear hK K
                          refine wpAny_done (by kernel_rfl) ?_ _
                          gi_wp2
                          have hz := HLT.out
                          refine ⟨HR3.out.keeps (fun k hk => by rcases hk with rfl | rfl | hk; exact Th.cells (HS1.out.get 2 rfl) _ rfl; exact Th.cells (HS1.out.get 4 rfl) _ rfl; exact Th.cells (HS1.out.get 3 rfl) k hk), fun k hk => HR3.out.fr.same k ?_ ?_, HR3.out.fr.blk HAT.out HNG.out, ⟨sr, .slice Av nv cv, hsr.out, ?_, ?_⟩⟩
                          · rcases hk with rfl | ⟨_, hk⟩
                            · exact blk_lt (HS1.out.blk 0 rfl)
                            · cases hk; exact blk_lt (HS1.out.blk 5 rfl)
                          · rcases hk with rfl | ⟨_, hk⟩
                            · rintro (e | e | e)
                              · exact HS1.out.apart 0 2 (by decide) rfl rfl _ rfl e
                              · exact HS1.out.apart 0 4 (by decide) rfl rfl _ rfl e
                              · exact HS1.out.apart 0 3 (by decide) rfl rfl _ rfl e
                            · cases hk
                              rintro (e | e | e)
                              · exact HS1.out.apart 5 2 (by decide) rfl rfl _ rfl e
                              · exact HS1.out.apart 5 4 (by decide) rfl rfl _ rfl e
                              · exact HS1.out.apart 5 3 (by decide) rfl rfl _ rfl e
                          · have e1 : trL lp la1 (t + 1) = trL lp la1 t ++ [numGo la1 0 0 sr] := by rw [HSE.out]; simp [trL, trOne, List.range_succ]
                            rw [e1]
                            refine Rx.back HS1.out HR3.out HOO.out (fun T hT k hk => ?_)
                            have hw0 := HS0.out.below.size
                            simp only [List.mem_cons, List.not_mem_nil, or_false] at hT
                            rcases hT with rfl | rfl | rfl | rfl | rfl | rfl | rfl | rfl | rfl
                            · rw [show k = gX from hk]; exact (HS1.out.get 0 rfl).2
                            · rw [show k = gV from hk]; exact (HS1.out.get 1 rfl).2
                            · rw [show k = gQ from hk]; exact (HS1.out.get 2 rfl).2
                            · have := HV1.out k hk; omega
                            · rw [show k = gM from hk]; exact (HS1.out.get 4 rfl).2
                            · rw [show k = gS from hk]; exact (HS1.out.get 5 rfl).2
                            · rw [show k = gR from hk]; exact (HS1.out.get 6 rfl).2
                            · rw [show k = gA from hk]; exact (HS1.out.get 7 rfl).2
                            · rw [show k = gP from hk]; exact (HS1.out.get 8 rfl).2
                          · exact HV1.out
                        exact AllReady.nil
                      exact AllReady.nil
                    exact AllReady.nil
                  exact AllReady.nil
                refine AllReady.cons rfl (fun K hK => ?_) ?_
                · go_simp
                  refine (HN.out _ (below_drew (Below.refl _ _))).mono ?_
                  rintro e w' ⟨rfl, m, rfl⟩
                  have HR1 := Aside0.mk (HR.out.drewN (1 + m))
                  refine hK _ _ ?_
                  clear hK K
                  refine wpAny_ready (rs := [1, 6]) (by kernel_rfl) (by simp) ?_
                  refine AllReady.cons rfl (fun K hK => ?_) ?_
                  · go_simp
                    refine hK _ _ ?_
                    clear hK K
                    refine wpAny_ready (rs := [6]) (by kernel_rfl) (by simp) ?_
                    refine AllReady.cons rfl (fun K hK => ?_) ?_
                    · go_simp
                      have xM9 : ((wr.drewN (1 + m)).alloc (.cells #[.int .i64 (numGo la1 0 0 sr)] 3)).cell? ⟨gM, 1, none⟩ = some v := (blk_cell (blk_alloc (HR1.out.blk 4 rfl) _) 1).trans rfl
                      refine hK _ _ ?_
                      clear hK K
                      refine wpAny_ready (rs := [7]) (by kernel_rfl) (by simp) ?_
                      refine AllReady.cons rfl (fun K hK => ?_) ?_
                      · refine HR1.out.append_step 3 rfl (fun k e => .inl (.inr (.inr e))) rfl (.tmp 58) (.tmp 63) rfl Try.underlying22 info3 (numGo la1 0 0 sr) rfl rfl (by have := HTT.out; have := HPR.out; simp [trL]; omega) ?_
                        intro v1 w1 hr1 hat1
                        obtain ⟨Av, cv, hv_⟩ := Kd.R_slice (hr1.row 3 rfl)
                        obtain ⟨nv, hnv⟩ : ∃ n, n = (trL lp la1 t ++ [numGo la1 0 0 sr]).length := ⟨_, rfl⟩
                        rw [← hnv] at hv_
                        subst hv_
                        clear hnv
                        have HR2 : Aside0 (Rx (fun k => k = gQ ∨ k = gM ∨ v.ownBlock = some k) W w1 [.blk gX #[.slice (some ⟨gS, 0, none⟩) lp.length lp.length] 22, .blk gV #[.slice (some ⟨gQ, 0, none⟩) lp.length lp.length] 22, .blk gQ (rowI sr) 3, .row (.slice Av nv cv) (trL lp la1 t ++ [numGo la1 0 0 sr]), .blk gM #[.slice (some ⟨gS, 0, none⟩) lp.length lp.length, v] 70, .blk gS (rowI (trSh lp la1)) 3, .blk gR #[.slice none 0 0, .slice none 0 0] 70, .blk gA #[.bool a, .slice Aa1 la1.length ca1, .slice Aa2 la2.length ca2] 28, .blk gP #[.slice Ap lp.length cp] 22]) := Aside0.mk hr1
                        have HV1 : Aside0 (∀ k, ((.slice Av nv cv) : Value).ownBlock = some k → W0.heap.size + 3 ≤ k) := Aside0.mk (fun k e => by
                          rcases hat1 with h | ⟨b, h, hb⟩
                          · exact HV.out k (h ▸ e)
                          · rw [h] at e; cases e; have h1 : W.heap.size ≤ (wr.drewN (1 + m)).heap.size := HR1.out.fr.size; have := HGE.out; omega)
                        have xM2 : w1.cell? ⟨gM, 1, none⟩ = some v := (blk_cell (HR2.out.blk 4 rfl) 1).trans rfl
                        have fM2 := blk_frozen (HR2.out.blk 4 rfl) 1
                        have HR3 : Aside0 (Rx (fun k => k = gQ ∨ k = gM ∨ v.ownBlock = some k) W (w1.setCell ⟨gM, 1, none⟩ (.slice Av nv cv)) [.blk gX #[.slice (some ⟨gS, 0, none⟩) lp.length lp.length] 22, .blk gV #[.slice (some ⟨gQ, 0, none⟩) lp.length lp.length] 22, .blk gQ (rowI sr) 3, .row (.slice Av nv cv) (trL lp la1 t ++ [numGo la1 0 0 sr]), .blk gM #[.slice (some ⟨gS, 0, none⟩) lp.length lp.length, (.slice Av nv cv)] 70, .blk gS (rowI (trSh lp la1)) 3, .blk gR #[.slice none 0 0, .slice none 0 0] 70, .blk gA #[.bool a, .slice Aa1 la1.length ca1, .slice Aa2 la2.length ca2] 28, .blk gP #[.slice Ap lp.length cp] 22]) := Aside0.mk (HR2.out.put 4 rfl (.inl (.inr (.inl rfl))) (blk_set (HR2.out.blk 4 rfl) 1 _) (But1.set1 gM 1 w1 _))
                        clear hr1 hat1
                        refine hK _ _ ?_
                        clear hK K
                        refine wpAny_take (i := 8) (v := ?_) rfl (by kernel_rfl) (by kernel_rfl) (by kernel_rfl) (fun _ _ _ h => h) (Or.inl ⟨by rfl, ?_⟩) ?_
                        rotate_left
                        · intro w'; go_simp; try with_reducible rfl
                        refine wpAny_ready (rs := [9]) (by kernel_rfl) (by simp) ?_
                        refine AllReady.cons rfl (fun K hK => ?_) ?_
                        · go_simp
                          refine hK _ _ ?_
                          clear hK K
                          refine wpAny_done (by kernel_rfl) ?_ _
                          gi_wp2
                          have hz := HLT.out
                          refine ⟨HR3.out.keeps (fun k hk => by rcases hk with rfl | rfl | hk; exact Th.cells (HS1.out.get 2 rfl) _ rfl; exact Th.cells (HS1.out.get 4 rfl) _ rfl; exact Th.cells (HS1.out.get 3 rfl) k hk), fun k hk => HR3.out.fr.same k ?_ ?_, HR3.out.fr.blk HAT.out HNG.out, ⟨sr, .slice Av nv cv, hsr.out, ?_, ?_⟩⟩
                          · rcases hk with rfl | ⟨_, hk⟩
                            · exact blk_lt (HS1.out.blk 0 rfl)
                            · cases hk; exact blk_lt (HS1.out.blk 5 rfl)
                          · rcases hk with rfl | ⟨_, hk⟩
                            · rintro (e | e | e)
                              · exact HS1.out.apart 0 2 (by decide) rfl rfl _ rfl e
                              · exact HS1.out.apart 0 4 (by decide) rfl rfl _ rfl e
                              · exact HS1.out.apart 0 3 (by decide) rfl rfl _ rfl e
                            · cases hk
                              rintro (e | e | e)
                              · exact HS1.out.apart 5 2 (by decide) rfl rfl _ rfl e
                              · exact HS1.out.apart 5 4 (by decide) rfl rfl _ rfl e
                              · exact HS1.out.apart 5 3 (by decide) rfl rfl _ rfl e
                          · have e1 : trL lp la1 (t + 1) = trL lp la1 t ++ [numGo la1 0 0 sr] := by rw [HSE.out]; simp [trL, trOne, List.range_succ]
                            rw [e1]
                            refine Rx.back HS1.out HR3.out HOO.out (fun T hT k hk => ?_)
                            have hw0 := HS0.out.below.size
                            simp only [List.mem_cons, List.not_mem_nil, or_false] at hT
                            rcases hT with rfl | rfl | rfl | rfl | rfl | rfl | rfl | rfl | rfl
                            · rw [show k = gX from hk]; exact (HS1.out.get 0 rfl).2
                            · rw [show k = gV from hk]; exact (HS1.out.get 1 rfl).2
                            · rw [show k = gQ from hk]; exact (HS1.out.get 2 rfl).2
                            · have := HV1.out k hk; omega
                            · rw [show k = gM from hk]; exact (HS1.out.get 4 rfl).2
                            · rw [show k = gS from hk]; exact (HS1.out.get 5 rfl).2
                            · rw [show k = gR from hk]; exact (HS1.out.get 6 rfl).2
                            · rw [show k = gA from hk]; exact (HS1.out.get 7 rfl).2
                            · rw [show k = gP from hk]; exact (HS1.out.get 8 rfl).2
                          · exact HV1.out
                        exact AllReady.nil
                      exact AllReady.nil
                    exact AllReady.nil
                  refine AllReady.cons rfl (fun K hK => ?_) ?_
                  · go_simp
                    have xM9 : ((wr.drewN (1 + m)).alloc (.cells #[.int .i64 (numGo la1 0 0 sr)] 3)).cell? ⟨gM, 1, none⟩ = some v := (blk_cell (blk_alloc (HR1.out.blk 4 rfl) _) 1).trans rfl
                    refine hK _ _ ?_
                    clear hK K
                    refine wpAny_ready (rs := [1]) (by kernel_rfl) (by simp) ?_
                    refine AllReady.cons rfl (fun K hK => ?_) ?_
                    · go_simp
                      refine hK _ _ ?_
                      clear hK K
                      refine wpAny_ready (rs := [7]) (by kernel_rfl) (by simp) ?_
                      refine AllReady.cons rfl (fun K hK => ?_) ?_
                      · refine HR1.out.append_step 3 rfl (fun k e => .inl (.inr (.inr e))) rfl (.tmp 58) (.tmp 63) rfl Try.underlying22 info3 (numGo la1 0 0 sr) rfl rfl (by have := HTT.out; have := HPR.out; simp [trL]; omega) ?_
                        intro v1 w1 hr1 hat1
                        obtain ⟨Av, cv, hv_⟩ := Kd.R_slice (hr1.row 3 rfl)
                        obtain ⟨nv, hnv⟩ : ∃ n, n = (trL lp la1 t ++ [numGo la1 0 0 sr]).length := ⟨_, rfl⟩
                        rw [← hnv] at hv_
                        subst hv_
                        clear hnv
                        have HR2 : Aside0 (Rx (fun k => k = gQ ∨ k = gM ∨ v.ownBlock = some k) W w1 [.blk gX #[.slice (some ⟨gS, 0, none⟩) lp.length lp.length] 22, .blk gV #[.slice (some ⟨gQ, 0, none⟩) lp.length lp.length] 22, .blk gQ (rowI sr) 3, .row (.slice Av nv cv) (trL lp la1 t ++ [numGo la1 0 0 sr]), .blk gM #[.slice (some ⟨gS, 0, none⟩) lp.length lp.length, v] 70, .blk gS (rowI (trSh lp la1)) 3, .blk gR #[.slice none 0 0, .slice none 0 0] 70, .blk gA #[.bool a, .slice Aa1 la1.length ca1, .slice Aa2 la2.length ca2] 28, .blk gP #[.slice Ap lp.length cp] 22]) := Aside0.mk hr1
                        have HV1 : Aside0 (∀ k, ((.slice Av nv cv) : Value).ownBlock = some k → W0.heap.size + 3 ≤ k) := Aside0.mk (fun k e => by
                          rcases hat1 with h | ⟨b, h, hb⟩
                          · exact HV.out k (h ▸ e)
                          · rw [h] at e; cases e; have h1 : W.heap.size ≤ (wr.drewN (1 + m)).heap.size := HR1.out.fr.size; have := HGE.out; omega)
                        have xM2 : w1.cell? ⟨gM, 1, none⟩ = some v := (blk_cell (HR2.out.blk 4 rfl) 1).trans rfl
                        have fM2 := blk_frozen (HR2.out.blk 4 rfl) 1
                        have HR3 : Aside0 (Rx (fun k => k = gQ ∨ k = gM ∨ v.ownBlock = some k) W (w1.setCell ⟨gM, 1, none⟩ (.slice Av nv cv)) [.blk gX #[.slice (some ⟨gS, 0, none⟩) lp.length lp.length] 22, .blk gV #[.slice (some ⟨gQ, 0, none⟩) lp.length lp.length] 22, .blk gQ (rowI sr) 3, .row (.slice Av nv cv) (trL lp la1 t ++ [numGo la1 0 0 sr]), .blk gM #[.slice (some ⟨gS, 0, none⟩) lp.length lp.length, (.slice Av nv cv)] 70, .blk gS (rowI (trSh lp la1)) 3, .blk gR #[.slice none 0 0, .slice none 0 0] 70, .blk gA #[.bool a, .slice Aa1 la1.length ca1, .slice Aa2 la2.length ca2] 28, .blk gP #[.slice Ap lp.length cp] 22]) := Aside0.mk (HR2.out.put 4 rfl (.inl (.inr (.inl rfl))) (blk_set (HR2.out.blk 4 rfl) 1 _) (But1.set1 gM 1 w1 _))
                        clear hr1 hat1
                        refine hK _ _ ?_
                        clear hK K
                        refine wpAny_take (i := 8) (v := ?_) rfl (by kernel_rfl) (by kernel_rfl) (by kernel_rfl) (fun _ _ _ h => h) (Or.inl ⟨by rfl, ?_⟩) ?_
                        rotate_left
                        · intro w'; go_simp; try with_reducible rfl
                        refine wpAny_ready (rs := [9]) (by kernel_rfl) (by simp) ?_
                        refine AllReady.cons rfl (fun K hK => ?_) ?_
                        · go_simp
                          refine hK _ _ ?_
                          clear hK K
                          refine wpAny_done (by kernel_rfl) ?_ _
                          gi_wp2
                          have hz := HLT.out
                          refine ⟨HR3.out.keeps (fun k hk => by rcases hk with rfl | rfl | hk; exact Th.cells (HS1.out.get 2 rfl) _ rfl; exact Th.cells (HS1.out.get 4 rfl) _ rfl; exact Th.cells (HS1.out.get 3 rfl) k hk), fun k hk => HR3.out.fr.same k ?_ ?_, HR3.out.fr.blk HAT.out HNG.out, ⟨sr, .slice Av nv cv, hsr.out, ?_, ?_⟩⟩
                          · rcases hk with rfl | ⟨_, hk⟩
                            · exact blk_lt (HS1.out.blk 0 rfl)
                            · cases hk; exact blk_lt (HS1.out.blk 5 rfl)
                          · rcases hk with rfl | ⟨_, hk⟩
                            · rintro (e | e | e)
                              · exact HS1.out.apart 0 2 (by decide) rfl rfl _ rfl e
                              · exact HS1.out.apart 0 4 (by decide) rfl rfl _ rfl e
                              · exact HS1.out.apart 0 3 (by decide) rfl rfl _ rfl e
                            · cases hk
                              rintro (e | e | e)
                              · exact HS1.out.apart 5 2 (by decide) rfl rfl _ rfl e
                              · exact HS1.out.apart 5 4 (by decide) rfl rfl _ rfl e
                              · exact HS1.out.apart 5 3 (by decide) rfl rfl _ rfl e
                          · have e1 : trL lp la1 (t + 1) = trL lp la1 t ++ [numGo la1 0 0 sr] := by rw [HSE.out]; simp [trL, trOne, List.range_succ]
                            rw [e1]
                            refine Rx.back HS1.out HR3.out HOO.out (fun T hT k hk => ?_)
                            have hw0 := HS0.out.below.size
                            simp only [List.mem_cons, List.not_mem_nil, or_false] at hT
                            rcases hT with rfl | rfl | rfl | rfl | rfl | rfl | rfl | rfl | rfl
                            · rw [show k = gX from hk]; exact (HS1.out.get 0 rfl).2
                            · rw [show k = gV from hk]; exact (HS1.out.get 1 rfl).2
                            · rw [show k = gQ from hk]; exact (HS1.out.get 2 rfl).2
                            · have := HV1.out k hk; omega
                            · rw [show k = gM from hk]; exact (HS1.out.get 4 rfl).2
                            · rw [show k = gS from hk]; exact (HS1.out.get 5 rfl).2
                            · rw [show k = gR from hk]; exact (HS1.out.get 6 rfl).2
                            · rw [show k = gA from hk]; exact (HS1.out.get 7 rfl).2
                            · rw [show k = gP from hk]; exact (HS1.out.get 8 rfl).2
                          · exact HV1.out
                        exact AllReady.nil
                      exact AllReady.nil
                    exact AllReady.nil
                  exact AllReady.nil
                exact AllReady.nil
              exact AllReady.nil
            exact AllReady.nil
      case done =>
        rintro W ⟨src, v, e1, hS, hv⟩ hD
        obtain ⟨Av, cv, rfl⟩ := Kd.R_slice (hS.row 3 rfl)
        have HS := Aside0.mk hS
        have HD := Aside0.mk hD
        clear hS hv hD
        go_wp2_with (first | ((with_reducible refine gate_dst (N := 66) rfl ?_); refine wpList_load_row rfl 70 (.tmp 5) rfl gM rfl 70 #[.slice (some ⟨gS, 0, none⟩) lp.length lp.length, .slice Av (trL lp la1 (prod (trSh lp la1)).toNat).length cv] (0, 0) _ (HS.out.blk 4 rfl) Try.underlying70 rfl (by kernel_rfl) ?_) | ((with_reducible refine gate_store rfl ?_); refine store_named rfl 70 (.tmp 4) (.tmp 66) rfl gR #[.slice (some ⟨gS, 0, none⟩) lp.length lp.length, .slice Av (trL lp la1 (prod (trSh lp la1)).toNat).length cv] rfl rfl 70 #[.slice none 0 0, .slice none 0 0] (HS.out.blk 6 rfl) (by kernel_rfl) rfl (by simp [Value.oneCell']) ?_; intro w1 hx hb; have HD1 := Aside0.mk ((hb.same W0.heap.size (by have := HLT.out; omega)).trans HD.out); have HS1 := Aside0.mk (HS.out.put 6 rfl hx hb); clear hx hb))
        have hz := HLT.out
        have hbS : (w1.putObj W0.heap.size (.deferred none)).heap[gS]? = some (.cells (rowI (trSh lp la1)) 3 (0, 0)) := (World.putObj_heap_other (by omega)).trans (HS1.out.blk 5 rfl)
        have hrF : Kd.R (Kd.int .i64) 3 (w1.putObj W0.heap.size (.deferred none)) w.heap.size (fun _ => True) (.slice Av (trL lp la1 (prod (trSh lp la1)).toNat).length cv) (trL lp la1 (prod (trSh lp la1)).toNat) := Kd.R_of_own (ownsRow_putObj (Kd.own_of_R (HS1.out.row 3 rfl)) _ HD1.out rfl) (fun _ _ => trivial)
        have hcF := Kd.R_reads' hrF
        have hcS := rowI_C hbS (by have := HSL.out; omega)
        have hsl := HSL.out
        refine ⟨by simp, .inl ⟨_, _, rfl, run_takeDeferred HD1.out, ?_⟩⟩
        refine ⟨_, results_cell_row rfl _ _ gR 70 #[.slice (some ⟨gS, 0, none⟩) lp.length lp.length, .slice Av (trL lp la1 (prod (trSh lp la1)).toNat).length cv] (0, 0) _ rfl ((World.putObj_heap_other (by omega)).trans (HS1.out.blk 6 rfl)) Try.underlying70 rfl (by kernel_rfl), some ⟨gS, 0, none⟩, lp.length, Av, cv, by rw [hsl], hcS, by omega, hcF.2.2, hcF.2.1, HS1.out.below.trans (belowK_b (w := w) (Nat.le_refl _) w1 W0.heap.size _ _ HS0.out.below.size HD1.out rfl rfl)⟩
end Go.Proofs.Ytehfcnndjhjkoaa.PA

namespace Go.Proofs.Ytehfcnndjhjkoaa.PA
open Go.RowKit Go.Proofs.YtehfcnndjhjkoaaW.PrintWords Go.Proofs.YtehfcnndjhjkoaaW.PrintLast Go.Proofs.YtehfcnndjhjkoaaW.PrintMore
set_option linter.unusedVariables false
def noInt (cs : Array Value) : Prop := ∀ (j : Nat) (k : IntKind) (z : Int), cs[j]? ≠ some (.int k z)
theorem C_but1 {W w1 : World} {A : Option Addr} {l : List Int} {g : Nat} {cs : Array Value} {t : TypeId} (h : Kd.C (Kd.int .i64) W A l.length l) (hb : But1 g W w1) (hg : W.heap[g]? = some (.cells cs t (0, 0))) (hns : noInt cs) : Kd.C (Kd.int .i64) w1 A l.length l := by
  refine Kd.C_foot_ne (g := g) (fun h => h) h (fun ad e h0 hb' => ?_) w1 ⟨hb.size, fun i _ hi _ => hb.same i hi⟩
  obtain ⟨ad', e', hx⟩ := Kd.at_int h 0 (by omega) (by omega)
  rw [e] at e'; cases e'
  unfold World.cell? at hx
  rw [show (ad.add (0 : Int).toNat).block = ad.block by unfold Addr.add; split <;> rfl, hb', hg] at hx
  simp only at hx
  split at hx
  · cases hx
  · exact hns _ _ _ hx
theorem noInt_ZM : noInt #[.slice none 0 0, .slice none 0 0] := by
  intro j k z h
  rcases j with _ | _ | j <;> simp at h
end Go.Proofs.Ytehfcnndjhjkoaa.PA

-- By a program (prt.py, over the print of the kit), for this claim. Not trusted: Lean checks it.
namespace Go.Proofs.Ytehfcnndjhjkoaa.PA
open Go.RowKit Go.Proofs.YtehfcnndjhjkoaaW.PrintWords Go.Proofs.YtehfcnndjhjkoaaW.PrintLast Go.Proofs.YtehfcnndjhjkoaaW.PrintMore
attribute [local go_sem] max2_int min2_int max_two min_two max_three min_three max_four min_four   -- for this text's walks alone
set_option linter.unusedVariables false
set_option linter.unusedSimpArgs false

/-! ### impl_listOk: function 99 -/
def impl_listOk.f (a0_0 : Bool) (l0_1 : List Int) (l0_2 : List Int) : Option (Int) := (impl_Array_rank.f a0_0 l0_1 l0_2).bind fun t102 => (if t102 > 1 then (some 4) else (if a0_0 = true then (some 3) else (some 0)))
set_option maxHeartbeats 8000000 in
set_option maxRecDepth 100000 in
theorem impl_listOk.calls (a0_0 : Bool) (A0_1 : Option Addr) (c0_1 : Nat) (l0_1 : List Int) (A0_2 : Option Addr) (c0_2 : Nat) (l0_2 : List Int) (r : Int) (w : World) (hr0_1 : Kd.C (Kd.int .i64) w A0_1 l0_1.length l0_1) (hc0_1 : l0_1.length ≤ c0_1) (hr0_2 : Kd.C (Kd.int .i64) w A0_2 l0_2.length l0_2) (hc0_2 : l0_2.length ≤ c0_2) (h : impl_listOk.f a0_0 l0_1 l0_2 = some r) :
    Calls Try.prog 99 #[.agg #[.bool a0_0, .slice A0_1 l0_1.length c0_1, .slice A0_2 l0_2.length c0_2]] w fun e w' => e = .returned (.int .i64 r) ∧ Below w.heap.size w w' := by
  have hu28 := Try.underlying28
  have HR0_1 := Aside0.mk hr0_1
  have HC0_1 := Aside0.mk hc0_1
  clear hr0_1 hc0_1
  have HR0_2 := Aside0.mk hr0_2
  have HC0_2 := Aside0.mk hc0_2
  clear hr0_2 hc0_2
  have HB := Aside0.mk (Below.refl w.heap.size w)
  have H : ((impl_Array_rank.f a0_0 l0_1 l0_2).bind fun t102 => (if t102 > 1 then (some 4) else (if a0_0 = true then (some 3) else (some 0)))) = some r := h
  clear h
  replace H := Option.bind_eq_some_iff.mp H
  obtain ⟨t102, A20, H⟩ := H
  replace H : (if t102 > 1 then (some 4) else (if a0_0 = true then (some 3) else (some 0))) = some r := H
  have A2 := Aside0.mk A20
  clear A20
  by_cases c3 : t102 > 1
  · rw [if_pos c3] at H
    have c3b0 : decide (1 < t102) = true := decide_eq_true c3
    clear c3
    obtain rfl := Option.some.inj H
    go_enter Try.func99, Try.ntmps99
    go_wp2_with (first | ((with_reducible refine gate_dst (N := 1) rfl ?_); refine box_event ?hg (N := 1) ?hd (cs := #[.bool a0_0, .slice A0_1 l0_1.length c0_1, .slice A0_2 l0_2.length c0_2]) (t := 28) ?hr ?_; (case hd => rfl); (case hg => rfl); (case hr => first | (go_simp; done) | (go_simp; rfl)); intro gb101 hg w4 hbox hb; have n0_ := Aside0.mk (below_step (by repeat (first | (with_reducible first | exact HB.out | apply below_alloc | apply pw_below_drewN | apply below_drew1) | exact HB.out)) hb); have n1_ := Aside0.mk (hbox); have n2_ := Aside0.mk ((by rw [hg]; exact (below_size (by repeat (first | (with_reducible first | exact HB.out | apply below_alloc | apply pw_below_drewN | apply below_drew1) | exact HB.out))) : w.heap.size ≤ gb101)); have n3_ := Aside0.mk ((by rw [hg]; exact (below_size (by repeat (first | (with_reducible first | exact HB.out | apply below_alloc | apply pw_below_drewN | apply below_drew1) | exact HB.out))) : w.heap.size ≤ gb101)); clear HB; have HB := n0_; have BK101 := n1_; have GW101 := n2_; have GE101 := n3_; clear n0_ n1_ n2_ n3_; clear hb hbox hg; have hcz5_0 : w4.cell? ⟨gb101, 0, none⟩ = some (.bool a0_0) := (blk_cell BK101.out 0).trans rfl; have hcz5_1 : w4.cell? ⟨gb101, 1, none⟩ = some (.slice A0_1 l0_1.length c0_1) := (blk_cell BK101.out 1).trans rfl; have hcz5_2 : w4.cell? ⟨gb101, 2, none⟩ = some (.slice A0_2 l0_2.length c0_2) := (blk_cell BK101.out 2).trans rfl; have hfz5_0 := blk_frozen BK101.out 0; have hfz5_1 := blk_frozen BK101.out 1; have hfz5_2 := blk_frozen BK101.out 2) | ((with_reducible refine gate_callee (f := 90) rfl ?_); refine goesL_ (some 4) rfl rfl Try.func90 (by kernel_rfl) rfl #[.agg #[.bool a0_0, .slice A0_1 l0_1.length c0_1, .slice A0_2 l0_2.length c0_2]] rfl (by (try simp only [List.map_toArray, List.map_cons, List.map_nil]); first | done | rfl | (simp only [List.length_drop, List.length_take]; rfl)) ?_; (with_reducible refine (impl_Array_rank.calls a0_0 _ _ l0_1 _ _ l0_2 t102 _ ?side1 ?side2 ?side3 ?side4 A2.out).mono ?_); (case side1 => repeat (first | exact (Kd.C_below HR0_1.out HB.out) | (with_reducible refine Kd.C_alloc ?_ _) | (with_reducible refine Kd.C_drewN ?_ _) | (with_reducible refine Kd.C_drew ?_))); (case side2 => exact HC0_1.out); (case side3 => repeat (first | exact (Kd.C_below HR0_2.out HB.out) | (with_reducible refine Kd.C_alloc ?_ _) | (with_reducible refine Kd.C_drewN ?_ _) | (with_reducible refine Kd.C_drew ?_))); (case side4 => exact HC0_2.out); rintro e w6 ⟨rfl, hb⟩; refine ⟨_, rfl, ?_⟩; have n0_ := Aside0.mk (blk_below (g := gb101) (o := .cells #[.bool a0_0, .slice A0_1 l0_1.length c0_1, .slice A0_2 l0_2.length c0_2] 28 (0, 0)) (by (with_reducible repeat (first | refine blk_drewN ?_ _ | refine blk_drew ?_ | refine blk_alloc ?_ _)); exact BK101.out) hb); have n1_ := Aside0.mk (below_step (by repeat (first | (with_reducible first | exact HB.out | apply below_alloc | apply pw_below_drewN | apply below_drew1 | refine below_set ?_ GE101.out) | exact HB.out)) hb); clear BK101; clear HB; have BK101 := n0_; have HB := n1_; clear n0_ n1_; (try clear hb); (try clear hb2); (try clear hk); (try clear hi)))
    go_ret
    exact ⟨by first | rfl | (simp [errW_none, errW_some] <;> rfl) | (simp [*, errW_none, errW_some] <;> rfl), by repeat (first | (with_reducible first | exact HB.out | apply below_alloc | apply pw_below_drewN | apply below_drew1 | refine below_set ?_ GE101.out) | exact HB.out)⟩
  · rw [if_neg c3] at H
    have c3b0 : decide (1 < t102) = false := decide_eq_false c3
    clear c3
    by_cases c7 : a0_0 = true
    · subst c7
      have H1 : (some 3) = some r := by rw [if_pos rfl] at H; exact H
      clear H
      have H := H1
      clear H1
      obtain rfl := Option.some.inj H
      go_enter Try.func99, Try.ntmps99
      go_wp2_with (first | ((with_reducible refine gate_dst (N := 1) rfl ?_); refine box_event ?hg (N := 1) ?hd (cs := #[.bool true, .slice A0_1 l0_1.length c0_1, .slice A0_2 l0_2.length c0_2]) (t := 28) ?hr ?_; (case hd => rfl); (case hg => rfl); (case hr => first | (go_simp; done) | (go_simp; rfl)); intro gb101 hg w8 hbox hb; have n0_ := Aside0.mk (below_step (by repeat (first | (with_reducible first | exact HB.out | apply below_alloc | apply pw_below_drewN | apply below_drew1) | exact HB.out)) hb); have n1_ := Aside0.mk (hbox); have n2_ := Aside0.mk ((by rw [hg]; exact (below_size (by repeat (first | (with_reducible first | exact HB.out | apply below_alloc | apply pw_below_drewN | apply below_drew1) | exact HB.out))) : w.heap.size ≤ gb101)); have n3_ := Aside0.mk ((by rw [hg]; exact (below_size (by repeat (first | (with_reducible first | exact HB.out | apply below_alloc | apply pw_below_drewN | apply below_drew1) | exact HB.out))) : w.heap.size ≤ gb101)); clear HB; have HB := n0_; have BK101 := n1_; have GW101 := n2_; have GE101 := n3_; clear n0_ n1_ n2_ n3_; clear hb hbox hg; have hcz9_0 : w8.cell? ⟨gb101, 0, none⟩ = some (.bool true) := (blk_cell BK101.out 0).trans rfl; have hcz9_1 : w8.cell? ⟨gb101, 1, none⟩ = some (.slice A0_1 l0_1.length c0_1) := (blk_cell BK101.out 1).trans rfl; have hcz9_2 : w8.cell? ⟨gb101, 2, none⟩ = some (.slice A0_2 l0_2.length c0_2) := (blk_cell BK101.out 2).trans rfl; have hfz9_0 := blk_frozen BK101.out 0; have hfz9_1 := blk_frozen BK101.out 1; have hfz9_2 := blk_frozen BK101.out 2) | ((with_reducible refine gate_callee (f := 90) rfl ?_); refine goesL_ (some 4) rfl rfl Try.func90 (by kernel_rfl) rfl #[.agg #[.bool true, .slice A0_1 l0_1.length c0_1, .slice A0_2 l0_2.length c0_2]] rfl (by (try simp only [List.map_toArray, List.map_cons, List.map_nil]); first | done | rfl | (simp only [List.length_drop, List.length_take]; rfl)) ?_; (with_reducible refine (impl_Array_rank.calls true _ _ l0_1 _ _ l0_2 t102 _ ?side1 ?side2 ?side3 ?side4 A2.out).mono ?_); (case side1 => repeat (first | exact (Kd.C_below HR0_1.out HB.out) | (with_reducible refine Kd.C_alloc ?_ _) | (with_reducible refine Kd.C_drewN ?_ _) | (with_reducible refine Kd.C_drew ?_))); (case side2 => exact HC0_1.out); (case side3 => repeat (first | exact (Kd.C_below HR0_2.out HB.out) | (with_reducible refine Kd.C_alloc ?_ _) | (with_reducible refine Kd.C_drewN ?_ _) | (with_reducible refine Kd.C_drew ?_))); (case side4 => exact HC0_2.out); rintro e w10 ⟨rfl, hb⟩; refine ⟨_, rfl, ?_⟩; have n0_ := Aside0.mk (blk_below (g := gb101) (o := .cells #[.bool true, .slice A0_1 l0_1.length c0_1, .slice A0_2 l0_2.length c0_2] 28 (0, 0)) (by (with_reducible repeat (first | refine blk_drewN ?_ _ | refine blk_drew ?_ | refine blk_alloc ?_ _)); exact BK101.out) hb); have n1_ := Aside0.mk (below_step (by repeat (first | (with_reducible first | exact HB.out | apply below_alloc | apply pw_below_drewN | apply below_drew1 | refine below_set ?_ GE101.out) | exact HB.out)) hb); clear BK101; clear HB; have BK101 := n0_; have HB := n1_; clear n0_ n1_; (try clear hb); (try clear hb2); (try clear hk); (try clear hi); have hcz11_0 : w10.cell? ⟨gb101, 0, none⟩ = some (.bool true) := (blk_cell BK101.out 0).trans rfl; have hcz11_1 : w10.cell? ⟨gb101, 1, none⟩ = some (.slice A0_1 l0_1.length c0_1) := (blk_cell BK101.out 1).trans rfl; have hcz11_2 : w10.cell? ⟨gb101, 2, none⟩ = some (.slice A0_2 l0_2.length c0_2) := (blk_cell BK101.out 2).trans rfl; have hfz11_0 := blk_frozen BK101.out 0; have hfz11_1 := blk_frozen BK101.out 1; have hfz11_2 := blk_frozen BK101.out 2))
      go_ret
      exact ⟨by first | rfl | (simp [errW_none, errW_some] <;> rfl) | (simp [*, errW_none, errW_some] <;> rfl), by repeat (first | (with_reducible first | exact HB.out | apply below_alloc | apply pw_below_drewN | apply below_drew1 | refine below_set ?_ GE101.out) | exact HB.out)⟩
    · replace c7 := Bool.eq_false_iff.mpr c7
      subst c7
      have H1 : (some 0) = some r := by rw [if_neg (show ¬ (false = true) by decide)] at H; exact H
      clear H
      have H := H1
      clear H1
      obtain rfl := Option.some.inj H
      go_enter Try.func99, Try.ntmps99
      go_wp2_with (first | ((with_reducible refine gate_dst (N := 1) rfl ?_); refine box_event ?hg (N := 1) ?hd (cs := #[.bool false, .slice A0_1 l0_1.length c0_1, .slice A0_2 l0_2.length c0_2]) (t := 28) ?hr ?_; (case hd => rfl); (case hg => rfl); (case hr => first | (go_simp; done) | (go_simp; rfl)); intro gb101 hg w12 hbox hb; have n0_ := Aside0.mk (below_step (by repeat (first | (with_reducible first | exact HB.out | apply below_alloc | apply pw_below_drewN | apply below_drew1) | exact HB.out)) hb); have n1_ := Aside0.mk (hbox); have n2_ := Aside0.mk ((by rw [hg]; exact (below_size (by repeat (first | (with_reducible first | exact HB.out | apply below_alloc | apply pw_below_drewN | apply below_drew1) | exact HB.out))) : w.heap.size ≤ gb101)); have n3_ := Aside0.mk ((by rw [hg]; exact (below_size (by repeat (first | (with_reducible first | exact HB.out | apply below_alloc | apply pw_below_drewN | apply below_drew1) | exact HB.out))) : w.heap.size ≤ gb101)); clear HB; have HB := n0_; have BK101 := n1_; have GW101 := n2_; have GE101 := n3_; clear n0_ n1_ n2_ n3_; clear hb hbox hg; have hcz13_0 : w12.cell? ⟨gb101, 0, none⟩ = some (.bool false) := (blk_cell BK101.out 0).trans rfl; have hcz13_1 : w12.cell? ⟨gb101, 1, none⟩ = some (.slice A0_1 l0_1.length c0_1) := (blk_cell BK101.out 1).trans rfl; have hcz13_2 : w12.cell? ⟨gb101, 2, none⟩ = some (.slice A0_2 l0_2.length c0_2) := (blk_cell BK101.out 2).trans rfl; have hfz13_0 := blk_frozen BK101.out 0; have hfz13_1 := blk_frozen BK101.out 1; have hfz13_2 := blk_frozen BK101.out 2) | ((with_reducible refine gate_callee (f := 90) rfl ?_); refine goesL_ (some 4) rfl rfl Try.func90 (by kernel_rfl) rfl #[.agg #[.bool false, .slice A0_1 l0_1.length c0_1, .slice A0_2 l0_2.length c0_2]] rfl (by (try simp only [List.map_toArray, List.map_cons, List.map_nil]); first | done | rfl | (simp only [List.length_drop, List.length_take]; rfl)) ?_; (with_reducible refine (impl_Array_rank.calls false _ _ l0_1 _ _ l0_2 t102 _ ?side1 ?side2 ?side3 ?side4 A2.out).mono ?_); (case side1 => repeat (first | exact (Kd.C_below HR0_1.out HB.out) | (with_reducible refine Kd.C_alloc ?_ _) | (with_reducible refine Kd.C_drewN ?_ _) | (with_reducible refine Kd.C_drew ?_))); (case side2 => exact HC0_1.out); (case side3 => repeat (first | exact (Kd.C_below HR0_2.out HB.out) | (with_reducible refine Kd.C_alloc ?_ _) | (with_reducible refine Kd.C_drewN ?_ _) | (with_reducible refine Kd.C_drew ?_))); (case side4 => exact HC0_2.out); rintro e w14 ⟨rfl, hb⟩; refine ⟨_, rfl, ?_⟩; have n0_ := Aside0.mk (blk_below (g := gb101) (o := .cells #[.bool false, .slice A0_1 l0_1.length c0_1, .slice A0_2 l0_2.length c0_2] 28 (0, 0)) (by (with_reducible repeat (first | refine blk_drewN ?_ _ | refine blk_drew ?_ | refine blk_alloc ?_ _)); exact BK101.out) hb); have n1_ := Aside0.mk (below_step (by repeat (first | (with_reducible first | exact HB.out | apply below_alloc | apply pw_below_drewN | apply below_drew1 | refine below_set ?_ GE101.out) | exact HB.out)) hb); clear BK101; clear HB; have BK101 := n0_; have HB := n1_; clear n0_ n1_; (try clear hb); (try clear hb2); (try clear hk); (try clear hi); have hcz15_0 : w14.cell? ⟨gb101, 0, none⟩ = some (.bool false) := (blk_cell BK101.out 0).trans rfl; have hcz15_1 : w14.cell? ⟨gb101, 1, none⟩ = some (.slice A0_1 l0_1.length c0_1) := (blk_cell BK101.out 1).trans rfl; have hcz15_2 : w14.cell? ⟨gb101, 2, none⟩ = some (.slice A0_2 l0_2.length c0_2) := (blk_cell BK101.out 2).trans rfl; have hfz15_0 := blk_frozen BK101.out 0; have hfz15_1 := blk_frozen BK101.out 1; have hfz15_2 := blk_frozen BK101.out 2))
      go_ret
      exact ⟨by first | rfl | (simp [errW_none, errW_some] <;> rfl) | (simp [*, errW_none, errW_some] <;> rfl), by repeat (first | (with_reducible first | exact HB.out | apply below_alloc | apply pw_below_drewN | apply below_drew1 | refine below_set ?_ GE101.out) | exact HB.out)⟩

end Go.Proofs.Ytehfcnndjhjkoaa.PA

namespace Go.Proofs.Ytehfcnndjhjkoaa.PA
open Go.RowKit Go.Proofs.YtehfcnndjhjkoaaW.PrintWords Go.Proofs.YtehfcnndjhjkoaaW.PrintLast Go.Proofs.YtehfcnndjhjkoaaW.PrintMore
set_option linter.unusedVariables false
set_option linter.unusedSimpArgs false
set_option maxHeartbeats 2000000 in
set_option maxRecDepth 100000 in
theorem transMove_list (a : Bool) (Aa1 : Option Addr) (ca1 : Nat) (la1 : List Int) (Aa2 : Option Addr) (ca2 : Nat) (la2 : List Int) (b : Bool) (Ab1 : Option Addr) (cb1 : Nat) (lb1 : List Int) (Ab2 : Option Addr) (cb2 : Nat) (lb2 : List Int) (w : World) (ha1 : Kd.C (Kd.int .i64) w Aa1 la1.length la1) (ka1 : la1.length ≤ ca1) (ha2 : Kd.C (Kd.int .i64) w Aa2 la2.length la2) (ka2 : la2.length ≤ ca2) (hb1 : Kd.C (Kd.int .i64) w Ab1 lb1.length lb1) (kb1 : lb1.length ≤ cb1) (hb2 : Kd.C (Kd.int .i64) w Ab2 lb2.length lb2) (kb2 : lb2.length ≤ cb2) (v : Int) (hf : impl_listOk.f a la1 la2 = some v) (hv : v ≠ 0) :
    Calls Try.prog 79 #[.agg #[.bool a, .slice Aa1 la1.length ca1, .slice Aa2 la2.length ca2], .agg #[.bool b, .slice Ab1 lb1.length cb1, .slice Ab2 lb2.length cb2]] w fun e w' => ∃ A1 c1 A2 c2, e = .returned (.tuple #[.agg #[.slice A1 ([] : List Int).length c1, .slice A2 ([] : List Int).length c2], .int .i64 v]) ∧ Kd.C (Kd.int .i64) w' A1 ([] : List Int).length [] ∧ ([] : List Int).length ≤ c1 ∧ Kd.C (Kd.int .i64) w' A2 ([] : List Int).length [] ∧ ([] : List Int).length ≤ c2 ∧ Below w.heap.size w w' := by
  have Ha1 := Aside0.mk ha1
  have Ka1 := Aside0.mk ka1
  clear ha1 ka1
  have Ha2 := Aside0.mk ha2
  have Ka2 := Aside0.mk ka2
  clear ha2 ka2
  have Hb1 := Aside0.mk hb1
  have Kb1 := Aside0.mk kb1
  clear hb1 kb1
  have Hb2 := Aside0.mk hb2
  have Kb2 := Aside0.mk kb2
  clear hb2 kb2
  have HF := Aside0.mk hf
  have c0 : (v == 0) = false := beq_eq_false_iff_ne.mpr hv
  have c1 : (v != 0) = true := bne_iff_ne.mpr hv
  clear hf hv
  have HS := Aside0.mk (Sx.start w)
  go_enter Try.func79, Try.ntmps79
  go_wp2_with (first | ((with_reducible refine gate_dst (N := 2) rfl ?_); refine box_event ?hg (N := 2) ?hd (cs := #[.bool a, .slice Aa1 la1.length ca1, .slice Aa2 la2.length ca2]) (t := 28) ?hr ?_; (case hd => rfl); (case hg => rfl); (case hr => first | (go_simp; done) | (go_simp; rfl)); intro gK hg1 w1 hx1 hb1; have nS : Aside0 (Sx w w1 [(.blk gK #[.bool a, .slice Aa1 la1.length ca1, .slice Aa2 la2.length ca2] 28)]) := Aside0.mk (HS.out.box hg1 hx1 hb1); clear HS; have HS := nS; clear nS hg1 hx1 hb1) | ((with_reducible refine gate_dst (N := 3) rfl ?_); refine box_event ?hg (N := 3) ?hd (cs := #[.bool b, .slice Ab1 lb1.length cb1, .slice Ab2 lb2.length cb2]) (t := 28) ?hr ?_; (case hd => rfl); (case hg => rfl); (case hr => first | (go_simp; done) | (go_simp; rfl)); intro gB hg2 w2 hx2 hb2; have nS : Aside0 (Sx w w2 [(.blk gB #[.bool b, .slice Ab1 lb1.length cb1, .slice Ab2 lb2.length cb2] 28), (.blk gK #[.bool a, .slice Aa1 la1.length ca1, .slice Aa2 la2.length ca2] 28)]) := Aside0.mk (HS.out.box hg2 hx2 hb2); clear HS; have HS := nS; clear nS hg2 hx2 hb2) | ((with_reducible refine gate_dst (N := 4) rfl ?_); refine box_event ?hg (N := 4) ?hd (cs := #[.slice none 0 0, .slice none 0 0]) (t := 70) ?hr ?_; (case hd => rfl); (case hg => rfl); (case hr => first | (go_simp; done) | (go_simp; rfl)); intro gR hg3 w3 hx3 hb3; have nS : Aside0 (Sx w w3 [(.blk gR #[.slice none 0 0, .slice none 0 0] 70), (.blk gB #[.bool b, .slice Ab1 lb1.length cb1, .slice Ab2 lb2.length cb2] 28), (.blk gK #[.bool a, .slice Aa1 la1.length ca1, .slice Aa2 la2.length ca2] 28)]) := Aside0.mk (HS.out.box hg3 hx3 hb3); clear HS; have HS := nS; clear nS hg3 hx3 hb3) | ((with_reducible refine gate_dst (N := 7) rfl ?_); refine wpList_load_row rfl 28 (.tmp 2) rfl gK rfl 28 #[.bool a, .slice Aa1 la1.length ca1, .slice Aa2 la2.length ca2] (0, 0) _ (HS.out.blk 2 rfl) Try.underlying28 rfl (by kernel_rfl) ?_) | (go_at_call 99; refine (impl_listOk.calls a Aa1 ca1 la1 Aa2 ca2 la2 v _ (Kd.C_below Ha1.out HS.out.below) Ka1.out (Kd.C_below Ha2.out HS.out.below) Ka2.out HF.out).mono ?_; rintro e w4 ⟨rfl, hb4⟩; have nS : Aside0 (Sx w w4 [(.blk gR #[.slice none 0 0, .slice none 0 0] 70), (.blk gB #[.bool b, .slice Ab1 lb1.length cb1, .slice Ab2 lb2.length cb2] 28), (.blk gK #[.bool a, .slice Aa1 la1.length ca1, .slice Aa2 la2.length ca2] 28)]) := Aside0.mk (HS.out.step hb4); clear HS; have HS := nS; clear nS hb4) | ((with_reducible refine gate_store rfl ?_); refine store_named rfl 70 (.tmp 4) (.tmp 11) rfl gR #[.slice none 0 0, .slice none 0 0] rfl rfl 70 #[.slice none 0 0, .slice none 0 0] (HS.out.blk 0 rfl) (by kernel_rfl) rfl (by simp [Value.oneCell']) ?_; intro w5 hx5 hb5; have nS : Aside0 (Sx w w5 [(.blk gR #[.slice none 0 0, .slice none 0 0] 70), (.blk gB #[.bool b, .slice Ab1 lb1.length cb1, .slice Ab2 lb2.length cb2] 28), (.blk gK #[.bool a, .slice Aa1 la1.length ca1, .slice Aa2 la2.length ca2] 28)]) := Aside0.mk (HS.out.put 0 rfl hx5 hb5); clear HS; have HS := nS; clear nS hx5 hb5))
  refine bodyPost_ret (results_ct rfl _ _ gR 70 #[.slice none 0 0, .slice none 0 0] (0, 0) _ rfl (HS.out.blk 0 rfl) Try.underlying70 rfl (by kernel_rfl)) rfl ?_
  exact ⟨none, 0, none, 0, rfl, Kd.C_nil _ _, Nat.le_refl _, Kd.C_nil _ _, Nat.le_refl _, HS.out.below⟩
set_option maxHeartbeats 2000000 in
set_option maxRecDepth 100000 in
theorem transMove_len (a : Bool) (Aa1 : Option Addr) (ca1 : Nat) (la1 : List Int) (Aa2 : Option Addr) (ca2 : Nat) (la2 : List Int) (b : Bool) (Ab1 : Option Addr) (cb1 : Nat) (lb1 : List Int) (Ab2 : Option Addr) (cb2 : Nat) (lb2 : List Int) (w : World) (ha1 : Kd.C (Kd.int .i64) w Aa1 la1.length la1) (ka1 : la1.length ≤ ca1) (ha2 : Kd.C (Kd.int .i64) w Aa2 la2.length la2) (ka2 : la2.length ≤ ca2) (hb1 : Kd.C (Kd.int .i64) w Ab1 lb1.length lb1) (kb1 : lb1.length ≤ cb1) (hb2 : Kd.C (Kd.int .i64) w Ab2 lb2.length lb2) (kb2 : lb2.length ≤ cb2) (hf : impl_listOk.f a la1 la2 = some 0) (hn : la2.length ≠ lb1.length) :
    Calls Try.prog 79 #[.agg #[.bool a, .slice Aa1 la1.length ca1, .slice Aa2 la2.length ca2], .agg #[.bool b, .slice Ab1 lb1.length cb1, .slice Ab2 lb2.length cb2]] w fun e w' => ∃ A1 c1 A2 c2, e = .returned (.tuple #[.agg #[.slice A1 ([] : List Int).length c1, .slice A2 ([] : List Int).length c2], .int .i64 5]) ∧ Kd.C (Kd.int .i64) w' A1 ([] : List Int).length [] ∧ ([] : List Int).length ≤ c1 ∧ Kd.C (Kd.int .i64) w' A2 ([] : List Int).length [] ∧ ([] : List Int).length ≤ c2 ∧ Below w.heap.size w w' := by
  have Ha1 := Aside0.mk ha1
  have Ka1 := Aside0.mk ka1
  clear ha1 ka1
  have Ha2 := Aside0.mk ha2
  have Ka2 := Aside0.mk ka2
  clear ha2 ka2
  have Hb1 := Aside0.mk hb1
  have Kb1 := Aside0.mk kb1
  clear hb1 kb1
  have Hb2 := Aside0.mk hb2
  have Kb2 := Aside0.mk kb2
  clear hb2 kb2
  have HF := Aside0.mk hf
  clear hf
  have c0 : ((la2.length : Int) == (lb1.length : Int)) = false := beq_eq_false_iff_ne.mpr (by omega)
  have c1 : ((la2.length : Int) != (lb1.length : Int)) = true := bne_iff_ne.mpr (by omega)
  have c2 : ¬ la2.length = lb1.length := hn
  clear hn
  have HS := Aside0.mk (Sx.start w)
  go_enter Try.func79, Try.ntmps79
  go_upto_region 4 with (first | ((with_reducible refine gate_dst (N := 2) rfl ?_); refine box_event ?hg (N := 2) ?hd (cs := #[.bool a, .slice Aa1 la1.length ca1, .slice Aa2 la2.length ca2]) (t := 28) ?hr ?_; (case hd => rfl); (case hg => rfl); (case hr => first | (go_simp; done) | (go_simp; rfl)); intro gK hg1 w1 hx1 hb1; have nS : Aside0 (Sx w w1 [(.blk gK #[.bool a, .slice Aa1 la1.length ca1, .slice Aa2 la2.length ca2] 28)]) := Aside0.mk (HS.out.box hg1 hx1 hb1); clear HS; have HS := nS; clear nS hg1 hx1 hb1) | ((with_reducible refine gate_dst (N := 3) rfl ?_); refine box_event ?hg (N := 3) ?hd (cs := #[.bool b, .slice Ab1 lb1.length cb1, .slice Ab2 lb2.length cb2]) (t := 28) ?hr ?_; (case hd => rfl); (case hg => rfl); (case hr => first | (go_simp; done) | (go_simp; rfl)); intro gB hg2 w2 hx2 hb2; have nS : Aside0 (Sx w w2 [(.blk gB #[.bool b, .slice Ab1 lb1.length cb1, .slice Ab2 lb2.length cb2] 28), (.blk gK #[.bool a, .slice Aa1 la1.length ca1, .slice Aa2 la2.length ca2] 28)]) := Aside0.mk (HS.out.box hg2 hx2 hb2); clear HS; have HS := nS; clear nS hg2 hx2 hb2) | ((with_reducible refine gate_dst (N := 4) rfl ?_); refine box_event ?hg (N := 4) ?hd (cs := #[.slice none 0 0, .slice none 0 0]) (t := 70) ?hr ?_; (case hd => rfl); (case hg => rfl); (case hr => first | (go_simp; done) | (go_simp; rfl)); intro gR hg3 w3 hx3 hb3; have nS : Aside0 (Sx w w3 [(.blk gR #[.slice none 0 0, .slice none 0 0] 70), (.blk gB #[.bool b, .slice Ab1 lb1.length cb1, .slice Ab2 lb2.length cb2] 28), (.blk gK #[.bool a, .slice Aa1 la1.length ca1, .slice Aa2 la2.length ca2] 28)]) := Aside0.mk (HS.out.box hg3 hx3 hb3); clear HS; have HS := nS; clear nS hg3 hx3 hb3) | ((with_reducible refine gate_dst (N := 7) rfl ?_); refine wpList_load_row rfl 28 (.tmp 2) rfl gK rfl 28 #[.bool a, .slice Aa1 la1.length ca1, .slice Aa2 la2.length ca2] (0, 0) _ (HS.out.blk 2 rfl) Try.underlying28 rfl (by kernel_rfl) ?_) | (go_at_call 99; refine (impl_listOk.calls a Aa1 ca1 la1 Aa2 ca2 la2 0 _ (Kd.C_below Ha1.out HS.out.below) Ka1.out (Kd.C_below Ha2.out HS.out.below) Ka2.out HF.out).mono ?_; rintro e w4 ⟨rfl, hb4⟩; have nS : Aside0 (Sx w w4 [(.blk gR #[.slice none 0 0, .slice none 0 0] 70), (.blk gB #[.bool b, .slice Ab1 lb1.length cb1, .slice Ab2 lb2.length cb2] 28), (.blk gK #[.bool a, .slice Aa1 la1.length ca1, .slice Aa2 la2.length ca2] 28)]) := Aside0.mk (HS.out.step hb4); clear HS; have HS := nS; clear nS hb4))
  go_region_held3 (fun w' => w'.cell? ⟨gK, 2, none⟩ = some (.slice Aa2 la2.length ca2) ∧ w'.cell? ⟨gB, 0, none⟩ = some (.bool b) ∧ w'.cell? ⟨gB, 1, none⟩ = some (.slice Ab1 lb1.length cb1) ∧ w'.cell? ⟨gB, 2, none⟩ = some (.slice Ab2 lb2.length cb2)) ((exact ⟨(blk_cell (Sx.blkM (by repeat (first | (with_reducible exact HS.out) | (with_reducible apply Sx.drew) | (with_reducible apply Sx.drewN) | (with_reducible apply Sx.alloc))) (g := gK) (cs := #[.bool a, .slice Aa1 la1.length ca1, .slice Aa2 la2.length ca2]) (t := 28) (by simp)) 2).trans rfl, (blk_cell (Sx.blkM (by repeat (first | (with_reducible exact HS.out) | (with_reducible apply Sx.drew) | (with_reducible apply Sx.drewN) | (with_reducible apply Sx.alloc))) (g := gB) (cs := #[.bool b, .slice Ab1 lb1.length cb1, .slice Ab2 lb2.length cb2]) (t := 28) (by simp)) 0).trans rfl, (blk_cell (Sx.blkM (by repeat (first | (with_reducible exact HS.out) | (with_reducible apply Sx.drew) | (with_reducible apply Sx.drewN) | (with_reducible apply Sx.alloc))) (g := gB) (cs := #[.bool b, .slice Ab1 lb1.length cb1, .slice Ab2 lb2.length cb2]) (t := 28) (by simp)) 1).trans rfl, (blk_cell (Sx.blkM (by repeat (first | (with_reducible exact HS.out) | (with_reducible apply Sx.drew) | (with_reducible apply Sx.drewN) | (with_reducible apply Sx.alloc))) (g := gB) (cs := #[.bool b, .slice Ab1 lb1.length cb1, .slice Ab2 lb2.length cb2]) (t := 28) (by simp)) 2).trans rfl⟩)) (first | (go_at_call 90; refine (impl_Array_rank.calls b Ab1 cb1 lb1 Ab2 cb2 lb2 (lb1.length : Int) _ (Kd.C_below Hb1.out (show Sx w _ [(.blk gR #[.slice none 0 0, .slice none 0 0] 70), (.blk gB #[.bool b, .slice Ab1 lb1.length cb1, .slice Ab2 lb2.length cb2] 28), (.blk gK #[.bool a, .slice Aa1 la1.length ca1, .slice Aa2 la2.length ca2] 28)] from (by repeat (first | (with_reducible exact HS.out) | (with_reducible apply Sx.drew) | (with_reducible apply Sx.drewN) | (with_reducible apply Sx.alloc)))).below) Kb1.out (Kd.C_below Hb2.out (show Sx w _ [(.blk gR #[.slice none 0 0, .slice none 0 0] 70), (.blk gB #[.bool b, .slice Ab1 lb1.length cb1, .slice Ab2 lb2.length cb2] 28), (.blk gK #[.bool a, .slice Aa1 la1.length ca1, .slice Aa2 la2.length ca2] 28)] from (by repeat (first | (with_reducible exact HS.out) | (with_reducible apply Sx.drew) | (with_reducible apply Sx.drewN) | (with_reducible apply Sx.alloc)))).below) Kb2.out rfl).mono ?_; rintro e w5 ⟨rfl, hb5⟩; have nS : Aside0 (Sx w w5 [(.blk gR #[.slice none 0 0, .slice none 0 0] 70), (.blk gB #[.bool b, .slice Ab1 lb1.length cb1, .slice Ab2 lb2.length cb2] 28), (.blk gK #[.bool a, .slice Aa1 la1.length ca1, .slice Aa2 la2.length ca2] 28)]) := Aside0.mk ((show Sx w _ [(.blk gR #[.slice none 0 0, .slice none 0 0] 70), (.blk gB #[.bool b, .slice Ab1 lb1.length cb1, .slice Ab2 lb2.length cb2] 28), (.blk gK #[.bool a, .slice Aa1 la1.length ca1, .slice Aa2 la2.length ca2] 28)] from (by repeat (first | (with_reducible exact HS.out) | (with_reducible apply Sx.drew) | (with_reducible apply Sx.drewN) | (with_reducible apply Sx.alloc)))).step hb5); clear HS; have HS := nS; clear nS hb5))
  go_wp2_with (first | ((with_reducible refine gate_store rfl ?_); refine store_named rfl 70 (.tmp 4) (.tmp 19) rfl gR #[.slice none 0 0, .slice none 0 0] rfl rfl 70 #[.slice none 0 0, .slice none 0 0] (HS.out.blk 0 rfl) (by kernel_rfl) rfl (by simp [Value.oneCell']) ?_; intro w6 hx6 hb6; have nS : Aside0 (Sx w w6 [(.blk gR #[.slice none 0 0, .slice none 0 0] 70), (.blk gB #[.bool b, .slice Ab1 lb1.length cb1, .slice Ab2 lb2.length cb2] 28), (.blk gK #[.bool a, .slice Aa1 la1.length ca1, .slice Aa2 la2.length ca2] 28)]) := Aside0.mk (HS.out.put 0 rfl hx6 hb6); clear HS; have HS := nS; clear nS hx6 hb6))
  refine bodyPost_ret (results_ct rfl _ _ gR 70 #[.slice none 0 0, .slice none 0 0] (0, 0) _ rfl (HS.out.blk 0 rfl) Try.underlying70 rfl (by kernel_rfl)) rfl ?_
  exact ⟨none, 0, none, 0, rfl, Kd.C_nil _ _, Nat.le_refl _, Kd.C_nil _ _, Nat.le_refl _, HS.out.below⟩
set_option maxHeartbeats 2000000 in
set_option maxRecDepth 100000 in
theorem transMove_perm (a : Bool) (Aa1 : Option Addr) (ca1 : Nat) (la1 : List Int) (Aa2 : Option Addr) (ca2 : Nat) (la2 : List Int) (b : Bool) (Ab1 : Option Addr) (cb1 : Nat) (lb1 : List Int) (Ab2 : Option Addr) (cb2 : Nat) (lb2 : List Int) (w : World) (ha1 : Kd.C (Kd.int .i64) w Aa1 la1.length la1) (ka1 : la1.length ≤ ca1) (ha2 : Kd.C (Kd.int .i64) w Aa2 la2.length la2) (ka2 : la2.length ≤ ca2) (hb1 : Kd.C (Kd.int .i64) w Ab1 lb1.length lb1) (kb1 : lb1.length ≤ cb1) (hb2 : Kd.C (Kd.int .i64) w Ab2 lb2.length lb2) (kb2 : lb2.length ≤ cb2) (hf : impl_listOk.f a la1 la2 = some 0) (hn : la2.length = lb1.length) (k1 : Nat) (hq : impl_permutation.f k1 la2 = some false) :
    Calls Try.prog 79 #[.agg #[.bool a, .slice Aa1 la1.length ca1, .slice Aa2 la2.length ca2], .agg #[.bool b, .slice Ab1 lb1.length cb1, .slice Ab2 lb2.length cb2]] w fun e w' => ∃ A1 c1 A2 c2, e = .returned (.tuple #[.agg #[.slice A1 ([] : List Int).length c1, .slice A2 ([] : List Int).length c2], .int .i64 3]) ∧ Kd.C (Kd.int .i64) w' A1 ([] : List Int).length [] ∧ ([] : List Int).length ≤ c1 ∧ Kd.C (Kd.int .i64) w' A2 ([] : List Int).length [] ∧ ([] : List Int).length ≤ c2 ∧ Below w.heap.size w w' := by
  have Ha1 := Aside0.mk ha1
  have Ka1 := Aside0.mk ka1
  clear ha1 ka1
  have Ha2 := Aside0.mk ha2
  have Ka2 := Aside0.mk ka2
  clear ha2 ka2
  have Hb1 := Aside0.mk hb1
  have Kb1 := Aside0.mk kb1
  clear hb1 kb1
  have Hb2 := Aside0.mk hb2
  have Kb2 := Aside0.mk kb2
  clear hb2 kb2
  have HF := Aside0.mk hf
  clear hf
  have c0 : ((la2.length : Int) == (lb1.length : Int)) = true := beq_iff_eq.mpr (by omega)
  have c1 : ((la2.length : Int) != (lb1.length : Int)) = false := by simp [hn]
  have HN := Aside0.mk hn
  clear hn
  have HQ := Aside0.mk hq
  clear hq
  have HS := Aside0.mk (Sx.start w)
  go_enter Try.func79, Try.ntmps79
  go_upto_region 4 with (first | ((with_reducible refine gate_dst (N := 2) rfl ?_); refine box_event ?hg (N := 2) ?hd (cs := #[.bool a, .slice Aa1 la1.length ca1, .slice Aa2 la2.length ca2]) (t := 28) ?hr ?_; (case hd => rfl); (case hg => rfl); (case hr => first | (go_simp; done) | (go_simp; rfl)); intro gK hg1 w1 hx1 hb1; have nS : Aside0 (Sx w w1 [(.blk gK #[.bool a, .slice Aa1 la1.length ca1, .slice Aa2 la2.length ca2] 28)]) := Aside0.mk (HS.out.box hg1 hx1 hb1); clear HS; have HS := nS; clear nS hg1 hx1 hb1) | ((with_reducible refine gate_dst (N := 3) rfl ?_); refine box_event ?hg (N := 3) ?hd (cs := #[.bool b, .slice Ab1 lb1.length cb1, .slice Ab2 lb2.length cb2]) (t := 28) ?hr ?_; (case hd => rfl); (case hg => rfl); (case hr => first | (go_simp; done) | (go_simp; rfl)); intro gB hg2 w2 hx2 hb2; have nS : Aside0 (Sx w w2 [(.blk gB #[.bool b, .slice Ab1 lb1.length cb1, .slice Ab2 lb2.length cb2] 28), (.blk gK #[.bool a, .slice Aa1 la1.length ca1, .slice Aa2 la2.length ca2] 28)]) := Aside0.mk (HS.out.box hg2 hx2 hb2); clear HS; have HS := nS; clear nS hg2 hx2 hb2) | ((with_reducible refine gate_dst (N := 4) rfl ?_); refine box_event ?hg (N := 4) ?hd (cs := #[.slice none 0 0, .slice none 0 0]) (t := 70) ?hr ?_; (case hd => rfl); (case hg => rfl); (case hr => first | (go_simp; done) | (go_simp; rfl)); intro gR hg3 w3 hx3 hb3; have nS : Aside0 (Sx w w3 [(.blk gR #[.slice none 0 0, .slice none 0 0] 70), (.blk gB #[.bool b, .slice Ab1 lb1.length cb1, .slice Ab2 lb2.length cb2] 28), (.blk gK #[.bool a, .slice Aa1 la1.length ca1, .slice Aa2 la2.length ca2] 28)]) := Aside0.mk (HS.out.box hg3 hx3 hb3); clear HS; have HS := nS; clear nS hg3 hx3 hb3) | ((with_reducible refine gate_dst (N := 7) rfl ?_); refine wpList_load_row rfl 28 (.tmp 2) rfl gK rfl 28 #[.bool a, .slice Aa1 la1.length ca1, .slice Aa2 la2.length ca2] (0, 0) _ (HS.out.blk 2 rfl) Try.underlying28 rfl (by kernel_rfl) ?_) | (go_at_call 99; refine (impl_listOk.calls a Aa1 ca1 la1 Aa2 ca2 la2 0 _ (Kd.C_below Ha1.out HS.out.below) Ka1.out (Kd.C_below Ha2.out HS.out.below) Ka2.out HF.out).mono ?_; rintro e w4 ⟨rfl, hb4⟩; have nS : Aside0 (Sx w w4 [(.blk gR #[.slice none 0 0, .slice none 0 0] 70), (.blk gB #[.bool b, .slice Ab1 lb1.length cb1, .slice Ab2 lb2.length cb2] 28), (.blk gK #[.bool a, .slice Aa1 la1.length ca1, .slice Aa2 la2.length ca2] 28)]) := Aside0.mk (HS.out.step hb4); clear HS; have HS := nS; clear nS hb4))
  go_region_held3 (fun w' => w'.cell? ⟨gK, 2, none⟩ = some (.slice Aa2 la2.length ca2) ∧ w'.cell? ⟨gB, 0, none⟩ = some (.bool b) ∧ w'.cell? ⟨gB, 1, none⟩ = some (.slice Ab1 lb1.length cb1) ∧ w'.cell? ⟨gB, 2, none⟩ = some (.slice Ab2 lb2.length cb2)) ((exact ⟨(blk_cell (Sx.blkM (by repeat (first | (with_reducible exact HS.out) | (with_reducible apply Sx.drew) | (with_reducible apply Sx.drewN) | (with_reducible apply Sx.alloc))) (g := gK) (cs := #[.bool a, .slice Aa1 la1.length ca1, .slice Aa2 la2.length ca2]) (t := 28) (by simp)) 2).trans rfl, (blk_cell (Sx.blkM (by repeat (first | (with_reducible exact HS.out) | (with_reducible apply Sx.drew) | (with_reducible apply Sx.drewN) | (with_reducible apply Sx.alloc))) (g := gB) (cs := #[.bool b, .slice Ab1 lb1.length cb1, .slice Ab2 lb2.length cb2]) (t := 28) (by simp)) 0).trans rfl, (blk_cell (Sx.blkM (by repeat (first | (with_reducible exact HS.out) | (with_reducible apply Sx.drew) | (with_reducible apply Sx.drewN) | (with_reducible apply Sx.alloc))) (g := gB) (cs := #[.bool b, .slice Ab1 lb1.length cb1, .slice Ab2 lb2.length cb2]) (t := 28) (by simp)) 1).trans rfl, (blk_cell (Sx.blkM (by repeat (first | (with_reducible exact HS.out) | (with_reducible apply Sx.drew) | (with_reducible apply Sx.drewN) | (with_reducible apply Sx.alloc))) (g := gB) (cs := #[.bool b, .slice Ab1 lb1.length cb1, .slice Ab2 lb2.length cb2]) (t := 28) (by simp)) 2).trans rfl⟩)) (first | (go_at_call 90; refine (impl_Array_rank.calls b Ab1 cb1 lb1 Ab2 cb2 lb2 (lb1.length : Int) _ (Kd.C_below Hb1.out (show Sx w _ [(.blk gR #[.slice none 0 0, .slice none 0 0] 70), (.blk gB #[.bool b, .slice Ab1 lb1.length cb1, .slice Ab2 lb2.length cb2] 28), (.blk gK #[.bool a, .slice Aa1 la1.length ca1, .slice Aa2 la2.length ca2] 28)] from (by repeat (first | (with_reducible exact HS.out) | (with_reducible apply Sx.drew) | (with_reducible apply Sx.drewN) | (with_reducible apply Sx.alloc)))).below) Kb1.out (Kd.C_below Hb2.out (show Sx w _ [(.blk gR #[.slice none 0 0, .slice none 0 0] 70), (.blk gB #[.bool b, .slice Ab1 lb1.length cb1, .slice Ab2 lb2.length cb2] 28), (.blk gK #[.bool a, .slice Aa1 la1.length ca1, .slice Aa2 la2.length ca2] 28)] from (by repeat (first | (with_reducible exact HS.out) | (with_reducible apply Sx.drew) | (with_reducible apply Sx.drewN) | (with_reducible apply Sx.alloc)))).below) Kb2.out rfl).mono ?_; rintro e w5 ⟨rfl, hb5⟩; have nS : Aside0 (Sx w w5 [(.blk gR #[.slice none 0 0, .slice none 0 0] 70), (.blk gB #[.bool b, .slice Ab1 lb1.length cb1, .slice Ab2 lb2.length cb2] 28), (.blk gK #[.bool a, .slice Aa1 la1.length ca1, .slice Aa2 la2.length ca2] 28)]) := Aside0.mk ((show Sx w _ [(.blk gR #[.slice none 0 0, .slice none 0 0] 70), (.blk gB #[.bool b, .slice Ab1 lb1.length cb1, .slice Ab2 lb2.length cb2] 28), (.blk gK #[.bool a, .slice Aa1 la1.length ca1, .slice Aa2 la2.length ca2] 28)] from (by repeat (first | (with_reducible exact HS.out) | (with_reducible apply Sx.drew) | (with_reducible apply Sx.drewN) | (with_reducible apply Sx.alloc)))).step hb5); clear HS; have HS := nS; clear nS hb5))
  go_wp2_with (first | ((with_reducible refine gate_dst (N := 21) rfl ?_); refine ev_load rfl 22 (.tmp 20) rfl ⟨gK, 2, none⟩ rfl (.slice Aa2 la2.length ca2) ((blk_cell (HS.out.blk 2 rfl) 2).trans rfl) (by kernel_rfl) ?_) | (go_at_call 124; refine (impl_permutation.calls k1 Aa2 ca2 la2 false _ (Kd.C_below Ha2.out HS.out.below) Ka2.out HQ.out).mono ?_; rintro e w6 ⟨rfl, hb6⟩; have nS : Aside0 (Sx w w6 [(.blk gR #[.slice none 0 0, .slice none 0 0] 70), (.blk gB #[.bool b, .slice Ab1 lb1.length cb1, .slice Ab2 lb2.length cb2] 28), (.blk gK #[.bool a, .slice Aa1 la1.length ca1, .slice Aa2 la2.length ca2] 28)]) := Aside0.mk (HS.out.step hb6); clear HS; have HS := nS; clear nS hb6) | ((with_reducible refine gate_store rfl ?_); refine store_named rfl 70 (.tmp 4) (.tmp 24) rfl gR #[.slice none 0 0, .slice none 0 0] rfl rfl 70 #[.slice none 0 0, .slice none 0 0] (HS.out.blk 0 rfl) (by kernel_rfl) rfl (by simp [Value.oneCell']) ?_; intro w7 hx7 hb7; have nS : Aside0 (Sx w w7 [(.blk gR #[.slice none 0 0, .slice none 0 0] 70), (.blk gB #[.bool b, .slice Ab1 lb1.length cb1, .slice Ab2 lb2.length cb2] 28), (.blk gK #[.bool a, .slice Aa1 la1.length ca1, .slice Aa2 la2.length ca2] 28)]) := Aside0.mk (HS.out.put 0 rfl hx7 hb7); clear HS; have HS := nS; clear nS hx7 hb7))
  refine bodyPost_ret (results_ct rfl _ _ gR 70 #[.slice none 0 0, .slice none 0 0] (0, 0) _ rfl (HS.out.blk 0 rfl) Try.underlying70 rfl (by kernel_rfl)) rfl ?_
  exact ⟨none, 0, none, 0, rfl, Kd.C_nil _ _, Nat.le_refl _, Kd.C_nil _ _, Nat.le_refl _, HS.out.below⟩
set_option maxHeartbeats 2000000 in
set_option maxRecDepth 100000 in
theorem transMove_ok (a : Bool) (Aa1 : Option Addr) (ca1 : Nat) (la1 : List Int) (Aa2 : Option Addr) (ca2 : Nat) (la2 : List Int) (b : Bool) (Ab1 : Option Addr) (cb1 : Nat) (lb1 : List Int) (Ab2 : Option Addr) (cb2 : Nat) (lb2 : List Int) (w : World) (ha1 : Kd.C (Kd.int .i64) w Aa1 la1.length la1) (ka1 : la1.length ≤ ca1) (ha2 : Kd.C (Kd.int .i64) w Aa2 la2.length la2) (ka2 : la2.length ≤ ca2) (hb1 : Kd.C (Kd.int .i64) w Ab1 lb1.length lb1) (kb1 : lb1.length ≤ cb1) (hb2 : Kd.C (Kd.int .i64) w Ab2 lb2.length lb2) (kb2 : lb2.length ≤ cb2) (hf : impl_listOk.f a la1 la2 = some 0) (hn : la2.length = lb1.length) (k1 k2 : Nat) (hq : impl_permutation.f k1 la2 = some true) (h5 : la2.length ≤ 5) (hb : permB la2 = true) (hpr : 0 ≤ prod (trSh la2 lb1) ∧ prod (trSh la2 lb1) ≤ 10000) (hk : impl_shapeOk.f k2 (trSh la2 lb1) = some (prod (trSh la2 lb1), true)) :
    Calls Try.prog 79 #[.agg #[.bool a, .slice Aa1 la1.length ca1, .slice Aa2 la2.length ca2], .agg #[.bool b, .slice Ab1 lb1.length cb1, .slice Ab2 lb2.length cb2]] w fun e w' => ∃ A1 c1 A2 c2, e = .returned (.tuple #[.agg #[.slice A1 ((trSh la2 lb1) : List Int).length c1, .slice A2 ((trL la2 lb1 (prod (trSh la2 lb1)).toNat) : List Int).length c2], .int .i64 0]) ∧ Kd.C (Kd.int .i64) w' A1 ((trSh la2 lb1) : List Int).length (trSh la2 lb1) ∧ ((trSh la2 lb1) : List Int).length ≤ c1 ∧ Kd.C (Kd.int .i64) w' A2 ((trL la2 lb1 (prod (trSh la2 lb1)).toNat) : List Int).length (trL la2 lb1 (prod (trSh la2 lb1)).toNat) ∧ ((trL la2 lb1 (prod (trSh la2 lb1)).toNat) : List Int).length ≤ c2 ∧ Below w.heap.size w w' := by
  have Ha1 := Aside0.mk ha1
  have Ka1 := Aside0.mk ka1
  clear ha1 ka1
  have Ha2 := Aside0.mk ha2
  have Ka2 := Aside0.mk ka2
  clear ha2 ka2
  have Hb1 := Aside0.mk hb1
  have Kb1 := Aside0.mk kb1
  clear hb1 kb1
  have Hb2 := Aside0.mk hb2
  have Kb2 := Aside0.mk kb2
  clear hb2 kb2
  have HF := Aside0.mk hf
  clear hf
  have c0 : ((la2.length : Int) == (lb1.length : Int)) = true := beq_iff_eq.mpr (by omega)
  have c1 : ((la2.length : Int) != (lb1.length : Int)) = false := by simp [hn]
  have HN := Aside0.mk hn
  clear hn
  have HQ := Aside0.mk hq
  have H5 := Aside0.mk h5
  have HPB := Aside0.mk hb
  have HPR := Aside0.mk hpr
  have HK := Aside0.mk hk
  clear hq h5 hb hpr hk
  have HS := Aside0.mk (Sx.start w)
  go_enter Try.func79, Try.ntmps79
  go_upto_region 4 with (first | ((with_reducible refine gate_dst (N := 2) rfl ?_); refine box_event ?hg (N := 2) ?hd (cs := #[.bool a, .slice Aa1 la1.length ca1, .slice Aa2 la2.length ca2]) (t := 28) ?hr ?_; (case hd => rfl); (case hg => rfl); (case hr => first | (go_simp; done) | (go_simp; rfl)); intro gK hg1 w1 hx1 hb1; have nS : Aside0 (Sx w w1 [(.blk gK #[.bool a, .slice Aa1 la1.length ca1, .slice Aa2 la2.length ca2] 28)]) := Aside0.mk (HS.out.box hg1 hx1 hb1); clear HS; have HS := nS; clear nS hg1 hx1 hb1) | ((with_reducible refine gate_dst (N := 3) rfl ?_); refine box_event ?hg (N := 3) ?hd (cs := #[.bool b, .slice Ab1 lb1.length cb1, .slice Ab2 lb2.length cb2]) (t := 28) ?hr ?_; (case hd => rfl); (case hg => rfl); (case hr => first | (go_simp; done) | (go_simp; rfl)); intro gB hg2 w2 hx2 hb2; have nS : Aside0 (Sx w w2 [(.blk gB #[.bool b, .slice Ab1 lb1.length cb1, .slice Ab2 lb2.length cb2] 28), (.blk gK #[.bool a, .slice Aa1 la1.length ca1, .slice Aa2 la2.length ca2] 28)]) := Aside0.mk (HS.out.box hg2 hx2 hb2); clear HS; have HS := nS; clear nS hg2 hx2 hb2) | ((with_reducible refine gate_dst (N := 4) rfl ?_); refine box_event ?hg (N := 4) ?hd (cs := #[.slice none 0 0, .slice none 0 0]) (t := 70) ?hr ?_; (case hd => rfl); (case hg => rfl); (case hr => first | (go_simp; done) | (go_simp; rfl)); intro gR hg3 w3 hx3 hb3; have nS : Aside0 (Sx w w3 [(.blk gR #[.slice none 0 0, .slice none 0 0] 70), (.blk gB #[.bool b, .slice Ab1 lb1.length cb1, .slice Ab2 lb2.length cb2] 28), (.blk gK #[.bool a, .slice Aa1 la1.length ca1, .slice Aa2 la2.length ca2] 28)]) := Aside0.mk (HS.out.box hg3 hx3 hb3); clear HS; have HS := nS; clear nS hg3 hx3 hb3) | ((with_reducible refine gate_dst (N := 7) rfl ?_); refine wpList_load_row rfl 28 (.tmp 2) rfl gK rfl 28 #[.bool a, .slice Aa1 la1.length ca1, .slice Aa2 la2.length ca2] (0, 0) _ (HS.out.blk 2 rfl) Try.underlying28 rfl (by kernel_rfl) ?_) | (go_at_call 99; refine (impl_listOk.calls a Aa1 ca1 la1 Aa2 ca2 la2 0 _ (Kd.C_below Ha1.out HS.out.below) Ka1.out (Kd.C_below Ha2.out HS.out.below) Ka2.out HF.out).mono ?_; rintro e w4 ⟨rfl, hb4⟩; have nS : Aside0 (Sx w w4 [(.blk gR #[.slice none 0 0, .slice none 0 0] 70), (.blk gB #[.bool b, .slice Ab1 lb1.length cb1, .slice Ab2 lb2.length cb2] 28), (.blk gK #[.bool a, .slice Aa1 la1.length ca1, .slice Aa2 la2.length ca2] 28)]) := Aside0.mk (HS.out.step hb4); clear HS; have HS := nS; clear nS hb4))
  go_region_held3 (fun w' => w'.cell? ⟨gK, 2, none⟩ = some (.slice Aa2 la2.length ca2) ∧ w'.cell? ⟨gB, 0, none⟩ = some (.bool b) ∧ w'.cell? ⟨gB, 1, none⟩ = some (.slice Ab1 lb1.length cb1) ∧ w'.cell? ⟨gB, 2, none⟩ = some (.slice Ab2 lb2.length cb2)) ((exact ⟨(blk_cell (Sx.blkM (by repeat (first | (with_reducible exact HS.out) | (with_reducible apply Sx.drew) | (with_reducible apply Sx.drewN) | (with_reducible apply Sx.alloc))) (g := gK) (cs := #[.bool a, .slice Aa1 la1.length ca1, .slice Aa2 la2.length ca2]) (t := 28) (by simp)) 2).trans rfl, (blk_cell (Sx.blkM (by repeat (first | (with_reducible exact HS.out) | (with_reducible apply Sx.drew) | (with_reducible apply Sx.drewN) | (with_reducible apply Sx.alloc))) (g := gB) (cs := #[.bool b, .slice Ab1 lb1.length cb1, .slice Ab2 lb2.length cb2]) (t := 28) (by simp)) 0).trans rfl, (blk_cell (Sx.blkM (by repeat (first | (with_reducible exact HS.out) | (with_reducible apply Sx.drew) | (with_reducible apply Sx.drewN) | (with_reducible apply Sx.alloc))) (g := gB) (cs := #[.bool b, .slice Ab1 lb1.length cb1, .slice Ab2 lb2.length cb2]) (t := 28) (by simp)) 1).trans rfl, (blk_cell (Sx.blkM (by repeat (first | (with_reducible exact HS.out) | (with_reducible apply Sx.drew) | (with_reducible apply Sx.drewN) | (with_reducible apply Sx.alloc))) (g := gB) (cs := #[.bool b, .slice Ab1 lb1.length cb1, .slice Ab2 lb2.length cb2]) (t := 28) (by simp)) 2).trans rfl⟩)) (first | (go_at_call 90; refine (impl_Array_rank.calls b Ab1 cb1 lb1 Ab2 cb2 lb2 (lb1.length : Int) _ (Kd.C_below Hb1.out (show Sx w _ [(.blk gR #[.slice none 0 0, .slice none 0 0] 70), (.blk gB #[.bool b, .slice Ab1 lb1.length cb1, .slice Ab2 lb2.length cb2] 28), (.blk gK #[.bool a, .slice Aa1 la1.length ca1, .slice Aa2 la2.length ca2] 28)] from (by repeat (first | (with_reducible exact HS.out) | (with_reducible apply Sx.drew) | (with_reducible apply Sx.drewN) | (with_reducible apply Sx.alloc)))).below) Kb1.out (Kd.C_below Hb2.out (show Sx w _ [(.blk gR #[.slice none 0 0, .slice none 0 0] 70), (.blk gB #[.bool b, .slice Ab1 lb1.length cb1, .slice Ab2 lb2.length cb2] 28), (.blk gK #[.bool a, .slice Aa1 la1.length ca1, .slice Aa2 la2.length ca2] 28)] from (by repeat (first | (with_reducible exact HS.out) | (with_reducible apply Sx.drew) | (with_reducible apply Sx.drewN) | (with_reducible apply Sx.alloc)))).below) Kb2.out rfl).mono ?_; rintro e w5 ⟨rfl, hb5⟩; have nS : Aside0 (Sx w w5 [(.blk gR #[.slice none 0 0, .slice none 0 0] 70), (.blk gB #[.bool b, .slice Ab1 lb1.length cb1, .slice Ab2 lb2.length cb2] 28), (.blk gK #[.bool a, .slice Aa1 la1.length ca1, .slice Aa2 la2.length ca2] 28)]) := Aside0.mk ((show Sx w _ [(.blk gR #[.slice none 0 0, .slice none 0 0] 70), (.blk gB #[.bool b, .slice Ab1 lb1.length cb1, .slice Ab2 lb2.length cb2] 28), (.blk gK #[.bool a, .slice Aa1 la1.length ca1, .slice Aa2 la2.length ca2] 28)] from (by repeat (first | (with_reducible exact HS.out) | (with_reducible apply Sx.drew) | (with_reducible apply Sx.drewN) | (with_reducible apply Sx.alloc)))).step hb5); clear HS; have HS := nS; clear nS hb5))
  go_wp2_with (first | ((with_reducible refine gate_dst (N := 21) rfl ?_); refine ev_load rfl 22 (.tmp 20) rfl ⟨gK, 2, none⟩ rfl (.slice Aa2 la2.length ca2) ((blk_cell (HS.out.blk 2 rfl) 2).trans rfl) (by kernel_rfl) ?_) | (go_at_call 124; refine (impl_permutation.calls k1 Aa2 ca2 la2 true _ (Kd.C_below Ha2.out HS.out.below) Ka2.out HQ.out).mono ?_; rintro e w6 ⟨rfl, hb6⟩; have nS : Aside0 (Sx w w6 [(.blk gR #[.slice none 0 0, .slice none 0 0] 70), (.blk gB #[.bool b, .slice Ab1 lb1.length cb1, .slice Ab2 lb2.length cb2] 28), (.blk gK #[.bool a, .slice Aa1 la1.length ca1, .slice Aa2 la2.length ca2] 28)]) := Aside0.mk (HS.out.step hb6); clear HS; have HS := nS; clear nS hb6) | ((with_reducible refine gate_dst (N := 26) rfl ?_); refine ev_load rfl 22 (.tmp 25) rfl ⟨gK, 2, none⟩ rfl (.slice Aa2 la2.length ca2) ((blk_cell (HS.out.blk 2 rfl) 2).trans rfl) (by kernel_rfl) ?_) | ((with_reducible refine gate_dst (N := 27) rfl ?_); refine wpList_load_row rfl 28 (.tmp 3) rfl gB rfl 28 #[.bool b, .slice Ab1 lb1.length cb1, .slice Ab2 lb2.length cb2] (0, 0) _ (HS.out.blk 1 rfl) Try.underlying28 rfl (by kernel_rfl) ?_) | (go_at_call 125; refine (permuted_in Aa2 ca2 la2 b Ab1 cb1 lb1 Ab2 cb2 lb2 _ (Kd.C_below Ha2.out HS.out.below) Ka2.out (Kd.C_below Hb1.out HS.out.below) Kb1.out (Kd.C_below Hb2.out HS.out.below) Kb2.out HN.out H5.out HPB.out HPR.out k2 HK.out).mono ?_; rintro e w7 ⟨Am1, cm1, Am2, cm2, rfl, hma7, kma, hmb7, kmb, hb7⟩; have HMA := Aside0.mk hma7; have KMA := Aside0.mk kma; have HMB := Aside0.mk hmb7; have KMB := Aside0.mk kmb; clear hma7 kma hmb7 kmb; have nS : Aside0 (Sx w w7 [(.blk gR #[.slice none 0 0, .slice none 0 0] 70), (.blk gB #[.bool b, .slice Ab1 lb1.length cb1, .slice Ab2 lb2.length cb2] 28), (.blk gK #[.bool a, .slice Aa1 la1.length ca1, .slice Aa2 la2.length ca2] 28)]) := Aside0.mk (HS.out.step hb7); clear HS; have HS := nS; clear nS hb7) | ((with_reducible refine gate_store rfl ?_); refine store_named rfl 70 (.tmp 4) (.tmp 28) rfl gR #[.slice Am1 (trSh la2 lb1).length cm1, .slice Am2 (trL la2 lb1 (prod (trSh la2 lb1)).toNat).length cm2] rfl rfl 70 #[.slice none 0 0, .slice none 0 0] (HS.out.blk 0 rfl) (by kernel_rfl) rfl (by simp [Value.oneCell']) ?_; intro w8 hx8 hb8; have nMA := Aside0.mk (C_but1 HMA.out hb8 (HS.out.blk 0 rfl) noInt_ZM); have nMB := Aside0.mk (C_but1 HMB.out hb8 (HS.out.blk 0 rfl) noInt_ZM); clear HMA HMB; have HMA := nMA; have HMB := nMB; clear nMA nMB; have nS : Aside0 (Sx w w8 [(.blk gR #[.slice Am1 (trSh la2 lb1).length cm1, .slice Am2 (trL la2 lb1 (prod (trSh la2 lb1)).toNat).length cm2] 70), (.blk gB #[.bool b, .slice Ab1 lb1.length cb1, .slice Ab2 lb2.length cb2] 28), (.blk gK #[.bool a, .slice Aa1 la1.length ca1, .slice Aa2 la2.length ca2] 28)]) := Aside0.mk (HS.out.put 0 rfl hx8 hb8); clear HS; have HS := nS; clear nS hx8 hb8))
  refine bodyPost_ret (results_ct rfl _ _ gR 70 #[.slice Am1 (trSh la2 lb1).length cm1, .slice Am2 (trL la2 lb1 (prod (trSh la2 lb1)).toNat).length cm2] (0, 0) _ rfl (HS.out.blk 0 rfl) Try.underlying70 rfl (by kernel_rfl)) rfl ?_
  exact ⟨Am1, cm1, Am2, cm2, rfl, HMA.out, KMA.out, HMB.out, KMB.out, HS.out.below⟩
end Go.Proofs.Ytehfcnndjhjkoaa.PA

-- By a program (prt.py, over the print of the kit), for this claim. Not trusted: Lean checks it.
namespace Go.Proofs.Ytehfcnndjhjkoaa.PA
open Go.RowKit Go.Proofs.YtehfcnndjhjkoaaW.PrintWords Go.Proofs.YtehfcnndjhjkoaaW.PrintLast Go.Proofs.YtehfcnndjhjkoaaW.PrintMore
attribute [local go_sem] max2_int min2_int max_two min_two max_three min_three max_four min_four   -- for this text's walks alone
set_option linter.unusedVariables false
set_option linter.unusedSimpArgs false

/-! ### spec_l5At: function 78 -/
def spec_l5At.l0 : Nat → List Int → List Int → Int → Int → Option (Int)
  | 0, _, _, _, _ => none
  | k + 1, x0, x1, x5, x6 => if x6 < (x0.length : Int) then (if 0 ≤ x6 then (if x6 < (x1.length : Int) then (spec_l5At.l0 k x0 x1 (wrap64 ((wrap64 (x5 * (rd x0 x6))) + (rd x1 x6))) (wrap64 (x6 + 1))) else (none)) else (none)) else (some x5)
def spec_l5At.f (k : Nat) (l0 : List Int) (l1 : List Int) : Option (Int) := spec_l5At.l0 k l0 l1 0 0
theorem spec_l5At.mono_l : ∀ k, (∀ y0 y1 y2 y3, LeO (spec_l5At.l0 k y0 y1 y2 y3) (spec_l5At.l0 (k + 1) y0 y1 y2 y3))
  | 0 => fun _ _ _ _ r h => by simp [spec_l5At.l0] at h
  | k + 1 => by
    have ih0 := spec_l5At.mono_l k
    · intro y0 y1 y2 y3
      unfold spec_l5At.l0
      repeat' first
      | (with_reducible exact ih0 _ _ _ _)
      | (with_reducible exact LeO.refl _)
      | (with_reducible exact LeO.none _)
      | (with_reducible refine LeO.ite ?_ ?_)
      | (with_reducible refine LeO.bind ?_ (fun _ => ?_))
      | exact ih0 _ _ _ _
      | exact LeO.none _
      | refine LeO.ite ?_ ?_
      | refine LeO.bind ?_ (fun _ => ?_)
theorem spec_l5At.mono : ∀ a0 a1 k, LeO (spec_l5At.f k a0 a1) (spec_l5At.f (k + 1) a0 a1) := by
  intro a0 a1 k
  have ih0 := spec_l5At.mono_l k
  unfold spec_l5At.f
  repeat' first
      | (with_reducible exact ih0 _ _ _ _)
      | (with_reducible exact LeO.refl _)
      | (with_reducible exact LeO.none _)
      | (with_reducible refine LeO.ite ?_ ?_)
      | (with_reducible refine LeO.bind ?_ (fun _ => ?_))
      | exact ih0 _ _ _ _
      | exact LeO.none _
      | refine LeO.ite ?_ ?_
      | refine LeO.bind ?_ (fun _ => ?_)
set_option maxHeartbeats 8000000 in
set_option maxRecDepth 100000 in
theorem spec_l5At.calls (k : Nat) (A0 : Option Addr) (c0 : Nat) (l0 : List Int) (A1 : Option Addr) (c1 : Nat) (l1 : List Int) (r : Int) (w : World) (hr0 : Kd.C (Kd.int .i64) w A0 l0.length l0) (hc0 : l0.length ≤ c0) (hr1 : Kd.C (Kd.int .i64) w A1 l1.length l1) (hc1 : l1.length ≤ c1) (h : spec_l5At.f k l0 l1 = some r) :
    Calls Try.prog 78 #[.slice A0 l0.length c0, .slice A1 l1.length c1] w fun e w' => e = .returned (.int .i64 r) ∧ Drawn0 w w' := by
  have HR0 := Aside0.mk hr0
  have HC0 := Aside0.mk hc0
  clear hr0 hc0
  have HR1 := Aside0.mk hr1
  have HC1 := Aside0.mk hc1
  clear hr1 hc1
  have H : (spec_l5At.l0 k l0 l1 0 0) = some r := h
  clear h
  have H' := Aside0.mk H
  clear H
  go_enter Try.func78, Try.ntmps78
  go_wp2
  repeat (go_quiet (fail); try go_wp2)
  go_loopg [5, 6] k (fun kq v5 v6 w' => ∃ (x5_1 : Int) (x6_1 : Int), v5 = .int .i64 x5_1 ∧ v6 = .int .i64 x6_1 ∧ Aside0 (spec_l5At.l0 kq l0 l1 x5_1 x6_1 = some r) ∧ Aside0 (kq ≤ k) ∧ Drawn0 w w')
  case atStart => exact ⟨(0), (0), (by first | rfl | (simp; done) | (simp [*]; done)), (by first | rfl | (simp; done) | (simp [*]; done)), H', ⟨Nat.le_refl _⟩, by repeat (first | exact Drawn0.refl _ | apply Drawn0.step)⟩
  case round =>
    clear H'
    try clear c1
    try clear p2
    obtain ⟨x5_1, x6_1, rfl, rfl, HA, HK1, ⟨m1, rfl⟩⟩ := hrel
    cases gk with
    | zero => exact absurd HA.out (by simp [spec_l5At.l0])
    | succ k1 =>
      have H := HA.out
      clear HA
      simp only [spec_l5At.l0] at H
      by_cases c3 : x6_1 < (l0.length : Int)
      · rw [if_pos c3] at H
        have c3b0 : decide (x6_1 < (l0.length : Int)) = true := decide_eq_true c3
        clear c3
        by_cases c4 : 0 ≤ x6_1
        · rw [if_pos c4] at H
          have c4b0 : decide (0 ≤ x6_1) = true := decide_eq_true c4
          clear c4
          by_cases c5 : x6_1 < (l1.length : Int)
          · rw [if_pos c5] at H
            have c5b0 : decide (x6_1 < (l1.length : Int)) = true := decide_eq_true c5
            clear c5
            have H' := Aside0.mk H
            clear H
            have p101 : 0 ≤ (x6_1 : Int) := of_decide_eq_true (by first | (with_reducible assumption) | assumption)
            have q101 : x6_1 < (l0.length : Int) := of_decide_eq_true (by first | (with_reducible assumption) | assumption)
            obtain ⟨ad101, e101, hx101_0⟩ := Kd.at_int HR0.out x6_1 p101 q101
            cases e101
            replace p101 := eq_true p101
            replace q101 := eq_true q101
            have p102 : 0 ≤ (x6_1 : Int) := of_decide_eq_true (by first | (with_reducible assumption) | assumption)
            have q102 : x6_1 < (l1.length : Int) := of_decide_eq_true (by first | (with_reducible assumption) | assumption)
            obtain ⟨ad102, e102, hx102_0⟩ := Kd.at_int HR1.out x6_1 p102 q102
            cases e102
            replace p102 := eq_true p102
            replace q102 := eq_true q102
            go_wp2
            repeat (go_quiet (fail); try go_wp2)
            go_roundg k1
            case measure => have := HK1.out; omega
            case rel => exact ⟨(wrap64 ((wrap64 (x5_1 * (rd l0 x6_1))) + (rd l1 x6_1))), (wrap64 (x6_1 + 1)), (by first | rfl | (simp; done) | (simp [*]; done)), (by first | rfl | (simp; done) | (simp [*]; done)), H', ⟨by have := HK1.out; omega⟩, by repeat (first | exact Drawn0.refl _ | apply Drawn0.step)⟩
          · rw [if_neg c5] at H
            exact absurd H (by simp)
        · rw [if_neg c4] at H
          exact absurd H (by simp)
      · rw [if_neg c3] at H
        have c3b0 : decide (x6_1 < (l0.length : Int)) = false := decide_eq_false c3
        clear c3
        obtain rfl := Option.some.inj H
        go_wp2
        repeat (go_quiet (fail); try go_wp2)
        go_ret
        exact ⟨by first | rfl | (simp; done) | (simp [*]; done), by repeat (first | exact Drawn0.refl _ | apply Drawn0.step)⟩

end Go.Proofs.Ytehfcnndjhjkoaa.PA

namespace Go.Proofs.Ytehfcnndjhjkoaa.PA
open Go.RowKit Go.Proofs.YtehfcnndjhjkoaaW.PrintWords Go.Proofs.YtehfcnndjhjkoaaW.PrintLast Go.Proofs.YtehfcnndjhjkoaaW.PrintMore
set_option linter.unusedVariables false
set_option linter.unusedSimpArgs false
theorem l5At_loop (sh src : List Int) (h : sh.length = src.length) (hb : sh.length ≤ 1000000) : ∀ (m j : Nat) (n : Int), j + m = src.length → Ev (fun k => spec_l5At.l0 k sh src n (j : Int)) (numGo sh j n (src.drop j))
  | 0, j, n, hj => by
    refine evVal (evRound (Ev.now n) fun k => ?_) (by rw [List.drop_eq_nil_of_le (by omega), numGo])
    rw [spec_l5At.l0, if_neg (by omega)]
  | m + 1, j, n, hj => by
    have hlt : j < src.length := by omega
    have ih := l5At_loop sh src h hb m (j + 1) (wrap64 (wrap64 (n * rd sh (j : Int)) + rd src (j : Int))) (by omega)
    refine evVal (evRound ih fun k => ?_) (by
      rw [List.drop_eq_getElem_cons hlt, numGo]; simp [rd, List.getD_eq_getElem?_getD, hlt])
    rw [spec_l5At.l0, if_pos (by omega), if_pos (by omega), if_pos (by omega), w64 (x := (j : Int) + 1) (by omega) (by omega)]
    rfl
theorem l5At_ev (sh src : List Int) (h : sh.length = src.length) (hb : sh.length ≤ 1000000) : Ev (fun k => spec_l5At.f k sh src) (numGo sh 0 0 src) := by
  have := l5At_loop sh src h hb src.length 0 0 (by omega)
  simpa [spec_l5At.f] using this
/-- The number of an index in range is a place. -/
theorem num_range {sh src : List Int} (hs : ∀ a ∈ sh, 1 ≤ a) (hp : prod sh ≤ 1000000000) (hl : sh.length = src.length) (hr : ∀ k : Nat, k < src.length → 0 ≤ rd src (k : Int) ∧ rd src (k : Int) < rd sh (k : Int)) : 0 ≤ numGo sh 0 0 src ∧ numGo sh 0 0 src < prod sh := by
  have h := numGo_hor sh hs hp src [] sh 0 rfl hl (by omega) (by simp [prod]) hr
  simp only [List.length_nil] at h
  rw [h]
  have key : ∀ (s d : List Int) (n b : Int), s.length = d.length → (∀ a ∈ s, 1 ≤ a) → (∀ k : Nat, k < d.length → 0 ≤ rd d (k : Int) ∧ rd d (k : Int) < rd s (k : Int)) → 0 ≤ n → n < b → 0 ≤ hor n s d ∧ hor n s d < b * prod s := by
    intro s
    induction s with
    | nil => intro d n b hl _ _ h0 h1; obtain rfl := List.eq_nil_of_length_eq_zero hl.symm; simp [hor, prod]; omega
    | cons a s ih =>
      intro d n b hl ha hr h0 h1
      cases d with
      | nil => simp at hl
      | cons x d =>
        have hx := hr 0 (by simp)
        have e1 : rd (x :: d) ((0 : Nat) : Int) = x := by simp [rd]
        have e2 : rd (a :: s) ((0 : Nat) : Int) = a := by simp [rd]
        rw [e1, e2] at hx
        have h3 : n * a + x < b * a := by
          have h := Int.mul_le_mul_of_nonneg_right (show n + 1 ≤ b by omega) (show 0 ≤ a by omega)
          rw [Int.add_mul] at h; omega
        have h4 : 0 ≤ n * a := Int.mul_nonneg h0 (by omega)
        have := ih d (n * a + x) (b * a) (by simpa using hl) (fun y hy => ha y (by simp [hy])) (fun k hk => by
          have h := hr (k + 1) (by simp; omega)
          simp only [rd, Int.toNat_natCast, List.getD_cons_succ] at h ⊢
          exact h) (by omega) h3
        simp only [hor, prod]
        rw [← Int.mul_assoc]
        exact this
  have := key sh src 0 1 hl hs hr (by omega) (by omega)
  rwa [Int.one_mul] at this
end Go.Proofs.Ytehfcnndjhjkoaa.PA

-- By a program (prt.py, over the print of the kit), for this claim. Not trusted: Lean checks it.
namespace Go.Proofs.Ytehfcnndjhjkoaa.PA
open Go.RowKit Go.Proofs.YtehfcnndjhjkoaaW.PrintWords Go.Proofs.YtehfcnndjhjkoaaW.PrintLast Go.Proofs.YtehfcnndjhjkoaaW.PrintMore
attribute [local go_sem] max2_int min2_int max_two min_two max_three min_three max_four min_four   -- for this text's walks alone
set_option linter.unusedVariables false
set_option linter.unusedSimpArgs false

/-! ### spec_l5Index: function 77 -/
def spec_l5Index.l0 : Nat → List Int → Int → List Int → Int → Option (List Int)
  | 0, _, _, _, _ => none
  | k + 1, x0, x1, x5, x6 => if x6 ≥ 0 then (if 0 ≤ x6 then (if x6 < (x0.length : Int) then (if (rd x0 x6) = 0 then (none) else (if x6 < (x5.length : Int) then (spec_l5Index.l0 k x0 (wrap64 (Int.tdiv x1 (rd x0 x6))) (x5.set (x6 : Int).toNat (Int.tmod x1 (rd x0 x6))) (wrap64 (x6 - 1))) else (none))) else (none)) else (none)) else (some x5)
def spec_l5Index.f (k : Nat) (l0 : List Int) (a1 : Int) : Option (List Int) := if 0 ≤ (l0.length : Int) then (if ((l0.length : Int) : Int).toNat ≤ 35184372088832 then (spec_l5Index.l0 k l0 a1 (List.replicate ((l0.length : Int) : Int).toNat 0) (wrap64 ((l0.length : Int) - 1))) else (none)) else (none)
theorem spec_l5Index.mono_l : ∀ k, (∀ y0 y1 y2 y3, LeO (spec_l5Index.l0 k y0 y1 y2 y3) (spec_l5Index.l0 (k + 1) y0 y1 y2 y3))
  | 0 => fun _ _ _ _ r h => by simp [spec_l5Index.l0] at h
  | k + 1 => by
    have ih0 := spec_l5Index.mono_l k
    · intro y0 y1 y2 y3
      unfold spec_l5Index.l0
      repeat' first
      | (with_reducible exact ih0 _ _ _ _)
      | (with_reducible exact LeO.refl _)
      | (with_reducible exact LeO.none _)
      | (with_reducible refine LeO.ite ?_ ?_)
      | (with_reducible refine LeO.bind ?_ (fun _ => ?_))
      | exact ih0 _ _ _ _
      | exact LeO.none _
      | refine LeO.ite ?_ ?_
      | refine LeO.bind ?_ (fun _ => ?_)
theorem spec_l5Index.mono : ∀ a0 a1 k, LeO (spec_l5Index.f k a0 a1) (spec_l5Index.f (k + 1) a0 a1) := by
  intro a0 a1 k
  have ih0 := spec_l5Index.mono_l k
  unfold spec_l5Index.f
  repeat' first
      | (with_reducible exact ih0 _ _ _ _)
      | (with_reducible exact LeO.refl _)
      | (with_reducible exact LeO.none _)
      | (with_reducible refine LeO.ite ?_ ?_)
      | (with_reducible refine LeO.bind ?_ (fun _ => ?_))
      | exact ih0 _ _ _ _
      | exact LeO.none _
      | refine LeO.ite ?_ ?_
      | refine LeO.bind ?_ (fun _ => ?_)
set_option maxHeartbeats 8000000 in
set_option maxRecDepth 100000 in
theorem spec_l5Index.calls (k : Nat) (A0 : Option Addr) (c0 : Nat) (l0 : List Int) (a1 : Int) (r : List Int) (w : World) (hr0 : Kd.C (Kd.int .i64) w A0 l0.length l0) (hc0 : l0.length ≤ c0) (h : spec_l5Index.f k l0 a1 = some r) :
    Calls Try.prog 77 #[.slice A0 l0.length c0, .int .i64 a1] w fun e w' => ∃ v0_ : Value, e = .returned (v0_) ∧ Kd.R (Kd.int .i64) 3 w' w.heap.size (fun _ => True) v0_ r ∧ Below w.heap.size w w' := by
  have HR0 := Aside0.mk hr0
  have HC0 := Aside0.mk hc0
  clear hr0 hc0
  have HB := Aside0.mk (Below.refl w.heap.size w)
  have H : (if 0 ≤ (l0.length : Int) then (if ((l0.length : Int) : Int).toNat ≤ 35184372088832 then (spec_l5Index.l0 k l0 a1 (List.replicate ((l0.length : Int) : Int).toNat 0) (wrap64 ((l0.length : Int) - 1))) else (none)) else (none)) = some r := h
  clear h
  by_cases c3 : 0 ≤ (l0.length : Int)
  · rw [if_pos c3] at H
    have c3b0 := eq_true c3
    have c3b1 : decide (0 ≤ (l0.length : Int)) = true := decide_eq_true c3
    clear c3
    by_cases c4 : ((l0.length : Int) : Int).toNat ≤ 35184372088832
    · rw [if_pos c4] at H
      have c4b0 := eq_true c4
      have c4b1 : decide (((l0.length : Int) : Int).toNat ≤ 35184372088832) = true := decide_eq_true c4
      clear c4
      obtain ⟨y101, hy101⟩ : ∃ y_ : List Int, y_ = (List.replicate ((l0.length : Int) : Int).toNat 0) := ⟨_, rfl⟩
      replace H : (spec_l5Index.l0 k l0 a1 y101 (wrap64 ((l0.length : Int) - 1))) = some r := by first | (rw [hy101]; with_reducible exact H) | (have H2_ := (Option.bind_some _ _).symm.trans H; rw [hy101]; with_reducible exact H2_) | (have H2_ := (Option.bind_some _ _).symm.trans H; with_reducible exact H2_) | with_reducible exact H | (rw [hy101]; exact H) | exact H
      have Ny101 := Aside0.mk hy101
      clear hy101
      have H' := Aside0.mk H
      clear H
      go_enter Try.func77, Try.ntmps77
      go_wp2_with (first | ((with_reducible refine gate_dst (N := 9) rfl ?_); refine Kd.R_make (Kd.int .i64) _ 3 rfl (N := 9) rfl 22 _ _ rfl (l0.length : Int) rfl rfl Try.underlying22 (.int .i64 0) 8 info3 rfl (by decide) (by omega) 0 (ok := fun _ => True) (okp := fun _ => True) rfl (fun _ hk => hk) trivial (of_decide_eq_true (by first | (with_reducible assumption) | assumption)) (Nat.le_trans (Nat.mul_le_mul_right _ (of_decide_eq_true (by first | (with_reducible assumption) | assumption) : (l0.length : Int).toNat ≤ 35184372088832)) (by omega)) (Below.refl _ _) (Nat.le_refl _) ?_; intro v102 w5 ho6 hb hg_ hnew_; clear hg_ hnew_; (first | rw [← Ny101.out] at ho6 | (simp only [Int.reduceToNat] at ho6; rw [← Ny101.out] at ho6)); have n0_ := Aside0.mk (Kd.R_lower ho6 (below_size (by repeat (first | (with_reducible first | exact HB.out | apply below_alloc | apply pw_below_drewN | apply below_drew1) | exact HB.out)))); have n1_ := Aside0.mk (below_step (by repeat (first | (with_reducible first | exact HB.out | apply below_alloc | apply pw_below_drewN | apply below_drew1) | exact HB.out)) hb); clear HB; have HO103 := n0_; have HB := n1_; clear n0_ n1_; clear hb ho6))
      go_loopg [1, 6] k (fun kq v1 v6 w' => ∃ (x1_1 : Int) (x5_1 : List Int) (x6_1 : Int), v1 = .int .i64 x1_1 ∧ v6 = .int .i64 x6_1 ∧ Aside0 (spec_l5Index.l0 kq l0 x1_1 x5_1 x6_1 = some r) ∧ Aside0 (kq ≤ k) ∧ Aside0 (Kd.R (Kd.int .i64) 3 w' w.heap.size (fun _ => True) v102 x5_1) ∧ Aside0 (Below w.heap.size w w'))
      case atStart => exact ⟨(a1), (y101), (wrap64 ((l0.length : Int) - 1)), (by first | rfl | (simp; done) | (simp [*]; done)), (by first | rfl | (simp; done) | (simp [*]; done)), H', ⟨Nat.le_refl _⟩, ⟨by (with_reducible repeat (first | apply Kd.R_alloc | apply Kd.R_drewN | apply Kd.R_drew)); exact HO103.out⟩, ⟨by repeat (first | (with_reducible first | exact HB.out | apply below_alloc | apply pw_below_drewN | apply below_drew1) | exact HB.out)⟩⟩
      case round =>
        clear H'
        try clear p2
        try clear c3
        try clear c3b0
        try clear c3b1
        try clear c4
        try clear c4b0
        try clear c4b1
        try clear p6
        obtain ⟨x1_1, x5_1, x6_1, rfl, rfl, HA, HK1, HO_5, HB⟩ := hrel
        cases gk with
        | zero => exact absurd HA.out (by simp [spec_l5Index.l0])
        | succ k1 =>
          have H := HA.out
          clear HA
          simp only [spec_l5Index.l0] at H
          by_cases c7 : x6_1 ≥ 0
          · rw [if_pos c7] at H
            have c7b0 : decide (0 ≤ x6_1) = true := decide_eq_true c7
            clear c7
            by_cases c8 : 0 ≤ x6_1
            · rw [if_pos c8] at H
              have c8b0 : decide (0 ≤ x6_1) = true := decide_eq_true c8
              clear c8
              by_cases c9 : x6_1 < (l0.length : Int)
              · rw [if_pos c9] at H
                have c9b0 : decide (x6_1 < (l0.length : Int)) = true := decide_eq_true c9
                clear c9
                by_cases c10 : (rd l0 x6_1) = 0
                · rw [if_pos c10] at H
                  exact absurd H (by simp)
                · rw [if_neg c10] at H
                  have c10b0 : ((rd l0 x6_1) == 0) = false := beq_eq_false_iff_ne.mpr c10
                  have c10b1 : ((rd l0 x6_1) != 0) = true := bne_iff_ne.mpr c10
                  by_cases c11 : x6_1 < (x5_1.length : Int)
                  · rw [if_pos c11] at H
                    have c11b0 : decide (x6_1 < (x5_1.length : Int)) = true := decide_eq_true c11
                    clear c11
                    obtain ⟨y105, hy105⟩ : ∃ y_ : List Int, y_ = (x5_1.set (x6_1 : Int).toNat (Int.tmod x1_1 (rd l0 x6_1))) := ⟨_, rfl⟩
                    replace H : (spec_l5Index.l0 k1 l0 (wrap64 (Int.tdiv x1_1 (rd l0 x6_1))) y105 (wrap64 (x6_1 - 1))) = some r := by first | (rw [hy105]; with_reducible exact H) | (have H2_ := (Option.bind_some _ _).symm.trans H; rw [hy105]; with_reducible exact H2_) | (have H2_ := (Option.bind_some _ _).symm.trans H; with_reducible exact H2_) | with_reducible exact H | (rw [hy105]; exact H) | exact H
                    have Ny105 := Aside0.mk hy105
                    clear hy105
                    have H' := Aside0.mk H
                    clear H
                    have p104 : 0 ≤ (x6_1 : Int) := of_decide_eq_true (by first | (with_reducible assumption) | assumption)
                    have q104 : x6_1 < (l0.length : Int) := of_decide_eq_true (by first | (with_reducible assumption) | assumption)
                    obtain ⟨ad104, e104, hx104_0⟩ := Kd.at_int HR0.out x6_1 p104 q104
                    cases e104
                    replace hx104_0 := (HB.out.cell (World.block_lt_of_cell? w _ hx104_0)).trans hx104_0
                    replace p104 := eq_true p104
                    replace q104 := eq_true q104
                    have p12 : 0 ≤ (x6_1 : Int) := of_decide_eq_true (by first | (with_reducible assumption) | assumption)
                    have q12 : (x6_1 : Int) < ((x5_1.length : Int) : Int) := of_decide_eq_true (by first | (with_reducible assumption) | assumption)
                    obtain ⟨go12, co12, eo12, gb12, gl12, cl12, HG12⟩ := Kd.R_form HO_5.out (by omega)
                    (first | cases eo12 | (injection eo12 with ea_ en_ ec_; (first | subst ea_ | (injection ea_ with ea_; subst ea_)); subst ec_; clear en_))
                    have GB12 := Aside0.mk gb12
                    have GG12 := Aside0.mk HG12
                    clear gb12 gl12 HG12
                    obtain ⟨hx12_0, hf12_0⟩ := Kd.R_celln 0 HO_5.out (x6_1 : Int) p12 q12
                    replace p12 := eq_true p12
                    replace q12 := eq_true q12
                    have HP13 := Kd.R_putg HO_5.out (x6_1 : Int) (Int.tmod x1_1 (rd l0 x6_1))
                    go_wp2_with (first | ((with_reducible refine gate_store (t := 3) (p := 25) rfl ?_); refine store_event (t := 3) (p := 25) (v := ?vo_w14) (w1 := (wr.setCell ⟨go12, (x6_1 : Int).toNat, none⟩ (.int .i64 (Int.tmod x1_1 (rd l0 x6_1))))) ?hg ?ho ?hn ?hr ?_; (case ho => rfl); (case hg => rfl); (case hn => rfl); (case hr => first | (go_simp; done) | (go_simp; rfl)); intro w14 hw; have hg : wr.grownBy w14 (some go12) := (by rw [hw]; exact HP13.2); have hp_ : Kd.R (Kd.int .i64) 3 w14 w.heap.size (fun _ => True) (.slice (some ⟨go12, 0, none⟩) x5_1.length co12) y105 := (by rw [hw, Ny105.out]; exact HP13.1); clear HP13; have n0_ := Aside0.mk (hp_); have n1_ := Aside0.mk ((by rw [hw]; exact below_set (HB.out) GB12.out : Below w.heap.size w w14)); clear HO_5; clear HB; have HO_5 := n0_; have HB := n1_; clear n0_ n1_; clear hg hw hp_; have p106 : 0 ≤ (x6_1 : Int) := of_decide_eq_true (by first | (with_reducible assumption) | assumption); have q106 : x6_1 < (l0.length : Int) := of_decide_eq_true (by first | (with_reducible assumption) | assumption); obtain ⟨ad106, e106, hx106_0⟩ := Kd.at_int HR0.out x6_1 p106 q106; obtain rfl : ad104 = ad106 := (by injection e106); replace hx106_0 := (HB.out.cell (World.block_lt_of_cell? w _ hx106_0)).trans hx106_0; replace p106 := eq_true p106; replace q106 := eq_true q106))
                    go_roundg k1
                    case measure => have := HK1.out; omega
                    case rel => exact ⟨(wrap64 (Int.tdiv x1_1 (rd l0 x6_1))), (y105), (wrap64 (x6_1 - 1)), (by first | rfl | (simp; done) | (simp [*]; done)), (by first | rfl | (simp; done) | (simp [*]; done)), H', ⟨by have := HK1.out; omega⟩, ⟨by (with_reducible repeat (first | apply Kd.R_alloc | apply Kd.R_drewN | apply Kd.R_drew)); exact HO_5.out⟩, ⟨by repeat (first | (with_reducible first | exact HB.out | apply below_alloc | apply pw_below_drewN | apply below_drew1) | exact HB.out)⟩⟩
                  · rw [if_neg c11] at H
                    exact absurd H (by simp)
              · rw [if_neg c9] at H
                exact absurd H (by simp)
            · rw [if_neg c8] at H
              exact absurd H (by simp)
          · rw [if_neg c7] at H
            have c7b0 : decide (0 ≤ x6_1) = false := decide_eq_false c7
            clear c7
            obtain rfl := Option.some.inj H
            go_wp2
            go_ret
            exact ⟨_, by first | rfl | (simp [errW_none, errW_some] <;> rfl) | (simp [*, errW_none, errW_some] <;> rfl), by (with_reducible repeat (first | apply Kd.R_alloc | apply Kd.R_drewN | apply Kd.R_drew)); exact HO_5.out, by repeat (first | (with_reducible first | exact HB.out | apply below_alloc | apply pw_below_drewN | apply below_drew1) | exact HB.out)⟩
    · rw [if_neg c4] at H
      exact absurd H (by simp)
  · rw [if_neg c3] at H
    exact absurd H (by simp)

end Go.Proofs.Ytehfcnndjhjkoaa.PA

namespace Go.Proofs.Ytehfcnndjhjkoaa.PA
open Go.RowKit Go.Proofs.YtehfcnndjhjkoaaW.PrintWords Go.Proofs.YtehfcnndjhjkoaaW.PrintLast Go.Proofs.YtehfcnndjhjkoaaW.PrintMore
set_option linter.unusedVariables false
set_option linter.unusedSimpArgs false
theorem set_backI (n : Nat) (ys : List Int) (x : Int) : (List.replicate (n + 1) (0 : Int) ++ ys).set n x = List.replicate n 0 ++ x :: ys := by
  rw [List.replicate_succ']; simp
theorem l5Index_loop : ∀ (n : Nat) (p q dn : List Int) (c : Int), p.length = n → (p ++ q).length ≤ 1000000 → 0 ≤ c → c ≤ 1000000000 → (∀ a ∈ p, 1 ≤ a ∧ a ≤ 1000000000) →
    Ev (fun k => spec_l5Index.l0 k (p ++ q) c (List.replicate n 0 ++ dn) ((n : Int) - 1)) (digs p c ++ dn)
  | 0, p, q, dn, c, hp, _, _, _, _ => by
    obtain rfl := List.eq_nil_of_length_eq_zero hp
    refine evVal (evRound (Ev.now _) fun k => ?_) rfl
    simp only [spec_l5Index.l0]; rw [if_neg (by omega)]; simp [digs_nil]
  | n + 1, p, q, dn, c, hp, hl, h0, h1, hr => by
    obtain ⟨p, a, rfl, hq⟩ := snocI hp
    have ha := hr a (by simp)
    have ih := l5Index_loop n p (a :: q) (c % a :: dn) (c / a) hq (by simpa using hl) (Int.ediv_nonneg h0 (by omega)) (by have := Int.ediv_le_self a h0; omega) (fun x hx => hr x (by simp [hx]))
    rw [digs_snoc]
    refine evVal (evRound ih fun k => ?_) (by simp)
    have e : p ++ [a] ++ q = p ++ a :: q := by simp
    have hn : ((n + 1 : Nat) : Int) - 1 = (n : Int) := by omega
    have hlen : (p ++ [a] ++ q).length ≤ 1000000 := hl
    rw [e, hn]
    simp only [spec_l5Index.l0]
    rw [if_pos (by omega), if_pos (by omega), if_pos (by simp; omega), rd_last p q a n hq, if_neg (by omega), if_pos (by simp; omega), Int.toNat_natCast, set_backI,
      Int.tdiv_eq_ediv_of_nonneg h0, Int.tmod_eq_emod_of_nonneg h0, w64 (x := c / a) (by have := Int.ediv_nonneg h0 (show 0 ≤ a by omega); omega) (by have := Int.ediv_le_self a h0; omega),
      w64 (by omega) (by simp at hlen; omega)]
theorem l5Index_ev (s : List Int) (c : Int) (hl : s.length ≤ 1000000) (h0 : 0 ≤ c) (h1 : c ≤ 1000000000) (hr : ∀ a ∈ s, 1 ≤ a ∧ a ≤ 1000000000) : Ev (fun k => spec_l5Index.f k s c) (digs s c) := by
  have h := l5Index_loop s.length s [] [] c rfl (by simpa using hl) h0 h1 hr
  simp only [List.append_nil] at h
  refine Ev.congr (fun k => ?_) h
  simp only [spec_l5Index.f]
  rw [if_pos (by omega), if_pos (by omega), w64 (by omega) (by omega)]
  simp
end Go.Proofs.Ytehfcnndjhjkoaa.PA
