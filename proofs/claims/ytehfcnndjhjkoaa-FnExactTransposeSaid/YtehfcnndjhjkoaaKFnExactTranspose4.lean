import Derived.Test.YtehfcnndjhjkoaaKFnExactTranspose3

-- By a program (prt.py, over the print of the kit), for this claim. Not trusted: Lean checks it.
namespace Go.Proofs.Ytehfcnndjhjkoaa.PA
open Go.RowKit Go.Proofs.YtehfcnndjhjkoaaW.PrintWords Go.Proofs.YtehfcnndjhjkoaaW.PrintLast Go.Proofs.YtehfcnndjhjkoaaW.PrintMore
attribute [local go_sem] max2_int min2_int max_two min_two max_three min_three max_four min_four   -- for this text's walks alone
set_option linter.unusedVariables false
set_option linter.unusedSimpArgs false

/-! ### spec_l5List: function 71 -/
def spec_l5List.f (a0_0 : Bool) (l0_1 : List Int) (l0_2 : List Int) : Option (Int) := if (l0_1.length : Int) > 1 then (some 4) else (if a0_0 = true then (some 3) else (some 0))
set_option maxHeartbeats 8000000 in
set_option maxRecDepth 100000 in
theorem spec_l5List.calls (a0_0 : Bool) (A0_1 : Option Addr) (c0_1 : Nat) (l0_1 : List Int) (A0_2 : Option Addr) (c0_2 : Nat) (l0_2 : List Int) (r : Int) (w : World) (hr0_1 : Kd.C (Kd.int .i64) w A0_1 l0_1.length l0_1) (hc0_1 : l0_1.length ≤ c0_1) (hr0_2 : Kd.C (Kd.int .i64) w A0_2 l0_2.length l0_2) (hc0_2 : l0_2.length ≤ c0_2) (h : spec_l5List.f a0_0 l0_1 l0_2 = some r) :
    Calls Try.prog 71 #[.agg #[.bool a0_0, .slice A0_1 l0_1.length c0_1, .slice A0_2 l0_2.length c0_2]] w fun e w' => e = .returned (.int .i64 r) ∧ Below w.heap.size w w' := by
  have hu28 := Try.underlying28
  have HR0_1 := Aside0.mk hr0_1
  have HC0_1 := Aside0.mk hc0_1
  clear hr0_1 hc0_1
  have HR0_2 := Aside0.mk hr0_2
  have HC0_2 := Aside0.mk hc0_2
  clear hr0_2 hc0_2
  have HB := Aside0.mk (Below.refl w.heap.size w)
  have H : (if (l0_1.length : Int) > 1 then (some 4) else (if a0_0 = true then (some 3) else (some 0))) = some r := h
  clear h
  by_cases c2 : (l0_1.length : Int) > 1
  · rw [if_pos c2] at H
    have c2b0 : decide (1 < (l0_1.length : Int)) = true := decide_eq_true c2
    have c2b1 : decide (1 < l0_1.length) = true := decide_eq_true (by omega)
    clear c2
    obtain rfl := Option.some.inj H
    go_enter Try.func71, Try.ntmps71
    go_wp2_with (first | ((with_reducible refine gate_dst (N := 1) rfl ?_); refine box_event ?hg (N := 1) ?hd (cs := #[.bool a0_0, .slice A0_1 l0_1.length c0_1, .slice A0_2 l0_2.length c0_2]) (t := 28) ?hr ?_; (case hd => rfl); (case hg => rfl); (case hr => first | (go_simp; done) | (go_simp; rfl)); intro gb101 hg w3 hbox hb; have n0_ := Aside0.mk (below_step (by repeat (first | (with_reducible first | exact HB.out | apply below_alloc | apply pw_below_drewN | apply below_drew1) | exact HB.out)) hb); have n1_ := Aside0.mk (hbox); have n2_ := Aside0.mk ((by rw [hg]; exact (below_size (by repeat (first | (with_reducible first | exact HB.out | apply below_alloc | apply pw_below_drewN | apply below_drew1) | exact HB.out))) : w.heap.size ≤ gb101)); have n3_ := Aside0.mk ((by rw [hg]; exact (below_size (by repeat (first | (with_reducible first | exact HB.out | apply below_alloc | apply pw_below_drewN | apply below_drew1) | exact HB.out))) : w.heap.size ≤ gb101)); clear HB; have HB := n0_; have BK101 := n1_; have GW101 := n2_; have GE101 := n3_; clear n0_ n1_ n2_ n3_; clear hb hbox hg; have hcz4_0 : w3.cell? ⟨gb101, 0, none⟩ = some (.bool a0_0) := (blk_cell BK101.out 0).trans rfl; have hcz4_1 : w3.cell? ⟨gb101, 1, none⟩ = some (.slice A0_1 l0_1.length c0_1) := (blk_cell BK101.out 1).trans rfl; have hcz4_2 : w3.cell? ⟨gb101, 2, none⟩ = some (.slice A0_2 l0_2.length c0_2) := (blk_cell BK101.out 2).trans rfl; have hfz4_0 := blk_frozen BK101.out 0; have hfz4_1 := blk_frozen BK101.out 1; have hfz4_2 := blk_frozen BK101.out 2))
    go_ret
    exact ⟨by first | rfl | (simp [errW_none, errW_some] <;> rfl) | (simp [*, errW_none, errW_some] <;> rfl), by repeat (first | (with_reducible first | exact HB.out | apply below_alloc | apply pw_below_drewN | apply below_drew1 | refine below_set ?_ GE101.out) | exact HB.out)⟩
  · rw [if_neg c2] at H
    have c2b0 : decide (1 < (l0_1.length : Int)) = false := decide_eq_false c2
    have c2b1 : decide (1 < l0_1.length) = false := decide_eq_false (by omega)
    clear c2
    by_cases c5 : a0_0 = true
    · subst c5
      have H1 : (some 3) = some r := by rw [if_pos rfl] at H; exact H
      clear H
      have H := H1
      clear H1
      obtain rfl := Option.some.inj H
      go_enter Try.func71, Try.ntmps71
      go_wp2_with (first | ((with_reducible refine gate_dst (N := 1) rfl ?_); refine box_event ?hg (N := 1) ?hd (cs := #[.bool true, .slice A0_1 l0_1.length c0_1, .slice A0_2 l0_2.length c0_2]) (t := 28) ?hr ?_; (case hd => rfl); (case hg => rfl); (case hr => first | (go_simp; done) | (go_simp; rfl)); intro gb101 hg w6 hbox hb; have n0_ := Aside0.mk (below_step (by repeat (first | (with_reducible first | exact HB.out | apply below_alloc | apply pw_below_drewN | apply below_drew1) | exact HB.out)) hb); have n1_ := Aside0.mk (hbox); have n2_ := Aside0.mk ((by rw [hg]; exact (below_size (by repeat (first | (with_reducible first | exact HB.out | apply below_alloc | apply pw_below_drewN | apply below_drew1) | exact HB.out))) : w.heap.size ≤ gb101)); have n3_ := Aside0.mk ((by rw [hg]; exact (below_size (by repeat (first | (with_reducible first | exact HB.out | apply below_alloc | apply pw_below_drewN | apply below_drew1) | exact HB.out))) : w.heap.size ≤ gb101)); clear HB; have HB := n0_; have BK101 := n1_; have GW101 := n2_; have GE101 := n3_; clear n0_ n1_ n2_ n3_; clear hb hbox hg; have hcz7_0 : w6.cell? ⟨gb101, 0, none⟩ = some (.bool true) := (blk_cell BK101.out 0).trans rfl; have hcz7_1 : w6.cell? ⟨gb101, 1, none⟩ = some (.slice A0_1 l0_1.length c0_1) := (blk_cell BK101.out 1).trans rfl; have hcz7_2 : w6.cell? ⟨gb101, 2, none⟩ = some (.slice A0_2 l0_2.length c0_2) := (blk_cell BK101.out 2).trans rfl; have hfz7_0 := blk_frozen BK101.out 0; have hfz7_1 := blk_frozen BK101.out 1; have hfz7_2 := blk_frozen BK101.out 2))
      go_ret
      exact ⟨by first | rfl | (simp [errW_none, errW_some] <;> rfl) | (simp [*, errW_none, errW_some] <;> rfl), by repeat (first | (with_reducible first | exact HB.out | apply below_alloc | apply pw_below_drewN | apply below_drew1 | refine below_set ?_ GE101.out) | exact HB.out)⟩
    · replace c5 := Bool.eq_false_iff.mpr c5
      subst c5
      have H1 : (some 0) = some r := by rw [if_neg (show ¬ (false = true) by decide)] at H; exact H
      clear H
      have H := H1
      clear H1
      obtain rfl := Option.some.inj H
      go_enter Try.func71, Try.ntmps71
      go_wp2_with (first | ((with_reducible refine gate_dst (N := 1) rfl ?_); refine box_event ?hg (N := 1) ?hd (cs := #[.bool false, .slice A0_1 l0_1.length c0_1, .slice A0_2 l0_2.length c0_2]) (t := 28) ?hr ?_; (case hd => rfl); (case hg => rfl); (case hr => first | (go_simp; done) | (go_simp; rfl)); intro gb101 hg w8 hbox hb; have n0_ := Aside0.mk (below_step (by repeat (first | (with_reducible first | exact HB.out | apply below_alloc | apply pw_below_drewN | apply below_drew1) | exact HB.out)) hb); have n1_ := Aside0.mk (hbox); have n2_ := Aside0.mk ((by rw [hg]; exact (below_size (by repeat (first | (with_reducible first | exact HB.out | apply below_alloc | apply pw_below_drewN | apply below_drew1) | exact HB.out))) : w.heap.size ≤ gb101)); have n3_ := Aside0.mk ((by rw [hg]; exact (below_size (by repeat (first | (with_reducible first | exact HB.out | apply below_alloc | apply pw_below_drewN | apply below_drew1) | exact HB.out))) : w.heap.size ≤ gb101)); clear HB; have HB := n0_; have BK101 := n1_; have GW101 := n2_; have GE101 := n3_; clear n0_ n1_ n2_ n3_; clear hb hbox hg; have hcz9_0 : w8.cell? ⟨gb101, 0, none⟩ = some (.bool false) := (blk_cell BK101.out 0).trans rfl; have hcz9_1 : w8.cell? ⟨gb101, 1, none⟩ = some (.slice A0_1 l0_1.length c0_1) := (blk_cell BK101.out 1).trans rfl; have hcz9_2 : w8.cell? ⟨gb101, 2, none⟩ = some (.slice A0_2 l0_2.length c0_2) := (blk_cell BK101.out 2).trans rfl; have hfz9_0 := blk_frozen BK101.out 0; have hfz9_1 := blk_frozen BK101.out 1; have hfz9_2 := blk_frozen BK101.out 2))
      go_ret
      exact ⟨by first | rfl | (simp [errW_none, errW_some] <;> rfl) | (simp [*, errW_none, errW_some] <;> rfl), by repeat (first | (with_reducible first | exact HB.out | apply below_alloc | apply pw_below_drewN | apply below_drew1 | refine below_set ?_ GE101.out) | exact HB.out)⟩

end Go.Proofs.Ytehfcnndjhjkoaa.PA

namespace Go.Proofs.Ytehfcnndjhjkoaa.PA
open Go.RowKit Go.Proofs.YtehfcnndjhjkoaaW.PrintWords Go.Proofs.YtehfcnndjhjkoaaW.PrintLast Go.Proofs.YtehfcnndjhjkoaaW.PrintMore
set_option linter.unusedVariables false
set_option linter.unusedSimpArgs false
abbrev ArrAns := Bool × List Int × List Int × Int
def noArr (code : Int) : ArrAns := (false, [], [], code)
/-- The code of an array that should be a list of numbers. -/
def listC (b : Bool) (l1 : List Int) : Int := if (l1.length : Int) > 1 then 4 else if b = true then 3 else 0
theorem listOk_eq (b : Bool) (l1 l2 : List Int) : impl_listOk.f b l1 l2 = some (listC b l1) := by
  unfold impl_listOk.f impl_Array_rank.f listC
  simp only [Option.bind_some]
  split <;> first | rfl | (split <;> rfl)
theorem l5List_eq (b : Bool) (l1 l2 : List Int) : spec_l5List.f b l1 l2 = some (listC b l1) := by
  unfold spec_l5List.f listC
  split <;> first | rfl | (split <;> rfl)
theorem shapeOk_yes {l : List Int} (h : shOk l = true) : Ev (fun k => impl_shapeOk.f k l) (prod l, true) := by
  have := shapeOk_ev l; unfold shSize at this; rw [if_pos h] at this; exact this
/-- Lists short enough for the checks. -/
def okLens (l1 l2 m1 m2 : List Int) : Bool := decide (l1.length ≤ 35184372088832) && decide (l2.length ≤ 35184372088832) && decide (m1.length ≤ 35184372088832) && decide (m2.length ≤ 35184372088832)
theorem okLens_of {l1 l2 m1 m2 : List Int} (h1 : l1.length ≤ 35184372088832) (h2 : l2.length ≤ 35184372088832) (h3 : m1.length ≤ 35184372088832) (h4 : m2.length ≤ 35184372088832) : okLens l1 l2 m1 m2 = true := by
  simp [okLens, h1, h2, h3, h4]
end Go.Proofs.Ytehfcnndjhjkoaa.PA

namespace Go.Proofs.Ytehfcnndjhjkoaa.PA
open Go.RowKit Go.Proofs.YtehfcnndjhjkoaaW.PrintWords Go.Proofs.YtehfcnndjhjkoaaW.PrintLast Go.Proofs.YtehfcnndjhjkoaaW.PrintMore
set_option linter.unusedVariables false
set_option linter.unusedSimpArgs false
set_option maxHeartbeats 2000000 in
set_option maxRecDepth 100000 in
theorem Transpose_no (k0 : Nat) (v : Int) (a : Bool) (Aa1 : Option Addr) (ca1 : Nat) (la1 : List Int) (Aa2 : Option Addr) (ca2 : Nat) (la2 : List Int) (b : Bool) (Ab1 : Option Addr) (cb1 : Nat) (lb1 : List Int) (Ab2 : Option Addr) (cb2 : Nat) (lb2 : List Int) (w : World) (ha1 : Kd.C (Kd.int .i64) w Aa1 la1.length la1) (ka1 : la1.length ≤ ca1) (ha2 : Kd.C (Kd.int .i64) w Aa2 la2.length la2) (ka2 : la2.length ≤ ca2) (hb1 : Kd.C (Kd.int .i64) w Ab1 lb1.length lb1) (kb1 : lb1.length ≤ cb1) (hb2 : Kd.C (Kd.int .i64) w Ab2 lb2.length lb2) (kb2 : lb2.length ≤ cb2) (hv : impl_valid.f k0 [⟨a, la1, la2⟩, ⟨b, lb1, lb2⟩] = some v) (hv0 : v ≠ 0) :
    Calls Try.prog 34 #[.agg #[.bool a, .slice Aa1 la1.length ca1, .slice Aa2 la2.length ca2], .agg #[.bool b, .slice Ab1 lb1.length cb1, .slice Ab2 lb2.length cb2]] w fun e w' => ∃ v1_ v2_ : Value, e = .returned (.tuple #[.agg #[.bool false, v1_, v2_], .int .i64 v]) ∧ Kd.R (Kd.int .i64) 3 w' w.heap.size (fun k_ => some k_ ≠ (v2_ : Value).ownBlock) v1_ [] ∧ Kd.R (Kd.int .i64) 3 w' w.heap.size (fun k_ => some k_ ≠ (v1_ : Value).ownBlock) v2_ [] ∧ Below w.heap.size w w' := by
  have HA1 := Aside0.mk ha1
  have HA2 := Aside0.mk ha2
  have KA1 := Aside0.mk ka1
  have KA2 := Aside0.mk ka2
  have HB1 := Aside0.mk hb1
  have HB2 := Aside0.mk hb2
  have KB1 := Aside0.mk kb1
  have KB2 := Aside0.mk kb2
  have HV := Aside0.mk hv
  have HB := Aside0.mk (Below.refl w.heap.size w)
  clear ha1 ha2 ka1 ka2 hb1 hb2 kb1 kb2 hv
  have c0 : (v == 0) = false := beq_eq_false_iff_ne.mpr hv0
  have c1 : (v != 0) = true := bne_iff_ne.mpr hv0
  clear hv0
  go_enter Try.func34, Try.ntmps34
  go_wp2_with (first | ((with_reducible refine gate_dst (N := 2) rfl ?_); refine box_event ?hg (N := 2) ?hd (cs := #[.bool a, .slice Aa1 la1.length ca1, .slice Aa2 la2.length ca2]) (t := 28) ?hr ?_; (case hd => rfl); (case hg => rfl); (case hr => first | (go_simp; done) | (go_simp; rfl)); intro g1 hg1 w1 hb1 hB1; have GEHB_g1 := Aside0.mk (show w.heap.size ≤ g1 from hg1 ▸ HB.out.size); have BK1 := Aside0.mk hb1; clear hg1 hb1; have nHB := Aside0.mk (below_step HB.out hB1); clear HB; have HB := nHB; clear nHB; clear hB1) | ((with_reducible refine gate_dst (N := 3) rfl ?_); refine box_event ?hg (N := 3) ?hd (cs := #[.bool b, .slice Ab1 lb1.length cb1, .slice Ab2 lb2.length cb2]) (t := 28) ?hr ?_; (case hd => rfl); (case hg => rfl); (case hr => first | (go_simp; done) | (go_simp; rfl)); intro g2 hg2 w2 hb2 hB2; have GEHB_g2 := Aside0.mk (show w.heap.size ≤ g2 from hg2 ▸ HB.out.size); have NEg1_g2 := Aside0.mk (show g1 ≠ g2 from Nat.ne_of_lt (hg2 ▸ blk_lt BK1.out)); have BK2 := Aside0.mk hb2; clear hg2 hb2; have nBK1 := Aside0.mk (blk_below (g := g1) (o := .cells #[.bool a, .slice Aa1 la1.length ca1, .slice Aa2 la2.length ca2] 28 (0, 0)) BK1.out hB2); have nHB := Aside0.mk (below_step HB.out hB2); clear BK1 HB; have BK1 := nBK1; have HB := nHB; clear nBK1 nHB; clear hB2) | ((with_reducible refine gate_dst (N := 4) rfl ?_); refine box_event ?hg (N := 4) ?hd (cs := #[.bool false, .slice none 0 0, .slice none 0 0]) (t := 28) ?hr ?_; (case hd => rfl); (case hg => rfl); (case hr => first | (go_simp; done) | (go_simp; rfl)); intro g3 hg3 w3 hb3 hB3; have GEHB_g3 := Aside0.mk (show w.heap.size ≤ g3 from hg3 ▸ HB.out.size); have NEg1_g3 := Aside0.mk (show g1 ≠ g3 from Nat.ne_of_lt (hg3 ▸ blk_lt BK1.out)); have NEg2_g3 := Aside0.mk (show g2 ≠ g3 from Nat.ne_of_lt (hg3 ▸ blk_lt BK2.out)); have BK3 := Aside0.mk hb3; clear hg3 hb3; have nBK1 := Aside0.mk (blk_below (g := g1) (o := .cells #[.bool a, .slice Aa1 la1.length ca1, .slice Aa2 la2.length ca2] 28 (0, 0)) BK1.out hB3); have nBK2 := Aside0.mk (blk_below (g := g2) (o := .cells #[.bool b, .slice Ab1 lb1.length cb1, .slice Ab2 lb2.length cb2] 28 (0, 0)) BK2.out hB3); have nHB := Aside0.mk (below_step HB.out hB3); clear BK1 BK2 HB; have BK1 := nBK1; have BK2 := nBK2; have HB := nHB; clear nBK1 nBK2 nHB; clear hB3) | ((with_reducible refine gate_dst (N := 9) rfl ?_); refine wpList_load_row rfl 28 (.tmp 2) rfl g1 rfl 28 #[.bool a, .slice Aa1 la1.length ca1, .slice Aa2 la2.length ca2] (0, 0) _ BK1.out Try.underlying28 rfl (by kernel_rfl) ?_) | ((with_reducible refine gate_dst (N := 10) rfl ?_); refine wpList_load_row rfl 28 (.tmp 3) rfl g2 rfl 28 #[.bool b, .slice Ab1 lb1.length cb1, .slice Ab2 lb2.length cb2] (0, 0) _ BK2.out Try.underlying28 rfl (by kernel_rfl) ?_) | ((with_reducible refine gate_dst (N := 11) rfl ?_); refine lit_event ?hg (N := 11) ?hd (cs := #[.bool a, .slice Aa1 la1.length ca1, .slice Aa2 la2.length ca2, .bool b, .slice Ab1 lb1.length cb1, .slice Ab2 lb2.length cb2]) (t := 28) (n := 2) ?hr ?_; (case hd => rfl); (case hg => rfl); (case hr => first | (go_simp; done) | (go_simp; rfl)); intro g4 hg4 w4 hb4 hB4; have GEHB_g4 := Aside0.mk (show w.heap.size ≤ g4 from hg4 ▸ HB.out.size); have NEg1_g4 := Aside0.mk (show g1 ≠ g4 from Nat.ne_of_lt (hg4 ▸ blk_lt BK1.out)); have NEg2_g4 := Aside0.mk (show g2 ≠ g4 from Nat.ne_of_lt (hg4 ▸ blk_lt BK2.out)); have NEg3_g4 := Aside0.mk (show g3 ≠ g4 from Nat.ne_of_lt (hg4 ▸ blk_lt BK3.out)); have BK4 := Aside0.mk hb4; clear hg4 hb4; have nBK1 := Aside0.mk (blk_below (g := g1) (o := .cells #[.bool a, .slice Aa1 la1.length ca1, .slice Aa2 la2.length ca2] 28 (0, 0)) BK1.out hB4); have nBK2 := Aside0.mk (blk_below (g := g2) (o := .cells #[.bool b, .slice Ab1 lb1.length cb1, .slice Ab2 lb2.length cb2] 28 (0, 0)) BK2.out hB4); have nBK3 := Aside0.mk (blk_below (g := g3) (o := .cells #[.bool false, .slice none 0 0, .slice none 0 0] 28 (0, 0)) BK3.out hB4); have nHB := Aside0.mk (below_step HB.out hB4); clear BK1 BK2 BK3 HB; have BK1 := nBK1; have BK2 := nBK2; have BK3 := nBK3; have HB := nHB; clear nBK1 nBK2 nBK3 nHB; clear hB4) | (go_at_call 58; refine (impl_valid.calls k0 _ 2 [⟨a, la1, la2⟩, ⟨b, lb1, lb2⟩] v _ (pair_C BK4.out (Kd.C_below HA1.out HB.out) KA1.out (Kd.C_below HA2.out HB.out) KA2.out (Kd.C_below HB1.out HB.out) KB1.out (Kd.C_below HB2.out HB.out) KB2.out) (Nat.le_refl _) HV.out).mono ?_; rintro e w5 ⟨rfl, hB5⟩; have nBK1 := Aside0.mk (blk_below (g := g1) (o := .cells #[.bool a, .slice Aa1 la1.length ca1, .slice Aa2 la2.length ca2] 28 (0, 0)) BK1.out hB5); have nBK2 := Aside0.mk (blk_below (g := g2) (o := .cells #[.bool b, .slice Ab1 lb1.length cb1, .slice Ab2 lb2.length cb2] 28 (0, 0)) BK2.out hB5); have nBK3 := Aside0.mk (blk_below (g := g3) (o := .cells #[.bool false, .slice none 0 0, .slice none 0 0] 28 (0, 0)) BK3.out hB5); have nBK4 := Aside0.mk (blk_below (g := g4) (o := .cells #[.bool a, .slice Aa1 la1.length ca1, .slice Aa2 la2.length ca2, .bool b, .slice Ab1 lb1.length cb1, .slice Ab2 lb2.length cb2] 28 (0, 0)) BK4.out hB5); have nHB := Aside0.mk (below_step HB.out hB5); clear BK1 BK2 BK3 BK4 HB; have BK1 := nBK1; have BK2 := nBK2; have BK3 := nBK3; have BK4 := nBK4; have HB := nHB; clear nBK1 nBK2 nBK3 nBK4 nHB; clear hB5) | ((with_reducible refine gate_store rfl ?_); refine store_named rfl 28 (.tmp 4) (.tmp 15) rfl g3 #[.bool false, .slice none 0 0, .slice none 0 0] rfl rfl 28 #[.bool false, .slice none 0 0, .slice none 0 0] BK3.out (by kernel_rfl) rfl (by simp [Value.oneCell']) ?_; intro w6 hs6 hb6; have nBK1 := Aside0.mk (hb6.blk BK1.out NEg1_g3.out); have nBK2 := Aside0.mk (hb6.blk BK2.out NEg2_g3.out); have nBK4 := Aside0.mk (hb6.blk BK4.out (fun e => NEg3_g4.out e.symm)); have nHB := Aside0.mk (HB.out.trans (hb6.below _ GEHB_g3.out)); clear BK1 BK2 BK4 HB; clear BK3 hb6; have BK3 := Aside0.mk hs6; clear hs6; have BK1 := nBK1; have BK2 := nBK2; have BK4 := nBK4; have HB := nHB; clear nBK1 nBK2 nBK4 nHB))
  refine bodyPost_ret (results_ct rfl _ _ g3 28 #[.bool false, .slice none 0 0, .slice none 0 0] (0, 0) _ rfl BK3.out Try.underlying28 rfl (by kernel_rfl)) rfl ?_
  exact ⟨_, _, rfl, Kd.R_nil _ _ _ _ _, Kd.R_nil _ _ _ _ _, HB.out⟩
set_option maxHeartbeats 2000000 in
set_option maxRecDepth 100000 in
theorem Transpose_yes (k0 k1 : Nat) (a : Bool) (Aa1 : Option Addr) (ca1 : Nat) (la1 : List Int) (Aa2 : Option Addr) (ca2 : Nat) (la2 : List Int) (b : Bool) (Ab1 : Option Addr) (cb1 : Nat) (lb1 : List Int) (Ab2 : Option Addr) (cb2 : Nat) (lb2 : List Int) (w : World) (ha1 : Kd.C (Kd.int .i64) w Aa1 la1.length la1) (ka1 : la1.length ≤ ca1) (ha2 : Kd.C (Kd.int .i64) w Aa2 la2.length la2) (ka2 : la2.length ≤ ca2) (hb1 : Kd.C (Kd.int .i64) w Ab1 lb1.length lb1) (kb1 : lb1.length ≤ cb1) (hb2 : Kd.C (Kd.int .i64) w Ab2 lb2.length lb2) (kb2 : lb2.length ≤ cb2) (hv : impl_valid.f k0 [⟨a, la1, la2⟩, ⟨b, lb1, lb2⟩] = some 0) (sh fr : List Int) (cd : Int) (r1 : Bool) (r2 r3 : List Int) (r4 : Int)
    (hm : ∀ W, Below w.heap.size w W → Calls Try.prog 79 #[.agg #[.bool a, .slice Aa1 la1.length ca1, .slice Aa2 la2.length ca2], .agg #[.bool b, .slice Ab1 lb1.length cb1, .slice Ab2 lb2.length cb2]] W fun e w' => ∃ A1 c1 A2 c2, e = .returned (.tuple #[.agg #[.slice A1 sh.length c1, .slice A2 fr.length c2], .int .i64 cd]) ∧ Kd.C (Kd.int .i64) w' A1 sh.length sh ∧ sh.length ≤ c1 ∧ Kd.C (Kd.int .i64) w' A2 fr.length fr ∧ fr.length ≤ c2 ∧ Below W.heap.size W w')
    (hk : impl_made.f k1 b lb1 lb2 sh fr cd = some (r1, r2, r3, r4)) :
    Calls Try.prog 34 #[.agg #[.bool a, .slice Aa1 la1.length ca1, .slice Aa2 la2.length ca2], .agg #[.bool b, .slice Ab1 lb1.length cb1, .slice Ab2 lb2.length cb2]] w fun e w' => ∃ v1_ v2_ : Value, e = .returned (.tuple #[.agg #[.bool r1, v1_, v2_], .int .i64 r4]) ∧ Kd.R (Kd.int .i64) 3 w' w.heap.size (fun k_ => some k_ ≠ (v2_ : Value).ownBlock) v1_ r2 ∧ Kd.R (Kd.int .i64) 3 w' w.heap.size (fun k_ => some k_ ≠ (v1_ : Value).ownBlock) v2_ r3 ∧ Below w.heap.size w w' := by
  have HA1 := Aside0.mk ha1
  have HA2 := Aside0.mk ha2
  have KA1 := Aside0.mk ka1
  have KA2 := Aside0.mk ka2
  have HB1 := Aside0.mk hb1
  have HB2 := Aside0.mk hb2
  have KB1 := Aside0.mk kb1
  have KB2 := Aside0.mk kb2
  have HV := Aside0.mk hv
  have HB := Aside0.mk (Below.refl w.heap.size w)
  clear ha1 ha2 ka1 ka2 hb1 hb2 kb1 kb2 hv
  have HM := Aside0.mk hm
  have HK := Aside0.mk hk
  clear hm hk
  go_enter Try.func34, Try.ntmps34
  go_wp2_with (first | ((with_reducible refine gate_dst (N := 2) rfl ?_); refine box_event ?hg (N := 2) ?hd (cs := #[.bool a, .slice Aa1 la1.length ca1, .slice Aa2 la2.length ca2]) (t := 28) ?hr ?_; (case hd => rfl); (case hg => rfl); (case hr => first | (go_simp; done) | (go_simp; rfl)); intro g1 hg1 w1 hb1 hB1; have GEHB_g1 := Aside0.mk (show w.heap.size ≤ g1 from hg1 ▸ HB.out.size); have BK1 := Aside0.mk hb1; clear hg1 hb1; have nHB := Aside0.mk (below_step HB.out hB1); clear HB; have HB := nHB; clear nHB; clear hB1) | ((with_reducible refine gate_dst (N := 3) rfl ?_); refine box_event ?hg (N := 3) ?hd (cs := #[.bool b, .slice Ab1 lb1.length cb1, .slice Ab2 lb2.length cb2]) (t := 28) ?hr ?_; (case hd => rfl); (case hg => rfl); (case hr => first | (go_simp; done) | (go_simp; rfl)); intro g2 hg2 w2 hb2 hB2; have GEHB_g2 := Aside0.mk (show w.heap.size ≤ g2 from hg2 ▸ HB.out.size); have NEg1_g2 := Aside0.mk (show g1 ≠ g2 from Nat.ne_of_lt (hg2 ▸ blk_lt BK1.out)); have BK2 := Aside0.mk hb2; clear hg2 hb2; have nBK1 := Aside0.mk (blk_below (g := g1) (o := .cells #[.bool a, .slice Aa1 la1.length ca1, .slice Aa2 la2.length ca2] 28 (0, 0)) BK1.out hB2); have nHB := Aside0.mk (below_step HB.out hB2); clear BK1 HB; have BK1 := nBK1; have HB := nHB; clear nBK1 nHB; clear hB2) | ((with_reducible refine gate_dst (N := 4) rfl ?_); refine box_event ?hg (N := 4) ?hd (cs := #[.bool false, .slice none 0 0, .slice none 0 0]) (t := 28) ?hr ?_; (case hd => rfl); (case hg => rfl); (case hr => first | (go_simp; done) | (go_simp; rfl)); intro g3 hg3 w3 hb3 hB3; have GEHB_g3 := Aside0.mk (show w.heap.size ≤ g3 from hg3 ▸ HB.out.size); have NEg1_g3 := Aside0.mk (show g1 ≠ g3 from Nat.ne_of_lt (hg3 ▸ blk_lt BK1.out)); have NEg2_g3 := Aside0.mk (show g2 ≠ g3 from Nat.ne_of_lt (hg3 ▸ blk_lt BK2.out)); have BK3 := Aside0.mk hb3; clear hg3 hb3; have nBK1 := Aside0.mk (blk_below (g := g1) (o := .cells #[.bool a, .slice Aa1 la1.length ca1, .slice Aa2 la2.length ca2] 28 (0, 0)) BK1.out hB3); have nBK2 := Aside0.mk (blk_below (g := g2) (o := .cells #[.bool b, .slice Ab1 lb1.length cb1, .slice Ab2 lb2.length cb2] 28 (0, 0)) BK2.out hB3); have nHB := Aside0.mk (below_step HB.out hB3); clear BK1 BK2 HB; have BK1 := nBK1; have BK2 := nBK2; have HB := nHB; clear nBK1 nBK2 nHB; clear hB3) | ((with_reducible refine gate_dst (N := 9) rfl ?_); refine wpList_load_row rfl 28 (.tmp 2) rfl g1 rfl 28 #[.bool a, .slice Aa1 la1.length ca1, .slice Aa2 la2.length ca2] (0, 0) _ BK1.out Try.underlying28 rfl (by kernel_rfl) ?_) | ((with_reducible refine gate_dst (N := 10) rfl ?_); refine wpList_load_row rfl 28 (.tmp 3) rfl g2 rfl 28 #[.bool b, .slice Ab1 lb1.length cb1, .slice Ab2 lb2.length cb2] (0, 0) _ BK2.out Try.underlying28 rfl (by kernel_rfl) ?_) | ((with_reducible refine gate_dst (N := 11) rfl ?_); refine lit_event ?hg (N := 11) ?hd (cs := #[.bool a, .slice Aa1 la1.length ca1, .slice Aa2 la2.length ca2, .bool b, .slice Ab1 lb1.length cb1, .slice Ab2 lb2.length cb2]) (t := 28) (n := 2) ?hr ?_; (case hd => rfl); (case hg => rfl); (case hr => first | (go_simp; done) | (go_simp; rfl)); intro g4 hg4 w4 hb4 hB4; have GEHB_g4 := Aside0.mk (show w.heap.size ≤ g4 from hg4 ▸ HB.out.size); have NEg1_g4 := Aside0.mk (show g1 ≠ g4 from Nat.ne_of_lt (hg4 ▸ blk_lt BK1.out)); have NEg2_g4 := Aside0.mk (show g2 ≠ g4 from Nat.ne_of_lt (hg4 ▸ blk_lt BK2.out)); have NEg3_g4 := Aside0.mk (show g3 ≠ g4 from Nat.ne_of_lt (hg4 ▸ blk_lt BK3.out)); have BK4 := Aside0.mk hb4; clear hg4 hb4; have nBK1 := Aside0.mk (blk_below (g := g1) (o := .cells #[.bool a, .slice Aa1 la1.length ca1, .slice Aa2 la2.length ca2] 28 (0, 0)) BK1.out hB4); have nBK2 := Aside0.mk (blk_below (g := g2) (o := .cells #[.bool b, .slice Ab1 lb1.length cb1, .slice Ab2 lb2.length cb2] 28 (0, 0)) BK2.out hB4); have nBK3 := Aside0.mk (blk_below (g := g3) (o := .cells #[.bool false, .slice none 0 0, .slice none 0 0] 28 (0, 0)) BK3.out hB4); have nHB := Aside0.mk (below_step HB.out hB4); clear BK1 BK2 BK3 HB; have BK1 := nBK1; have BK2 := nBK2; have BK3 := nBK3; have HB := nHB; clear nBK1 nBK2 nBK3 nHB; clear hB4) | (go_at_call 58; refine (impl_valid.calls k0 _ 2 [⟨a, la1, la2⟩, ⟨b, lb1, lb2⟩] 0 _ (pair_C BK4.out (Kd.C_below HA1.out HB.out) KA1.out (Kd.C_below HA2.out HB.out) KA2.out (Kd.C_below HB1.out HB.out) KB1.out (Kd.C_below HB2.out HB.out) KB2.out) (Nat.le_refl _) HV.out).mono ?_; rintro e w5 ⟨rfl, hB5⟩; have nBK1 := Aside0.mk (blk_below (g := g1) (o := .cells #[.bool a, .slice Aa1 la1.length ca1, .slice Aa2 la2.length ca2] 28 (0, 0)) BK1.out hB5); have nBK2 := Aside0.mk (blk_below (g := g2) (o := .cells #[.bool b, .slice Ab1 lb1.length cb1, .slice Ab2 lb2.length cb2] 28 (0, 0)) BK2.out hB5); have nBK3 := Aside0.mk (blk_below (g := g3) (o := .cells #[.bool false, .slice none 0 0, .slice none 0 0] 28 (0, 0)) BK3.out hB5); have nBK4 := Aside0.mk (blk_below (g := g4) (o := .cells #[.bool a, .slice Aa1 la1.length ca1, .slice Aa2 la2.length ca2, .bool b, .slice Ab1 lb1.length cb1, .slice Ab2 lb2.length cb2] 28 (0, 0)) BK4.out hB5); have nHB := Aside0.mk (below_step HB.out hB5); clear BK1 BK2 BK3 BK4 HB; have BK1 := nBK1; have BK2 := nBK2; have BK3 := nBK3; have BK4 := nBK4; have HB := nHB; clear nBK1 nBK2 nBK3 nBK4 nHB; clear hB5) | ((with_reducible refine gate_dst (N := 18) rfl ?_); refine wpList_load_row rfl 28 (.tmp 2) rfl g1 rfl 28 #[.bool a, .slice Aa1 la1.length ca1, .slice Aa2 la2.length ca2] (0, 0) _ BK1.out Try.underlying28 rfl (by kernel_rfl) ?_) | ((with_reducible refine gate_dst (N := 19) rfl ?_); refine wpList_load_row rfl 28 (.tmp 3) rfl g2 rfl 28 #[.bool b, .slice Ab1 lb1.length cb1, .slice Ab2 lb2.length cb2] (0, 0) _ BK2.out Try.underlying28 rfl (by kernel_rfl) ?_) | (go_at_call 79; refine (HM.out _ HB.out).mono ?_; rintro e w6 ⟨Am1, cm1, Am2, cm2, rfl, hm1, km1, hm2, km2, hB6⟩; have HM1 := Aside0.mk hm1; have KM1 := Aside0.mk km1; have HM2 := Aside0.mk hm2; have KM2 := Aside0.mk km2; clear hm1 km1 hm2 km2; have nBK1 := Aside0.mk (blk_below (g := g1) (o := .cells #[.bool a, .slice Aa1 la1.length ca1, .slice Aa2 la2.length ca2] 28 (0, 0)) BK1.out hB6); have nBK2 := Aside0.mk (blk_below (g := g2) (o := .cells #[.bool b, .slice Ab1 lb1.length cb1, .slice Ab2 lb2.length cb2] 28 (0, 0)) BK2.out hB6); have nBK3 := Aside0.mk (blk_below (g := g3) (o := .cells #[.bool false, .slice none 0 0, .slice none 0 0] 28 (0, 0)) BK3.out hB6); have nBK4 := Aside0.mk (blk_below (g := g4) (o := .cells #[.bool a, .slice Aa1 la1.length ca1, .slice Aa2 la2.length ca2, .bool b, .slice Ab1 lb1.length cb1, .slice Ab2 lb2.length cb2] 28 (0, 0)) BK4.out hB6); have nHB := Aside0.mk (below_step HB.out hB6); clear BK1 BK2 BK3 BK4 HB; have BK1 := nBK1; have BK2 := nBK2; have BK3 := nBK3; have BK4 := nBK4; have HB := nHB; clear nBK1 nBK2 nBK3 nBK4 nHB; clear hB6; have HBm := Aside0.mk (Below.refl w6.heap.size w6)) | ((with_reducible refine gate_dst (N := 7) rfl ?_); refine box_event ?hg (N := 7) ?hd (cs := #[.slice none 0 0, .slice none 0 0]) (t := 70) ?hr ?_; (case hd => rfl); (case hg => rfl); (case hr => first | (go_simp; done) | (go_simp; rfl)); intro g7 hg7 w7 hb7 hB7; have GEHB_g7 := Aside0.mk (show w.heap.size ≤ g7 from hg7 ▸ HB.out.size); have GEHBm_g7 := Aside0.mk (show w6.heap.size ≤ g7 from hg7 ▸ HBm.out.size); have NEg1_g7 := Aside0.mk (show g1 ≠ g7 from Nat.ne_of_lt (hg7 ▸ blk_lt BK1.out)); have NEg2_g7 := Aside0.mk (show g2 ≠ g7 from Nat.ne_of_lt (hg7 ▸ blk_lt BK2.out)); have NEg3_g7 := Aside0.mk (show g3 ≠ g7 from Nat.ne_of_lt (hg7 ▸ blk_lt BK3.out)); have NEg4_g7 := Aside0.mk (show g4 ≠ g7 from Nat.ne_of_lt (hg7 ▸ blk_lt BK4.out)); have BK7 := Aside0.mk hb7; clear hg7 hb7; have nBK1 := Aside0.mk (blk_below (g := g1) (o := .cells #[.bool a, .slice Aa1 la1.length ca1, .slice Aa2 la2.length ca2] 28 (0, 0)) BK1.out hB7); have nBK2 := Aside0.mk (blk_below (g := g2) (o := .cells #[.bool b, .slice Ab1 lb1.length cb1, .slice Ab2 lb2.length cb2] 28 (0, 0)) BK2.out hB7); have nBK3 := Aside0.mk (blk_below (g := g3) (o := .cells #[.bool false, .slice none 0 0, .slice none 0 0] 28 (0, 0)) BK3.out hB7); have nBK4 := Aside0.mk (blk_below (g := g4) (o := .cells #[.bool a, .slice Aa1 la1.length ca1, .slice Aa2 la2.length ca2, .bool b, .slice Ab1 lb1.length cb1, .slice Ab2 lb2.length cb2] 28 (0, 0)) BK4.out hB7); have nHB := Aside0.mk (below_step HB.out hB7); have nHBm := Aside0.mk (below_step HBm.out hB7); clear BK1 BK2 BK3 BK4 HB HBm; have BK1 := nBK1; have BK2 := nBK2; have BK3 := nBK3; have BK4 := nBK4; have HB := nHB; have HBm := nHBm; clear nBK1 nBK2 nBK3 nBK4 nHB nHBm; clear hB7) | ((with_reducible refine gate_store rfl ?_); refine store_named rfl 70 (.tmp 7) (.tmp 21) rfl g7 #[.slice Am1 sh.length cm1, .slice Am2 fr.length cm2] rfl rfl 70 #[.slice none 0 0, .slice none 0 0] BK7.out (by kernel_rfl) rfl (by simp [Value.oneCell']) ?_; intro w8 hs8 hb8; have nBK1 := Aside0.mk (hb8.blk BK1.out NEg1_g7.out); have nBK2 := Aside0.mk (hb8.blk BK2.out NEg2_g7.out); have nBK3 := Aside0.mk (hb8.blk BK3.out NEg3_g7.out); have nBK4 := Aside0.mk (hb8.blk BK4.out NEg4_g7.out); have nHB := Aside0.mk (HB.out.trans (hb8.below _ GEHB_g7.out)); have nHBm := Aside0.mk (HBm.out.trans (hb8.below _ GEHBm_g7.out)); clear BK1 BK2 BK3 BK4 HB HBm; clear BK7 hb8; have BK7 := Aside0.mk hs8; clear hs8; have BK1 := nBK1; have BK2 := nBK2; have BK3 := nBK3; have BK4 := nBK4; have HB := nHB; have HBm := nHBm; clear nBK1 nBK2 nBK3 nBK4 nHB nHBm) | ((with_reducible refine gate_dst (N := 23) rfl ?_); refine wpList_load_row rfl 28 (.tmp 3) rfl g2 rfl 28 #[.bool b, .slice Ab1 lb1.length cb1, .slice Ab2 lb2.length cb2] (0, 0) _ BK2.out Try.underlying28 rfl (by kernel_rfl) ?_) | ((with_reducible refine gate_dst (N := 24) rfl ?_); refine wpList_load_row rfl 70 (.tmp 7) rfl g7 rfl 70 #[.slice Am1 sh.length cm1, .slice Am2 fr.length cm2] (0, 0) _ BK7.out Try.underlying70 rfl (by kernel_rfl) ?_) | (go_at_call 70; refine (impl_made.calls k1 b Ab1 cb1 lb1 Ab2 cb2 lb2 Am1 cm1 sh Am2 cm2 fr cd r1 r2 r3 r4 _ (Kd.C_below HB1.out HB.out) KB1.out (Kd.C_below HB2.out HB.out) KB2.out (Kd.C_below HM1.out HBm.out) KM1.out (Kd.C_below HM2.out HBm.out) KM2.out HK.out).mono ?_; rintro e w9 ⟨v1, v2, rfl, ho1, ho2, hB9⟩; obtain ⟨Ax, cx, rfl⟩ := Kd.R_slice ho1; obtain ⟨Ay, cy, rfl⟩ := Kd.R_slice ho2; have HO1 := Aside0.mk (Kd.R_lower ho1 (below_size HB.out)); have HO2 := Aside0.mk (Kd.R_lower ho2 (below_size HB.out)); clear ho1 ho2; have nBK1 := Aside0.mk (blk_below (g := g1) (o := .cells #[.bool a, .slice Aa1 la1.length ca1, .slice Aa2 la2.length ca2] 28 (0, 0)) BK1.out hB9); have nBK2 := Aside0.mk (blk_below (g := g2) (o := .cells #[.bool b, .slice Ab1 lb1.length cb1, .slice Ab2 lb2.length cb2] 28 (0, 0)) BK2.out hB9); have nBK3 := Aside0.mk (blk_below (g := g3) (o := .cells #[.bool false, .slice none 0 0, .slice none 0 0] 28 (0, 0)) BK3.out hB9); have nBK4 := Aside0.mk (blk_below (g := g4) (o := .cells #[.bool a, .slice Aa1 la1.length ca1, .slice Aa2 la2.length ca2, .bool b, .slice Ab1 lb1.length cb1, .slice Ab2 lb2.length cb2] 28 (0, 0)) BK4.out hB9); have nBK7 := Aside0.mk (blk_below (g := g7) (o := .cells #[.slice Am1 sh.length cm1, .slice Am2 fr.length cm2] 70 (0, 0)) BK7.out hB9); have nHB := Aside0.mk (below_step HB.out hB9); have nHBm := Aside0.mk (below_step HBm.out hB9); clear BK1 BK2 BK3 BK4 BK7 HB HBm; have BK1 := nBK1; have BK2 := nBK2; have BK3 := nBK3; have BK4 := nBK4; have BK7 := nBK7; have HB := nHB; have HBm := nHBm; clear nBK1 nBK2 nBK3 nBK4 nBK7 nHB nHBm; clear hB9) | ((with_reducible refine gate_store rfl ?_); refine store_named rfl 28 (.tmp 4) (.tmp 27) rfl g3 #[.bool r1, .slice Ax r2.length cx, .slice Ay r3.length cy] rfl rfl 28 #[.bool false, .slice none 0 0, .slice none 0 0] BK3.out (by kernel_rfl) rfl (by simp [Value.oneCell']) ?_; intro w10 hs10 hb10; have nBK1 := Aside0.mk (hb10.blk BK1.out NEg1_g3.out); have nBK2 := Aside0.mk (hb10.blk BK2.out NEg2_g3.out); have nBK4 := Aside0.mk (hb10.blk BK4.out (fun e => NEg3_g4.out e.symm)); have nBK7 := Aside0.mk (hb10.blk BK7.out (fun e => NEg3_g7.out e.symm)); have nHB := Aside0.mk (HB.out.trans (hb10.below _ GEHB_g3.out)); have nHO1 := Aside0.mk (hb10.row HO1.out BK3.out (by decide)); have nHO2 := Aside0.mk (hb10.row HO2.out BK3.out (by decide)); clear BK1 BK2 BK4 BK7 HB HO1 HO2; clear BK3 hb10; have BK3 := Aside0.mk hs10; clear hs10; have BK1 := nBK1; have BK2 := nBK2; have BK4 := nBK4; have BK7 := nBK7; have HB := nHB; have HO1 := nHO1; have HO2 := nHO2; clear nBK1 nBK2 nBK4 nBK7 nHB nHO1 nHO2))
  refine bodyPost_ret (results_ct rfl _ _ g3 28 #[.bool r1, .slice Ax r2.length cx, .slice Ay r3.length cy] (0, 0) _ rfl BK3.out Try.underlying28 rfl (by kernel_rfl)) rfl ?_
  exact ⟨_, _, rfl, HO1.out, HO2.out, HB.out⟩
end Go.Proofs.Ytehfcnndjhjkoaa.PA

namespace Go.Proofs.Ytehfcnndjhjkoaa.PA
open Go.RowKit Go.Proofs.YtehfcnndjhjkoaaW.PrintWords Go.Proofs.YtehfcnndjhjkoaaW.PrintLast Go.Proofs.YtehfcnndjhjkoaaW.PrintMore
theorem Rz {α : Type} {d : Kd α} {e base : Nat} {w w1 : World} {ok : Nat → Prop} {v : Value} {xs : List α} (h : d.R e w base ok v xs) (hb : Below w.heap.size w w1 := by (with_reducible repeat (first | apply below_alloc | apply pw_below_drewN | apply below_drew1)); exact Below.refl _ _) : d.R e w1 base ok v xs := Kd.R_below h hb
theorem Bz {w w1 : World} {g : Nat} {o : Obj} (h : w.heap[g]? = some o) (hb : Below w.heap.size w w1 := by (with_reducible repeat (first | apply below_alloc | apply pw_below_drewN | apply below_drew1)); exact Below.refl _ _) : w1.heap[g]? = some o := blk_below h hb
theorem Wz {w0 w w1 : World} (h : Below w0.heap.size w0 w) (hb : Below w.heap.size w w1 := by (with_reducible repeat (first | apply below_alloc | apply pw_below_drewN | apply below_drew1)); exact Below.refl _ _) : Below w0.heap.size w0 w1 := below_step h hb
end Go.Proofs.Ytehfcnndjhjkoaa.PA

-- By a program (prt.py, over the print of the kit), for this claim. Not trusted: Lean checks it.
namespace Go.Proofs.Ytehfcnndjhjkoaa.PA
open Go.RowKit Go.Proofs.YtehfcnndjhjkoaaW.PrintWords Go.Proofs.YtehfcnndjhjkoaaW.PrintLast Go.Proofs.YtehfcnndjhjkoaaW.PrintMore
attribute [local go_sem] max2_int min2_int max_two min_two max_three min_three max_four min_four   -- for this text's walks alone
set_option linter.unusedVariables false
set_option linter.unusedSimpArgs false

/-! ### spec_Transpose: function 33 -/
mutual
def spec_Transpose.j0 : Nat → Bool → Bool → List Int → List Int → Bool → List Int → List Int → Option (Bool × List Int × List Int × Int)
  | 0, _, _, _, _, _, _, _ => none
  | k + 1, x23, x102000, x102001, x102002, x103000, x103001, x103002 => if x23 = true then ((spec_l4None.f).bind fun bt106 => (some (bt106.1, bt106.2.1, bt106.2.2, 3))) else ((spec_l5List.f x102000 x102001 x102002).bind fun t113 => (if t113 = 0 then (if (x102002.length : Int) = (x103001.length : Int) then (if 0 ≤ (x103001.length : Int) then (if ((x103001.length : Int) : Int).toNat ≤ 35184372088832 then (if ((x103001.length : Int) : Int).toNat ≤ 281474976710656 then (spec_Transpose.l0 k (x103001.length : Int) (List.replicate ((x103001.length : Int) : Int).toNat false) 0 x102000 x102001 x102002 x103000 x103001 x103002 x103000 (List.replicate ((x103001.length : Int) : Int).toNat 0) (([] : List Int))) else (none)) else (none)) else (none)) else ((spec_l4None.f).bind fun bt121 => (some (bt121.1, bt121.2.1, bt121.2.2, 5)))) else ((spec_l4None.f).bind fun bt114 => (some (bt114.1, bt114.2.1, bt114.2.2, t113)))))
def spec_Transpose.l0 : Nat → Int → List Bool → Int → Bool → List Int → List Int → Bool → List Int → List Int → Bool → List Int → List Int → Option (Bool × List Int × List Int × Int)
  | 0, _, _, _, _, _, _, _, _, _, _, _, _ => none
  | k + 1, x7, x9, x10, x102000, x102001, x102002, x103000, x103001, x103002, x135000, x135001, x135002 => if x10 < x7 then (if 0 ≤ x10 then (if x10 < (x102002.length : Int) then (if (wrap64 ((rd x102002 x10) - 1)) < 0 then ((spec_l4None.f).bind fun bt139 => (some (bt139.1, bt139.2.1, bt139.2.2, 3))) else (if (wrap64 ((rd x102002 x10) - 1)) ≥ x7 then ((spec_l4None.f).bind fun bt146 => (some (bt146.1, bt146.2.1, bt146.2.2, 3))) else (if 0 ≤ (wrap64 ((rd x102002 x10) - 1)) then (if (wrap64 ((rd x102002 x10) - 1)) < (x9.length : Int) then (if rdOf false x9 (wrap64 ((rd x102002 x10) - 1)) = true then ((spec_l4None.f).bind fun bt154 => (some (bt154.1, bt154.2.1, bt154.2.2, 3))) else (if x10 < (x103001.length : Int) then (if (wrap64 ((rd x102002 x10) - 1)) < (x135001.length : Int) then (spec_Transpose.l0 k x7 (x9.set ((wrap64 ((rd x102002 x10) - 1)) : Int).toNat true) (wrap64 (x10 + 1)) x102000 x102001 x102002 x103000 x103001 x103002 x135000 (x135001.set ((wrap64 ((rd x102002 x10) - 1)) : Int).toNat (rd x103001 x10)) x135002) else (none)) else (none))) else (none)) else (none)))) else (none)) else (none)) else (spec_Transpose.l1 k x7 0 x102000 x102001 x102002 x103000 x103001 x103002 x135000 x135001 x135002)
def spec_Transpose.l1 : Nat → Int → Int → Bool → List Int → List Int → Bool → List Int → List Int → Bool → List Int → List Int → Option (Bool × List Int × List Int × Int)
  | 0, _, _, _, _, _, _, _, _, _, _, _ => none
  | k + 1, x7, x12, x102000, x102001, x102002, x103000, x103001, x103002, x135000, x135001, x135002 => if x12 < (x103002.length : Int) then ((spec_l5Index.f k x135001 x12).bind fun t164 => (if 0 ≤ x7 then (if (x7 : Int).toNat ≤ 35184372088832 then (spec_Transpose.l2 k x7 x12 t164 (List.replicate (x7 : Int).toNat 0) 0 x102000 x102001 x102002 x103000 x103001 x103002 x135000 x135001 x135002) else (none)) else (none))) else (some (x135000, x135001, x135002, 0))
def spec_Transpose.l2 : Nat → Int → Int → List Int → List Int → Int → Bool → List Int → List Int → Bool → List Int → List Int → Bool → List Int → List Int → Option (Bool × List Int × List Int × Int)
  | 0, _, _, _, _, _, _, _, _, _, _, _, _, _, _ => none
  | k + 1, x7, x12, x13, x14, x15, x102000, x102001, x102002, x103000, x103001, x103002, x135000, x135001, x135002 => if x15 < x7 then (if 0 ≤ x15 then (if x15 < (x102002.length : Int) then (if 0 ≤ (wrap64 ((rd x102002 x15) - 1)) then (if (wrap64 ((rd x102002 x15) - 1)) < (x13.length : Int) then (if x15 < (x14.length : Int) then (spec_Transpose.l2 k x7 x12 x13 (x14.set (x15 : Int).toNat (rd x13 (wrap64 ((rd x102002 x15) - 1)))) (wrap64 (x15 + 1)) x102000 x102001 x102002 x103000 x103001 x103002 x135000 x135001 x135002) else (none)) else (none)) else (none)) else (none)) else (none)) else ((spec_l5At.f k x103001 x14).bind fun t173 => (if 0 ≤ t173 then (if t173 < (x103002.length : Int) then (if x135002.length < 17592186044416 then (spec_Transpose.l1 k x7 (wrap64 (x12 + 1)) x102000 x102001 x102002 x103000 x103001 x103002 x135000 x135001 (x135002 ++ [rd x103002 t173])) else (none)) else (none)) else (none)))
end
def spec_Transpose.f (k : Nat) (a0_0 : Bool) (l0_1 : List Int) (l0_2 : List Int) (a1_0 : Bool) (l1_1 : List Int) (l1_2 : List Int) : Option (Bool × List Int × List Int × Int) := (spec_ArrayOk.f k a0_0 l0_1 l0_2).bind fun t104 => (if t104 = true then ((spec_ArrayOk.f k a1_0 l1_1 l1_2).bind fun t105 => (spec_Transpose.j0 k (!t105) a0_0 l0_1 l0_2 a1_0 l1_1 l1_2)) else (spec_Transpose.j0 k true a0_0 l0_1 l0_2 a1_0 l1_1 l1_2))
theorem spec_Transpose.mono_l : ∀ k, (∀ y0 y1 y2 y3 y4 y5 y6, LeO (spec_Transpose.j0 k y0 y1 y2 y3 y4 y5 y6) (spec_Transpose.j0 (k + 1) y0 y1 y2 y3 y4 y5 y6)) ∧ (∀ y0 y1 y2 y3 y4 y5 y6 y7 y8 y9 y10 y11, LeO (spec_Transpose.l0 k y0 y1 y2 y3 y4 y5 y6 y7 y8 y9 y10 y11) (spec_Transpose.l0 (k + 1) y0 y1 y2 y3 y4 y5 y6 y7 y8 y9 y10 y11)) ∧ (∀ y0 y1 y2 y3 y4 y5 y6 y7 y8 y9 y10, LeO (spec_Transpose.l1 k y0 y1 y2 y3 y4 y5 y6 y7 y8 y9 y10) (spec_Transpose.l1 (k + 1) y0 y1 y2 y3 y4 y5 y6 y7 y8 y9 y10)) ∧ (∀ y0 y1 y2 y3 y4 y5 y6 y7 y8 y9 y10 y11 y12 y13, LeO (spec_Transpose.l2 k y0 y1 y2 y3 y4 y5 y6 y7 y8 y9 y10 y11 y12 y13) (spec_Transpose.l2 (k + 1) y0 y1 y2 y3 y4 y5 y6 y7 y8 y9 y10 y11 y12 y13))
  | 0 => ⟨fun _ _ _ _ _ _ _ r h => by simp [spec_Transpose.j0] at h, fun _ _ _ _ _ _ _ _ _ _ _ _ r h => by simp [spec_Transpose.l0] at h, fun _ _ _ _ _ _ _ _ _ _ _ r h => by simp [spec_Transpose.l1] at h, fun _ _ _ _ _ _ _ _ _ _ _ _ _ _ r h => by simp [spec_Transpose.l2] at h⟩
  | k + 1 => by
    obtain ⟨ih0, ih1, ih2, ih3⟩ := spec_Transpose.mono_l k
    refine ⟨?_, ?_, ?_, ?_⟩
    · intro y0 y1 y2 y3 y4 y5 y6
      unfold spec_Transpose.j0
      repeat' first
      | (with_reducible exact ih0 _ _ _ _ _ _ _)
      | (with_reducible exact ih1 _ _ _ _ _ _ _ _ _ _ _ _)
      | (with_reducible exact ih2 _ _ _ _ _ _ _ _ _ _ _)
      | (with_reducible exact ih3 _ _ _ _ _ _ _ _ _ _ _ _ _ _)
      | (with_reducible exact spec_ArrayOk.mono _ _ _ _)
      | (with_reducible exact spec_l5At.mono _ _ _)
      | (with_reducible exact spec_l5Index.mono _ _ _)
      | (with_reducible exact LeO.refl _)
      | (with_reducible exact LeO.none _)
      | (with_reducible refine LeO.ite ?_ ?_)
      | (with_reducible refine LeO.bind ?_ (fun _ => ?_))
      | exact ih0 _ _ _ _ _ _ _
      | exact ih1 _ _ _ _ _ _ _ _ _ _ _ _
      | exact ih2 _ _ _ _ _ _ _ _ _ _ _
      | exact ih3 _ _ _ _ _ _ _ _ _ _ _ _ _ _
      | exact spec_ArrayOk.mono _ _ _ _
      | exact spec_l5At.mono _ _ _
      | exact spec_l5Index.mono _ _ _
      | exact LeO.none _
      | refine LeO.ite ?_ ?_
      | refine LeO.bind ?_ (fun _ => ?_)
    · intro y0 y1 y2 y3 y4 y5 y6 y7 y8 y9 y10 y11
      unfold spec_Transpose.l0
      repeat' first
      | (with_reducible exact ih0 _ _ _ _ _ _ _)
      | (with_reducible exact ih1 _ _ _ _ _ _ _ _ _ _ _ _)
      | (with_reducible exact ih2 _ _ _ _ _ _ _ _ _ _ _)
      | (with_reducible exact ih3 _ _ _ _ _ _ _ _ _ _ _ _ _ _)
      | (with_reducible exact spec_ArrayOk.mono _ _ _ _)
      | (with_reducible exact spec_l5At.mono _ _ _)
      | (with_reducible exact spec_l5Index.mono _ _ _)
      | (with_reducible exact LeO.refl _)
      | (with_reducible exact LeO.none _)
      | (with_reducible refine LeO.ite ?_ ?_)
      | (with_reducible refine LeO.bind ?_ (fun _ => ?_))
      | exact ih0 _ _ _ _ _ _ _
      | exact ih1 _ _ _ _ _ _ _ _ _ _ _ _
      | exact ih2 _ _ _ _ _ _ _ _ _ _ _
      | exact ih3 _ _ _ _ _ _ _ _ _ _ _ _ _ _
      | exact spec_ArrayOk.mono _ _ _ _
      | exact spec_l5At.mono _ _ _
      | exact spec_l5Index.mono _ _ _
      | exact LeO.none _
      | refine LeO.ite ?_ ?_
      | refine LeO.bind ?_ (fun _ => ?_)
    · intro y0 y1 y2 y3 y4 y5 y6 y7 y8 y9 y10
      unfold spec_Transpose.l1
      repeat' first
      | (with_reducible exact ih0 _ _ _ _ _ _ _)
      | (with_reducible exact ih1 _ _ _ _ _ _ _ _ _ _ _ _)
      | (with_reducible exact ih2 _ _ _ _ _ _ _ _ _ _ _)
      | (with_reducible exact ih3 _ _ _ _ _ _ _ _ _ _ _ _ _ _)
      | (with_reducible exact spec_ArrayOk.mono _ _ _ _)
      | (with_reducible exact spec_l5At.mono _ _ _)
      | (with_reducible exact spec_l5Index.mono _ _ _)
      | (with_reducible exact LeO.refl _)
      | (with_reducible exact LeO.none _)
      | (with_reducible refine LeO.ite ?_ ?_)
      | (with_reducible refine LeO.bind ?_ (fun _ => ?_))
      | exact ih0 _ _ _ _ _ _ _
      | exact ih1 _ _ _ _ _ _ _ _ _ _ _ _
      | exact ih2 _ _ _ _ _ _ _ _ _ _ _
      | exact ih3 _ _ _ _ _ _ _ _ _ _ _ _ _ _
      | exact spec_ArrayOk.mono _ _ _ _
      | exact spec_l5At.mono _ _ _
      | exact spec_l5Index.mono _ _ _
      | exact LeO.none _
      | refine LeO.ite ?_ ?_
      | refine LeO.bind ?_ (fun _ => ?_)
    · intro y0 y1 y2 y3 y4 y5 y6 y7 y8 y9 y10 y11 y12 y13
      unfold spec_Transpose.l2
      repeat' first
      | (with_reducible exact ih0 _ _ _ _ _ _ _)
      | (with_reducible exact ih1 _ _ _ _ _ _ _ _ _ _ _ _)
      | (with_reducible exact ih2 _ _ _ _ _ _ _ _ _ _ _)
      | (with_reducible exact ih3 _ _ _ _ _ _ _ _ _ _ _ _ _ _)
      | (with_reducible exact spec_ArrayOk.mono _ _ _ _)
      | (with_reducible exact spec_l5At.mono _ _ _)
      | (with_reducible exact spec_l5Index.mono _ _ _)
      | (with_reducible exact LeO.refl _)
      | (with_reducible exact LeO.none _)
      | (with_reducible refine LeO.ite ?_ ?_)
      | (with_reducible refine LeO.bind ?_ (fun _ => ?_))
      | exact ih0 _ _ _ _ _ _ _
      | exact ih1 _ _ _ _ _ _ _ _ _ _ _ _
      | exact ih2 _ _ _ _ _ _ _ _ _ _ _
      | exact ih3 _ _ _ _ _ _ _ _ _ _ _ _ _ _
      | exact spec_ArrayOk.mono _ _ _ _
      | exact spec_l5At.mono _ _ _
      | exact spec_l5Index.mono _ _ _
      | exact LeO.none _
      | refine LeO.ite ?_ ?_
      | refine LeO.bind ?_ (fun _ => ?_)
theorem spec_Transpose.mono : ∀ a0 a1 a2 a3 a4 a5 k, LeO (spec_Transpose.f k a0 a1 a2 a3 a4 a5) (spec_Transpose.f (k + 1) a0 a1 a2 a3 a4 a5) := by
  intro a0 a1 a2 a3 a4 a5 k
  obtain ⟨ih0, ih1, ih2, ih3⟩ := spec_Transpose.mono_l k
  unfold spec_Transpose.f
  repeat' first
      | (with_reducible exact ih0 _ _ _ _ _ _ _)
      | (with_reducible exact ih1 _ _ _ _ _ _ _ _ _ _ _ _)
      | (with_reducible exact ih2 _ _ _ _ _ _ _ _ _ _ _)
      | (with_reducible exact ih3 _ _ _ _ _ _ _ _ _ _ _ _ _ _)
      | (with_reducible exact spec_ArrayOk.mono _ _ _ _)
      | (with_reducible exact spec_l5At.mono _ _ _)
      | (with_reducible exact spec_l5Index.mono _ _ _)
      | (with_reducible exact LeO.refl _)
      | (with_reducible exact LeO.none _)
      | (with_reducible refine LeO.ite ?_ ?_)
      | (with_reducible refine LeO.bind ?_ (fun _ => ?_))
      | exact ih0 _ _ _ _ _ _ _
      | exact ih1 _ _ _ _ _ _ _ _ _ _ _ _
      | exact ih2 _ _ _ _ _ _ _ _ _ _ _
      | exact ih3 _ _ _ _ _ _ _ _ _ _ _ _ _ _
      | exact spec_ArrayOk.mono _ _ _ _
      | exact spec_l5At.mono _ _ _
      | exact spec_l5Index.mono _ _ _
      | exact LeO.none _
      | refine LeO.ite ?_ ?_
      | refine LeO.bind ?_ (fun _ => ?_)
def spec_Transpose.T9 : Bool × List (List Nat × List Nat) := (true, [([], []), ([0], [0]), ([], []), ([2, 2], [2]), ([], []), ([1, 3, 4], [1, 3, 4]), ([], []), ([6, 5, 0, 1, 2, 3, 4, 5, 6], [5, 6])])
def spec_Transpose.B9 : List Nat := [0, 1, 0, 4, 0, 31, 0, 127]
theorem spec_Transpose.tab9 : rtab .any (opsOf Try.f33 9) = spec_Transpose.T9 := by kernel_rfl
theorem spec_Transpose.bits9 : waitsOk spec_Transpose.T9.2 spec_Transpose.B9 = true := by kernel_rfl
def spec_Transpose.T18 : Bool × List (List Nat × List Nat) := (true, [([], []), ([0], [0]), ([], []), ([], []), ([3], [3]), ([], []), ([4, 5], [4, 5]), ([6], [6]), ([1, 2, 0, 1, 2, 3, 4, 5, 6, 7], [1, 2]), ([8, 7, 0, 1, 2, 3, 4, 5, 6, 7], [7, 8])])
def spec_Transpose.B18 : List Nat := [0, 1, 0, 0, 8, 0, 56, 120, 255, 511]
theorem spec_Transpose.tab18 : rtab .any (opsOf Try.f33 18) = spec_Transpose.T18 := by kernel_rfl
theorem spec_Transpose.bits18 : waitsOk spec_Transpose.T18.2 spec_Transpose.B18 = true := by kernel_rfl
def spec_Transpose.T28 : Bool × List (List Nat × List Nat) := (true, [([], []), ([0], [0]), ([], []), ([2], [2]), ([], []), ([4], [4]), ([], []), ([5, 6], [5, 6]), ([3, 7], [3, 7]), ([8], [8]), ([9], [9]), ([1, 10, 7], [1, 10]), ([0, 1, 2, 3, 4, 5, 6, 7, 8, 9, 10, 11], []), ([12, 11, 11, 0, 1, 2, 3, 4, 5, 6, 7, 8, 9, 10, 11], [11, 12])])
def spec_Transpose.B28 : List Nat := [0, 1, 0, 4, 0, 16, 0, 112, 252, 508, 1020, 2047, 4095, 8191]
theorem spec_Transpose.tab28 : rtab .any (opsOf Try.f33 28) = spec_Transpose.T28 := by kernel_rfl
theorem spec_Transpose.bits28 : waitsOk spec_Transpose.T28.2 spec_Transpose.B28 = true := by kernel_rfl

end Go.Proofs.Ytehfcnndjhjkoaa.PA
