import Derived.Test.YtehfcnndjhjkoaaKFnExactTake3
import Derived.Deep.RegionHeld3
import Derived.StillTailTactics
import Derived.IntWalk

namespace Go.Proofs.Ytehfcnndjhjkoaa.PA
open Go.RowKit Go.Proofs.YtehfcnndjhjkoaaW.PrintWords Go.Proofs.YtehfcnndjhjkoaaW.PrintLast Go.Proofs.YtehfcnndjhjkoaaW.PrintMore
set_option linter.unusedVariables false
set_option linter.unusedSimpArgs false
set_option maxHeartbeats 2000000 in
set_option maxRecDepth 100000 in
theorem axesFor_list (a : Bool) (Aa1 : Option Addr) (ca1 : Nat) (la1 : List Int) (Aa2 : Option Addr) (ca2 : Nat) (la2 : List Int) (b : Bool) (Ab1 : Option Addr) (cb1 : Nat) (lb1 : List Int) (Ab2 : Option Addr) (cb2 : Nat) (lb2 : List Int) (w : World) (ha1 : Kd.C (Kd.int .i64) w Aa1 la1.length la1) (ka1 : la1.length ≤ ca1) (ha2 : Kd.C (Kd.int .i64) w Aa2 la2.length la2) (ka2 : la2.length ≤ ca2) (hb1 : Kd.C (Kd.int .i64) w Ab1 lb1.length lb1) (kb1 : lb1.length ≤ cb1) (hb2 : Kd.C (Kd.int .i64) w Ab2 lb2.length lb2) (kb2 : lb2.length ≤ cb2) (v : Int) (hf : impl_listOk.f a la1 la2 = some v) (hv : v ≠ 0) :
    Calls Try.prog 128 #[.agg #[.bool a, .slice Aa1 la1.length ca1, .slice Aa2 la2.length ca2], .agg #[.bool b, .slice Ab1 lb1.length cb1, .slice Ab2 lb2.length cb2]] w fun e w' => e = .returned (.tuple #[.agg #[.bool b, .slice Ab1 lb1.length cb1, .slice Ab2 lb2.length cb2], .int .i64 v]) ∧ Below w.heap.size w w' := by
  have Ha1 := Aside0.mk ha1
  have Ka1 := Aside0.mk ka1
  clear ha1 ka1
  have Ha2 := Aside0.mk ha2
  have Ka2 := Aside0.mk ka2
  clear ha2 ka2
  have Hb1 := Aside0.mk hb1
  have Kb1 := Aside0.mk kb1
  clear hb1 kb1
  have Hb2 := Aside0.mk hb2
  have Kb2 := Aside0.mk kb2
  clear hb2 kb2
  have HF := Aside0.mk hf
  have c0 : (v == 0) = false := beq_eq_false_iff_ne.mpr hv
  have c1 : (v != 0) = true := bne_iff_ne.mpr hv
  clear hf hv
  have HS := Aside0.mk (Sx.start w)
  go_enter Try.func128, Try.ntmps128
  go_wp2_with (first | ((with_reducible refine gate_dst (N := 2) rfl ?_); refine box_event ?hg (N := 2) ?hd (cs := #[.bool a, .slice Aa1 la1.length ca1, .slice Aa2 la2.length ca2]) (t := 28) ?hr ?_; (case hd => rfl); (case hg => rfl); (case hr => first | (go_simp; done) | (go_simp; rfl)); intro gK hg1 w1 hx1 hb1; have nS : Aside0 (Sx w w1 [(.blk gK #[.bool a, .slice Aa1 la1.length ca1, .slice Aa2 la2.length ca2] 28)]) := Aside0.mk (HS.out.box hg1 hx1 hb1); clear HS; have HS := nS; clear nS hg1 hx1 hb1) | ((with_reducible refine gate_dst (N := 3) rfl ?_); refine box_event ?hg (N := 3) ?hd (cs := #[.bool b, .slice Ab1 lb1.length cb1, .slice Ab2 lb2.length cb2]) (t := 28) ?hr ?_; (case hd => rfl); (case hg => rfl); (case hr => first | (go_simp; done) | (go_simp; rfl)); intro gB hg2 w2 hx2 hb2; have nS : Aside0 (Sx w w2 [(.blk gB #[.bool b, .slice Ab1 lb1.length cb1, .slice Ab2 lb2.length cb2] 28), (.blk gK #[.bool a, .slice Aa1 la1.length ca1, .slice Aa2 la2.length ca2] 28)]) := Aside0.mk (HS.out.box hg2 hx2 hb2); clear HS; have HS := nS; clear nS hg2 hx2 hb2) | ((with_reducible refine gate_dst (N := 4) rfl ?_); refine box_event ?hg (N := 4) ?hd (cs := #[.bool false, .slice none 0 0, .slice none 0 0]) (t := 28) ?hr ?_; (case hd => rfl); (case hg => rfl); (case hr => first | (go_simp; done) | (go_simp; rfl)); intro gR hg3 w3 hx3 hb3; have nS : Aside0 (Sx w w3 [(.blk gR #[.bool false, .slice none 0 0, .slice none 0 0] 28), (.blk gB #[.bool b, .slice Ab1 lb1.length cb1, .slice Ab2 lb2.length cb2] 28), (.blk gK #[.bool a, .slice Aa1 la1.length ca1, .slice Aa2 la2.length ca2] 28)]) := Aside0.mk (HS.out.box hg3 hx3 hb3); clear HS; have HS := nS; clear nS hg3 hx3 hb3) | ((with_reducible refine gate_dst (N := 7) rfl ?_); refine wpList_load_row rfl 28 (.tmp 2) rfl gK rfl 28 #[.bool a, .slice Aa1 la1.length ca1, .slice Aa2 la2.length ca2] (0, 0) _ (HS.out.blk 2 rfl) Try.underlying28 rfl (by kernel_rfl) ?_) | (go_at_call 99; refine (impl_listOk.calls a Aa1 ca1 la1 Aa2 ca2 la2 v _ (Kd.C_below Ha1.out HS.out.below) Ka1.out (Kd.C_below Ha2.out HS.out.below) Ka2.out HF.out).mono ?_; rintro e w4 ⟨rfl, hb4⟩; have nS : Aside0 (Sx w w4 [(.blk gR #[.bool false, .slice none 0 0, .slice none 0 0] 28), (.blk gB #[.bool b, .slice Ab1 lb1.length cb1, .slice Ab2 lb2.length cb2] 28), (.blk gK #[.bool a, .slice Aa1 la1.length ca1, .slice Aa2 la2.length ca2] 28)]) := Aside0.mk (HS.out.step hb4); clear HS; have HS := nS; clear nS hb4) | ((with_reducible refine gate_dst (N := 11) rfl ?_); refine wpList_load_row rfl 28 (.tmp 3) rfl gB rfl 28 #[.bool b, .slice Ab1 lb1.length cb1, .slice Ab2 lb2.length cb2] (0, 0) _ (HS.out.blk 1 rfl) Try.underlying28 rfl (by kernel_rfl) ?_) | ((with_reducible refine gate_store rfl ?_); refine store_named rfl 28 (.tmp 4) (.tmp 11) rfl gR #[.bool b, .slice Ab1 lb1.length cb1, .slice Ab2 lb2.length cb2] rfl rfl 28 #[.bool false, .slice none 0 0, .slice none 0 0] (HS.out.blk 0 rfl) (by kernel_rfl) rfl (by simp [Value.oneCell']) ?_; intro w5 hx5 hb5; have nS : Aside0 (Sx w w5 [(.blk gR #[.bool b, .slice Ab1 lb1.length cb1, .slice Ab2 lb2.length cb2] 28), (.blk gB #[.bool b, .slice Ab1 lb1.length cb1, .slice Ab2 lb2.length cb2] 28), (.blk gK #[.bool a, .slice Aa1 la1.length ca1, .slice Aa2 la2.length ca2] 28)]) := Aside0.mk (HS.out.put 0 rfl hx5 hb5); clear HS; have HS := nS; clear nS hx5 hb5))
  refine bodyPost_ret (results_ct rfl _ _ gR 28 #[.bool b, .slice Ab1 lb1.length cb1, .slice Ab2 lb2.length cb2] (0, 0) _ rfl (HS.out.blk 0 rfl) Try.underlying28 rfl (by kernel_rfl)) rfl ?_
  exact ⟨rfl, HS.out.below⟩
set_option maxHeartbeats 2000000 in
set_option maxRecDepth 100000 in
theorem axesFor_deep (a : Bool) (Aa1 : Option Addr) (ca1 : Nat) (la1 : List Int) (Aa2 : Option Addr) (ca2 : Nat) (la2 : List Int) (b : Bool) (Ab1 : Option Addr) (cb1 : Nat) (lb1 : List Int) (Ab2 : Option Addr) (cb2 : Nat) (lb2 : List Int) (w : World) (ha1 : Kd.C (Kd.int .i64) w Aa1 la1.length la1) (ka1 : la1.length ≤ ca1) (ha2 : Kd.C (Kd.int .i64) w Aa2 la2.length la2) (ka2 : la2.length ≤ ca2) (hb1 : Kd.C (Kd.int .i64) w Ab1 lb1.length lb1) (kb1 : lb1.length ≤ cb1) (hb2 : Kd.C (Kd.int .i64) w Ab2 lb2.length lb2) (kb2 : lb2.length ≤ cb2) (hf : impl_listOk.f a la1 la2 = some 0) (hz : lb1.length = 0) (hd : 5 < la2.length) :
    Calls Try.prog 128 #[.agg #[.bool a, .slice Aa1 la1.length ca1, .slice Aa2 la2.length ca2], .agg #[.bool b, .slice Ab1 lb1.length cb1, .slice Ab2 lb2.length cb2]] w fun e w' => e = .returned (.tuple #[.agg #[.bool b, .slice Ab1 lb1.length cb1, .slice Ab2 lb2.length cb2], .int .i64 7]) ∧ Below w.heap.size w w' := by
  have Ha1 := Aside0.mk ha1
  have Ka1 := Aside0.mk ka1
  clear ha1 ka1
  have Ha2 := Aside0.mk ha2
  have Ka2 := Aside0.mk ka2
  clear ha2 ka2
  have Hb1 := Aside0.mk hb1
  have Kb1 := Aside0.mk kb1
  clear hb1 kb1
  have Hb2 := Aside0.mk hb2
  have Kb2 := Aside0.mk kb2
  clear hb2 kb2
  have HF := Aside0.mk hf
  clear hf
  have HZ := Aside0.mk hz
  have c0 : ((lb1.length : Int) == 0) = true := beq_iff_eq.mpr (by omega)
  have c1 : (lb1.length == 0) = true := beq_iff_eq.mpr hz
  have c1a : decide (lb1.length = 0) = true := decide_eq_true hz
  have c1b : decide ((lb1.length : Int) = 0) = true := decide_eq_true (by omega)
  clear hz
  have c2 : ((la2.length : Int) > 5) = True := by simp; omega
  have c3 : (5 : Int) < (la2.length : Int) := by omega
  have c4 : 5 < la2.length := hd
  clear hd
  have HS := Aside0.mk (Sx.start w)
  go_enter Try.func128, Try.ntmps128
  go_wp2_with (first | ((with_reducible refine gate_dst (N := 2) rfl ?_); refine box_event ?hg (N := 2) ?hd (cs := #[.bool a, .slice Aa1 la1.length ca1, .slice Aa2 la2.length ca2]) (t := 28) ?hr ?_; (case hd => rfl); (case hg => rfl); (case hr => first | (go_simp; done) | (go_simp; rfl)); intro gK hg1 w1 hx1 hb1; have nS : Aside0 (Sx w w1 [(.blk gK #[.bool a, .slice Aa1 la1.length ca1, .slice Aa2 la2.length ca2] 28)]) := Aside0.mk (HS.out.box hg1 hx1 hb1); clear HS; have HS := nS; clear nS hg1 hx1 hb1) | ((with_reducible refine gate_dst (N := 3) rfl ?_); refine box_event ?hg (N := 3) ?hd (cs := #[.bool b, .slice Ab1 lb1.length cb1, .slice Ab2 lb2.length cb2]) (t := 28) ?hr ?_; (case hd => rfl); (case hg => rfl); (case hr => first | (go_simp; done) | (go_simp; rfl)); intro gB hg2 w2 hx2 hb2; have nS : Aside0 (Sx w w2 [(.blk gB #[.bool b, .slice Ab1 lb1.length cb1, .slice Ab2 lb2.length cb2] 28), (.blk gK #[.bool a, .slice Aa1 la1.length ca1, .slice Aa2 la2.length ca2] 28)]) := Aside0.mk (HS.out.box hg2 hx2 hb2); clear HS; have HS := nS; clear nS hg2 hx2 hb2) | ((with_reducible refine gate_dst (N := 4) rfl ?_); refine box_event ?hg (N := 4) ?hd (cs := #[.bool false, .slice none 0 0, .slice none 0 0]) (t := 28) ?hr ?_; (case hd => rfl); (case hg => rfl); (case hr => first | (go_simp; done) | (go_simp; rfl)); intro gR hg3 w3 hx3 hb3; have nS : Aside0 (Sx w w3 [(.blk gR #[.bool false, .slice none 0 0, .slice none 0 0] 28), (.blk gB #[.bool b, .slice Ab1 lb1.length cb1, .slice Ab2 lb2.length cb2] 28), (.blk gK #[.bool a, .slice Aa1 la1.length ca1, .slice Aa2 la2.length ca2] 28)]) := Aside0.mk (HS.out.box hg3 hx3 hb3); clear HS; have HS := nS; clear nS hg3 hx3 hb3) | ((with_reducible refine gate_dst (N := 7) rfl ?_); refine wpList_load_row rfl 28 (.tmp 2) rfl gK rfl 28 #[.bool a, .slice Aa1 la1.length ca1, .slice Aa2 la2.length ca2] (0, 0) _ (HS.out.blk 2 rfl) Try.underlying28 rfl (by kernel_rfl) ?_) | (go_at_call 99; refine (impl_listOk.calls a Aa1 ca1 la1 Aa2 ca2 la2 0 _ (Kd.C_below Ha1.out HS.out.below) Ka1.out (Kd.C_below Ha2.out HS.out.below) Ka2.out HF.out).mono ?_; rintro e w4 ⟨rfl, hb4⟩; have nS : Aside0 (Sx w w4 [(.blk gR #[.bool false, .slice none 0 0, .slice none 0 0] 28), (.blk gB #[.bool b, .slice Ab1 lb1.length cb1, .slice Ab2 lb2.length cb2] 28), (.blk gK #[.bool a, .slice Aa1 la1.length ca1, .slice Aa2 la2.length ca2] 28)]) := Aside0.mk (HS.out.step hb4); clear HS; have HS := nS; clear nS hb4) | ((with_reducible refine gate_dst (N := 13) rfl ?_); refine wpList_load_row rfl 28 (.tmp 3) rfl gB rfl 28 #[.bool b, .slice Ab1 lb1.length cb1, .slice Ab2 lb2.length cb2] (0, 0) _ (HS.out.blk 1 rfl) Try.underlying28 rfl (by kernel_rfl) ?_) | (go_at_call 90; refine (impl_Array_rank.calls b Ab1 cb1 lb1 Ab2 cb2 lb2 (lb1.length : Int) _ (Kd.C_below Hb1.out HS.out.below) Kb1.out (Kd.C_below Hb2.out HS.out.below) Kb2.out rfl).mono ?_; rintro e w5 ⟨rfl, hb5⟩; have nS : Aside0 (Sx w w5 [(.blk gR #[.bool false, .slice none 0 0, .slice none 0 0] 28), (.blk gB #[.bool b, .slice Ab1 lb1.length cb1, .slice Ab2 lb2.length cb2] 28), (.blk gK #[.bool a, .slice Aa1 la1.length ca1, .slice Aa2 la2.length ca2] 28)]) := Aside0.mk (HS.out.step hb5); clear HS; have HS := nS; clear nS hb5) | ((with_reducible refine gate_dst (N := 17) rfl ?_); refine ev_load rfl 22 (.tmp 16) rfl ⟨gK, 2, none⟩ rfl (.slice Aa2 la2.length ca2) ((blk_cell (HS.out.blk 2 rfl) 2).trans rfl) (by kernel_rfl) ?_) | ((with_reducible refine gate_dst (N := 20) rfl ?_); refine wpList_load_row rfl 28 (.tmp 3) rfl gB rfl 28 #[.bool b, .slice Ab1 lb1.length cb1, .slice Ab2 lb2.length cb2] (0, 0) _ (HS.out.blk 1 rfl) Try.underlying28 rfl (by kernel_rfl) ?_) | ((with_reducible refine gate_store rfl ?_); refine store_named rfl 28 (.tmp 4) (.tmp 20) rfl gR #[.bool b, .slice Ab1 lb1.length cb1, .slice Ab2 lb2.length cb2] rfl rfl 28 #[.bool false, .slice none 0 0, .slice none 0 0] (HS.out.blk 0 rfl) (by kernel_rfl) rfl (by simp [Value.oneCell']) ?_; intro w6 hx6 hb6; have nS : Aside0 (Sx w w6 [(.blk gR #[.bool b, .slice Ab1 lb1.length cb1, .slice Ab2 lb2.length cb2] 28), (.blk gB #[.bool b, .slice Ab1 lb1.length cb1, .slice Ab2 lb2.length cb2] 28), (.blk gK #[.bool a, .slice Aa1 la1.length ca1, .slice Aa2 la2.length ca2] 28)]) := Aside0.mk (HS.out.put 0 rfl hx6 hb6); clear HS; have HS := nS; clear nS hx6 hb6))
  refine bodyPost_ret (results_ct rfl _ _ gR 28 #[.bool b, .slice Ab1 lb1.length cb1, .slice Ab2 lb2.length cb2] (0, 0) _ rfl (HS.out.blk 0 rfl) Try.underlying28 rfl (by kernel_rfl)) rfl ?_
  exact ⟨rfl, HS.out.below⟩
set_option maxHeartbeats 2000000 in
set_option maxRecDepth 100000 in
theorem axesFor_len (a : Bool) (Aa1 : Option Addr) (ca1 : Nat) (la1 : List Int) (Aa2 : Option Addr) (ca2 : Nat) (la2 : List Int) (b : Bool) (Ab1 : Option Addr) (cb1 : Nat) (lb1 : List Int) (Ab2 : Option Addr) (cb2 : Nat) (lb2 : List Int) (w : World) (ha1 : Kd.C (Kd.int .i64) w Aa1 la1.length la1) (ka1 : la1.length ≤ ca1) (ha2 : Kd.C (Kd.int .i64) w Aa2 la2.length la2) (ka2 : la2.length ≤ ca2) (hb1 : Kd.C (Kd.int .i64) w Ab1 lb1.length lb1) (kb1 : lb1.length ≤ cb1) (hb2 : Kd.C (Kd.int .i64) w Ab2 lb2.length lb2) (kb2 : lb2.length ≤ cb2) (hf : impl_listOk.f a la1 la2 = some 0) (hz : lb1.length ≠ 0) (hn : la2.length ≠ lb1.length) :
    Calls Try.prog 128 #[.agg #[.bool a, .slice Aa1 la1.length ca1, .slice Aa2 la2.length ca2], .agg #[.bool b, .slice Ab1 lb1.length cb1, .slice Ab2 lb2.length cb2]] w fun e w' => e = .returned (.tuple #[.agg #[.bool b, .slice Ab1 lb1.length cb1, .slice Ab2 lb2.length cb2], .int .i64 5]) ∧ Below w.heap.size w w' := by
  have Ha1 := Aside0.mk ha1
  have Ka1 := Aside0.mk ka1
  clear ha1 ka1
  have Ha2 := Aside0.mk ha2
  have Ka2 := Aside0.mk ka2
  clear ha2 ka2
  have Hb1 := Aside0.mk hb1
  have Kb1 := Aside0.mk kb1
  clear hb1 kb1
  have Hb2 := Aside0.mk hb2
  have Kb2 := Aside0.mk kb2
  clear hb2 kb2
  have HF := Aside0.mk hf
  clear hf
  have c0 : ((lb1.length : Int) == 0) = false := beq_eq_false_iff_ne.mpr (by omega)
  have c1 : ¬ lb1.length = 0 := hz
  clear hz
  have d0 : ((la2.length : Int) == (lb1.length : Int)) = false := beq_eq_false_iff_ne.mpr (by omega)
  have d1 : ((la2.length : Int) != (lb1.length : Int)) = true := bne_iff_ne.mpr (by omega)
  have d2 : ¬ la2.length = lb1.length := hn
  clear hn
  have HS := Aside0.mk (Sx.start w)
  go_enter Try.func128, Try.ntmps128
  go_upto_region 8 with (first | ((with_reducible refine gate_dst (N := 2) rfl ?_); refine box_event ?hg (N := 2) ?hd (cs := #[.bool a, .slice Aa1 la1.length ca1, .slice Aa2 la2.length ca2]) (t := 28) ?hr ?_; (case hd => rfl); (case hg => rfl); (case hr => first | (go_simp; done) | (go_simp; rfl)); intro gK hg1 w1 hx1 hb1; have nS : Aside0 (Sx w w1 [(.blk gK #[.bool a, .slice Aa1 la1.length ca1, .slice Aa2 la2.length ca2] 28)]) := Aside0.mk (HS.out.box hg1 hx1 hb1); clear HS; have HS := nS; clear nS hg1 hx1 hb1) | ((with_reducible refine gate_dst (N := 3) rfl ?_); refine box_event ?hg (N := 3) ?hd (cs := #[.bool b, .slice Ab1 lb1.length cb1, .slice Ab2 lb2.length cb2]) (t := 28) ?hr ?_; (case hd => rfl); (case hg => rfl); (case hr => first | (go_simp; done) | (go_simp; rfl)); intro gB hg2 w2 hx2 hb2; have nS : Aside0 (Sx w w2 [(.blk gB #[.bool b, .slice Ab1 lb1.length cb1, .slice Ab2 lb2.length cb2] 28), (.blk gK #[.bool a, .slice Aa1 la1.length ca1, .slice Aa2 la2.length ca2] 28)]) := Aside0.mk (HS.out.box hg2 hx2 hb2); clear HS; have HS := nS; clear nS hg2 hx2 hb2) | ((with_reducible refine gate_dst (N := 4) rfl ?_); refine box_event ?hg (N := 4) ?hd (cs := #[.bool false, .slice none 0 0, .slice none 0 0]) (t := 28) ?hr ?_; (case hd => rfl); (case hg => rfl); (case hr => first | (go_simp; done) | (go_simp; rfl)); intro gR hg3 w3 hx3 hb3; have nS : Aside0 (Sx w w3 [(.blk gR #[.bool false, .slice none 0 0, .slice none 0 0] 28), (.blk gB #[.bool b, .slice Ab1 lb1.length cb1, .slice Ab2 lb2.length cb2] 28), (.blk gK #[.bool a, .slice Aa1 la1.length ca1, .slice Aa2 la2.length ca2] 28)]) := Aside0.mk (HS.out.box hg3 hx3 hb3); clear HS; have HS := nS; clear nS hg3 hx3 hb3) | ((with_reducible refine gate_dst (N := 7) rfl ?_); refine wpList_load_row rfl 28 (.tmp 2) rfl gK rfl 28 #[.bool a, .slice Aa1 la1.length ca1, .slice Aa2 la2.length ca2] (0, 0) _ (HS.out.blk 2 rfl) Try.underlying28 rfl (by kernel_rfl) ?_) | (go_at_call 99; refine (impl_listOk.calls a Aa1 ca1 la1 Aa2 ca2 la2 0 _ (Kd.C_below Ha1.out HS.out.below) Ka1.out (Kd.C_below Ha2.out HS.out.below) Ka2.out HF.out).mono ?_; rintro e w4 ⟨rfl, hb4⟩; have nS : Aside0 (Sx w w4 [(.blk gR #[.bool false, .slice none 0 0, .slice none 0 0] 28), (.blk gB #[.bool b, .slice Ab1 lb1.length cb1, .slice Ab2 lb2.length cb2] 28), (.blk gK #[.bool a, .slice Aa1 la1.length ca1, .slice Aa2 la2.length ca2] 28)]) := Aside0.mk (HS.out.step hb4); clear HS; have HS := nS; clear nS hb4) | ((with_reducible refine gate_dst (N := 13) rfl ?_); refine wpList_load_row rfl 28 (.tmp 3) rfl gB rfl 28 #[.bool b, .slice Ab1 lb1.length cb1, .slice Ab2 lb2.length cb2] (0, 0) _ (HS.out.blk 1 rfl) Try.underlying28 rfl (by kernel_rfl) ?_) | (go_at_call 90; refine (impl_Array_rank.calls b Ab1 cb1 lb1 Ab2 cb2 lb2 (lb1.length : Int) _ (Kd.C_below Hb1.out HS.out.below) Kb1.out (Kd.C_below Hb2.out HS.out.below) Kb2.out rfl).mono ?_; rintro e w5 ⟨rfl, hb5⟩; have nS : Aside0 (Sx w w5 [(.blk gR #[.bool false, .slice none 0 0, .slice none 0 0] 28), (.blk gB #[.bool b, .slice Ab1 lb1.length cb1, .slice Ab2 lb2.length cb2] 28), (.blk gK #[.bool a, .slice Aa1 la1.length ca1, .slice Aa2 la2.length ca2] 28)]) := Aside0.mk (HS.out.step hb5); clear HS; have HS := nS; clear nS hb5))
  go_region_held3 (fun w' => w'.cell? ⟨gK, 2, none⟩ = some (.slice Aa2 la2.length ca2) ∧ w'.cell? ⟨gB, 0, none⟩ = some (.bool b) ∧ w'.cell? ⟨gB, 1, none⟩ = some (.slice Ab1 lb1.length cb1) ∧ w'.cell? ⟨gB, 2, none⟩ = some (.slice Ab2 lb2.length cb2)) ((exact ⟨(blk_cell (Sx.blkM (by repeat (first | (with_reducible exact HS.out) | (with_reducible apply Sx.drew) | (with_reducible apply Sx.drewN) | (with_reducible apply Sx.alloc))) (g := gK) (cs := #[.bool a, .slice Aa1 la1.length ca1, .slice Aa2 la2.length ca2]) (t := 28) (by simp)) 2).trans rfl, (blk_cell (Sx.blkM (by repeat (first | (with_reducible exact HS.out) | (with_reducible apply Sx.drew) | (with_reducible apply Sx.drewN) | (with_reducible apply Sx.alloc))) (g := gB) (cs := #[.bool b, .slice Ab1 lb1.length cb1, .slice Ab2 lb2.length cb2]) (t := 28) (by simp)) 0).trans rfl, (blk_cell (Sx.blkM (by repeat (first | (with_reducible exact HS.out) | (with_reducible apply Sx.drew) | (with_reducible apply Sx.drewN) | (with_reducible apply Sx.alloc))) (g := gB) (cs := #[.bool b, .slice Ab1 lb1.length cb1, .slice Ab2 lb2.length cb2]) (t := 28) (by simp)) 1).trans rfl, (blk_cell (Sx.blkM (by repeat (first | (with_reducible exact HS.out) | (with_reducible apply Sx.drew) | (with_reducible apply Sx.drewN) | (with_reducible apply Sx.alloc))) (g := gB) (cs := #[.bool b, .slice Ab1 lb1.length cb1, .slice Ab2 lb2.length cb2]) (t := 28) (by simp)) 2).trans rfl⟩)) (first | (go_at_call 90; refine (impl_Array_rank.calls b Ab1 cb1 lb1 Ab2 cb2 lb2 (lb1.length : Int) _ (Kd.C_below Hb1.out (show Sx w _ [(.blk gR #[.bool false, .slice none 0 0, .slice none 0 0] 28), (.blk gB #[.bool b, .slice Ab1 lb1.length cb1, .slice Ab2 lb2.length cb2] 28), (.blk gK #[.bool a, .slice Aa1 la1.length ca1, .slice Aa2 la2.length ca2] 28)] from (by repeat (first | (with_reducible exact HS.out) | (with_reducible apply Sx.drew) | (with_reducible apply Sx.drewN) | (with_reducible apply Sx.alloc)))).below) Kb1.out (Kd.C_below Hb2.out (show Sx w _ [(.blk gR #[.bool false, .slice none 0 0, .slice none 0 0] 28), (.blk gB #[.bool b, .slice Ab1 lb1.length cb1, .slice Ab2 lb2.length cb2] 28), (.blk gK #[.bool a, .slice Aa1 la1.length ca1, .slice Aa2 la2.length ca2] 28)] from (by repeat (first | (with_reducible exact HS.out) | (with_reducible apply Sx.drew) | (with_reducible apply Sx.drewN) | (with_reducible apply Sx.alloc)))).below) Kb2.out rfl).mono ?_; rintro e w6 ⟨rfl, hb6⟩; have nS : Aside0 (Sx w w6 [(.blk gR #[.bool false, .slice none 0 0, .slice none 0 0] 28), (.blk gB #[.bool b, .slice Ab1 lb1.length cb1, .slice Ab2 lb2.length cb2] 28), (.blk gK #[.bool a, .slice Aa1 la1.length ca1, .slice Aa2 la2.length ca2] 28)]) := Aside0.mk ((show Sx w _ [(.blk gR #[.bool false, .slice none 0 0, .slice none 0 0] 28), (.blk gB #[.bool b, .slice Ab1 lb1.length cb1, .slice Ab2 lb2.length cb2] 28), (.blk gK #[.bool a, .slice Aa1 la1.length ca1, .slice Aa2 la2.length ca2] 28)] from (by repeat (first | (with_reducible exact HS.out) | (with_reducible apply Sx.drew) | (with_reducible apply Sx.drewN) | (with_reducible apply Sx.alloc)))).step hb6); clear HS; have HS := nS; clear nS hb6))
  go_wp2_with (first | ((with_reducible refine gate_dst (N := 33) rfl ?_); refine wpList_load_row rfl 28 (.tmp 3) rfl gB rfl 28 #[.bool b, .slice Ab1 lb1.length cb1, .slice Ab2 lb2.length cb2] (0, 0) _ (HS.out.blk 1 rfl) Try.underlying28 rfl (by kernel_rfl) ?_) | ((with_reducible refine gate_store rfl ?_); refine store_named rfl 28 (.tmp 4) (.tmp 33) rfl gR #[.bool b, .slice Ab1 lb1.length cb1, .slice Ab2 lb2.length cb2] rfl rfl 28 #[.bool false, .slice none 0 0, .slice none 0 0] (HS.out.blk 0 rfl) (by kernel_rfl) rfl (by simp [Value.oneCell']) ?_; intro w7 hx7 hb7; have nS : Aside0 (Sx w w7 [(.blk gR #[.bool b, .slice Ab1 lb1.length cb1, .slice Ab2 lb2.length cb2] 28), (.blk gB #[.bool b, .slice Ab1 lb1.length cb1, .slice Ab2 lb2.length cb2] 28), (.blk gK #[.bool a, .slice Aa1 la1.length ca1, .slice Aa2 la2.length ca2] 28)]) := Aside0.mk (HS.out.put 0 rfl hx7 hb7); clear HS; have HS := nS; clear nS hx7 hb7))
  refine bodyPost_ret (results_ct rfl _ _ gR 28 #[.bool b, .slice Ab1 lb1.length cb1, .slice Ab2 lb2.length cb2] (0, 0) _ rfl (HS.out.blk 0 rfl) Try.underlying28 rfl (by kernel_rfl)) rfl ?_
  exact ⟨rfl, HS.out.below⟩
set_option maxHeartbeats 2000000 in
set_option maxRecDepth 100000 in
theorem axesFor_same (a : Bool) (Aa1 : Option Addr) (ca1 : Nat) (la1 : List Int) (Aa2 : Option Addr) (ca2 : Nat) (la2 : List Int) (b : Bool) (Ab1 : Option Addr) (cb1 : Nat) (lb1 : List Int) (Ab2 : Option Addr) (cb2 : Nat) (lb2 : List Int) (w : World) (ha1 : Kd.C (Kd.int .i64) w Aa1 la1.length la1) (ka1 : la1.length ≤ ca1) (ha2 : Kd.C (Kd.int .i64) w Aa2 la2.length la2) (ka2 : la2.length ≤ ca2) (hb1 : Kd.C (Kd.int .i64) w Ab1 lb1.length lb1) (kb1 : lb1.length ≤ cb1) (hb2 : Kd.C (Kd.int .i64) w Ab2 lb2.length lb2) (kb2 : lb2.length ≤ cb2) (hf : impl_listOk.f a la1 la2 = some 0) (hz : lb1.length ≠ 0) (hn : la2.length = lb1.length) :
    Calls Try.prog 128 #[.agg #[.bool a, .slice Aa1 la1.length ca1, .slice Aa2 la2.length ca2], .agg #[.bool b, .slice Ab1 lb1.length cb1, .slice Ab2 lb2.length cb2]] w fun e w' => e = .returned (.tuple #[.agg #[.bool b, .slice Ab1 lb1.length cb1, .slice Ab2 lb2.length cb2], .int .i64 0]) ∧ Below w.heap.size w w' := by
  have Ha1 := Aside0.mk ha1
  have Ka1 := Aside0.mk ka1
  clear ha1 ka1
  have Ha2 := Aside0.mk ha2
  have Ka2 := Aside0.mk ka2
  clear ha2 ka2
  have Hb1 := Aside0.mk hb1
  have Kb1 := Aside0.mk kb1
  clear hb1 kb1
  have Hb2 := Aside0.mk hb2
  have Kb2 := Aside0.mk kb2
  clear hb2 kb2
  have HF := Aside0.mk hf
  clear hf
  have c0 : ((lb1.length : Int) == 0) = false := beq_eq_false_iff_ne.mpr (by omega)
  have c1 : ¬ lb1.length = 0 := hz
  clear hz
  have d0 : ((la2.length : Int) == (lb1.length : Int)) = true := beq_iff_eq.mpr (by omega)
  have d1 : ((la2.length : Int) != (lb1.length : Int)) = false := by simp [hn]
  have HN := Aside0.mk hn
  clear hn
  have HS := Aside0.mk (Sx.start w)
  go_enter Try.func128, Try.ntmps128
  go_upto_region 8 with (first | ((with_reducible refine gate_dst (N := 2) rfl ?_); refine box_event ?hg (N := 2) ?hd (cs := #[.bool a, .slice Aa1 la1.length ca1, .slice Aa2 la2.length ca2]) (t := 28) ?hr ?_; (case hd => rfl); (case hg => rfl); (case hr => first | (go_simp; done) | (go_simp; rfl)); intro gK hg1 w1 hx1 hb1; have nS : Aside0 (Sx w w1 [(.blk gK #[.bool a, .slice Aa1 la1.length ca1, .slice Aa2 la2.length ca2] 28)]) := Aside0.mk (HS.out.box hg1 hx1 hb1); clear HS; have HS := nS; clear nS hg1 hx1 hb1) | ((with_reducible refine gate_dst (N := 3) rfl ?_); refine box_event ?hg (N := 3) ?hd (cs := #[.bool b, .slice Ab1 lb1.length cb1, .slice Ab2 lb2.length cb2]) (t := 28) ?hr ?_; (case hd => rfl); (case hg => rfl); (case hr => first | (go_simp; done) | (go_simp; rfl)); intro gB hg2 w2 hx2 hb2; have nS : Aside0 (Sx w w2 [(.blk gB #[.bool b, .slice Ab1 lb1.length cb1, .slice Ab2 lb2.length cb2] 28), (.blk gK #[.bool a, .slice Aa1 la1.length ca1, .slice Aa2 la2.length ca2] 28)]) := Aside0.mk (HS.out.box hg2 hx2 hb2); clear HS; have HS := nS; clear nS hg2 hx2 hb2) | ((with_reducible refine gate_dst (N := 4) rfl ?_); refine box_event ?hg (N := 4) ?hd (cs := #[.bool false, .slice none 0 0, .slice none 0 0]) (t := 28) ?hr ?_; (case hd => rfl); (case hg => rfl); (case hr => first | (go_simp; done) | (go_simp; rfl)); intro gR hg3 w3 hx3 hb3; have nS : Aside0 (Sx w w3 [(.blk gR #[.bool false, .slice none 0 0, .slice none 0 0] 28), (.blk gB #[.bool b, .slice Ab1 lb1.length cb1, .slice Ab2 lb2.length cb2] 28), (.blk gK #[.bool a, .slice Aa1 la1.length ca1, .slice Aa2 la2.length ca2] 28)]) := Aside0.mk (HS.out.box hg3 hx3 hb3); clear HS; have HS := nS; clear nS hg3 hx3 hb3) | ((with_reducible refine gate_dst (N := 7) rfl ?_); refine wpList_load_row rfl 28 (.tmp 2) rfl gK rfl 28 #[.bool a, .slice Aa1 la1.length ca1, .slice Aa2 la2.length ca2] (0, 0) _ (HS.out.blk 2 rfl) Try.underlying28 rfl (by kernel_rfl) ?_) | (go_at_call 99; refine (impl_listOk.calls a Aa1 ca1 la1 Aa2 ca2 la2 0 _ (Kd.C_below Ha1.out HS.out.below) Ka1.out (Kd.C_below Ha2.out HS.out.below) Ka2.out HF.out).mono ?_; rintro e w4 ⟨rfl, hb4⟩; have nS : Aside0 (Sx w w4 [(.blk gR #[.bool false, .slice none 0 0, .slice none 0 0] 28), (.blk gB #[.bool b, .slice Ab1 lb1.length cb1, .slice Ab2 lb2.length cb2] 28), (.blk gK #[.bool a, .slice Aa1 la1.length ca1, .slice Aa2 la2.length ca2] 28)]) := Aside0.mk (HS.out.step hb4); clear HS; have HS := nS; clear nS hb4) | ((with_reducible refine gate_dst (N := 13) rfl ?_); refine wpList_load_row rfl 28 (.tmp 3) rfl gB rfl 28 #[.bool b, .slice Ab1 lb1.length cb1, .slice Ab2 lb2.length cb2] (0, 0) _ (HS.out.blk 1 rfl) Try.underlying28 rfl (by kernel_rfl) ?_) | (go_at_call 90; refine (impl_Array_rank.calls b Ab1 cb1 lb1 Ab2 cb2 lb2 (lb1.length : Int) _ (Kd.C_below Hb1.out HS.out.below) Kb1.out (Kd.C_below Hb2.out HS.out.below) Kb2.out rfl).mono ?_; rintro e w5 ⟨rfl, hb5⟩; have nS : Aside0 (Sx w w5 [(.blk gR #[.bool false, .slice none 0 0, .slice none 0 0] 28), (.blk gB #[.bool b, .slice Ab1 lb1.length cb1, .slice Ab2 lb2.length cb2] 28), (.blk gK #[.bool a, .slice Aa1 la1.length ca1, .slice Aa2 la2.length ca2] 28)]) := Aside0.mk (HS.out.step hb5); clear HS; have HS := nS; clear nS hb5))
  go_region_held3 (fun w' => w'.cell? ⟨gK, 2, none⟩ = some (.slice Aa2 la2.length ca2) ∧ w'.cell? ⟨gB, 0, none⟩ = some (.bool b) ∧ w'.cell? ⟨gB, 1, none⟩ = some (.slice Ab1 lb1.length cb1) ∧ w'.cell? ⟨gB, 2, none⟩ = some (.slice Ab2 lb2.length cb2)) ((exact ⟨(blk_cell (Sx.blkM (by repeat (first | (with_reducible exact HS.out) | (with_reducible apply Sx.drew) | (with_reducible apply Sx.drewN) | (with_reducible apply Sx.alloc))) (g := gK) (cs := #[.bool a, .slice Aa1 la1.length ca1, .slice Aa2 la2.length ca2]) (t := 28) (by simp)) 2).trans rfl, (blk_cell (Sx.blkM (by repeat (first | (with_reducible exact HS.out) | (with_reducible apply Sx.drew) | (with_reducible apply Sx.drewN) | (with_reducible apply Sx.alloc))) (g := gB) (cs := #[.bool b, .slice Ab1 lb1.length cb1, .slice Ab2 lb2.length cb2]) (t := 28) (by simp)) 0).trans rfl, (blk_cell (Sx.blkM (by repeat (first | (with_reducible exact HS.out) | (with_reducible apply Sx.drew) | (with_reducible apply Sx.drewN) | (with_reducible apply Sx.alloc))) (g := gB) (cs := #[.bool b, .slice Ab1 lb1.length cb1, .slice Ab2 lb2.length cb2]) (t := 28) (by simp)) 1).trans rfl, (blk_cell (Sx.blkM (by repeat (first | (with_reducible exact HS.out) | (with_reducible apply Sx.drew) | (with_reducible apply Sx.drewN) | (with_reducible apply Sx.alloc))) (g := gB) (cs := #[.bool b, .slice Ab1 lb1.length cb1, .slice Ab2 lb2.length cb2]) (t := 28) (by simp)) 2).trans rfl⟩)) (first | (go_at_call 90; refine (impl_Array_rank.calls b Ab1 cb1 lb1 Ab2 cb2 lb2 (lb1.length : Int) _ (Kd.C_below Hb1.out (show Sx w _ [(.blk gR #[.bool false, .slice none 0 0, .slice none 0 0] 28), (.blk gB #[.bool b, .slice Ab1 lb1.length cb1, .slice Ab2 lb2.length cb2] 28), (.blk gK #[.bool a, .slice Aa1 la1.length ca1, .slice Aa2 la2.length ca2] 28)] from (by repeat (first | (with_reducible exact HS.out) | (with_reducible apply Sx.drew) | (with_reducible apply Sx.drewN) | (with_reducible apply Sx.alloc)))).below) Kb1.out (Kd.C_below Hb2.out (show Sx w _ [(.blk gR #[.bool false, .slice none 0 0, .slice none 0 0] 28), (.blk gB #[.bool b, .slice Ab1 lb1.length cb1, .slice Ab2 lb2.length cb2] 28), (.blk gK #[.bool a, .slice Aa1 la1.length ca1, .slice Aa2 la2.length ca2] 28)] from (by repeat (first | (with_reducible exact HS.out) | (with_reducible apply Sx.drew) | (with_reducible apply Sx.drewN) | (with_reducible apply Sx.alloc)))).below) Kb2.out rfl).mono ?_; rintro e w6 ⟨rfl, hb6⟩; have nS : Aside0 (Sx w w6 [(.blk gR #[.bool false, .slice none 0 0, .slice none 0 0] 28), (.blk gB #[.bool b, .slice Ab1 lb1.length cb1, .slice Ab2 lb2.length cb2] 28), (.blk gK #[.bool a, .slice Aa1 la1.length ca1, .slice Aa2 la2.length ca2] 28)]) := Aside0.mk ((show Sx w _ [(.blk gR #[.bool false, .slice none 0 0, .slice none 0 0] 28), (.blk gB #[.bool b, .slice Ab1 lb1.length cb1, .slice Ab2 lb2.length cb2] 28), (.blk gK #[.bool a, .slice Aa1 la1.length ca1, .slice Aa2 la2.length ca2] 28)] from (by repeat (first | (with_reducible exact HS.out) | (with_reducible apply Sx.drew) | (with_reducible apply Sx.drewN) | (with_reducible apply Sx.alloc)))).step hb6); clear HS; have HS := nS; clear nS hb6))
  go_wp2_with (first | ((with_reducible refine gate_dst (N := 34) rfl ?_); refine wpList_load_row rfl 28 (.tmp 3) rfl gB rfl 28 #[.bool b, .slice Ab1 lb1.length cb1, .slice Ab2 lb2.length cb2] (0, 0) _ (HS.out.blk 1 rfl) Try.underlying28 rfl (by kernel_rfl) ?_) | ((with_reducible refine gate_store rfl ?_); refine store_named rfl 28 (.tmp 4) (.tmp 34) rfl gR #[.bool b, .slice Ab1 lb1.length cb1, .slice Ab2 lb2.length cb2] rfl rfl 28 #[.bool false, .slice none 0 0, .slice none 0 0] (HS.out.blk 0 rfl) (by kernel_rfl) rfl (by simp [Value.oneCell']) ?_; intro w7 hx7 hb7; have nS : Aside0 (Sx w w7 [(.blk gR #[.bool b, .slice Ab1 lb1.length cb1, .slice Ab2 lb2.length cb2] 28), (.blk gB #[.bool b, .slice Ab1 lb1.length cb1, .slice Ab2 lb2.length cb2] 28), (.blk gK #[.bool a, .slice Aa1 la1.length ca1, .slice Aa2 la2.length ca2] 28)]) := Aside0.mk (HS.out.put 0 rfl hx7 hb7); clear HS; have HS := nS; clear nS hx7 hb7))
  refine bodyPost_ret (results_ct rfl _ _ gR 28 #[.bool b, .slice Ab1 lb1.length cb1, .slice Ab2 lb2.length cb2] (0, 0) _ rfl (HS.out.blk 0 rfl) Try.underlying28 rfl (by kernel_rfl)) rfl ?_
  exact ⟨rfl, HS.out.below⟩
theorem rank_n (b : Bool) (A1 : Option Addr) (c1 n : Nat) (l1 : List Int) (A2 : Option Addr) (c2 : Nat) (l2 : List Int) (w : World) (h1 : Kd.C (Kd.int .i64) w A1 l1.length l1) (k1 : l1.length ≤ c1) (hn : l1.length = n) (h2 : Kd.C (Kd.int .i64) w A2 l2.length l2) (k2 : l2.length ≤ c2) :
    Calls Try.prog 90 #[.agg #[.bool b, .slice A1 n c1, .slice A2 l2.length c2]] w fun e w' => e = .returned (.int .i64 (n : Int)) ∧ Below w.heap.size w w' := by
  subst hn
  exact impl_Array_rank.calls b A1 c1 l1 A2 c2 l2 (l1.length : Int) w h1 k1 h2 k2 rfl
set_option maxHeartbeats 2000000 in
set_option maxRecDepth 100000 in
theorem axesFor_one (a : Bool) (Aa1 : Option Addr) (ca1 : Nat) (la1 : List Int) (Aa2 : Option Addr) (ca2 : Nat) (la2 : List Int) (b : Bool) (Ab1 : Option Addr) (cb1 : Nat) (lb1 : List Int) (Ab2 : Option Addr) (cb2 : Nat) (lb2 : List Int) (w : World) (ha1 : Kd.C (Kd.int .i64) w Aa1 la1.length la1) (ka1 : la1.length ≤ ca1) (ha2 : Kd.C (Kd.int .i64) w Aa2 la2.length la2) (ka2 : la2.length ≤ ca2) (hb1 : Kd.C (Kd.int .i64) w Ab1 lb1.length lb1) (kb1 : lb1.length ≤ cb1) (hb2 : Kd.C (Kd.int .i64) w Ab2 lb2.length lb2) (kb2 : lb2.length ≤ cb2) (hf : impl_listOk.f a la1 la2 = some 0) (hz : lb1.length = 0) (hd : la2.length ≤ 5) :
    Calls Try.prog 128 #[.agg #[.bool a, .slice Aa1 la1.length ca1, .slice Aa2 la2.length ca2], .agg #[.bool b, .slice Ab1 lb1.length cb1, .slice Ab2 lb2.length cb2]] w fun e w' => ∃ Av cv, e = .returned (.tuple #[.agg #[.bool b, .slice Av la2.length cv, .slice Ab2 lb2.length cb2], .int .i64 0]) ∧ Kd.R (Kd.int .i64) 3 w' w.heap.size (fun _ => True) (.slice Av la2.length cv) (List.replicate la2.length 1) ∧ Below w.heap.size w w' := by
  have Ha1 := Aside0.mk ha1
  have Ka1 := Aside0.mk ka1
  clear ha1 ka1
  have Ha2 := Aside0.mk ha2
  have Ka2 := Aside0.mk ka2
  clear ha2 ka2
  have Hb1 := Aside0.mk hb1
  have Kb1 := Aside0.mk kb1
  clear hb1 kb1
  have Hb2 := Aside0.mk hb2
  have Kb2 := Aside0.mk kb2
  clear hb2 kb2
  have HF := Aside0.mk hf
  clear hf
  have HZ := Aside0.mk hz
  have c0 : ((lb1.length : Int) == 0) = true := beq_iff_eq.mpr (by omega)
  have c1 : (lb1.length == 0) = true := beq_iff_eq.mpr hz
  have c1a : decide (lb1.length = 0) = true := decide_eq_true hz
  have c1b : decide ((lb1.length : Int) = 0) = true := decide_eq_true (by omega)
  clear hz
  have c3 : ¬ (5 : Int) < (la2.length : Int) := by omega
  have c4 : ¬ 5 < la2.length := by omega
  have d0 : ((la2.length : Int) == (la2.length : Int)) = true := by simp
  have HS := Aside0.mk (Sx.start w)
  go_enter Try.func128, Try.ntmps128
  go_upto_region 8 with (first | ((with_reducible refine gate_dst (N := 2) rfl ?_); refine box_event ?hg (N := 2) ?hd (cs := #[.bool a, .slice Aa1 la1.length ca1, .slice Aa2 la2.length ca2]) (t := 28) ?hr ?_; (case hd => rfl); (case hg => rfl); (case hr => first | (go_simp; done) | (go_simp; rfl)); intro gK hg1 w1 hx1 hb1; have nS : Aside0 (Sx w w1 [(.blk gK #[.bool a, .slice Aa1 la1.length ca1, .slice Aa2 la2.length ca2] 28)]) := Aside0.mk (HS.out.box hg1 hx1 hb1); clear HS; have HS := nS; clear nS hg1 hx1 hb1) | ((with_reducible refine gate_dst (N := 3) rfl ?_); refine box_event ?hg (N := 3) ?hd (cs := #[.bool b, .slice Ab1 lb1.length cb1, .slice Ab2 lb2.length cb2]) (t := 28) ?hr ?_; (case hd => rfl); (case hg => rfl); (case hr => first | (go_simp; done) | (go_simp; rfl)); intro gB hg2 w2 hx2 hb2; have nS : Aside0 (Sx w w2 [(.blk gB #[.bool b, .slice Ab1 lb1.length cb1, .slice Ab2 lb2.length cb2] 28), (.blk gK #[.bool a, .slice Aa1 la1.length ca1, .slice Aa2 la2.length ca2] 28)]) := Aside0.mk (HS.out.box hg2 hx2 hb2); clear HS; have HS := nS; clear nS hg2 hx2 hb2) | ((with_reducible refine gate_dst (N := 4) rfl ?_); refine box_event ?hg (N := 4) ?hd (cs := #[.bool false, .slice none 0 0, .slice none 0 0]) (t := 28) ?hr ?_; (case hd => rfl); (case hg => rfl); (case hr => first | (go_simp; done) | (go_simp; rfl)); intro gR hg3 w3 hx3 hb3; have nS : Aside0 (Sx w w3 [(.blk gR #[.bool false, .slice none 0 0, .slice none 0 0] 28), (.blk gB #[.bool b, .slice Ab1 lb1.length cb1, .slice Ab2 lb2.length cb2] 28), (.blk gK #[.bool a, .slice Aa1 la1.length ca1, .slice Aa2 la2.length ca2] 28)]) := Aside0.mk (HS.out.box hg3 hx3 hb3); clear HS; have HS := nS; clear nS hg3 hx3 hb3) | ((with_reducible refine gate_dst (N := 7) rfl ?_); refine wpList_load_row rfl 28 (.tmp 2) rfl gK rfl 28 #[.bool a, .slice Aa1 la1.length ca1, .slice Aa2 la2.length ca2] (0, 0) _ (HS.out.blk 2 rfl) Try.underlying28 rfl (by kernel_rfl) ?_) | (go_at_call 99; refine (impl_listOk.calls a Aa1 ca1 la1 Aa2 ca2 la2 0 _ (Kd.C_below Ha1.out HS.out.below) Ka1.out (Kd.C_below Ha2.out HS.out.below) Ka2.out HF.out).mono ?_; rintro e w4 ⟨rfl, hb4⟩; have nS : Aside0 (Sx w w4 [(.blk gR #[.bool false, .slice none 0 0, .slice none 0 0] 28), (.blk gB #[.bool b, .slice Ab1 lb1.length cb1, .slice Ab2 lb2.length cb2] 28), (.blk gK #[.bool a, .slice Aa1 la1.length ca1, .slice Aa2 la2.length ca2] 28)]) := Aside0.mk (HS.out.step hb4); clear HS; have HS := nS; clear nS hb4) | ((with_reducible refine gate_dst (N := 13) rfl ?_); refine wpList_load_row rfl 28 (.tmp 3) rfl gB rfl 28 #[.bool b, .slice Ab1 lb1.length cb1, .slice Ab2 lb2.length cb2] (0, 0) _ (HS.out.blk 1 rfl) Try.underlying28 rfl (by kernel_rfl) ?_) | (go_at_call 90; refine (impl_Array_rank.calls b Ab1 cb1 lb1 Ab2 cb2 lb2 (lb1.length : Int) _ (Kd.C_below Hb1.out HS.out.below) Kb1.out (Kd.C_below Hb2.out HS.out.below) Kb2.out rfl).mono ?_; rintro e w5 ⟨rfl, hb5⟩; have nS : Aside0 (Sx w w5 [(.blk gR #[.bool false, .slice none 0 0, .slice none 0 0] 28), (.blk gB #[.bool b, .slice Ab1 lb1.length cb1, .slice Ab2 lb2.length cb2] 28), (.blk gK #[.bool a, .slice Aa1 la1.length ca1, .slice Aa2 la2.length ca2] 28)]) := Aside0.mk (HS.out.step hb5); clear HS; have HS := nS; clear nS hb5) | ((with_reducible refine gate_dst (N := 17) rfl ?_); refine ev_load rfl 22 (.tmp 16) rfl ⟨gK, 2, none⟩ rfl (.slice Aa2 la2.length ca2) ((blk_cell (HS.out.blk 2 rfl) 2).trans rfl) (by kernel_rfl) ?_) | ((with_reducible refine gate_dst (N := 21) rfl ?_); refine lit_event ?hg (N := 21) ?hd (cs := #[.int .i64 1]) (t := 3) (n := 1) ?hr ?_; (case hd => rfl); (case hg => rfl); (case hr => first | (go_simp; done) | (go_simp; rfl)); intro gL hg6 w6 hx6 hb6; have nS : Aside0 (Sx w w6 [(.blk gL #[.int .i64 1] 3), (.blk gR #[.bool false, .slice none 0 0, .slice none 0 0] 28), (.blk gB #[.bool b, .slice Ab1 lb1.length cb1, .slice Ab2 lb2.length cb2] 28), (.blk gK #[.bool a, .slice Aa1 la1.length ca1, .slice Aa2 la2.length ca2] 28)]) := Aside0.mk (HS.out.box hg6 hx6 hb6); clear HS; have HS := nS; clear nS hg6 hx6 hb6) | ((with_reducible refine gate_dst (N := 23) rfl ?_); refine ev_load rfl 22 (.tmp 22) rfl ⟨gK, 2, none⟩ rfl (.slice Aa2 la2.length ca2) ((blk_cell (HS.out.blk 3 rfl) 2).trans rfl) (by kernel_rfl) ?_) | (go_at_call 127; refine (repeat_any 1 _ 1 la2.length _ (rowI_C (l := [1]) (HS.out.blk 0 rfl) (by simp)) (by omega)).mono ?_; rintro e w7 ⟨v, rfl, hr7, hb7⟩; obtain ⟨Av, cv, hv_⟩ := Kd.R_slice hr7; rw [List.length_replicate] at hv_; subst hv_; have nS : Aside0 (Sx w w7 [(.row (.slice Av la2.length cv) (List.replicate la2.length 1)), (.blk gL #[.int .i64 1] 3), (.blk gR #[.bool false, .slice none 0 0, .slice none 0 0] 28), (.blk gB #[.bool b, .slice Ab1 lb1.length cb1, .slice Ab2 lb2.length cb2] 28), (.blk gK #[.bool a, .slice Aa1 la1.length ca1, .slice Aa2 la2.length ca2] 28)]) := Aside0.mk (HS.out.addRow hb7 hr7); clear HS; have HS := nS; clear nS hb7 hr7) | ((with_reducible refine gate_store rfl ?_); refine ev_store rfl 22 (.tmp 26) (.tmp 25) rfl gB 1 rfl (.slice Av la2.length cv) rfl #[.bool b, .slice Ab1 lb1.length cb1, .slice Ab2 lb2.length cb2] 28 (HS.out.blk 3 rfl) (show 1 < 3 from by decide) rfl (by kernel_rfl) ?_; intro w8 hx8 hb8; have nS : Aside0 (Sx w w8 [(.row (.slice Av la2.length cv) (List.replicate la2.length 1)), (.blk gL #[.int .i64 1] 3), (.blk gR #[.bool false, .slice none 0 0, .slice none 0 0] 28), (.blk gB #[.bool b, .slice Av la2.length cv, .slice Ab2 lb2.length cb2] 28), (.blk gK #[.bool a, .slice Aa1 la1.length ca1, .slice Aa2 la2.length ca2] 28)]) := Aside0.mk (HS.out.put 3 rfl hx8 hb8); clear HS; have HS := nS; clear nS hx8 hb8))
  go_region_held3 (fun w' => w'.cell? ⟨gK, 2, none⟩ = some (.slice Aa2 la2.length ca2) ∧ w'.cell? ⟨gB, 0, none⟩ = some (.bool b) ∧ w'.cell? ⟨gB, 1, none⟩ = some (.slice Av la2.length cv) ∧ w'.cell? ⟨gB, 2, none⟩ = some (.slice Ab2 lb2.length cb2)) ((exact ⟨(blk_cell (Sx.blkM (by repeat (first | (with_reducible exact HS.out) | (with_reducible apply Sx.drew) | (with_reducible apply Sx.drewN) | (with_reducible apply Sx.alloc))) (g := gK) (cs := #[.bool a, .slice Aa1 la1.length ca1, .slice Aa2 la2.length ca2]) (t := 28) (by simp)) 2).trans rfl, (blk_cell (Sx.blkM (by repeat (first | (with_reducible exact HS.out) | (with_reducible apply Sx.drew) | (with_reducible apply Sx.drewN) | (with_reducible apply Sx.alloc))) (g := gB) (cs := #[.bool b, .slice Av la2.length cv, .slice Ab2 lb2.length cb2]) (t := 28) (by simp)) 0).trans rfl, (blk_cell (Sx.blkM (by repeat (first | (with_reducible exact HS.out) | (with_reducible apply Sx.drew) | (with_reducible apply Sx.drewN) | (with_reducible apply Sx.alloc))) (g := gB) (cs := #[.bool b, .slice Av la2.length cv, .slice Ab2 lb2.length cb2]) (t := 28) (by simp)) 1).trans rfl, (blk_cell (Sx.blkM (by repeat (first | (with_reducible exact HS.out) | (with_reducible apply Sx.drew) | (with_reducible apply Sx.drewN) | (with_reducible apply Sx.alloc))) (g := gB) (cs := #[.bool b, .slice Av la2.length cv, .slice Ab2 lb2.length cb2]) (t := 28) (by simp)) 2).trans rfl⟩)) (first | (go_at_call 90; refine (rank_n b Av cv la2.length (List.replicate la2.length 1) Ab2 cb2 lb2 _ ((show Sx w _ [(.row (.slice Av la2.length cv) (List.replicate la2.length 1)), (.blk gL #[.int .i64 1] 3), (.blk gR #[.bool false, .slice none 0 0, .slice none 0 0] 28), (.blk gB #[.bool b, .slice Av la2.length cv, .slice Ab2 lb2.length cb2] 28), (.blk gK #[.bool a, .slice Aa1 la1.length ca1, .slice Aa2 la2.length ca2] 28)] from (by repeat (first | (with_reducible exact HS.out) | (with_reducible apply Sx.drew) | (with_reducible apply Sx.drewN) | (with_reducible apply Sx.alloc)))).C 0 rfl) ((show Sx w _ [(.row (.slice Av la2.length cv) (List.replicate la2.length 1)), (.blk gL #[.int .i64 1] 3), (.blk gR #[.bool false, .slice none 0 0, .slice none 0 0] 28), (.blk gB #[.bool b, .slice Av la2.length cv, .slice Ab2 lb2.length cb2] 28), (.blk gK #[.bool a, .slice Aa1 la1.length ca1, .slice Aa2 la2.length ca2] 28)] from (by repeat (first | (with_reducible exact HS.out) | (with_reducible apply Sx.drew) | (with_reducible apply Sx.drewN) | (with_reducible apply Sx.alloc)))).cap 0 rfl) (List.length_replicate) (Kd.C_below Hb2.out (show Sx w _ [(.row (.slice Av la2.length cv) (List.replicate la2.length 1)), (.blk gL #[.int .i64 1] 3), (.blk gR #[.bool false, .slice none 0 0, .slice none 0 0] 28), (.blk gB #[.bool b, .slice Av la2.length cv, .slice Ab2 lb2.length cb2] 28), (.blk gK #[.bool a, .slice Aa1 la1.length ca1, .slice Aa2 la2.length ca2] 28)] from (by repeat (first | (with_reducible exact HS.out) | (with_reducible apply Sx.drew) | (with_reducible apply Sx.drewN) | (with_reducible apply Sx.alloc)))).below) Kb2.out).mono ?_; rintro e w9 ⟨rfl, hb9⟩; have nS : Aside0 (Sx w w9 [(.row (.slice Av la2.length cv) (List.replicate la2.length 1)), (.blk gL #[.int .i64 1] 3), (.blk gR #[.bool false, .slice none 0 0, .slice none 0 0] 28), (.blk gB #[.bool b, .slice Av la2.length cv, .slice Ab2 lb2.length cb2] 28), (.blk gK #[.bool a, .slice Aa1 la1.length ca1, .slice Aa2 la2.length ca2] 28)]) := Aside0.mk ((show Sx w _ [(.row (.slice Av la2.length cv) (List.replicate la2.length 1)), (.blk gL #[.int .i64 1] 3), (.blk gR #[.bool false, .slice none 0 0, .slice none 0 0] 28), (.blk gB #[.bool b, .slice Av la2.length cv, .slice Ab2 lb2.length cb2] 28), (.blk gK #[.bool a, .slice Aa1 la1.length ca1, .slice Aa2 la2.length ca2] 28)] from (by repeat (first | (with_reducible exact HS.out) | (with_reducible apply Sx.drew) | (with_reducible apply Sx.drewN) | (with_reducible apply Sx.alloc)))).step hb9); clear HS; have HS := nS; clear nS hb9))
  go_wp2_with (first | ((with_reducible refine gate_dst (N := 34) rfl ?_); refine wpList_load_row rfl 28 (.tmp 3) rfl gB rfl 28 #[.bool b, .slice Av la2.length cv, .slice Ab2 lb2.length cb2] (0, 0) _ (HS.out.blk 3 rfl) Try.underlying28 rfl (by kernel_rfl) ?_) | ((with_reducible refine gate_store rfl ?_); refine store_named rfl 28 (.tmp 4) (.tmp 34) rfl gR #[.bool b, .slice Av la2.length cv, .slice Ab2 lb2.length cb2] rfl rfl 28 #[.bool false, .slice none 0 0, .slice none 0 0] (HS.out.blk 2 rfl) (by kernel_rfl) rfl (by simp [Value.oneCell']) ?_; intro w10 hx10 hb10; have nS : Aside0 (Sx w w10 [(.row (.slice Av la2.length cv) (List.replicate la2.length 1)), (.blk gL #[.int .i64 1] 3), (.blk gR #[.bool b, .slice Av la2.length cv, .slice Ab2 lb2.length cb2] 28), (.blk gB #[.bool b, .slice Av la2.length cv, .slice Ab2 lb2.length cb2] 28), (.blk gK #[.bool a, .slice Aa1 la1.length ca1, .slice Aa2 la2.length ca2] 28)]) := Aside0.mk (HS.out.put 2 rfl hx10 hb10); clear HS; have HS := nS; clear nS hx10 hb10))
  refine bodyPost_ret (results_ct rfl _ _ gR 28 #[.bool b, .slice Av la2.length cv, .slice Ab2 lb2.length cb2] (0, 0) _ rfl (HS.out.blk 2 rfl) Try.underlying28 rfl (by kernel_rfl)) rfl ?_
  exact ⟨Av, cv, rfl, HS.out.row 0 rfl, HS.out.below⟩
end Go.Proofs.Ytehfcnndjhjkoaa.PA

namespace Go.Proofs.Ytehfcnndjhjkoaa.PA
open Go.RowKit Go.Shelf Go.Proofs.YtehfcnndjhjkoaaW.PrintWords Go.Proofs.YtehfcnndjhjkoaaW.PrintLast Go.Proofs.YtehfcnndjhjkoaaW.PrintMore
attribute [local go_sem] Oper.semAt_some
set_option linter.unusedVariables false
set_option linter.unusedSimpArgs false
set_option maxRecDepth 100000 in
set_option maxHeartbeats 4000000 in
theorem axis_in (b : Bool) (A1 : Option Addr) (c1 : Nat) (l1 : List Int) (A2 : Option Addr) (c2 : Nat) (l2 : List Int) (As : Option Addr) (cs : Nat) (s : List Int) (g : Nat) (lb : Array Value) (f : Nat → Int → Int) (eg : ∀ args w, (callFunc g args).run Try.prog w = .ok (.enter g args) w) (w : World)
    (h1 : Kd.C (Kd.int .i64) w A1 l1.length l1) (k1 : l1.length ≤ c1) (hs : Kd.C (Kd.int .i64) w As s.length s) (ks : s.length ≤ cs) (hl : l1.length = s.length) (h5 : s.length ≤ 5) (hp : 0 ≤ prod s ∧ prod s ≤ 10000) (k : Nat) (hk : impl_shapeOk.f k s = some (prod s, true)) (hf : Gives2 g lb f s w) (hrg : ∀ (t : Nat), t < (prod s).toNat → ∀ k : Nat, k < s.length → 0 ≤ rd (idxL s t) (k : Int) ∧ rd (idxL s t) (k : Int) < rd s (k : Int)) :
    CallsIn Fence.wide 9 Try.prog 105 #[.agg #[.bool b, .slice A1 l1.length c1, .slice A2 l2.length c2], .slice As s.length cs, .func (.func g) #[] lb] w fun e w' => ∃ v, e = .returned (.agg #[.slice As s.length cs, v]) ∧ Kd.R (Kd.int .i64) 3 w' w.heap.size (fun _ => True) v (fromL l1 s f (prod s).toNat) ∧ Below w.heap.size w w' := by
  have H1 := Aside0.mk h1
  have HS := Aside0.mk hs
  have HL := Aside0.mk hl
  have HF := Aside0.mk hf
  have HK := Aside0.mk hk
  have HRG := Aside0.mk hrg
  clear hrg
  clear h1 hs hl hf hk
  have hmk := make_row s.length (by omega)
  refine callsIn_of_wp_marks Try.func105 rfl trivial ?_ rfl
  simp only [Try.ntmps105, List.size_toArray, List.length_cons, List.length_nil, Nat.reduceAdd, Nat.reduceSub, Array.replicate_succ, Array.replicate_zero, List.push_toArray, List.append_toArray, List.nil_append, List.cons_append]
  gi_wp2_with (first | (refine ⟨trivial, ?_⟩; gi_at_call 119; refine (indexes_in _ _ _ _ _).mono ?_; rintro e w' ⟨rfl, rfl⟩))
  obtain ⟨W0, hW0⟩ : ∃ W0, ((((((w.alloc (.cells #[.bool b, .slice A1 l1.length c1, .slice A2 l2.length c2] 28)).alloc (.cells #[.func (.func g) #[] lb] 93)).alloc (.cells #[.slice none 0 0, .slice none 0 0] 70)).alloc (.cells #[.slice As s.length cs, .slice none 0 0] 70)).alloc (.cells (rowI (List.replicate s.length 0)) 3)).alloc (.cells #[.slice (some ⟨w.heap.size + 1 + 1 + 1 + 1, 0, none⟩) s.length s.length] 22)).alloc (.cells #[.slice As s.length cs] 22) = W0 := ⟨_, rfl⟩
  obtain ⟨FA, FP, FR, FM, FS, FB, FX, hsz, hB0⟩ : (_ ∧ _ ∧ _ ∧ _ ∧ _ ∧ _ ∧ _ ∧ _ ∧ Below w.heap.size w W0) := hW0 ▸ alloc7 w _ _ _ _ _ _ _
  rw [hW0]
  have HSZ := Aside0.mk hsz
  clear hW0 hsz
  obtain ⟨gX, hgX⟩ : ∃ gX, gX = w.heap.size + 1 + 1 + 1 + 1 + 1 + 1 := ⟨_, rfl⟩
  rw [← hgX] at FX ⊢
  obtain ⟨gB, hgB⟩ : ∃ gB, gB = w.heap.size + 1 + 1 + 1 + 1 + 1 := ⟨_, rfl⟩
  rw [← hgB] at FB ⊢
  obtain ⟨gS, hgS⟩ : ∃ gS, gS = w.heap.size + 1 + 1 + 1 + 1 := ⟨_, rfl⟩
  rw [← hgS] at FS FB ⊢
  obtain ⟨gM, hgM⟩ : ∃ gM, gM = w.heap.size + 1 + 1 + 1 := ⟨_, rfl⟩
  rw [← hgM] at FM ⊢
  obtain ⟨gR, hgR⟩ : ∃ gR, gR = w.heap.size + 1 + 1 := ⟨_, rfl⟩
  rw [← hgR] at FR ⊢
  obtain ⟨gP, hgP⟩ : ∃ gP, gP = w.heap.size + 1 := ⟨_, rfl⟩
  rw [← hgP] at FP ⊢
  have HGX := Aside0.mk hgX
  have HGB := Aside0.mk hgB
  have HGS := Aside0.mk hgS
  have HGM := Aside0.mk hgM
  have HGR := Aside0.mk hgR
  have HGP := Aside0.mk hgP
  clear hgX hgB hgS hgM hgR hgP
  have gs : gX = w.heap.size + 6 ∧ gB = w.heap.size + 5 ∧ gS = w.heap.size + 4 ∧ gM = w.heap.size + 3 ∧ gR = w.heap.size + 2 ∧ gP = w.heap.size + 1 := by
    have := HGX.out; have := HGB.out; have := HGS.out; have := HGM.out; have := HGR.out; have := HGP.out; omega
  have GS := Aside0.mk gs
  clear gs HGX HGB HGS HGM HGR HGP
  obtain ⟨i0, hi, hz0, hz1, hz2⟩ := info_parts info3
  refine wpIn_rounds rfl (by omega) (gf := 137) (lb := #[.pointer (some ⟨gX, 0, none⟩)]) rfl trivial (enters_of Try.func137 (by kernel_rfl) rfl)
    (idx_rounds 8 (by omega) gX As cs s h5 hp.2 k HK.out W0 ((blk_cell FX 0).trans rfl) (Kd.C_below HS.out hB0) ks (fun ad e e0 => ?addr))
    (Below.refl _ _) ?mlt (fun G t A B h e => by unfold AtI at *; rw [e]; exact h) rfl
    (fun t W => W.heap[w.heap.size]? = some (.cells #[.bool b, .slice A1 l1.length c1, .slice A2 l2.length c2] 28 (0, 0)) ∧ W.heap[gP]? = some (.cells #[.func (.func g) #[] lb] 93 (0, 0)) ∧ W.heap[gR]? = some (.cells #[.slice none 0 0, .slice none 0 0] 70 (0, 0)) ∧
      W.heap[gB]? = some (.cells #[.slice (some ⟨gS, 0, none⟩) s.length s.length] 22 (0, 0)) ∧ (∃ src : List Int, src.length = s.length ∧ W.heap[gS]? = some (.cells (rowI src) 3 (0, 0))) ∧
      (∃ v, W.heap[gM]? = some (.cells #[.slice As s.length cs, v] 70 (0, 0)) ∧ W.ownsRow (w.heap.size + 10) 3 1 v t ((fromL l1 s f t).map (Value.int .i64))) ∧ Below w.heap.size w W)
    (fun _ _ _ => False)
    (fun t A B hI hS => ?inv)
    (fun _ _ _ _ h _ => h)
    ⟨FA, FP, FR, FB, ⟨_, by simp, FS⟩, ⟨_, FM, World.ownsRow_nil _ _ _ _⟩, hB0⟩
    ?a1 ?assign ?body ?done ?stop
  case addr =>
    obtain ⟨ad', e', hx⟩ := Kd.at_int (Kd.C_below HS.out hB0) 0 (by omega) (by omega)
    rw [e] at e'; cases e'
    have := World.block_lt_of_cell? W0 _ hx
    rwa [show (ad.add (0 : Int).toNat).block = ad.block by unfold Addr.add; split <;> rfl] at this
  case mlt =>
    intro k hk
    rcases hk with rfl | ⟨e0, hk⟩
    · exact blk_lt FX
    · obtain ⟨ad, hx, -⟩ := Kd.at_int (Kd.C_below HS.out hB0) 0 (by omega) (by omega)
      obtain ⟨ad', e', hx⟩ := Kd.at_int (Kd.C_below HS.out hB0) 0 (by omega) (by omega)
      rw [e'] at hk
      cases Option.some.inj hk
      have := World.block_lt_of_cell? W0 _ hx
      rwa [show (ad'.add (0 : Int).toNat).block = ad'.block by unfold Addr.add; split <;> rfl] at this
  case inv =>
    obtain ⟨q1, q2, q3, q4, ⟨src, q5, q6⟩, ⟨v, q7, q8⟩, q9⟩ := hI
    have := HSZ.out
    have := GS.out
    exact ⟨hS.blk q1 (by omega), hS.blk q2 (by omega), hS.blk q3 (by omega), hS.blk q4 (by omega), ⟨src, q5, hS.blk q6 (by omega)⟩, ⟨v, hS.blk q7 (by omega), hS.own q8 (fun k hk => by omega)⟩, q9.trans (hS.below (fun k hk => by omega) q9.size)⟩
  case assign =>
    intro lo W K hK
    gi_wp2
    exact hK
  case body =>
    rintro lo t W ⟨q1, q2, q3, q4, ⟨src, q5, q6⟩, ⟨v, q7, q8⟩, q9⟩ hlt hat hge
    have hlt' := Aside0.mk hlt
    have HAT := Aside0.mk hat
    have HGE := Aside0.mk hge
    have Q1 := Aside0.mk q1
    have Q2 := Aside0.mk q2
    have Q3 := Aside0.mk q3
    have Q4 := Aside0.mk q4
    have Q5 := Aside0.mk q5
    have Q6 := Aside0.mk q6
    have Q7 := Aside0.mk q7
    have HCI := Aside0.mk (idxL_len s t)
    have hrng : ∀ (t : Nat), t < (prod s).toNat → ∀ k : Nat, k < s.length → 0 ≤ rd (idxL s t) (k : Int) ∧ rd (idxL s t) (k : Int) < rd s (k : Int) := HRG.out
    clear hlt hat hge q1 q2 q3 q4 q5 q6 q7
    gi_wp2
    gi_loopw [10, 24] (fun th kk wr => ∃ (j : Nat) (q : Bool) (sr : List Int), kk = .int .i64 (j : Int) ∧ th = .bool q ∧ Aside0 (j ≤ s.length) ∧ Aside0 (sr.length = s.length) ∧ Aside0 (wr.heap[gS]? = some (.cells (rowI sr) 3 (0, 0))) ∧
        Aside0 (sr.take j ++ srcGo f j ((idxL s t).drop j) = srcGo f 0 (idxL s t)) ∧ Aside0 (thrGo l1 f j q ((idxL s t).drop j) = thrGo l1 f 0 true (idxL s t)) ∧ Aside0 (ButS (fun k => k = gS) W wr))
      (fun _ kk _ => s.length - (intOf kk).toNat)
    case atStart => exact ⟨0, true, src, rfl, rfl, ⟨Nat.zero_le _⟩, Q5, Q6, ⟨rfl⟩, ⟨rfl⟩, ⟨⟨Nat.le_refl _, fun _ _ _ => rfl, rfl, rfl, rfl⟩⟩⟩
    case round =>
      obtain ⟨j, q, sr, rfl, rfl, hj, hsl, hsr, htk, hth, hbs⟩ := hrel
      by_cases hjl : j < s.length
      · have p0 : 0 ≤ (j : Int) := by omega
        have p1 : (j : Int) < (s.length : Int) := by omega
        have hgs := GS.out
        have hx := rowI_cell (blk_of (hbs.out.blk HAT.out (by have := HSZ.out; omega))) j (by have := HCI.out; omega)
        have hB5 := blk_cell (hbs.out.blk Q4.out (by omega)) 0
        have hP5 := blk_cell (hbs.out.blk Q2.out (by omega)) 0
        have hbel := hbs.out.below (n := w.heap.size) (by rintro k rfl; omega) (by have := HSZ.out; have := HGE.out; omega)
        have HBE := Aside0.mk (q9.trans hbel)
        clear hgs hbel
        have hcg := rowI_cell hsr.out j (by have := hsl.out; omega)
        have hfz := blk_frozen hsr.out j
        have HR := Aside0.mk (hrng t hlt'.out j hjl)
        obtain ⟨x, hxe⟩ : ∃ x, x = rd (idxL s t) (j : Int) := ⟨_, rfl⟩
        rw [← hxe] at hx HR
        have HXE := Aside0.mk hxe
        clear hxe
        have hcall : ∀ (n : Nat) (W' : World), Below w.heap.size w W' → CallsIn Fence.wide n Try.prog g (#[.int .i64 (j : Int), .int .i64 x] ++ lb) W' fun e w' => e = .returned (.int .i64 (f j x)) ∧ ∃ q, w' = W'.drewN q := fun n W' hb => callsIn_wide.2 (HF.out W' j x hb hjl HR.out.1 HR.out.2)
        gi_wp2
        refine region_round (by kernel_rfl) (by kernel_rfl) ?_
        refine wpAnyIn_take (i := 1) (v := ?_) rfl rfl (by kernel_rfl) (by kernel_rfl) (by kernel_rfl) (fun _ _ _ h => h) ⟨Or.inl ⟨by rfl, ?_⟩, fun _ => rfl⟩ ?_
        rotate_left
        · intro w'; go_simp; try with_reducible rfl
        refine wpAnyIn_take (i := 3) (v := ?_) rfl rfl (by kernel_rfl) (by kernel_rfl) (by kernel_rfl) (fun _ _ _ h => h) ⟨Or.inl ⟨by rfl, ?_⟩, fun _ => rfl⟩ ?_
        rotate_left
        · intro w'; go_simp; try with_reducible rfl
        refine wpAnyIn_take (i := 4) (v := ?_) rfl rfl (by kernel_rfl) (by kernel_rfl) (by kernel_rfl) (fun _ _ _ h => h) ⟨Or.inl ⟨by rfl, ?_⟩, fun _ => rfl⟩ ?_
        rotate_left
        · intro w'; go_simp; try with_reducible rfl
        refine wpAnyIn_ready (rs := [0, 2]) (by kernel_rfl) (by simp) ?_
        refine AllReadyIn.cons rfl (fun K hK => ?_) ?_
        · go_simp
          refine hK _ _ ?_
          clear hK K
          refine wpAnyIn_ready (rs := [2]) (by kernel_rfl) (by simp) ?_
          refine AllReadyIn.cons rfl (fun K hK => ?_) ?_
          · go_simp
            refine hK _ _ ?_
            clear hK K
            refine wpAnyIn_ready (rs := [5]) (by kernel_rfl) (by simp) ?_
            refine AllReadyIn.cons rfl (fun K hK => ?_) ?_
            · go_simp
              refine ⟨trivial, (hcall _ _ (pw_below_drewN HBE.out 1)).mono ?_⟩
              rintro e w' ⟨rfl, q', rfl⟩
              refine hK _ _ ?_
              clear hK K
              refine wpAnyIn_take (i := 6) (v := ?_) rfl rfl (by kernel_rfl) (by kernel_rfl) (by kernel_rfl) (fun _ _ _ h => h) ⟨Or.inl ⟨by rfl, ?_⟩, fun _ => rfl⟩ ?_
              rotate_left
              · intro w'; go_simp; try with_reducible rfl
              refine wpAnyIn_ready (rs := [7]) (by kernel_rfl) (by simp) ?_
              refine AllReadyIn.cons rfl (fun K hK => ?_) ?_
              · go_simp
                refine hK _ _ ?_
                clear hK K
                refine wpAnyIn_done (by kernel_rfl) ?_ _
                gi_wp2
                obtain ⟨W2, hW2⟩ : ∃ W2, (World.drewN wr (1 + q')).setCell ⟨gS, j, none⟩ (.int .i64 (f j x)) = W2 := ⟨_, rfl⟩
                rw [hW2]
                have hS2 : ButS (fun k => k = gS) W W2 := hW2 ▸ butS_set (show ButS (fun k => k = gS) W (World.drewN wr (1 + q')) from ⟨hbs.out.size, hbs.out.same, hbs.out.os, hbs.out.tape, hbs.out.output⟩) rfl j _
                have hsr2 : W2.heap[gS]? = some (.cells (rowI (sr.set j (f j x))) 3 (0, 0)) := hW2 ▸ rowI_put (show (World.drewN wr (1 + q')).heap[gS]? = _ from hsr.out) j _
                have HS2 := Aside0.mk hS2
                have HSR2 := Aside0.mk hsr2
                have hgs := GS.out
                have hu1 := blk_cell (hS2.blk Q4.out (by omega)) 0
                have hu2 := blk_cell (hS2.blk Q1.out (by omega)) 1
                have hu3 := rowI_cell hsr2 j (by have := hsl.out; rw [List.length_set]; omega)
                rw [show rd (sr.set j (f j x)) (j : Int) = f j x from rd_set _ _ _ (by have := hsl.out; omega)] at hu3
                have hb2 : Below w.heap.size w W2 := q9.trans (hS2.below (by rintro k rfl; omega) (by have := HSZ.out; have := HGE.out; omega))
                obtain ⟨ad, rfl, hu4⟩ := Kd.at_int (Kd.C_below H1.out hb2) (j : Int) p0 (by have := HL.out; omega)
                rw [Int.toNat_natCast] at hu4
                have p2 : (j : Int) < (l1.length : Int) := by have := HL.out; omega
                clear hgs hS2 hsr2 hb2 hW2
                cases q with
                | true =>
                  have hwith : ∀ (n : Nat) (W' : World), CallsIn Fence.wide n Try.prog 118 #[.int .i64 (f j x), .int .i64 0, .int .i64 (wrap64 (rd l1 (j : Int) - 1))] W' fun e w' => e = .returned (.bool (decide (0 ≤ f j x ∧ f j x ≤ wrap64 (rd l1 (j : Int) - 1)))) ∧ ∃ m, w' = W'.drewN m := fun n W' => callsIn_wide.2 ((impl_within.calls (f j x) 0 (wrap64 (rd l1 (j : Int) - 1)) (decide (0 ≤ f j x ∧ f j x ≤ wrap64 (rd l1 (j : Int) - 1))) W' (within_ev _ _)).mono (fun _ _ h => ⟨h.1, h.2.out⟩))
                  refine quiet_round rfl (by kernel_rfl) (by kernel_rfl) (by kernel_rfl) ?_
                  repeat (gi_big_quiet_step (fail))
                  refine BigFrame.wpQuietIn_want (fun _ _ _ _ => trivial) rfl (fun K hK => ?_)
                  gi_big_quiet_op
                  apply Exists.intro
                  refine ⟨fun _ => ?_, ?_⟩
                  · refine CallsIn.quiet_of (hwith _ _)
                  refine hK _ ?_
                  clear hK K
                  repeat (gi_big_quiet_step (fail))
                  refine wpQuietIn_nil ?_
                  intro _ hw'
                  obtain ⟨nq, hw''⟩ := hw'
                  subst hw''
                  gi_wp2
                  refine ⟨⟨j + 1, _, sr.set j (f j x), by push_cast; rfl, rfl, ⟨hjl⟩, ⟨by rw [List.length_set]; exact hsl.out⟩, ⟨HSR2.out⟩, ⟨?_⟩, ⟨?_⟩, ⟨HS2.out.size, HS2.out.same, HS2.out.os, HS2.out.tape, HS2.out.output⟩⟩, by simp [intOf]; omega⟩
                  · rw [← htk.out, HXE.out]; exact src_step f sr _ j (by have := hsl.out; omega) (by have := HCI.out; omega)
                  · rw [← hth.out, thr_step l1 f _ j _ (by have := HCI.out; omega), ← HXE.out]; congr 1; simp [Bool.decide_and]
                | false =>
                  refine quiet_round rfl (by kernel_rfl) (by kernel_rfl) (by kernel_rfl) ?_
                  repeat (gi_big_quiet_step (fail))
                  refine BigFrame.wpQuietIn_skip (fun _ _ _ _ => trivial) rfl ?_
                  go_simp
                  repeat (gi_big_quiet_step (fail))
                  refine wpQuietIn_nil ?_
                  intro nq
                  gi_wp2
                  refine ⟨⟨j + 1, false, sr.set j (f j x), by push_cast; rfl, rfl, ⟨hjl⟩, ⟨by rw [List.length_set]; exact hsl.out⟩, ⟨HSR2.out⟩, ⟨?_⟩, ⟨?_⟩, ⟨HS2.out.size, HS2.out.same, HS2.out.os, HS2.out.tape, HS2.out.output⟩⟩, by simp [intOf]; omega⟩
                  · rw [← htk.out, HXE.out]; exact src_step f sr _ j (by have := hsl.out; omega) (by have := HCI.out; omega)
                  · rw [← hth.out, thr_step l1 f _ j _ (by have := HCI.out; omega), ← HXE.out]; congr 1
              exact AllReadyIn.nil
            exact AllReadyIn.nil
          exact AllReadyIn.nil
        refine AllReadyIn.cons rfl (fun K hK => ?_) ?_
        · go_simp
          refine hK _ _ ?_
          clear hK K
          refine wpAnyIn_ready (rs := [0, 5]) (by kernel_rfl) (by simp) ?_
          refine AllReadyIn.cons rfl (fun K hK => ?_) ?_
          · go_simp
            refine hK _ _ ?_
            clear hK K
            refine wpAnyIn_ready (rs := [5]) (by kernel_rfl) (by simp) ?_
            refine AllReadyIn.cons rfl (fun K hK => ?_) ?_
            · go_simp
              refine ⟨trivial, (hcall _ _ (pw_below_drewN HBE.out 1)).mono ?_⟩
              rintro e w' ⟨rfl, q', rfl⟩
              refine hK _ _ ?_
              clear hK K
              refine wpAnyIn_take (i := 6) (v := ?_) rfl rfl (by kernel_rfl) (by kernel_rfl) (by kernel_rfl) (fun _ _ _ h => h) ⟨Or.inl ⟨by rfl, ?_⟩, fun _ => rfl⟩ ?_
              rotate_left
              · intro w'; go_simp; try with_reducible rfl
              refine wpAnyIn_ready (rs := [7]) (by kernel_rfl) (by simp) ?_
              refine AllReadyIn.cons rfl (fun K hK => ?_) ?_
              · go_simp
                refine hK _ _ ?_
                clear hK K
                refine wpAnyIn_done (by kernel_rfl) ?_ _
                gi_wp2
                obtain ⟨W2, hW2⟩ : ∃ W2, (World.drewN wr (1 + q')).setCell ⟨gS, j, none⟩ (.int .i64 (f j x)) = W2 := ⟨_, rfl⟩
                rw [hW2]
                have hS2 : ButS (fun k => k = gS) W W2 := hW2 ▸ butS_set (show ButS (fun k => k = gS) W (World.drewN wr (1 + q')) from ⟨hbs.out.size, hbs.out.same, hbs.out.os, hbs.out.tape, hbs.out.output⟩) rfl j _
                have hsr2 : W2.heap[gS]? = some (.cells (rowI (sr.set j (f j x))) 3 (0, 0)) := hW2 ▸ rowI_put (show (World.drewN wr (1 + q')).heap[gS]? = _ from hsr.out) j _
                have HS2 := Aside0.mk hS2
                have HSR2 := Aside0.mk hsr2
                have hgs := GS.out
                have hu1 := blk_cell (hS2.blk Q4.out (by omega)) 0
                have hu2 := blk_cell (hS2.blk Q1.out (by omega)) 1
                have hu3 := rowI_cell hsr2 j (by have := hsl.out; rw [List.length_set]; omega)
                rw [show rd (sr.set j (f j x)) (j : Int) = f j x from rd_set _ _ _ (by have := hsl.out; omega)] at hu3
                have hb2 : Below w.heap.size w W2 := q9.trans (hS2.below (by rintro k rfl; omega) (by have := HSZ.out; have := HGE.out; omega))
                obtain ⟨ad, rfl, hu4⟩ := Kd.at_int (Kd.C_below H1.out hb2) (j : Int) p0 (by have := HL.out; omega)
                rw [Int.toNat_natCast] at hu4
                have p2 : (j : Int) < (l1.length : Int) := by have := HL.out; omega
                clear hgs hS2 hsr2 hb2 hW2
                cases q with
                | true =>
                  have hwith : ∀ (n : Nat) (W' : World), CallsIn Fence.wide n Try.prog 118 #[.int .i64 (f j x), .int .i64 0, .int .i64 (wrap64 (rd l1 (j : Int) - 1))] W' fun e w' => e = .returned (.bool (decide (0 ≤ f j x ∧ f j x ≤ wrap64 (rd l1 (j : Int) - 1)))) ∧ ∃ m, w' = W'.drewN m := fun n W' => callsIn_wide.2 ((impl_within.calls (f j x) 0 (wrap64 (rd l1 (j : Int) - 1)) (decide (0 ≤ f j x ∧ f j x ≤ wrap64 (rd l1 (j : Int) - 1))) W' (within_ev _ _)).mono (fun _ _ h => ⟨h.1, h.2.out⟩))
                  refine quiet_round rfl (by kernel_rfl) (by kernel_rfl) (by kernel_rfl) ?_
                  repeat (gi_big_quiet_step (fail))
                  refine BigFrame.wpQuietIn_want (fun _ _ _ _ => trivial) rfl (fun K hK => ?_)
                  gi_big_quiet_op
                  apply Exists.intro
                  refine ⟨fun _ => ?_, ?_⟩
                  · refine CallsIn.quiet_of (hwith _ _)
                  refine hK _ ?_
                  clear hK K
                  repeat (gi_big_quiet_step (fail))
                  refine wpQuietIn_nil ?_
                  intro _ hw'
                  obtain ⟨nq, hw''⟩ := hw'
                  subst hw''
                  gi_wp2
                  refine ⟨⟨j + 1, _, sr.set j (f j x), by push_cast; rfl, rfl, ⟨hjl⟩, ⟨by rw [List.length_set]; exact hsl.out⟩, ⟨HSR2.out⟩, ⟨?_⟩, ⟨?_⟩, ⟨HS2.out.size, HS2.out.same, HS2.out.os, HS2.out.tape, HS2.out.output⟩⟩, by simp [intOf]; omega⟩
                  · rw [← htk.out, HXE.out]; exact src_step f sr _ j (by have := hsl.out; omega) (by have := HCI.out; omega)
                  · rw [← hth.out, thr_step l1 f _ j _ (by have := HCI.out; omega), ← HXE.out]; congr 1; simp [Bool.decide_and]
                | false =>
                  refine quiet_round rfl (by kernel_rfl) (by kernel_rfl) (by kernel_rfl) ?_
                  repeat (gi_big_quiet_step (fail))
                  refine BigFrame.wpQuietIn_skip (fun _ _ _ _ => trivial) rfl ?_
                  go_simp
                  repeat (gi_big_quiet_step (fail))
                  refine wpQuietIn_nil ?_
                  intro nq
                  gi_wp2
                  refine ⟨⟨j + 1, false, sr.set j (f j x), by push_cast; rfl, rfl, ⟨hjl⟩, ⟨by rw [List.length_set]; exact hsl.out⟩, ⟨HSR2.out⟩, ⟨?_⟩, ⟨?_⟩, ⟨HS2.out.size, HS2.out.same, HS2.out.os, HS2.out.tape, HS2.out.output⟩⟩, by simp [intOf]; omega⟩
                  · rw [← htk.out, HXE.out]; exact src_step f sr _ j (by have := hsl.out; omega) (by have := HCI.out; omega)
                  · rw [← hth.out, thr_step l1 f _ j _ (by have := HCI.out; omega), ← HXE.out]; congr 1
              exact AllReadyIn.nil
            exact AllReadyIn.nil
          refine AllReadyIn.cons rfl (fun K hK => ?_) ?_
          · go_simp
            refine ⟨trivial, (hcall _ _ (pw_below_drewN HBE.out 1)).mono ?_⟩
            rintro e w' ⟨rfl, q', rfl⟩
            refine hK _ _ ?_
            clear hK K
            refine wpAnyIn_ready (rs := [0]) (by kernel_rfl) (by simp) ?_
            refine AllReadyIn.cons rfl (fun K hK => ?_) ?_
            · go_simp
              refine hK _ _ ?_
              clear hK K
              refine wpAnyIn_take (i := 6) (v := ?_) rfl rfl (by kernel_rfl) (by kernel_rfl) (by kernel_rfl) (fun _ _ _ h => h) ⟨Or.inl ⟨by rfl, ?_⟩, fun _ => rfl⟩ ?_
              rotate_left
              · intro w'; go_simp; try with_reducible rfl
              refine wpAnyIn_ready (rs := [7]) (by kernel_rfl) (by simp) ?_
              refine AllReadyIn.cons rfl (fun K hK => ?_) ?_
              · go_simp
                refine hK _ _ ?_
                clear hK K
                refine wpAnyIn_done (by kernel_rfl) ?_ _
                gi_wp2
                obtain ⟨W2, hW2⟩ : ∃ W2, (World.drewN wr (1 + q')).setCell ⟨gS, j, none⟩ (.int .i64 (f j x)) = W2 := ⟨_, rfl⟩
                rw [hW2]
                have hS2 : ButS (fun k => k = gS) W W2 := hW2 ▸ butS_set (show ButS (fun k => k = gS) W (World.drewN wr (1 + q')) from ⟨hbs.out.size, hbs.out.same, hbs.out.os, hbs.out.tape, hbs.out.output⟩) rfl j _
                have hsr2 : W2.heap[gS]? = some (.cells (rowI (sr.set j (f j x))) 3 (0, 0)) := hW2 ▸ rowI_put (show (World.drewN wr (1 + q')).heap[gS]? = _ from hsr.out) j _
                have HS2 := Aside0.mk hS2
                have HSR2 := Aside0.mk hsr2
                have hgs := GS.out
                have hu1 := blk_cell (hS2.blk Q4.out (by omega)) 0
                have hu2 := blk_cell (hS2.blk Q1.out (by omega)) 1
                have hu3 := rowI_cell hsr2 j (by have := hsl.out; rw [List.length_set]; omega)
                rw [show rd (sr.set j (f j x)) (j : Int) = f j x from rd_set _ _ _ (by have := hsl.out; omega)] at hu3
                have hb2 : Below w.heap.size w W2 := q9.trans (hS2.below (by rintro k rfl; omega) (by have := HSZ.out; have := HGE.out; omega))
                obtain ⟨ad, rfl, hu4⟩ := Kd.at_int (Kd.C_below H1.out hb2) (j : Int) p0 (by have := HL.out; omega)
                rw [Int.toNat_natCast] at hu4
                have p2 : (j : Int) < (l1.length : Int) := by have := HL.out; omega
                clear hgs hS2 hsr2 hb2 hW2
                cases q with
                | true =>
                  have hwith : ∀ (n : Nat) (W' : World), CallsIn Fence.wide n Try.prog 118 #[.int .i64 (f j x), .int .i64 0, .int .i64 (wrap64 (rd l1 (j : Int) - 1))] W' fun e w' => e = .returned (.bool (decide (0 ≤ f j x ∧ f j x ≤ wrap64 (rd l1 (j : Int) - 1)))) ∧ ∃ m, w' = W'.drewN m := fun n W' => callsIn_wide.2 ((impl_within.calls (f j x) 0 (wrap64 (rd l1 (j : Int) - 1)) (decide (0 ≤ f j x ∧ f j x ≤ wrap64 (rd l1 (j : Int) - 1))) W' (within_ev _ _)).mono (fun _ _ h => ⟨h.1, h.2.out⟩))
                  refine quiet_round rfl (by kernel_rfl) (by kernel_rfl) (by kernel_rfl) ?_
                  repeat (gi_big_quiet_step (fail))
                  refine BigFrame.wpQuietIn_want (fun _ _ _ _ => trivial) rfl (fun K hK => ?_)
                  gi_big_quiet_op
                  apply Exists.intro
                  refine ⟨fun _ => ?_, ?_⟩
                  · refine CallsIn.quiet_of (hwith _ _)
                  refine hK _ ?_
                  clear hK K
                  repeat (gi_big_quiet_step (fail))
                  refine wpQuietIn_nil ?_
                  intro _ hw'
                  obtain ⟨nq, hw''⟩ := hw'
                  subst hw''
                  gi_wp2
                  refine ⟨⟨j + 1, _, sr.set j (f j x), by push_cast; rfl, rfl, ⟨hjl⟩, ⟨by rw [List.length_set]; exact hsl.out⟩, ⟨HSR2.out⟩, ⟨?_⟩, ⟨?_⟩, ⟨HS2.out.size, HS2.out.same, HS2.out.os, HS2.out.tape, HS2.out.output⟩⟩, by simp [intOf]; omega⟩
                  · rw [← htk.out, HXE.out]; exact src_step f sr _ j (by have := hsl.out; omega) (by have := HCI.out; omega)
                  · rw [← hth.out, thr_step l1 f _ j _ (by have := HCI.out; omega), ← HXE.out]; congr 1; simp [Bool.decide_and]
                | false =>
                  refine quiet_round rfl (by kernel_rfl) (by kernel_rfl) (by kernel_rfl) ?_
                  repeat (gi_big_quiet_step (fail))
                  refine BigFrame.wpQuietIn_skip (fun _ _ _ _ => trivial) rfl ?_
                  go_simp
                  repeat (gi_big_quiet_step (fail))
                  refine wpQuietIn_nil ?_
                  intro nq
                  gi_wp2
                  refine ⟨⟨j + 1, false, sr.set j (f j x), by push_cast; rfl, rfl, ⟨hjl⟩, ⟨by rw [List.length_set]; exact hsl.out⟩, ⟨HSR2.out⟩, ⟨?_⟩, ⟨?_⟩, ⟨HS2.out.size, HS2.out.same, HS2.out.os, HS2.out.tape, HS2.out.output⟩⟩, by simp [intOf]; omega⟩
                  · rw [← htk.out, HXE.out]; exact src_step f sr _ j (by have := hsl.out; omega) (by have := HCI.out; omega)
                  · rw [← hth.out, thr_step l1 f _ j _ (by have := HCI.out; omega), ← HXE.out]; congr 1
              exact AllReadyIn.nil
            exact AllReadyIn.nil
          exact AllReadyIn.nil
        exact AllReadyIn.nil
      · have hje : j = s.length := by have := hj.out; omega
        have hte : sr = srcGo f 0 (idxL s t) := by
          have h := htk.out
          rw [List.drop_eq_nil_of_le (by have := HCI.out; omega), srcGo, List.append_nil, List.take_of_length_le (by have := hsl.out; omega)] at h
          exact h
        have hqe : q = thrGo l1 f 0 true (idxL s t) := by
          have h := hth.out
          rw [List.drop_eq_nil_of_le (by have := HCI.out; omega), thrGo] at h
          exact h
        have HTE := Aside0.mk hte
        have HQE := Aside0.mk hqe
        have HJE := Aside0.mk hje
        clear hte hqe hje
        have hgs := GS.out
        have hB5 := blk_cell (hbs.out.blk Q4.out (by omega)) 0
        have hA1 := blk_cell (hbs.out.blk Q1.out (by omega)) 1
        have hM0 := blk_cell (hbs.out.blk Q7.out (by omega)) 0
        have hM1 := blk_cell (hbs.out.blk Q7.out (by omega)) 1
        have hM2 := blk_frozen (hbs.out.blk Q7.out (by omega)) 1
        clear hgs
        cases q with
        | true =>
          have hgs := GS.out
          have hbw : Below w.heap.size w wr := q9.trans (hbs.out.below (by rintro k rfl; omega) (by have := HSZ.out; have := HGE.out; omega))
          have hCS : Kd.C (Kd.int .i64) wr (some ⟨gS, 0, none⟩) sr.length sr := rowI_C hsr.out (by have := hsl.out; omega)
          have hnum : CallsIn (Fence.wide.inRound lo) 6 Try.prog 120 #[.slice A1 l1.length c1, .slice (some ⟨gS, 0, none⟩) s.length s.length] wr fun e w' => e = .returned (.int .i64 (numGo l1 0 0 sr)) ∧ ∃ m, w' = wr.drewN m := by
            have h := impl_number.calls (sr.length + 1) A1 c1 l1 (some ⟨gS, 0, none⟩) sr.length sr _ wr (Kd.C_below H1.out hbw) k1 hCS (Nat.le_refl _) (number_ev l1 sr (by have := hsl.out; have := HL.out; omega) (by have := hsl.out; omega))
            rw [hsl.out] at h
            exact CallsIn.inRound lo (callsIn_wide.2 (h.mono fun _ _ h => ⟨h.1, h.2.out⟩))
          have HN := Aside0.mk hnum
          clear hnum hCS hgs hbw
          have bd1 : t + 1 ≤ maxLen := by have := hlt'.out; unfold maxLen; omega
          have bd2 : (t + 1) * 8 ≤ 140737488355328 := by have := hlt'.out; omega
          have hgs := GS.out
          have hm7 := hbs.out.blk Q7.out (by omega)
          have hrow := hbs.out.own q8 (fun k hk => by omega)
          have HM7 := Aside0.mk hm7
          clear hgs hm7
          gi_wp2_with (first | (refine ⟨trivial, HN.out.mono ?_⟩; rintro e w' ⟨rfl, m, rfl⟩) | (gi_at_builtin; refine wpListIn_append_own _ rfl _ _ 22 rfl (w.heap.size + 10) 3 i0 (.int .i64 0) 1 8 Try.underlying22 hi hz0 hz1 hz2 rfl (by decide) _ _ _ rfl ((show (wr.drewN m).ownsRow _ _ _ _ _ _ from hrow).alloc _) ⟨wr.heap.size, 0, none⟩ 1 1 [.int .i64 (numGo l1 0 0 sr)] rfl rfl (cell_one_new _ _ _) (by simp [Value.oneCell']) bd1 bd2 (by have := HGE.out; have := HSZ.out; have := hbs.out.size; simp; omega) ?_; intro v' w1 hown' hgrow _; obtain ⟨g', cap', rfl⟩ := ownsRow_succ hown'; obtain ⟨pp1, pp2, pp3, ppk, pp4⟩ := pair_appended (W := wr.drewN m) HM7.out (by decide) hrow hown' hgrow; have hc1 := blk_cell pp1 1; have hf1 := blk_frozen pp1 1))
          have hgs := GS.out
          have hb1 : ButS (fun k => k = gS) W (wr.drewN m) := ⟨hbs.out.size, hbs.out.same, hbs.out.os, hbs.out.tape, hbs.out.output⟩
          have hba := (hb1.mono (T := fun k => k = gS ∨ k = gM ∨ w.heap.size + 10 ≤ k) (fun k h => .inl h)).trans (pp4.mono (fun k h => .inr h))
          have hz := HSZ.out
          have hge := HGE.out
          refine ⟨(keeps_butS hb1 (fun k e o ho => by cases e; rw [Q6.out] at ho; cases ho; rfl)).trans ppk, fun k hk => hba.same k ?_ ?_, ?_, hba.blk Q1.out (by omega), hba.blk Q2.out (by omega), hba.blk Q3.out (by omega), hba.blk Q4.out (by omega), ⟨sr, hsl.out, pp4.blk (show (wr.drewN m).heap[gS]? = _ from hsr.out) (by omega)⟩, ⟨_, pp2, ?_⟩, q9.trans (hba.below (fun k hk => by omega) q9.size)⟩
          · rcases hk with rfl | ⟨e0, hk⟩
            · omega
            · have := C_block HS.out e0 hk; omega
          · rcases hk with rfl | ⟨e0, hk⟩
            · omega
            · have := C_block HS.out e0 hk; omega
          · exact hba.blk (show W.heap[W0.heap.size + 2]? = _ from HAT.out) (by omega)
          · rw [show fromL l1 s f (t + 1) = fromL l1 s f t ++ [numGo l1 0 0 sr] from by rw [fromL, fromOne, ← HQE.out]; simp [HTE.out]]
            simpa using pp3
        | false =>
          have bd1 : t + 1 ≤ maxLen := by have := hlt'.out; unfold maxLen; omega
          have bd2 : (t + 1) * 8 ≤ 140737488355328 := by have := hlt'.out; omega
          have hgs := GS.out
          have hm7 := hbs.out.blk Q7.out (by omega)
          have hrow := hbs.out.own q8 (fun k hk => by omega)
          have HM7 := Aside0.mk hm7
          clear hgs hm7
          gi_wp2_with (gi_at_builtin; refine wpListIn_append_own _ rfl _ _ 22 rfl (w.heap.size + 10) 3 i0 (.int .i64 0) 1 8 Try.underlying22 hi hz0 hz1 hz2 rfl (by decide) _ _ _ rfl (hrow.alloc _) ⟨wr.heap.size, 0, none⟩ 1 1 [.int .i64 (-1)] rfl rfl (cell_one_new _ _ _) (by simp [Value.oneCell']) bd1 bd2 (by have := HGE.out; have := HSZ.out; have := hbs.out.size; simp; omega) ?_; intro v' w1 hown' hgrow _; obtain ⟨g', cap', rfl⟩ := ownsRow_succ hown'; obtain ⟨pp1, pp2, pp3, ppk, pp4⟩ := pair_appended HM7.out (by decide) hrow hown' hgrow; have hc1 := blk_cell pp1 1; have hf1 := blk_frozen pp1 1)
          have hgs := GS.out
          have hb1 : ButS (fun k => k = gS) W wr := ⟨hbs.out.size, hbs.out.same, hbs.out.os, hbs.out.tape, hbs.out.output⟩
          have hba := (hb1.mono (T := fun k => k = gS ∨ k = gM ∨ w.heap.size + 10 ≤ k) (fun k h => .inl h)).trans (pp4.mono (fun k h => .inr h))
          have hz := HSZ.out
          have hge := HGE.out
          refine ⟨(keeps_butS hb1 (fun k e o ho => by cases e; rw [Q6.out] at ho; cases ho; rfl)).trans ppk, fun k hk => hba.same k ?_ ?_, ?_, hba.blk Q1.out (by omega), hba.blk Q2.out (by omega), hba.blk Q3.out (by omega), hba.blk Q4.out (by omega), ⟨sr, hsl.out, pp4.blk (show wr.heap[gS]? = _ from hsr.out) (by omega)⟩, ⟨_, pp2, ?_⟩, q9.trans (hba.below (fun k hk => by omega) q9.size)⟩
          · rcases hk with rfl | ⟨e0, hk⟩
            · omega
            · have := C_block HS.out e0 hk; omega
          · rcases hk with rfl | ⟨e0, hk⟩
            · omega
            · have := C_block HS.out e0 hk; omega
          · exact hba.blk (show W.heap[W0.heap.size + 2]? = _ from HAT.out) (by omega)
          · rw [show fromL l1 s f (t + 1) = fromL l1 s f t ++ [-1] from by rw [fromL, fromOne, ← HQE.out]; simp [HTE.out]]
            simpa using pp3
  case done =>
    rintro W ⟨q1, q2, q3, q4, ⟨src, q5, q6⟩, ⟨v, q7, q8⟩, q9⟩ hD
    have hR : Kd.R (Kd.int .i64) 3 W (w.heap.size + 10) (fun _ => True) v (fromL l1 s f (prod s).toNat) := Kd.R_of_own (by rw [fromL_len]; exact q8) (fun _ _ => trivial)
    obtain ⟨Av, cv, rfl⟩ := Kd.R_slice hR
    gi_wp2_with (first | (refine wpListIn_load_row rfl 70 (.tmp 7) rfl gM rfl 70 #[.slice As s.length cs, .slice Av _ cv] (0, 0) _ q7 Try.underlying70 rfl (by kernel_rfl) ?_) | (refine wpListIn_store_named rfl 70 (.tmp 6) (.tmp 62) rfl gR #[.slice As s.length cs, .slice Av _ cv] rfl rfl 70 #[.slice none 0 0, .slice none 0 0] q3 (by kernel_rfl) rfl (by simp [Value.oneCell']) ?_; intro w1 hs1 hb1))
    have hz := HSZ.out
    have hgs := GS.out
    have hD1 : w1.heap[W0.heap.size]? = some (.deferred (some [])) := (hb1.same _ (by omega)).trans hD
    have hR1 := hb1.row hR q3 (by decide)
    refine ⟨by simp, .inl ⟨_, _, rfl, run_takeDeferred hD1, ?_⟩⟩
    refine ⟨_, results_cell_row rfl _ _ gR 70 #[.slice As s.length cs, .slice Av _ cv] (0, 0) _ rfl ((World.putObj_heap_other (by omega)).trans hs1) Try.underlying70 rfl (by kernel_rfl), _, rfl, Kd.R_of_own (own_weaken (base := w.heap.size + 10) (ownsRow_putObj (Kd.own_of_R hR1) _ hD1 rfl) (by omega)) (fun _ _ => trivial), (q9.trans (hb1.below _ (by omega))).trans (belowK_b (w := w) (Nat.le_refl _) w1 W0.heap.size _ _ (by omega) hD1 rfl rfl)⟩
  case stop =>
    rintro c t W _ h _
    exact h.elim
end Go.Proofs.Ytehfcnndjhjkoaa.PA

-- By a program (prt.py, over the print of the kit), for this claim. Not trusted: Lean checks it.
namespace Go.Proofs.Ytehfcnndjhjkoaa.PA
open Go.RowKit Go.Proofs.YtehfcnndjhjkoaaW.PrintWords Go.Proofs.YtehfcnndjhjkoaaW.PrintLast Go.Proofs.YtehfcnndjhjkoaaW.PrintMore
attribute [local go_sem] max2_int min2_int max_two min_two max_three min_three max_four min_four   -- for this text's walks alone
set_option linter.unusedVariables false
set_option linter.unusedSimpArgs false

/-! ### impl_absolute: function 129 -/
def impl_absolute.f (a0 : Int) : Option (Int) := some (mx a0 (wrap64 (-a0)))
set_option maxHeartbeats 8000000 in
set_option maxRecDepth 100000 in
theorem impl_absolute.calls (a0 : Int) (r : Int) (w : World) (h : impl_absolute.f a0 = some r) :
    Calls Try.prog 129 #[.int .i64 a0] w fun e w' => e = .returned (.int .i64 r) ∧ Below w.heap.size w w' := by
  have HB := Aside0.mk (Below.refl w.heap.size w)
  have H : (some (mx a0 (wrap64 (-a0)))) = some r := h
  clear h
  obtain ⟨ji2, hji2⟩ : ∃ j_ : Int, (mx a0 (wrap64 (-a0))) = j_ := ⟨_, rfl⟩
  replace H : (some ji2) = some r := by first | (rw [hji2] at H; exact H) | (simp only [hji2] at H ⊢; exact H)
  have hji2_ : (if a0 < (wrap64 (-a0)) then (wrap64 (-a0)) else a0) = ji2 := hji2
  obtain rfl := Option.some.inj H
  go_enter Try.func129, Try.ntmps129
  go_wp2
  go_ret
  exact ⟨by first | rfl | (simp [errW_none, errW_some] <;> rfl) | (simp only [← hji2]; first | rfl | (simp [errW_none, errW_some] <;> rfl)) | (simp [*, errW_none, errW_some] <;> rfl), by repeat (first | (with_reducible first | exact HB.out | apply below_alloc | apply pw_below_drewN | apply below_drew1) | exact HB.out)⟩

end Go.Proofs.Ytehfcnndjhjkoaa.PA

namespace Go.Proofs.Ytehfcnndjhjkoaa.PA
open Go.RowKit Go.Proofs.YtehfcnndjhjkoaaW.PrintWords Go.Proofs.YtehfcnndjhjkoaaW.PrintLast Go.Proofs.YtehfcnndjhjkoaaW.PrintMore
set_option linter.unusedVariables false
set_option linter.unusedSimpArgs false
/-- Where a part begins along each axis. -/
def stTake (s k : List Int) : List Int := (List.range k.length).map fun (i : Nat) => if rd k (i : Int) < 0 then rd s (i : Int) + rd k (i : Int) else 0
theorem rd_mem' (l : List Int) (i : Nat) (h : i < l.length) : rd l (i : Int) ∈ l := by
  simp only [rd, Int.toNat_natCast, List.getD_eq_getElem?_getD, List.getElem?_eq_getElem h, Option.getD_some]; exact List.getElem_mem h
theorem rd_range (f : Nat → Int) (n i : Nat) (h : i < n) : rd ((List.range n).map f) (i : Int) = f i := by
  simp [rd, List.getD_eq_getElem?_getD, h]
theorem stTake_rd (s k : List Int) (i : Nat) (h : i < k.length) : rd (stTake s k) (i : Int) = if rd k (i : Int) < 0 then rd s (i : Int) + rd k (i : Int) else 0 := rd_range _ _ _ h
theorem take_fn (k : Nat) (i : Int) (gK gB : Nat) (a : Bool) (A1 : Option Addr) (n1 c1 : Nat) (A2 : Option Addr) (c2 : Nat) (l2 : List Int) (b : Bool) (B1 : Option Addr) (d1 : Nat) (sh : List Int) (B2 : Option Addr) (n2 d2 : Nat) (W : World)
    (hK : W.heap[gK]? = some (.cells #[.bool a, .slice A1 n1 c1, .slice A2 l2.length c2] 28 (0, 0))) (hB : W.heap[gB]? = some (.cells #[.bool b, .slice B1 sh.length d1, .slice B2 n2 d2] 28 (0, 0)))
    (hc2 : Kd.C (Kd.int .i64) W A2 l2.length l2) (hc1 : Kd.C (Kd.int .i64) W B1 sh.length sh) (hk : k < l2.length) (hn : sh.length = l2.length) (i0 : 0 ≤ i) (i1 : i ≤ 10000) (s0 : 0 ≤ rd sh (k : Int) ∧ rd sh (k : Int) ≤ 10000) (r0 : -1000000000000000 ≤ rd l2 (k : Int) ∧ rd l2 (k : Int) ≤ 1000000000000000) :
    Calls Try.prog 133 #[.int .i64 (k : Int), .int .i64 i, .pointer (some ⟨gK, 0, none⟩), .pointer (some ⟨gB, 0, none⟩)] W fun e w' => e = .returned (.int .i64 (i + rd (stTake sh l2) (k : Int))) ∧ ∃ q, w' = W.drewN q := by
  rw [stTake_rd _ _ _ hk]
  have x2 : W.cell? ⟨gK, 2, none⟩ = some (.slice A2 l2.length c2) := (blk_cell hK 2).trans rfl
  have x3 : W.cell? ⟨gB, 1, none⟩ = some (.slice B1 sh.length d1) := (blk_cell hB 1).trans rfl
  obtain ⟨ad1, rfl, y1⟩ := Kd.at_int hc2 (k : Int) (by omega) (by omega)
  obtain ⟨ad2, rfl, y2⟩ := Kd.at_int hc1 (k : Int) (by omega) (by omega)
  rw [Int.toNat_natCast] at y1 y2
  have p0 : 0 ≤ (k : Int) := by omega
  have p1 : (k : Int) < (l2.length : Int) := by omega
  have p2 : (k : Int) < (sh.length : Int) := by omega
  obtain ⟨n, hne⟩ : ∃ n, rd l2 (k : Int) = n := ⟨_, rfl⟩
  obtain ⟨z, hze⟩ : ∃ z, rd sh (k : Int) = z := ⟨_, rfl⟩
  rw [hne] at y1 r0 ⊢
  rw [hze] at y2 s0 ⊢
  obtain ⟨r0, r1⟩ := r0
  obtain ⟨s0, s1⟩ := s0
  clear hK hB hc2 hc1 hne hze hn hk
  by_cases hneg : n < 0
  · rw [if_pos hneg]
    go_enter Try.func133, Try.ntmps133
    go_wp2
    go_ret
    exact ⟨(show Ending.returned (.int .i64 (i + z + n)) = _ by rw [Int.add_assoc]), 0, rfl⟩
  · rw [if_neg hneg, Int.add_zero]
    go_enter Try.func133, Try.ntmps133
    go_wp2
    go_ret
    exact ⟨rfl, 0, rfl⟩
theorem take_gives (gK gB : Nat) (a : Bool) (A1 : Option Addr) (n1 c1 : Nat) (A2 : Option Addr) (c2 : Nat) (l2 : List Int) (b : Bool) (B1 : Option Addr) (m1 d1 : Nat) (sh : List Int) (B2 : Option Addr) (n2 d2 : Nat) (s : List Int) (W : World)
    (hK : W.heap[gK]? = some (.cells #[.bool a, .slice A1 n1 c1, .slice A2 l2.length c2] 28 (0, 0))) (hB : W.heap[gB]? = some (.cells #[.bool b, .slice B1 m1 d1, .slice B2 n2 d2] 28 (0, 0))) (hm : m1 = sh.length)
    (hc2 : Kd.C (Kd.int .i64) W A2 l2.length l2) (hc1 : Kd.C (Kd.int .i64) W B1 sh.length sh) (hn : sh.length = l2.length) (hs : s.length = l2.length) (hr : ∀ x ∈ s, 0 ≤ x ∧ x ≤ 10000) (hr' : ∀ x ∈ sh, 0 ≤ x ∧ x ≤ 10000) (r0 : ∀ x ∈ l2, -1000000000000000 ≤ x ∧ x ≤ 1000000000000000) :
    Gives2 133 #[.pointer (some ⟨gK, 0, none⟩), .pointer (some ⟨gB, 0, none⟩)] (fun k i => i + rd (stTake sh l2) (k : Int)) s W := by
  subst hm
  intro W' k i hb hk i0 i1
  exact take_fn k i gK gB a A1 n1 c1 A2 c2 l2 b B1 d1 sh B2 n2 d2 W' (blk_below hK hb) (blk_below hB hb) (Kd.C_below hc2 hb) (Kd.C_below hc1 hb) (by omega) hn i0 (by have := (hr _ (rd_mem' s k hk)).2; omega) (hr' _ (rd_mem' sh k (by omega))) (r0 _ (rd_mem' l2 k (by omega)))
section
variable {P : Program} {ops : Array Oper} {rest : List Oper} {o : Oper} {a : Act} {Q : Exit → Act → World → Prop}
theorem ev_store_row {W : World} (hgd : o.guard = none) (ty : TypeId) (x y : Operand) (ho : o.op = .store ty x y) (g j : Nat) (hx : a.eval x = .pointer (some ⟨g, j, none⟩)) (z : Int) (hy : a.eval y = .int .i64 z)
    (l : List Int) (hg : W.heap[g]? = some (.cells (rowI l) 3 (0, 0))) (hj : j < l.length) (hi : (P.info? ty).map (·.size) = some 1)
    (h : ∀ w1, w1.heap[g]? = some (.cells (rowI (l.set j z)) 3 (0, 0)) → But1 g W w1 → wpList P ops Q rest (a.put o.dst undef) w1) : wpList P ops Q (o :: rest) a W := by
  refine ev_store hgd ty x y ho g j hx (.int .i64 z) hy (rowI l) 3 hg (by simpa [rowI] using hj) rfl hi ?_
  intro w1 h1 h2
  rw [rowI_set] at h1
  exact h w1 h1 h2
end
theorem shapeOk_n (k g n : Nat) (l : List Int) (r : Int × Bool) (w : World) (h : Kd.C (Kd.int .i64) w (some ⟨g, 0, none⟩) l.length l) (hn : l.length = n) (hf : impl_shapeOk.f k l = some r) :
    Calls Try.prog 94 #[.slice (some ⟨g, 0, none⟩) n n] w fun e w' => e = .returned (.tuple #[.int .i64 r.1, .bool r.2]) ∧ Below w.heap.size w w' := by
  subst hn
  exact (impl_shapeOk.calls k (some ⟨g, 0, none⟩) l.length l r.1 r.2 w h (Nat.le_refl _) hf).mono fun _ _ h => ⟨h.1, h.2.below⟩
theorem axis_n (b : Bool) (A1 : Option Addr) (n1 c1 : Nat) (l1 : List Int) (A2 : Option Addr) (c2 : Nat) (l2 : List Int) (gS n : Nat) (s : List Int) (g : Nat) (lb : Array Value) (f : Nat → Int → Int) (eg : ∀ args w, (callFunc g args).run Try.prog w = .ok (.enter g args) w) (w : World)
    (h1 : Kd.C (Kd.int .i64) w A1 l1.length l1) (k1 : l1.length ≤ c1) (hn1 : l1.length = n1) (hs : Kd.C (Kd.int .i64) w (some ⟨gS, 0, none⟩) s.length s) (hn : s.length = n) (hl : l1.length = n) (h5 : n ≤ 5) (hp : 0 ≤ prod s ∧ prod s ≤ 10000) (k : Nat) (hk : impl_shapeOk.f k s = some (prod s, true)) (hf : Gives2 g lb f s w) (hrg : ∀ (t : Nat), t < (prod s).toNat → ∀ k : Nat, k < s.length → 0 ≤ rd (idxL s t) (k : Int) ∧ rd (idxL s t) (k : Int) < rd s (k : Int)) :
    CallsIn Fence.wide 9 Try.prog 105 #[.agg #[.bool b, .slice A1 n1 c1, .slice A2 l2.length c2], .slice (some ⟨gS, 0, none⟩) n n, .func (.func g) #[] lb] w fun e w' => ∃ v, e = .returned (.agg #[.slice (some ⟨gS, 0, none⟩) n n, v]) ∧ Kd.R (Kd.int .i64) 3 w' w.heap.size (fun _ => True) v (fromL l1 s f (prod s).toNat) ∧ Below w.heap.size w w' := by
  subst hn hn1
  exact axis_in b A1 c1 l1 A2 c2 l2 (some ⟨gS, 0, none⟩) s.length s g lb f eg w h1 k1 hs (Nat.le_refl _) hl h5 hp k hk hf hrg
def absL (k : List Int) : List Int := k.map fun (n : Int) => if n < 0 then -n else n
theorem absL_len (k : List Int) : (absL k).length = k.length := by simp [absL]
theorem abs_eq (n : Int) (h0 : -1000000000000000 ≤ n) (h1 : n ≤ 1000000000000000) : impl_absolute.f n = some (if n < 0 then -n else n) := by
  unfold impl_absolute.f mx
  rw [w64 (by omega) (by omega)]
  congr 1
  split <;> split <;> omega
theorem take_snocI (p : List Int) (j : Nat) (h : j < p.length) : p.take (j + 1) = p.take j ++ [rd p (j : Int)] := by
  rw [List.take_succ_eq_append_getElem h]; simp [rd, List.getD_eq_getElem?_getD, h]
/-- The list of a loop that fills a row, a number further. -/
theorem fill_next (q : List Int) (x : Int) (N j : Nat) (hq : q.length = j) (hj : j < N) : (q ++ List.replicate (N - j) (0 : Int)).set j x = (q ++ [x]) ++ List.replicate (N - (j + 1)) 0 := by
  rw [show List.replicate (N - j) (0 : Int) = 0 :: List.replicate (N - (j + 1)) 0 by rw [show N - j = (N - (j + 1)) + 1 by omega, List.replicate_succ]]
  rw [set_last q _ 0 x j hq]; simp
set_option maxHeartbeats 2000000 in
set_option maxRecDepth 100000 in
theorem takeMove_bad (a : Bool) (Aa1 : Option Addr) (ca1 : Nat) (la1 : List Int) (Aa2 : Option Addr) (ca2 : Nat) (la2 : List Int) (b : Bool) (Ab1 : Option Addr) (cb1 : Nat) (lb1 : List Int) (Ab2 : Option Addr) (cb2 : Nat) (lb2 : List Int) (w : World) (ha1 : Kd.C (Kd.int .i64) w Aa1 la1.length la1) (ka1 : la1.length ≤ ca1) (ha2 : Kd.C (Kd.int .i64) w Aa2 la2.length la2) (ka2 : la2.length ≤ ca2) (hb1 : Kd.C (Kd.int .i64) w Ab1 lb1.length lb1) (kb1 : lb1.length ≤ cb1) (hb2 : Kd.C (Kd.int .i64) w Ab2 lb2.length lb2) (kb2 : lb2.length ≤ cb2) (v : Int) (hv : v ≠ 0) (hx : ∀ W, Below w.heap.size w W → Calls Try.prog 128 #[.agg #[.bool a, .slice Aa1 la1.length ca1, .slice Aa2 la2.length ca2], .agg #[.bool b, .slice Ab1 lb1.length cb1, .slice Ab2 lb2.length cb2]] W fun e w' => e = .returned (.tuple #[.agg #[.bool b, .slice Ab1 lb1.length cb1, .slice Ab2 lb2.length cb2], .int .i64 v]) ∧ Below W.heap.size W w') :
    Calls Try.prog 108 #[.agg #[.bool a, .slice Aa1 la1.length ca1, .slice Aa2 la2.length ca2], .agg #[.bool b, .slice Ab1 lb1.length cb1, .slice Ab2 lb2.length cb2]] w fun e w' => ∃ A1 c1 A2 c2, e = .returned (.tuple #[.agg #[.slice A1 ([] : List Int).length c1, .slice A2 ([] : List Int).length c2], .int .i64 v]) ∧ Kd.C (Kd.int .i64) w' A1 ([] : List Int).length [] ∧ ([] : List Int).length ≤ c1 ∧ Kd.C (Kd.int .i64) w' A2 ([] : List Int).length [] ∧ ([] : List Int).length ≤ c2 ∧ Below w.heap.size w w' := by
  have Ha1 := Aside0.mk ha1
  have Ka1 := Aside0.mk ka1
  clear ha1 ka1
  have Ha2 := Aside0.mk ha2
  have Ka2 := Aside0.mk ka2
  clear ha2 ka2
  have Hb1 := Aside0.mk hb1
  have Kb1 := Aside0.mk kb1
  clear hb1 kb1
  have Hb2 := Aside0.mk hb2
  have Kb2 := Aside0.mk kb2
  clear hb2 kb2
  have HX := Aside0.mk hx
  have c0 : (v == 0) = false := beq_eq_false_iff_ne.mpr hv
  have c1 : (v != 0) = true := bne_iff_ne.mpr hv
  clear hx hv
  have HS := Aside0.mk (Sx.start w)
  go_enter Try.func108, Try.ntmps108
  go_wp2_with (first | ((with_reducible refine gate_dst (N := 2) rfl ?_); refine box_event ?hg (N := 2) ?hd (cs := #[.bool a, .slice Aa1 la1.length ca1, .slice Aa2 la2.length ca2]) (t := 28) ?hr ?_; (case hd => rfl); (case hg => rfl); (case hr => first | (go_simp; done) | (go_simp; rfl)); intro gK hg1 w1 hx1 hb1; have nS : Aside0 (Sx w w1 [(.blk gK #[.bool a, .slice Aa1 la1.length ca1, .slice Aa2 la2.length ca2] 28)]) := Aside0.mk (HS.out.box hg1 hx1 hb1); clear HS; have HS := nS; clear nS hg1 hx1 hb1) | ((with_reducible refine gate_dst (N := 3) rfl ?_); refine box_event ?hg (N := 3) ?hd (cs := #[.bool b, .slice Ab1 lb1.length cb1, .slice Ab2 lb2.length cb2]) (t := 28) ?hr ?_; (case hd => rfl); (case hg => rfl); (case hr => first | (go_simp; done) | (go_simp; rfl)); intro gB hg2 w2 hx2 hb2; have nS : Aside0 (Sx w w2 [(.blk gB #[.bool b, .slice Ab1 lb1.length cb1, .slice Ab2 lb2.length cb2] 28), (.blk gK #[.bool a, .slice Aa1 la1.length ca1, .slice Aa2 la2.length ca2] 28)]) := Aside0.mk (HS.out.box hg2 hx2 hb2); clear HS; have HS := nS; clear nS hg2 hx2 hb2) | ((with_reducible refine gate_dst (N := 4) rfl ?_); refine box_event ?hg (N := 4) ?hd (cs := #[.slice none 0 0, .slice none 0 0]) (t := 70) ?hr ?_; (case hd => rfl); (case hg => rfl); (case hr => first | (go_simp; done) | (go_simp; rfl)); intro gR hg3 w3 hx3 hb3; have nS : Aside0 (Sx w w3 [(.blk gR #[.slice none 0 0, .slice none 0 0] 70), (.blk gB #[.bool b, .slice Ab1 lb1.length cb1, .slice Ab2 lb2.length cb2] 28), (.blk gK #[.bool a, .slice Aa1 la1.length ca1, .slice Aa2 la2.length ca2] 28)]) := Aside0.mk (HS.out.box hg3 hx3 hb3); clear HS; have HS := nS; clear nS hg3 hx3 hb3) | ((with_reducible refine gate_dst (N := 13) rfl ?_); refine wpList_load_row rfl 28 (.tmp 2) rfl gK rfl 28 #[.bool a, .slice Aa1 la1.length ca1, .slice Aa2 la2.length ca2] (0, 0) _ (HS.out.blk 2 rfl) Try.underlying28 rfl (by kernel_rfl) ?_) | ((with_reducible refine gate_dst (N := 14) rfl ?_); refine wpList_load_row rfl 28 (.tmp 3) rfl gB rfl 28 #[.bool b, .slice Ab1 lb1.length cb1, .slice Ab2 lb2.length cb2] (0, 0) _ (HS.out.blk 1 rfl) Try.underlying28 rfl (by kernel_rfl) ?_) | (go_at_call 128; refine (HX.out _ HS.out.below).mono ?_; rintro e w4 ⟨rfl, hb4⟩; have nS : Aside0 (Sx w w4 [(.blk gR #[.slice none 0 0, .slice none 0 0] 70), (.blk gB #[.bool b, .slice Ab1 lb1.length cb1, .slice Ab2 lb2.length cb2] 28), (.blk gK #[.bool a, .slice Aa1 la1.length ca1, .slice Aa2 la2.length ca2] 28)]) := Aside0.mk (HS.out.step hb4); clear HS; have HS := nS; clear nS hb4) | ((with_reducible refine gate_store rfl ?_); refine store_named rfl 28 (.tmp 3) (.tmp 16) rfl gB #[.bool b, .slice Ab1 lb1.length cb1, .slice Ab2 lb2.length cb2] rfl rfl 28 #[.bool b, .slice Ab1 lb1.length cb1, .slice Ab2 lb2.length cb2] (HS.out.blk 1 rfl) (by kernel_rfl) rfl (by simp [Value.oneCell']) ?_; intro w5 hx5 hb5; have nS : Aside0 (Sx w w5 [(.blk gR #[.slice none 0 0, .slice none 0 0] 70), (.blk gB #[.bool b, .slice Ab1 lb1.length cb1, .slice Ab2 lb2.length cb2] 28), (.blk gK #[.bool a, .slice Aa1 la1.length ca1, .slice Aa2 la2.length ca2] 28)]) := Aside0.mk (HS.out.put 1 rfl hx5 hb5); clear HS; have HS := nS; clear nS hx5 hb5) | ((with_reducible refine gate_store rfl ?_); refine store_named rfl 70 (.tmp 4) (.tmp 20) rfl gR #[.slice none 0 0, .slice none 0 0] rfl rfl 70 #[.slice none 0 0, .slice none 0 0] (HS.out.blk 0 rfl) (by kernel_rfl) rfl (by simp [Value.oneCell']) ?_; intro w6 hx6 hb6; have nS : Aside0 (Sx w w6 [(.blk gR #[.slice none 0 0, .slice none 0 0] 70), (.blk gB #[.bool b, .slice Ab1 lb1.length cb1, .slice Ab2 lb2.length cb2] 28), (.blk gK #[.bool a, .slice Aa1 la1.length ca1, .slice Aa2 la2.length ca2] 28)]) := Aside0.mk (HS.out.put 0 rfl hx6 hb6); clear HS; have HS := nS; clear nS hx6 hb6))
  refine bodyPost_ret (results_ct rfl _ _ gR 70 #[.slice none 0 0, .slice none 0 0] (0, 0) _ rfl (HS.out.blk 0 rfl) Try.underlying70 rfl (by kernel_rfl)) rfl ?_
  exact ⟨none, 0, none, 0, rfl, Kd.C_nil _ _, Nat.le_refl _, Kd.C_nil _ _, Nat.le_refl _, HS.out.below⟩
set_option maxHeartbeats 2000000 in
set_option maxRecDepth 100000 in
theorem takeMove_same_no (a : Bool) (Aa1 : Option Addr) (ca1 : Nat) (la1 : List Int) (Aa2 : Option Addr) (ca2 : Nat) (la2 : List Int) (b : Bool) (Ab1 : Option Addr) (cb1 : Nat) (lb1 : List Int) (Ab2 : Option Addr) (cb2 : Nat) (lb2 : List Int) (w : World) (ha1 : Kd.C (Kd.int .i64) w Aa1 la1.length la1) (ka1 : la1.length ≤ ca1) (ha2 : Kd.C (Kd.int .i64) w Aa2 la2.length la2) (ka2 : la2.length ≤ ca2) (hb1 : Kd.C (Kd.int .i64) w Ab1 lb1.length lb1) (kb1 : lb1.length ≤ cb1) (hb2 : Kd.C (Kd.int .i64) w Ab2 lb2.length lb2) (kb2 : lb2.length ≤ cb2) (hx : ∀ W, Below w.heap.size w W → Calls Try.prog 128 #[.agg #[.bool a, .slice Aa1 la1.length ca1, .slice Aa2 la2.length ca2], .agg #[.bool b, .slice Ab1 lb1.length cb1, .slice Ab2 lb2.length cb2]] W fun e w' => e = .returned (.tuple #[.agg #[.bool b, .slice Ab1 lb1.length cb1, .slice Ab2 lb2.length cb2], .int .i64 0]) ∧ Below W.heap.size W w') (hr0 : ∀ x ∈ la2, -1000000000000000 ≤ x ∧ x ≤ 1000000000000000) (hls : la2.length ≤ 10000) (ks : Nat) (hso : impl_shapeOk.f ks (absL la2) = some (0, false)) :
    Calls Try.prog 108 #[.agg #[.bool a, .slice Aa1 la1.length ca1, .slice Aa2 la2.length ca2], .agg #[.bool b, .slice Ab1 lb1.length cb1, .slice Ab2 lb2.length cb2]] w fun e w' => ∃ A1 c1 A2 c2, e = .returned (.tuple #[.agg #[.slice A1 ([] : List Int).length c1, .slice A2 ([] : List Int).length c2], .int .i64 7]) ∧ Kd.C (Kd.int .i64) w' A1 ([] : List Int).length [] ∧ ([] : List Int).length ≤ c1 ∧ Kd.C (Kd.int .i64) w' A2 ([] : List Int).length [] ∧ ([] : List Int).length ≤ c2 ∧ Below w.heap.size w w' := by
  have Ha1 := Aside0.mk ha1
  have Ka1 := Aside0.mk ka1
  clear ha1 ka1
  have Ha2 := Aside0.mk ha2
  have Ka2 := Aside0.mk ka2
  clear ha2 ka2
  have Hb1 := Aside0.mk hb1
  have Kb1 := Aside0.mk kb1
  clear hb1 kb1
  have Hb2 := Aside0.mk hb2
  have Kb2 := Aside0.mk kb2
  clear hb2 kb2
  have HX := Aside0.mk hx
  have HR0 := Aside0.mk hr0
  have HSO := Aside0.mk hso
  have hmk := make_rowN la2.length (by omega)
  have HLS := Aside0.mk (show (absL la2).length ≤ 9223372036854775807 by rw [absL_len]; omega)
  clear hx hr0 hso
  have HS := Aside0.mk (Sx.start w)
  go_enter Try.func108, Try.ntmps108
  go_wp2_with (first | ((with_reducible refine gate_dst (N := 2) rfl ?_); refine box_event ?hg (N := 2) ?hd (cs := #[.bool a, .slice Aa1 la1.length ca1, .slice Aa2 la2.length ca2]) (t := 28) ?hr ?_; (case hd => rfl); (case hg => rfl); (case hr => first | (go_simp; done) | (go_simp; rfl)); intro gK hg1 w1 hx1 hb1; have nS : Aside0 (Sx w w1 [(.blk gK #[.bool a, .slice Aa1 la1.length ca1, .slice Aa2 la2.length ca2] 28)]) := Aside0.mk (HS.out.box hg1 hx1 hb1); clear HS; have HS := nS; clear nS hg1 hx1 hb1) | ((with_reducible refine gate_dst (N := 3) rfl ?_); refine box_event ?hg (N := 3) ?hd (cs := #[.bool b, .slice Ab1 lb1.length cb1, .slice Ab2 lb2.length cb2]) (t := 28) ?hr ?_; (case hd => rfl); (case hg => rfl); (case hr => first | (go_simp; done) | (go_simp; rfl)); intro gB hg2 w2 hx2 hb2; have nS : Aside0 (Sx w w2 [(.blk gB #[.bool b, .slice Ab1 lb1.length cb1, .slice Ab2 lb2.length cb2] 28), (.blk gK #[.bool a, .slice Aa1 la1.length ca1, .slice Aa2 la2.length ca2] 28)]) := Aside0.mk (HS.out.box hg2 hx2 hb2); clear HS; have HS := nS; clear nS hg2 hx2 hb2) | ((with_reducible refine gate_dst (N := 4) rfl ?_); refine box_event ?hg (N := 4) ?hd (cs := #[.slice none 0 0, .slice none 0 0]) (t := 70) ?hr ?_; (case hd => rfl); (case hg => rfl); (case hr => first | (go_simp; done) | (go_simp; rfl)); intro gR hg3 w3 hx3 hb3; have nS : Aside0 (Sx w w3 [(.blk gR #[.slice none 0 0, .slice none 0 0] 70), (.blk gB #[.bool b, .slice Ab1 lb1.length cb1, .slice Ab2 lb2.length cb2] 28), (.blk gK #[.bool a, .slice Aa1 la1.length ca1, .slice Aa2 la2.length ca2] 28)]) := Aside0.mk (HS.out.box hg3 hx3 hb3); clear HS; have HS := nS; clear nS hg3 hx3 hb3) | ((with_reducible refine gate_dst (N := 13) rfl ?_); refine wpList_load_row rfl 28 (.tmp 2) rfl gK rfl 28 #[.bool a, .slice Aa1 la1.length ca1, .slice Aa2 la2.length ca2] (0, 0) _ (HS.out.blk 2 rfl) Try.underlying28 rfl (by kernel_rfl) ?_) | ((with_reducible refine gate_dst (N := 14) rfl ?_); refine wpList_load_row rfl 28 (.tmp 3) rfl gB rfl 28 #[.bool b, .slice Ab1 lb1.length cb1, .slice Ab2 lb2.length cb2] (0, 0) _ (HS.out.blk 1 rfl) Try.underlying28 rfl (by kernel_rfl) ?_) | (go_at_call 128; refine (HX.out _ HS.out.below).mono ?_; rintro e w4 ⟨rfl, hb4⟩; have nS : Aside0 (Sx w w4 [(.blk gR #[.slice none 0 0, .slice none 0 0] 70), (.blk gB #[.bool b, .slice Ab1 lb1.length cb1, .slice Ab2 lb2.length cb2] 28), (.blk gK #[.bool a, .slice Aa1 la1.length ca1, .slice Aa2 la2.length ca2] 28)]) := Aside0.mk (HS.out.step hb4); clear HS; have HS := nS; clear nS hb4) | ((with_reducible refine gate_store rfl ?_); refine store_named rfl 28 (.tmp 3) (.tmp 16) rfl gB #[.bool b, .slice Ab1 lb1.length cb1, .slice Ab2 lb2.length cb2] rfl rfl 28 #[.bool b, .slice Ab1 lb1.length cb1, .slice Ab2 lb2.length cb2] (HS.out.blk 1 rfl) (by kernel_rfl) rfl (by simp [Value.oneCell']) ?_; intro w5 hx5 hb5; have nS : Aside0 (Sx w w5 [(.blk gR #[.slice none 0 0, .slice none 0 0] 70), (.blk gB #[.bool b, .slice Ab1 lb1.length cb1, .slice Ab2 lb2.length cb2] 28), (.blk gK #[.bool a, .slice Aa1 la1.length ca1, .slice Aa2 la2.length ca2] 28)]) := Aside0.mk (HS.out.put 1 rfl hx5 hb5); clear HS; have HS := nS; clear nS hx5 hb5) | ((with_reducible refine gate_dst (N := 23) rfl ?_); refine ev_load rfl 22 (.tmp 22) rfl ⟨gK, 2, none⟩ rfl (.slice Aa2 la2.length ca2) ((blk_cell (HS.out.blk 2 rfl) 2).trans rfl) (by kernel_rfl) ?_) | ((with_reducible refine gate_dst (N := 25) rfl ?_); refine lit_event ?hg (N := 25) ?hd (cs := (rowI (List.replicate la2.length 0))) (t := 3) (n := la2.length) ?hr ?_; (case hd => rfl); (case hg => rfl); (case hr => first | (go_simp; done) | (go_simp; rfl)); intro gS hg6 w6 hx6 hb6; have nS : Aside0 (Sx w w6 [(.blk gS (rowI (List.replicate la2.length 0)) 3), (.blk gR #[.slice none 0 0, .slice none 0 0] 70), (.blk gB #[.bool b, .slice Ab1 lb1.length cb1, .slice Ab2 lb2.length cb2] 28), (.blk gK #[.bool a, .slice Aa1 la1.length ca1, .slice Aa2 la2.length ca2] 28)]) := Aside0.mk (HS.out.box hg6 hx6 hb6); clear HS; have HS := nS; clear nS hg6 hx6 hb6) | ((with_reducible refine gate_dst (N := 27) rfl ?_); refine ev_load rfl 22 (.tmp 26) rfl ⟨gK, 2, none⟩ rfl (.slice Aa2 la2.length ca2) ((blk_cell (HS.out.blk 3 rfl) 2).trans rfl) (by kernel_rfl) ?_))
  go_loopw [8, 9, 29] (fun _ _ z wr => ∃ j : Nat, z = .int .i64 (j : Int) ∧ Aside0 (j ≤ la2.length) ∧ Aside0 (Sx w wr [(.blk gS (rowI (absL (la2.take j) ++ List.replicate (la2.length - j) 0)) 3), (.blk gR #[.slice none 0 0, .slice none 0 0] 70), (.blk gB #[.bool b, .slice Ab1 lb1.length cb1, .slice Ab2 lb2.length cb2] 28), (.blk gK #[.bool a, .slice Aa1 la1.length ca1, .slice Aa2 la2.length ca2] 28)])) (fun _ _ z _ => la2.length - (intOf z).toNat)
  case atStart => exact ⟨0, rfl, ⟨Nat.zero_le _⟩, ⟨by simpa [absL] using HS.out⟩⟩
  case round =>
    clear HS
    obtain ⟨j, rfl, hj, HS⟩ := hrel
    by_cases hlt : j < la2.length
    · obtain ⟨ad, rfl, y1⟩ := Kd.at_int (Kd.C_below Ha2.out HS.out.below) (j : Int) (by omega) (by omega)
      rw [Int.toNat_natCast] at y1
      have HT := Aside0.mk (take_snocI la2 j hlt)
      have hb := HR0.out _ (rd_mem' la2 j hlt)
      obtain ⟨n, hne⟩ : ∃ n, n = rd la2 (j : Int) := ⟨_, rfl⟩
      rw [← hne] at y1 HT hb
      have HABS := Aside0.mk (abs_eq n hb.1 hb.2)
      have p0 : 0 ≤ (j : Int) := by omega
      have p1 : (j : Int) < (la2.length : Int) := by omega
      have HL := Aside0.mk (show j < (absL (la2.take j) ++ List.replicate (la2.length - j) 0).length by simp [absL]; omega)
      clear hne hb
      go_wp2_with (first | (go_at_call 129; refine (impl_absolute.calls n (if n < 0 then -n else n) _ HABS.out).mono ?_; rintro e wr1 ⟨rfl, hbr1⟩; have nS : Aside0 (Sx w wr1 [(.blk gS (rowI (absL (la2.take j) ++ List.replicate (la2.length - j) 0)) 3), (.blk gR #[.slice none 0 0, .slice none 0 0] 70), (.blk gB #[.bool b, .slice Ab1 lb1.length cb1, .slice Ab2 lb2.length cb2] 28), (.blk gK #[.bool a, .slice Aa1 la1.length ca1, .slice (some ad) la2.length ca2] 28)]) := Aside0.mk (HS.out.step hbr1); clear HS; have HS := nS; clear nS hbr1) | ((with_reducible refine gate_store rfl ?_); refine ev_store_row rfl 3 (.tmp 38) (.tmp 37) rfl gS j rfl (if n < 0 then -n else n) rfl (absL (la2.take j) ++ List.replicate (la2.length - j) 0) (HS.out.blk 0 rfl) HL.out (by kernel_rfl) ?_; intro wz hxz hbz; have nS : Aside0 (Sx w wz [(.blk gS (rowI ((absL (la2.take j) ++ List.replicate (la2.length - j) 0).set j (if n < 0 then -n else n))) 3), (.blk gR #[.slice none 0 0, .slice none 0 0] 70), (.blk gB #[.bool b, .slice Ab1 lb1.length cb1, .slice Ab2 lb2.length cb2] 28), (.blk gK #[.bool a, .slice Aa1 la1.length ca1, .slice (some ad) la2.length ca2] 28)]) := Aside0.mk (HS.out.put 0 rfl hxz hbz); clear HS; have HS := nS; clear nS hxz hbz))
      go_roundw
      case rel =>
        refine ⟨j + 1, by push_cast; rfl, ⟨hlt⟩, ⟨?_⟩⟩
        have hq : absL (la2.take (j + 1)) = absL (la2.take j) ++ [if n < 0 then -n else n] := by rw [HT.out]; simp [absL]
        have h := fill_next (absL (la2.take j)) (if n < 0 then -n else n) la2.length j (by simp [absL]; omega) hlt
        rw [hq, ← h]
        exact HS.out
      case measure => simp [intOf]; omega
    · obtain rfl : j = la2.length := by have := hj.out; omega
      have HS' : Aside0 (Sx w wr [(.blk gS (rowI (absL la2)) 3), (.blk gR #[.slice none 0 0, .slice none 0 0] 70), (.blk gB #[.bool b, .slice Ab1 lb1.length cb1, .slice Ab2 lb2.length cb2] 28), (.blk gK #[.bool a, .slice Aa1 la1.length ca1, .slice Aa2 la2.length ca2] 28)]) := Aside0.mk (by have := HS.out; simpa [absL, List.take_length] using this)
      clear HS
      have HS := HS'
      clear HS'
      go_wp2_with (first | (go_at_call 94; refine (shapeOk_n ks gS la2.length (absL la2) (0, false) _ (rowI_C (HS.out.blk 0 rfl) HLS.out) (absL_len la2) HSO.out).mono ?_; rintro e wz1 ⟨rfl, hbz1⟩; have nS : Aside0 (Sx w wz1 [(.blk gS (rowI (absL la2)) 3), (.blk gR #[.slice none 0 0, .slice none 0 0] 70), (.blk gB #[.bool b, .slice Ab1 lb1.length cb1, .slice Ab2 lb2.length cb2] 28), (.blk gK #[.bool a, .slice Aa1 la1.length ca1, .slice Aa2 la2.length ca2] 28)]) := Aside0.mk (HS.out.step hbz1); clear HS; have HS := nS; clear nS hbz1) | ((with_reducible refine gate_store rfl ?_); refine store_named rfl 70 (.tmp 4) (.tmp 47) rfl gR #[.slice none 0 0, .slice none 0 0] rfl rfl 70 #[.slice none 0 0, .slice none 0 0] (HS.out.blk 1 rfl) (by kernel_rfl) rfl (by simp [Value.oneCell']) ?_; intro wz2 hxz2 hbz2; have nS : Aside0 (Sx w wz2 [(.blk gS (rowI (absL la2)) 3), (.blk gR #[.slice none 0 0, .slice none 0 0] 70), (.blk gB #[.bool b, .slice Ab1 lb1.length cb1, .slice Ab2 lb2.length cb2] 28), (.blk gK #[.bool a, .slice Aa1 la1.length ca1, .slice Aa2 la2.length ca2] 28)]) := Aside0.mk (HS.out.put 1 rfl hxz2 hbz2); clear HS; have HS := nS; clear nS hxz2 hbz2))
      refine bodyPost_ret (results_ct rfl _ _ gR 70 #[.slice none 0 0, .slice none 0 0] (0, 0) _ rfl (HS.out.blk 1 rfl) Try.underlying70 rfl (by kernel_rfl)) rfl ?_
      exact ⟨none, 0, none, 0, rfl, Kd.C_nil _ _, Nat.le_refl _, Kd.C_nil _ _, Nat.le_refl _, HS.out.below⟩
set_option maxHeartbeats 2000000 in
set_option maxRecDepth 100000 in
theorem takeMove_same_ok (a : Bool) (Aa1 : Option Addr) (ca1 : Nat) (la1 : List Int) (Aa2 : Option Addr) (ca2 : Nat) (la2 : List Int) (b : Bool) (Ab1 : Option Addr) (cb1 : Nat) (lb1 : List Int) (Ab2 : Option Addr) (cb2 : Nat) (lb2 : List Int) (w : World) (ha1 : Kd.C (Kd.int .i64) w Aa1 la1.length la1) (ka1 : la1.length ≤ ca1) (ha2 : Kd.C (Kd.int .i64) w Aa2 la2.length la2) (ka2 : la2.length ≤ ca2) (hb1 : Kd.C (Kd.int .i64) w Ab1 lb1.length lb1) (kb1 : lb1.length ≤ cb1) (hb2 : Kd.C (Kd.int .i64) w Ab2 lb2.length lb2) (kb2 : lb2.length ≤ cb2) (hx : ∀ W, Below w.heap.size w W → Calls Try.prog 128 #[.agg #[.bool a, .slice Aa1 la1.length ca1, .slice Aa2 la2.length ca2], .agg #[.bool b, .slice Ab1 lb1.length cb1, .slice Ab2 lb2.length cb2]] W fun e w' => e = .returned (.tuple #[.agg #[.bool b, .slice Ab1 lb1.length cb1, .slice Ab2 lb2.length cb2], .int .i64 0]) ∧ Below W.heap.size W w') (hr0 : ∀ x ∈ la2, -1000000000000000 ≤ x ∧ x ≤ 1000000000000000) (hls : la2.length ≤ 10000) (ks : Nat) (hso : impl_shapeOk.f ks (absL la2) = some (prod (absL la2), true)) (hsl : lb1.length = la2.length) (h5 : la2.length ≤ 5) (hp : 0 ≤ prod (absL la2) ∧ prod (absL la2) ≤ 10000) (hrs : ∀ x ∈ absL la2, 0 ≤ x ∧ x ≤ 10000) (hrb : ∀ x ∈ lb1, 0 ≤ x ∧ x ≤ 10000) (hrg : ∀ (t : Nat), t < (prod (absL la2)).toNat → ∀ k : Nat, k < (absL la2).length → 0 ≤ rd (idxL (absL la2) t) (k : Int) ∧ rd (idxL (absL la2) t) (k : Int) < rd (absL la2) (k : Int)) :
    Calls Try.prog 108 #[.agg #[.bool a, .slice Aa1 la1.length ca1, .slice Aa2 la2.length ca2], .agg #[.bool b, .slice Ab1 lb1.length cb1, .slice Ab2 lb2.length cb2]] w fun e w' => ∃ A1 c1 A2 c2, e = .returned (.tuple #[.agg #[.slice A1 ((absL la2) : List Int).length c1, .slice A2 ((fromL lb1 (absL la2) (fun k i => i + rd (stTake lb1 la2) (k : Int)) (prod (absL la2)).toNat) : List Int).length c2], .int .i64 0]) ∧ Kd.C (Kd.int .i64) w' A1 ((absL la2) : List Int).length (absL la2) ∧ ((absL la2) : List Int).length ≤ c1 ∧ Kd.C (Kd.int .i64) w' A2 ((fromL lb1 (absL la2) (fun k i => i + rd (stTake lb1 la2) (k : Int)) (prod (absL la2)).toNat) : List Int).length (fromL lb1 (absL la2) (fun k i => i + rd (stTake lb1 la2) (k : Int)) (prod (absL la2)).toNat) ∧ ((fromL lb1 (absL la2) (fun k i => i + rd (stTake lb1 la2) (k : Int)) (prod (absL la2)).toNat) : List Int).length ≤ c2 ∧ Below w.heap.size w w' := by
  have Ha1 := Aside0.mk ha1
  have Ka1 := Aside0.mk ka1
  clear ha1 ka1
  have Ha2 := Aside0.mk ha2
  have Ka2 := Aside0.mk ka2
  clear ha2 ka2
  have Hb1 := Aside0.mk hb1
  have Kb1 := Aside0.mk kb1
  clear hb1 kb1
  have Hb2 := Aside0.mk hb2
  have Kb2 := Aside0.mk kb2
  clear hb2 kb2
  have HX := Aside0.mk hx
  have HR0 := Aside0.mk hr0
  have HSO := Aside0.mk hso
  have hmk := make_rowN la2.length (by omega)
  have HLS := Aside0.mk (show (absL la2).length ≤ 9223372036854775807 by rw [absL_len]; omega)
  clear hx hr0 hso
  have HSL := Aside0.mk hsl
  have H5 := Aside0.mk h5
  have HP := Aside0.mk hp
  have HRS := Aside0.mk hrs
  have HRB := Aside0.mk hrb
  have HRG := Aside0.mk hrg
  clear hsl h5 hp hrs hrb hrg
  have HS := Aside0.mk (Sx.start w)
  go_enter Try.func108, Try.ntmps108
  go_wp2_with (first | ((with_reducible refine gate_dst (N := 2) rfl ?_); refine box_event ?hg (N := 2) ?hd (cs := #[.bool a, .slice Aa1 la1.length ca1, .slice Aa2 la2.length ca2]) (t := 28) ?hr ?_; (case hd => rfl); (case hg => rfl); (case hr => first | (go_simp; done) | (go_simp; rfl)); intro gK hg1 w1 hx1 hb1; have nS : Aside0 (Sx w w1 [(.blk gK #[.bool a, .slice Aa1 la1.length ca1, .slice Aa2 la2.length ca2] 28)]) := Aside0.mk (HS.out.box hg1 hx1 hb1); clear HS; have HS := nS; clear nS hg1 hx1 hb1) | ((with_reducible refine gate_dst (N := 3) rfl ?_); refine box_event ?hg (N := 3) ?hd (cs := #[.bool b, .slice Ab1 lb1.length cb1, .slice Ab2 lb2.length cb2]) (t := 28) ?hr ?_; (case hd => rfl); (case hg => rfl); (case hr => first | (go_simp; done) | (go_simp; rfl)); intro gB hg2 w2 hx2 hb2; have nS : Aside0 (Sx w w2 [(.blk gB #[.bool b, .slice Ab1 lb1.length cb1, .slice Ab2 lb2.length cb2] 28), (.blk gK #[.bool a, .slice Aa1 la1.length ca1, .slice Aa2 la2.length ca2] 28)]) := Aside0.mk (HS.out.box hg2 hx2 hb2); clear HS; have HS := nS; clear nS hg2 hx2 hb2) | ((with_reducible refine gate_dst (N := 4) rfl ?_); refine box_event ?hg (N := 4) ?hd (cs := #[.slice none 0 0, .slice none 0 0]) (t := 70) ?hr ?_; (case hd => rfl); (case hg => rfl); (case hr => first | (go_simp; done) | (go_simp; rfl)); intro gR hg3 w3 hx3 hb3; have nS : Aside0 (Sx w w3 [(.blk gR #[.slice none 0 0, .slice none 0 0] 70), (.blk gB #[.bool b, .slice Ab1 lb1.length cb1, .slice Ab2 lb2.length cb2] 28), (.blk gK #[.bool a, .slice Aa1 la1.length ca1, .slice Aa2 la2.length ca2] 28)]) := Aside0.mk (HS.out.box hg3 hx3 hb3); clear HS; have HS := nS; clear nS hg3 hx3 hb3) | ((with_reducible refine gate_dst (N := 13) rfl ?_); refine wpList_load_row rfl 28 (.tmp 2) rfl gK rfl 28 #[.bool a, .slice Aa1 la1.length ca1, .slice Aa2 la2.length ca2] (0, 0) _ (HS.out.blk 2 rfl) Try.underlying28 rfl (by kernel_rfl) ?_) | ((with_reducible refine gate_dst (N := 14) rfl ?_); refine wpList_load_row rfl 28 (.tmp 3) rfl gB rfl 28 #[.bool b, .slice Ab1 lb1.length cb1, .slice Ab2 lb2.length cb2] (0, 0) _ (HS.out.blk 1 rfl) Try.underlying28 rfl (by kernel_rfl) ?_) | (go_at_call 128; refine (HX.out _ HS.out.below).mono ?_; rintro e w4 ⟨rfl, hb4⟩; have nS : Aside0 (Sx w w4 [(.blk gR #[.slice none 0 0, .slice none 0 0] 70), (.blk gB #[.bool b, .slice Ab1 lb1.length cb1, .slice Ab2 lb2.length cb2] 28), (.blk gK #[.bool a, .slice Aa1 la1.length ca1, .slice Aa2 la2.length ca2] 28)]) := Aside0.mk (HS.out.step hb4); clear HS; have HS := nS; clear nS hb4) | ((with_reducible refine gate_store rfl ?_); refine store_named rfl 28 (.tmp 3) (.tmp 16) rfl gB #[.bool b, .slice Ab1 lb1.length cb1, .slice Ab2 lb2.length cb2] rfl rfl 28 #[.bool b, .slice Ab1 lb1.length cb1, .slice Ab2 lb2.length cb2] (HS.out.blk 1 rfl) (by kernel_rfl) rfl (by simp [Value.oneCell']) ?_; intro w5 hx5 hb5; have nS : Aside0 (Sx w w5 [(.blk gR #[.slice none 0 0, .slice none 0 0] 70), (.blk gB #[.bool b, .slice Ab1 lb1.length cb1, .slice Ab2 lb2.length cb2] 28), (.blk gK #[.bool a, .slice Aa1 la1.length ca1, .slice Aa2 la2.length ca2] 28)]) := Aside0.mk (HS.out.put 1 rfl hx5 hb5); clear HS; have HS := nS; clear nS hx5 hb5) | ((with_reducible refine gate_dst (N := 23) rfl ?_); refine ev_load rfl 22 (.tmp 22) rfl ⟨gK, 2, none⟩ rfl (.slice Aa2 la2.length ca2) ((blk_cell (HS.out.blk 2 rfl) 2).trans rfl) (by kernel_rfl) ?_) | ((with_reducible refine gate_dst (N := 25) rfl ?_); refine lit_event ?hg (N := 25) ?hd (cs := (rowI (List.replicate la2.length 0))) (t := 3) (n := la2.length) ?hr ?_; (case hd => rfl); (case hg => rfl); (case hr => first | (go_simp; done) | (go_simp; rfl)); intro gS hg6 w6 hx6 hb6; have nS : Aside0 (Sx w w6 [(.blk gS (rowI (List.replicate la2.length 0)) 3), (.blk gR #[.slice none 0 0, .slice none 0 0] 70), (.blk gB #[.bool b, .slice Ab1 lb1.length cb1, .slice Ab2 lb2.length cb2] 28), (.blk gK #[.bool a, .slice Aa1 la1.length ca1, .slice Aa2 la2.length ca2] 28)]) := Aside0.mk (HS.out.box hg6 hx6 hb6); clear HS; have HS := nS; clear nS hg6 hx6 hb6) | ((with_reducible refine gate_dst (N := 27) rfl ?_); refine ev_load rfl 22 (.tmp 26) rfl ⟨gK, 2, none⟩ rfl (.slice Aa2 la2.length ca2) ((blk_cell (HS.out.blk 3 rfl) 2).trans rfl) (by kernel_rfl) ?_))
  go_loopw [8, 9, 29] (fun _ _ z wr => ∃ j : Nat, z = .int .i64 (j : Int) ∧ Aside0 (j ≤ la2.length) ∧ Aside0 (Sx w wr [(.blk gS (rowI (absL (la2.take j) ++ List.replicate (la2.length - j) 0)) 3), (.blk gR #[.slice none 0 0, .slice none 0 0] 70), (.blk gB #[.bool b, .slice Ab1 lb1.length cb1, .slice Ab2 lb2.length cb2] 28), (.blk gK #[.bool a, .slice Aa1 la1.length ca1, .slice Aa2 la2.length ca2] 28)])) (fun _ _ z _ => la2.length - (intOf z).toNat)
  case atStart => exact ⟨0, rfl, ⟨Nat.zero_le _⟩, ⟨by simpa [absL] using HS.out⟩⟩
  case round =>
    clear HS
    obtain ⟨j, rfl, hj, HS⟩ := hrel
    by_cases hlt : j < la2.length
    · obtain ⟨ad, rfl, y1⟩ := Kd.at_int (Kd.C_below Ha2.out HS.out.below) (j : Int) (by omega) (by omega)
      rw [Int.toNat_natCast] at y1
      have HT := Aside0.mk (take_snocI la2 j hlt)
      have hb := HR0.out _ (rd_mem' la2 j hlt)
      obtain ⟨n, hne⟩ : ∃ n, n = rd la2 (j : Int) := ⟨_, rfl⟩
      rw [← hne] at y1 HT hb
      have HABS := Aside0.mk (abs_eq n hb.1 hb.2)
      have p0 : 0 ≤ (j : Int) := by omega
      have p1 : (j : Int) < (la2.length : Int) := by omega
      have HL := Aside0.mk (show j < (absL (la2.take j) ++ List.replicate (la2.length - j) 0).length by simp [absL]; omega)
      clear hne hb
      go_wp2_with (first | (go_at_call 129; refine (impl_absolute.calls n (if n < 0 then -n else n) _ HABS.out).mono ?_; rintro e wr1 ⟨rfl, hbr1⟩; have nS : Aside0 (Sx w wr1 [(.blk gS (rowI (absL (la2.take j) ++ List.replicate (la2.length - j) 0)) 3), (.blk gR #[.slice none 0 0, .slice none 0 0] 70), (.blk gB #[.bool b, .slice Ab1 lb1.length cb1, .slice Ab2 lb2.length cb2] 28), (.blk gK #[.bool a, .slice Aa1 la1.length ca1, .slice (some ad) la2.length ca2] 28)]) := Aside0.mk (HS.out.step hbr1); clear HS; have HS := nS; clear nS hbr1) | ((with_reducible refine gate_store rfl ?_); refine ev_store_row rfl 3 (.tmp 38) (.tmp 37) rfl gS j rfl (if n < 0 then -n else n) rfl (absL (la2.take j) ++ List.replicate (la2.length - j) 0) (HS.out.blk 0 rfl) HL.out (by kernel_rfl) ?_; intro wz hxz hbz; have nS : Aside0 (Sx w wz [(.blk gS (rowI ((absL (la2.take j) ++ List.replicate (la2.length - j) 0).set j (if n < 0 then -n else n))) 3), (.blk gR #[.slice none 0 0, .slice none 0 0] 70), (.blk gB #[.bool b, .slice Ab1 lb1.length cb1, .slice Ab2 lb2.length cb2] 28), (.blk gK #[.bool a, .slice Aa1 la1.length ca1, .slice (some ad) la2.length ca2] 28)]) := Aside0.mk (HS.out.put 0 rfl hxz hbz); clear HS; have HS := nS; clear nS hxz hbz))
      go_roundw
      case rel =>
        refine ⟨j + 1, by push_cast; rfl, ⟨hlt⟩, ⟨?_⟩⟩
        have hq : absL (la2.take (j + 1)) = absL (la2.take j) ++ [if n < 0 then -n else n] := by rw [HT.out]; simp [absL]
        have h := fill_next (absL (la2.take j)) (if n < 0 then -n else n) la2.length j (by simp [absL]; omega) hlt
        rw [hq, ← h]
        exact HS.out
      case measure => simp [intOf]; omega
    · obtain rfl : j = la2.length := by have := hj.out; omega
      have HS' : Aside0 (Sx w wr [(.blk gS (rowI (absL la2)) 3), (.blk gR #[.slice none 0 0, .slice none 0 0] 70), (.blk gB #[.bool b, .slice Ab1 lb1.length cb1, .slice Ab2 lb2.length cb2] 28), (.blk gK #[.bool a, .slice Aa1 la1.length ca1, .slice Aa2 la2.length ca2] 28)]) := Aside0.mk (by have := HS.out; simpa [absL, List.take_length] using this)
      clear HS
      have HS := HS'
      clear HS'
      go_wp2_with (first | (go_at_call 94; refine (shapeOk_n ks gS la2.length (absL la2) (prod (absL la2), true) _ (rowI_C (HS.out.blk 0 rfl) HLS.out) (absL_len la2) HSO.out).mono ?_; rintro e wz1 ⟨rfl, hbz1⟩; have nS : Aside0 (Sx w wz1 [(.blk gS (rowI (absL la2)) 3), (.blk gR #[.slice none 0 0, .slice none 0 0] 70), (.blk gB #[.bool b, .slice Ab1 lb1.length cb1, .slice Ab2 lb2.length cb2] 28), (.blk gK #[.bool a, .slice Aa1 la1.length ca1, .slice Aa2 la2.length ca2] 28)]) := Aside0.mk (HS.out.step hbz1); clear HS; have HS := nS; clear nS hbz1) | ((with_reducible refine gate_dst (N := 48) rfl ?_); refine wpList_load_row rfl 28 (.tmp 3) rfl gB rfl 28 #[.bool b, .slice Ab1 lb1.length cb1, .slice Ab2 lb2.length cb2] (0, 0) _ (HS.out.blk 2 rfl) Try.underlying28 rfl (by kernel_rfl) ?_) | (go_at_call 105; refine (callsIn_wide.1 (axis_n b Ab1 lb1.length cb1 lb1 Ab2 cb2 lb2 gS la2.length (absL la2) 133 #[.pointer (some ⟨gK, 0, none⟩), .pointer (some ⟨gB, 0, none⟩)] (fun k i => i + rd (stTake lb1 la2) (k : Int)) (enters_of Try.func133 (by kernel_rfl) rfl) _ (Kd.C_below Hb1.out HS.out.below) Kb1.out rfl (rowI_C (HS.out.blk 0 rfl) HLS.out) (absL_len la2) HSL.out H5.out HP.out ks HSO.out (take_gives gK gB a Aa1 _ ca1 Aa2 ca2 la2 b Ab1 _ cb1 lb1 Ab2 _ cb2 (absL la2) _ (HS.out.blk 3 rfl) (HS.out.blk 2 rfl) rfl (Kd.C_below Ha2.out HS.out.below) (Kd.C_below Hb1.out HS.out.below) HSL.out (absL_len la2) HRS.out HRB.out HR0.out) HRG.out)).mono ?_; rintro e wz2 ⟨v, rfl, hrz2, hbz2⟩; obtain ⟨Av, cv, rfl⟩ := Kd.R_slice hrz2; have nS : Aside0 (Sx w wz2 [(.row (.slice Av (fromL lb1 (absL la2) (fun k i => i + rd (stTake lb1 la2) (k : Int)) (prod (absL la2)).toNat).length cv) (fromL lb1 (absL la2) (fun k i => i + rd (stTake lb1 la2) (k : Int)) (prod (absL la2)).toNat)), (.blk gS (rowI (absL la2)) 3), (.blk gR #[.slice none 0 0, .slice none 0 0] 70), (.blk gB #[.bool b, .slice Ab1 lb1.length cb1, .slice Ab2 lb2.length cb2] 28), (.blk gK #[.bool a, .slice Aa1 la1.length ca1, .slice Aa2 la2.length ca2] 28)]) := Aside0.mk (HS.out.addRow hbz2 hrz2); clear HS; have HS := nS; clear nS hbz2 hrz2) | ((with_reducible refine gate_store rfl ?_); refine store_named rfl 70 (.tmp 4) (.tmp 51) rfl gR #[.slice (some ⟨gS, 0, none⟩) la2.length la2.length, .slice Av (fromL lb1 (absL la2) (fun k i => i + rd (stTake lb1 la2) (k : Int)) (prod (absL la2)).toNat).length cv] rfl rfl 70 #[.slice none 0 0, .slice none 0 0] (HS.out.blk 2 rfl) (by kernel_rfl) rfl (by simp [Value.oneCell']) ?_; intro wz3 hxz3 hbz3; have nS : Aside0 (Sx w wz3 [(.row (.slice Av (fromL lb1 (absL la2) (fun k i => i + rd (stTake lb1 la2) (k : Int)) (prod (absL la2)).toNat).length cv) (fromL lb1 (absL la2) (fun k i => i + rd (stTake lb1 la2) (k : Int)) (prod (absL la2)).toNat)), (.blk gS (rowI (absL la2)) 3), (.blk gR #[.slice (some ⟨gS, 0, none⟩) la2.length la2.length, .slice Av (fromL lb1 (absL la2) (fun k i => i + rd (stTake lb1 la2) (k : Int)) (prod (absL la2)).toNat).length cv] 70), (.blk gB #[.bool b, .slice Ab1 lb1.length cb1, .slice Ab2 lb2.length cb2] 28), (.blk gK #[.bool a, .slice Aa1 la1.length ca1, .slice Aa2 la2.length ca2] 28)]) := Aside0.mk (HS.out.put 2 rfl hxz3 hbz3); clear HS; have HS := nS; clear nS hxz3 hbz3))
      refine bodyPost_ret (results_ct rfl _ _ gR 70 #[.slice (some ⟨gS, 0, none⟩) la2.length la2.length, .slice Av (fromL lb1 (absL la2) (fun k i => i + rd (stTake lb1 la2) (k : Int)) (prod (absL la2)).toNat).length cv] (0, 0) _ rfl (HS.out.blk 2 rfl) Try.underlying70 rfl (by kernel_rfl)) rfl ?_
      exact ⟨some ⟨gS, 0, none⟩, la2.length, Av, cv, by rw [absL_len]; rfl, rowI_C (HS.out.blk 1 rfl) HLS.out, by rw [absL_len]; exact Nat.le_refl _, HS.out.C 0 rfl, HS.out.cap 0 rfl, HS.out.below⟩
set_option maxHeartbeats 2000000 in
set_option maxRecDepth 100000 in
theorem takeMove_ones_no (a : Bool) (Aa1 : Option Addr) (ca1 : Nat) (la1 : List Int) (Aa2 : Option Addr) (ca2 : Nat) (la2 : List Int) (b : Bool) (Ab1 : Option Addr) (cb1 : Nat) (lb1 : List Int) (Ab2 : Option Addr) (cb2 : Nat) (lb2 : List Int) (w : World) (ha1 : Kd.C (Kd.int .i64) w Aa1 la1.length la1) (ka1 : la1.length ≤ ca1) (ha2 : Kd.C (Kd.int .i64) w Aa2 la2.length la2) (ka2 : la2.length ≤ ca2) (hb1 : Kd.C (Kd.int .i64) w Ab1 lb1.length lb1) (kb1 : lb1.length ≤ cb1) (hb2 : Kd.C (Kd.int .i64) w Ab2 lb2.length lb2) (kb2 : lb2.length ≤ cb2) (hx : ∀ W, Below w.heap.size w W → Calls Try.prog 128 #[.agg #[.bool a, .slice Aa1 la1.length ca1, .slice Aa2 la2.length ca2], .agg #[.bool b, .slice Ab1 lb1.length cb1, .slice Ab2 lb2.length cb2]] W fun e w' => ∃ As cs, e = .returned (.tuple #[.agg #[.bool b, .slice As la2.length cs, .slice Ab2 lb2.length cb2], .int .i64 0]) ∧ Kd.R (Kd.int .i64) 3 w' W.heap.size (fun _ => True) (.slice As la2.length cs) (List.replicate la2.length (1 : Int)) ∧ Below W.heap.size W w') (hr0 : ∀ x ∈ la2, -1000000000000000 ≤ x ∧ x ≤ 1000000000000000) (hls : la2.length ≤ 10000) (ks : Nat) (hso : impl_shapeOk.f ks (absL la2) = some (0, false)) :
    Calls Try.prog 108 #[.agg #[.bool a, .slice Aa1 la1.length ca1, .slice Aa2 la2.length ca2], .agg #[.bool b, .slice Ab1 lb1.length cb1, .slice Ab2 lb2.length cb2]] w fun e w' => ∃ A1 c1 A2 c2, e = .returned (.tuple #[.agg #[.slice A1 ([] : List Int).length c1, .slice A2 ([] : List Int).length c2], .int .i64 7]) ∧ Kd.C (Kd.int .i64) w' A1 ([] : List Int).length [] ∧ ([] : List Int).length ≤ c1 ∧ Kd.C (Kd.int .i64) w' A2 ([] : List Int).length [] ∧ ([] : List Int).length ≤ c2 ∧ Below w.heap.size w w' := by
  have Ha1 := Aside0.mk ha1
  have Ka1 := Aside0.mk ka1
  clear ha1 ka1
  have Ha2 := Aside0.mk ha2
  have Ka2 := Aside0.mk ka2
  clear ha2 ka2
  have Hb1 := Aside0.mk hb1
  have Kb1 := Aside0.mk kb1
  clear hb1 kb1
  have Hb2 := Aside0.mk hb2
  have Kb2 := Aside0.mk kb2
  clear hb2 kb2
  have HX := Aside0.mk hx
  have HR0 := Aside0.mk hr0
  have HSO := Aside0.mk hso
  have hmk := make_rowN la2.length (by omega)
  have HLS := Aside0.mk (show (absL la2).length ≤ 9223372036854775807 by rw [absL_len]; omega)
  clear hx hr0 hso
  have HS := Aside0.mk (Sx.start w)
  go_enter Try.func108, Try.ntmps108
  go_wp2_with (first | ((with_reducible refine gate_dst (N := 2) rfl ?_); refine box_event ?hg (N := 2) ?hd (cs := #[.bool a, .slice Aa1 la1.length ca1, .slice Aa2 la2.length ca2]) (t := 28) ?hr ?_; (case hd => rfl); (case hg => rfl); (case hr => first | (go_simp; done) | (go_simp; rfl)); intro gK hg1 w1 hx1 hb1; have nS : Aside0 (Sx w w1 [(.blk gK #[.bool a, .slice Aa1 la1.length ca1, .slice Aa2 la2.length ca2] 28)]) := Aside0.mk (HS.out.box hg1 hx1 hb1); clear HS; have HS := nS; clear nS hg1 hx1 hb1) | ((with_reducible refine gate_dst (N := 3) rfl ?_); refine box_event ?hg (N := 3) ?hd (cs := #[.bool b, .slice Ab1 lb1.length cb1, .slice Ab2 lb2.length cb2]) (t := 28) ?hr ?_; (case hd => rfl); (case hg => rfl); (case hr => first | (go_simp; done) | (go_simp; rfl)); intro gB hg2 w2 hx2 hb2; have nS : Aside0 (Sx w w2 [(.blk gB #[.bool b, .slice Ab1 lb1.length cb1, .slice Ab2 lb2.length cb2] 28), (.blk gK #[.bool a, .slice Aa1 la1.length ca1, .slice Aa2 la2.length ca2] 28)]) := Aside0.mk (HS.out.box hg2 hx2 hb2); clear HS; have HS := nS; clear nS hg2 hx2 hb2) | ((with_reducible refine gate_dst (N := 4) rfl ?_); refine box_event ?hg (N := 4) ?hd (cs := #[.slice none 0 0, .slice none 0 0]) (t := 70) ?hr ?_; (case hd => rfl); (case hg => rfl); (case hr => first | (go_simp; done) | (go_simp; rfl)); intro gR hg3 w3 hx3 hb3; have nS : Aside0 (Sx w w3 [(.blk gR #[.slice none 0 0, .slice none 0 0] 70), (.blk gB #[.bool b, .slice Ab1 lb1.length cb1, .slice Ab2 lb2.length cb2] 28), (.blk gK #[.bool a, .slice Aa1 la1.length ca1, .slice Aa2 la2.length ca2] 28)]) := Aside0.mk (HS.out.box hg3 hx3 hb3); clear HS; have HS := nS; clear nS hg3 hx3 hb3) | ((with_reducible refine gate_dst (N := 13) rfl ?_); refine wpList_load_row rfl 28 (.tmp 2) rfl gK rfl 28 #[.bool a, .slice Aa1 la1.length ca1, .slice Aa2 la2.length ca2] (0, 0) _ (HS.out.blk 2 rfl) Try.underlying28 rfl (by kernel_rfl) ?_) | ((with_reducible refine gate_dst (N := 14) rfl ?_); refine wpList_load_row rfl 28 (.tmp 3) rfl gB rfl 28 #[.bool b, .slice Ab1 lb1.length cb1, .slice Ab2 lb2.length cb2] (0, 0) _ (HS.out.blk 1 rfl) Try.underlying28 rfl (by kernel_rfl) ?_) | (go_at_call 128; refine (HX.out _ HS.out.below).mono ?_; rintro e w4 ⟨As, cs, rfl, hr4, hb4⟩; have nS : Aside0 (Sx w w4 [(.row (.slice As la2.length cs) (List.replicate la2.length (1 : Int))), (.blk gR #[.slice none 0 0, .slice none 0 0] 70), (.blk gB #[.bool b, .slice Ab1 lb1.length cb1, .slice Ab2 lb2.length cb2] 28), (.blk gK #[.bool a, .slice Aa1 la1.length ca1, .slice Aa2 la2.length ca2] 28)]) := Aside0.mk (HS.out.addRow hb4 hr4); clear HS; have HS := nS; clear nS hb4 hr4) | ((with_reducible refine gate_store rfl ?_); refine store_named rfl 28 (.tmp 3) (.tmp 16) rfl gB #[.bool b, .slice As la2.length cs, .slice Ab2 lb2.length cb2] rfl rfl 28 #[.bool b, .slice Ab1 lb1.length cb1, .slice Ab2 lb2.length cb2] (HS.out.blk 2 rfl) (by kernel_rfl) rfl (by simp [Value.oneCell']) ?_; intro w5 hx5 hb5; have nS : Aside0 (Sx w w5 [(.row (.slice As la2.length cs) (List.replicate la2.length (1 : Int))), (.blk gR #[.slice none 0 0, .slice none 0 0] 70), (.blk gB #[.bool b, .slice As la2.length cs, .slice Ab2 lb2.length cb2] 28), (.blk gK #[.bool a, .slice Aa1 la1.length ca1, .slice Aa2 la2.length ca2] 28)]) := Aside0.mk (HS.out.put 2 rfl hx5 hb5); clear HS; have HS := nS; clear nS hx5 hb5) | ((with_reducible refine gate_dst (N := 23) rfl ?_); refine ev_load rfl 22 (.tmp 22) rfl ⟨gK, 2, none⟩ rfl (.slice Aa2 la2.length ca2) ((blk_cell (HS.out.blk 3 rfl) 2).trans rfl) (by kernel_rfl) ?_) | ((with_reducible refine gate_dst (N := 25) rfl ?_); refine lit_event ?hg (N := 25) ?hd (cs := (rowI (List.replicate la2.length 0))) (t := 3) (n := la2.length) ?hr ?_; (case hd => rfl); (case hg => rfl); (case hr => first | (go_simp; done) | (go_simp; rfl)); intro gS hg6 w6 hx6 hb6; have nS : Aside0 (Sx w w6 [(.blk gS (rowI (List.replicate la2.length 0)) 3), (.row (.slice As la2.length cs) (List.replicate la2.length (1 : Int))), (.blk gR #[.slice none 0 0, .slice none 0 0] 70), (.blk gB #[.bool b, .slice As la2.length cs, .slice Ab2 lb2.length cb2] 28), (.blk gK #[.bool a, .slice Aa1 la1.length ca1, .slice Aa2 la2.length ca2] 28)]) := Aside0.mk (HS.out.box hg6 hx6 hb6); clear HS; have HS := nS; clear nS hg6 hx6 hb6) | ((with_reducible refine gate_dst (N := 27) rfl ?_); refine ev_load rfl 22 (.tmp 26) rfl ⟨gK, 2, none⟩ rfl (.slice Aa2 la2.length ca2) ((blk_cell (HS.out.blk 4 rfl) 2).trans rfl) (by kernel_rfl) ?_))
  go_loopw [8, 9, 29] (fun _ _ z wr => ∃ j : Nat, z = .int .i64 (j : Int) ∧ Aside0 (j ≤ la2.length) ∧ Aside0 (Sx w wr [(.blk gS (rowI (absL (la2.take j) ++ List.replicate (la2.length - j) 0)) 3), (.row (.slice As la2.length cs) (List.replicate la2.length (1 : Int))), (.blk gR #[.slice none 0 0, .slice none 0 0] 70), (.blk gB #[.bool b, .slice As la2.length cs, .slice Ab2 lb2.length cb2] 28), (.blk gK #[.bool a, .slice Aa1 la1.length ca1, .slice Aa2 la2.length ca2] 28)])) (fun _ _ z _ => la2.length - (intOf z).toNat)
  case atStart => exact ⟨0, rfl, ⟨Nat.zero_le _⟩, ⟨by simpa [absL] using HS.out⟩⟩
  case round =>
    clear HS
    obtain ⟨j, rfl, hj, HS⟩ := hrel
    by_cases hlt : j < la2.length
    · obtain ⟨ad, rfl, y1⟩ := Kd.at_int (Kd.C_below Ha2.out HS.out.below) (j : Int) (by omega) (by omega)
      rw [Int.toNat_natCast] at y1
      have HT := Aside0.mk (take_snocI la2 j hlt)
      have hb := HR0.out _ (rd_mem' la2 j hlt)
      obtain ⟨n, hne⟩ : ∃ n, n = rd la2 (j : Int) := ⟨_, rfl⟩
      rw [← hne] at y1 HT hb
      have HABS := Aside0.mk (abs_eq n hb.1 hb.2)
      have p0 : 0 ≤ (j : Int) := by omega
      have p1 : (j : Int) < (la2.length : Int) := by omega
      have HL := Aside0.mk (show j < (absL (la2.take j) ++ List.replicate (la2.length - j) 0).length by simp [absL]; omega)
      clear hne hb
      go_wp2_with (first | (go_at_call 129; refine (impl_absolute.calls n (if n < 0 then -n else n) _ HABS.out).mono ?_; rintro e wr1 ⟨rfl, hbr1⟩; have nS : Aside0 (Sx w wr1 [(.blk gS (rowI (absL (la2.take j) ++ List.replicate (la2.length - j) 0)) 3), (.row (.slice As la2.length cs) (List.replicate la2.length (1 : Int))), (.blk gR #[.slice none 0 0, .slice none 0 0] 70), (.blk gB #[.bool b, .slice As la2.length cs, .slice Ab2 lb2.length cb2] 28), (.blk gK #[.bool a, .slice Aa1 la1.length ca1, .slice (some ad) la2.length ca2] 28)]) := Aside0.mk (HS.out.step hbr1); clear HS; have HS := nS; clear nS hbr1) | ((with_reducible refine gate_store rfl ?_); refine ev_store_row rfl 3 (.tmp 38) (.tmp 37) rfl gS j rfl (if n < 0 then -n else n) rfl (absL (la2.take j) ++ List.replicate (la2.length - j) 0) (HS.out.blk 0 rfl) HL.out (by kernel_rfl) ?_; intro wz hxz hbz; have nS : Aside0 (Sx w wz [(.blk gS (rowI ((absL (la2.take j) ++ List.replicate (la2.length - j) 0).set j (if n < 0 then -n else n))) 3), (.row (.slice As la2.length cs) (List.replicate la2.length (1 : Int))), (.blk gR #[.slice none 0 0, .slice none 0 0] 70), (.blk gB #[.bool b, .slice As la2.length cs, .slice Ab2 lb2.length cb2] 28), (.blk gK #[.bool a, .slice Aa1 la1.length ca1, .slice (some ad) la2.length ca2] 28)]) := Aside0.mk (HS.out.put 0 rfl hxz hbz); clear HS; have HS := nS; clear nS hxz hbz))
      go_roundw
      case rel =>
        refine ⟨j + 1, by push_cast; rfl, ⟨hlt⟩, ⟨?_⟩⟩
        have hq : absL (la2.take (j + 1)) = absL (la2.take j) ++ [if n < 0 then -n else n] := by rw [HT.out]; simp [absL]
        have h := fill_next (absL (la2.take j)) (if n < 0 then -n else n) la2.length j (by simp [absL]; omega) hlt
        rw [hq, ← h]
        exact HS.out
      case measure => simp [intOf]; omega
    · obtain rfl : j = la2.length := by have := hj.out; omega
      have HS' : Aside0 (Sx w wr [(.blk gS (rowI (absL la2)) 3), (.row (.slice As la2.length cs) (List.replicate la2.length (1 : Int))), (.blk gR #[.slice none 0 0, .slice none 0 0] 70), (.blk gB #[.bool b, .slice As la2.length cs, .slice Ab2 lb2.length cb2] 28), (.blk gK #[.bool a, .slice Aa1 la1.length ca1, .slice Aa2 la2.length ca2] 28)]) := Aside0.mk (by have := HS.out; simpa [absL, List.take_length] using this)
      clear HS
      have HS := HS'
      clear HS'
      go_wp2_with (first | (go_at_call 94; refine (shapeOk_n ks gS la2.length (absL la2) (0, false) _ (rowI_C (HS.out.blk 0 rfl) HLS.out) (absL_len la2) HSO.out).mono ?_; rintro e wz1 ⟨rfl, hbz1⟩; have nS : Aside0 (Sx w wz1 [(.blk gS (rowI (absL la2)) 3), (.row (.slice As la2.length cs) (List.replicate la2.length (1 : Int))), (.blk gR #[.slice none 0 0, .slice none 0 0] 70), (.blk gB #[.bool b, .slice As la2.length cs, .slice Ab2 lb2.length cb2] 28), (.blk gK #[.bool a, .slice Aa1 la1.length ca1, .slice Aa2 la2.length ca2] 28)]) := Aside0.mk (HS.out.step hbz1); clear HS; have HS := nS; clear nS hbz1) | ((with_reducible refine gate_store rfl ?_); refine store_named rfl 70 (.tmp 4) (.tmp 47) rfl gR #[.slice none 0 0, .slice none 0 0] rfl rfl 70 #[.slice none 0 0, .slice none 0 0] (HS.out.blk 2 rfl) (by kernel_rfl) rfl (by simp [Value.oneCell']) ?_; intro wz2 hxz2 hbz2; have nS : Aside0 (Sx w wz2 [(.blk gS (rowI (absL la2)) 3), (.row (.slice As la2.length cs) (List.replicate la2.length (1 : Int))), (.blk gR #[.slice none 0 0, .slice none 0 0] 70), (.blk gB #[.bool b, .slice As la2.length cs, .slice Ab2 lb2.length cb2] 28), (.blk gK #[.bool a, .slice Aa1 la1.length ca1, .slice Aa2 la2.length ca2] 28)]) := Aside0.mk (HS.out.put 2 rfl hxz2 hbz2); clear HS; have HS := nS; clear nS hxz2 hbz2))
      refine bodyPost_ret (results_ct rfl _ _ gR 70 #[.slice none 0 0, .slice none 0 0] (0, 0) _ rfl (HS.out.blk 2 rfl) Try.underlying70 rfl (by kernel_rfl)) rfl ?_
      exact ⟨none, 0, none, 0, rfl, Kd.C_nil _ _, Nat.le_refl _, Kd.C_nil _ _, Nat.le_refl _, HS.out.below⟩
set_option maxHeartbeats 2000000 in
set_option maxRecDepth 100000 in
theorem takeMove_ones_ok (a : Bool) (Aa1 : Option Addr) (ca1 : Nat) (la1 : List Int) (Aa2 : Option Addr) (ca2 : Nat) (la2 : List Int) (b : Bool) (Ab1 : Option Addr) (cb1 : Nat) (lb1 : List Int) (Ab2 : Option Addr) (cb2 : Nat) (lb2 : List Int) (w : World) (ha1 : Kd.C (Kd.int .i64) w Aa1 la1.length la1) (ka1 : la1.length ≤ ca1) (ha2 : Kd.C (Kd.int .i64) w Aa2 la2.length la2) (ka2 : la2.length ≤ ca2) (hb1 : Kd.C (Kd.int .i64) w Ab1 lb1.length lb1) (kb1 : lb1.length ≤ cb1) (hb2 : Kd.C (Kd.int .i64) w Ab2 lb2.length lb2) (kb2 : lb2.length ≤ cb2) (hx : ∀ W, Below w.heap.size w W → Calls Try.prog 128 #[.agg #[.bool a, .slice Aa1 la1.length ca1, .slice Aa2 la2.length ca2], .agg #[.bool b, .slice Ab1 lb1.length cb1, .slice Ab2 lb2.length cb2]] W fun e w' => ∃ As cs, e = .returned (.tuple #[.agg #[.bool b, .slice As la2.length cs, .slice Ab2 lb2.length cb2], .int .i64 0]) ∧ Kd.R (Kd.int .i64) 3 w' W.heap.size (fun _ => True) (.slice As la2.length cs) (List.replicate la2.length (1 : Int)) ∧ Below W.heap.size W w') (hr0 : ∀ x ∈ la2, -1000000000000000 ≤ x ∧ x ≤ 1000000000000000) (hls : la2.length ≤ 10000) (ks : Nat) (hso : impl_shapeOk.f ks (absL la2) = some (prod (absL la2), true)) (hsl : (List.replicate la2.length (1 : Int)).length = la2.length) (h5 : la2.length ≤ 5) (hp : 0 ≤ prod (absL la2) ∧ prod (absL la2) ≤ 10000) (hrs : ∀ x ∈ absL la2, 0 ≤ x ∧ x ≤ 10000) (hrb : ∀ x ∈ (List.replicate la2.length (1 : Int)), 0 ≤ x ∧ x ≤ 10000) (hrg : ∀ (t : Nat), t < (prod (absL la2)).toNat → ∀ k : Nat, k < (absL la2).length → 0 ≤ rd (idxL (absL la2) t) (k : Int) ∧ rd (idxL (absL la2) t) (k : Int) < rd (absL la2) (k : Int)) :
    Calls Try.prog 108 #[.agg #[.bool a, .slice Aa1 la1.length ca1, .slice Aa2 la2.length ca2], .agg #[.bool b, .slice Ab1 lb1.length cb1, .slice Ab2 lb2.length cb2]] w fun e w' => ∃ A1 c1 A2 c2, e = .returned (.tuple #[.agg #[.slice A1 ((absL la2) : List Int).length c1, .slice A2 ((fromL (List.replicate la2.length (1 : Int)) (absL la2) (fun k i => i + rd (stTake (List.replicate la2.length (1 : Int)) la2) (k : Int)) (prod (absL la2)).toNat) : List Int).length c2], .int .i64 0]) ∧ Kd.C (Kd.int .i64) w' A1 ((absL la2) : List Int).length (absL la2) ∧ ((absL la2) : List Int).length ≤ c1 ∧ Kd.C (Kd.int .i64) w' A2 ((fromL (List.replicate la2.length (1 : Int)) (absL la2) (fun k i => i + rd (stTake (List.replicate la2.length (1 : Int)) la2) (k : Int)) (prod (absL la2)).toNat) : List Int).length (fromL (List.replicate la2.length (1 : Int)) (absL la2) (fun k i => i + rd (stTake (List.replicate la2.length (1 : Int)) la2) (k : Int)) (prod (absL la2)).toNat) ∧ ((fromL (List.replicate la2.length (1 : Int)) (absL la2) (fun k i => i + rd (stTake (List.replicate la2.length (1 : Int)) la2) (k : Int)) (prod (absL la2)).toNat) : List Int).length ≤ c2 ∧ Below w.heap.size w w' := by
  have Ha1 := Aside0.mk ha1
  have Ka1 := Aside0.mk ka1
  clear ha1 ka1
  have Ha2 := Aside0.mk ha2
  have Ka2 := Aside0.mk ka2
  clear ha2 ka2
  have Hb1 := Aside0.mk hb1
  have Kb1 := Aside0.mk kb1
  clear hb1 kb1
  have Hb2 := Aside0.mk hb2
  have Kb2 := Aside0.mk kb2
  clear hb2 kb2
  have HX := Aside0.mk hx
  have HR0 := Aside0.mk hr0
  have HSO := Aside0.mk hso
  have hmk := make_rowN la2.length (by omega)
  have HLS := Aside0.mk (show (absL la2).length ≤ 9223372036854775807 by rw [absL_len]; omega)
  clear hx hr0 hso
  have HSL := Aside0.mk hsl
  have H5 := Aside0.mk h5
  have HP := Aside0.mk hp
  have HRS := Aside0.mk hrs
  have HRB := Aside0.mk hrb
  have HRG := Aside0.mk hrg
  clear hsl h5 hp hrs hrb hrg
  have HS := Aside0.mk (Sx.start w)
  go_enter Try.func108, Try.ntmps108
  go_wp2_with (first | ((with_reducible refine gate_dst (N := 2) rfl ?_); refine box_event ?hg (N := 2) ?hd (cs := #[.bool a, .slice Aa1 la1.length ca1, .slice Aa2 la2.length ca2]) (t := 28) ?hr ?_; (case hd => rfl); (case hg => rfl); (case hr => first | (go_simp; done) | (go_simp; rfl)); intro gK hg1 w1 hx1 hb1; have nS : Aside0 (Sx w w1 [(.blk gK #[.bool a, .slice Aa1 la1.length ca1, .slice Aa2 la2.length ca2] 28)]) := Aside0.mk (HS.out.box hg1 hx1 hb1); clear HS; have HS := nS; clear nS hg1 hx1 hb1) | ((with_reducible refine gate_dst (N := 3) rfl ?_); refine box_event ?hg (N := 3) ?hd (cs := #[.bool b, .slice Ab1 lb1.length cb1, .slice Ab2 lb2.length cb2]) (t := 28) ?hr ?_; (case hd => rfl); (case hg => rfl); (case hr => first | (go_simp; done) | (go_simp; rfl)); intro gB hg2 w2 hx2 hb2; have nS : Aside0 (Sx w w2 [(.blk gB #[.bool b, .slice Ab1 lb1.length cb1, .slice Ab2 lb2.length cb2] 28), (.blk gK #[.bool a, .slice Aa1 la1.length ca1, .slice Aa2 la2.length ca2] 28)]) := Aside0.mk (HS.out.box hg2 hx2 hb2); clear HS; have HS := nS; clear nS hg2 hx2 hb2) | ((with_reducible refine gate_dst (N := 4) rfl ?_); refine box_event ?hg (N := 4) ?hd (cs := #[.slice none 0 0, .slice none 0 0]) (t := 70) ?hr ?_; (case hd => rfl); (case hg => rfl); (case hr => first | (go_simp; done) | (go_simp; rfl)); intro gR hg3 w3 hx3 hb3; have nS : Aside0 (Sx w w3 [(.blk gR #[.slice none 0 0, .slice none 0 0] 70), (.blk gB #[.bool b, .slice Ab1 lb1.length cb1, .slice Ab2 lb2.length cb2] 28), (.blk gK #[.bool a, .slice Aa1 la1.length ca1, .slice Aa2 la2.length ca2] 28)]) := Aside0.mk (HS.out.box hg3 hx3 hb3); clear HS; have HS := nS; clear nS hg3 hx3 hb3) | ((with_reducible refine gate_dst (N := 13) rfl ?_); refine wpList_load_row rfl 28 (.tmp 2) rfl gK rfl 28 #[.bool a, .slice Aa1 la1.length ca1, .slice Aa2 la2.length ca2] (0, 0) _ (HS.out.blk 2 rfl) Try.underlying28 rfl (by kernel_rfl) ?_) | ((with_reducible refine gate_dst (N := 14) rfl ?_); refine wpList_load_row rfl 28 (.tmp 3) rfl gB rfl 28 #[.bool b, .slice Ab1 lb1.length cb1, .slice Ab2 lb2.length cb2] (0, 0) _ (HS.out.blk 1 rfl) Try.underlying28 rfl (by kernel_rfl) ?_) | (go_at_call 128; refine (HX.out _ HS.out.below).mono ?_; rintro e w4 ⟨As, cs, rfl, hr4, hb4⟩; have nS : Aside0 (Sx w w4 [(.row (.slice As la2.length cs) (List.replicate la2.length (1 : Int))), (.blk gR #[.slice none 0 0, .slice none 0 0] 70), (.blk gB #[.bool b, .slice Ab1 lb1.length cb1, .slice Ab2 lb2.length cb2] 28), (.blk gK #[.bool a, .slice Aa1 la1.length ca1, .slice Aa2 la2.length ca2] 28)]) := Aside0.mk (HS.out.addRow hb4 hr4); clear HS; have HS := nS; clear nS hb4 hr4) | ((with_reducible refine gate_store rfl ?_); refine store_named rfl 28 (.tmp 3) (.tmp 16) rfl gB #[.bool b, .slice As la2.length cs, .slice Ab2 lb2.length cb2] rfl rfl 28 #[.bool b, .slice Ab1 lb1.length cb1, .slice Ab2 lb2.length cb2] (HS.out.blk 2 rfl) (by kernel_rfl) rfl (by simp [Value.oneCell']) ?_; intro w5 hx5 hb5; have nS : Aside0 (Sx w w5 [(.row (.slice As la2.length cs) (List.replicate la2.length (1 : Int))), (.blk gR #[.slice none 0 0, .slice none 0 0] 70), (.blk gB #[.bool b, .slice As la2.length cs, .slice Ab2 lb2.length cb2] 28), (.blk gK #[.bool a, .slice Aa1 la1.length ca1, .slice Aa2 la2.length ca2] 28)]) := Aside0.mk (HS.out.put 2 rfl hx5 hb5); clear HS; have HS := nS; clear nS hx5 hb5) | ((with_reducible refine gate_dst (N := 23) rfl ?_); refine ev_load rfl 22 (.tmp 22) rfl ⟨gK, 2, none⟩ rfl (.slice Aa2 la2.length ca2) ((blk_cell (HS.out.blk 3 rfl) 2).trans rfl) (by kernel_rfl) ?_) | ((with_reducible refine gate_dst (N := 25) rfl ?_); refine lit_event ?hg (N := 25) ?hd (cs := (rowI (List.replicate la2.length 0))) (t := 3) (n := la2.length) ?hr ?_; (case hd => rfl); (case hg => rfl); (case hr => first | (go_simp; done) | (go_simp; rfl)); intro gS hg6 w6 hx6 hb6; have nS : Aside0 (Sx w w6 [(.blk gS (rowI (List.replicate la2.length 0)) 3), (.row (.slice As la2.length cs) (List.replicate la2.length (1 : Int))), (.blk gR #[.slice none 0 0, .slice none 0 0] 70), (.blk gB #[.bool b, .slice As la2.length cs, .slice Ab2 lb2.length cb2] 28), (.blk gK #[.bool a, .slice Aa1 la1.length ca1, .slice Aa2 la2.length ca2] 28)]) := Aside0.mk (HS.out.box hg6 hx6 hb6); clear HS; have HS := nS; clear nS hg6 hx6 hb6) | ((with_reducible refine gate_dst (N := 27) rfl ?_); refine ev_load rfl 22 (.tmp 26) rfl ⟨gK, 2, none⟩ rfl (.slice Aa2 la2.length ca2) ((blk_cell (HS.out.blk 4 rfl) 2).trans rfl) (by kernel_rfl) ?_))
  go_loopw [8, 9, 29] (fun _ _ z wr => ∃ j : Nat, z = .int .i64 (j : Int) ∧ Aside0 (j ≤ la2.length) ∧ Aside0 (Sx w wr [(.blk gS (rowI (absL (la2.take j) ++ List.replicate (la2.length - j) 0)) 3), (.row (.slice As la2.length cs) (List.replicate la2.length (1 : Int))), (.blk gR #[.slice none 0 0, .slice none 0 0] 70), (.blk gB #[.bool b, .slice As la2.length cs, .slice Ab2 lb2.length cb2] 28), (.blk gK #[.bool a, .slice Aa1 la1.length ca1, .slice Aa2 la2.length ca2] 28)])) (fun _ _ z _ => la2.length - (intOf z).toNat)
  case atStart => exact ⟨0, rfl, ⟨Nat.zero_le _⟩, ⟨by simpa [absL] using HS.out⟩⟩
  case round =>
    clear HS
    obtain ⟨j, rfl, hj, HS⟩ := hrel
    by_cases hlt : j < la2.length
    · obtain ⟨ad, rfl, y1⟩ := Kd.at_int (Kd.C_below Ha2.out HS.out.below) (j : Int) (by omega) (by omega)
      rw [Int.toNat_natCast] at y1
      have HT := Aside0.mk (take_snocI la2 j hlt)
      have hb := HR0.out _ (rd_mem' la2 j hlt)
      obtain ⟨n, hne⟩ : ∃ n, n = rd la2 (j : Int) := ⟨_, rfl⟩
      rw [← hne] at y1 HT hb
      have HABS := Aside0.mk (abs_eq n hb.1 hb.2)
      have p0 : 0 ≤ (j : Int) := by omega
      have p1 : (j : Int) < (la2.length : Int) := by omega
      have HL := Aside0.mk (show j < (absL (la2.take j) ++ List.replicate (la2.length - j) 0).length by simp [absL]; omega)
      clear hne hb
      go_wp2_with (first | (go_at_call 129; refine (impl_absolute.calls n (if n < 0 then -n else n) _ HABS.out).mono ?_; rintro e wr1 ⟨rfl, hbr1⟩; have nS : Aside0 (Sx w wr1 [(.blk gS (rowI (absL (la2.take j) ++ List.replicate (la2.length - j) 0)) 3), (.row (.slice As la2.length cs) (List.replicate la2.length (1 : Int))), (.blk gR #[.slice none 0 0, .slice none 0 0] 70), (.blk gB #[.bool b, .slice As la2.length cs, .slice Ab2 lb2.length cb2] 28), (.blk gK #[.bool a, .slice Aa1 la1.length ca1, .slice (some ad) la2.length ca2] 28)]) := Aside0.mk (HS.out.step hbr1); clear HS; have HS := nS; clear nS hbr1) | ((with_reducible refine gate_store rfl ?_); refine ev_store_row rfl 3 (.tmp 38) (.tmp 37) rfl gS j rfl (if n < 0 then -n else n) rfl (absL (la2.take j) ++ List.replicate (la2.length - j) 0) (HS.out.blk 0 rfl) HL.out (by kernel_rfl) ?_; intro wz hxz hbz; have nS : Aside0 (Sx w wz [(.blk gS (rowI ((absL (la2.take j) ++ List.replicate (la2.length - j) 0).set j (if n < 0 then -n else n))) 3), (.row (.slice As la2.length cs) (List.replicate la2.length (1 : Int))), (.blk gR #[.slice none 0 0, .slice none 0 0] 70), (.blk gB #[.bool b, .slice As la2.length cs, .slice Ab2 lb2.length cb2] 28), (.blk gK #[.bool a, .slice Aa1 la1.length ca1, .slice (some ad) la2.length ca2] 28)]) := Aside0.mk (HS.out.put 0 rfl hxz hbz); clear HS; have HS := nS; clear nS hxz hbz))
      go_roundw
      case rel =>
        refine ⟨j + 1, by push_cast; rfl, ⟨hlt⟩, ⟨?_⟩⟩
        have hq : absL (la2.take (j + 1)) = absL (la2.take j) ++ [if n < 0 then -n else n] := by rw [HT.out]; simp [absL]
        have h := fill_next (absL (la2.take j)) (if n < 0 then -n else n) la2.length j (by simp [absL]; omega) hlt
        rw [hq, ← h]
        exact HS.out
      case measure => simp [intOf]; omega
    · obtain rfl : j = la2.length := by have := hj.out; omega
      have HS' : Aside0 (Sx w wr [(.blk gS (rowI (absL la2)) 3), (.row (.slice As la2.length cs) (List.replicate la2.length (1 : Int))), (.blk gR #[.slice none 0 0, .slice none 0 0] 70), (.blk gB #[.bool b, .slice As la2.length cs, .slice Ab2 lb2.length cb2] 28), (.blk gK #[.bool a, .slice Aa1 la1.length ca1, .slice Aa2 la2.length ca2] 28)]) := Aside0.mk (by have := HS.out; simpa [absL, List.take_length] using this)
      clear HS
      have HS := HS'
      clear HS'
      go_wp2_with (first | (go_at_call 94; refine (shapeOk_n ks gS la2.length (absL la2) (prod (absL la2), true) _ (rowI_C (HS.out.blk 0 rfl) HLS.out) (absL_len la2) HSO.out).mono ?_; rintro e wz1 ⟨rfl, hbz1⟩; have nS : Aside0 (Sx w wz1 [(.blk gS (rowI (absL la2)) 3), (.row (.slice As la2.length cs) (List.replicate la2.length (1 : Int))), (.blk gR #[.slice none 0 0, .slice none 0 0] 70), (.blk gB #[.bool b, .slice As la2.length cs, .slice Ab2 lb2.length cb2] 28), (.blk gK #[.bool a, .slice Aa1 la1.length ca1, .slice Aa2 la2.length ca2] 28)]) := Aside0.mk (HS.out.step hbz1); clear HS; have HS := nS; clear nS hbz1) | ((with_reducible refine gate_dst (N := 48) rfl ?_); refine wpList_load_row rfl 28 (.tmp 3) rfl gB rfl 28 #[.bool b, .slice As la2.length cs, .slice Ab2 lb2.length cb2] (0, 0) _ (HS.out.blk 3 rfl) Try.underlying28 rfl (by kernel_rfl) ?_) | (go_at_call 105; refine (callsIn_wide.1 (axis_n b As la2.length cs (List.replicate la2.length (1 : Int)) Ab2 cb2 lb2 gS la2.length (absL la2) 133 #[.pointer (some ⟨gK, 0, none⟩), .pointer (some ⟨gB, 0, none⟩)] (fun k i => i + rd (stTake (List.replicate la2.length (1 : Int)) la2) (k : Int)) (enters_of Try.func133 (by kernel_rfl) rfl) _ (HS.out.C 1 rfl) (HS.out.cap 1 rfl) HSL.out (rowI_C (HS.out.blk 0 rfl) HLS.out) (absL_len la2) HSL.out H5.out HP.out ks HSO.out (take_gives gK gB a Aa1 _ ca1 Aa2 ca2 la2 b As _ cs (List.replicate la2.length (1 : Int)) Ab2 _ cb2 (absL la2) _ (HS.out.blk 4 rfl) (HS.out.blk 3 rfl) HSL.out.symm (Kd.C_below Ha2.out HS.out.below) (HS.out.C 1 rfl) HSL.out (absL_len la2) HRS.out HRB.out HR0.out) HRG.out)).mono ?_; rintro e wz2 ⟨v, rfl, hrz2, hbz2⟩; obtain ⟨Av, cv, rfl⟩ := Kd.R_slice hrz2; have nS : Aside0 (Sx w wz2 [(.row (.slice Av (fromL (List.replicate la2.length (1 : Int)) (absL la2) (fun k i => i + rd (stTake (List.replicate la2.length (1 : Int)) la2) (k : Int)) (prod (absL la2)).toNat).length cv) (fromL (List.replicate la2.length (1 : Int)) (absL la2) (fun k i => i + rd (stTake (List.replicate la2.length (1 : Int)) la2) (k : Int)) (prod (absL la2)).toNat)), (.blk gS (rowI (absL la2)) 3), (.row (.slice As la2.length cs) (List.replicate la2.length (1 : Int))), (.blk gR #[.slice none 0 0, .slice none 0 0] 70), (.blk gB #[.bool b, .slice As la2.length cs, .slice Ab2 lb2.length cb2] 28), (.blk gK #[.bool a, .slice Aa1 la1.length ca1, .slice Aa2 la2.length ca2] 28)]) := Aside0.mk (HS.out.addRow hbz2 hrz2); clear HS; have HS := nS; clear nS hbz2 hrz2) | ((with_reducible refine gate_store rfl ?_); refine store_named rfl 70 (.tmp 4) (.tmp 51) rfl gR #[.slice (some ⟨gS, 0, none⟩) la2.length la2.length, .slice Av (fromL (List.replicate la2.length (1 : Int)) (absL la2) (fun k i => i + rd (stTake (List.replicate la2.length (1 : Int)) la2) (k : Int)) (prod (absL la2)).toNat).length cv] rfl rfl 70 #[.slice none 0 0, .slice none 0 0] (HS.out.blk 3 rfl) (by kernel_rfl) rfl (by simp [Value.oneCell']) ?_; intro wz3 hxz3 hbz3; have nS : Aside0 (Sx w wz3 [(.row (.slice Av (fromL (List.replicate la2.length (1 : Int)) (absL la2) (fun k i => i + rd (stTake (List.replicate la2.length (1 : Int)) la2) (k : Int)) (prod (absL la2)).toNat).length cv) (fromL (List.replicate la2.length (1 : Int)) (absL la2) (fun k i => i + rd (stTake (List.replicate la2.length (1 : Int)) la2) (k : Int)) (prod (absL la2)).toNat)), (.blk gS (rowI (absL la2)) 3), (.row (.slice As la2.length cs) (List.replicate la2.length (1 : Int))), (.blk gR #[.slice (some ⟨gS, 0, none⟩) la2.length la2.length, .slice Av (fromL (List.replicate la2.length (1 : Int)) (absL la2) (fun k i => i + rd (stTake (List.replicate la2.length (1 : Int)) la2) (k : Int)) (prod (absL la2)).toNat).length cv] 70), (.blk gB #[.bool b, .slice As la2.length cs, .slice Ab2 lb2.length cb2] 28), (.blk gK #[.bool a, .slice Aa1 la1.length ca1, .slice Aa2 la2.length ca2] 28)]) := Aside0.mk (HS.out.put 3 rfl hxz3 hbz3); clear HS; have HS := nS; clear nS hxz3 hbz3))
      refine bodyPost_ret (results_ct rfl _ _ gR 70 #[.slice (some ⟨gS, 0, none⟩) la2.length la2.length, .slice Av (fromL (List.replicate la2.length (1 : Int)) (absL la2) (fun k i => i + rd (stTake (List.replicate la2.length (1 : Int)) la2) (k : Int)) (prod (absL la2)).toNat).length cv] (0, 0) _ rfl (HS.out.blk 3 rfl) Try.underlying70 rfl (by kernel_rfl)) rfl ?_
      exact ⟨some ⟨gS, 0, none⟩, la2.length, Av, cv, by rw [absL_len]; rfl, rowI_C (HS.out.blk 1 rfl) HLS.out, by rw [absL_len]; exact Nat.le_refl _, HS.out.C 0 rfl, HS.out.cap 0 rfl, HS.out.below⟩
end Go.Proofs.Ytehfcnndjhjkoaa.PA

namespace Go.Proofs.Ytehfcnndjhjkoaa.PA
open Go.RowKit Go.Proofs.YtehfcnndjhjkoaaW.PrintWords Go.Proofs.YtehfcnndjhjkoaaW.PrintLast Go.Proofs.YtehfcnndjhjkoaaW.PrintMore
set_option linter.unusedVariables false
set_option linter.unusedSimpArgs false
set_option maxHeartbeats 2000000 in
set_option maxRecDepth 100000 in
theorem specTake_no1 (a : Bool) (Aa1 : Option Addr) (ca1 : Nat) (la1 : List Int) (Aa2 : Option Addr) (ca2 : Nat) (la2 : List Int) (b : Bool) (Ab1 : Option Addr) (cb1 : Nat) (lb1 : List Int) (Ab2 : Option Addr) (cb2 : Nat) (lb2 : List Int) (w : World) (ha1 : Kd.C (Kd.int .i64) w Aa1 la1.length la1) (ka1 : la1.length ≤ ca1) (ha2 : Kd.C (Kd.int .i64) w Aa2 la2.length la2) (ka2 : la2.length ≤ ca2) (hb1 : Kd.C (Kd.int .i64) w Ab1 lb1.length lb1) (kb1 : lb1.length ≤ cb1) (hb2 : Kd.C (Kd.int .i64) w Ab2 lb2.length lb2) (kb2 : lb2.length ≤ cb2) (ka : Nat) (hva : spec_ArrayOk.f ka a la1 la2 = some false)  :
    Calls Try.prog 44 #[.agg #[.bool a, .slice Aa1 la1.length ca1, .slice Aa2 la2.length ca2], .agg #[.bool b, .slice Ab1 lb1.length cb1, .slice Ab2 lb2.length cb2]] w fun e w' => ∃ v1_ v2_ : Value, e = .returned (.tuple #[.agg #[.bool false, v1_, v2_], .int .i64 3]) ∧ Kd.R (Kd.int .i64) 3 w' w.heap.size (fun k_ => some k_ ≠ (v2_ : Value).ownBlock) v1_ [] ∧ Kd.R (Kd.int .i64) 3 w' w.heap.size (fun k_ => some k_ ≠ (v1_ : Value).ownBlock) v2_ [] ∧ Below w.heap.size w w' := by
  have Ha1 := Aside0.mk ha1
  have Ka1 := Aside0.mk ka1
  clear ha1 ka1
  have Ha2 := Aside0.mk ha2
  have Ka2 := Aside0.mk ka2
  clear ha2 ka2
  have Hb1 := Aside0.mk hb1
  have Kb1 := Aside0.mk kb1
  clear hb1 kb1
  have Hb2 := Aside0.mk hb2
  have Kb2 := Aside0.mk kb2
  clear hb2 kb2
  have HVa := Aside0.mk hva
  clear hva
  have HS := Aside0.mk (Sx.start w)
  go_enter Try.func44, Try.ntmps44
  go_wp2_with (first | ((with_reducible refine gate_dst (N := 2) rfl ?_); refine box_event ?hg (N := 2) ?hd (cs := #[.bool a, .slice Aa1 la1.length ca1, .slice Aa2 la2.length ca2]) (t := 28) ?hr ?_; (case hd => rfl); (case hg => rfl); (case hr => first | (go_simp; done) | (go_simp; rfl)); intro gK hg1 w1 hx1 hb1; have nS : Aside0 (Sx w w1 [(.blk gK #[.bool a, .slice Aa1 la1.length ca1, .slice Aa2 la2.length ca2] 28)]) := Aside0.mk (HS.out.box hg1 hx1 hb1); clear HS; have HS := nS; clear nS hg1 hx1 hb1) | ((with_reducible refine gate_dst (N := 3) rfl ?_); refine box_event ?hg (N := 3) ?hd (cs := #[.bool b, .slice Ab1 lb1.length cb1, .slice Ab2 lb2.length cb2]) (t := 28) ?hr ?_; (case hd => rfl); (case hg => rfl); (case hr => first | (go_simp; done) | (go_simp; rfl)); intro gB hg2 w2 hx2 hb2; have nS : Aside0 (Sx w w2 [(.blk gB #[.bool b, .slice Ab1 lb1.length cb1, .slice Ab2 lb2.length cb2] 28), (.blk gK #[.bool a, .slice Aa1 la1.length ca1, .slice Aa2 la2.length ca2] 28)]) := Aside0.mk (HS.out.box hg2 hx2 hb2); clear HS; have HS := nS; clear nS hg2 hx2 hb2) | ((with_reducible refine gate_dst (N := 4) rfl ?_); refine box_event ?hg (N := 4) ?hd (cs := #[.bool false, .slice none 0 0, .slice none 0 0]) (t := 28) ?hr ?_; (case hd => rfl); (case hg => rfl); (case hr => first | (go_simp; done) | (go_simp; rfl)); intro gR hg3 w3 hx3 hb3; have nS : Aside0 (Sx w w3 [(.blk gR #[.bool false, .slice none 0 0, .slice none 0 0] 28), (.blk gB #[.bool b, .slice Ab1 lb1.length cb1, .slice Ab2 lb2.length cb2] 28), (.blk gK #[.bool a, .slice Aa1 la1.length ca1, .slice Aa2 la2.length ca2] 28)]) := Aside0.mk (HS.out.box hg3 hx3 hb3); clear HS; have HS := nS; clear nS hg3 hx3 hb3) | ((with_reducible refine gate_dst (N := 11) rfl ?_); refine wpList_load_row rfl 28 (.tmp 2) rfl gK rfl 28 #[.bool a, .slice Aa1 la1.length ca1, .slice Aa2 la2.length ca2] (0, 0) _ (HS.out.blk 2 rfl) Try.underlying28 rfl (by kernel_rfl) ?_) | (go_at_call 47; with_reducible refine (spec_ArrayOk.calls ka a Aa1 ca1 la1 Aa2 ca2 la2 false _ (Kd.C_below Ha1.out HS.out.below) Ka1.out (Kd.C_below Ha2.out HS.out.below) Ka2.out HVa.out).mono ?_; rintro e w4 ⟨rfl, hb4⟩; have nS : Aside0 (Sx w w4 [(.blk gR #[.bool false, .slice none 0 0, .slice none 0 0] 28), (.blk gB #[.bool b, .slice Ab1 lb1.length cb1, .slice Ab2 lb2.length cb2] 28), (.blk gK #[.bool a, .slice Aa1 la1.length ca1, .slice Aa2 la2.length ca2] 28)]) := Aside0.mk (HS.out.step hb4); clear HS; have HS := nS; clear nS hb4) | (go_at_call 53; refine (spec_l4None.calls false [] [] _ rfl).mono ?_; rintro e w5 ⟨v15, v25, rfl, hr15, hr25, hb5⟩; obtain ⟨AS, cS, hv_⟩ := Kd.R_slice hr15; subst hv_; obtain ⟨AD, cD, hv_⟩ := Kd.R_slice hr25; subst hv_; have nS : Aside0 (Sx w w5 [(.row (.slice AS ([] : List Int).length cS) []), (.row (.slice AD ([] : List Int).length cD) []), (.blk gR #[.bool false, .slice none 0 0, .slice none 0 0] 28), (.blk gB #[.bool b, .slice Ab1 lb1.length cb1, .slice Ab2 lb2.length cb2] 28), (.blk gK #[.bool a, .slice Aa1 la1.length ca1, .slice Aa2 la2.length ca2] 28)]) := Aside0.mk (HS.out.addRow2 hb5 hr15 hr25); clear HS; have HS := nS; clear nS hb5 hr15 hr25) | ((with_reducible refine gate_store rfl ?_); refine store_named rfl 28 (.tmp 4) (.tmp 19) rfl gR #[.bool false, .slice AS ([] : List Int).length cS, .slice AD ([] : List Int).length cD] rfl rfl 28 #[.bool false, .slice none 0 0, .slice none 0 0] (HS.out.blk 2 rfl) (by kernel_rfl) rfl (by simp [Value.oneCell']) ?_; intro w6 hx6 hb6; have nS : Aside0 (Sx w w6 [(.row (.slice AS ([] : List Int).length cS) []), (.row (.slice AD ([] : List Int).length cD) []), (.blk gR #[.bool false, .slice AS ([] : List Int).length cS, .slice AD ([] : List Int).length cD] 28), (.blk gB #[.bool b, .slice Ab1 lb1.length cb1, .slice Ab2 lb2.length cb2] 28), (.blk gK #[.bool a, .slice Aa1 la1.length ca1, .slice Aa2 la2.length ca2] 28)]) := Aside0.mk (HS.out.put 2 rfl hx6 hb6); clear HS; have HS := nS; clear nS hx6 hb6))
  refine bodyPost_ret (results_ct rfl _ _ gR 28 #[.bool false, .slice AS ([] : List Int).length cS, .slice AD ([] : List Int).length cD] (0, 0) _ rfl (HS.out.blk 2 rfl) Try.underlying28 rfl (by kernel_rfl)) rfl ?_
  exact ⟨_, _, rfl, (HS.out.two 0 1 (by decide) rfl rfl).1, (HS.out.two 0 1 (by decide) rfl rfl).2, HS.out.below⟩
set_option maxHeartbeats 2000000 in
set_option maxRecDepth 100000 in
theorem specTake_no2 (a : Bool) (Aa1 : Option Addr) (ca1 : Nat) (la1 : List Int) (Aa2 : Option Addr) (ca2 : Nat) (la2 : List Int) (b : Bool) (Ab1 : Option Addr) (cb1 : Nat) (lb1 : List Int) (Ab2 : Option Addr) (cb2 : Nat) (lb2 : List Int) (w : World) (ha1 : Kd.C (Kd.int .i64) w Aa1 la1.length la1) (ka1 : la1.length ≤ ca1) (ha2 : Kd.C (Kd.int .i64) w Aa2 la2.length la2) (ka2 : la2.length ≤ ca2) (hb1 : Kd.C (Kd.int .i64) w Ab1 lb1.length lb1) (kb1 : lb1.length ≤ cb1) (hb2 : Kd.C (Kd.int .i64) w Ab2 lb2.length lb2) (kb2 : lb2.length ≤ cb2) (ka : Nat) (hva : spec_ArrayOk.f ka a la1 la2 = some true) (kb : Nat) (hvb : spec_ArrayOk.f kb b lb1 lb2 = some false)  :
    Calls Try.prog 44 #[.agg #[.bool a, .slice Aa1 la1.length ca1, .slice Aa2 la2.length ca2], .agg #[.bool b, .slice Ab1 lb1.length cb1, .slice Ab2 lb2.length cb2]] w fun e w' => ∃ v1_ v2_ : Value, e = .returned (.tuple #[.agg #[.bool false, v1_, v2_], .int .i64 3]) ∧ Kd.R (Kd.int .i64) 3 w' w.heap.size (fun k_ => some k_ ≠ (v2_ : Value).ownBlock) v1_ [] ∧ Kd.R (Kd.int .i64) 3 w' w.heap.size (fun k_ => some k_ ≠ (v1_ : Value).ownBlock) v2_ [] ∧ Below w.heap.size w w' := by
  have Ha1 := Aside0.mk ha1
  have Ka1 := Aside0.mk ka1
  clear ha1 ka1
  have Ha2 := Aside0.mk ha2
  have Ka2 := Aside0.mk ka2
  clear ha2 ka2
  have Hb1 := Aside0.mk hb1
  have Kb1 := Aside0.mk kb1
  clear hb1 kb1
  have Hb2 := Aside0.mk hb2
  have Kb2 := Aside0.mk kb2
  clear hb2 kb2
  have HVa := Aside0.mk hva
  clear hva
  have HVb := Aside0.mk hvb
  clear hvb
  have HS := Aside0.mk (Sx.start w)
  go_enter Try.func44, Try.ntmps44
  go_wp2_with (first | ((with_reducible refine gate_dst (N := 2) rfl ?_); refine box_event ?hg (N := 2) ?hd (cs := #[.bool a, .slice Aa1 la1.length ca1, .slice Aa2 la2.length ca2]) (t := 28) ?hr ?_; (case hd => rfl); (case hg => rfl); (case hr => first | (go_simp; done) | (go_simp; rfl)); intro gK hg1 w1 hx1 hb1; have nS : Aside0 (Sx w w1 [(.blk gK #[.bool a, .slice Aa1 la1.length ca1, .slice Aa2 la2.length ca2] 28)]) := Aside0.mk (HS.out.box hg1 hx1 hb1); clear HS; have HS := nS; clear nS hg1 hx1 hb1) | ((with_reducible refine gate_dst (N := 3) rfl ?_); refine box_event ?hg (N := 3) ?hd (cs := #[.bool b, .slice Ab1 lb1.length cb1, .slice Ab2 lb2.length cb2]) (t := 28) ?hr ?_; (case hd => rfl); (case hg => rfl); (case hr => first | (go_simp; done) | (go_simp; rfl)); intro gB hg2 w2 hx2 hb2; have nS : Aside0 (Sx w w2 [(.blk gB #[.bool b, .slice Ab1 lb1.length cb1, .slice Ab2 lb2.length cb2] 28), (.blk gK #[.bool a, .slice Aa1 la1.length ca1, .slice Aa2 la2.length ca2] 28)]) := Aside0.mk (HS.out.box hg2 hx2 hb2); clear HS; have HS := nS; clear nS hg2 hx2 hb2) | ((with_reducible refine gate_dst (N := 4) rfl ?_); refine box_event ?hg (N := 4) ?hd (cs := #[.bool false, .slice none 0 0, .slice none 0 0]) (t := 28) ?hr ?_; (case hd => rfl); (case hg => rfl); (case hr => first | (go_simp; done) | (go_simp; rfl)); intro gR hg3 w3 hx3 hb3; have nS : Aside0 (Sx w w3 [(.blk gR #[.bool false, .slice none 0 0, .slice none 0 0] 28), (.blk gB #[.bool b, .slice Ab1 lb1.length cb1, .slice Ab2 lb2.length cb2] 28), (.blk gK #[.bool a, .slice Aa1 la1.length ca1, .slice Aa2 la2.length ca2] 28)]) := Aside0.mk (HS.out.box hg3 hx3 hb3); clear HS; have HS := nS; clear nS hg3 hx3 hb3) | ((with_reducible refine gate_dst (N := 11) rfl ?_); refine wpList_load_row rfl 28 (.tmp 2) rfl gK rfl 28 #[.bool a, .slice Aa1 la1.length ca1, .slice Aa2 la2.length ca2] (0, 0) _ (HS.out.blk 2 rfl) Try.underlying28 rfl (by kernel_rfl) ?_) | (go_at_call 47; with_reducible refine (spec_ArrayOk.calls ka a Aa1 ca1 la1 Aa2 ca2 la2 true _ (Kd.C_below Ha1.out HS.out.below) Ka1.out (Kd.C_below Ha2.out HS.out.below) Ka2.out HVa.out).mono ?_; rintro e w4 ⟨rfl, hb4⟩; have nS : Aside0 (Sx w w4 [(.blk gR #[.bool false, .slice none 0 0, .slice none 0 0] 28), (.blk gB #[.bool b, .slice Ab1 lb1.length cb1, .slice Ab2 lb2.length cb2] 28), (.blk gK #[.bool a, .slice Aa1 la1.length ca1, .slice Aa2 la2.length ca2] 28)]) := Aside0.mk (HS.out.step hb4); clear HS; have HS := nS; clear nS hb4) | ((with_reducible refine wpList_guarded ?hw ?_); (case hw => first | rfl | (go_simp; done))) | ((with_reducible refine gate_dst (N := 15) rfl ?_); refine wpList_load_row rfl 28 (.tmp 3) rfl gB rfl 28 #[.bool b, .slice Ab1 lb1.length cb1, .slice Ab2 lb2.length cb2] (0, 0) _ (HS.out.blk 1 rfl) Try.underlying28 rfl (by kernel_rfl) ?_) | (go_at_call 47; with_reducible refine (spec_ArrayOk.calls kb b Ab1 cb1 lb1 Ab2 cb2 lb2 false _ (Kd.C_below Hb1.out HS.out.below) Kb1.out (Kd.C_below Hb2.out HS.out.below) Kb2.out HVb.out).mono ?_; rintro e w5 ⟨rfl, hb5⟩; have nS : Aside0 (Sx w w5 [(.blk gR #[.bool false, .slice none 0 0, .slice none 0 0] 28), (.blk gB #[.bool b, .slice Ab1 lb1.length cb1, .slice Ab2 lb2.length cb2] 28), (.blk gK #[.bool a, .slice Aa1 la1.length ca1, .slice Aa2 la2.length ca2] 28)]) := Aside0.mk (HS.out.step hb5); clear HS; have HS := nS; clear nS hb5) | (go_at_call 53; refine (spec_l4None.calls false [] [] _ rfl).mono ?_; rintro e w6 ⟨v16, v26, rfl, hr16, hr26, hb6⟩; obtain ⟨AS, cS, hv_⟩ := Kd.R_slice hr16; subst hv_; obtain ⟨AD, cD, hv_⟩ := Kd.R_slice hr26; subst hv_; have nS : Aside0 (Sx w w6 [(.row (.slice AS ([] : List Int).length cS) []), (.row (.slice AD ([] : List Int).length cD) []), (.blk gR #[.bool false, .slice none 0 0, .slice none 0 0] 28), (.blk gB #[.bool b, .slice Ab1 lb1.length cb1, .slice Ab2 lb2.length cb2] 28), (.blk gK #[.bool a, .slice Aa1 la1.length ca1, .slice Aa2 la2.length ca2] 28)]) := Aside0.mk (HS.out.addRow2 hb6 hr16 hr26); clear HS; have HS := nS; clear nS hb6 hr16 hr26) | ((with_reducible refine gate_store rfl ?_); refine store_named rfl 28 (.tmp 4) (.tmp 19) rfl gR #[.bool false, .slice AS ([] : List Int).length cS, .slice AD ([] : List Int).length cD] rfl rfl 28 #[.bool false, .slice none 0 0, .slice none 0 0] (HS.out.blk 2 rfl) (by kernel_rfl) rfl (by simp [Value.oneCell']) ?_; intro w7 hx7 hb7; have nS : Aside0 (Sx w w7 [(.row (.slice AS ([] : List Int).length cS) []), (.row (.slice AD ([] : List Int).length cD) []), (.blk gR #[.bool false, .slice AS ([] : List Int).length cS, .slice AD ([] : List Int).length cD] 28), (.blk gB #[.bool b, .slice Ab1 lb1.length cb1, .slice Ab2 lb2.length cb2] 28), (.blk gK #[.bool a, .slice Aa1 la1.length ca1, .slice Aa2 la2.length ca2] 28)]) := Aside0.mk (HS.out.put 2 rfl hx7 hb7); clear HS; have HS := nS; clear nS hx7 hb7))
  refine bodyPost_ret (results_ct rfl _ _ gR 28 #[.bool false, .slice AS ([] : List Int).length cS, .slice AD ([] : List Int).length cD] (0, 0) _ rfl (HS.out.blk 2 rfl) Try.underlying28 rfl (by kernel_rfl)) rfl ?_
  exact ⟨_, _, rfl, (HS.out.two 0 1 (by decide) rfl rfl).1, (HS.out.two 0 1 (by decide) rfl rfl).2, HS.out.below⟩
set_option maxHeartbeats 2000000 in
set_option maxRecDepth 100000 in
theorem specTake_code (a : Bool) (Aa1 : Option Addr) (ca1 : Nat) (la1 : List Int) (Aa2 : Option Addr) (ca2 : Nat) (la2 : List Int) (b : Bool) (Ab1 : Option Addr) (cb1 : Nat) (lb1 : List Int) (Ab2 : Option Addr) (cb2 : Nat) (lb2 : List Int) (w : World) (ha1 : Kd.C (Kd.int .i64) w Aa1 la1.length la1) (ka1 : la1.length ≤ ca1) (ha2 : Kd.C (Kd.int .i64) w Aa2 la2.length la2) (ka2 : la2.length ≤ ca2) (hb1 : Kd.C (Kd.int .i64) w Ab1 lb1.length lb1) (kb1 : lb1.length ≤ cb1) (hb2 : Kd.C (Kd.int .i64) w Ab2 lb2.length lb2) (kb2 : lb2.length ≤ cb2) (ka : Nat) (hva : spec_ArrayOk.f ka a la1 la2 = some true) (kb : Nat) (hvb : spec_ArrayOk.f kb b lb1 lb2 = some true) (v : Int) (hv0 : v ≠ 0) (hc : ∀ W, Below w.heap.size w W → Calls Try.prog 95 #[.agg #[.bool a, .slice Aa1 la1.length ca1, .slice Aa2 la2.length ca2], .agg #[.bool b, .slice Ab1 lb1.length cb1, .slice Ab2 lb2.length cb2]] W fun e w' => e = .returned (.tuple #[.agg #[.bool b, .slice Ab1 lb1.length cb1, .slice Ab2 lb2.length cb2], .int .i64 v]) ∧ Below W.heap.size W w')  :
    Calls Try.prog 44 #[.agg #[.bool a, .slice Aa1 la1.length ca1, .slice Aa2 la2.length ca2], .agg #[.bool b, .slice Ab1 lb1.length cb1, .slice Ab2 lb2.length cb2]] w fun e w' => ∃ v1_ v2_ : Value, e = .returned (.tuple #[.agg #[.bool false, v1_, v2_], .int .i64 v]) ∧ Kd.R (Kd.int .i64) 3 w' w.heap.size (fun k_ => some k_ ≠ (v2_ : Value).ownBlock) v1_ [] ∧ Kd.R (Kd.int .i64) 3 w' w.heap.size (fun k_ => some k_ ≠ (v1_ : Value).ownBlock) v2_ [] ∧ Below w.heap.size w w' := by
  have Ha1 := Aside0.mk ha1
  have Ka1 := Aside0.mk ka1
  clear ha1 ka1
  have Ha2 := Aside0.mk ha2
  have Ka2 := Aside0.mk ka2
  clear ha2 ka2
  have Hb1 := Aside0.mk hb1
  have Kb1 := Aside0.mk kb1
  clear hb1 kb1
  have Hb2 := Aside0.mk hb2
  have Kb2 := Aside0.mk kb2
  clear hb2 kb2
  have HVa := Aside0.mk hva
  clear hva
  have HVb := Aside0.mk hvb
  clear hvb
  have HCT := Aside0.mk hc
  clear hc
  have c0 : (v == 0) = false := beq_eq_false_iff_ne.mpr hv0
  have c1 : (v != 0) = true := bne_iff_ne.mpr hv0
  clear hv0
  have HS := Aside0.mk (Sx.start w)
  go_enter Try.func44, Try.ntmps44
  go_wp2_with (first | ((with_reducible refine gate_dst (N := 2) rfl ?_); refine box_event ?hg (N := 2) ?hd (cs := #[.bool a, .slice Aa1 la1.length ca1, .slice Aa2 la2.length ca2]) (t := 28) ?hr ?_; (case hd => rfl); (case hg => rfl); (case hr => first | (go_simp; done) | (go_simp; rfl)); intro gK hg1 w1 hx1 hb1; have nS : Aside0 (Sx w w1 [(.blk gK #[.bool a, .slice Aa1 la1.length ca1, .slice Aa2 la2.length ca2] 28)]) := Aside0.mk (HS.out.box hg1 hx1 hb1); clear HS; have HS := nS; clear nS hg1 hx1 hb1) | ((with_reducible refine gate_dst (N := 3) rfl ?_); refine box_event ?hg (N := 3) ?hd (cs := #[.bool b, .slice Ab1 lb1.length cb1, .slice Ab2 lb2.length cb2]) (t := 28) ?hr ?_; (case hd => rfl); (case hg => rfl); (case hr => first | (go_simp; done) | (go_simp; rfl)); intro gB hg2 w2 hx2 hb2; have nS : Aside0 (Sx w w2 [(.blk gB #[.bool b, .slice Ab1 lb1.length cb1, .slice Ab2 lb2.length cb2] 28), (.blk gK #[.bool a, .slice Aa1 la1.length ca1, .slice Aa2 la2.length ca2] 28)]) := Aside0.mk (HS.out.box hg2 hx2 hb2); clear HS; have HS := nS; clear nS hg2 hx2 hb2) | ((with_reducible refine gate_dst (N := 4) rfl ?_); refine box_event ?hg (N := 4) ?hd (cs := #[.bool false, .slice none 0 0, .slice none 0 0]) (t := 28) ?hr ?_; (case hd => rfl); (case hg => rfl); (case hr => first | (go_simp; done) | (go_simp; rfl)); intro gR hg3 w3 hx3 hb3; have nS : Aside0 (Sx w w3 [(.blk gR #[.bool false, .slice none 0 0, .slice none 0 0] 28), (.blk gB #[.bool b, .slice Ab1 lb1.length cb1, .slice Ab2 lb2.length cb2] 28), (.blk gK #[.bool a, .slice Aa1 la1.length ca1, .slice Aa2 la2.length ca2] 28)]) := Aside0.mk (HS.out.box hg3 hx3 hb3); clear HS; have HS := nS; clear nS hg3 hx3 hb3) | ((with_reducible refine gate_dst (N := 11) rfl ?_); refine wpList_load_row rfl 28 (.tmp 2) rfl gK rfl 28 #[.bool a, .slice Aa1 la1.length ca1, .slice Aa2 la2.length ca2] (0, 0) _ (HS.out.blk 2 rfl) Try.underlying28 rfl (by kernel_rfl) ?_) | (go_at_call 47; with_reducible refine (spec_ArrayOk.calls ka a Aa1 ca1 la1 Aa2 ca2 la2 true _ (Kd.C_below Ha1.out HS.out.below) Ka1.out (Kd.C_below Ha2.out HS.out.below) Ka2.out HVa.out).mono ?_; rintro e w4 ⟨rfl, hb4⟩; have nS : Aside0 (Sx w w4 [(.blk gR #[.bool false, .slice none 0 0, .slice none 0 0] 28), (.blk gB #[.bool b, .slice Ab1 lb1.length cb1, .slice Ab2 lb2.length cb2] 28), (.blk gK #[.bool a, .slice Aa1 la1.length ca1, .slice Aa2 la2.length ca2] 28)]) := Aside0.mk (HS.out.step hb4); clear HS; have HS := nS; clear nS hb4) | ((with_reducible refine wpList_guarded ?hw ?_); (case hw => first | rfl | (go_simp; done))) | ((with_reducible refine gate_dst (N := 15) rfl ?_); refine wpList_load_row rfl 28 (.tmp 3) rfl gB rfl 28 #[.bool b, .slice Ab1 lb1.length cb1, .slice Ab2 lb2.length cb2] (0, 0) _ (HS.out.blk 1 rfl) Try.underlying28 rfl (by kernel_rfl) ?_) | (go_at_call 47; with_reducible refine (spec_ArrayOk.calls kb b Ab1 cb1 lb1 Ab2 cb2 lb2 true _ (Kd.C_below Hb1.out HS.out.below) Kb1.out (Kd.C_below Hb2.out HS.out.below) Kb2.out HVb.out).mono ?_; rintro e w5 ⟨rfl, hb5⟩; have nS : Aside0 (Sx w w5 [(.blk gR #[.bool false, .slice none 0 0, .slice none 0 0] 28), (.blk gB #[.bool b, .slice Ab1 lb1.length cb1, .slice Ab2 lb2.length cb2] 28), (.blk gK #[.bool a, .slice Aa1 la1.length ca1, .slice Aa2 la2.length ca2] 28)]) := Aside0.mk (HS.out.step hb5); clear HS; have HS := nS; clear nS hb5) | ((with_reducible refine gate_dst (N := 21) rfl ?_); refine wpList_load_row rfl 28 (.tmp 2) rfl gK rfl 28 #[.bool a, .slice Aa1 la1.length ca1, .slice Aa2 la2.length ca2] (0, 0) _ (HS.out.blk 2 rfl) Try.underlying28 rfl (by kernel_rfl) ?_) | ((with_reducible refine gate_dst (N := 22) rfl ?_); refine wpList_load_row rfl 28 (.tmp 3) rfl gB rfl 28 #[.bool b, .slice Ab1 lb1.length cb1, .slice Ab2 lb2.length cb2] (0, 0) _ (HS.out.blk 1 rfl) Try.underlying28 rfl (by kernel_rfl) ?_) | (go_at_call 95; refine (HCT.out _ HS.out.below).mono ?_; rintro e w6 ⟨rfl, hb6⟩; have nS : Aside0 (Sx w w6 [(.blk gR #[.bool false, .slice none 0 0, .slice none 0 0] 28), (.blk gB #[.bool b, .slice Ab1 lb1.length cb1, .slice Ab2 lb2.length cb2] 28), (.blk gK #[.bool a, .slice Aa1 la1.length ca1, .slice Aa2 la2.length ca2] 28)]) := Aside0.mk (HS.out.step hb6); clear HS; have HS := nS; clear nS hb6) | ((with_reducible refine gate_dst (N := 6) rfl ?_); refine box_event ?hg (N := 6) ?hd (cs := #[.bool false, .slice none 0 0, .slice none 0 0]) (t := 28) ?hr ?_; (case hd => rfl); (case hg => rfl); (case hr => first | (go_simp; done) | (go_simp; rfl)); intro gO hg7 w7 hx7 hb7; have nS : Aside0 (Sx w w7 [(.blk gO #[.bool false, .slice none 0 0, .slice none 0 0] 28), (.blk gR #[.bool false, .slice none 0 0, .slice none 0 0] 28), (.blk gB #[.bool b, .slice Ab1 lb1.length cb1, .slice Ab2 lb2.length cb2] 28), (.blk gK #[.bool a, .slice Aa1 la1.length ca1, .slice Aa2 la2.length ca2] 28)]) := Aside0.mk (HS.out.box hg7 hx7 hb7); clear HS; have HS := nS; clear nS hg7 hx7 hb7) | ((with_reducible refine gate_store rfl ?_); refine store_named rfl 28 (.tmp 6) (.tmp 24) rfl gO #[.bool b, .slice Ab1 lb1.length cb1, .slice Ab2 lb2.length cb2] rfl rfl 28 #[.bool false, .slice none 0 0, .slice none 0 0] (HS.out.blk 0 rfl) (by kernel_rfl) rfl (by simp [Value.oneCell']) ?_; intro w8 hx8 hb8; have nS : Aside0 (Sx w w8 [(.blk gO #[.bool b, .slice Ab1 lb1.length cb1, .slice Ab2 lb2.length cb2] 28), (.blk gR #[.bool false, .slice none 0 0, .slice none 0 0] 28), (.blk gB #[.bool b, .slice Ab1 lb1.length cb1, .slice Ab2 lb2.length cb2] 28), (.blk gK #[.bool a, .slice Aa1 la1.length ca1, .slice Aa2 la2.length ca2] 28)]) := Aside0.mk (HS.out.put 0 rfl hx8 hb8); clear HS; have HS := nS; clear nS hx8 hb8) | (go_at_call 53; refine (spec_l4None.calls false [] [] _ rfl).mono ?_; rintro e w9 ⟨v19, v29, rfl, hr19, hr29, hb9⟩; obtain ⟨AS, cS, hv_⟩ := Kd.R_slice hr19; subst hv_; obtain ⟨AD, cD, hv_⟩ := Kd.R_slice hr29; subst hv_; have nS : Aside0 (Sx w w9 [(.row (.slice AS ([] : List Int).length cS) []), (.row (.slice AD ([] : List Int).length cD) []), (.blk gO #[.bool b, .slice Ab1 lb1.length cb1, .slice Ab2 lb2.length cb2] 28), (.blk gR #[.bool false, .slice none 0 0, .slice none 0 0] 28), (.blk gB #[.bool b, .slice Ab1 lb1.length cb1, .slice Ab2 lb2.length cb2] 28), (.blk gK #[.bool a, .slice Aa1 la1.length ca1, .slice Aa2 la2.length ca2] 28)]) := Aside0.mk (HS.out.addRow2 hb9 hr19 hr29); clear HS; have HS := nS; clear nS hb9 hr19 hr29) | ((with_reducible refine gate_store rfl ?_); refine store_named rfl 28 (.tmp 4) (.tmp 28) rfl gR #[.bool false, .slice AS ([] : List Int).length cS, .slice AD ([] : List Int).length cD] rfl rfl 28 #[.bool false, .slice none 0 0, .slice none 0 0] (HS.out.blk 3 rfl) (by kernel_rfl) rfl (by simp [Value.oneCell']) ?_; intro w10 hx10 hb10; have nS : Aside0 (Sx w w10 [(.row (.slice AS ([] : List Int).length cS) []), (.row (.slice AD ([] : List Int).length cD) []), (.blk gO #[.bool b, .slice Ab1 lb1.length cb1, .slice Ab2 lb2.length cb2] 28), (.blk gR #[.bool false, .slice AS ([] : List Int).length cS, .slice AD ([] : List Int).length cD] 28), (.blk gB #[.bool b, .slice Ab1 lb1.length cb1, .slice Ab2 lb2.length cb2] 28), (.blk gK #[.bool a, .slice Aa1 la1.length ca1, .slice Aa2 la2.length ca2] 28)]) := Aside0.mk (HS.out.put 3 rfl hx10 hb10); clear HS; have HS := nS; clear nS hx10 hb10))
  refine bodyPost_ret (results_ct rfl _ _ gR 28 #[.bool false, .slice AS ([] : List Int).length cS, .slice AD ([] : List Int).length cD] (0, 0) _ rfl (HS.out.blk 3 rfl) Try.underlying28 rfl (by kernel_rfl)) rfl ?_
  exact ⟨_, _, rfl, (HS.out.two 0 1 (by decide) rfl rfl).1, (HS.out.two 0 1 (by decide) rfl rfl).2, HS.out.below⟩
theorem l3ShapeOk_n (k n : Nat) (A : Option Addr) (c : Nat) (l : List Int) (r : Bool) (w : World) (h : Kd.C (Kd.int .i64) w A l.length l) (hc : l.length ≤ c) (hn : l.length = n) (hf : spec_l3ShapeOk.f k l = some r) :
    Calls Try.prog 72 #[.slice A n c] w fun e w' => e = .returned (.bool r) ∧ Drawn0 w w' := by
  subst hn; exact spec_l3ShapeOk.calls k A c l r w h hc hf
theorem l5Window_n (kc n : Nat) (a : Bool) (A1 : Option Addr) (c1 : Nat) (l1 : List Int) (A2 : Option Addr) (c2 : Nat) (l2 : List Int) (At : Option Addr) (ct : Nat) (lt : List Int) (As : Option Addr) (cs : Nat) (ls : List Int) (w : World)
    (h1 : Kd.C (Kd.int .i64) w A1 l1.length l1) (k1 : l1.length ≤ c1) (h2 : Kd.C (Kd.int .i64) w A2 l2.length l2) (k2 : l2.length ≤ c2) (ht : Kd.C (Kd.int .i64) w At lt.length lt) (kt : lt.length ≤ ct) (hs : Kd.C (Kd.int .i64) w As ls.length ls) (ks : ls.length ≤ cs)
    (hl1 : l1.length = n) (hlt : lt.length = n) (hls : ls.length = n) (h5 : n ≤ 5) (hso : shOk ls = true) (hcn : spec_l3Count.f kc ls = some (prod ls)) (hr1 : ∀ x ∈ l1, 0 ≤ x ∧ x ≤ 10000) (hrt : ∀ x ∈ lt, -1000000000000000 ≤ x ∧ x ≤ 1000000000000000) (hp1 : prod l1 = l2.length) (hn2 : l2.length ≤ 10000) :
    Calls Try.prog 97 #[.agg #[.bool a, .slice A1 l1.length c1, .slice A2 l2.length c2], .slice At n ct, .slice As n cs] w fun e w' => ∃ v, e = .returned (.agg #[.bool a, .slice As n cs, v]) ∧ Kd.R (Kd.int .i64) 3 w' w.heap.size (fun _ => True) v (winL a l1 l2 ls lt (prod ls).toNat) ∧ Below w.heap.size w w' := by
  subst hls
  have := l5Window_in kc a A1 c1 l1 A2 c2 l2 At ct lt As cs ls w h1 k1 h2 k2 ht kt hs ks hl1 hlt h5 hso hcn hr1 hrt hp1 hn2
  rw [hlt] at this
  exact this
theorem Sx.atM {w W : World} {Ts : List Th} (h : Sx w W Ts) {g n c : Nat} {xs : List Int} (hm : Th.row (.slice (some ⟨g, 0, none⟩) n c) xs ∈ Ts) (j : Nat) (hj : j < xs.length) : W.cell? ⟨g, j, none⟩ = some (.int .i64 (rd xs (j : Int))) := by
  have hr : Kd.R (Kd.int .i64) 3 W w.heap.size (fun _ => True) (.slice (some ⟨g, 0, none⟩) n c) xs := h.ok _ hm
  obtain ⟨rfl, _, _⟩ := Kd.R_reads' hr
  have := Kd.R_cell (0 : Int) (enc := Value.int .i64) hr (j : Int) (by omega) (by omega)
  rw [Int.toNat_natCast] at this
  exact this.1
theorem absL_rd (k : List Int) (i : Nat) (h : i < k.length) : rd (absL k) (i : Int) = if rd k (i : Int) < 0 then -rd k (i : Int) else rd k (i : Int) := by
  simp [rd, absL, List.getD_eq_getElem?_getD, List.getElem?_map, h]
theorem stTake_len (s k : List Int) : (stTake s k).length = k.length := by simp [stTake]
theorem stTake_range (s k : List Int) (hl : s.length = k.length) (hs : ∀ x ∈ s, 0 ≤ x ∧ x ≤ 10000) (hk : ∀ x ∈ k, -1000000000000000 ≤ x ∧ x ≤ 1000000000000000) : ∀ x ∈ stTake s k, -1000000000000000 ≤ x ∧ x ≤ 1000000000000000 := by
  intro x hx
  simp only [stTake, List.mem_map, List.mem_range] at hx
  obtain ⟨i, hi, rfl⟩ := hx
  have h1 := hs _ (rd_mem' s i (by omega))
  have h2 := hk _ (rd_mem' k i hi)
  split <;> omega
set_option maxHeartbeats 2000000 in
set_option maxRecDepth 100000 in
theorem specTake_ok (a : Bool) (Aa1 : Option Addr) (ca1 : Nat) (la1 : List Int) (Aa2 : Option Addr) (ca2 : Nat) (la2 : List Int) (b : Bool) (Ab1 : Option Addr) (cb1 : Nat) (lb1 : List Int) (Ab2 : Option Addr) (cb2 : Nat) (lb2 : List Int) (w : World) (ha1 : Kd.C (Kd.int .i64) w Aa1 la1.length la1) (ka1 : la1.length ≤ ca1) (ha2 : Kd.C (Kd.int .i64) w Aa2 la2.length la2) (ka2 : la2.length ≤ ca2) (hb1 : Kd.C (Kd.int .i64) w Ab1 lb1.length lb1) (kb1 : lb1.length ≤ cb1) (hb2 : Kd.C (Kd.int .i64) w Ab2 lb2.length lb2) (kb2 : lb2.length ≤ cb2) (ka : Nat) (hva : spec_ArrayOk.f ka a la1 la2 = some true) (kb : Nat) (hvb : spec_ArrayOk.f kb b lb1 lb2 = some true) (s : List Int) (hls : s.length = la2.length) (h5 : la2.length ≤ 5) (hrs : ∀ x ∈ s, 0 ≤ x ∧ x ≤ 10000) (hrk : ∀ x ∈ la2, -1000000000000000 ≤ x ∧ x ≤ 1000000000000000) (hps : prod s = lb2.length) (hn2 : lb2.length ≤ 10000) (r : Bool × List Int × List Int × Int) (hr : r = if shOk (absL la2) = true then (b, absL la2, winL b s lb2 (absL la2) (stTake s la2) (prod (absL la2)).toNat, 0) else (false, [], [], 7)) (hc : ∀ W, Below w.heap.size w W → Calls Try.prog 95 #[.agg #[.bool a, .slice Aa1 la1.length ca1, .slice Aa2 la2.length ca2], .agg #[.bool b, .slice Ab1 lb1.length cb1, .slice Ab2 lb2.length cb2]] W fun e w' => ∃ A1 c1 A2 c2, e = .returned (.tuple #[.agg #[.bool b, .slice A1 s.length c1, .slice A2 lb2.length c2], .int .i64 0]) ∧ Kd.R (Kd.int .i64) 3 w' W.heap.size (fun k => some k ≠ (Value.slice A2 lb2.length c2).ownBlock) (.slice A1 s.length c1) s ∧ Kd.R (Kd.int .i64) 3 w' W.heap.size (fun k => some k ≠ (Value.slice A1 s.length c1).ownBlock) (.slice A2 lb2.length c2) lb2 ∧ Below W.heap.size W w')  :
    Calls Try.prog 44 #[.agg #[.bool a, .slice Aa1 la1.length ca1, .slice Aa2 la2.length ca2], .agg #[.bool b, .slice Ab1 lb1.length cb1, .slice Ab2 lb2.length cb2]] w fun e w' => ∃ v1_ v2_ : Value, e = .returned (.tuple #[.agg #[.bool r.1, v1_, v2_], .int .i64 r.2.2.2]) ∧ Kd.R (Kd.int .i64) 3 w' w.heap.size (fun k_ => some k_ ≠ (v2_ : Value).ownBlock) v1_ r.2.1 ∧ Kd.R (Kd.int .i64) 3 w' w.heap.size (fun k_ => some k_ ≠ (v1_ : Value).ownBlock) v2_ r.2.2.1 ∧ Below w.heap.size w w' := by
  have Ha1 := Aside0.mk ha1
  have Ka1 := Aside0.mk ka1
  clear ha1 ka1
  have Ha2 := Aside0.mk ha2
  have Ka2 := Aside0.mk ka2
  clear ha2 ka2
  have Hb1 := Aside0.mk hb1
  have Kb1 := Aside0.mk kb1
  clear hb1 kb1
  have Hb2 := Aside0.mk hb2
  have Kb2 := Aside0.mk kb2
  clear hb2 kb2
  have HVa := Aside0.mk hva
  clear hva
  have HVb := Aside0.mk hvb
  clear hvb
  have HCT := Aside0.mk hc
  clear hc
  have HLS := Aside0.mk hls
  have H5 := Aside0.mk h5
  have HRS := Aside0.mk hrs
  have HRK := Aside0.mk hrk
  have HPS := Aside0.mk hps
  have HN2 := Aside0.mk hn2
  have HST := Aside0.mk (stTake_range s la2 hls hrs hrk)
  clear hls h5 hrs hrk hps hn2
  have HS := Aside0.mk (Sx.start w)
  go_enter Try.func44, Try.ntmps44
  go_wp2_with (first | ((with_reducible refine gate_dst (N := 2) rfl ?_); refine box_event ?hg (N := 2) ?hd (cs := #[.bool a, .slice Aa1 la1.length ca1, .slice Aa2 la2.length ca2]) (t := 28) ?hr ?_; (case hd => rfl); (case hg => rfl); (case hr => first | (go_simp; done) | (go_simp; rfl)); intro gK hg1 w1 hx1 hb1; have nS : Aside0 (Sx w w1 [(.blk gK #[.bool a, .slice Aa1 la1.length ca1, .slice Aa2 la2.length ca2] 28)]) := Aside0.mk (HS.out.box hg1 hx1 hb1); clear HS; have HS := nS; clear nS hg1 hx1 hb1) | ((with_reducible refine gate_dst (N := 3) rfl ?_); refine box_event ?hg (N := 3) ?hd (cs := #[.bool b, .slice Ab1 lb1.length cb1, .slice Ab2 lb2.length cb2]) (t := 28) ?hr ?_; (case hd => rfl); (case hg => rfl); (case hr => first | (go_simp; done) | (go_simp; rfl)); intro gB hg2 w2 hx2 hb2; have nS : Aside0 (Sx w w2 [(.blk gB #[.bool b, .slice Ab1 lb1.length cb1, .slice Ab2 lb2.length cb2] 28), (.blk gK #[.bool a, .slice Aa1 la1.length ca1, .slice Aa2 la2.length ca2] 28)]) := Aside0.mk (HS.out.box hg2 hx2 hb2); clear HS; have HS := nS; clear nS hg2 hx2 hb2) | ((with_reducible refine gate_dst (N := 4) rfl ?_); refine box_event ?hg (N := 4) ?hd (cs := #[.bool false, .slice none 0 0, .slice none 0 0]) (t := 28) ?hr ?_; (case hd => rfl); (case hg => rfl); (case hr => first | (go_simp; done) | (go_simp; rfl)); intro gR hg3 w3 hx3 hb3; have nS : Aside0 (Sx w w3 [(.blk gR #[.bool false, .slice none 0 0, .slice none 0 0] 28), (.blk gB #[.bool b, .slice Ab1 lb1.length cb1, .slice Ab2 lb2.length cb2] 28), (.blk gK #[.bool a, .slice Aa1 la1.length ca1, .slice Aa2 la2.length ca2] 28)]) := Aside0.mk (HS.out.box hg3 hx3 hb3); clear HS; have HS := nS; clear nS hg3 hx3 hb3) | ((with_reducible refine gate_dst (N := 11) rfl ?_); refine wpList_load_row rfl 28 (.tmp 2) rfl gK rfl 28 #[.bool a, .slice Aa1 la1.length ca1, .slice Aa2 la2.length ca2] (0, 0) _ (HS.out.blk 2 rfl) Try.underlying28 rfl (by kernel_rfl) ?_) | (go_at_call 47; with_reducible refine (spec_ArrayOk.calls ka a Aa1 ca1 la1 Aa2 ca2 la2 true _ (Kd.C_below Ha1.out HS.out.below) Ka1.out (Kd.C_below Ha2.out HS.out.below) Ka2.out HVa.out).mono ?_; rintro e w4 ⟨rfl, hb4⟩; have nS : Aside0 (Sx w w4 [(.blk gR #[.bool false, .slice none 0 0, .slice none 0 0] 28), (.blk gB #[.bool b, .slice Ab1 lb1.length cb1, .slice Ab2 lb2.length cb2] 28), (.blk gK #[.bool a, .slice Aa1 la1.length ca1, .slice Aa2 la2.length ca2] 28)]) := Aside0.mk (HS.out.step hb4); clear HS; have HS := nS; clear nS hb4) | ((with_reducible refine wpList_guarded ?hw ?_); (case hw => first | rfl | (go_simp; done))) | ((with_reducible refine gate_dst (N := 15) rfl ?_); refine wpList_load_row rfl 28 (.tmp 3) rfl gB rfl 28 #[.bool b, .slice Ab1 lb1.length cb1, .slice Ab2 lb2.length cb2] (0, 0) _ (HS.out.blk 1 rfl) Try.underlying28 rfl (by kernel_rfl) ?_) | (go_at_call 47; with_reducible refine (spec_ArrayOk.calls kb b Ab1 cb1 lb1 Ab2 cb2 lb2 true _ (Kd.C_below Hb1.out HS.out.below) Kb1.out (Kd.C_below Hb2.out HS.out.below) Kb2.out HVb.out).mono ?_; rintro e w5 ⟨rfl, hb5⟩; have nS : Aside0 (Sx w w5 [(.blk gR #[.bool false, .slice none 0 0, .slice none 0 0] 28), (.blk gB #[.bool b, .slice Ab1 lb1.length cb1, .slice Ab2 lb2.length cb2] 28), (.blk gK #[.bool a, .slice Aa1 la1.length ca1, .slice Aa2 la2.length ca2] 28)]) := Aside0.mk (HS.out.step hb5); clear HS; have HS := nS; clear nS hb5) | ((with_reducible refine gate_dst (N := 21) rfl ?_); refine wpList_load_row rfl 28 (.tmp 2) rfl gK rfl 28 #[.bool a, .slice Aa1 la1.length ca1, .slice Aa2 la2.length ca2] (0, 0) _ (HS.out.blk 2 rfl) Try.underlying28 rfl (by kernel_rfl) ?_) | ((with_reducible refine gate_dst (N := 22) rfl ?_); refine wpList_load_row rfl 28 (.tmp 3) rfl gB rfl 28 #[.bool b, .slice Ab1 lb1.length cb1, .slice Ab2 lb2.length cb2] (0, 0) _ (HS.out.blk 1 rfl) Try.underlying28 rfl (by kernel_rfl) ?_) | (go_at_call 95; refine (HCT.out _ HS.out.below).mono ?_; rintro e w6 ⟨A1, c1, A2, c2, rfl, hr16, hr26, hb6⟩; have nS : Aside0 (Sx w w6 [(.row (.slice A1 s.length c1) s), (.row (.slice A2 lb2.length c2) lb2), (.blk gR #[.bool false, .slice none 0 0, .slice none 0 0] 28), (.blk gB #[.bool b, .slice Ab1 lb1.length cb1, .slice Ab2 lb2.length cb2] 28), (.blk gK #[.bool a, .slice Aa1 la1.length ca1, .slice Aa2 la2.length ca2] 28)]) := Aside0.mk (HS.out.addRow2 hb6 hr16 hr26); clear HS; have HS := nS; clear nS hb6 hr16 hr26) | ((with_reducible refine gate_dst (N := 6) rfl ?_); refine box_event ?hg (N := 6) ?hd (cs := #[.bool false, .slice none 0 0, .slice none 0 0]) (t := 28) ?hr ?_; (case hd => rfl); (case hg => rfl); (case hr => first | (go_simp; done) | (go_simp; rfl)); intro gO hg7 w7 hx7 hb7; have nS : Aside0 (Sx w w7 [(.blk gO #[.bool false, .slice none 0 0, .slice none 0 0] 28), (.row (.slice A1 s.length c1) s), (.row (.slice A2 lb2.length c2) lb2), (.blk gR #[.bool false, .slice none 0 0, .slice none 0 0] 28), (.blk gB #[.bool b, .slice Ab1 lb1.length cb1, .slice Ab2 lb2.length cb2] 28), (.blk gK #[.bool a, .slice Aa1 la1.length ca1, .slice Aa2 la2.length ca2] 28)]) := Aside0.mk (HS.out.box hg7 hx7 hb7); clear HS; have HS := nS; clear nS hg7 hx7 hb7) | ((with_reducible refine gate_store rfl ?_); refine store_named rfl 28 (.tmp 6) (.tmp 24) rfl gO #[.bool b, .slice A1 s.length c1, .slice A2 lb2.length c2] rfl rfl 28 #[.bool false, .slice none 0 0, .slice none 0 0] (HS.out.blk 0 rfl) (by kernel_rfl) rfl (by simp [Value.oneCell']) ?_; intro w8 hx8 hb8; have nS : Aside0 (Sx w w8 [(.blk gO #[.bool b, .slice A1 s.length c1, .slice A2 lb2.length c2] 28), (.row (.slice A1 s.length c1) s), (.row (.slice A2 lb2.length c2) lb2), (.blk gR #[.bool false, .slice none 0 0, .slice none 0 0] 28), (.blk gB #[.bool b, .slice Ab1 lb1.length cb1, .slice Ab2 lb2.length cb2] 28), (.blk gK #[.bool a, .slice Aa1 la1.length ca1, .slice Aa2 la2.length ca2] 28)]) := Aside0.mk (HS.out.put 0 rfl hx8 hb8); clear HS; have HS := nS; clear nS hx8 hb8) | ((with_reducible refine gate_dst (N := 30) rfl ?_); refine ev_nolit HS.out rfl (N := 30) rfl ?hr ?_; (case hr => first | (go_simp; done) | (go_simp; rfl)); intro ASt w9 hd; have nS : Aside0 (Sx w w9 [(.row (.slice ASt 0 0) []), (.blk gO #[.bool b, .slice A1 s.length c1, .slice A2 lb2.length c2] 28), (.row (.slice A1 s.length c1) s), (.row (.slice A2 lb2.length c2) lb2), (.blk gR #[.bool false, .slice none 0 0, .slice none 0 0] 28), (.blk gB #[.bool b, .slice Ab1 lb1.length cb1, .slice Ab2 lb2.length cb2] 28), (.blk gK #[.bool a, .slice Aa1 la1.length ca1, .slice Aa2 la2.length ca2] 28)]) := Aside0.mk hd; clear HS; have HS := nS; clear nS hd) | ((with_reducible refine gate_dst (N := 31) rfl ?_); refine ev_nolit HS.out rfl (N := 31) rfl ?hr ?_; (case hr => first | (go_simp; done) | (go_simp; rfl)); intro ASh w10 hd; have nS : Aside0 (Sx w w10 [(.row (.slice ASh 0 0) []), (.row (.slice ASt 0 0) []), (.blk gO #[.bool b, .slice A1 s.length c1, .slice A2 lb2.length c2] 28), (.row (.slice A1 s.length c1) s), (.row (.slice A2 lb2.length c2) lb2), (.blk gR #[.bool false, .slice none 0 0, .slice none 0 0] 28), (.blk gB #[.bool b, .slice Ab1 lb1.length cb1, .slice Ab2 lb2.length cb2] 28), (.blk gK #[.bool a, .slice Aa1 la1.length ca1, .slice Aa2 la2.length ca2] 28)]) := Aside0.mk hd; clear HS; have HS := nS; clear nS hd))
  go_loopw [8, 9, 10] (fun p q z wr => ∃ (i : Nat) (B1 : Option Addr) (d1 : Nat) (B2 : Option Addr) (d2 : Nat), p = .slice B1 i d1 ∧ q = .slice B2 i d2 ∧ z = .int .i64 (i : Int) ∧ Aside0 (i ≤ la2.length) ∧ Aside0 (Sx w wr [(.row (.slice B2 i d2) ((absL la2).take i)), (.row (.slice B1 i d1) ((stTake s la2).take i)), (.blk gO #[.bool b, .slice A1 s.length c1, .slice A2 lb2.length c2] 28), (.row (.slice A1 s.length c1) s), (.row (.slice A2 lb2.length c2) lb2), (.blk gR #[.bool false, .slice none 0 0, .slice none 0 0] 28), (.blk gB #[.bool b, .slice Ab1 lb1.length cb1, .slice Ab2 lb2.length cb2] 28), (.blk gK #[.bool a, .slice Aa1 la1.length ca1, .slice Aa2 la2.length ca2] 28)])) (fun _ _ z _ => la2.length - (intOf z).toNat)
  case atStart => exact ⟨0, ASt, 0, ASh, 0, rfl, rfl, rfl, ⟨Nat.zero_le _⟩, HS⟩
  case round =>
    clear HS
    obtain ⟨i, B1, d1, B2, d2, rfl, rfl, rfl, hi, HS⟩ := hrel
    by_cases hlt : i < la2.length
    · have h5_ := H5.out
      obtain ⟨ad, rfl, y1⟩ := Kd.at_int Ha2.out (i : Int) (by omega) (by omega)
      clear y1
      have hx_ := HRK.out _ (rd_mem' la2 i hlt)
      obtain ⟨x_, hX⟩ : ∃ x, rd la2 (i : Int) = x := ⟨_, rfl⟩
      have HX := Aside0.mk hX
      rw [hX] at hx_
      clear hX
      obtain ⟨m_, hm_⟩ : ∃ m, (if x_ < 0 then -x_ else x_) = m := ⟨_, rfl⟩
      have HM := Aside0.mk hm_
      clear hm_
      by_cases hneg : x_ < 0
      · go_upto_region 13 with (first | ((with_reducible refine gate_dst (N := 34) rfl ?_); refine ev_load rfl 22 (.tmp 33) rfl ⟨gK, 2, none⟩ rfl (.slice (some ad) la2.length ca2) ((blk_cell (HS.out.blk 7 rfl) 2).trans rfl) (by kernel_rfl) ?_) | ((with_reducible refine gate_dst (N := 41) rfl ?_); refine ev_load rfl 22 (.tmp 40) rfl ⟨gK, 2, none⟩ rfl (.slice (some ad) la2.length ca2) ((blk_cell (HS.out.blk 7 rfl) 2).trans rfl) (by kernel_rfl) ?_) | ((with_reducible refine gate_dst (N := 44) rfl ?_); refine ev_load rfl 3 (.tmp 43) rfl (ad.add i) rfl (.int .i64 x_) ((C_at (Kd.C_below Ha2.out (show Sx w _ [(.row (.slice B2 i d2) ((absL la2).take i)), (.row (.slice B1 i d1) ((stTake s la2).take i)), (.blk gO #[.bool b, .slice A1 s.length c1, .slice A2 lb2.length c2] 28), (.row (.slice A1 s.length c1) s), (.row (.slice A2 lb2.length c2) lb2), (.blk gR #[.bool false, .slice none 0 0, .slice none 0 0] 28), (.blk gB #[.bool b, .slice Ab1 lb1.length cb1, .slice Ab2 lb2.length cb2] 28), (.blk gK #[.bool a, .slice Aa1 la1.length ca1, .slice (some ad) la2.length ca2] 28)] from (by repeat (first | (with_reducible exact HS.out) | (with_reducible apply Sx.drew) | (with_reducible apply Sx.drewN) | (with_reducible apply Sx.alloc)))).below) i hlt).trans (by rw [HX.out])) (by kernel_rfl) ?_) | (go_at_call 96; refine (spec_l5Abs.calls x_ m_ _ ((l5Abs_eq x_ hx_.1 hx_.2).trans (by rw [HM.out]))).mono ?_; rintro e wu1 ⟨rfl, hdu1⟩; have hbu1 := Drawn0.below hdu1; clear hdu1; have nS : Aside0 (Sx w wu1 [(.row (.slice B2 i d2) ((absL la2).take i)), (.row (.slice B1 i d1) ((stTake s la2).take i)), (.blk gO #[.bool b, .slice A1 s.length c1, .slice A2 lb2.length c2] 28), (.row (.slice A1 s.length c1) s), (.row (.slice A2 lb2.length c2) lb2), (.blk gR #[.bool false, .slice none 0 0, .slice none 0 0] 28), (.blk gB #[.bool b, .slice Ab1 lb1.length cb1, .slice Ab2 lb2.length cb2] 28), (.blk gK #[.bool a, .slice Aa1 la1.length ca1, .slice (some ad) la2.length ca2] 28)]) := Aside0.mk (HS.out.step hbu1); clear HS; have HS := nS; clear nS hbu1) | ((with_reducible refine gate_dst (N := 47) rfl ?_); refine Sx.appendN HS.out 0 rfl i (by rw [List.length_take, absL_len]; omega) rfl (.tmp 39) (.tmp 46) rfl rfl (by kernel_rfl) (m_) rfl rfl (by omega) ?_; intro ESh eSh wu2 n2; have nS : Aside0 (Sx w wu2 [(.row (.slice ESh (i + 1) eSh) ((absL la2).take i ++ [m_])), (.row (.slice B1 i d1) ((stTake s la2).take i)), (.blk gO #[.bool b, .slice A1 s.length c1, .slice A2 lb2.length c2] 28), (.row (.slice A1 s.length c1) s), (.row (.slice A2 lb2.length c2) lb2), (.blk gR #[.bool false, .slice none 0 0, .slice none 0 0] 28), (.blk gB #[.bool b, .slice Ab1 lb1.length cb1, .slice Ab2 lb2.length cb2] 28), (.blk gK #[.bool a, .slice Aa1 la1.length ca1, .slice (some ad) la2.length ca2] 28)]) := Aside0.mk n2; clear HS n2; have HS := nS; clear nS) | ((with_reducible refine gate_dst (N := 49) rfl ?_); refine ev_load rfl 22 (.tmp 48) rfl ⟨gK, 2, none⟩ rfl (.slice (some ad) la2.length ca2) ((blk_cell (HS.out.blk 7 rfl) 2).trans rfl) (by kernel_rfl) ?_) | ((with_reducible refine gate_dst (N := 52) rfl ?_); refine ev_load rfl 3 (.tmp 51) rfl (ad.add i) rfl (.int .i64 x_) ((C_at (Kd.C_below Ha2.out (show Sx w _ [(.row (.slice ESh (i + 1) eSh) ((absL la2).take i ++ [m_])), (.row (.slice B1 i d1) ((stTake s la2).take i)), (.blk gO #[.bool b, .slice A1 s.length c1, .slice A2 lb2.length c2] 28), (.row (.slice A1 s.length c1) s), (.row (.slice A2 lb2.length c2) lb2), (.blk gR #[.bool false, .slice none 0 0, .slice none 0 0] 28), (.blk gB #[.bool b, .slice Ab1 lb1.length cb1, .slice Ab2 lb2.length cb2] 28), (.blk gK #[.bool a, .slice Aa1 la1.length ca1, .slice (some ad) la2.length ca2] 28)] from (by repeat (first | (with_reducible exact HS.out) | (with_reducible apply Sx.drew) | (with_reducible apply Sx.drewN) | (with_reducible apply Sx.alloc)))).below) i hlt).trans (by rw [HX.out])) (by kernel_rfl) ?_))
        obtain ⟨gs, eA, xS, fS⟩ := HS.out.at 3 rfl i (by have := HLS.out; omega)
        subst eA
        have xO : wu2.cell? ⟨gO, 1, none⟩ = some (.slice (some ⟨gs, 0, none⟩) s.length c1) := (blk_cell (HS.out.blk 2 rfl) 1).trans rfl
        have xK : wu2.cell? ⟨gK, 2, none⟩ = some (.slice (some ad) la2.length ca2) := (blk_cell (HS.out.blk 7 rfl) 2).trans rfl
        have y1 : wu2.cell? (ad.add i) = some (.int .i64 x_) := (C_at (Kd.C_below Ha2.out HS.out.below) i hlt).trans (by rw [HX.out])
        have hzr := HRS.out _ (rd_mem' s i (by have := HLS.out; omega))
        obtain ⟨z_, hz_⟩ : ∃ z, rd s (i : Int) = z := ⟨_, rfl⟩
        rw [hz_] at xS hzr
        have HZ := Aside0.mk hz_
        clear hz_ fS
        have hw : IntKind.i64.wrap (z_ + x_) = z_ + x_ := IntWalk.i64_in _ (by omega)
        have p0 : 0 ≤ (i : Int) := by omega
        have p1 : (i : Int) < (s.length : Int) := by have := HLS.out; omega
        have p2 : (i : Int) < (la2.length : Int) := by omega
        go_region_held3 (fun w' => w'.cell? ⟨gO, 1, none⟩ = some (.slice (some ⟨gs, 0, none⟩) s.length c1) ∧ w'.cell? ⟨gK, 2, none⟩ = some (.slice (some ad) la2.length ca2) ∧ w'.cell? (ad.add i) = some (.int .i64 x_) ∧ w'.cell? ⟨gs, i, none⟩ = some (.int .i64 z_)) ((exact ⟨(blk_cell (Sx.blkM (by repeat (first | (with_reducible exact HS.out) | (with_reducible apply Sx.drew) | (with_reducible apply Sx.drewN) | (with_reducible apply Sx.alloc))) (g := gO) (cs := #[.bool b, .slice (some ⟨gs, 0, none⟩) s.length c1, .slice A2 lb2.length c2]) (t := 28) (by simp)) 1).trans rfl, (blk_cell (Sx.blkM (by repeat (first | (with_reducible exact HS.out) | (with_reducible apply Sx.drew) | (with_reducible apply Sx.drewN) | (with_reducible apply Sx.alloc))) (g := gK) (cs := #[.bool a, .slice Aa1 la1.length ca1, .slice (some ad) la2.length ca2]) (t := 28) (by simp)) 2).trans rfl, (C_at (Kd.C_below Ha2.out (Sx.below (show Sx w _ _ from (by repeat (first | (with_reducible exact HS.out) | (with_reducible apply Sx.drew) | (with_reducible apply Sx.drewN) | (with_reducible apply Sx.alloc)))))) i hlt).trans (by rw [HX.out]), (Sx.atM (by repeat (first | (with_reducible exact HS.out) | (with_reducible apply Sx.drew) | (with_reducible apply Sx.drewN) | (with_reducible apply Sx.alloc))) (g := gs) (n := s.length) (c := c1) (xs := s) (by simp) i (by have := HLS.out; omega)).trans (by rw [HZ.out])⟩)) ((refine Sx.append_step HS.out.drew 1 rfl rfl (.tmp 54) (.tmp 66) rfl rfl (by kernel_rfl) (z_ + x_) rfl rfl (by rw [List.length_take]; omega) ?_; intro ESt eSt w5 n5; rw [show (List.take i (stTake s la2)).length = i from by rw [List.length_take, stTake_len]; omega] at n5 ⊢; have nS : Aside0 (Sx w w5 [(.row (.slice ESh (i + 1) eSh) ((absL la2).take i ++ [m_])), (.row (.slice ESt (i + 1) eSt) ((stTake s la2).take i ++ [z_ + x_])), (.blk gO #[.bool b, .slice (some ⟨gs, 0, none⟩) s.length c1, .slice A2 lb2.length c2] 28), (.row (.slice (some ⟨gs, 0, none⟩) s.length c1) s), (.row (.slice A2 lb2.length c2) lb2), (.blk gR #[.bool false, .slice none 0 0, .slice none 0 0] 28), (.blk gB #[.bool b, .slice Ab1 lb1.length cb1, .slice Ab2 lb2.length cb2] 28), (.blk gK #[.bool a, .slice Aa1 la1.length ca1, .slice (some ad) la2.length ca2] 28)]) := Aside0.mk n5; clear HS n5; have HS := nS; clear nS))
        go_wp2
        go_roundw
        case rel =>
          refine ⟨i + 1, ESt, eSt, ESh, eSh, rfl, rfl, by push_cast; rfl, ⟨by omega⟩, ⟨?_⟩⟩
          rw [take_snocI (absL la2) i (by rw [absL_len]; exact hlt), take_snocI (stTake s la2) i (by rw [stTake_len]; exact hlt), show rd (absL la2) (i : Int) = m_ from by rw [absL_rd _ _ hlt, HX.out, HM.out], show rd (stTake s la2) (i : Int) = z_ + x_ from by rw [stTake_rd _ _ _ hlt, HX.out, HZ.out, if_pos hneg]]
          exact HS.out
        case measure => simp [intOf]; omega
      · go_wp2_with (first | ((with_reducible refine gate_dst (N := 34) rfl ?_); refine ev_load rfl 22 (.tmp 33) rfl ⟨gK, 2, none⟩ rfl (.slice (some ad) la2.length ca2) ((blk_cell (HS.out.blk 7 rfl) 2).trans rfl) (by kernel_rfl) ?_) | ((with_reducible refine gate_dst (N := 41) rfl ?_); refine ev_load rfl 22 (.tmp 40) rfl ⟨gK, 2, none⟩ rfl (.slice (some ad) la2.length ca2) ((blk_cell (HS.out.blk 7 rfl) 2).trans rfl) (by kernel_rfl) ?_) | ((with_reducible refine gate_dst (N := 44) rfl ?_); refine ev_load rfl 3 (.tmp 43) rfl (ad.add i) rfl (.int .i64 x_) ((C_at (Kd.C_below Ha2.out (show Sx w _ [(.row (.slice B2 i d2) ((absL la2).take i)), (.row (.slice B1 i d1) ((stTake s la2).take i)), (.blk gO #[.bool b, .slice A1 s.length c1, .slice A2 lb2.length c2] 28), (.row (.slice A1 s.length c1) s), (.row (.slice A2 lb2.length c2) lb2), (.blk gR #[.bool false, .slice none 0 0, .slice none 0 0] 28), (.blk gB #[.bool b, .slice Ab1 lb1.length cb1, .slice Ab2 lb2.length cb2] 28), (.blk gK #[.bool a, .slice Aa1 la1.length ca1, .slice (some ad) la2.length ca2] 28)] from (by repeat (first | (with_reducible exact HS.out) | (with_reducible apply Sx.drew) | (with_reducible apply Sx.drewN) | (with_reducible apply Sx.alloc)))).below) i hlt).trans (by rw [HX.out])) (by kernel_rfl) ?_) | (go_at_call 96; refine (spec_l5Abs.calls x_ m_ _ ((l5Abs_eq x_ hx_.1 hx_.2).trans (by rw [HM.out]))).mono ?_; rintro e wu1 ⟨rfl, hdu1⟩; have hbu1 := Drawn0.below hdu1; clear hdu1; have nS : Aside0 (Sx w wu1 [(.row (.slice B2 i d2) ((absL la2).take i)), (.row (.slice B1 i d1) ((stTake s la2).take i)), (.blk gO #[.bool b, .slice A1 s.length c1, .slice A2 lb2.length c2] 28), (.row (.slice A1 s.length c1) s), (.row (.slice A2 lb2.length c2) lb2), (.blk gR #[.bool false, .slice none 0 0, .slice none 0 0] 28), (.blk gB #[.bool b, .slice Ab1 lb1.length cb1, .slice Ab2 lb2.length cb2] 28), (.blk gK #[.bool a, .slice Aa1 la1.length ca1, .slice (some ad) la2.length ca2] 28)]) := Aside0.mk (HS.out.step hbu1); clear HS; have HS := nS; clear nS hbu1) | ((with_reducible refine gate_dst (N := 47) rfl ?_); refine Sx.appendN HS.out 0 rfl i (by rw [List.length_take, absL_len]; omega) rfl (.tmp 39) (.tmp 46) rfl rfl (by kernel_rfl) (m_) rfl rfl (by omega) ?_; intro ESh eSh wu2 n2; have nS : Aside0 (Sx w wu2 [(.row (.slice ESh (i + 1) eSh) ((absL la2).take i ++ [m_])), (.row (.slice B1 i d1) ((stTake s la2).take i)), (.blk gO #[.bool b, .slice A1 s.length c1, .slice A2 lb2.length c2] 28), (.row (.slice A1 s.length c1) s), (.row (.slice A2 lb2.length c2) lb2), (.blk gR #[.bool false, .slice none 0 0, .slice none 0 0] 28), (.blk gB #[.bool b, .slice Ab1 lb1.length cb1, .slice Ab2 lb2.length cb2] 28), (.blk gK #[.bool a, .slice Aa1 la1.length ca1, .slice (some ad) la2.length ca2] 28)]) := Aside0.mk n2; clear HS n2; have HS := nS; clear nS) | ((with_reducible refine gate_dst (N := 49) rfl ?_); refine ev_load rfl 22 (.tmp 48) rfl ⟨gK, 2, none⟩ rfl (.slice (some ad) la2.length ca2) ((blk_cell (HS.out.blk 7 rfl) 2).trans rfl) (by kernel_rfl) ?_) | ((with_reducible refine gate_dst (N := 52) rfl ?_); refine ev_load rfl 3 (.tmp 51) rfl (ad.add i) rfl (.int .i64 x_) ((C_at (Kd.C_below Ha2.out (show Sx w _ [(.row (.slice ESh (i + 1) eSh) ((absL la2).take i ++ [m_])), (.row (.slice B1 i d1) ((stTake s la2).take i)), (.blk gO #[.bool b, .slice A1 s.length c1, .slice A2 lb2.length c2] 28), (.row (.slice A1 s.length c1) s), (.row (.slice A2 lb2.length c2) lb2), (.blk gR #[.bool false, .slice none 0 0, .slice none 0 0] 28), (.blk gB #[.bool b, .slice Ab1 lb1.length cb1, .slice Ab2 lb2.length cb2] 28), (.blk gK #[.bool a, .slice Aa1 la1.length ca1, .slice (some ad) la2.length ca2] 28)] from (by repeat (first | (with_reducible exact HS.out) | (with_reducible apply Sx.drew) | (with_reducible apply Sx.drewN) | (with_reducible apply Sx.alloc)))).below) i hlt).trans (by rw [HX.out])) (by kernel_rfl) ?_) | ((with_reducible refine gate_dst (N := 70) rfl ?_); refine Sx.appendN HS.out 1 rfl i (by rw [List.length_take, stTake_len]; omega) rfl (.tmp 68) (.tmp 69) rfl rfl (by kernel_rfl) (0) rfl rfl (by omega) ?_; intro ESt eSt wu3 n2; have nS : Aside0 (Sx w wu3 [(.row (.slice ESh (i + 1) eSh) ((absL la2).take i ++ [m_])), (.row (.slice ESt (i + 1) eSt) ((stTake s la2).take i ++ [0])), (.blk gO #[.bool b, .slice A1 s.length c1, .slice A2 lb2.length c2] 28), (.row (.slice A1 s.length c1) s), (.row (.slice A2 lb2.length c2) lb2), (.blk gR #[.bool false, .slice none 0 0, .slice none 0 0] 28), (.blk gB #[.bool b, .slice Ab1 lb1.length cb1, .slice Ab2 lb2.length cb2] 28), (.blk gK #[.bool a, .slice Aa1 la1.length ca1, .slice (some ad) la2.length ca2] 28)]) := Aside0.mk n2; clear HS n2; have HS := nS; clear nS))
        go_roundw
        case rel =>
          refine ⟨i + 1, ESt, eSt, ESh, eSh, rfl, rfl, by push_cast; rfl, ⟨by omega⟩, ⟨?_⟩⟩
          rw [take_snocI (absL la2) i (by rw [absL_len]; exact hlt), take_snocI (stTake s la2) i (by rw [stTake_len]; exact hlt), show rd (absL la2) (i : Int) = m_ from by rw [absL_rd _ _ hlt, HX.out, HM.out], show rd (stTake s la2) (i : Int) = 0 from by rw [stTake_rd _ _ _ hlt, HX.out, if_neg (by omega)]]
          exact HS.out
        case measure => simp [intOf]; omega
    · have hie : i = la2.length := by have := hi.out; omega
      subst hie
      rw [List.take_of_length_le (Nat.le_of_eq (stTake_len s la2))] at HS
      rw [List.take_of_length_le (Nat.le_of_eq (absL_len la2))] at HS
      obtain ⟨kq, hkq⟩ := (l3ShapeOk_ev (absL la2) (by rw [absL_len]; have := H5.out; omega)).rounds
      by_cases hok : shOk (absL la2) = true
      · rw [hok] at hkq
        have HQ := Aside0.mk hkq
        have HOK := Aside0.mk hok
        obtain ⟨kc, hkc⟩ := (l3Count_ev (absL la2) (by rw [absL_len]; have := H5.out; omega)).rounds
        rw [cnt_of hok] at hkc
        have HKC := Aside0.mk hkc
        rw [if_pos hok] at hr
        subst hr
        clear hkq hkc hok
        go_wp2_with (first | ((with_reducible refine gate_dst (N := 34) rfl ?_); refine ev_load rfl 22 (.tmp 33) rfl ⟨gK, 2, none⟩ rfl (.slice Aa2 la2.length ca2) ((blk_cell (HS.out.blk 7 rfl) 2).trans rfl) (by kernel_rfl) ?_) | (go_at_call 72; refine (l3ShapeOk_n kq la2.length B2 d2 (absL la2) true _ (HS.out.C 0 rfl) (HS.out.cap 0 rfl) (absL_len la2) HQ.out).mono ?_; rintro e wz1 ⟨rfl, hdz1⟩; have hbz1 := Drawn0.below hdz1; clear hdz1; have nS : Aside0 (Sx w wz1 [(.row (.slice B2 la2.length d2) (absL la2)), (.row (.slice B1 la2.length d1) (stTake s la2)), (.blk gO #[.bool b, .slice A1 s.length c1, .slice A2 lb2.length c2] 28), (.row (.slice A1 s.length c1) s), (.row (.slice A2 lb2.length c2) lb2), (.blk gR #[.bool false, .slice none 0 0, .slice none 0 0] 28), (.blk gB #[.bool b, .slice Ab1 lb1.length cb1, .slice Ab2 lb2.length cb2] 28), (.blk gK #[.bool a, .slice Aa1 la1.length ca1, .slice Aa2 la2.length ca2] 28)]) := Aside0.mk (HS.out.step hbz1); clear HS; have HS := nS; clear nS hbz1) | ((with_reducible refine gate_dst (N := 75) rfl ?_); refine wpList_load_row rfl 28 (.tmp 6) rfl gO rfl 28 #[.bool b, .slice A1 s.length c1, .slice A2 lb2.length c2] (0, 0) _ (HS.out.blk 2 rfl) Try.underlying28 rfl (by kernel_rfl) ?_) | (go_at_call 97; refine (l5Window_n kc la2.length b A1 c1 s A2 c2 lb2 B1 d1 (stTake s la2) B2 d2 (absL la2) _ (HS.out.C 3 rfl) (HS.out.cap 3 rfl) (HS.out.C 4 rfl) (HS.out.cap 4 rfl) (HS.out.C 1 rfl) (HS.out.cap 1 rfl) (HS.out.C 0 rfl) (HS.out.cap 0 rfl) HLS.out (stTake_len s la2) (absL_len la2) H5.out HOK.out HKC.out HRS.out HST.out HPS.out HN2.out).mono ?_; rintro e wz2 ⟨vv, rfl, hrz2, hbz2⟩; obtain ⟨nv, Av, cv, rfl⟩ : ∃ nv Av cv, vv = .slice Av nv cv := (by obtain ⟨A_, c_, h_⟩ := Kd.R_slice hrz2; exact ⟨_, A_, c_, h_⟩); have nS : Aside0 (Sx w wz2 [(.row (.slice Av nv cv) (winL b s lb2 (absL la2) (stTake s la2) (prod (absL la2)).toNat)), (.row (.slice B2 la2.length d2) (absL la2)), (.row (.slice B1 la2.length d1) (stTake s la2)), (.blk gO #[.bool b, .slice A1 s.length c1, .slice A2 lb2.length c2] 28), (.row (.slice A1 s.length c1) s), (.row (.slice A2 lb2.length c2) lb2), (.blk gR #[.bool false, .slice none 0 0, .slice none 0 0] 28), (.blk gB #[.bool b, .slice Ab1 lb1.length cb1, .slice Ab2 lb2.length cb2] 28), (.blk gK #[.bool a, .slice Aa1 la1.length ca1, .slice Aa2 la2.length ca2] 28)]) := Aside0.mk (HS.out.addRow hbz2 hrz2); clear HS; have HS := nS; clear nS hbz2 hrz2) | ((with_reducible refine gate_store rfl ?_); refine store_named rfl 28 (.tmp 4) (.tmp 78) rfl gR #[.bool b, .slice B2 la2.length d2, .slice Av nv cv] rfl rfl 28 #[.bool false, .slice none 0 0, .slice none 0 0] (HS.out.blk 6 rfl) (by kernel_rfl) rfl (by simp [Value.oneCell']) ?_; intro wz3 hxz3 hbz3; have nS : Aside0 (Sx w wz3 [(.row (.slice Av nv cv) (winL b s lb2 (absL la2) (stTake s la2) (prod (absL la2)).toNat)), (.row (.slice B2 la2.length d2) (absL la2)), (.row (.slice B1 la2.length d1) (stTake s la2)), (.blk gO #[.bool b, .slice A1 s.length c1, .slice A2 lb2.length c2] 28), (.row (.slice A1 s.length c1) s), (.row (.slice A2 lb2.length c2) lb2), (.blk gR #[.bool b, .slice B2 la2.length d2, .slice Av nv cv] 28), (.blk gB #[.bool b, .slice Ab1 lb1.length cb1, .slice Ab2 lb2.length cb2] 28), (.blk gK #[.bool a, .slice Aa1 la1.length ca1, .slice Aa2 la2.length ca2] 28)]) := Aside0.mk (HS.out.put 6 rfl hxz3 hbz3); clear HS; have HS := nS; clear nS hxz3 hbz3))
        refine bodyPost_ret (results_ct rfl _ _ gR 28 #[.bool b, .slice B2 la2.length d2, .slice Av nv cv] (0, 0) _ rfl (HS.out.blk 6 rfl) Try.underlying28 rfl (by kernel_rfl)) rfl ?_
        exact ⟨_, _, rfl, (HS.out.two 1 0 (by decide) rfl rfl).1, (HS.out.two 1 0 (by decide) rfl rfl).2, HS.out.below⟩
      · rw [Bool.not_eq_true] at hok
        rw [hok] at hkq
        have HQ := Aside0.mk hkq
        rw [if_neg (by rw [hok]; decide)] at hr
        subst hr
        clear hkq hok
        go_wp2_with (first | ((with_reducible refine gate_dst (N := 34) rfl ?_); refine ev_load rfl 22 (.tmp 33) rfl ⟨gK, 2, none⟩ rfl (.slice Aa2 la2.length ca2) ((blk_cell (HS.out.blk 7 rfl) 2).trans rfl) (by kernel_rfl) ?_) | (go_at_call 72; refine (l3ShapeOk_n kq la2.length B2 d2 (absL la2) false _ (HS.out.C 0 rfl) (HS.out.cap 0 rfl) (absL_len la2) HQ.out).mono ?_; rintro e wz1 ⟨rfl, hdz1⟩; have hbz1 := Drawn0.below hdz1; clear hdz1; have nS : Aside0 (Sx w wz1 [(.row (.slice B2 la2.length d2) (absL la2)), (.row (.slice B1 la2.length d1) (stTake s la2)), (.blk gO #[.bool b, .slice A1 s.length c1, .slice A2 lb2.length c2] 28), (.row (.slice A1 s.length c1) s), (.row (.slice A2 lb2.length c2) lb2), (.blk gR #[.bool false, .slice none 0 0, .slice none 0 0] 28), (.blk gB #[.bool b, .slice Ab1 lb1.length cb1, .slice Ab2 lb2.length cb2] 28), (.blk gK #[.bool a, .slice Aa1 la1.length ca1, .slice Aa2 la2.length ca2] 28)]) := Aside0.mk (HS.out.step hbz1); clear HS; have HS := nS; clear nS hbz1) | (go_at_call 53; refine (spec_l4None.calls false [] [] _ rfl).mono ?_; rintro e wz2 ⟨v1z2, v2z2, rfl, hr1z2, hr2z2, hbz2⟩; obtain ⟨AS, cS, hv_⟩ := Kd.R_slice hr1z2; subst hv_; obtain ⟨AD, cD, hv_⟩ := Kd.R_slice hr2z2; subst hv_; have nS : Aside0 (Sx w wz2 [(.row (.slice AS ([] : List Int).length cS) []), (.row (.slice AD ([] : List Int).length cD) []), (.row (.slice B2 la2.length d2) (absL la2)), (.row (.slice B1 la2.length d1) (stTake s la2)), (.blk gO #[.bool b, .slice A1 s.length c1, .slice A2 lb2.length c2] 28), (.row (.slice A1 s.length c1) s), (.row (.slice A2 lb2.length c2) lb2), (.blk gR #[.bool false, .slice none 0 0, .slice none 0 0] 28), (.blk gB #[.bool b, .slice Ab1 lb1.length cb1, .slice Ab2 lb2.length cb2] 28), (.blk gK #[.bool a, .slice Aa1 la1.length ca1, .slice Aa2 la2.length ca2] 28)]) := Aside0.mk (HS.out.addRow2 hbz2 hr1z2 hr2z2); clear HS; have HS := nS; clear nS hbz2 hr1z2 hr2z2) | ((with_reducible refine gate_store rfl ?_); refine store_named rfl 28 (.tmp 4) (.tmp 74) rfl gR #[.bool false, .slice AS ([] : List Int).length cS, .slice AD ([] : List Int).length cD] rfl rfl 28 #[.bool false, .slice none 0 0, .slice none 0 0] (HS.out.blk 7 rfl) (by kernel_rfl) rfl (by simp [Value.oneCell']) ?_; intro wz3 hxz3 hbz3; have nS : Aside0 (Sx w wz3 [(.row (.slice AS ([] : List Int).length cS) []), (.row (.slice AD ([] : List Int).length cD) []), (.row (.slice B2 la2.length d2) (absL la2)), (.row (.slice B1 la2.length d1) (stTake s la2)), (.blk gO #[.bool b, .slice A1 s.length c1, .slice A2 lb2.length c2] 28), (.row (.slice A1 s.length c1) s), (.row (.slice A2 lb2.length c2) lb2), (.blk gR #[.bool false, .slice AS ([] : List Int).length cS, .slice AD ([] : List Int).length cD] 28), (.blk gB #[.bool b, .slice Ab1 lb1.length cb1, .slice Ab2 lb2.length cb2] 28), (.blk gK #[.bool a, .slice Aa1 la1.length ca1, .slice Aa2 la2.length ca2] 28)]) := Aside0.mk (HS.out.put 7 rfl hxz3 hbz3); clear HS; have HS := nS; clear nS hxz3 hbz3))
        refine bodyPost_ret (results_ct rfl _ _ gR 28 #[.bool false, .slice AS ([] : List Int).length cS, .slice AD ([] : List Int).length cD] (0, 0) _ rfl (HS.out.blk 7 rfl) Try.underlying28 rfl (by kernel_rfl)) rfl ?_
        exact ⟨_, _, rfl, (HS.out.two 0 1 (by decide) rfl rfl).1, (HS.out.two 0 1 (by decide) rfl rfl).2, HS.out.below⟩
end Go.Proofs.Ytehfcnndjhjkoaa.PA

namespace Go.Proofs.Ytehfcnndjhjkoaa.PA
open Go.RowKit Go.Proofs.YtehfcnndjhjkoaaW.PrintWords Go.Proofs.YtehfcnndjhjkoaaW.PrintLast Go.Proofs.YtehfcnndjhjkoaaW.PrintMore
set_option linter.unusedVariables false
set_option linter.unusedSimpArgs false
set_option maxHeartbeats 2000000 in
set_option maxRecDepth 100000 in
theorem Take_no (k0 : Nat) (v : Int) (a : Bool) (Aa1 : Option Addr) (ca1 : Nat) (la1 : List Int) (Aa2 : Option Addr) (ca2 : Nat) (la2 : List Int) (b : Bool) (Ab1 : Option Addr) (cb1 : Nat) (lb1 : List Int) (Ab2 : Option Addr) (cb2 : Nat) (lb2 : List Int) (w : World) (ha1 : Kd.C (Kd.int .i64) w Aa1 la1.length la1) (ka1 : la1.length ≤ ca1) (ha2 : Kd.C (Kd.int .i64) w Aa2 la2.length la2) (ka2 : la2.length ≤ ca2) (hb1 : Kd.C (Kd.int .i64) w Ab1 lb1.length lb1) (kb1 : lb1.length ≤ cb1) (hb2 : Kd.C (Kd.int .i64) w Ab2 lb2.length lb2) (kb2 : lb2.length ≤ cb2) (hv : impl_valid.f k0 [⟨a, la1, la2⟩, ⟨b, lb1, lb2⟩] = some v) (hv0 : v ≠ 0) :
    Calls Try.prog 45 #[.agg #[.bool a, .slice Aa1 la1.length ca1, .slice Aa2 la2.length ca2], .agg #[.bool b, .slice Ab1 lb1.length cb1, .slice Ab2 lb2.length cb2]] w fun e w' => ∃ v1_ v2_ : Value, e = .returned (.tuple #[.agg #[.bool false, v1_, v2_], .int .i64 v]) ∧ Kd.R (Kd.int .i64) 3 w' w.heap.size (fun k_ => some k_ ≠ (v2_ : Value).ownBlock) v1_ [] ∧ Kd.R (Kd.int .i64) 3 w' w.heap.size (fun k_ => some k_ ≠ (v1_ : Value).ownBlock) v2_ [] ∧ Below w.heap.size w w' := by
  have HA1 := Aside0.mk ha1
  have HA2 := Aside0.mk ha2
  have KA1 := Aside0.mk ka1
  have KA2 := Aside0.mk ka2
  have HB1 := Aside0.mk hb1
  have HB2 := Aside0.mk hb2
  have KB1 := Aside0.mk kb1
  have KB2 := Aside0.mk kb2
  have HV := Aside0.mk hv
  have HB := Aside0.mk (Below.refl w.heap.size w)
  clear ha1 ha2 ka1 ka2 hb1 hb2 kb1 kb2 hv
  have c0 : (v == 0) = false := beq_eq_false_iff_ne.mpr hv0
  have c1 : (v != 0) = true := bne_iff_ne.mpr hv0
  clear hv0
  go_enter Try.func45, Try.ntmps45
  go_wp2_with (first | ((with_reducible refine gate_dst (N := 2) rfl ?_); refine box_event ?hg (N := 2) ?hd (cs := #[.bool a, .slice Aa1 la1.length ca1, .slice Aa2 la2.length ca2]) (t := 28) ?hr ?_; (case hd => rfl); (case hg => rfl); (case hr => first | (go_simp; done) | (go_simp; rfl)); intro g1 hg1 w1 hb1 hB1; have GEHB_g1 := Aside0.mk (show w.heap.size ≤ g1 from hg1 ▸ HB.out.size); have BK1 := Aside0.mk hb1; clear hg1 hb1; have nHB := Aside0.mk (below_step HB.out hB1); clear HB; have HB := nHB; clear nHB; clear hB1) | ((with_reducible refine gate_dst (N := 3) rfl ?_); refine box_event ?hg (N := 3) ?hd (cs := #[.bool b, .slice Ab1 lb1.length cb1, .slice Ab2 lb2.length cb2]) (t := 28) ?hr ?_; (case hd => rfl); (case hg => rfl); (case hr => first | (go_simp; done) | (go_simp; rfl)); intro g2 hg2 w2 hb2 hB2; have GEHB_g2 := Aside0.mk (show w.heap.size ≤ g2 from hg2 ▸ HB.out.size); have NEg1_g2 := Aside0.mk (show g1 ≠ g2 from Nat.ne_of_lt (hg2 ▸ blk_lt BK1.out)); have BK2 := Aside0.mk hb2; clear hg2 hb2; have nBK1 := Aside0.mk (blk_below (g := g1) (o := .cells #[.bool a, .slice Aa1 la1.length ca1, .slice Aa2 la2.length ca2] 28 (0, 0)) BK1.out hB2); have nHB := Aside0.mk (below_step HB.out hB2); clear BK1 HB; have BK1 := nBK1; have HB := nHB; clear nBK1 nHB; clear hB2) | ((with_reducible refine gate_dst (N := 4) rfl ?_); refine box_event ?hg (N := 4) ?hd (cs := #[.bool false, .slice none 0 0, .slice none 0 0]) (t := 28) ?hr ?_; (case hd => rfl); (case hg => rfl); (case hr => first | (go_simp; done) | (go_simp; rfl)); intro g3 hg3 w3 hb3 hB3; have GEHB_g3 := Aside0.mk (show w.heap.size ≤ g3 from hg3 ▸ HB.out.size); have NEg1_g3 := Aside0.mk (show g1 ≠ g3 from Nat.ne_of_lt (hg3 ▸ blk_lt BK1.out)); have NEg2_g3 := Aside0.mk (show g2 ≠ g3 from Nat.ne_of_lt (hg3 ▸ blk_lt BK2.out)); have BK3 := Aside0.mk hb3; clear hg3 hb3; have nBK1 := Aside0.mk (blk_below (g := g1) (o := .cells #[.bool a, .slice Aa1 la1.length ca1, .slice Aa2 la2.length ca2] 28 (0, 0)) BK1.out hB3); have nBK2 := Aside0.mk (blk_below (g := g2) (o := .cells #[.bool b, .slice Ab1 lb1.length cb1, .slice Ab2 lb2.length cb2] 28 (0, 0)) BK2.out hB3); have nHB := Aside0.mk (below_step HB.out hB3); clear BK1 BK2 HB; have BK1 := nBK1; have BK2 := nBK2; have HB := nHB; clear nBK1 nBK2 nHB; clear hB3) | ((with_reducible refine gate_dst (N := 9) rfl ?_); refine wpList_load_row rfl 28 (.tmp 2) rfl g1 rfl 28 #[.bool a, .slice Aa1 la1.length ca1, .slice Aa2 la2.length ca2] (0, 0) _ BK1.out Try.underlying28 rfl (by kernel_rfl) ?_) | ((with_reducible refine gate_dst (N := 10) rfl ?_); refine wpList_load_row rfl 28 (.tmp 3) rfl g2 rfl 28 #[.bool b, .slice Ab1 lb1.length cb1, .slice Ab2 lb2.length cb2] (0, 0) _ BK2.out Try.underlying28 rfl (by kernel_rfl) ?_) | ((with_reducible refine gate_dst (N := 11) rfl ?_); refine lit_event ?hg (N := 11) ?hd (cs := #[.bool a, .slice Aa1 la1.length ca1, .slice Aa2 la2.length ca2, .bool b, .slice Ab1 lb1.length cb1, .slice Ab2 lb2.length cb2]) (t := 28) (n := 2) ?hr ?_; (case hd => rfl); (case hg => rfl); (case hr => first | (go_simp; done) | (go_simp; rfl)); intro g4 hg4 w4 hb4 hB4; have GEHB_g4 := Aside0.mk (show w.heap.size ≤ g4 from hg4 ▸ HB.out.size); have NEg1_g4 := Aside0.mk (show g1 ≠ g4 from Nat.ne_of_lt (hg4 ▸ blk_lt BK1.out)); have NEg2_g4 := Aside0.mk (show g2 ≠ g4 from Nat.ne_of_lt (hg4 ▸ blk_lt BK2.out)); have NEg3_g4 := Aside0.mk (show g3 ≠ g4 from Nat.ne_of_lt (hg4 ▸ blk_lt BK3.out)); have BK4 := Aside0.mk hb4; clear hg4 hb4; have nBK1 := Aside0.mk (blk_below (g := g1) (o := .cells #[.bool a, .slice Aa1 la1.length ca1, .slice Aa2 la2.length ca2] 28 (0, 0)) BK1.out hB4); have nBK2 := Aside0.mk (blk_below (g := g2) (o := .cells #[.bool b, .slice Ab1 lb1.length cb1, .slice Ab2 lb2.length cb2] 28 (0, 0)) BK2.out hB4); have nBK3 := Aside0.mk (blk_below (g := g3) (o := .cells #[.bool false, .slice none 0 0, .slice none 0 0] 28 (0, 0)) BK3.out hB4); have nHB := Aside0.mk (below_step HB.out hB4); clear BK1 BK2 BK3 HB; have BK1 := nBK1; have BK2 := nBK2; have BK3 := nBK3; have HB := nHB; clear nBK1 nBK2 nBK3 nHB; clear hB4) | (go_at_call 58; refine (impl_valid.calls k0 _ 2 [⟨a, la1, la2⟩, ⟨b, lb1, lb2⟩] v _ (pair_C BK4.out (Kd.C_below HA1.out HB.out) KA1.out (Kd.C_below HA2.out HB.out) KA2.out (Kd.C_below HB1.out HB.out) KB1.out (Kd.C_below HB2.out HB.out) KB2.out) (Nat.le_refl _) HV.out).mono ?_; rintro e w5 ⟨rfl, hB5⟩; have nBK1 := Aside0.mk (blk_below (g := g1) (o := .cells #[.bool a, .slice Aa1 la1.length ca1, .slice Aa2 la2.length ca2] 28 (0, 0)) BK1.out hB5); have nBK2 := Aside0.mk (blk_below (g := g2) (o := .cells #[.bool b, .slice Ab1 lb1.length cb1, .slice Ab2 lb2.length cb2] 28 (0, 0)) BK2.out hB5); have nBK3 := Aside0.mk (blk_below (g := g3) (o := .cells #[.bool false, .slice none 0 0, .slice none 0 0] 28 (0, 0)) BK3.out hB5); have nBK4 := Aside0.mk (blk_below (g := g4) (o := .cells #[.bool a, .slice Aa1 la1.length ca1, .slice Aa2 la2.length ca2, .bool b, .slice Ab1 lb1.length cb1, .slice Ab2 lb2.length cb2] 28 (0, 0)) BK4.out hB5); have nHB := Aside0.mk (below_step HB.out hB5); clear BK1 BK2 BK3 BK4 HB; have BK1 := nBK1; have BK2 := nBK2; have BK3 := nBK3; have BK4 := nBK4; have HB := nHB; clear nBK1 nBK2 nBK3 nBK4 nHB; clear hB5) | ((with_reducible refine gate_store rfl ?_); refine store_named rfl 28 (.tmp 4) (.tmp 15) rfl g3 #[.bool false, .slice none 0 0, .slice none 0 0] rfl rfl 28 #[.bool false, .slice none 0 0, .slice none 0 0] BK3.out (by kernel_rfl) rfl (by simp [Value.oneCell']) ?_; intro w6 hs6 hb6; have nBK1 := Aside0.mk (hb6.blk BK1.out NEg1_g3.out); have nBK2 := Aside0.mk (hb6.blk BK2.out NEg2_g3.out); have nBK4 := Aside0.mk (hb6.blk BK4.out (fun e => NEg3_g4.out e.symm)); have nHB := Aside0.mk (HB.out.trans (hb6.below _ GEHB_g3.out)); clear BK1 BK2 BK4 HB; clear BK3 hb6; have BK3 := Aside0.mk hs6; clear hs6; have BK1 := nBK1; have BK2 := nBK2; have BK4 := nBK4; have HB := nHB; clear nBK1 nBK2 nBK4 nHB))
  refine bodyPost_ret (results_ct rfl _ _ g3 28 #[.bool false, .slice none 0 0, .slice none 0 0] (0, 0) _ rfl BK3.out Try.underlying28 rfl (by kernel_rfl)) rfl ?_
  exact ⟨_, _, rfl, Kd.R_nil _ _ _ _ _, Kd.R_nil _ _ _ _ _, HB.out⟩
set_option maxHeartbeats 2000000 in
set_option maxRecDepth 100000 in
theorem Take_yes (k0 k1 : Nat) (a : Bool) (Aa1 : Option Addr) (ca1 : Nat) (la1 : List Int) (Aa2 : Option Addr) (ca2 : Nat) (la2 : List Int) (b : Bool) (Ab1 : Option Addr) (cb1 : Nat) (lb1 : List Int) (Ab2 : Option Addr) (cb2 : Nat) (lb2 : List Int) (w : World) (ha1 : Kd.C (Kd.int .i64) w Aa1 la1.length la1) (ka1 : la1.length ≤ ca1) (ha2 : Kd.C (Kd.int .i64) w Aa2 la2.length la2) (ka2 : la2.length ≤ ca2) (hb1 : Kd.C (Kd.int .i64) w Ab1 lb1.length lb1) (kb1 : lb1.length ≤ cb1) (hb2 : Kd.C (Kd.int .i64) w Ab2 lb2.length lb2) (kb2 : lb2.length ≤ cb2) (hv : impl_valid.f k0 [⟨a, la1, la2⟩, ⟨b, lb1, lb2⟩] = some 0) (sh fr : List Int) (cd : Int) (r1 : Bool) (r2 r3 : List Int) (r4 : Int)
    (hm : ∀ W, Below w.heap.size w W → Calls Try.prog 108 #[.agg #[.bool a, .slice Aa1 la1.length ca1, .slice Aa2 la2.length ca2], .agg #[.bool b, .slice Ab1 lb1.length cb1, .slice Ab2 lb2.length cb2]] W fun e w' => ∃ A1 c1 A2 c2, e = .returned (.tuple #[.agg #[.slice A1 sh.length c1, .slice A2 fr.length c2], .int .i64 cd]) ∧ Kd.C (Kd.int .i64) w' A1 sh.length sh ∧ sh.length ≤ c1 ∧ Kd.C (Kd.int .i64) w' A2 fr.length fr ∧ fr.length ≤ c2 ∧ Below W.heap.size W w')
    (hk : impl_made.f k1 b lb1 lb2 sh fr cd = some (r1, r2, r3, r4)) :
    Calls Try.prog 45 #[.agg #[.bool a, .slice Aa1 la1.length ca1, .slice Aa2 la2.length ca2], .agg #[.bool b, .slice Ab1 lb1.length cb1, .slice Ab2 lb2.length cb2]] w fun e w' => ∃ v1_ v2_ : Value, e = .returned (.tuple #[.agg #[.bool r1, v1_, v2_], .int .i64 r4]) ∧ Kd.R (Kd.int .i64) 3 w' w.heap.size (fun k_ => some k_ ≠ (v2_ : Value).ownBlock) v1_ r2 ∧ Kd.R (Kd.int .i64) 3 w' w.heap.size (fun k_ => some k_ ≠ (v1_ : Value).ownBlock) v2_ r3 ∧ Below w.heap.size w w' := by
  have HA1 := Aside0.mk ha1
  have HA2 := Aside0.mk ha2
  have KA1 := Aside0.mk ka1
  have KA2 := Aside0.mk ka2
  have HB1 := Aside0.mk hb1
  have HB2 := Aside0.mk hb2
  have KB1 := Aside0.mk kb1
  have KB2 := Aside0.mk kb2
  have HV := Aside0.mk hv
  have HB := Aside0.mk (Below.refl w.heap.size w)
  clear ha1 ha2 ka1 ka2 hb1 hb2 kb1 kb2 hv
  have HM := Aside0.mk hm
  have HK := Aside0.mk hk
  clear hm hk
  go_enter Try.func45, Try.ntmps45
  go_wp2_with (first | ((with_reducible refine gate_dst (N := 2) rfl ?_); refine box_event ?hg (N := 2) ?hd (cs := #[.bool a, .slice Aa1 la1.length ca1, .slice Aa2 la2.length ca2]) (t := 28) ?hr ?_; (case hd => rfl); (case hg => rfl); (case hr => first | (go_simp; done) | (go_simp; rfl)); intro g1 hg1 w1 hb1 hB1; have GEHB_g1 := Aside0.mk (show w.heap.size ≤ g1 from hg1 ▸ HB.out.size); have BK1 := Aside0.mk hb1; clear hg1 hb1; have nHB := Aside0.mk (below_step HB.out hB1); clear HB; have HB := nHB; clear nHB; clear hB1) | ((with_reducible refine gate_dst (N := 3) rfl ?_); refine box_event ?hg (N := 3) ?hd (cs := #[.bool b, .slice Ab1 lb1.length cb1, .slice Ab2 lb2.length cb2]) (t := 28) ?hr ?_; (case hd => rfl); (case hg => rfl); (case hr => first | (go_simp; done) | (go_simp; rfl)); intro g2 hg2 w2 hb2 hB2; have GEHB_g2 := Aside0.mk (show w.heap.size ≤ g2 from hg2 ▸ HB.out.size); have NEg1_g2 := Aside0.mk (show g1 ≠ g2 from Nat.ne_of_lt (hg2 ▸ blk_lt BK1.out)); have BK2 := Aside0.mk hb2; clear hg2 hb2; have nBK1 := Aside0.mk (blk_below (g := g1) (o := .cells #[.bool a, .slice Aa1 la1.length ca1, .slice Aa2 la2.length ca2] 28 (0, 0)) BK1.out hB2); have nHB := Aside0.mk (below_step HB.out hB2); clear BK1 HB; have BK1 := nBK1; have HB := nHB; clear nBK1 nHB; clear hB2) | ((with_reducible refine gate_dst (N := 4) rfl ?_); refine box_event ?hg (N := 4) ?hd (cs := #[.bool false, .slice none 0 0, .slice none 0 0]) (t := 28) ?hr ?_; (case hd => rfl); (case hg => rfl); (case hr => first | (go_simp; done) | (go_simp; rfl)); intro g3 hg3 w3 hb3 hB3; have GEHB_g3 := Aside0.mk (show w.heap.size ≤ g3 from hg3 ▸ HB.out.size); have NEg1_g3 := Aside0.mk (show g1 ≠ g3 from Nat.ne_of_lt (hg3 ▸ blk_lt BK1.out)); have NEg2_g3 := Aside0.mk (show g2 ≠ g3 from Nat.ne_of_lt (hg3 ▸ blk_lt BK2.out)); have BK3 := Aside0.mk hb3; clear hg3 hb3; have nBK1 := Aside0.mk (blk_below (g := g1) (o := .cells #[.bool a, .slice Aa1 la1.length ca1, .slice Aa2 la2.length ca2] 28 (0, 0)) BK1.out hB3); have nBK2 := Aside0.mk (blk_below (g := g2) (o := .cells #[.bool b, .slice Ab1 lb1.length cb1, .slice Ab2 lb2.length cb2] 28 (0, 0)) BK2.out hB3); have nHB := Aside0.mk (below_step HB.out hB3); clear BK1 BK2 HB; have BK1 := nBK1; have BK2 := nBK2; have HB := nHB; clear nBK1 nBK2 nHB; clear hB3) | ((with_reducible refine gate_dst (N := 9) rfl ?_); refine wpList_load_row rfl 28 (.tmp 2) rfl g1 rfl 28 #[.bool a, .slice Aa1 la1.length ca1, .slice Aa2 la2.length ca2] (0, 0) _ BK1.out Try.underlying28 rfl (by kernel_rfl) ?_) | ((with_reducible refine gate_dst (N := 10) rfl ?_); refine wpList_load_row rfl 28 (.tmp 3) rfl g2 rfl 28 #[.bool b, .slice Ab1 lb1.length cb1, .slice Ab2 lb2.length cb2] (0, 0) _ BK2.out Try.underlying28 rfl (by kernel_rfl) ?_) | ((with_reducible refine gate_dst (N := 11) rfl ?_); refine lit_event ?hg (N := 11) ?hd (cs := #[.bool a, .slice Aa1 la1.length ca1, .slice Aa2 la2.length ca2, .bool b, .slice Ab1 lb1.length cb1, .slice Ab2 lb2.length cb2]) (t := 28) (n := 2) ?hr ?_; (case hd => rfl); (case hg => rfl); (case hr => first | (go_simp; done) | (go_simp; rfl)); intro g4 hg4 w4 hb4 hB4; have GEHB_g4 := Aside0.mk (show w.heap.size ≤ g4 from hg4 ▸ HB.out.size); have NEg1_g4 := Aside0.mk (show g1 ≠ g4 from Nat.ne_of_lt (hg4 ▸ blk_lt BK1.out)); have NEg2_g4 := Aside0.mk (show g2 ≠ g4 from Nat.ne_of_lt (hg4 ▸ blk_lt BK2.out)); have NEg3_g4 := Aside0.mk (show g3 ≠ g4 from Nat.ne_of_lt (hg4 ▸ blk_lt BK3.out)); have BK4 := Aside0.mk hb4; clear hg4 hb4; have nBK1 := Aside0.mk (blk_below (g := g1) (o := .cells #[.bool a, .slice Aa1 la1.length ca1, .slice Aa2 la2.length ca2] 28 (0, 0)) BK1.out hB4); have nBK2 := Aside0.mk (blk_below (g := g2) (o := .cells #[.bool b, .slice Ab1 lb1.length cb1, .slice Ab2 lb2.length cb2] 28 (0, 0)) BK2.out hB4); have nBK3 := Aside0.mk (blk_below (g := g3) (o := .cells #[.bool false, .slice none 0 0, .slice none 0 0] 28 (0, 0)) BK3.out hB4); have nHB := Aside0.mk (below_step HB.out hB4); clear BK1 BK2 BK3 HB; have BK1 := nBK1; have BK2 := nBK2; have BK3 := nBK3; have HB := nHB; clear nBK1 nBK2 nBK3 nHB; clear hB4) | (go_at_call 58; refine (impl_valid.calls k0 _ 2 [⟨a, la1, la2⟩, ⟨b, lb1, lb2⟩] 0 _ (pair_C BK4.out (Kd.C_below HA1.out HB.out) KA1.out (Kd.C_below HA2.out HB.out) KA2.out (Kd.C_below HB1.out HB.out) KB1.out (Kd.C_below HB2.out HB.out) KB2.out) (Nat.le_refl _) HV.out).mono ?_; rintro e w5 ⟨rfl, hB5⟩; have nBK1 := Aside0.mk (blk_below (g := g1) (o := .cells #[.bool a, .slice Aa1 la1.length ca1, .slice Aa2 la2.length ca2] 28 (0, 0)) BK1.out hB5); have nBK2 := Aside0.mk (blk_below (g := g2) (o := .cells #[.bool b, .slice Ab1 lb1.length cb1, .slice Ab2 lb2.length cb2] 28 (0, 0)) BK2.out hB5); have nBK3 := Aside0.mk (blk_below (g := g3) (o := .cells #[.bool false, .slice none 0 0, .slice none 0 0] 28 (0, 0)) BK3.out hB5); have nBK4 := Aside0.mk (blk_below (g := g4) (o := .cells #[.bool a, .slice Aa1 la1.length ca1, .slice Aa2 la2.length ca2, .bool b, .slice Ab1 lb1.length cb1, .slice Ab2 lb2.length cb2] 28 (0, 0)) BK4.out hB5); have nHB := Aside0.mk (below_step HB.out hB5); clear BK1 BK2 BK3 BK4 HB; have BK1 := nBK1; have BK2 := nBK2; have BK3 := nBK3; have BK4 := nBK4; have HB := nHB; clear nBK1 nBK2 nBK3 nBK4 nHB; clear hB5) | ((with_reducible refine gate_dst (N := 18) rfl ?_); refine wpList_load_row rfl 28 (.tmp 2) rfl g1 rfl 28 #[.bool a, .slice Aa1 la1.length ca1, .slice Aa2 la2.length ca2] (0, 0) _ BK1.out Try.underlying28 rfl (by kernel_rfl) ?_) | ((with_reducible refine gate_dst (N := 19) rfl ?_); refine wpList_load_row rfl 28 (.tmp 3) rfl g2 rfl 28 #[.bool b, .slice Ab1 lb1.length cb1, .slice Ab2 lb2.length cb2] (0, 0) _ BK2.out Try.underlying28 rfl (by kernel_rfl) ?_) | (go_at_call 108; refine (HM.out _ HB.out).mono ?_; rintro e w6 ⟨Am1, cm1, Am2, cm2, rfl, hm1, km1, hm2, km2, hB6⟩; have HM1 := Aside0.mk hm1; have KM1 := Aside0.mk km1; have HM2 := Aside0.mk hm2; have KM2 := Aside0.mk km2; clear hm1 km1 hm2 km2; have nBK1 := Aside0.mk (blk_below (g := g1) (o := .cells #[.bool a, .slice Aa1 la1.length ca1, .slice Aa2 la2.length ca2] 28 (0, 0)) BK1.out hB6); have nBK2 := Aside0.mk (blk_below (g := g2) (o := .cells #[.bool b, .slice Ab1 lb1.length cb1, .slice Ab2 lb2.length cb2] 28 (0, 0)) BK2.out hB6); have nBK3 := Aside0.mk (blk_below (g := g3) (o := .cells #[.bool false, .slice none 0 0, .slice none 0 0] 28 (0, 0)) BK3.out hB6); have nBK4 := Aside0.mk (blk_below (g := g4) (o := .cells #[.bool a, .slice Aa1 la1.length ca1, .slice Aa2 la2.length ca2, .bool b, .slice Ab1 lb1.length cb1, .slice Ab2 lb2.length cb2] 28 (0, 0)) BK4.out hB6); have nHB := Aside0.mk (below_step HB.out hB6); clear BK1 BK2 BK3 BK4 HB; have BK1 := nBK1; have BK2 := nBK2; have BK3 := nBK3; have BK4 := nBK4; have HB := nHB; clear nBK1 nBK2 nBK3 nBK4 nHB; clear hB6; have HBm := Aside0.mk (Below.refl w6.heap.size w6)) | ((with_reducible refine gate_dst (N := 7) rfl ?_); refine box_event ?hg (N := 7) ?hd (cs := #[.slice none 0 0, .slice none 0 0]) (t := 70) ?hr ?_; (case hd => rfl); (case hg => rfl); (case hr => first | (go_simp; done) | (go_simp; rfl)); intro g7 hg7 w7 hb7 hB7; have GEHB_g7 := Aside0.mk (show w.heap.size ≤ g7 from hg7 ▸ HB.out.size); have GEHBm_g7 := Aside0.mk (show w6.heap.size ≤ g7 from hg7 ▸ HBm.out.size); have NEg1_g7 := Aside0.mk (show g1 ≠ g7 from Nat.ne_of_lt (hg7 ▸ blk_lt BK1.out)); have NEg2_g7 := Aside0.mk (show g2 ≠ g7 from Nat.ne_of_lt (hg7 ▸ blk_lt BK2.out)); have NEg3_g7 := Aside0.mk (show g3 ≠ g7 from Nat.ne_of_lt (hg7 ▸ blk_lt BK3.out)); have NEg4_g7 := Aside0.mk (show g4 ≠ g7 from Nat.ne_of_lt (hg7 ▸ blk_lt BK4.out)); have BK7 := Aside0.mk hb7; clear hg7 hb7; have nBK1 := Aside0.mk (blk_below (g := g1) (o := .cells #[.bool a, .slice Aa1 la1.length ca1, .slice Aa2 la2.length ca2] 28 (0, 0)) BK1.out hB7); have nBK2 := Aside0.mk (blk_below (g := g2) (o := .cells #[.bool b, .slice Ab1 lb1.length cb1, .slice Ab2 lb2.length cb2] 28 (0, 0)) BK2.out hB7); have nBK3 := Aside0.mk (blk_below (g := g3) (o := .cells #[.bool false, .slice none 0 0, .slice none 0 0] 28 (0, 0)) BK3.out hB7); have nBK4 := Aside0.mk (blk_below (g := g4) (o := .cells #[.bool a, .slice Aa1 la1.length ca1, .slice Aa2 la2.length ca2, .bool b, .slice Ab1 lb1.length cb1, .slice Ab2 lb2.length cb2] 28 (0, 0)) BK4.out hB7); have nHB := Aside0.mk (below_step HB.out hB7); have nHBm := Aside0.mk (below_step HBm.out hB7); clear BK1 BK2 BK3 BK4 HB HBm; have BK1 := nBK1; have BK2 := nBK2; have BK3 := nBK3; have BK4 := nBK4; have HB := nHB; have HBm := nHBm; clear nBK1 nBK2 nBK3 nBK4 nHB nHBm; clear hB7) | ((with_reducible refine gate_store rfl ?_); refine store_named rfl 70 (.tmp 7) (.tmp 21) rfl g7 #[.slice Am1 sh.length cm1, .slice Am2 fr.length cm2] rfl rfl 70 #[.slice none 0 0, .slice none 0 0] BK7.out (by kernel_rfl) rfl (by simp [Value.oneCell']) ?_; intro w8 hs8 hb8; have nBK1 := Aside0.mk (hb8.blk BK1.out NEg1_g7.out); have nBK2 := Aside0.mk (hb8.blk BK2.out NEg2_g7.out); have nBK3 := Aside0.mk (hb8.blk BK3.out NEg3_g7.out); have nBK4 := Aside0.mk (hb8.blk BK4.out NEg4_g7.out); have nHB := Aside0.mk (HB.out.trans (hb8.below _ GEHB_g7.out)); have nHBm := Aside0.mk (HBm.out.trans (hb8.below _ GEHBm_g7.out)); clear BK1 BK2 BK3 BK4 HB HBm; clear BK7 hb8; have BK7 := Aside0.mk hs8; clear hs8; have BK1 := nBK1; have BK2 := nBK2; have BK3 := nBK3; have BK4 := nBK4; have HB := nHB; have HBm := nHBm; clear nBK1 nBK2 nBK3 nBK4 nHB nHBm) | ((with_reducible refine gate_dst (N := 23) rfl ?_); refine wpList_load_row rfl 28 (.tmp 3) rfl g2 rfl 28 #[.bool b, .slice Ab1 lb1.length cb1, .slice Ab2 lb2.length cb2] (0, 0) _ BK2.out Try.underlying28 rfl (by kernel_rfl) ?_) | ((with_reducible refine gate_dst (N := 24) rfl ?_); refine wpList_load_row rfl 70 (.tmp 7) rfl g7 rfl 70 #[.slice Am1 sh.length cm1, .slice Am2 fr.length cm2] (0, 0) _ BK7.out Try.underlying70 rfl (by kernel_rfl) ?_) | (go_at_call 70; refine (impl_made.calls k1 b Ab1 cb1 lb1 Ab2 cb2 lb2 Am1 cm1 sh Am2 cm2 fr cd r1 r2 r3 r4 _ (Kd.C_below HB1.out HB.out) KB1.out (Kd.C_below HB2.out HB.out) KB2.out (Kd.C_below HM1.out HBm.out) KM1.out (Kd.C_below HM2.out HBm.out) KM2.out HK.out).mono ?_; rintro e w9 ⟨v1, v2, rfl, ho1, ho2, hB9⟩; obtain ⟨Ax, cx, rfl⟩ := Kd.R_slice ho1; obtain ⟨Ay, cy, rfl⟩ := Kd.R_slice ho2; have HO1 := Aside0.mk (Kd.R_lower ho1 (below_size HB.out)); have HO2 := Aside0.mk (Kd.R_lower ho2 (below_size HB.out)); clear ho1 ho2; have nBK1 := Aside0.mk (blk_below (g := g1) (o := .cells #[.bool a, .slice Aa1 la1.length ca1, .slice Aa2 la2.length ca2] 28 (0, 0)) BK1.out hB9); have nBK2 := Aside0.mk (blk_below (g := g2) (o := .cells #[.bool b, .slice Ab1 lb1.length cb1, .slice Ab2 lb2.length cb2] 28 (0, 0)) BK2.out hB9); have nBK3 := Aside0.mk (blk_below (g := g3) (o := .cells #[.bool false, .slice none 0 0, .slice none 0 0] 28 (0, 0)) BK3.out hB9); have nBK4 := Aside0.mk (blk_below (g := g4) (o := .cells #[.bool a, .slice Aa1 la1.length ca1, .slice Aa2 la2.length ca2, .bool b, .slice Ab1 lb1.length cb1, .slice Ab2 lb2.length cb2] 28 (0, 0)) BK4.out hB9); have nBK7 := Aside0.mk (blk_below (g := g7) (o := .cells #[.slice Am1 sh.length cm1, .slice Am2 fr.length cm2] 70 (0, 0)) BK7.out hB9); have nHB := Aside0.mk (below_step HB.out hB9); have nHBm := Aside0.mk (below_step HBm.out hB9); clear BK1 BK2 BK3 BK4 BK7 HB HBm; have BK1 := nBK1; have BK2 := nBK2; have BK3 := nBK3; have BK4 := nBK4; have BK7 := nBK7; have HB := nHB; have HBm := nHBm; clear nBK1 nBK2 nBK3 nBK4 nBK7 nHB nHBm; clear hB9) | ((with_reducible refine gate_store rfl ?_); refine store_named rfl 28 (.tmp 4) (.tmp 27) rfl g3 #[.bool r1, .slice Ax r2.length cx, .slice Ay r3.length cy] rfl rfl 28 #[.bool false, .slice none 0 0, .slice none 0 0] BK3.out (by kernel_rfl) rfl (by simp [Value.oneCell']) ?_; intro w10 hs10 hb10; have nBK1 := Aside0.mk (hb10.blk BK1.out NEg1_g3.out); have nBK2 := Aside0.mk (hb10.blk BK2.out NEg2_g3.out); have nBK4 := Aside0.mk (hb10.blk BK4.out (fun e => NEg3_g4.out e.symm)); have nBK7 := Aside0.mk (hb10.blk BK7.out (fun e => NEg3_g7.out e.symm)); have nHB := Aside0.mk (HB.out.trans (hb10.below _ GEHB_g3.out)); have nHO1 := Aside0.mk (hb10.row HO1.out BK3.out (by decide)); have nHO2 := Aside0.mk (hb10.row HO2.out BK3.out (by decide)); clear BK1 BK2 BK4 BK7 HB HO1 HO2; clear BK3 hb10; have BK3 := Aside0.mk hs10; clear hs10; have BK1 := nBK1; have BK2 := nBK2; have BK4 := nBK4; have BK7 := nBK7; have HB := nHB; have HO1 := nHO1; have HO2 := nHO2; clear nBK1 nBK2 nBK4 nBK7 nHB nHO1 nHO2))
  refine bodyPost_ret (results_ct rfl _ _ g3 28 #[.bool r1, .slice Ax r2.length cx, .slice Ay r3.length cy] (0, 0) _ rfl BK3.out Try.underlying28 rfl (by kernel_rfl)) rfl ?_
  exact ⟨_, _, rfl, HO1.out, HO2.out, HB.out⟩
end Go.Proofs.Ytehfcnndjhjkoaa.PA

-- By a program (prt.py, over the print of the kit), for this claim. Not trusted: Lean checks it.
namespace Go.Proofs.Ytehfcnndjhjkoaa.PA
open Go.RowKit Go.Proofs.YtehfcnndjhjkoaaW.PrintWords Go.Proofs.YtehfcnndjhjkoaaW.PrintLast Go.Proofs.YtehfcnndjhjkoaaW.PrintMore
attribute [local go_sem] max2_int min2_int max_two min_two max_three min_three max_four min_four   -- for this text's walks alone
set_option linter.unusedVariables false
set_option linter.unusedSimpArgs false

/-! ### impl_permutation: function 124 -/
def impl_permutation.l0 : Nat → List Int → List Bool → List Int → Int → Int → Option (Bool)
  | 0, _, _, _, _, _ => none
  | k + 1, x0, x3, x9, x10, x11 => if x11 < x10 then (if 0 ≤ x11 then (if x11 < (x9.length : Int) then ((impl_within.f (rd x9 x11) 1 (x0.length : Int)).bind fun t105 => (if t105 = true then (if 0 ≤ (wrap64 ((rd x9 x11) - 1)) then (if (wrap64 ((rd x9 x11) - 1)) < (x3.length : Int) then (if rdOf false x3 (wrap64 ((rd x9 x11) - 1)) = true then (some false) else (impl_permutation.l0 k x0 (x3.set ((wrap64 ((rd x9 x11) - 1)) : Int).toNat true) x9 x10 (wrap64 (x11 + 1)))) else (none)) else (none)) else (some false))) else (none)) else (none)) else (some true)
def impl_permutation.f (k : Nat) (l0 : List Int) : Option (Bool) := if 0 ≤ (l0.length : Int) then (if ((l0.length : Int) : Int).toNat ≤ 281474976710656 then (impl_permutation.l0 k l0 (List.replicate ((l0.length : Int) : Int).toNat false) l0 (l0.length : Int) 0) else (none)) else (none)
theorem impl_permutation.mono_l : ∀ k, (∀ y0 y1 y2 y3 y4, LeO (impl_permutation.l0 k y0 y1 y2 y3 y4) (impl_permutation.l0 (k + 1) y0 y1 y2 y3 y4))
  | 0 => fun _ _ _ _ _ r h => by simp [impl_permutation.l0] at h
  | k + 1 => by
    have ih0 := impl_permutation.mono_l k
    · intro y0 y1 y2 y3 y4
      unfold impl_permutation.l0
      repeat' first
      | (with_reducible exact ih0 _ _ _ _ _)
      | (with_reducible exact LeO.refl _)
      | (with_reducible exact LeO.none _)
      | (with_reducible refine LeO.ite ?_ ?_)
      | (with_reducible refine LeO.bind ?_ (fun _ => ?_))
      | exact ih0 _ _ _ _ _
      | exact LeO.none _
      | refine LeO.ite ?_ ?_
      | refine LeO.bind ?_ (fun _ => ?_)
theorem impl_permutation.mono : ∀ a0 k, LeO (impl_permutation.f k a0) (impl_permutation.f (k + 1) a0) := by
  intro a0 k
  have ih0 := impl_permutation.mono_l k
  unfold impl_permutation.f
  repeat' first
      | (with_reducible exact ih0 _ _ _ _ _)
      | (with_reducible exact LeO.refl _)
      | (with_reducible exact LeO.none _)
      | (with_reducible refine LeO.ite ?_ ?_)
      | (with_reducible refine LeO.bind ?_ (fun _ => ?_))
      | exact ih0 _ _ _ _ _
      | exact LeO.none _
      | refine LeO.ite ?_ ?_
      | refine LeO.bind ?_ (fun _ => ?_)

end Go.Proofs.Ytehfcnndjhjkoaa.PA

namespace Go.Proofs.Ytehfcnndjhjkoaa.PA
open Go.RowKit Go.Proofs.YtehfcnndjhjkoaaW.PrintWords Go.Proofs.YtehfcnndjhjkoaaW.PrintLast Go.Proofs.YtehfcnndjhjkoaaW.PrintMore
set_option linter.unusedVariables false
set_option linter.unusedSimpArgs false
def permGo (n : Nat) : List Bool → List Int → Bool
  | _, [] => true
  | seen, a :: t => if 1 ≤ a ∧ a ≤ (n : Int) then (if rdOf false seen (a - 1) = true then false else permGo n (seen.set (a - 1).toNat true) t) else false
def permB (p : List Int) : Bool := permGo p.length (List.replicate p.length false) p
/-- The list l put at the places that p names. -/
def turnS (l : List Int) : List Int → Nat → List Int → List Int
  | S, _, [] => S
  | S, i, n :: t => turnS l (S.set (n - 1).toNat (rd l (i : Int))) (i + 1) t
end Go.Proofs.Ytehfcnndjhjkoaa.PA

-- By a program (prt.py, over the print of the kit), for this claim. Not trusted: Lean checks it.
namespace Go.Proofs.Ytehfcnndjhjkoaa.PA
open Go.RowKit Go.Proofs.YtehfcnndjhjkoaaW.PrintWords Go.Proofs.YtehfcnndjhjkoaaW.PrintLast Go.Proofs.YtehfcnndjhjkoaaW.PrintMore
attribute [local go_sem] max2_int min2_int max_two min_two max_three min_three max_four min_four   -- for this text's walks alone
set_option linter.unusedVariables false
set_option linter.unusedSimpArgs false

/-! ### impl_firstAxis: function 102 -/
def impl_firstAxis.f (a0_0 : Bool) (l0_1 : List Int) (l0_2 : List Int) (a1 : Bool) : Option (Int) := if a1 = true then (some 0) else ((impl_Array_rank.f a0_0 l0_1 l0_2).bind fun t102 => (some (wrap64 (t102 - 1))))

end Go.Proofs.Ytehfcnndjhjkoaa.PA

namespace Go.Proofs.Ytehfcnndjhjkoaa.PA
open Go.RowKit Go.Proofs.YtehfcnndjhjkoaaW.PrintWords Go.Proofs.YtehfcnndjhjkoaaW.PrintLast Go.Proofs.YtehfcnndjhjkoaaW.PrintMore
set_option linter.unusedVariables false
set_option linter.unusedSimpArgs false
attribute [local go_sem] Oper.semAt_some
open Go.Shelf
def trSh (p s : List Int) : List Int := turnS s (List.replicate p.length 0) 0 p
def trOne (p s cur : List Int) : Int := numGo s 0 0 (p.map fun n => rd cur (n - 1))
def trL (p s : List Int) (N : Nat) : List Int := (List.range N).map fun t => trOne p s (idxL (trSh p s) t)
end Go.Proofs.Ytehfcnndjhjkoaa.PA

-- By a program (prt.py, over the print of the kit), for this claim. Not trusted: Lean checks it.
namespace Go.Proofs.Ytehfcnndjhjkoaa.PA
open Go.RowKit Go.Proofs.YtehfcnndjhjkoaaW.PrintWords Go.Proofs.YtehfcnndjhjkoaaW.PrintLast Go.Proofs.YtehfcnndjhjkoaaW.PrintMore
attribute [local go_sem] max2_int min2_int max_two min_two max_three min_three max_four min_four   -- for this text's walks alone
set_option linter.unusedVariables false
set_option linter.unusedSimpArgs false

/-! ### spec_Transpose: function 33 -/
mutual
def spec_Transpose.j0 : Nat → Bool → Bool → List Int → List Int → Bool → List Int → List Int → Option (Bool × List Int × List Int × Int)
  | 0, _, _, _, _, _, _, _ => none
  | k + 1, x23, x102000, x102001, x102002, x103000, x103001, x103002 => if x23 = true then ((spec_l4None.f).bind fun bt106 => (some (bt106.1, bt106.2.1, bt106.2.2, 3))) else ((spec_l5List.f x102000 x102001 x102002).bind fun t113 => (if t113 = 0 then (if (x102002.length : Int) = (x103001.length : Int) then (if 0 ≤ (x103001.length : Int) then (if ((x103001.length : Int) : Int).toNat ≤ 35184372088832 then (if ((x103001.length : Int) : Int).toNat ≤ 281474976710656 then (spec_Transpose.l0 k (x103001.length : Int) (List.replicate ((x103001.length : Int) : Int).toNat false) 0 x102000 x102001 x102002 x103000 x103001 x103002 x103000 (List.replicate ((x103001.length : Int) : Int).toNat 0) (([] : List Int))) else (none)) else (none)) else (none)) else ((spec_l4None.f).bind fun bt121 => (some (bt121.1, bt121.2.1, bt121.2.2, 5)))) else ((spec_l4None.f).bind fun bt114 => (some (bt114.1, bt114.2.1, bt114.2.2, t113)))))
def spec_Transpose.l0 : Nat → Int → List Bool → Int → Bool → List Int → List Int → Bool → List Int → List Int → Bool → List Int → List Int → Option (Bool × List Int × List Int × Int)
  | 0, _, _, _, _, _, _, _, _, _, _, _, _ => none
  | k + 1, x7, x9, x10, x102000, x102001, x102002, x103000, x103001, x103002, x135000, x135001, x135002 => if x10 < x7 then (if 0 ≤ x10 then (if x10 < (x102002.length : Int) then (if (wrap64 ((rd x102002 x10) - 1)) < 0 then ((spec_l4None.f).bind fun bt139 => (some (bt139.1, bt139.2.1, bt139.2.2, 3))) else (if (wrap64 ((rd x102002 x10) - 1)) ≥ x7 then ((spec_l4None.f).bind fun bt146 => (some (bt146.1, bt146.2.1, bt146.2.2, 3))) else (if 0 ≤ (wrap64 ((rd x102002 x10) - 1)) then (if (wrap64 ((rd x102002 x10) - 1)) < (x9.length : Int) then (if rdOf false x9 (wrap64 ((rd x102002 x10) - 1)) = true then ((spec_l4None.f).bind fun bt154 => (some (bt154.1, bt154.2.1, bt154.2.2, 3))) else (if x10 < (x103001.length : Int) then (if (wrap64 ((rd x102002 x10) - 1)) < (x135001.length : Int) then (spec_Transpose.l0 k x7 (x9.set ((wrap64 ((rd x102002 x10) - 1)) : Int).toNat true) (wrap64 (x10 + 1)) x102000 x102001 x102002 x103000 x103001 x103002 x135000 (x135001.set ((wrap64 ((rd x102002 x10) - 1)) : Int).toNat (rd x103001 x10)) x135002) else (none)) else (none))) else (none)) else (none)))) else (none)) else (none)) else (spec_Transpose.l1 k x7 0 x102000 x102001 x102002 x103000 x103001 x103002 x135000 x135001 x135002)
def spec_Transpose.l1 : Nat → Int → Int → Bool → List Int → List Int → Bool → List Int → List Int → Bool → List Int → List Int → Option (Bool × List Int × List Int × Int)
  | 0, _, _, _, _, _, _, _, _, _, _, _ => none
  | k + 1, x7, x12, x102000, x102001, x102002, x103000, x103001, x103002, x135000, x135001, x135002 => if x12 < (x103002.length : Int) then ((spec_l5Index.f k x135001 x12).bind fun t164 => (if 0 ≤ x7 then (if (x7 : Int).toNat ≤ 35184372088832 then (spec_Transpose.l2 k x7 x12 t164 (List.replicate (x7 : Int).toNat 0) 0 x102000 x102001 x102002 x103000 x103001 x103002 x135000 x135001 x135002) else (none)) else (none))) else (some (x135000, x135001, x135002, 0))
def spec_Transpose.l2 : Nat → Int → Int → List Int → List Int → Int → Bool → List Int → List Int → Bool → List Int → List Int → Bool → List Int → List Int → Option (Bool × List Int × List Int × Int)
  | 0, _, _, _, _, _, _, _, _, _, _, _, _, _, _ => none
  | k + 1, x7, x12, x13, x14, x15, x102000, x102001, x102002, x103000, x103001, x103002, x135000, x135001, x135002 => if x15 < x7 then (if 0 ≤ x15 then (if x15 < (x102002.length : Int) then (if 0 ≤ (wrap64 ((rd x102002 x15) - 1)) then (if (wrap64 ((rd x102002 x15) - 1)) < (x13.length : Int) then (if x15 < (x14.length : Int) then (spec_Transpose.l2 k x7 x12 x13 (x14.set (x15 : Int).toNat (rd x13 (wrap64 ((rd x102002 x15) - 1)))) (wrap64 (x15 + 1)) x102000 x102001 x102002 x103000 x103001 x103002 x135000 x135001 x135002) else (none)) else (none)) else (none)) else (none)) else (none)) else ((spec_l5At.f k x103001 x14).bind fun t173 => (if 0 ≤ t173 then (if t173 < (x103002.length : Int) then (if x135002.length < 17592186044416 then (spec_Transpose.l1 k x7 (wrap64 (x12 + 1)) x102000 x102001 x102002 x103000 x103001 x103002 x135000 x135001 (x135002 ++ [rd x103002 t173])) else (none)) else (none)) else (none)))
end
def spec_Transpose.f (k : Nat) (a0_0 : Bool) (l0_1 : List Int) (l0_2 : List Int) (a1_0 : Bool) (l1_1 : List Int) (l1_2 : List Int) : Option (Bool × List Int × List Int × Int) := (spec_ArrayOk.f k a0_0 l0_1 l0_2).bind fun t104 => (if t104 = true then ((spec_ArrayOk.f k a1_0 l1_1 l1_2).bind fun t105 => (spec_Transpose.j0 k (!t105) a0_0 l0_1 l0_2 a1_0 l1_1 l1_2)) else (spec_Transpose.j0 k true a0_0 l0_1 l0_2 a1_0 l1_1 l1_2))
theorem spec_Transpose.mono_l : ∀ k, (∀ y0 y1 y2 y3 y4 y5 y6, LeO (spec_Transpose.j0 k y0 y1 y2 y3 y4 y5 y6) (spec_Transpose.j0 (k + 1) y0 y1 y2 y3 y4 y5 y6)) ∧ (∀ y0 y1 y2 y3 y4 y5 y6 y7 y8 y9 y10 y11, LeO (spec_Transpose.l0 k y0 y1 y2 y3 y4 y5 y6 y7 y8 y9 y10 y11) (spec_Transpose.l0 (k + 1) y0 y1 y2 y3 y4 y5 y6 y7 y8 y9 y10 y11)) ∧ (∀ y0 y1 y2 y3 y4 y5 y6 y7 y8 y9 y10, LeO (spec_Transpose.l1 k y0 y1 y2 y3 y4 y5 y6 y7 y8 y9 y10) (spec_Transpose.l1 (k + 1) y0 y1 y2 y3 y4 y5 y6 y7 y8 y9 y10)) ∧ (∀ y0 y1 y2 y3 y4 y5 y6 y7 y8 y9 y10 y11 y12 y13, LeO (spec_Transpose.l2 k y0 y1 y2 y3 y4 y5 y6 y7 y8 y9 y10 y11 y12 y13) (spec_Transpose.l2 (k + 1) y0 y1 y2 y3 y4 y5 y6 y7 y8 y9 y10 y11 y12 y13))
  | 0 => ⟨fun _ _ _ _ _ _ _ r h => by simp [spec_Transpose.j0] at h, fun _ _ _ _ _ _ _ _ _ _ _ _ r h => by simp [spec_Transpose.l0] at h, fun _ _ _ _ _ _ _ _ _ _ _ r h => by simp [spec_Transpose.l1] at h, fun _ _ _ _ _ _ _ _ _ _ _ _ _ _ r h => by simp [spec_Transpose.l2] at h⟩
  | k + 1 => by
    obtain ⟨ih0, ih1, ih2, ih3⟩ := spec_Transpose.mono_l k
    refine ⟨?_, ?_, ?_, ?_⟩
    · intro y0 y1 y2 y3 y4 y5 y6
      unfold spec_Transpose.j0
      repeat' first
      | (with_reducible exact ih0 _ _ _ _ _ _ _)
      | (with_reducible exact ih1 _ _ _ _ _ _ _ _ _ _ _ _)
      | (with_reducible exact ih2 _ _ _ _ _ _ _ _ _ _ _)
      | (with_reducible exact ih3 _ _ _ _ _ _ _ _ _ _ _ _ _ _)
      | (with_reducible exact spec_ArrayOk.mono _ _ _ _)
      | (with_reducible exact spec_l5At.mono _ _ _)
      | (with_reducible exact spec_l5Index.mono _ _ _)
      | (with_reducible exact LeO.refl _)
      | (with_reducible exact LeO.none _)
      | (with_reducible refine LeO.ite ?_ ?_)
      | (with_reducible refine LeO.bind ?_ (fun _ => ?_))
      | exact ih0 _ _ _ _ _ _ _
      | exact ih1 _ _ _ _ _ _ _ _ _ _ _ _
      | exact ih2 _ _ _ _ _ _ _ _ _ _ _
      | exact ih3 _ _ _ _ _ _ _ _ _ _ _ _ _ _
      | exact spec_ArrayOk.mono _ _ _ _
      | exact spec_l5At.mono _ _ _
      | exact spec_l5Index.mono _ _ _
      | exact LeO.none _
      | refine LeO.ite ?_ ?_
      | refine LeO.bind ?_ (fun _ => ?_)
    · intro y0 y1 y2 y3 y4 y5 y6 y7 y8 y9 y10 y11
      unfold spec_Transpose.l0
      repeat' first
      | (with_reducible exact ih0 _ _ _ _ _ _ _)
      | (with_reducible exact ih1 _ _ _ _ _ _ _ _ _ _ _ _)
      | (with_reducible exact ih2 _ _ _ _ _ _ _ _ _ _ _)
      | (with_reducible exact ih3 _ _ _ _ _ _ _ _ _ _ _ _ _ _)
      | (with_reducible exact spec_ArrayOk.mono _ _ _ _)
      | (with_reducible exact spec_l5At.mono _ _ _)
      | (with_reducible exact spec_l5Index.mono _ _ _)
      | (with_reducible exact LeO.refl _)
      | (with_reducible exact LeO.none _)
      | (with_reducible refine LeO.ite ?_ ?_)
      | (with_reducible refine LeO.bind ?_ (fun _ => ?_))
      | exact ih0 _ _ _ _ _ _ _
      | exact ih1 _ _ _ _ _ _ _ _ _ _ _ _
      | exact ih2 _ _ _ _ _ _ _ _ _ _ _
      | exact ih3 _ _ _ _ _ _ _ _ _ _ _ _ _ _
      | exact spec_ArrayOk.mono _ _ _ _
      | exact spec_l5At.mono _ _ _
      | exact spec_l5Index.mono _ _ _
      | exact LeO.none _
      | refine LeO.ite ?_ ?_
      | refine LeO.bind ?_ (fun _ => ?_)
    · intro y0 y1 y2 y3 y4 y5 y6 y7 y8 y9 y10
      unfold spec_Transpose.l1
      repeat' first
      | (with_reducible exact ih0 _ _ _ _ _ _ _)
      | (with_reducible exact ih1 _ _ _ _ _ _ _ _ _ _ _ _)
      | (with_reducible exact ih2 _ _ _ _ _ _ _ _ _ _ _)
      | (with_reducible exact ih3 _ _ _ _ _ _ _ _ _ _ _ _ _ _)
      | (with_reducible exact spec_ArrayOk.mono _ _ _ _)
      | (with_reducible exact spec_l5At.mono _ _ _)
      | (with_reducible exact spec_l5Index.mono _ _ _)
      | (with_reducible exact LeO.refl _)
      | (with_reducible exact LeO.none _)
      | (with_reducible refine LeO.ite ?_ ?_)
      | (with_reducible refine LeO.bind ?_ (fun _ => ?_))
      | exact ih0 _ _ _ _ _ _ _
      | exact ih1 _ _ _ _ _ _ _ _ _ _ _ _
      | exact ih2 _ _ _ _ _ _ _ _ _ _ _
      | exact ih3 _ _ _ _ _ _ _ _ _ _ _ _ _ _
      | exact spec_ArrayOk.mono _ _ _ _
      | exact spec_l5At.mono _ _ _
      | exact spec_l5Index.mono _ _ _
      | exact LeO.none _
      | refine LeO.ite ?_ ?_
      | refine LeO.bind ?_ (fun _ => ?_)
    · intro y0 y1 y2 y3 y4 y5 y6 y7 y8 y9 y10 y11 y12 y13
      unfold spec_Transpose.l2
      repeat' first
      | (with_reducible exact ih0 _ _ _ _ _ _ _)
      | (with_reducible exact ih1 _ _ _ _ _ _ _ _ _ _ _ _)
      | (with_reducible exact ih2 _ _ _ _ _ _ _ _ _ _ _)
      | (with_reducible exact ih3 _ _ _ _ _ _ _ _ _ _ _ _ _ _)
      | (with_reducible exact spec_ArrayOk.mono _ _ _ _)
      | (with_reducible exact spec_l5At.mono _ _ _)
      | (with_reducible exact spec_l5Index.mono _ _ _)
      | (with_reducible exact LeO.refl _)
      | (with_reducible exact LeO.none _)
      | (with_reducible refine LeO.ite ?_ ?_)
      | (with_reducible refine LeO.bind ?_ (fun _ => ?_))
      | exact ih0 _ _ _ _ _ _ _
      | exact ih1 _ _ _ _ _ _ _ _ _ _ _ _
      | exact ih2 _ _ _ _ _ _ _ _ _ _ _
      | exact ih3 _ _ _ _ _ _ _ _ _ _ _ _ _ _
      | exact spec_ArrayOk.mono _ _ _ _
      | exact spec_l5At.mono _ _ _
      | exact spec_l5Index.mono _ _ _
      | exact LeO.none _
      | refine LeO.ite ?_ ?_
      | refine LeO.bind ?_ (fun _ => ?_)
theorem spec_Transpose.mono : ∀ a0 a1 a2 a3 a4 a5 k, LeO (spec_Transpose.f k a0 a1 a2 a3 a4 a5) (spec_Transpose.f (k + 1) a0 a1 a2 a3 a4 a5) := by
  intro a0 a1 a2 a3 a4 a5 k
  obtain ⟨ih0, ih1, ih2, ih3⟩ := spec_Transpose.mono_l k
  unfold spec_Transpose.f
  repeat' first
      | (with_reducible exact ih0 _ _ _ _ _ _ _)
      | (with_reducible exact ih1 _ _ _ _ _ _ _ _ _ _ _ _)
      | (with_reducible exact ih2 _ _ _ _ _ _ _ _ _ _ _)
      | (with_reducible exact ih3 _ _ _ _ _ _ _ _ _ _ _ _ _ _)
      | (with_reducible exact spec_ArrayOk.mono _ _ _ _)
      | (with_reducible exact spec_l5At.mono _ _ _)
      | (with_reducible exact spec_l5Index.mono _ _ _)
      | (with_reducible exact LeO.refl _)
      | (with_reducible exact LeO.none _)
      | (with_reducible refine LeO.ite ?_ ?_)
      | (with_reducible refine LeO.bind ?_ (fun _ => ?_))
      | exact ih0 _ _ _ _ _ _ _
      | exact ih1 _ _ _ _ _ _ _ _ _ _ _ _
      | exact ih2 _ _ _ _ _ _ _ _ _ _ _
      | exact ih3 _ _ _ _ _ _ _ _ _ _ _ _ _ _
      | exact spec_ArrayOk.mono _ _ _ _
      | exact spec_l5At.mono _ _ _
      | exact spec_l5Index.mono _ _ _
      | exact LeO.none _
      | refine LeO.ite ?_ ?_
      | refine LeO.bind ?_ (fun _ => ?_)

end Go.Proofs.Ytehfcnndjhjkoaa.PA

namespace Go.Proofs.Ytehfcnndjhjkoaa.PA
open Go.RowKit Go.Proofs.YtehfcnndjhjkoaaW.PrintWords Go.Proofs.YtehfcnndjhjkoaaW.PrintLast Go.Proofs.YtehfcnndjhjkoaaW.PrintMore
set_option linter.unusedVariables false
set_option linter.unusedSimpArgs false
def transposeV (b : Bool) (l1 l2 : List Int) (c : Bool) (m1 m2 : List Int) : ArrAns :=
  if arrOk b l1 l2 && arrOk c m1 m2 then
    (if listC b l1 = 0 then (if l2.length = m1.length then (if permB l2 = true then (c, trSh l2 m1, ofL c m2 (trL l2 m1 (prod (trSh l2 m1)).toNat), 0) else noArr 3) else noArr 5) else noArr (listC b l1))
  else noArr 3
theorem hrg_tr {s : List Int} (hs : shOk s = true) : ∀ (t : Nat), t < (prod s).toNat → ∀ k : Nat, k < s.length → 0 ≤ rd (idxL s t) (k : Int) ∧ rd (idxL s t) (k : Int) < rd s (k : Int) := by
  intro t ht k hk
  have hr := shOk_range hs
  rw [idxL_of hr (by omega)]
  exact digs_range s.length s t rfl (pos_of_prod (fun x hx => (hr x hx).1) (by omega)) (by omega) k hk
section
variable (b : Bool) (l1 l2 : List Int) (c : Bool) (m1 m2 : List Int) (hl : l2.length = m1.length) (h5 : l2.length ≤ 5) (hce : ∀ x ∈ l2, -1000000000000000 ≤ x ∧ x ≤ 1000000000000000)
include hl h5 hce
end
section
variable (b : Bool) (l1 l2 : List Int) (c : Bool) (m1 m2 : List Int) (hl : l2.length = m1.length) (h5 : l2.length ≤ 5)
include hl h5
end
def impl_Transpose.f (b : Bool) (l1 l2 : List Int) (c : Bool) (m1 m2 : List Int) : Option ArrAns := if okLens l1 l2 m1 m2 then some (transposeV b l1 l2 c m1 m2) else none
end Go.Proofs.Ytehfcnndjhjkoaa.PA

namespace Go.Proofs.Ytehfcnndjhjkoaa.PA
open Go.RowKit Go.Proofs.YtehfcnndjhjkoaaW.PrintWords Go.Proofs.YtehfcnndjhjkoaaW.PrintLast Go.Proofs.YtehfcnndjhjkoaaW.PrintMore
set_option linter.unusedVariables false
set_option linter.unusedSimpArgs false
/-- The shape that the numbers are held against. -/
def sOf (l2 m1 : List Int) : List Int := if m1.length = 0 then List.replicate l2.length 1 else m1
/-- The code of the numbers. -/
def cntC (a : Bool) (l1 l2 m1 : List Int) : Int := if listC a l1 = 0 then (if m1.length = 0 then (if l2.length ≤ 5 then 0 else 7) else if l2.length = m1.length then 0 else 5) else listC a l1
def takeV (a : Bool) (l1 l2 : List Int) (b : Bool) (m1 m2 : List Int) : ArrAns :=
  if (arrOk a l1 l2 && arrOk b m1 m2) = true then (if cntC a l1 l2 m1 = 0 then (if shOk (absL l2) = true then (b, absL l2, winL b (sOf l2 m1) m2 (absL l2) (stTake (sOf l2 m1) l2) (prod (absL l2)).toNat, 0) else noArr 7) else noArr (cntC a l1 l2 m1)) else noArr 3
theorem counted_bad (a : Bool) (Aa1 : Option Addr) (ca1 : Nat) (la1 : List Int) (Aa2 : Option Addr) (ca2 : Nat) (la2 : List Int) (b : Bool) (Ab1 : Option Addr) (cb1 : Nat) (lb1 : List Int) (Ab2 : Option Addr) (cb2 : Nat) (lb2 : List Int) (w : World) (ha1 : Kd.C (Kd.int .i64) w Aa1 la1.length la1) (ka1 : la1.length ≤ ca1) (ha2 : Kd.C (Kd.int .i64) w Aa2 la2.length la2) (ka2 : la2.length ≤ ca2) (hb1 : Kd.C (Kd.int .i64) w Ab1 lb1.length lb1) (kb1 : lb1.length ≤ cb1) (hb2 : Kd.C (Kd.int .i64) w Ab2 lb2.length lb2) (kb2 : lb2.length ≤ cb2) (hb1' : lb1.length ≤ 1000000) (hb2' : lb2.length ≤ 1000000) (hc : cntC a la1 la2 lb1 ≠ 0) :
    Calls Try.prog 95 #[.agg #[.bool a, .slice Aa1 la1.length ca1, .slice Aa2 la2.length ca2], .agg #[.bool b, .slice Ab1 lb1.length cb1, .slice Ab2 lb2.length cb2]] w fun e w' => e = .returned (.tuple #[.agg #[.bool b, .slice Ab1 lb1.length cb1, .slice Ab2 lb2.length cb2], .int .i64 (cntC a la1 la2 lb1)]) ∧ Below w.heap.size w w' := by
  have hl := l5List_eq a la1 la2
  unfold cntC at hc ⊢
  by_cases h0 : listC a la1 = 0
  · rw [if_pos h0] at hc ⊢
    rw [h0] at hl
    by_cases hz : lb1.length = 0
    · rw [if_pos hz] at hc ⊢
      by_cases h5 : la2.length ≤ 5
      · rw [if_pos h5] at hc; exact absurd rfl hc
      · rw [if_neg h5]
        exact counted_deep a Aa1 ca1 la1 Aa2 ca2 la2 b Ab1 cb1 lb1 Ab2 cb2 lb2 w ha1 ka1 ha2 ka2 hb1 kb1 hb2 kb2 hb1' hb2' hl hz (by omega)
    · rw [if_neg hz] at hc ⊢
      by_cases hn : la2.length = lb1.length
      · rw [if_pos hn] at hc; exact absurd rfl hc
      · rw [if_neg hn]
        exact counted_len a Aa1 ca1 la1 Aa2 ca2 la2 b Ab1 cb1 lb1 Ab2 cb2 lb2 w ha1 ka1 ha2 ka2 hb1 kb1 hb2 kb2 hb1' hb2' hl hz hn
  · rw [if_neg h0]
    exact counted_list a Aa1 ca1 la1 Aa2 ca2 la2 b Ab1 cb1 lb1 Ab2 cb2 lb2 w ha1 ka1 ha2 ka2 hb1 kb1 hb2 kb2 (listC a la1) hl h0
theorem counted_good (a : Bool) (Aa1 : Option Addr) (ca1 : Nat) (la1 : List Int) (Aa2 : Option Addr) (ca2 : Nat) (la2 : List Int) (b : Bool) (Ab1 : Option Addr) (cb1 : Nat) (lb1 : List Int) (Ab2 : Option Addr) (cb2 : Nat) (lb2 : List Int) (w : World) (ha1 : Kd.C (Kd.int .i64) w Aa1 la1.length la1) (ka1 : la1.length ≤ ca1) (ha2 : Kd.C (Kd.int .i64) w Aa2 la2.length la2) (ka2 : la2.length ≤ ca2) (hb1 : Kd.C (Kd.int .i64) w Ab1 lb1.length lb1) (kb1 : lb1.length ≤ cb1) (hb2 : Kd.C (Kd.int .i64) w Ab2 lb2.length lb2) (kb2 : lb2.length ≤ cb2) (hb1' : lb1.length ≤ 1000000) (hb2' : lb2.length ≤ 1000000) (hc : cntC a la1 la2 lb1 = 0) :
    Calls Try.prog 95 #[.agg #[.bool a, .slice Aa1 la1.length ca1, .slice Aa2 la2.length ca2], .agg #[.bool b, .slice Ab1 lb1.length cb1, .slice Ab2 lb2.length cb2]] w fun e w' => ∃ A1 c1 A2 c2, e = .returned (.tuple #[.agg #[.bool b, .slice A1 (sOf la2 lb1).length c1, .slice A2 lb2.length c2], .int .i64 0]) ∧ Kd.R (Kd.int .i64) 3 w' w.heap.size (fun k => some k ≠ (Value.slice A2 lb2.length c2).ownBlock) (.slice A1 (sOf la2 lb1).length c1) (sOf la2 lb1) ∧ Kd.R (Kd.int .i64) 3 w' w.heap.size (fun k => some k ≠ (Value.slice A1 (sOf la2 lb1).length c1).ownBlock) (.slice A2 lb2.length c2) lb2 ∧ Below w.heap.size w w' := by
  have hl := l5List_eq a la1 la2
  unfold cntC at hc
  by_cases h0 : listC a la1 = 0
  · rw [if_pos h0] at hc
    rw [h0] at hl
    by_cases hz : lb1.length = 0
    · rw [if_pos hz] at hc
      have h5 : la2.length ≤ 5 := by by_cases h : la2.length ≤ 5; · exact h
                                     · rw [if_neg h] at hc; exact absurd hc (by decide)
      have := counted_ones a Aa1 ca1 la1 Aa2 ca2 la2 b Ab1 cb1 lb1 Ab2 cb2 lb2 w ha1 ka1 ha2 ka2 hb1 kb1 hb2 kb2 hb1' hb2' hl hz h5
      simp only [sOf, if_pos hz, List.length_replicate]
      exact this
    · rw [if_neg hz] at hc
      have hn : la2.length = lb1.length := by by_cases h : la2.length = lb1.length; · exact h
                                              · rw [if_neg h] at hc; exact absurd hc (by decide)
      have := counted_same a Aa1 ca1 la1 Aa2 ca2 la2 b Ab1 cb1 lb1 Ab2 cb2 lb2 w ha1 ka1 ha2 ka2 hb1 kb1 hb2 kb2 hb1' hb2' hl hz hn
      simp only [sOf, if_neg hz]
      exact this
  · rw [if_neg h0] at hc; exact absurd hc h0
theorem sOf_len {a : Bool} {l1 l2 m1 : List Int} (h : cntC a l1 l2 m1 = 0) : (sOf l2 m1).length = l2.length := by
  unfold cntC at h; unfold sOf
  by_cases h0 : listC a l1 = 0
  · rw [if_pos h0] at h
    by_cases hz : m1.length = 0
    · rw [if_pos hz, List.length_replicate]
    · rw [if_neg hz] at h ⊢
      by_cases hn : l2.length = m1.length
      · omega
      · rw [if_neg hn] at h; exact absurd h (by decide)
  · rw [if_neg h0] at h; exact absurd h h0
theorem cnt_five {a : Bool} {l1 l2 m1 : List Int} (h : cntC a l1 l2 m1 = 0) (h5 : m1.length ≤ 5) : l2.length ≤ 5 := by
  unfold cntC at h
  by_cases h0 : listC a l1 = 0
  · rw [if_pos h0] at h
    by_cases hz : m1.length = 0
    · rw [if_pos hz] at h
      by_cases h6 : l2.length ≤ 5
      · exact h6
      · rw [if_neg h6] at h; exact absurd h (by decide)
    · rw [if_neg hz] at h
      by_cases hn : l2.length = m1.length
      · omega
      · rw [if_neg hn] at h; exact absurd h (by decide)
  · rw [if_neg h0] at h; exact absurd h h0
theorem sOf_range {l2 m1 : List Int} (h : ∀ x ∈ m1, 0 ≤ x ∧ x ≤ 10000) : ∀ x ∈ sOf l2 m1, 0 ≤ x ∧ x ≤ 10000 := by
  unfold sOf
  split
  · intro x hx; have := List.eq_of_mem_replicate hx; omega
  · exact h
theorem prod_ones (n : Nat) : prod (List.replicate n 1) = 1 := by
  induction n with
  | zero => rfl
  | succ n ih => rw [List.replicate_succ]; simp [prod, ih]
theorem sOf_prod {a : Bool} {l1 l2 m1 : List Int} {N : Int} (h : cntC a l1 l2 m1 = 0) (hp : prod m1 = N) : prod (sOf l2 m1) = N := by
  unfold sOf
  split
  · rename_i hz
    rw [prod_ones, ← hp, List.eq_nil_of_length_eq_zero hz]; rfl
  · exact hp
def spec_Take.f (k : Nat) (a : Bool) (l1 l2 : List Int) (b : Bool) (m1 m2 : List Int) : Option ArrAns := if okLens l1 l2 m1 m2 then some (takeV a l1 l2 b m1 m2) else none
theorem spec_Take.calls (k : Nat) (a : Bool) (Aa1 : Option Addr) (ca1 : Nat) (la1 : List Int) (Aa2 : Option Addr) (ca2 : Nat) (la2 : List Int) (b : Bool) (Ab1 : Option Addr) (cb1 : Nat) (lb1 : List Int) (Ab2 : Option Addr) (cb2 : Nat) (lb2 : List Int) (r1 : Bool) (r2 r3 : List Int) (r4 : Int) (w : World) (ha1 : Kd.C (Kd.int .i64) w Aa1 la1.length la1) (ka1 : la1.length ≤ ca1) (ha2 : Kd.C (Kd.int .i64) w Aa2 la2.length la2) (ka2 : la2.length ≤ ca2) (hb1 : Kd.C (Kd.int .i64) w Ab1 lb1.length lb1) (kb1 : lb1.length ≤ cb1) (hb2 : Kd.C (Kd.int .i64) w Ab2 lb2.length lb2) (kb2 : lb2.length ≤ cb2) (h : spec_Take.f k a la1 la2 b lb1 lb2 = some (r1, r2, r3, r4)) :
    Calls Try.prog 44 #[.agg #[.bool a, .slice Aa1 la1.length ca1, .slice Aa2 la2.length ca2], .agg #[.bool b, .slice Ab1 lb1.length cb1, .slice Ab2 lb2.length cb2]] w fun e w' => ∃ v1_ v2_ : Value, e = .returned (.tuple #[.agg #[.bool r1, v1_, v2_], .int .i64 r4]) ∧ Kd.R (Kd.int .i64) 3 w' w.heap.size (fun k_ => some k_ ≠ (v2_ : Value).ownBlock) v1_ r2 ∧ Kd.R (Kd.int .i64) 3 w' w.heap.size (fun k_ => some k_ ≠ (v1_ : Value).ownBlock) v2_ r3 ∧ Below w.heap.size w w' := by
  unfold spec_Take.f at h
  split at h
  · rename_i hl
    have h := Option.some.inj h
    simp only [okLens, Bool.and_eq_true, decide_eq_true_eq] at hl
    obtain ⟨ka, hka⟩ := (specArrayOk_ev a la1 la2 (by omega) (by omega)).rounds
    obtain ⟨kb, hkb⟩ := (specArrayOk_ev b lb1 lb2 (by omega) (by omega)).rounds
    unfold takeV at h
    cases hA : arrOk a la1 la2 with
    | false =>
      rw [hA] at hka
      rw [hA, if_neg (by simp)] at h
      cases h
      exact specTake_no1 a Aa1 ca1 la1 Aa2 ca2 la2 b Ab1 cb1 lb1 Ab2 cb2 lb2 w ha1 ka1 ha2 ka2 hb1 kb1 hb2 kb2 ka hka
    | true =>
      rw [hA] at hka
      cases hB : arrOk b lb1 lb2 with
      | false =>
        rw [hB] at hkb
        rw [hA, hB, if_neg (by simp)] at h
        cases h
        exact specTake_no2 a Aa1 ca1 la1 Aa2 ca2 la2 b Ab1 cb1 lb1 Ab2 cb2 lb2 w ha1 ka1 ha2 ka2 hb1 kb1 hb2 kb2 ka hka kb hkb
      | true =>
        rw [hB] at hkb
        rw [hA, hB, if_pos (by rfl)] at h
        have n1 := arrOk_len hA
        have n2 := arrOk_len hB
        have hsh := shOk_range (arrOk_sh hB)
        by_cases hc : cntC a la1 la2 lb1 = 0
        · rw [if_pos hc] at h
          refine (specTake_ok a Aa1 ca1 la1 Aa2 ca2 la2 b Ab1 cb1 lb1 Ab2 cb2 lb2 w ha1 ka1 ha2 ka2 hb1 kb1 hb2 kb2 ka hka kb hkb (sOf la2 lb1) ?_ ?_ ?_ (arrOk_cells hA) ?_ n2.2 (r1, r2, r3, r4) h.symm (fun W hW => counted_good a Aa1 ca1 la1 Aa2 ca2 la2 b Ab1 cb1 lb1 Ab2 cb2 lb2 W (Kd.C_below ha1 hW) ka1 (Kd.C_below ha2 hW) ka2 (Kd.C_below hb1 hW) kb1 (Kd.C_below hb2 hW) kb2 (by omega) (by omega) hc))
          · exact sOf_len hc
          · exact cnt_five hc n2.1
          · exact sOf_range hsh
          · exact (sOf_prod hc (arrOk_prod hB))
        · rw [if_neg hc] at h
          cases h
          exact specTake_code a Aa1 ca1 la1 Aa2 ca2 la2 b Ab1 cb1 lb1 Ab2 cb2 lb2 w ha1 ka1 ha2 ka2 hb1 kb1 hb2 kb2 ka hka kb hkb (cntC a la1 la2 lb1) hc (fun W hW => counted_bad a Aa1 ca1 la1 Aa2 ca2 la2 b Ab1 cb1 lb1 Ab2 cb2 lb2 W (Kd.C_below ha1 hW) ka1 (Kd.C_below ha2 hW) ka2 (Kd.C_below hb1 hW) kb1 (Kd.C_below hb2 hW) kb2 (by omega) (by omega) hc)
  · cases h
theorem specTake_ev (a : Bool) (l1 l2 : List Int) (b : Bool) (m1 m2 : List Int) (h1 : l1.length ≤ 35184372088832) (h2 : l2.length ≤ 35184372088832) (h3 : m1.length ≤ 35184372088832) (h4 : m2.length ≤ 35184372088832) : Ev (fun k => spec_Take.f k a l1 l2 b m1 m2) (takeV a l1 l2 b m1 m2) := by
  simp only [spec_Take.f, if_pos (okLens_of h1 h2 h3 h4)]
  exact Ev.now _
theorem takeV_len (b : Bool) (l1 l2 : List Int) (c : Bool) (m1 m2 : List Int) : (takeV b l1 l2 c m1 m2).2.1.length ≤ 10000 ∧ (takeV b l1 l2 c m1 m2).2.2.1.length ≤ 10000 := by
  unfold takeV noArr
  split
  · rename_i h
    simp only [Bool.and_eq_true] at h
    have k1 := arrOk_len h.1
    split
    · split
      · rename_i hs
        have := shOk_prod hs
        simp only [winL_len, absL_len]; omega
      · simp
    · simp
  · simp
theorem one_lt {m1 m2 ls lt : List Int} (hl : m1.length = ls.length) (hs : ∀ x ∈ m1, 0 ≤ x ∧ x ≤ 10000) (hp : prod m1 = m2.length) (hn : m2.length ≤ 10000) (N : Nat) : ∀ x ∈ fromL m1 ls (winF lt) N, x < m2.length := by
  induction N with
  | zero => intro x hx; simp [fromL] at hx
  | succ t ih =>
    intro x hx
    simp only [fromL, List.mem_append, List.mem_singleton] at hx
    rcases hx with hx | rfl
    · exact ih x hx
    · unfold fromOne
      split
      · rename_i h
        have := one_range m1 (idxL ls t) (winF lt) (by rw [idxL_len, hl]) hs (by omega) h
        omega
      · omega
theorem axes_bad (a : Bool) (Aa1 : Option Addr) (ca1 : Nat) (la1 : List Int) (Aa2 : Option Addr) (ca2 : Nat) (la2 : List Int) (b : Bool) (Ab1 : Option Addr) (cb1 : Nat) (lb1 : List Int) (Ab2 : Option Addr) (cb2 : Nat) (lb2 : List Int) (w : World) (ha1 : Kd.C (Kd.int .i64) w Aa1 la1.length la1) (ka1 : la1.length ≤ ca1) (ha2 : Kd.C (Kd.int .i64) w Aa2 la2.length la2) (ka2 : la2.length ≤ ca2) (hb1 : Kd.C (Kd.int .i64) w Ab1 lb1.length lb1) (kb1 : lb1.length ≤ cb1) (hb2 : Kd.C (Kd.int .i64) w Ab2 lb2.length lb2) (kb2 : lb2.length ≤ cb2) (hc : cntC a la1 la2 lb1 ≠ 0) :
    Calls Try.prog 128 #[.agg #[.bool a, .slice Aa1 la1.length ca1, .slice Aa2 la2.length ca2], .agg #[.bool b, .slice Ab1 lb1.length cb1, .slice Ab2 lb2.length cb2]] w fun e w' => e = .returned (.tuple #[.agg #[.bool b, .slice Ab1 lb1.length cb1, .slice Ab2 lb2.length cb2], .int .i64 (cntC a la1 la2 lb1)]) ∧ Below w.heap.size w w' := by
  have hl := listOk_eq a la1 la2
  unfold cntC at hc ⊢
  by_cases h0 : listC a la1 = 0
  · rw [if_pos h0] at hc ⊢
    rw [h0] at hl
    by_cases hz : lb1.length = 0
    · rw [if_pos hz] at hc ⊢
      by_cases h5 : la2.length ≤ 5
      · rw [if_pos h5] at hc; exact absurd rfl hc
      · rw [if_neg h5]
        exact axesFor_deep a Aa1 ca1 la1 Aa2 ca2 la2 b Ab1 cb1 lb1 Ab2 cb2 lb2 w ha1 ka1 ha2 ka2 hb1 kb1 hb2 kb2 hl hz (by omega)
    · rw [if_neg hz] at hc ⊢
      by_cases hn : la2.length = lb1.length
      · rw [if_pos hn] at hc; exact absurd rfl hc
      · rw [if_neg hn]
        exact axesFor_len a Aa1 ca1 la1 Aa2 ca2 la2 b Ab1 cb1 lb1 Ab2 cb2 lb2 w ha1 ka1 ha2 ka2 hb1 kb1 hb2 kb2 hl hz hn
  · rw [if_neg h0]
    exact axesFor_list a Aa1 ca1 la1 Aa2 ca2 la2 b Ab1 cb1 lb1 Ab2 cb2 lb2 w ha1 ka1 ha2 ka2 hb1 kb1 hb2 kb2 (listC a la1) hl h0
theorem absL_range {l : List Int} (h : shOk (absL l) = true) : ∀ x ∈ absL l, 0 ≤ x ∧ x ≤ 10000 := shOk_range h
def impl_Take.f (a : Bool) (l1 l2 : List Int) (b : Bool) (m1 m2 : List Int) : Option ArrAns := if okLens l1 l2 m1 m2 then some (takeV a l1 l2 b m1 m2) else none
theorem impl_Take.calls (a : Bool) (Aa1 : Option Addr) (ca1 : Nat) (la1 : List Int) (Aa2 : Option Addr) (ca2 : Nat) (la2 : List Int) (b : Bool) (Ab1 : Option Addr) (cb1 : Nat) (lb1 : List Int) (Ab2 : Option Addr) (cb2 : Nat) (lb2 : List Int) (r1 : Bool) (r2 r3 : List Int) (r4 : Int) (w : World) (ha1 : Kd.C (Kd.int .i64) w Aa1 la1.length la1) (ka1 : la1.length ≤ ca1) (ha2 : Kd.C (Kd.int .i64) w Aa2 la2.length la2) (ka2 : la2.length ≤ ca2) (hb1 : Kd.C (Kd.int .i64) w Ab1 lb1.length lb1) (kb1 : lb1.length ≤ cb1) (hb2 : Kd.C (Kd.int .i64) w Ab2 lb2.length lb2) (kb2 : lb2.length ≤ cb2) (h : impl_Take.f a la1 la2 b lb1 lb2 = some (r1, r2, r3, r4)) :
    Calls Try.prog 45 #[.agg #[.bool a, .slice Aa1 la1.length ca1, .slice Aa2 la2.length ca2], .agg #[.bool b, .slice Ab1 lb1.length cb1, .slice Ab2 lb2.length cb2]] w fun e w' => ∃ v1_ v2_ : Value, e = .returned (.tuple #[.agg #[.bool r1, v1_, v2_], .int .i64 r4]) ∧ Kd.R (Kd.int .i64) 3 w' w.heap.size (fun k_ => some k_ ≠ (v2_ : Value).ownBlock) v1_ r2 ∧ Kd.R (Kd.int .i64) 3 w' w.heap.size (fun k_ => some k_ ≠ (v1_ : Value).ownBlock) v2_ r3 ∧ Below w.heap.size w w' := by
  unfold impl_Take.f at h
  split at h
  · rename_i hl
    have h := Option.some.inj h
    simp only [okLens, Bool.and_eq_true, decide_eq_true_eq] at hl
    obtain ⟨k0, hk0⟩ := (valid_ev2 a la1 la2 b lb1 lb2 (by omega) (by omega)).rounds
    unfold takeV at h
    by_cases hv : (arrOk a la1 la2 && arrOk b lb1 lb2) = true
    · rw [if_pos hv] at hk0 h
      have hv' := hv
      simp only [Bool.and_eq_true] at hv'
      have n1 := arrOk_len hv'.1
      have n2 := arrOk_len hv'.2
      have hs := shOk_range (arrOk_sh hv'.2)
      have hcl := arrOk_cells hv'.1
      have hlo := listOk_eq a la1 la2
      by_cases hc : cntC a la1 la2 lb1 = 0
      · rw [if_pos hc] at h
        have c1 := sOf_len hc
        have c2 := cnt_five hc n2.1
        have c3 := sOf_range (l2 := la2) hs
        have c4 := sOf_prod hc (arrOk_prod hv'.2)
        have h0 : listC a la1 = 0 := by
          by_cases h0 : listC a la1 = 0
          · exact h0
          · unfold cntC at hc; rw [if_neg h0] at hc; exact absurd hc h0
        rw [h0] at hlo
        by_cases hok : shOk (absL la2) = true
        · rw [if_pos hok] at h
          obtain ⟨ks, hks⟩ := (shapeOk_yes hok).rounds
          have hpr := shOk_prod hok
          obtain ⟨k1, hk1⟩ := (made_ev b lb1 lb2 (absL la2) (fromL (sOf la2 lb1) (absL la2) (winF (stTake (sOf la2 lb1) la2)) (prod (absL la2)).toNat) (by rw [absL_len]; omega) (by rw [fromL_len]; omega) (one_lt (by rw [c1, absL_len]) c3 c4 n2.2 _)).rounds
          rw [show ((b, absL la2, ofL b lb2 (fromL (sOf la2 lb1) (absL la2) (winF (stTake (sOf la2 lb1) la2)) (prod (absL la2)).toNat), 0) : ArrAns) = (r1, r2, r3, r4) from h] at hk1
          refine Take_yes k0 k1 a Aa1 ca1 la1 Aa2 ca2 la2 b Ab1 cb1 lb1 Ab2 cb2 lb2 w ha1 ka1 ha2 ka2 hb1 kb1 hb2 kb2 hk0 (absL la2) (fromL (sOf la2 lb1) (absL la2) (winF (stTake (sOf la2 lb1) la2)) (prod (absL la2)).toNat) 0 r1 r2 r3 r4 (fun W hW => ?_) hk1
          by_cases hz : lb1.length = 0
          · have e : sOf la2 lb1 = List.replicate la2.length 1 := if_pos hz
            rw [e] at c1 c3 ⊢
            exact takeMove_ones_ok a Aa1 ca1 la1 Aa2 ca2 la2 b Ab1 cb1 lb1 Ab2 cb2 lb2 W (Kd.C_below ha1 hW) ka1 (Kd.C_below ha2 hW) ka2 (Kd.C_below hb1 hW) kb1 (Kd.C_below hb2 hW) kb2 (fun W' hW' => axesFor_one a Aa1 ca1 la1 Aa2 ca2 la2 b Ab1 cb1 lb1 Ab2 cb2 lb2 W' (Kd.C_below (Kd.C_below ha1 hW) hW') ka1 (Kd.C_below (Kd.C_below ha2 hW) hW') ka2 (Kd.C_below (Kd.C_below hb1 hW) hW') kb1 (Kd.C_below (Kd.C_below hb2 hW) hW') kb2 hlo hz c2) hcl (by omega) ks hks c1 c2 hpr (absL_range hok) c3 (hrg_tr hok)
          · have e : sOf la2 lb1 = lb1 := if_neg hz
            rw [e] at c1 c3 ⊢
            exact takeMove_same_ok a Aa1 ca1 la1 Aa2 ca2 la2 b Ab1 cb1 lb1 Ab2 cb2 lb2 W (Kd.C_below ha1 hW) ka1 (Kd.C_below ha2 hW) ka2 (Kd.C_below hb1 hW) kb1 (Kd.C_below hb2 hW) kb2 (fun W' hW' => axesFor_same a Aa1 ca1 la1 Aa2 ca2 la2 b Ab1 cb1 lb1 Ab2 cb2 lb2 W' (Kd.C_below (Kd.C_below ha1 hW) hW') ka1 (Kd.C_below (Kd.C_below ha2 hW) hW') ka2 (Kd.C_below (Kd.C_below hb1 hW) hW') kb1 (Kd.C_below (Kd.C_below hb2 hW) hW') kb2 hlo hz c1.symm) hcl (by omega) ks hks c1 c2 hpr (absL_range hok) c3 (hrg_tr hok)
        · rw [if_neg hok] at h
          obtain ⟨ks, hks⟩ := (shapeOk_no hok).rounds
          obtain ⟨k1, hk1⟩ := (made_no b lb1 lb2 [] [] 7 (by decide)).rounds
          rw [show ((false, [], [], 7) : ArrAns) = noArr 7 from rfl, h] at hk1
          refine Take_yes k0 k1 a Aa1 ca1 la1 Aa2 ca2 la2 b Ab1 cb1 lb1 Ab2 cb2 lb2 w ha1 ka1 ha2 ka2 hb1 kb1 hb2 kb2 hk0 [] [] 7 r1 r2 r3 r4 (fun W hW => ?_) hk1
          by_cases hz : lb1.length = 0
          · exact takeMove_ones_no a Aa1 ca1 la1 Aa2 ca2 la2 b Ab1 cb1 lb1 Ab2 cb2 lb2 W (Kd.C_below ha1 hW) ka1 (Kd.C_below ha2 hW) ka2 (Kd.C_below hb1 hW) kb1 (Kd.C_below hb2 hW) kb2 (fun W' hW' => axesFor_one a Aa1 ca1 la1 Aa2 ca2 la2 b Ab1 cb1 lb1 Ab2 cb2 lb2 W' (Kd.C_below (Kd.C_below ha1 hW) hW') ka1 (Kd.C_below (Kd.C_below ha2 hW) hW') ka2 (Kd.C_below (Kd.C_below hb1 hW) hW') kb1 (Kd.C_below (Kd.C_below hb2 hW) hW') kb2 hlo hz c2) hcl (by omega) ks hks
          · exact takeMove_same_no a Aa1 ca1 la1 Aa2 ca2 la2 b Ab1 cb1 lb1 Ab2 cb2 lb2 W (Kd.C_below ha1 hW) ka1 (Kd.C_below ha2 hW) ka2 (Kd.C_below hb1 hW) kb1 (Kd.C_below hb2 hW) kb2 (fun W' hW' => axesFor_same a Aa1 ca1 la1 Aa2 ca2 la2 b Ab1 cb1 lb1 Ab2 cb2 lb2 W' (Kd.C_below (Kd.C_below ha1 hW) hW') ka1 (Kd.C_below (Kd.C_below ha2 hW) hW') ka2 (Kd.C_below (Kd.C_below hb1 hW) hW') kb1 (Kd.C_below (Kd.C_below hb2 hW) hW') kb2 hlo hz (by have := c1; unfold sOf at this; rw [if_neg hz] at this; omega)) hcl (by omega) ks hks
      · rw [if_neg hc] at h
        obtain ⟨k1, hk1⟩ := (made_no b lb1 lb2 [] [] _ hc).rounds
        rw [show ((false, [], [], cntC a la1 la2 lb1) : ArrAns) = noArr (cntC a la1 la2 lb1) from rfl, h] at hk1
        exact Take_yes k0 k1 a Aa1 ca1 la1 Aa2 ca2 la2 b Ab1 cb1 lb1 Ab2 cb2 lb2 w ha1 ka1 ha2 ka2 hb1 kb1 hb2 kb2 hk0 [] [] (cntC a la1 la2 lb1) r1 r2 r3 r4 (fun W hW => takeMove_bad a Aa1 ca1 la1 Aa2 ca2 la2 b Ab1 cb1 lb1 Ab2 cb2 lb2 W (Kd.C_below ha1 hW) ka1 (Kd.C_below ha2 hW) ka2 (Kd.C_below hb1 hW) kb1 (Kd.C_below hb2 hW) kb2 (cntC a la1 la2 lb1) hc (fun W' hW' => axes_bad a Aa1 ca1 la1 Aa2 ca2 la2 b Ab1 cb1 lb1 Ab2 cb2 lb2 W' (Kd.C_below (Kd.C_below ha1 hW) hW') ka1 (Kd.C_below (Kd.C_below ha2 hW) hW') ka2 (Kd.C_below (Kd.C_below hb1 hW) hW') kb1 (Kd.C_below (Kd.C_below hb2 hW) hW') kb2 hc)) hk1
    · rw [if_neg hv] at hk0 h
      simp only [noArr, Prod.mk.injEq] at h
      obtain ⟨rfl, rfl, rfl, rfl⟩ := h
      exact Take_no k0 3 a Aa1 ca1 la1 Aa2 ca2 la2 b Ab1 cb1 lb1 Ab2 cb2 lb2 w ha1 ka1 ha2 ka2 hb1 kb1 hb2 kb2 hk0 (by decide)
  · cases h
end Go.Proofs.Ytehfcnndjhjkoaa.PA
