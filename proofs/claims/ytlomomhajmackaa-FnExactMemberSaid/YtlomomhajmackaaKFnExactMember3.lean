import Derived.Test.YtlomomhajmackaaKFnExactMember2
import Derived.Deep.RegionHeld3
import Derived.StillTailTactics
import Derived.Deep.DeepCutAuto
import Derived.ProofKit
import Derived.OpenShut
import Derived.ChangeOld
import Derived.Below
import Derived.SizedLaws
import Derived.Lib.SmallJoins
import Derived.Deep.Fields

namespace Go.Proofs.Ytlomomhajmackaa.PA
open Go.RowKit Go.Proofs.YtlomomhajmackaaW.PrintWords Go.Proofs.YtlomomhajmackaaW.PrintLast Go.Proofs.YtlomomhajmackaaW.PrintMore
set_option linter.unusedVariables false
set_option linter.unusedSimpArgs false
theorem wpList_guardedM {P : Program} {ops : Array Oper} {Q : Exit → Act → World → Prop} {a : Act} {w : World} {rest : List Oper} {dst : Option Tmp} {op : Op} {type : TypeId} {pos : String} {after : Array Edge} {g : Nat × Bool}
    (hw : Region.wanted ⟨dst, op, type, pos, after, some g⟩ (yielded ops a.tmps) = true) (h : wpList P ops Q (⟨dst, op, type, pos, after, none⟩ :: rest) a w) : wpList P ops Q (⟨dst, op, type, pos, after, some g⟩ :: rest) a w := by
  simp only [wpList] at h ⊢
  rw [if_pos hw]
  rw [if_pos (by rfl)] at h
  exact h
theorem fz_no {s : Bool} {l : List Int} {v : Int} (h : v ∉ l) : fz s l v = l.length := by
  unfold fz
  have e : l.findIdx (fun x => x == v) = l.length := by
    rw [List.findIdx_eq_length]; intro x hx; simp; intro e; exact h (e ▸ hx)
  rw [e]; split <;> rfl
theorem fz_lt {l : List Int} {v : Int} (h : v ∈ l) : fz true l v < l.length := by
  unfold fz
  have : l.findIdx (fun x => x == v) < l.length := by rw [List.findIdx_lt_length]; exact ⟨v, h, by simp⟩
  simp; omega
set_option maxHeartbeats 2000000 in
set_option maxRecDepth 100000 in
theorem find_no (k0 : Nat) (a : Bool) (Aa1 : Option Addr) (ca1 : Nat) (la1 : List Int) (Aa2 : Option Addr) (ca2 : Nat) (la2 : List Int) (b : Bool) (Ab1 : Option Addr) (cb1 : Nat) (lb1 : List Int) (Ab2 : Option Addr) (cb2 : Nat) (lb2 : List Int) (w : World) (ha1 : Kd.C (Kd.int .i64) w Aa1 la1.length la1) (ka1 : la1.length ≤ ca1) (ha2 : Kd.C (Kd.int .i64) w Aa2 la2.length la2) (ka2 : la2.length ≤ ca2) (hb1 : Kd.C (Kd.int .i64) w Ab1 lb1.length lb1) (kb1 : lb1.length ≤ cb1) (hb2 : Kd.C (Kd.int .i64) w Ab2 lb2.length lb2) (kb2 : lb2.length ≤ cb2) (v : Int) (hv : impl_valid.f k0 [⟨a, la1, la2⟩, ⟨b, lb1, lb2⟩] = some v) (hv0 : v ≠ 0) :
    Calls Try.prog 10 #[.agg #[.bool a, .slice Aa1 la1.length ca1, .slice Aa2 la2.length ca2], .agg #[.bool b, .slice Ab1 lb1.length cb1, .slice Ab2 lb2.length cb2]] w fun e w' => ∃ v1_ v2_ : Value, e = .returned (.tuple #[.agg #[.bool false, v1_, v2_], .int .i64 v]) ∧ Kd.R (Kd.int .i64) 3 w' w.heap.size (fun k_ => some k_ ≠ (v2_ : Value).ownBlock) v1_ [] ∧ Kd.R (Kd.int .i64) 3 w' w.heap.size (fun k_ => some k_ ≠ (v1_ : Value).ownBlock) v2_ [] ∧ Below w.heap.size w w' := by
  have Ha1 := Aside0.mk ha1
  have Ka1 := Aside0.mk ka1
  clear ha1 ka1
  have Ha2 := Aside0.mk ha2
  have Ka2 := Aside0.mk ka2
  clear ha2 ka2
  have Hb1 := Aside0.mk hb1
  have Kb1 := Aside0.mk kb1
  clear hb1 kb1
  have Hb2 := Aside0.mk hb2
  have Kb2 := Aside0.mk kb2
  clear hb2 kb2
  have HV := Aside0.mk hv
  clear hv
  have c0 : (v == 0) = false := beq_eq_false_iff_ne.mpr hv0
  have c1 : (v != 0) = true := bne_iff_ne.mpr hv0
  clear hv0
  have HS := Aside0.mk (Sx.start w)
  go_enter Try.func10, Try.ntmps10
  go_wp2_with (first | ((with_reducible refine gate_dst (N := 2) rfl ?_); refine box_event ?hg (N := 2) ?hd (cs := #[.bool a, .slice Aa1 la1.length ca1, .slice Aa2 la2.length ca2]) (t := 26) ?hr ?_; (case hd => rfl); (case hg => rfl); (case hr => first | (go_simp; done) | (go_simp; rfl)); intro gK hg1 w1 hx1 hb1; have nS : Aside0 (Sx w w1 [(.blk gK #[.bool a, .slice Aa1 la1.length ca1, .slice Aa2 la2.length ca2] 26)]) := Aside0.mk (HS.out.box hg1 hx1 hb1); clear HS; have HS := nS; clear nS hg1 hx1 hb1) | ((with_reducible refine gate_dst (N := 3) rfl ?_); refine box_event ?hg (N := 3) ?hd (cs := #[.bool b, .slice Ab1 lb1.length cb1, .slice Ab2 lb2.length cb2]) (t := 26) ?hr ?_; (case hd => rfl); (case hg => rfl); (case hr => first | (go_simp; done) | (go_simp; rfl)); intro gB hg2 w2 hx2 hb2; have nS : Aside0 (Sx w w2 [(.blk gB #[.bool b, .slice Ab1 lb1.length cb1, .slice Ab2 lb2.length cb2] 26), (.blk gK #[.bool a, .slice Aa1 la1.length ca1, .slice Aa2 la2.length ca2] 26)]) := Aside0.mk (HS.out.box hg2 hx2 hb2); clear HS; have HS := nS; clear nS hg2 hx2 hb2) | ((with_reducible refine gate_dst (N := 4) rfl ?_); refine box_event ?hg (N := 4) ?hd (cs := #[.bool false, .slice none 0 0, .slice none 0 0]) (t := 26) ?hr ?_; (case hd => rfl); (case hg => rfl); (case hr => first | (go_simp; done) | (go_simp; rfl)); intro gR hg3 w3 hx3 hb3; have nS : Aside0 (Sx w w3 [(.blk gR #[.bool false, .slice none 0 0, .slice none 0 0] 26), (.blk gB #[.bool b, .slice Ab1 lb1.length cb1, .slice Ab2 lb2.length cb2] 26), (.blk gK #[.bool a, .slice Aa1 la1.length ca1, .slice Aa2 la2.length ca2] 26)]) := Aside0.mk (HS.out.box hg3 hx3 hb3); clear HS; have HS := nS; clear nS hg3 hx3 hb3) | ((with_reducible refine gate_dst (N := 13) rfl ?_); refine wpList_load_row rfl 26 (.tmp 2) rfl gK rfl 26 #[.bool a, .slice Aa1 la1.length ca1, .slice Aa2 la2.length ca2] (0, 0) _ (HS.out.blk 2 rfl) Try.underlying26 rfl (by kernel_rfl) ?_) | ((with_reducible refine gate_dst (N := 14) rfl ?_); refine wpList_load_row rfl 26 (.tmp 3) rfl gB rfl 26 #[.bool b, .slice Ab1 lb1.length cb1, .slice Ab2 lb2.length cb2] (0, 0) _ (HS.out.blk 1 rfl) Try.underlying26 rfl (by kernel_rfl) ?_) | ((with_reducible refine gate_dst (N := 15) rfl ?_); refine lit_event ?hg (N := 15) ?hd (cs := #[.bool a, .slice Aa1 la1.length ca1, .slice Aa2 la2.length ca2, .bool b, .slice Ab1 lb1.length cb1, .slice Ab2 lb2.length cb2]) (t := 26) (n := 2) ?hr ?_; (case hd => rfl); (case hg => rfl); (case hr => first | (go_simp; done) | (go_simp; rfl)); intro gV hg4 w4 hx4 hb4; have nS : Aside0 (Sx w w4 [(.blk gV #[.bool a, .slice Aa1 la1.length ca1, .slice Aa2 la2.length ca2, .bool b, .slice Ab1 lb1.length cb1, .slice Ab2 lb2.length cb2] 26), (.blk gR #[.bool false, .slice none 0 0, .slice none 0 0] 26), (.blk gB #[.bool b, .slice Ab1 lb1.length cb1, .slice Ab2 lb2.length cb2] 26), (.blk gK #[.bool a, .slice Aa1 la1.length ca1, .slice Aa2 la2.length ca2] 26)]) := Aside0.mk (HS.out.box hg4 hx4 hb4); clear HS; have HS := nS; clear nS hg4 hx4 hb4) | (go_at_call 27; refine (impl_valid.calls k0 _ 2 [⟨a, la1, la2⟩, ⟨b, lb1, lb2⟩] v _ (pair_C (HS.out.blk 0 rfl) (Kd.C_below Ha1.out HS.out.below) Ka1.out (Kd.C_below Ha2.out HS.out.below) Ka2.out (Kd.C_below Hb1.out HS.out.below) Kb1.out (Kd.C_below Hb2.out HS.out.below) Kb2.out) (Nat.le_refl _) HV.out).mono ?_; rintro e w5 ⟨rfl, hb5⟩; have nS : Aside0 (Sx w w5 [(.blk gV #[.bool a, .slice Aa1 la1.length ca1, .slice Aa2 la2.length ca2, .bool b, .slice Ab1 lb1.length cb1, .slice Ab2 lb2.length cb2] 26), (.blk gR #[.bool false, .slice none 0 0, .slice none 0 0] 26), (.blk gB #[.bool b, .slice Ab1 lb1.length cb1, .slice Ab2 lb2.length cb2] 26), (.blk gK #[.bool a, .slice Aa1 la1.length ca1, .slice Aa2 la2.length ca2] 26)]) := Aside0.mk (HS.out.step hb5); clear HS; have HS := nS; clear nS hb5) | ((with_reducible refine gate_store rfl ?_); refine store_named rfl 26 (.tmp 4) (.tmp 19) rfl gR #[.bool false, .slice none 0 0, .slice none 0 0] rfl rfl 26 #[.bool false, .slice none 0 0, .slice none 0 0] (HS.out.blk 1 rfl) (by kernel_rfl) rfl (by simp [Value.oneCell']) ?_; intro w6 hx6 hb6; have nS : Aside0 (Sx w w6 [(.blk gV #[.bool a, .slice Aa1 la1.length ca1, .slice Aa2 la2.length ca2, .bool b, .slice Ab1 lb1.length cb1, .slice Ab2 lb2.length cb2] 26), (.blk gR #[.bool false, .slice none 0 0, .slice none 0 0] 26), (.blk gB #[.bool b, .slice Ab1 lb1.length cb1, .slice Ab2 lb2.length cb2] 26), (.blk gK #[.bool a, .slice Aa1 la1.length ca1, .slice Aa2 la2.length ca2] 26)]) := Aside0.mk (HS.out.put 1 rfl hx6 hb6); clear HS; have HS := nS; clear nS hx6 hb6))
  refine bodyPost_ret (results_ct rfl _ _ gR 26 #[.bool false, .slice none 0 0, .slice none 0 0] (0, 0) _ rfl (HS.out.blk 1 rfl) Try.underlying26 rfl (by kernel_rfl)) rfl ?_
  exact ⟨_, _, rfl, Kd.R_nil _ _ _ _ _, Kd.R_nil _ _ _ _ _, HS.out.below⟩
set_option maxHeartbeats 2000000 in
set_option maxRecDepth 100000 in
theorem find_rank (k0 : Nat) (a : Bool) (Aa1 : Option Addr) (ca1 : Nat) (la1 : List Int) (Aa2 : Option Addr) (ca2 : Nat) (la2 : List Int) (b : Bool) (Ab1 : Option Addr) (cb1 : Nat) (lb1 : List Int) (Ab2 : Option Addr) (cb2 : Nat) (lb2 : List Int) (w : World) (ha1 : Kd.C (Kd.int .i64) w Aa1 la1.length la1) (ka1 : la1.length ≤ ca1) (ha2 : Kd.C (Kd.int .i64) w Aa2 la2.length la2) (ka2 : la2.length ≤ ca2) (hb1 : Kd.C (Kd.int .i64) w Ab1 lb1.length lb1) (kb1 : lb1.length ≤ cb1) (hb2 : Kd.C (Kd.int .i64) w Ab2 lb2.length lb2) (kb2 : lb2.length ≤ cb2) (hv : impl_valid.f k0 [⟨a, la1, la2⟩, ⟨b, lb1, lb2⟩] = some 0) (hl : la1.length ≠ 1) :
    Calls Try.prog 10 #[.agg #[.bool a, .slice Aa1 la1.length ca1, .slice Aa2 la2.length ca2], .agg #[.bool b, .slice Ab1 lb1.length cb1, .slice Ab2 lb2.length cb2]] w fun e w' => ∃ v1_ v2_ : Value, e = .returned (.tuple #[.agg #[.bool false, v1_, v2_], .int .i64 4]) ∧ Kd.R (Kd.int .i64) 3 w' w.heap.size (fun k_ => some k_ ≠ (v2_ : Value).ownBlock) v1_ [] ∧ Kd.R (Kd.int .i64) 3 w' w.heap.size (fun k_ => some k_ ≠ (v1_ : Value).ownBlock) v2_ [] ∧ Below w.heap.size w w' := by
  have Ha1 := Aside0.mk ha1
  have Ka1 := Aside0.mk ka1
  clear ha1 ka1
  have Ha2 := Aside0.mk ha2
  have Ka2 := Aside0.mk ka2
  clear ha2 ka2
  have Hb1 := Aside0.mk hb1
  have Kb1 := Aside0.mk kb1
  clear hb1 kb1
  have Hb2 := Aside0.mk hb2
  have Kb2 := Aside0.mk kb2
  clear hb2 kb2
  have HV := Aside0.mk hv
  clear hv
  have c0 : ((la1.length : Int) == 1) = false := beq_eq_false_iff_ne.mpr (by omega)
  have c1 : ((la1.length : Int) != 1) = true := bne_iff_ne.mpr (by omega)
  have c2 : ¬ la1.length = 1 := hl
  clear hl
  have HS := Aside0.mk (Sx.start w)
  go_enter Try.func10, Try.ntmps10
  go_wp2_with (first | ((with_reducible refine gate_dst (N := 2) rfl ?_); refine box_event ?hg (N := 2) ?hd (cs := #[.bool a, .slice Aa1 la1.length ca1, .slice Aa2 la2.length ca2]) (t := 26) ?hr ?_; (case hd => rfl); (case hg => rfl); (case hr => first | (go_simp; done) | (go_simp; rfl)); intro gK hg1 w1 hx1 hb1; have nS : Aside0 (Sx w w1 [(.blk gK #[.bool a, .slice Aa1 la1.length ca1, .slice Aa2 la2.length ca2] 26)]) := Aside0.mk (HS.out.box hg1 hx1 hb1); clear HS; have HS := nS; clear nS hg1 hx1 hb1) | ((with_reducible refine gate_dst (N := 3) rfl ?_); refine box_event ?hg (N := 3) ?hd (cs := #[.bool b, .slice Ab1 lb1.length cb1, .slice Ab2 lb2.length cb2]) (t := 26) ?hr ?_; (case hd => rfl); (case hg => rfl); (case hr => first | (go_simp; done) | (go_simp; rfl)); intro gB hg2 w2 hx2 hb2; have nS : Aside0 (Sx w w2 [(.blk gB #[.bool b, .slice Ab1 lb1.length cb1, .slice Ab2 lb2.length cb2] 26), (.blk gK #[.bool a, .slice Aa1 la1.length ca1, .slice Aa2 la2.length ca2] 26)]) := Aside0.mk (HS.out.box hg2 hx2 hb2); clear HS; have HS := nS; clear nS hg2 hx2 hb2) | ((with_reducible refine gate_dst (N := 4) rfl ?_); refine box_event ?hg (N := 4) ?hd (cs := #[.bool false, .slice none 0 0, .slice none 0 0]) (t := 26) ?hr ?_; (case hd => rfl); (case hg => rfl); (case hr => first | (go_simp; done) | (go_simp; rfl)); intro gR hg3 w3 hx3 hb3; have nS : Aside0 (Sx w w3 [(.blk gR #[.bool false, .slice none 0 0, .slice none 0 0] 26), (.blk gB #[.bool b, .slice Ab1 lb1.length cb1, .slice Ab2 lb2.length cb2] 26), (.blk gK #[.bool a, .slice Aa1 la1.length ca1, .slice Aa2 la2.length ca2] 26)]) := Aside0.mk (HS.out.box hg3 hx3 hb3); clear HS; have HS := nS; clear nS hg3 hx3 hb3) | ((with_reducible refine gate_dst (N := 13) rfl ?_); refine wpList_load_row rfl 26 (.tmp 2) rfl gK rfl 26 #[.bool a, .slice Aa1 la1.length ca1, .slice Aa2 la2.length ca2] (0, 0) _ (HS.out.blk 2 rfl) Try.underlying26 rfl (by kernel_rfl) ?_) | ((with_reducible refine gate_dst (N := 14) rfl ?_); refine wpList_load_row rfl 26 (.tmp 3) rfl gB rfl 26 #[.bool b, .slice Ab1 lb1.length cb1, .slice Ab2 lb2.length cb2] (0, 0) _ (HS.out.blk 1 rfl) Try.underlying26 rfl (by kernel_rfl) ?_) | ((with_reducible refine gate_dst (N := 15) rfl ?_); refine lit_event ?hg (N := 15) ?hd (cs := #[.bool a, .slice Aa1 la1.length ca1, .slice Aa2 la2.length ca2, .bool b, .slice Ab1 lb1.length cb1, .slice Ab2 lb2.length cb2]) (t := 26) (n := 2) ?hr ?_; (case hd => rfl); (case hg => rfl); (case hr => first | (go_simp; done) | (go_simp; rfl)); intro gV hg4 w4 hx4 hb4; have nS : Aside0 (Sx w w4 [(.blk gV #[.bool a, .slice Aa1 la1.length ca1, .slice Aa2 la2.length ca2, .bool b, .slice Ab1 lb1.length cb1, .slice Ab2 lb2.length cb2] 26), (.blk gR #[.bool false, .slice none 0 0, .slice none 0 0] 26), (.blk gB #[.bool b, .slice Ab1 lb1.length cb1, .slice Ab2 lb2.length cb2] 26), (.blk gK #[.bool a, .slice Aa1 la1.length ca1, .slice Aa2 la2.length ca2] 26)]) := Aside0.mk (HS.out.box hg4 hx4 hb4); clear HS; have HS := nS; clear nS hg4 hx4 hb4) | (go_at_call 27; refine (impl_valid.calls k0 _ 2 [⟨a, la1, la2⟩, ⟨b, lb1, lb2⟩] 0 _ (pair_C (HS.out.blk 0 rfl) (Kd.C_below Ha1.out HS.out.below) Ka1.out (Kd.C_below Ha2.out HS.out.below) Ka2.out (Kd.C_below Hb1.out HS.out.below) Kb1.out (Kd.C_below Hb2.out HS.out.below) Kb2.out) (Nat.le_refl _) HV.out).mono ?_; rintro e w5 ⟨rfl, hb5⟩; have nS : Aside0 (Sx w w5 [(.blk gV #[.bool a, .slice Aa1 la1.length ca1, .slice Aa2 la2.length ca2, .bool b, .slice Ab1 lb1.length cb1, .slice Ab2 lb2.length cb2] 26), (.blk gR #[.bool false, .slice none 0 0, .slice none 0 0] 26), (.blk gB #[.bool b, .slice Ab1 lb1.length cb1, .slice Ab2 lb2.length cb2] 26), (.blk gK #[.bool a, .slice Aa1 la1.length ca1, .slice Aa2 la2.length ca2] 26)]) := Aside0.mk (HS.out.step hb5); clear HS; have HS := nS; clear nS hb5) | ((with_reducible refine gate_dst (N := 21) rfl ?_); refine wpList_load_row rfl 26 (.tmp 2) rfl gK rfl 26 #[.bool a, .slice Aa1 la1.length ca1, .slice Aa2 la2.length ca2] (0, 0) _ (HS.out.blk 3 rfl) Try.underlying26 rfl (by kernel_rfl) ?_) | (go_at_call 28; refine (impl_Array_rank.calls a Aa1 ca1 la1 Aa2 ca2 la2 (la1.length : Int) _ (Kd.C_below Ha1.out HS.out.below) Ka1.out (Kd.C_below Ha2.out HS.out.below) Ka2.out rfl).mono ?_; rintro e w6 ⟨rfl, hb6⟩; have nS : Aside0 (Sx w w6 [(.blk gV #[.bool a, .slice Aa1 la1.length ca1, .slice Aa2 la2.length ca2, .bool b, .slice Ab1 lb1.length cb1, .slice Ab2 lb2.length cb2] 26), (.blk gR #[.bool false, .slice none 0 0, .slice none 0 0] 26), (.blk gB #[.bool b, .slice Ab1 lb1.length cb1, .slice Ab2 lb2.length cb2] 26), (.blk gK #[.bool a, .slice Aa1 la1.length ca1, .slice Aa2 la2.length ca2] 26)]) := Aside0.mk (HS.out.step hb6); clear HS; have HS := nS; clear nS hb6) | ((with_reducible refine gate_store rfl ?_); refine store_named rfl 26 (.tmp 4) (.tmp 24) rfl gR #[.bool false, .slice none 0 0, .slice none 0 0] rfl rfl 26 #[.bool false, .slice none 0 0, .slice none 0 0] (HS.out.blk 1 rfl) (by kernel_rfl) rfl (by simp [Value.oneCell']) ?_; intro w7 hx7 hb7; have nS : Aside0 (Sx w w7 [(.blk gV #[.bool a, .slice Aa1 la1.length ca1, .slice Aa2 la2.length ca2, .bool b, .slice Ab1 lb1.length cb1, .slice Ab2 lb2.length cb2] 26), (.blk gR #[.bool false, .slice none 0 0, .slice none 0 0] 26), (.blk gB #[.bool b, .slice Ab1 lb1.length cb1, .slice Ab2 lb2.length cb2] 26), (.blk gK #[.bool a, .slice Aa1 la1.length ca1, .slice Aa2 la2.length ca2] 26)]) := Aside0.mk (HS.out.put 1 rfl hx7 hb7); clear HS; have HS := nS; clear nS hx7 hb7))
  refine bodyPost_ret (results_ct rfl _ _ gR 26 #[.bool false, .slice none 0 0, .slice none 0 0] (0, 0) _ rfl (HS.out.blk 1 rfl) Try.underlying26 rfl (by kernel_rfl)) rfl ?_
  exact ⟨_, _, rfl, Kd.R_nil _ _ _ _ _, Kd.R_nil _ _ _ _ _, HS.out.below⟩
set_option maxHeartbeats 2000000 in
set_option maxRecDepth 100000 in
theorem find_ok (k0 : Nat) (a : Bool) (Aa1 : Option Addr) (ca1 : Nat) (la1 : List Int) (Aa2 : Option Addr) (ca2 : Nat) (la2 : List Int) (b : Bool) (Ab1 : Option Addr) (cb1 : Nat) (lb1 : List Int) (Ab2 : Option Addr) (cb2 : Nat) (lb2 : List Int) (w : World) (ha1 : Kd.C (Kd.int .i64) w Aa1 la1.length la1) (ka1 : la1.length ≤ ca1) (ha2 : Kd.C (Kd.int .i64) w Aa2 la2.length la2) (ka2 : la2.length ≤ ca2) (hb1 : Kd.C (Kd.int .i64) w Ab1 lb1.length lb1) (kb1 : lb1.length ≤ cb1) (hb2 : Kd.C (Kd.int .i64) w Ab2 lb2.length lb2) (kb2 : lb2.length ≤ cb2) (hv : impl_valid.f k0 [⟨a, la1, la2⟩, ⟨b, lb1, lb2⟩] = some 0) (hl : la1.length = 1) (hnm : la2.length ≤ 10000) (hrm : ∀ x ∈ la2, -1000000000000000 ≤ x ∧ x ≤ 1000000000000000) (hnq : lb2.length ≤ 10000) (hrq : ∀ x ∈ lb2, -1000000000000000 ≤ x ∧ x ≤ 1000000000000000) (hq1 : lb1.length ≤ 5) :
    Calls Try.prog 10 #[.agg #[.bool a, .slice Aa1 la1.length ca1, .slice Aa2 la2.length ca2], .agg #[.bool b, .slice Ab1 lb1.length cb1, .slice Ab2 lb2.length cb2]] w fun e w' => ∃ v1_ v2_ : Value, e = .returned (.tuple #[.agg #[.bool false, v1_, v2_], .int .i64 0]) ∧ Kd.R (Kd.int .i64) 3 w' w.heap.size (fun k_ => some k_ ≠ (v2_ : Value).ownBlock) v1_ lb1 ∧ Kd.R (Kd.int .i64) 3 w' w.heap.size (fun k_ => some k_ ≠ (v1_ : Value).ownBlock) v2_ (lb2.map (fun v => fz (a == b) la2 v + 1)) ∧ Below w.heap.size w w' := by
  have Ha1 := Aside0.mk ha1
  have Ka1 := Aside0.mk ka1
  clear ha1 ka1
  have Ha2 := Aside0.mk ha2
  have Ka2 := Aside0.mk ka2
  clear ha2 ka2
  have Hb1 := Aside0.mk hb1
  have Kb1 := Aside0.mk kb1
  clear hb1 kb1
  have Hb2 := Aside0.mk hb2
  have Kb2 := Aside0.mk kb2
  clear hb2 kb2
  have HV := Aside0.mk hv
  clear hv
  have c0 : ((la1.length : Int) == 1) = true := beq_iff_eq.mpr (by omega)
  have c1 : ((la1.length : Int) != 1) = false := by simp [hl]
  have HL1 := Aside0.mk hl
  clear hl
  have HNM := Aside0.mk hnm
  have HRM := Aside0.mk hrm
  have HRQ := Aside0.mk hrq
  have HCP := Aside0.mk (show impl_Array_copied.f b lb1 lb2 = some (b, lb1, lb2) by simp only [impl_Array_copied.f, clone_eq lb1 (by omega), clone_eq lb2 (by omega), Option.bind_some])
  clear hrm hrq
  have HS := Aside0.mk (Sx.start w)
  go_enter Try.func10, Try.ntmps10
  go_wp2_with (first | ((with_reducible refine gate_dst (N := 2) rfl ?_); refine box_event ?hg (N := 2) ?hd (cs := #[.bool a, .slice Aa1 la1.length ca1, .slice Aa2 la2.length ca2]) (t := 26) ?hr ?_; (case hd => rfl); (case hg => rfl); (case hr => first | (go_simp; done) | (go_simp; rfl)); intro gK hg1 w1 hx1 hb1; have nS : Aside0 (Sx w w1 [(.blk gK #[.bool a, .slice Aa1 la1.length ca1, .slice Aa2 la2.length ca2] 26)]) := Aside0.mk (HS.out.box hg1 hx1 hb1); clear HS; have HS := nS; clear nS hg1 hx1 hb1) | ((with_reducible refine gate_dst (N := 3) rfl ?_); refine box_event ?hg (N := 3) ?hd (cs := #[.bool b, .slice Ab1 lb1.length cb1, .slice Ab2 lb2.length cb2]) (t := 26) ?hr ?_; (case hd => rfl); (case hg => rfl); (case hr => first | (go_simp; done) | (go_simp; rfl)); intro gB hg2 w2 hx2 hb2; have nS : Aside0 (Sx w w2 [(.blk gB #[.bool b, .slice Ab1 lb1.length cb1, .slice Ab2 lb2.length cb2] 26), (.blk gK #[.bool a, .slice Aa1 la1.length ca1, .slice Aa2 la2.length ca2] 26)]) := Aside0.mk (HS.out.box hg2 hx2 hb2); clear HS; have HS := nS; clear nS hg2 hx2 hb2) | ((with_reducible refine gate_dst (N := 4) rfl ?_); refine box_event ?hg (N := 4) ?hd (cs := #[.bool false, .slice none 0 0, .slice none 0 0]) (t := 26) ?hr ?_; (case hd => rfl); (case hg => rfl); (case hr => first | (go_simp; done) | (go_simp; rfl)); intro gR hg3 w3 hx3 hb3; have nS : Aside0 (Sx w w3 [(.blk gR #[.bool false, .slice none 0 0, .slice none 0 0] 26), (.blk gB #[.bool b, .slice Ab1 lb1.length cb1, .slice Ab2 lb2.length cb2] 26), (.blk gK #[.bool a, .slice Aa1 la1.length ca1, .slice Aa2 la2.length ca2] 26)]) := Aside0.mk (HS.out.box hg3 hx3 hb3); clear HS; have HS := nS; clear nS hg3 hx3 hb3) | ((with_reducible refine gate_dst (N := 13) rfl ?_); refine wpList_load_row rfl 26 (.tmp 2) rfl gK rfl 26 #[.bool a, .slice Aa1 la1.length ca1, .slice Aa2 la2.length ca2] (0, 0) _ (HS.out.blk 2 rfl) Try.underlying26 rfl (by kernel_rfl) ?_) | ((with_reducible refine gate_dst (N := 14) rfl ?_); refine wpList_load_row rfl 26 (.tmp 3) rfl gB rfl 26 #[.bool b, .slice Ab1 lb1.length cb1, .slice Ab2 lb2.length cb2] (0, 0) _ (HS.out.blk 1 rfl) Try.underlying26 rfl (by kernel_rfl) ?_) | ((with_reducible refine gate_dst (N := 15) rfl ?_); refine lit_event ?hg (N := 15) ?hd (cs := #[.bool a, .slice Aa1 la1.length ca1, .slice Aa2 la2.length ca2, .bool b, .slice Ab1 lb1.length cb1, .slice Ab2 lb2.length cb2]) (t := 26) (n := 2) ?hr ?_; (case hd => rfl); (case hg => rfl); (case hr => first | (go_simp; done) | (go_simp; rfl)); intro gV hg4 w4 hx4 hb4; have nS : Aside0 (Sx w w4 [(.blk gV #[.bool a, .slice Aa1 la1.length ca1, .slice Aa2 la2.length ca2, .bool b, .slice Ab1 lb1.length cb1, .slice Ab2 lb2.length cb2] 26), (.blk gR #[.bool false, .slice none 0 0, .slice none 0 0] 26), (.blk gB #[.bool b, .slice Ab1 lb1.length cb1, .slice Ab2 lb2.length cb2] 26), (.blk gK #[.bool a, .slice Aa1 la1.length ca1, .slice Aa2 la2.length ca2] 26)]) := Aside0.mk (HS.out.box hg4 hx4 hb4); clear HS; have HS := nS; clear nS hg4 hx4 hb4) | (go_at_call 27; refine (impl_valid.calls k0 _ 2 [⟨a, la1, la2⟩, ⟨b, lb1, lb2⟩] 0 _ (pair_C (HS.out.blk 0 rfl) (Kd.C_below Ha1.out HS.out.below) Ka1.out (Kd.C_below Ha2.out HS.out.below) Ka2.out (Kd.C_below Hb1.out HS.out.below) Kb1.out (Kd.C_below Hb2.out HS.out.below) Kb2.out) (Nat.le_refl _) HV.out).mono ?_; rintro e w5 ⟨rfl, hb5⟩; have nS : Aside0 (Sx w w5 [(.blk gV #[.bool a, .slice Aa1 la1.length ca1, .slice Aa2 la2.length ca2, .bool b, .slice Ab1 lb1.length cb1, .slice Ab2 lb2.length cb2] 26), (.blk gR #[.bool false, .slice none 0 0, .slice none 0 0] 26), (.blk gB #[.bool b, .slice Ab1 lb1.length cb1, .slice Ab2 lb2.length cb2] 26), (.blk gK #[.bool a, .slice Aa1 la1.length ca1, .slice Aa2 la2.length ca2] 26)]) := Aside0.mk (HS.out.step hb5); clear HS; have HS := nS; clear nS hb5) | ((with_reducible refine gate_dst (N := 21) rfl ?_); refine wpList_load_row rfl 26 (.tmp 2) rfl gK rfl 26 #[.bool a, .slice Aa1 la1.length ca1, .slice Aa2 la2.length ca2] (0, 0) _ (HS.out.blk 3 rfl) Try.underlying26 rfl (by kernel_rfl) ?_) | (go_at_call 28; refine (impl_Array_rank.calls a Aa1 ca1 la1 Aa2 ca2 la2 (la1.length : Int) _ (Kd.C_below Ha1.out HS.out.below) Ka1.out (Kd.C_below Ha2.out HS.out.below) Ka2.out rfl).mono ?_; rintro e w6 ⟨rfl, hb6⟩; have nS : Aside0 (Sx w w6 [(.blk gV #[.bool a, .slice Aa1 la1.length ca1, .slice Aa2 la2.length ca2, .bool b, .slice Ab1 lb1.length cb1, .slice Ab2 lb2.length cb2] 26), (.blk gR #[.bool false, .slice none 0 0, .slice none 0 0] 26), (.blk gB #[.bool b, .slice Ab1 lb1.length cb1, .slice Ab2 lb2.length cb2] 26), (.blk gK #[.bool a, .slice Aa1 la1.length ca1, .slice Aa2 la2.length ca2] 26)]) := Aside0.mk (HS.out.step hb6); clear HS; have HS := nS; clear nS hb6) | ((with_reducible refine gate_dst (N := 25) rfl ?_); refine wpList_load_row rfl 26 (.tmp 2) rfl gK rfl 26 #[.bool a, .slice Aa1 la1.length ca1, .slice Aa2 la2.length ca2] (0, 0) _ (HS.out.blk 3 rfl) Try.underlying26 rfl (by kernel_rfl) ?_) | (go_at_call 29; refine (firstPlaces_any a Aa1 _ ca1 Aa2 ca2 la2 _ (Kd.C_below Ha2.out HS.out.below) HRM.out HNM.out).mono ?_; rintro e w7 ⟨bM, rfl, hge7, hm7, hb7⟩; have HM := Aside0.mk hm7; clear hm7 hge7; have nS : Aside0 (Sx w w7 [(.blk gV #[.bool a, .slice Aa1 la1.length ca1, .slice Aa2 la2.length ca2, .bool b, .slice Ab1 lb1.length cb1, .slice Ab2 lb2.length cb2] 26), (.blk gR #[.bool false, .slice none 0 0, .slice none 0 0] 26), (.blk gB #[.bool b, .slice Ab1 lb1.length cb1, .slice Ab2 lb2.length cb2] 26), (.blk gK #[.bool a, .slice Aa1 la1.length ca1, .slice Aa2 la2.length ca2] 26)]) := Aside0.mk (HS.out.step hb7); clear HS; have HS := nS; clear nS hb7) | ((with_reducible refine gate_dst (N := 27) rfl ?_); refine wpList_load_row rfl 26 (.tmp 3) rfl gB rfl 26 #[.bool b, .slice Ab1 lb1.length cb1, .slice Ab2 lb2.length cb2] (0, 0) _ (HS.out.blk 2 rfl) Try.underlying26 rfl (by kernel_rfl) ?_) | (go_at_call 30; refine (impl_Array_copied.calls b Ab1 cb1 lb1 Ab2 cb2 lb2 b lb1 lb2 _ (Kd.C_below Hb1.out HS.out.below) Kb1.out (Kd.C_below Hb2.out HS.out.below) Kb2.out HCP.out).mono ?_; rintro e w8 ⟨v18, v28, rfl, hr18, hr28, hb8⟩; obtain ⟨AS, cS, hv_⟩ := Kd.R_slice hr18; subst hv_; obtain ⟨AD, cD, hv_⟩ := Kd.R_slice hr28; subst hv_; have HND := Aside0.mk (show ∀ k, (Value.slice AD lb2.length cD).ownBlock = some k → bM ≠ k from fun k hk e => by have h1 := HM.out.lt; have h2 := Kd.R_base hr28 k hk; omega); have nM : Aside0 (MapFirst w8 bM la2) := Aside0.mk (HM.out.below hb8); clear HM; have HM := nM; clear nM; have nS : Aside0 (Sx w w8 [(.row (.slice AS lb1.length cS) lb1), (.row (.slice AD lb2.length cD) lb2), (.blk gV #[.bool a, .slice Aa1 la1.length ca1, .slice Aa2 la2.length ca2, .bool b, .slice Ab1 lb1.length cb1, .slice Ab2 lb2.length cb2] 26), (.blk gR #[.bool false, .slice none 0 0, .slice none 0 0] 26), (.blk gB #[.bool b, .slice Ab1 lb1.length cb1, .slice Ab2 lb2.length cb2] 26), (.blk gK #[.bool a, .slice Aa1 la1.length ca1, .slice Aa2 la2.length ca2] 26)]) := Aside0.mk (HS.out.addRow2 hb8 hr18 hr28); clear HS; have HS := nS; clear nS hb8 hr18 hr28) | (go_at_call 31; refine (as_any b false AS lb1.length cS AD lb2.length cD _).mono ?_; rintro e w9 ⟨rfl, hb9⟩; have nM : Aside0 (MapFirst w9 bM la2) := Aside0.mk (HM.out.below hb9); clear HM; have HM := nM; clear nM; have nS : Aside0 (Sx w w9 [(.row (.slice AS lb1.length cS) lb1), (.row (.slice AD lb2.length cD) lb2), (.blk gV #[.bool a, .slice Aa1 la1.length ca1, .slice Aa2 la2.length ca2, .bool b, .slice Ab1 lb1.length cb1, .slice Ab2 lb2.length cb2] 26), (.blk gR #[.bool false, .slice none 0 0, .slice none 0 0] 26), (.blk gB #[.bool b, .slice Ab1 lb1.length cb1, .slice Ab2 lb2.length cb2] 26), (.blk gK #[.bool a, .slice Aa1 la1.length ca1, .slice Aa2 la2.length ca2] 26)]) := Aside0.mk (HS.out.step hb9); clear HS; have HS := nS; clear nS hb9) | ((with_reducible refine gate_dst (N := 8) rfl ?_); refine box_event ?hg (N := 8) ?hd (cs := #[.bool false, .slice none 0 0, .slice none 0 0]) (t := 26) ?hr ?_; (case hd => rfl); (case hg => rfl); (case hr => first | (go_simp; done) | (go_simp; rfl)); intro gO hg10 w10 hx10 hb10; have HNO := Aside0.mk (show bM ≠ gO from fun e => by have h1 := HM.out.lt; omega); have nM : Aside0 (MapFirst w10 bM la2) := Aside0.mk (HM.out.below hb10); clear HM; have HM := nM; clear nM; have nS : Aside0 (Sx w w10 [(.blk gO #[.bool false, .slice none 0 0, .slice none 0 0] 26), (.row (.slice AS lb1.length cS) lb1), (.row (.slice AD lb2.length cD) lb2), (.blk gV #[.bool a, .slice Aa1 la1.length ca1, .slice Aa2 la2.length ca2, .bool b, .slice Ab1 lb1.length cb1, .slice Ab2 lb2.length cb2] 26), (.blk gR #[.bool false, .slice none 0 0, .slice none 0 0] 26), (.blk gB #[.bool b, .slice Ab1 lb1.length cb1, .slice Ab2 lb2.length cb2] 26), (.blk gK #[.bool a, .slice Aa1 la1.length ca1, .slice Aa2 la2.length ca2] 26)]) := Aside0.mk (HS.out.box hg10 hx10 hb10); clear HS; have HS := nS; clear nS hg10 hx10 hb10) | ((with_reducible refine gate_store rfl ?_); refine store_named rfl 26 (.tmp 8) (.tmp 29) rfl gO #[.bool false, .slice AS lb1.length cS, .slice AD lb2.length cD] rfl rfl 26 #[.bool false, .slice none 0 0, .slice none 0 0] (HS.out.blk 0 rfl) (by kernel_rfl) rfl (by simp [Value.oneCell']) ?_; intro w11 hx11 hb11; have nM : Aside0 (MapFirst w11 bM la2) := Aside0.mk (HM.out.but hb11 HNO.out); clear HM; have HM := nM; clear nM; have nS : Aside0 (Sx w w11 [(.blk gO #[.bool false, .slice AS lb1.length cS, .slice AD lb2.length cD] 26), (.row (.slice AS lb1.length cS) lb1), (.row (.slice AD lb2.length cD) lb2), (.blk gV #[.bool a, .slice Aa1 la1.length ca1, .slice Aa2 la2.length ca2, .bool b, .slice Ab1 lb1.length cb1, .slice Ab2 lb2.length cb2] 26), (.blk gR #[.bool false, .slice none 0 0, .slice none 0 0] 26), (.blk gB #[.bool b, .slice Ab1 lb1.length cb1, .slice Ab2 lb2.length cb2] 26), (.blk gK #[.bool a, .slice Aa1 la1.length ca1, .slice Aa2 la2.length ca2] 26)]) := Aside0.mk (HS.out.put 0 rfl hx11 hb11); clear HS; have HS := nS; clear nS hx11 hb11) | ((with_reducible refine gate_dst (N := 31) rfl ?_); refine ev_load rfl 22 (.tmp 30) rfl ⟨gB, 2, none⟩ rfl (.slice Ab2 lb2.length cb2) ((blk_cell (HS.out.blk 5 rfl) 2).trans rfl) (by kernel_rfl) ?_))
  go_loopw [9, 10, 11, 12, 33] (fun _ _ _ _ z wr => ∃ j : Nat, z = .int .i64 (j : Int) ∧ Aside0 (j ≤ lb2.length) ∧ Aside0 (MapFirst wr bM la2) ∧ Aside0 (Sx w wr [(.blk gO #[.bool false, .slice AS lb1.length cS, .slice AD lb2.length cD] 26), (.row (.slice AS lb1.length cS) lb1), (.row (.slice AD lb2.length cD) ((lb2.map (fun v => fz (a == b) la2 v + 1)).take j ++ lb2.drop j)), (.blk gV #[.bool a, .slice Aa1 la1.length ca1, .slice Aa2 la2.length ca2, .bool b, .slice Ab1 lb1.length cb1, .slice Ab2 lb2.length cb2] 26), (.blk gR #[.bool false, .slice none 0 0, .slice none 0 0] 26), (.blk gB #[.bool b, .slice Ab1 lb1.length cb1, .slice Ab2 lb2.length cb2] 26), (.blk gK #[.bool a, .slice Aa1 la1.length ca1, .slice Aa2 la2.length ca2] 26)])) (fun _ _ _ _ z _ => lb2.length - (intOf z).toNat)
  case atStart => exact ⟨0, rfl, ⟨Nat.zero_le _⟩, HM, ⟨HS.out⟩⟩
  case round =>
    clear HS HM
    obtain ⟨j, rfl, hj, HM, HS⟩ := hrel
    by_cases hlt : j < lb2.length
    · obtain ⟨ad, rfl, y1⟩ := Kd.at_int (Kd.C_below Hb2.out HS.out.below) (j : Int) (by omega) (by omega)
      rw [Int.toNat_natCast] at y1
      have hmem : rd lb2 (j : Int) ∈ lb2 := by
        simp only [rd, Int.toNat_natCast, List.getD_eq_getElem?_getD, List.getElem?_eq_getElem hlt, Option.getD_some]; exact List.getElem_mem hlt
      have hb := HRQ.out _ hmem
      have hfo := fill_over (lb2.map (fun v => fz (a == b) la2 v + 1)) lb2 j _ (by simp) (by simpa using hlt) (rd_map hlt)
      obtain ⟨v, hv⟩ : ∃ v, rd lb2 (j : Int) = v := ⟨_, rfl⟩
      rw [hv] at y1 hb hfo
      have HFO := Aside0.mk hfo
      have HW := Aside0.mk (WalkArith.wf_i64 (n := v) (by omega))
      have p0 : 0 ≤ (j : Int) := by omega
      have p1 : (j : Int) < (lb2.length : Int) := by omega
      have HLT := Aside0.mk hlt
      have HLL := Aside0.mk (show ((lb2.map (fun v => fz (a == b) la2 v + 1)).take j ++ lb2.drop j).length = lb2.length by simp; omega)
      obtain ⟨gd, eA, xS, fS⟩ := HS.out.cellOf 2 rfl j (by rw [HLL.out]; exact hlt)
      subst eA
      have HND := Aside0.mk (show bM ≠ gd from HND.out gd rfl)
      have HJ := Aside0.mk (show j < ((lb2.map (fun v => fz (a == b) la2 v + 1)).take j ++ lb2.drop j).length by rw [HLL.out]; exact hlt)
      clear hmem hb hfo hv xS fS
      by_cases hv : v ∈ la2
      · have HVM := Aside0.mk hv
        clear hv
        by_cases hab : a = b
        · subst hab
          go_wp2_with (first | ((with_reducible refine gate_dst (N := 39) rfl ?_); refine ev_load rfl 22 (.tmp 38) rfl ⟨gO, 2, none⟩ rfl (.slice (some ⟨gd, 0, none⟩) lb2.length cD) ((blk_cell (HS.out.blk 0 rfl) 2).trans rfl) (by kernel_rfl) ?_) | ((with_reducible refine gate_dst (N := 42) rfl ?_); refine ev_load rfl 22 (.tmp 41) rfl ⟨gK, 2, none⟩ rfl (.slice Aa2 la2.length ca2) ((blk_cell (HS.out.blk 6 rfl) 2).trans rfl) (by kernel_rfl) ?_) | ((with_reducible refine gate_store rfl ?_); refine Sx.storeAt HS.out 2 rfl rfl 3 (.tmp 45) (.tmp 44) rfl j (HJ.out) rfl ((la2.length : Int) + 1) rfl (by kernel_rfl) ?_; intro wy1 n2 hby1; have nM : Aside0 (MapFirst wy1 bM la2) := Aside0.mk (HM.out.but hby1 HND.out); clear HM; have HM := nM; clear nM; have nS : Aside0 (Sx w wy1 [(.blk gO #[.bool false, .slice AS lb1.length cS, .slice (some ⟨gd, 0, none⟩) lb2.length cD] 26), (.row (.slice AS lb1.length cS) lb1), (.row (.slice (some ⟨gd, 0, none⟩) lb2.length cD) (((lb2.map (fun v => fz (a == a) la2 v + 1)).take j ++ lb2.drop j).set j ((la2.length : Int) + 1))), (.blk gV #[.bool a, .slice Aa1 la1.length ca1, .slice Aa2 la2.length ca2, .bool a, .slice Ab1 lb1.length cb1, .slice (some ad) lb2.length cb2] 26), (.blk gR #[.bool false, .slice none 0 0, .slice none 0 0] 26), (.blk gB #[.bool a, .slice Ab1 lb1.length cb1, .slice (some ad) lb2.length cb2] 26), (.blk gK #[.bool a, .slice Aa1 la1.length ca1, .slice Aa2 la2.length ca2] 26)]) := Aside0.mk n2; clear HS n2 hby1; have HS := nS; clear nS) | ((with_reducible refine gate_dst (N := 49) rfl ?_); refine ev_first HM.out rfl (.tmp 47) (.tmp 48) rfl rfl v rfl HW.out ?_; intro c hc; obtain rfl := hc HVM.out; clear hc; rw [decide_eq_true HVM.out]) | ((with_reducible refine wpList_guardedM ?hw ?_); (case hw => first | rfl | (go_simp; done))) | ((with_reducible refine gate_dst (N := 55) rfl ?_); refine ev_load rfl 4 (.tmp 54) rfl ⟨gK, 0, none⟩ rfl (.bool a) ((blk_cell (HS.out.blk 6 rfl) 0).trans rfl) (by kernel_rfl) ?_) | ((with_reducible refine gate_dst (N := 57) rfl ?_); refine ev_load rfl 4 (.tmp 56) rfl ⟨gB, 0, none⟩ rfl (.bool a) ((blk_cell (HS.out.blk 5 rfl) 0).trans rfl) (by kernel_rfl) ?_) | ((with_reducible refine gate_dst (N := 61) rfl ?_); refine ev_load rfl 22 (.tmp 60) rfl ⟨gO, 2, none⟩ rfl (.slice (some ⟨gd, 0, none⟩) lb2.length cD) ((blk_cell (HS.out.blk 0 rfl) 2).trans rfl) (by kernel_rfl) ?_) | ((with_reducible refine gate_store rfl ?_); refine Sx.storeAt HS.out 2 rfl rfl 3 (.tmp 64) (.tmp 63) rfl j (by rw [List.length_set]; exact HJ.out) rfl (Fp la2 v) rfl (by kernel_rfl) ?_; intro wy2 n2 hby2; have nM : Aside0 (MapFirst wy2 bM la2) := Aside0.mk (HM.out.but hby2 HND.out); clear HM; have HM := nM; clear nM; have nS : Aside0 (Sx w wy2 [(.blk gO #[.bool false, .slice AS lb1.length cS, .slice (some ⟨gd, 0, none⟩) lb2.length cD] 26), (.row (.slice AS lb1.length cS) lb1), (.row (.slice (some ⟨gd, 0, none⟩) lb2.length cD) ((((lb2.map (fun v => fz (a == a) la2 v + 1)).take j ++ lb2.drop j).set j ((la2.length : Int) + 1)).set j (Fp la2 v))), (.blk gV #[.bool a, .slice Aa1 la1.length ca1, .slice Aa2 la2.length ca2, .bool a, .slice Ab1 lb1.length cb1, .slice (some ad) lb2.length cb2] 26), (.blk gR #[.bool false, .slice none 0 0, .slice none 0 0] 26), (.blk gB #[.bool a, .slice Ab1 lb1.length cb1, .slice (some ad) lb2.length cb2] 26), (.blk gK #[.bool a, .slice Aa1 la1.length ca1, .slice Aa2 la2.length ca2] 26)]) := Aside0.mk n2; clear HS n2 hby2; have HS := nS; clear nS))
          go_roundw
          case rel =>
            refine ⟨j + 1, by push_cast; rfl, ⟨HLT.out⟩, HM, ⟨?_⟩⟩
            rw [← HFO.out, show fz (a == a) la2 v + 1 = Fp la2 v from by unfold fz Fp; simp]
            have := HS.out; rw [List.set_set] at this; exact this
          case measure => simp [intOf] <;> omega
        · have e1 : (a == b) = false := beq_eq_false_iff_ne.mpr hab
          have e2 : decide (a = b) = false := decide_eq_false hab
          have HE := Aside0.mk e1
          go_wp2_with (first | ((with_reducible refine gate_dst (N := 39) rfl ?_); refine ev_load rfl 22 (.tmp 38) rfl ⟨gO, 2, none⟩ rfl (.slice (some ⟨gd, 0, none⟩) lb2.length cD) ((blk_cell (HS.out.blk 0 rfl) 2).trans rfl) (by kernel_rfl) ?_) | ((with_reducible refine gate_dst (N := 42) rfl ?_); refine ev_load rfl 22 (.tmp 41) rfl ⟨gK, 2, none⟩ rfl (.slice Aa2 la2.length ca2) ((blk_cell (HS.out.blk 6 rfl) 2).trans rfl) (by kernel_rfl) ?_) | ((with_reducible refine gate_store rfl ?_); refine Sx.storeAt HS.out 2 rfl rfl 3 (.tmp 45) (.tmp 44) rfl j (HJ.out) rfl ((la2.length : Int) + 1) rfl (by kernel_rfl) ?_; intro wy1 n2 hby1; have nM : Aside0 (MapFirst wy1 bM la2) := Aside0.mk (HM.out.but hby1 HND.out); clear HM; have HM := nM; clear nM; have nS : Aside0 (Sx w wy1 [(.blk gO #[.bool false, .slice AS lb1.length cS, .slice (some ⟨gd, 0, none⟩) lb2.length cD] 26), (.row (.slice AS lb1.length cS) lb1), (.row (.slice (some ⟨gd, 0, none⟩) lb2.length cD) (((lb2.map (fun v => fz (a == b) la2 v + 1)).take j ++ lb2.drop j).set j ((la2.length : Int) + 1))), (.blk gV #[.bool a, .slice Aa1 la1.length ca1, .slice Aa2 la2.length ca2, .bool b, .slice Ab1 lb1.length cb1, .slice (some ad) lb2.length cb2] 26), (.blk gR #[.bool false, .slice none 0 0, .slice none 0 0] 26), (.blk gB #[.bool b, .slice Ab1 lb1.length cb1, .slice (some ad) lb2.length cb2] 26), (.blk gK #[.bool a, .slice Aa1 la1.length ca1, .slice Aa2 la2.length ca2] 26)]) := Aside0.mk n2; clear HS n2 hby1; have HS := nS; clear nS) | ((with_reducible refine gate_dst (N := 49) rfl ?_); refine ev_first HM.out rfl (.tmp 47) (.tmp 48) rfl rfl v rfl HW.out ?_; intro c hc; obtain rfl := hc HVM.out; clear hc; rw [decide_eq_true HVM.out]) | ((with_reducible refine wpList_guardedM ?hw ?_); (case hw => first | rfl | (go_simp; done))) | ((with_reducible refine gate_dst (N := 55) rfl ?_); refine ev_load rfl 4 (.tmp 54) rfl ⟨gK, 0, none⟩ rfl (.bool a) ((blk_cell (HS.out.blk 6 rfl) 0).trans rfl) (by kernel_rfl) ?_) | ((with_reducible refine gate_dst (N := 57) rfl ?_); refine ev_load rfl 4 (.tmp 56) rfl ⟨gB, 0, none⟩ rfl (.bool b) ((blk_cell (HS.out.blk 5 rfl) 0).trans rfl) (by kernel_rfl) ?_))
          go_roundw
          case rel =>
            refine ⟨j + 1, by push_cast; rfl, ⟨HLT.out⟩, HM, ⟨?_⟩⟩
            rw [← HFO.out, show fz (a == b) la2 v + 1 = (la2.length : Int) + 1 from by rw [HE.out]; rfl]
            exact HS.out
          case measure => simp [intOf] <;> omega
      · have HVM := Aside0.mk hv
        clear hv
        go_wp2_with (first | ((with_reducible refine gate_dst (N := 39) rfl ?_); refine ev_load rfl 22 (.tmp 38) rfl ⟨gO, 2, none⟩ rfl (.slice (some ⟨gd, 0, none⟩) lb2.length cD) ((blk_cell (HS.out.blk 0 rfl) 2).trans rfl) (by kernel_rfl) ?_) | ((with_reducible refine gate_dst (N := 42) rfl ?_); refine ev_load rfl 22 (.tmp 41) rfl ⟨gK, 2, none⟩ rfl (.slice Aa2 la2.length ca2) ((blk_cell (HS.out.blk 6 rfl) 2).trans rfl) (by kernel_rfl) ?_) | ((with_reducible refine gate_store rfl ?_); refine Sx.storeAt HS.out 2 rfl rfl 3 (.tmp 45) (.tmp 44) rfl j (HJ.out) rfl ((la2.length : Int) + 1) rfl (by kernel_rfl) ?_; intro wy1 n2 hby1; have nM : Aside0 (MapFirst wy1 bM la2) := Aside0.mk (HM.out.but hby1 HND.out); clear HM; have HM := nM; clear nM; have nS : Aside0 (Sx w wy1 [(.blk gO #[.bool false, .slice AS lb1.length cS, .slice (some ⟨gd, 0, none⟩) lb2.length cD] 26), (.row (.slice AS lb1.length cS) lb1), (.row (.slice (some ⟨gd, 0, none⟩) lb2.length cD) (((lb2.map (fun v => fz (a == b) la2 v + 1)).take j ++ lb2.drop j).set j ((la2.length : Int) + 1))), (.blk gV #[.bool a, .slice Aa1 la1.length ca1, .slice Aa2 la2.length ca2, .bool b, .slice Ab1 lb1.length cb1, .slice (some ad) lb2.length cb2] 26), (.blk gR #[.bool false, .slice none 0 0, .slice none 0 0] 26), (.blk gB #[.bool b, .slice Ab1 lb1.length cb1, .slice (some ad) lb2.length cb2] 26), (.blk gK #[.bool a, .slice Aa1 la1.length ca1, .slice Aa2 la2.length ca2] 26)]) := Aside0.mk n2; clear HS n2 hby1; have HS := nS; clear nS) | ((with_reducible refine gate_dst (N := 49) rfl ?_); refine ev_first HM.out rfl (.tmp 47) (.tmp 48) rfl rfl v rfl HW.out ?_; intro c hc; clear hc; rw [decide_eq_false HVM.out]))
        go_roundw
        case rel =>
          refine ⟨j + 1, by push_cast; rfl, ⟨HLT.out⟩, HM, ⟨?_⟩⟩
          rw [← HFO.out, show fz (a == b) la2 v + 1 = (la2.length : Int) + 1 from by rw [fz_no HVM.out]]
          exact HS.out
        case measure => simp [intOf] <;> omega
    · obtain rfl : j = lb2.length := by have := hj.out; omega
      have HS' : Aside0 (Sx w wr [(.blk gO #[.bool false, .slice AS lb1.length cS, .slice AD lb2.length cD] 26), (.row (.slice AS lb1.length cS) lb1), (.row (.slice AD lb2.length cD) (lb2.map (fun v => fz (a == b) la2 v + 1))), (.blk gV #[.bool a, .slice Aa1 la1.length ca1, .slice Aa2 la2.length ca2, .bool b, .slice Ab1 lb1.length cb1, .slice Ab2 lb2.length cb2] 26), (.blk gR #[.bool false, .slice none 0 0, .slice none 0 0] 26), (.blk gB #[.bool b, .slice Ab1 lb1.length cb1, .slice Ab2 lb2.length cb2] 26), (.blk gK #[.bool a, .slice Aa1 la1.length ca1, .slice Aa2 la2.length ca2] 26)]) := Aside0.mk (by have := HS.out; rw [List.drop_length, List.append_nil, List.take_of_length_le (by simp)] at this; exact this)
      clear HS HM
      have HS := HS'
      clear HS'
      go_wp2_with (first | ((with_reducible refine gate_dst (N := 66) rfl ?_); refine wpList_load_row rfl 26 (.tmp 8) rfl gO rfl 26 #[.bool false, .slice AS lb1.length cS, .slice AD lb2.length cD] (0, 0) _ (HS.out.blk 0 rfl) Try.underlying26 rfl (by kernel_rfl) ?_) | ((with_reducible refine gate_store rfl ?_); refine store_named rfl 26 (.tmp 4) (.tmp 66) rfl gR #[.bool false, .slice AS lb1.length cS, .slice AD lb2.length cD] rfl rfl 26 #[.bool false, .slice none 0 0, .slice none 0 0] (HS.out.blk 4 rfl) (by kernel_rfl) rfl (by simp [Value.oneCell']) ?_; intro wz1 hxz1 hbz1; have nS : Aside0 (Sx w wz1 [(.blk gO #[.bool false, .slice AS lb1.length cS, .slice AD lb2.length cD] 26), (.row (.slice AS lb1.length cS) lb1), (.row (.slice AD lb2.length cD) (lb2.map (fun v => fz (a == b) la2 v + 1))), (.blk gV #[.bool a, .slice Aa1 la1.length ca1, .slice Aa2 la2.length ca2, .bool b, .slice Ab1 lb1.length cb1, .slice Ab2 lb2.length cb2] 26), (.blk gR #[.bool false, .slice AS lb1.length cS, .slice AD lb2.length cD] 26), (.blk gB #[.bool b, .slice Ab1 lb1.length cb1, .slice Ab2 lb2.length cb2] 26), (.blk gK #[.bool a, .slice Aa1 la1.length ca1, .slice Aa2 la2.length ca2] 26)]) := Aside0.mk (HS.out.put 4 rfl hxz1 hbz1); clear HS; have HS := nS; clear nS hxz1 hbz1))
      refine bodyPost_ret (results_ct rfl _ _ gR 26 #[.bool false, .slice AS lb1.length cS, .slice AD lb2.length cD] (0, 0) _ rfl (HS.out.blk 4 rfl) Try.underlying26 rfl (by kernel_rfl)) rfl ?_
      refine ⟨_, _, rfl, (HS.out.two 1 2 (by decide) rfl rfl).1, (HS.out.two 1 2 (by decide) rfl rfl).2, HS.out.below⟩
set_option maxHeartbeats 2000000 in
set_option maxRecDepth 100000 in
theorem member_no (k0 : Nat) (a : Bool) (Aa1 : Option Addr) (ca1 : Nat) (la1 : List Int) (Aa2 : Option Addr) (ca2 : Nat) (la2 : List Int) (b : Bool) (Ab1 : Option Addr) (cb1 : Nat) (lb1 : List Int) (Ab2 : Option Addr) (cb2 : Nat) (lb2 : List Int) (w : World) (ha1 : Kd.C (Kd.int .i64) w Aa1 la1.length la1) (ka1 : la1.length ≤ ca1) (ha2 : Kd.C (Kd.int .i64) w Aa2 la2.length la2) (ka2 : la2.length ≤ ca2) (hb1 : Kd.C (Kd.int .i64) w Ab1 lb1.length lb1) (kb1 : lb1.length ≤ cb1) (hb2 : Kd.C (Kd.int .i64) w Ab2 lb2.length lb2) (kb2 : lb2.length ≤ cb2) (v : Int) (hv : impl_valid.f k0 [⟨a, la1, la2⟩, ⟨b, lb1, lb2⟩] = some v) (hv0 : v ≠ 0) :
    Calls Try.prog 15 #[.agg #[.bool a, .slice Aa1 la1.length ca1, .slice Aa2 la2.length ca2], .agg #[.bool b, .slice Ab1 lb1.length cb1, .slice Ab2 lb2.length cb2]] w fun e w' => ∃ v1_ v2_ : Value, e = .returned (.tuple #[.agg #[.bool false, v1_, v2_], .int .i64 v]) ∧ Kd.R (Kd.int .i64) 3 w' w.heap.size (fun k_ => some k_ ≠ (v2_ : Value).ownBlock) v1_ [] ∧ Kd.R (Kd.int .i64) 3 w' w.heap.size (fun k_ => some k_ ≠ (v1_ : Value).ownBlock) v2_ [] ∧ Below w.heap.size w w' := by
  have Ha1 := Aside0.mk ha1
  have Ka1 := Aside0.mk ka1
  clear ha1 ka1
  have Ha2 := Aside0.mk ha2
  have Ka2 := Aside0.mk ka2
  clear ha2 ka2
  have Hb1 := Aside0.mk hb1
  have Kb1 := Aside0.mk kb1
  clear hb1 kb1
  have Hb2 := Aside0.mk hb2
  have Kb2 := Aside0.mk kb2
  clear hb2 kb2
  have HV := Aside0.mk hv
  clear hv
  have c0 : (v == 0) = false := beq_eq_false_iff_ne.mpr hv0
  have c1 : (v != 0) = true := bne_iff_ne.mpr hv0
  clear hv0
  have HS := Aside0.mk (Sx.start w)
  go_enter Try.func15, Try.ntmps15
  go_wp2_with (first | ((with_reducible refine gate_dst (N := 2) rfl ?_); refine box_event ?hg (N := 2) ?hd (cs := #[.bool a, .slice Aa1 la1.length ca1, .slice Aa2 la2.length ca2]) (t := 26) ?hr ?_; (case hd => rfl); (case hg => rfl); (case hr => first | (go_simp; done) | (go_simp; rfl)); intro gK hg1 w1 hx1 hb1; have nS : Aside0 (Sx w w1 [(.blk gK #[.bool a, .slice Aa1 la1.length ca1, .slice Aa2 la2.length ca2] 26)]) := Aside0.mk (HS.out.box hg1 hx1 hb1); clear HS; have HS := nS; clear nS hg1 hx1 hb1) | ((with_reducible refine gate_dst (N := 3) rfl ?_); refine box_event ?hg (N := 3) ?hd (cs := #[.bool b, .slice Ab1 lb1.length cb1, .slice Ab2 lb2.length cb2]) (t := 26) ?hr ?_; (case hd => rfl); (case hg => rfl); (case hr => first | (go_simp; done) | (go_simp; rfl)); intro gB hg2 w2 hx2 hb2; have nS : Aside0 (Sx w w2 [(.blk gB #[.bool b, .slice Ab1 lb1.length cb1, .slice Ab2 lb2.length cb2] 26), (.blk gK #[.bool a, .slice Aa1 la1.length ca1, .slice Aa2 la2.length ca2] 26)]) := Aside0.mk (HS.out.box hg2 hx2 hb2); clear HS; have HS := nS; clear nS hg2 hx2 hb2) | ((with_reducible refine gate_dst (N := 4) rfl ?_); refine box_event ?hg (N := 4) ?hd (cs := #[.bool false, .slice none 0 0, .slice none 0 0]) (t := 26) ?hr ?_; (case hd => rfl); (case hg => rfl); (case hr => first | (go_simp; done) | (go_simp; rfl)); intro gR hg3 w3 hx3 hb3; have nS : Aside0 (Sx w w3 [(.blk gR #[.bool false, .slice none 0 0, .slice none 0 0] 26), (.blk gB #[.bool b, .slice Ab1 lb1.length cb1, .slice Ab2 lb2.length cb2] 26), (.blk gK #[.bool a, .slice Aa1 la1.length ca1, .slice Aa2 la2.length ca2] 26)]) := Aside0.mk (HS.out.box hg3 hx3 hb3); clear HS; have HS := nS; clear nS hg3 hx3 hb3) | ((with_reducible refine gate_dst (N := 13) rfl ?_); refine wpList_load_row rfl 26 (.tmp 2) rfl gK rfl 26 #[.bool a, .slice Aa1 la1.length ca1, .slice Aa2 la2.length ca2] (0, 0) _ (HS.out.blk 2 rfl) Try.underlying26 rfl (by kernel_rfl) ?_) | ((with_reducible refine gate_dst (N := 14) rfl ?_); refine wpList_load_row rfl 26 (.tmp 3) rfl gB rfl 26 #[.bool b, .slice Ab1 lb1.length cb1, .slice Ab2 lb2.length cb2] (0, 0) _ (HS.out.blk 1 rfl) Try.underlying26 rfl (by kernel_rfl) ?_) | ((with_reducible refine gate_dst (N := 15) rfl ?_); refine lit_event ?hg (N := 15) ?hd (cs := #[.bool a, .slice Aa1 la1.length ca1, .slice Aa2 la2.length ca2, .bool b, .slice Ab1 lb1.length cb1, .slice Ab2 lb2.length cb2]) (t := 26) (n := 2) ?hr ?_; (case hd => rfl); (case hg => rfl); (case hr => first | (go_simp; done) | (go_simp; rfl)); intro gV hg4 w4 hx4 hb4; have nS : Aside0 (Sx w w4 [(.blk gV #[.bool a, .slice Aa1 la1.length ca1, .slice Aa2 la2.length ca2, .bool b, .slice Ab1 lb1.length cb1, .slice Ab2 lb2.length cb2] 26), (.blk gR #[.bool false, .slice none 0 0, .slice none 0 0] 26), (.blk gB #[.bool b, .slice Ab1 lb1.length cb1, .slice Ab2 lb2.length cb2] 26), (.blk gK #[.bool a, .slice Aa1 la1.length ca1, .slice Aa2 la2.length ca2] 26)]) := Aside0.mk (HS.out.box hg4 hx4 hb4); clear HS; have HS := nS; clear nS hg4 hx4 hb4) | (go_at_call 27; refine (impl_valid.calls k0 _ 2 [⟨a, la1, la2⟩, ⟨b, lb1, lb2⟩] v _ (pair_C (HS.out.blk 0 rfl) (Kd.C_below Ha1.out HS.out.below) Ka1.out (Kd.C_below Ha2.out HS.out.below) Ka2.out (Kd.C_below Hb1.out HS.out.below) Kb1.out (Kd.C_below Hb2.out HS.out.below) Kb2.out) (Nat.le_refl _) HV.out).mono ?_; rintro e w5 ⟨rfl, hb5⟩; have nS : Aside0 (Sx w w5 [(.blk gV #[.bool a, .slice Aa1 la1.length ca1, .slice Aa2 la2.length ca2, .bool b, .slice Ab1 lb1.length cb1, .slice Ab2 lb2.length cb2] 26), (.blk gR #[.bool false, .slice none 0 0, .slice none 0 0] 26), (.blk gB #[.bool b, .slice Ab1 lb1.length cb1, .slice Ab2 lb2.length cb2] 26), (.blk gK #[.bool a, .slice Aa1 la1.length ca1, .slice Aa2 la2.length ca2] 26)]) := Aside0.mk (HS.out.step hb5); clear HS; have HS := nS; clear nS hb5) | ((with_reducible refine gate_store rfl ?_); refine store_named rfl 26 (.tmp 4) (.tmp 19) rfl gR #[.bool false, .slice none 0 0, .slice none 0 0] rfl rfl 26 #[.bool false, .slice none 0 0, .slice none 0 0] (HS.out.blk 1 rfl) (by kernel_rfl) rfl (by simp [Value.oneCell']) ?_; intro w6 hx6 hb6; have nS : Aside0 (Sx w w6 [(.blk gV #[.bool a, .slice Aa1 la1.length ca1, .slice Aa2 la2.length ca2, .bool b, .slice Ab1 lb1.length cb1, .slice Ab2 lb2.length cb2] 26), (.blk gR #[.bool false, .slice none 0 0, .slice none 0 0] 26), (.blk gB #[.bool b, .slice Ab1 lb1.length cb1, .slice Ab2 lb2.length cb2] 26), (.blk gK #[.bool a, .slice Aa1 la1.length ca1, .slice Aa2 la2.length ca2] 26)]) := Aside0.mk (HS.out.put 1 rfl hx6 hb6); clear HS; have HS := nS; clear nS hx6 hb6))
  refine bodyPost_ret (results_ct rfl _ _ gR 26 #[.bool false, .slice none 0 0, .slice none 0 0] (0, 0) _ rfl (HS.out.blk 1 rfl) Try.underlying26 rfl (by kernel_rfl)) rfl ?_
  exact ⟨_, _, rfl, Kd.R_nil _ _ _ _ _, Kd.R_nil _ _ _ _ _, HS.out.below⟩
set_option maxHeartbeats 2000000 in
set_option maxRecDepth 100000 in
theorem member_ok (k0 : Nat) (a : Bool) (Aa1 : Option Addr) (ca1 : Nat) (la1 : List Int) (Aa2 : Option Addr) (ca2 : Nat) (la2 : List Int) (b : Bool) (Ab1 : Option Addr) (cb1 : Nat) (lb1 : List Int) (Ab2 : Option Addr) (cb2 : Nat) (lb2 : List Int) (w : World) (ha1 : Kd.C (Kd.int .i64) w Aa1 la1.length la1) (ka1 : la1.length ≤ ca1) (ha2 : Kd.C (Kd.int .i64) w Aa2 la2.length la2) (ka2 : la2.length ≤ ca2) (hb1 : Kd.C (Kd.int .i64) w Ab1 lb1.length lb1) (kb1 : lb1.length ≤ cb1) (hb2 : Kd.C (Kd.int .i64) w Ab2 lb2.length lb2) (kb2 : lb2.length ≤ cb2) (hv : impl_valid.f k0 [⟨a, la1, la2⟩, ⟨b, lb1, lb2⟩] = some 0) (hnm : lb2.length ≤ 10000) (hrm : ∀ x ∈ lb2, -1000000000000000 ≤ x ∧ x ≤ 1000000000000000) (hnq : la2.length ≤ 10000) (hrq : ∀ x ∈ la2, -1000000000000000 ≤ x ∧ x ≤ 1000000000000000) (hq1 : la1.length ≤ 5) :
    Calls Try.prog 15 #[.agg #[.bool a, .slice Aa1 la1.length ca1, .slice Aa2 la2.length ca2], .agg #[.bool b, .slice Ab1 lb1.length cb1, .slice Ab2 lb2.length cb2]] w fun e w' => ∃ v1_ v2_ : Value, e = .returned (.tuple #[.agg #[.bool false, v1_, v2_], .int .i64 0]) ∧ Kd.R (Kd.int .i64) 3 w' w.heap.size (fun k_ => some k_ ≠ (v2_ : Value).ownBlock) v1_ la1 ∧ Kd.R (Kd.int .i64) 3 w' w.heap.size (fun k_ => some k_ ≠ (v1_ : Value).ownBlock) v2_ (la2.map (fun v => if fz (b == a) lb2 v < lb2.length then (1 : Int) else 0)) ∧ Below w.heap.size w w' := by
  have Ha1 := Aside0.mk ha1
  have Ka1 := Aside0.mk ka1
  clear ha1 ka1
  have Ha2 := Aside0.mk ha2
  have Ka2 := Aside0.mk ka2
  clear ha2 ka2
  have Hb1 := Aside0.mk hb1
  have Kb1 := Aside0.mk kb1
  clear hb1 kb1
  have Hb2 := Aside0.mk hb2
  have Kb2 := Aside0.mk kb2
  clear hb2 kb2
  have HV := Aside0.mk hv
  clear hv
  have HNM := Aside0.mk hnm
  have HRM := Aside0.mk hrm
  have HRQ := Aside0.mk hrq
  have HCP := Aside0.mk (show impl_Array_copied.f a la1 la2 = some (a, la1, la2) by simp only [impl_Array_copied.f, clone_eq la1 (by omega), clone_eq la2 (by omega), Option.bind_some])
  clear hrm hrq
  have HS := Aside0.mk (Sx.start w)
  go_enter Try.func15, Try.ntmps15
  go_wp2_with (first | ((with_reducible refine gate_dst (N := 2) rfl ?_); refine box_event ?hg (N := 2) ?hd (cs := #[.bool a, .slice Aa1 la1.length ca1, .slice Aa2 la2.length ca2]) (t := 26) ?hr ?_; (case hd => rfl); (case hg => rfl); (case hr => first | (go_simp; done) | (go_simp; rfl)); intro gK hg1 w1 hx1 hb1; have nS : Aside0 (Sx w w1 [(.blk gK #[.bool a, .slice Aa1 la1.length ca1, .slice Aa2 la2.length ca2] 26)]) := Aside0.mk (HS.out.box hg1 hx1 hb1); clear HS; have HS := nS; clear nS hg1 hx1 hb1) | ((with_reducible refine gate_dst (N := 3) rfl ?_); refine box_event ?hg (N := 3) ?hd (cs := #[.bool b, .slice Ab1 lb1.length cb1, .slice Ab2 lb2.length cb2]) (t := 26) ?hr ?_; (case hd => rfl); (case hg => rfl); (case hr => first | (go_simp; done) | (go_simp; rfl)); intro gB hg2 w2 hx2 hb2; have nS : Aside0 (Sx w w2 [(.blk gB #[.bool b, .slice Ab1 lb1.length cb1, .slice Ab2 lb2.length cb2] 26), (.blk gK #[.bool a, .slice Aa1 la1.length ca1, .slice Aa2 la2.length ca2] 26)]) := Aside0.mk (HS.out.box hg2 hx2 hb2); clear HS; have HS := nS; clear nS hg2 hx2 hb2) | ((with_reducible refine gate_dst (N := 4) rfl ?_); refine box_event ?hg (N := 4) ?hd (cs := #[.bool false, .slice none 0 0, .slice none 0 0]) (t := 26) ?hr ?_; (case hd => rfl); (case hg => rfl); (case hr => first | (go_simp; done) | (go_simp; rfl)); intro gR hg3 w3 hx3 hb3; have nS : Aside0 (Sx w w3 [(.blk gR #[.bool false, .slice none 0 0, .slice none 0 0] 26), (.blk gB #[.bool b, .slice Ab1 lb1.length cb1, .slice Ab2 lb2.length cb2] 26), (.blk gK #[.bool a, .slice Aa1 la1.length ca1, .slice Aa2 la2.length ca2] 26)]) := Aside0.mk (HS.out.box hg3 hx3 hb3); clear HS; have HS := nS; clear nS hg3 hx3 hb3) | ((with_reducible refine gate_dst (N := 13) rfl ?_); refine wpList_load_row rfl 26 (.tmp 2) rfl gK rfl 26 #[.bool a, .slice Aa1 la1.length ca1, .slice Aa2 la2.length ca2] (0, 0) _ (HS.out.blk 2 rfl) Try.underlying26 rfl (by kernel_rfl) ?_) | ((with_reducible refine gate_dst (N := 14) rfl ?_); refine wpList_load_row rfl 26 (.tmp 3) rfl gB rfl 26 #[.bool b, .slice Ab1 lb1.length cb1, .slice Ab2 lb2.length cb2] (0, 0) _ (HS.out.blk 1 rfl) Try.underlying26 rfl (by kernel_rfl) ?_) | ((with_reducible refine gate_dst (N := 15) rfl ?_); refine lit_event ?hg (N := 15) ?hd (cs := #[.bool a, .slice Aa1 la1.length ca1, .slice Aa2 la2.length ca2, .bool b, .slice Ab1 lb1.length cb1, .slice Ab2 lb2.length cb2]) (t := 26) (n := 2) ?hr ?_; (case hd => rfl); (case hg => rfl); (case hr => first | (go_simp; done) | (go_simp; rfl)); intro gV hg4 w4 hx4 hb4; have nS : Aside0 (Sx w w4 [(.blk gV #[.bool a, .slice Aa1 la1.length ca1, .slice Aa2 la2.length ca2, .bool b, .slice Ab1 lb1.length cb1, .slice Ab2 lb2.length cb2] 26), (.blk gR #[.bool false, .slice none 0 0, .slice none 0 0] 26), (.blk gB #[.bool b, .slice Ab1 lb1.length cb1, .slice Ab2 lb2.length cb2] 26), (.blk gK #[.bool a, .slice Aa1 la1.length ca1, .slice Aa2 la2.length ca2] 26)]) := Aside0.mk (HS.out.box hg4 hx4 hb4); clear HS; have HS := nS; clear nS hg4 hx4 hb4) | (go_at_call 27; refine (impl_valid.calls k0 _ 2 [⟨a, la1, la2⟩, ⟨b, lb1, lb2⟩] 0 _ (pair_C (HS.out.blk 0 rfl) (Kd.C_below Ha1.out HS.out.below) Ka1.out (Kd.C_below Ha2.out HS.out.below) Ka2.out (Kd.C_below Hb1.out HS.out.below) Kb1.out (Kd.C_below Hb2.out HS.out.below) Kb2.out) (Nat.le_refl _) HV.out).mono ?_; rintro e w5 ⟨rfl, hb5⟩; have nS : Aside0 (Sx w w5 [(.blk gV #[.bool a, .slice Aa1 la1.length ca1, .slice Aa2 la2.length ca2, .bool b, .slice Ab1 lb1.length cb1, .slice Ab2 lb2.length cb2] 26), (.blk gR #[.bool false, .slice none 0 0, .slice none 0 0] 26), (.blk gB #[.bool b, .slice Ab1 lb1.length cb1, .slice Ab2 lb2.length cb2] 26), (.blk gK #[.bool a, .slice Aa1 la1.length ca1, .slice Aa2 la2.length ca2] 26)]) := Aside0.mk (HS.out.step hb5); clear HS; have HS := nS; clear nS hb5) | ((with_reducible refine gate_dst (N := 21) rfl ?_); refine wpList_load_row rfl 26 (.tmp 3) rfl gB rfl 26 #[.bool b, .slice Ab1 lb1.length cb1, .slice Ab2 lb2.length cb2] (0, 0) _ (HS.out.blk 2 rfl) Try.underlying26 rfl (by kernel_rfl) ?_) | (go_at_call 29; refine (firstPlaces_any b Ab1 _ cb1 Ab2 cb2 lb2 _ (Kd.C_below Hb2.out HS.out.below) HRM.out HNM.out).mono ?_; rintro e w6 ⟨bM, rfl, hge6, hm6, hb6⟩; have HM := Aside0.mk hm6; clear hm6 hge6; have nS : Aside0 (Sx w w6 [(.blk gV #[.bool a, .slice Aa1 la1.length ca1, .slice Aa2 la2.length ca2, .bool b, .slice Ab1 lb1.length cb1, .slice Ab2 lb2.length cb2] 26), (.blk gR #[.bool false, .slice none 0 0, .slice none 0 0] 26), (.blk gB #[.bool b, .slice Ab1 lb1.length cb1, .slice Ab2 lb2.length cb2] 26), (.blk gK #[.bool a, .slice Aa1 la1.length ca1, .slice Aa2 la2.length ca2] 26)]) := Aside0.mk (HS.out.step hb6); clear HS; have HS := nS; clear nS hb6) | ((with_reducible refine gate_dst (N := 23) rfl ?_); refine wpList_load_row rfl 26 (.tmp 2) rfl gK rfl 26 #[.bool a, .slice Aa1 la1.length ca1, .slice Aa2 la2.length ca2] (0, 0) _ (HS.out.blk 3 rfl) Try.underlying26 rfl (by kernel_rfl) ?_) | (go_at_call 30; refine (impl_Array_copied.calls a Aa1 ca1 la1 Aa2 ca2 la2 a la1 la2 _ (Kd.C_below Ha1.out HS.out.below) Ka1.out (Kd.C_below Ha2.out HS.out.below) Ka2.out HCP.out).mono ?_; rintro e w7 ⟨v17, v27, rfl, hr17, hr27, hb7⟩; obtain ⟨AS, cS, hv_⟩ := Kd.R_slice hr17; subst hv_; obtain ⟨AD, cD, hv_⟩ := Kd.R_slice hr27; subst hv_; have HND := Aside0.mk (show ∀ k, (Value.slice AD la2.length cD).ownBlock = some k → bM ≠ k from fun k hk e => by have h1 := HM.out.lt; have h2 := Kd.R_base hr27 k hk; omega); have nM : Aside0 (MapFirst w7 bM lb2) := Aside0.mk (HM.out.below hb7); clear HM; have HM := nM; clear nM; have nS : Aside0 (Sx w w7 [(.row (.slice AS la1.length cS) la1), (.row (.slice AD la2.length cD) la2), (.blk gV #[.bool a, .slice Aa1 la1.length ca1, .slice Aa2 la2.length ca2, .bool b, .slice Ab1 lb1.length cb1, .slice Ab2 lb2.length cb2] 26), (.blk gR #[.bool false, .slice none 0 0, .slice none 0 0] 26), (.blk gB #[.bool b, .slice Ab1 lb1.length cb1, .slice Ab2 lb2.length cb2] 26), (.blk gK #[.bool a, .slice Aa1 la1.length ca1, .slice Aa2 la2.length ca2] 26)]) := Aside0.mk (HS.out.addRow2 hb7 hr17 hr27); clear HS; have HS := nS; clear nS hb7 hr17 hr27) | (go_at_call 31; refine (as_any a false AS la1.length cS AD la2.length cD _).mono ?_; rintro e w8 ⟨rfl, hb8⟩; have nM : Aside0 (MapFirst w8 bM lb2) := Aside0.mk (HM.out.below hb8); clear HM; have HM := nM; clear nM; have nS : Aside0 (Sx w w8 [(.row (.slice AS la1.length cS) la1), (.row (.slice AD la2.length cD) la2), (.blk gV #[.bool a, .slice Aa1 la1.length ca1, .slice Aa2 la2.length ca2, .bool b, .slice Ab1 lb1.length cb1, .slice Ab2 lb2.length cb2] 26), (.blk gR #[.bool false, .slice none 0 0, .slice none 0 0] 26), (.blk gB #[.bool b, .slice Ab1 lb1.length cb1, .slice Ab2 lb2.length cb2] 26), (.blk gK #[.bool a, .slice Aa1 la1.length ca1, .slice Aa2 la2.length ca2] 26)]) := Aside0.mk (HS.out.step hb8); clear HS; have HS := nS; clear nS hb8) | ((with_reducible refine gate_dst (N := 8) rfl ?_); refine box_event ?hg (N := 8) ?hd (cs := #[.bool false, .slice none 0 0, .slice none 0 0]) (t := 26) ?hr ?_; (case hd => rfl); (case hg => rfl); (case hr => first | (go_simp; done) | (go_simp; rfl)); intro gO hg9 w9 hx9 hb9; have HNO := Aside0.mk (show bM ≠ gO from fun e => by have h1 := HM.out.lt; omega); have nM : Aside0 (MapFirst w9 bM lb2) := Aside0.mk (HM.out.below hb9); clear HM; have HM := nM; clear nM; have nS : Aside0 (Sx w w9 [(.blk gO #[.bool false, .slice none 0 0, .slice none 0 0] 26), (.row (.slice AS la1.length cS) la1), (.row (.slice AD la2.length cD) la2), (.blk gV #[.bool a, .slice Aa1 la1.length ca1, .slice Aa2 la2.length ca2, .bool b, .slice Ab1 lb1.length cb1, .slice Ab2 lb2.length cb2] 26), (.blk gR #[.bool false, .slice none 0 0, .slice none 0 0] 26), (.blk gB #[.bool b, .slice Ab1 lb1.length cb1, .slice Ab2 lb2.length cb2] 26), (.blk gK #[.bool a, .slice Aa1 la1.length ca1, .slice Aa2 la2.length ca2] 26)]) := Aside0.mk (HS.out.box hg9 hx9 hb9); clear HS; have HS := nS; clear nS hg9 hx9 hb9) | ((with_reducible refine gate_store rfl ?_); refine store_named rfl 26 (.tmp 8) (.tmp 25) rfl gO #[.bool false, .slice AS la1.length cS, .slice AD la2.length cD] rfl rfl 26 #[.bool false, .slice none 0 0, .slice none 0 0] (HS.out.blk 0 rfl) (by kernel_rfl) rfl (by simp [Value.oneCell']) ?_; intro w10 hx10 hb10; have nM : Aside0 (MapFirst w10 bM lb2) := Aside0.mk (HM.out.but hb10 HNO.out); clear HM; have HM := nM; clear nM; have nS : Aside0 (Sx w w10 [(.blk gO #[.bool false, .slice AS la1.length cS, .slice AD la2.length cD] 26), (.row (.slice AS la1.length cS) la1), (.row (.slice AD la2.length cD) la2), (.blk gV #[.bool a, .slice Aa1 la1.length ca1, .slice Aa2 la2.length ca2, .bool b, .slice Ab1 lb1.length cb1, .slice Ab2 lb2.length cb2] 26), (.blk gR #[.bool false, .slice none 0 0, .slice none 0 0] 26), (.blk gB #[.bool b, .slice Ab1 lb1.length cb1, .slice Ab2 lb2.length cb2] 26), (.blk gK #[.bool a, .slice Aa1 la1.length ca1, .slice Aa2 la2.length ca2] 26)]) := Aside0.mk (HS.out.put 0 rfl hx10 hb10); clear HS; have HS := nS; clear nS hx10 hb10) | ((with_reducible refine gate_dst (N := 27) rfl ?_); refine ev_load rfl 22 (.tmp 26) rfl ⟨gK, 2, none⟩ rfl (.slice Aa2 la2.length ca2) ((blk_cell (HS.out.blk 6 rfl) 2).trans rfl) (by kernel_rfl) ?_))
  go_loopw [9, 10, 11, 12, 29] (fun _ _ _ _ z wr => ∃ j : Nat, z = .int .i64 (j : Int) ∧ Aside0 (j ≤ la2.length) ∧ Aside0 (MapFirst wr bM lb2) ∧ Aside0 (Sx w wr [(.blk gO #[.bool false, .slice AS la1.length cS, .slice AD la2.length cD] 26), (.row (.slice AS la1.length cS) la1), (.row (.slice AD la2.length cD) ((la2.map (fun v => if fz (b == a) lb2 v < lb2.length then (1 : Int) else 0)).take j ++ la2.drop j)), (.blk gV #[.bool a, .slice Aa1 la1.length ca1, .slice Aa2 la2.length ca2, .bool b, .slice Ab1 lb1.length cb1, .slice Ab2 lb2.length cb2] 26), (.blk gR #[.bool false, .slice none 0 0, .slice none 0 0] 26), (.blk gB #[.bool b, .slice Ab1 lb1.length cb1, .slice Ab2 lb2.length cb2] 26), (.blk gK #[.bool a, .slice Aa1 la1.length ca1, .slice Aa2 la2.length ca2] 26)])) (fun _ _ _ _ z _ => la2.length - (intOf z).toNat)
  case atStart => exact ⟨0, rfl, ⟨Nat.zero_le _⟩, HM, ⟨HS.out⟩⟩
  case round =>
    clear HS HM
    obtain ⟨j, rfl, hj, HM, HS⟩ := hrel
    by_cases hlt : j < la2.length
    · obtain ⟨ad, rfl, y1⟩ := Kd.at_int (Kd.C_below Ha2.out HS.out.below) (j : Int) (by omega) (by omega)
      rw [Int.toNat_natCast] at y1
      have hmem : rd la2 (j : Int) ∈ la2 := by
        simp only [rd, Int.toNat_natCast, List.getD_eq_getElem?_getD, List.getElem?_eq_getElem hlt, Option.getD_some]; exact List.getElem_mem hlt
      have hb := HRQ.out _ hmem
      have hfo := fill_over (la2.map (fun v => if fz (b == a) lb2 v < lb2.length then (1 : Int) else 0)) la2 j _ (by simp) (by simpa using hlt) (rd_map hlt)
      obtain ⟨v, hv⟩ : ∃ v, rd la2 (j : Int) = v := ⟨_, rfl⟩
      rw [hv] at y1 hb hfo
      have HFO := Aside0.mk hfo
      have HW := Aside0.mk (WalkArith.wf_i64 (n := v) (by omega))
      have p0 : 0 ≤ (j : Int) := by omega
      have p1 : (j : Int) < (la2.length : Int) := by omega
      have HLT := Aside0.mk hlt
      have HLL := Aside0.mk (show ((la2.map (fun v => if fz (b == a) lb2 v < lb2.length then (1 : Int) else 0)).take j ++ la2.drop j).length = la2.length by simp; omega)
      obtain ⟨gd, eA, xS, fS⟩ := HS.out.cellOf 2 rfl j (by rw [HLL.out]; exact hlt)
      subst eA
      have HND := Aside0.mk (show bM ≠ gd from HND.out gd rfl)
      have HJ := Aside0.mk (show j < ((la2.map (fun v => if fz (b == a) lb2 v < lb2.length then (1 : Int) else 0)).take j ++ la2.drop j).length by rw [HLL.out]; exact hlt)
      clear hmem hb hfo hv xS fS
      by_cases hv : v ∈ lb2
      · have HVM := Aside0.mk hv
        clear hv
        by_cases hab : a = b
        · subst hab
          have HTR := Aside0.mk (show impl_truth.f true = some (1, none) from rfl)
          go_upto_region 10 with (first | ((with_reducible refine gate_dst (N := 37) rfl ?_); refine ev_first HM.out rfl (.tmp 35) (.tmp 36) rfl rfl v rfl HW.out ?_; intro c hc; obtain rfl := hc HVM.out; clear hc; rw [decide_eq_true HVM.out]))
          have nS := Aside0.mk HS.out.drew
          have nM := Aside0.mk HM.out.drew
          clear HS HM
          have HS := nS
          have HM := nM
          clear nS nM
          refine start_ (n := 17) (S := (fun w' => w'.cell? ⟨gO, 2, none⟩ = some (.slice (some ⟨gd, 0, none⟩) la2.length cD) ∧ w'.cell? ⟨gK, 0, none⟩ = some (.bool a) ∧ w'.cell? ⟨gB, 0, none⟩ = some (.bool a))) (ds := [16]) #[false, false, false, false, false, false, false, false, false, false, false, false, false, false, false, false, false] (by kernel_rfl) rfl rfl ⟨(blk_cell (HS.out.blk 0 rfl) 2).trans rfl, (blk_cell (HS.out.blk 6 rfl) 0).trans rfl, (blk_cell (HS.out.blk 5 rfl) 0).trans rfl⟩ (fun hHeld => ?_)
          refine pure_ (i := 0) (N := (some 41)) (v := ?_) (a' := ?_) #[true, false, false, false, false, false, false, false, false, false, false, false, false, false, false, false, false] rfl rfl (by kernel_rfl) (fun _ _ _ h => h) (Or.inl ⟨by rfl, ?_⟩) ?_ ?_
          rotate_left
          · intro w'
            go_simp
            with_reducible rfl
          rotate_left
          · simp only [Act.put, List.setIfInBounds_toArray, List.set_cons_zero, List.set_cons_succ]
            rfl
          refine take_ (i := 1) (N := (some 42)) (v := ?_) (a' := ?_) #[true, true, false, false, false, false, false, false, false, false, false, false, false, false, false, false, false] rfl rfl (by kernel_rfl) (fun _ _ _ h => h) (Or.inl ⟨by rfl, ?_⟩) hHeld ?_ ?_
          rotate_left
          · rintro w' ⟨s0, s1, s2⟩
            go_simp
            with_reducible rfl
          rotate_left
          · simp only [Act.put, List.setIfInBounds_toArray, List.set_cons_zero, List.set_cons_succ]
            rfl
          refine pure_ (i := 2) (N := (some 43)) (v := ?_) (a' := ?_) #[true, true, true, false, false, false, false, false, false, false, false, false, false, false, false, false, false] rfl rfl (by kernel_rfl) (fun _ _ _ h => h) (Or.inl ⟨by rfl, ?_⟩) ?_ ?_
          rotate_left
          · intro w'
            go_simp
            with_reducible rfl
          rotate_left
          · simp only [Act.put, List.setIfInBounds_toArray, List.set_cons_zero, List.set_cons_succ]
            rfl
          refine pure_ (i := 3) (N := (some 44)) (v := ?_) (a' := ?_) #[true, true, true, true, false, false, false, false, false, false, false, false, false, false, false, false, false] rfl rfl (by kernel_rfl) (fun _ _ _ h => h) (Or.inl ⟨by rfl, ?_⟩) ?_ ?_
          rotate_left
          · intro w'
            go_simp
            with_reducible rfl
          rotate_left
          · simp only [Act.put, List.setIfInBounds_toArray, List.set_cons_zero, List.set_cons_succ]
            rfl
          refine pure_ (i := 4) (N := (some 45)) (v := ?_) (a' := ?_) #[true, true, true, true, true, false, false, false, false, false, false, false, false, false, false, false, false] rfl rfl (by kernel_rfl) (fun _ _ _ h => h) (Or.inl ⟨by rfl, ?_⟩) ?_ ?_
          rotate_left
          · intro w'
            go_simp
            with_reducible rfl
          rotate_left
          · simp only [Act.put, List.setIfInBounds_toArray, List.set_cons_zero, List.set_cons_succ]
            rfl
          refine pure_ (i := 5) (N := (some 46)) (v := ?_) (a' := ?_) #[true, true, true, true, true, true, false, false, false, false, false, false, false, false, false, false, false] rfl rfl (by kernel_rfl) (fun _ _ _ h => h) (Or.inl ⟨by rfl, ?_⟩) ?_ ?_
          rotate_left
          · intro w'
            go_simp
            with_reducible rfl
          rotate_left
          · simp only [Act.put, List.setIfInBounds_toArray, List.set_cons_zero, List.set_cons_succ]
            rfl
          refine take_ (i := 6) (N := (some 47)) (v := ?_) (a' := ?_) #[true, true, true, true, true, true, true, false, false, false, false, false, false, false, false, false, false] rfl rfl (by kernel_rfl) (fun _ _ _ h => h) (Or.inl ⟨by rfl, ?_⟩) hHeld ?_ ?_
          rotate_left
          · rintro w' ⟨s0, s1, s2⟩
            go_simp
            with_reducible rfl
          rotate_left
          · simp only [Act.put, List.setIfInBounds_toArray, List.set_cons_zero, List.set_cons_succ]
            rfl
          refine pure_ (i := 7) (N := (some 48)) (v := ?_) (a' := ?_) #[true, true, true, true, true, true, true, true, false, false, false, false, false, false, false, false, false] rfl rfl (by kernel_rfl) (fun _ _ _ h => h) (Or.inl ⟨by rfl, ?_⟩) ?_ ?_
          rotate_left
          · intro w'
            go_simp
            with_reducible rfl
          rotate_left
          · simp only [Act.put, List.setIfInBounds_toArray, List.set_cons_zero, List.set_cons_succ]
            rfl
          refine take_ (i := 8) (N := (some 49)) (v := ?_) (a' := ?_) #[true, true, true, true, true, true, true, true, true, false, false, false, false, false, false, false, false] rfl rfl (by kernel_rfl) (fun _ _ _ h => h) (Or.inl ⟨by rfl, ?_⟩) hHeld ?_ ?_
          rotate_left
          · rintro w' ⟨s0, s1, s2⟩
            go_simp
            with_reducible rfl
          rotate_left
          · simp only [Act.put, List.setIfInBounds_toArray, List.set_cons_zero, List.set_cons_succ]
            rfl
          refine pure_ (i := 9) (N := (some 50)) (v := ?_) (a' := ?_) #[true, true, true, true, true, true, true, true, true, true, false, false, false, false, false, false, false] rfl rfl (by kernel_rfl) (fun _ _ _ h => h) (Or.inl ⟨by rfl, ?_⟩) ?_ ?_
          rotate_left
          · intro w'
            go_simp
            with_reducible rfl
          rotate_left
          · simp only [Act.put, List.setIfInBounds_toArray, List.set_cons_zero, List.set_cons_succ]
            rfl
          refine pure_ (i := 10) (N := (some 51)) (v := ?_) (a' := ?_) #[true, true, true, true, true, true, true, true, true, true, true, false, false, false, false, false, false] rfl rfl (by kernel_rfl) (fun _ _ _ h => h) (Or.inl ⟨by rfl, ?_⟩) ?_ ?_
          rotate_left
          · intro w'
            go_simp
            with_reducible rfl
          rotate_left
          · simp only [Act.put, List.setIfInBounds_toArray, List.set_cons_zero, List.set_cons_succ]
            rfl
          refine one_ (i := 11) (N := (some 52)) #[true, true, true, true, true, true, true, true, true, true, true, true, false, false, false, false, false] rfl rfl (by kernel_rfl) (by decide) (fun K hK => ?_)
          refine goes_ Try.func36 (by kernel_rfl) rfl #[.bool true] (by rfl) rfl rfl (by (try simp only [List.map_toArray, List.map_cons, List.map_nil]); first | done | rfl) ?_
          with_reducible refine (impl_truth.calls _ 1 none _ HTR.out).mono ?_
          rintro e wt ⟨rfl, hdt⟩
          have hbt := Drawn0.below hdt
          clear hdt
          have nS : Aside0 (Sx w wt [(.blk gO #[.bool false, .slice AS la1.length cS, .slice (some ⟨gd, 0, none⟩) la2.length cD] 26), (.row (.slice AS la1.length cS) la1), (.row (.slice (some ⟨gd, 0, none⟩) la2.length cD) ((la2.map (fun v => if fz (a == a) lb2 v < lb2.length then (1 : Int) else 0)).take j ++ la2.drop j)), (.blk gV #[.bool a, .slice Aa1 la1.length ca1, .slice (some ad) la2.length ca2, .bool a, .slice Ab1 lb1.length cb1, .slice Ab2 lb2.length cb2] 26), (.blk gR #[.bool false, .slice none 0 0, .slice none 0 0] 26), (.blk gB #[.bool a, .slice Ab1 lb1.length cb1, .slice Ab2 lb2.length cb2] 26), (.blk gK #[.bool a, .slice Aa1 la1.length ca1, .slice (some ad) la2.length ca2] 26)]) := Aside0.mk (HS.out.step hbt)
          have nM : Aside0 (MapFirst wt bM lb2) := Aside0.mk (HM.out.below hbt)
          clear HS HM hbt
          have HS := nS
          have HM := nM
          clear nS nM
          refine ⟨_, rfl, ?_⟩
          refine hK.out _ _ ⟨(blk_cell (HS.out.blk 0 rfl) 2).trans rfl, (blk_cell (HS.out.blk 6 rfl) 0).trans rfl, (blk_cell (HS.out.blk 5 rfl) 0).trans rfl⟩ (fun hHeld => ?_)
          clear hK K
          refine norm_ (a' := ?_) ?_ ?_
          rotate_left
          · show Act.put _ (some 52) _ = _
            simp only [Act.put, List.setIfInBounds_toArray, List.set_cons_zero, List.set_cons_succ]
            rfl
          refine pure_ (i := 12) (N := (some 40)) (v := ?_) (a' := ?_) #[true, true, true, true, true, true, true, true, true, true, true, true, true, false, false, false, false] rfl rfl (by kernel_rfl) (fun _ _ _ h => h) (Or.inl ⟨by rfl, ?_⟩) ?_ ?_
          rotate_left
          · intro w'
            go_simp
            with_reducible rfl
          rotate_left
          · simp only [Act.put, List.setIfInBounds_toArray, List.set_cons_zero, List.set_cons_succ]
            rfl
          refine pure_ (i := 13) (N := (some 53)) (v := ?_) (a' := ?_) #[true, true, true, true, true, true, true, true, true, true, true, true, true, true, false, false, false] rfl rfl (by kernel_rfl) (fun _ _ _ h => h) (Or.inl ⟨by rfl, ?_⟩) ?_ ?_
          rotate_left
          · intro w'
            go_simp
            with_reducible rfl
          rotate_left
          · simp only [Act.put, List.setIfInBounds_toArray, List.set_cons_zero, List.set_cons_succ]
            rfl
          refine pure_ (i := 14) (N := (some 54)) (v := ?_) (a' := ?_) #[true, true, true, true, true, true, true, true, true, true, true, true, true, true, true, false, false] rfl rfl (by kernel_rfl) (fun _ _ _ h => h) (Or.inl ⟨by rfl, ?_⟩) ?_ ?_
          rotate_left
          · intro w'
            go_simp
            with_reducible rfl
          rotate_left
          · simp only [Act.put, List.setIfInBounds_toArray, List.set_cons_zero, List.set_cons_succ]
            rfl
          refine pure_ (i := 15) (N := (some 55)) (v := ?_) (a' := ?_) #[true, true, true, true, true, true, true, true, true, true, true, true, true, true, true, true, false] rfl rfl (by kernel_rfl) (fun _ _ _ h => h) (Or.inl ⟨by rfl, ?_⟩) ?_ ?_
          rotate_left
          · intro w'
            go_simp
            with_reducible rfl
          rotate_left
          · simp only [Act.put, List.setIfInBounds_toArray, List.set_cons_zero, List.set_cons_succ]
            rfl
          refine last_ (i := 16) (N := none) #[true, true, true, true, true, true, true, true, true, true, true, true, true, true, true, true, true] rfl rfl (by kernel_rfl) (by decide) (fun K hK => ?_)
          refine Sx.store_step HS.out 2 rfl (by rfl) 3 (.tmp 55) (.tmp 53) rfl j HJ.out rfl 1 rfl (by kernel_rfl) ?_
          intro wz n2 hbz
          have nM : Aside0 (MapFirst wz bM lb2) := Aside0.mk (HM.out.but hbz HND.out)
          have nS : Aside0 (Sx w wz [(.blk gO #[.bool false, .slice AS la1.length cS, .slice (some ⟨gd, 0, none⟩) la2.length cD] 26), (.row (.slice AS la1.length cS) la1), (.row (.slice (some ⟨gd, 0, none⟩) la2.length cD) (((la2.map (fun v => if fz (a == a) lb2 v < lb2.length then (1 : Int) else 0)).take j ++ la2.drop j).set j 1)), (.blk gV #[.bool a, .slice Aa1 la1.length ca1, .slice (some ad) la2.length ca2, .bool a, .slice Ab1 lb1.length cb1, .slice Ab2 lb2.length cb2] 26), (.blk gR #[.bool false, .slice none 0 0, .slice none 0 0] 26), (.blk gB #[.bool a, .slice Ab1 lb1.length cb1, .slice Ab2 lb2.length cb2] 26), (.blk gK #[.bool a, .slice Aa1 la1.length ca1, .slice (some ad) la2.length ca2] 26)]) := Aside0.mk n2
          clear HS HM n2 hbz
          have HS := nS
          have HM := nM
          clear nS nM
          refine hK.out _ _ ?_
          clear hK K
          refine done_ (by kernel_rfl) ?_
          go_wp2
          go_roundw
          case rel =>
            refine ⟨j + 1, by push_cast; rfl, ⟨HLT.out⟩, HM, ⟨?_⟩⟩
            rw [← HFO.out, show (if fz (a == a) lb2 v < lb2.length then (1 : Int) else 0) = 1 from if_pos (by simpa using fz_lt HVM.out)]
            exact HS.out
          case measure => simp [intOf] <;> omega
        · have e1 : (a == b) = false := beq_eq_false_iff_ne.mpr hab
          have e2 : decide (a = b) = false := decide_eq_false hab
          have HE := Aside0.mk (show (b == a) = false from beq_eq_false_iff_ne.mpr (fun e => hab e.symm))
          have HTR := Aside0.mk (show impl_truth.f false = some (0, none) from rfl)
          go_upto_region 10 with (first | ((with_reducible refine gate_dst (N := 37) rfl ?_); refine ev_first HM.out rfl (.tmp 35) (.tmp 36) rfl rfl v rfl HW.out ?_; intro c hc; obtain rfl := hc HVM.out; clear hc; rw [decide_eq_true HVM.out]))
          have nS := Aside0.mk HS.out.drew
          have nM := Aside0.mk HM.out.drew
          clear HS HM
          have HS := nS
          have HM := nM
          clear nS nM
          refine start_ (n := 17) (S := (fun w' => w'.cell? ⟨gO, 2, none⟩ = some (.slice (some ⟨gd, 0, none⟩) la2.length cD) ∧ w'.cell? ⟨gK, 0, none⟩ = some (.bool a) ∧ w'.cell? ⟨gB, 0, none⟩ = some (.bool b))) (ds := [16]) #[false, false, false, false, false, false, false, false, false, false, false, false, false, false, false, false, false] (by kernel_rfl) rfl rfl ⟨(blk_cell (HS.out.blk 0 rfl) 2).trans rfl, (blk_cell (HS.out.blk 6 rfl) 0).trans rfl, (blk_cell (HS.out.blk 5 rfl) 0).trans rfl⟩ (fun hHeld => ?_)
          refine pure_ (i := 0) (N := (some 41)) (v := ?_) (a' := ?_) #[true, false, false, false, false, false, false, false, false, false, false, false, false, false, false, false, false] rfl rfl (by kernel_rfl) (fun _ _ _ h => h) (Or.inl ⟨by rfl, ?_⟩) ?_ ?_
          rotate_left
          · intro w'
            go_simp
            with_reducible rfl
          rotate_left
          · simp only [Act.put, List.setIfInBounds_toArray, List.set_cons_zero, List.set_cons_succ]
            rfl
          refine take_ (i := 1) (N := (some 42)) (v := ?_) (a' := ?_) #[true, true, false, false, false, false, false, false, false, false, false, false, false, false, false, false, false] rfl rfl (by kernel_rfl) (fun _ _ _ h => h) (Or.inl ⟨by rfl, ?_⟩) hHeld ?_ ?_
          rotate_left
          · rintro w' ⟨s0, s1, s2⟩
            go_simp
            with_reducible rfl
          rotate_left
          · simp only [Act.put, List.setIfInBounds_toArray, List.set_cons_zero, List.set_cons_succ]
            rfl
          refine pure_ (i := 2) (N := (some 43)) (v := ?_) (a' := ?_) #[true, true, true, false, false, false, false, false, false, false, false, false, false, false, false, false, false] rfl rfl (by kernel_rfl) (fun _ _ _ h => h) (Or.inl ⟨by rfl, ?_⟩) ?_ ?_
          rotate_left
          · intro w'
            go_simp
            with_reducible rfl
          rotate_left
          · simp only [Act.put, List.setIfInBounds_toArray, List.set_cons_zero, List.set_cons_succ]
            rfl
          refine pure_ (i := 3) (N := (some 44)) (v := ?_) (a' := ?_) #[true, true, true, true, false, false, false, false, false, false, false, false, false, false, false, false, false] rfl rfl (by kernel_rfl) (fun _ _ _ h => h) (Or.inl ⟨by rfl, ?_⟩) ?_ ?_
          rotate_left
          · intro w'
            go_simp
            with_reducible rfl
          rotate_left
          · simp only [Act.put, List.setIfInBounds_toArray, List.set_cons_zero, List.set_cons_succ]
            rfl
          refine pure_ (i := 4) (N := (some 45)) (v := ?_) (a' := ?_) #[true, true, true, true, true, false, false, false, false, false, false, false, false, false, false, false, false] rfl rfl (by kernel_rfl) (fun _ _ _ h => h) (Or.inl ⟨by rfl, ?_⟩) ?_ ?_
          rotate_left
          · intro w'
            go_simp
            with_reducible rfl
          rotate_left
          · simp only [Act.put, List.setIfInBounds_toArray, List.set_cons_zero, List.set_cons_succ]
            rfl
          refine pure_ (i := 5) (N := (some 46)) (v := ?_) (a' := ?_) #[true, true, true, true, true, true, false, false, false, false, false, false, false, false, false, false, false] rfl rfl (by kernel_rfl) (fun _ _ _ h => h) (Or.inl ⟨by rfl, ?_⟩) ?_ ?_
          rotate_left
          · intro w'
            go_simp
            with_reducible rfl
          rotate_left
          · simp only [Act.put, List.setIfInBounds_toArray, List.set_cons_zero, List.set_cons_succ]
            rfl
          refine take_ (i := 6) (N := (some 47)) (v := ?_) (a' := ?_) #[true, true, true, true, true, true, true, false, false, false, false, false, false, false, false, false, false] rfl rfl (by kernel_rfl) (fun _ _ _ h => h) (Or.inl ⟨by rfl, ?_⟩) hHeld ?_ ?_
          rotate_left
          · rintro w' ⟨s0, s1, s2⟩
            go_simp
            with_reducible rfl
          rotate_left
          · simp only [Act.put, List.setIfInBounds_toArray, List.set_cons_zero, List.set_cons_succ]
            rfl
          refine pure_ (i := 7) (N := (some 48)) (v := ?_) (a' := ?_) #[true, true, true, true, true, true, true, true, false, false, false, false, false, false, false, false, false] rfl rfl (by kernel_rfl) (fun _ _ _ h => h) (Or.inl ⟨by rfl, ?_⟩) ?_ ?_
          rotate_left
          · intro w'
            go_simp
            with_reducible rfl
          rotate_left
          · simp only [Act.put, List.setIfInBounds_toArray, List.set_cons_zero, List.set_cons_succ]
            rfl
          refine take_ (i := 8) (N := (some 49)) (v := ?_) (a' := ?_) #[true, true, true, true, true, true, true, true, true, false, false, false, false, false, false, false, false] rfl rfl (by kernel_rfl) (fun _ _ _ h => h) (Or.inl ⟨by rfl, ?_⟩) hHeld ?_ ?_
          rotate_left
          · rintro w' ⟨s0, s1, s2⟩
            go_simp
            with_reducible rfl
          rotate_left
          · simp only [Act.put, List.setIfInBounds_toArray, List.set_cons_zero, List.set_cons_succ]
            rfl
          refine pure_ (i := 9) (N := (some 50)) (v := ?_) (a' := ?_) #[true, true, true, true, true, true, true, true, true, true, false, false, false, false, false, false, false] rfl rfl (by kernel_rfl) (fun _ _ _ h => h) (Or.inl ⟨by rfl, ?_⟩) ?_ ?_
          rotate_left
          · intro w'
            go_simp
            with_reducible rfl
          rotate_left
          · simp only [Act.put, List.setIfInBounds_toArray, List.set_cons_zero, List.set_cons_succ]
            rfl
          refine pure_ (i := 10) (N := (some 51)) (v := ?_) (a' := ?_) #[true, true, true, true, true, true, true, true, true, true, true, false, false, false, false, false, false] rfl rfl (by kernel_rfl) (fun _ _ _ h => h) (Or.inl ⟨by rfl, ?_⟩) ?_ ?_
          rotate_left
          · intro w'
            go_simp
            with_reducible rfl
          rotate_left
          · simp only [Act.put, List.setIfInBounds_toArray, List.set_cons_zero, List.set_cons_succ]
            rfl
          refine one_ (i := 11) (N := (some 52)) #[true, true, true, true, true, true, true, true, true, true, true, true, false, false, false, false, false] rfl rfl (by kernel_rfl) (by decide) (fun K hK => ?_)
          refine goes_ Try.func36 (by kernel_rfl) rfl #[.bool false] (by rfl) rfl rfl (by (try simp only [List.map_toArray, List.map_cons, List.map_nil]); first | done | rfl) ?_
          with_reducible refine (impl_truth.calls _ 0 none _ HTR.out).mono ?_
          rintro e wt ⟨rfl, hdt⟩
          have hbt := Drawn0.below hdt
          clear hdt
          have nS : Aside0 (Sx w wt [(.blk gO #[.bool false, .slice AS la1.length cS, .slice (some ⟨gd, 0, none⟩) la2.length cD] 26), (.row (.slice AS la1.length cS) la1), (.row (.slice (some ⟨gd, 0, none⟩) la2.length cD) ((la2.map (fun v => if fz (b == a) lb2 v < lb2.length then (1 : Int) else 0)).take j ++ la2.drop j)), (.blk gV #[.bool a, .slice Aa1 la1.length ca1, .slice (some ad) la2.length ca2, .bool b, .slice Ab1 lb1.length cb1, .slice Ab2 lb2.length cb2] 26), (.blk gR #[.bool false, .slice none 0 0, .slice none 0 0] 26), (.blk gB #[.bool b, .slice Ab1 lb1.length cb1, .slice Ab2 lb2.length cb2] 26), (.blk gK #[.bool a, .slice Aa1 la1.length ca1, .slice (some ad) la2.length ca2] 26)]) := Aside0.mk (HS.out.step hbt)
          have nM : Aside0 (MapFirst wt bM lb2) := Aside0.mk (HM.out.below hbt)
          clear HS HM hbt
          have HS := nS
          have HM := nM
          clear nS nM
          refine ⟨_, rfl, ?_⟩
          refine hK.out _ _ ⟨(blk_cell (HS.out.blk 0 rfl) 2).trans rfl, (blk_cell (HS.out.blk 6 rfl) 0).trans rfl, (blk_cell (HS.out.blk 5 rfl) 0).trans rfl⟩ (fun hHeld => ?_)
          clear hK K
          refine norm_ (a' := ?_) ?_ ?_
          rotate_left
          · show Act.put _ (some 52) _ = _
            simp only [Act.put, List.setIfInBounds_toArray, List.set_cons_zero, List.set_cons_succ]
            rfl
          refine pure_ (i := 12) (N := (some 40)) (v := ?_) (a' := ?_) #[true, true, true, true, true, true, true, true, true, true, true, true, true, false, false, false, false] rfl rfl (by kernel_rfl) (fun _ _ _ h => h) (Or.inl ⟨by rfl, ?_⟩) ?_ ?_
          rotate_left
          · intro w'
            go_simp
            with_reducible rfl
          rotate_left
          · simp only [Act.put, List.setIfInBounds_toArray, List.set_cons_zero, List.set_cons_succ]
            rfl
          refine pure_ (i := 13) (N := (some 53)) (v := ?_) (a' := ?_) #[true, true, true, true, true, true, true, true, true, true, true, true, true, true, false, false, false] rfl rfl (by kernel_rfl) (fun _ _ _ h => h) (Or.inl ⟨by rfl, ?_⟩) ?_ ?_
          rotate_left
          · intro w'
            go_simp
            with_reducible rfl
          rotate_left
          · simp only [Act.put, List.setIfInBounds_toArray, List.set_cons_zero, List.set_cons_succ]
            rfl
          refine pure_ (i := 14) (N := (some 54)) (v := ?_) (a' := ?_) #[true, true, true, true, true, true, true, true, true, true, true, true, true, true, true, false, false] rfl rfl (by kernel_rfl) (fun _ _ _ h => h) (Or.inl ⟨by rfl, ?_⟩) ?_ ?_
          rotate_left
          · intro w'
            go_simp
            with_reducible rfl
          rotate_left
          · simp only [Act.put, List.setIfInBounds_toArray, List.set_cons_zero, List.set_cons_succ]
            rfl
          refine pure_ (i := 15) (N := (some 55)) (v := ?_) (a' := ?_) #[true, true, true, true, true, true, true, true, true, true, true, true, true, true, true, true, false] rfl rfl (by kernel_rfl) (fun _ _ _ h => h) (Or.inl ⟨by rfl, ?_⟩) ?_ ?_
          rotate_left
          · intro w'
            go_simp
            with_reducible rfl
          rotate_left
          · simp only [Act.put, List.setIfInBounds_toArray, List.set_cons_zero, List.set_cons_succ]
            rfl
          refine last_ (i := 16) (N := none) #[true, true, true, true, true, true, true, true, true, true, true, true, true, true, true, true, true] rfl rfl (by kernel_rfl) (by decide) (fun K hK => ?_)
          refine Sx.store_step HS.out 2 rfl (by rfl) 3 (.tmp 55) (.tmp 53) rfl j HJ.out rfl 0 rfl (by kernel_rfl) ?_
          intro wz n2 hbz
          have nM : Aside0 (MapFirst wz bM lb2) := Aside0.mk (HM.out.but hbz HND.out)
          have nS : Aside0 (Sx w wz [(.blk gO #[.bool false, .slice AS la1.length cS, .slice (some ⟨gd, 0, none⟩) la2.length cD] 26), (.row (.slice AS la1.length cS) la1), (.row (.slice (some ⟨gd, 0, none⟩) la2.length cD) (((la2.map (fun v => if fz (b == a) lb2 v < lb2.length then (1 : Int) else 0)).take j ++ la2.drop j).set j 0)), (.blk gV #[.bool a, .slice Aa1 la1.length ca1, .slice (some ad) la2.length ca2, .bool b, .slice Ab1 lb1.length cb1, .slice Ab2 lb2.length cb2] 26), (.blk gR #[.bool false, .slice none 0 0, .slice none 0 0] 26), (.blk gB #[.bool b, .slice Ab1 lb1.length cb1, .slice Ab2 lb2.length cb2] 26), (.blk gK #[.bool a, .slice Aa1 la1.length ca1, .slice (some ad) la2.length ca2] 26)]) := Aside0.mk n2
          clear HS HM n2 hbz
          have HS := nS
          have HM := nM
          clear nS nM
          refine hK.out _ _ ?_
          clear hK K
          refine done_ (by kernel_rfl) ?_
          go_wp2
          go_roundw
          case rel =>
            refine ⟨j + 1, by push_cast; rfl, ⟨HLT.out⟩, HM, ⟨?_⟩⟩
            rw [← HFO.out, show (if fz (b == a) lb2 v < lb2.length then (1 : Int) else 0) = 0 from if_neg (by rw [HE.out]; simp [fz])]
            exact HS.out
          case measure => simp [intOf] <;> omega
      · have HVM := Aside0.mk hv
        clear hv
        have HTR := Aside0.mk (show impl_truth.f false = some (0, none) from rfl)
        go_upto_region 10 with (first | ((with_reducible refine gate_dst (N := 37) rfl ?_); refine ev_first HM.out rfl (.tmp 35) (.tmp 36) rfl rfl v rfl HW.out ?_; intro c hc; clear hc; rw [decide_eq_false HVM.out]))
        have nS := Aside0.mk HS.out.drew
        have nM := Aside0.mk HM.out.drew
        clear HS HM
        have HS := nS
        have HM := nM
        clear nS nM
        refine start_ (n := 17) (S := (fun w' => w'.cell? ⟨gO, 2, none⟩ = some (.slice (some ⟨gd, 0, none⟩) la2.length cD))) (ds := [16]) #[false, false, false, false, false, false, false, false, false, false, false, false, false, false, false, false, false] (by kernel_rfl) rfl rfl ((blk_cell (HS.out.blk 0 rfl) 2).trans rfl) (fun hHeld => ?_)
        refine pure_ (i := 0) (N := (some 41)) (v := ?_) (a' := ?_) #[true, false, false, false, false, false, false, false, false, false, false, false, false, false, false, false, false] rfl rfl (by kernel_rfl) (fun _ _ _ h => h) (Or.inl ⟨by rfl, ?_⟩) ?_ ?_
        rotate_left
        · intro w'
          go_simp
          with_reducible rfl
        rotate_left
        · simp only [Act.put, List.setIfInBounds_toArray, List.set_cons_zero, List.set_cons_succ]
          rfl
        refine take_ (i := 1) (N := (some 42)) (v := ?_) (a' := ?_) #[true, true, false, false, false, false, false, false, false, false, false, false, false, false, false, false, false] rfl rfl (by kernel_rfl) (fun _ _ _ h => h) (Or.inl ⟨by rfl, ?_⟩) hHeld ?_ ?_
        rotate_left
        · rintro w' s0
          go_simp
          with_reducible rfl
        rotate_left
        · simp only [Act.put, List.setIfInBounds_toArray, List.set_cons_zero, List.set_cons_succ]
          rfl
        refine pure_ (i := 2) (N := (some 43)) (v := ?_) (a' := ?_) #[true, true, true, false, false, false, false, false, false, false, false, false, false, false, false, false, false] rfl rfl (by kernel_rfl) (fun _ _ _ h => h) (Or.inl ⟨by rfl, ?_⟩) ?_ ?_
        rotate_left
        · intro w'
          go_simp
          with_reducible rfl
        rotate_left
        · simp only [Act.put, List.setIfInBounds_toArray, List.set_cons_zero, List.set_cons_succ]
          rfl
        refine pure_ (i := 3) (N := (some 44)) (v := ?_) (a' := ?_) #[true, true, true, true, false, false, false, false, false, false, false, false, false, false, false, false, false] rfl rfl (by kernel_rfl) (fun _ _ _ h => h) (Or.inl ⟨by rfl, ?_⟩) ?_ ?_
        rotate_left
        · intro w'
          go_simp
          with_reducible rfl
        rotate_left
        · simp only [Act.put, List.setIfInBounds_toArray, List.set_cons_zero, List.set_cons_succ]
          rfl
        refine pure_ (i := 4) (N := (some 45)) (v := ?_) (a' := ?_) #[true, true, true, true, true, false, false, false, false, false, false, false, false, false, false, false, false] rfl rfl (by kernel_rfl) (fun _ _ _ h => h) (Or.inl ⟨by rfl, ?_⟩) ?_ ?_
        rotate_left
        · intro w'
          go_simp
          with_reducible rfl
        rotate_left
        · simp only [Act.put, List.setIfInBounds_toArray, List.set_cons_zero, List.set_cons_succ]
          rfl
        refine pure_ (i := 5) (N := (some 46)) (v := undef) (a' := ?_) #[true, true, true, true, true, true, false, false, false, false, false, false, false, false, false, false, false] rfl rfl (by kernel_rfl) (fun _ _ _ h => h) (Or.inr ⟨by rfl, rfl⟩) ?_ ?_
        rotate_left
        · simp only [Act.put, List.setIfInBounds_toArray, List.set_cons_zero, List.set_cons_succ]
          rfl
        refine pure_ (i := 6) (N := (some 47)) (v := undef) (a' := ?_) #[true, true, true, true, true, true, true, false, false, false, false, false, false, false, false, false, false] rfl rfl (by kernel_rfl) (fun _ _ _ h => h) (Or.inr ⟨by rfl, rfl⟩) ?_ ?_
        rotate_left
        · simp only [Act.put, List.setIfInBounds_toArray, List.set_cons_zero, List.set_cons_succ]
          rfl
        refine pure_ (i := 7) (N := (some 48)) (v := undef) (a' := ?_) #[true, true, true, true, true, true, true, true, false, false, false, false, false, false, false, false, false] rfl rfl (by kernel_rfl) (fun _ _ _ h => h) (Or.inr ⟨by rfl, rfl⟩) ?_ ?_
        rotate_left
        · simp only [Act.put, List.setIfInBounds_toArray, List.set_cons_zero, List.set_cons_succ]
          rfl
        refine pure_ (i := 8) (N := (some 49)) (v := undef) (a' := ?_) #[true, true, true, true, true, true, true, true, true, false, false, false, false, false, false, false, false] rfl rfl (by kernel_rfl) (fun _ _ _ h => h) (Or.inr ⟨by rfl, rfl⟩) ?_ ?_
        rotate_left
        · simp only [Act.put, List.setIfInBounds_toArray, List.set_cons_zero, List.set_cons_succ]
          rfl
        refine pure_ (i := 9) (N := (some 50)) (v := undef) (a' := ?_) #[true, true, true, true, true, true, true, true, true, true, false, false, false, false, false, false, false] rfl rfl (by kernel_rfl) (fun _ _ _ h => h) (Or.inr ⟨by rfl, rfl⟩) ?_ ?_
        rotate_left
        · simp only [Act.put, List.setIfInBounds_toArray, List.set_cons_zero, List.set_cons_succ]
          rfl
        refine pure_ (i := 10) (N := (some 51)) (v := ?_) (a' := ?_) #[true, true, true, true, true, true, true, true, true, true, true, false, false, false, false, false, false] rfl rfl (by kernel_rfl) (fun _ _ _ h => h) (Or.inl ⟨by rfl, ?_⟩) ?_ ?_
        rotate_left
        · intro w'
          go_simp
          with_reducible rfl
        rotate_left
        · simp only [Act.put, List.setIfInBounds_toArray, List.set_cons_zero, List.set_cons_succ]
          rfl
        refine one_ (i := 11) (N := (some 52)) #[true, true, true, true, true, true, true, true, true, true, true, true, false, false, false, false, false] rfl rfl (by kernel_rfl) (by decide) (fun K hK => ?_)
        refine goes_ Try.func36 (by kernel_rfl) rfl #[.bool false] (by rfl) rfl rfl (by (try simp only [List.map_toArray, List.map_cons, List.map_nil]); first | done | rfl) ?_
        with_reducible refine (impl_truth.calls _ 0 none _ HTR.out).mono ?_
        rintro e wt ⟨rfl, hdt⟩
        have hbt := Drawn0.below hdt
        clear hdt
        have nS : Aside0 (Sx w wt [(.blk gO #[.bool false, .slice AS la1.length cS, .slice (some ⟨gd, 0, none⟩) la2.length cD] 26), (.row (.slice AS la1.length cS) la1), (.row (.slice (some ⟨gd, 0, none⟩) la2.length cD) ((la2.map (fun v => if fz (b == a) lb2 v < lb2.length then (1 : Int) else 0)).take j ++ la2.drop j)), (.blk gV #[.bool a, .slice Aa1 la1.length ca1, .slice (some ad) la2.length ca2, .bool b, .slice Ab1 lb1.length cb1, .slice Ab2 lb2.length cb2] 26), (.blk gR #[.bool false, .slice none 0 0, .slice none 0 0] 26), (.blk gB #[.bool b, .slice Ab1 lb1.length cb1, .slice Ab2 lb2.length cb2] 26), (.blk gK #[.bool a, .slice Aa1 la1.length ca1, .slice (some ad) la2.length ca2] 26)]) := Aside0.mk (HS.out.step hbt)
        have nM : Aside0 (MapFirst wt bM lb2) := Aside0.mk (HM.out.below hbt)
        clear HS HM hbt
        have HS := nS
        have HM := nM
        clear nS nM
        refine ⟨_, rfl, ?_⟩
        refine hK.out _ _ ((blk_cell (HS.out.blk 0 rfl) 2).trans rfl) (fun hHeld => ?_)
        clear hK K
        refine norm_ (a' := ?_) ?_ ?_
        rotate_left
        · show Act.put _ (some 52) _ = _
          simp only [Act.put, List.setIfInBounds_toArray, List.set_cons_zero, List.set_cons_succ]
          rfl
        refine pure_ (i := 12) (N := (some 40)) (v := ?_) (a' := ?_) #[true, true, true, true, true, true, true, true, true, true, true, true, true, false, false, false, false] rfl rfl (by kernel_rfl) (fun _ _ _ h => h) (Or.inl ⟨by rfl, ?_⟩) ?_ ?_
        rotate_left
        · intro w'
          go_simp
          with_reducible rfl
        rotate_left
        · simp only [Act.put, List.setIfInBounds_toArray, List.set_cons_zero, List.set_cons_succ]
          rfl
        refine pure_ (i := 13) (N := (some 53)) (v := ?_) (a' := ?_) #[true, true, true, true, true, true, true, true, true, true, true, true, true, true, false, false, false] rfl rfl (by kernel_rfl) (fun _ _ _ h => h) (Or.inl ⟨by rfl, ?_⟩) ?_ ?_
        rotate_left
        · intro w'
          go_simp
          with_reducible rfl
        rotate_left
        · simp only [Act.put, List.setIfInBounds_toArray, List.set_cons_zero, List.set_cons_succ]
          rfl
        refine pure_ (i := 14) (N := (some 54)) (v := ?_) (a' := ?_) #[true, true, true, true, true, true, true, true, true, true, true, true, true, true, true, false, false] rfl rfl (by kernel_rfl) (fun _ _ _ h => h) (Or.inl ⟨by rfl, ?_⟩) ?_ ?_
        rotate_left
        · intro w'
          go_simp
          with_reducible rfl
        rotate_left
        · simp only [Act.put, List.setIfInBounds_toArray, List.set_cons_zero, List.set_cons_succ]
          rfl
        refine pure_ (i := 15) (N := (some 55)) (v := ?_) (a' := ?_) #[true, true, true, true, true, true, true, true, true, true, true, true, true, true, true, true, false] rfl rfl (by kernel_rfl) (fun _ _ _ h => h) (Or.inl ⟨by rfl, ?_⟩) ?_ ?_
        rotate_left
        · intro w'
          go_simp
          with_reducible rfl
        rotate_left
        · simp only [Act.put, List.setIfInBounds_toArray, List.set_cons_zero, List.set_cons_succ]
          rfl
        refine last_ (i := 16) (N := none) #[true, true, true, true, true, true, true, true, true, true, true, true, true, true, true, true, true] rfl rfl (by kernel_rfl) (by decide) (fun K hK => ?_)
        refine Sx.store_step HS.out 2 rfl (by rfl) 3 (.tmp 55) (.tmp 53) rfl j HJ.out rfl 0 rfl (by kernel_rfl) ?_
        intro wz n2 hbz
        have nM : Aside0 (MapFirst wz bM lb2) := Aside0.mk (HM.out.but hbz HND.out)
        have nS : Aside0 (Sx w wz [(.blk gO #[.bool false, .slice AS la1.length cS, .slice (some ⟨gd, 0, none⟩) la2.length cD] 26), (.row (.slice AS la1.length cS) la1), (.row (.slice (some ⟨gd, 0, none⟩) la2.length cD) (((la2.map (fun v => if fz (b == a) lb2 v < lb2.length then (1 : Int) else 0)).take j ++ la2.drop j).set j 0)), (.blk gV #[.bool a, .slice Aa1 la1.length ca1, .slice (some ad) la2.length ca2, .bool b, .slice Ab1 lb1.length cb1, .slice Ab2 lb2.length cb2] 26), (.blk gR #[.bool false, .slice none 0 0, .slice none 0 0] 26), (.blk gB #[.bool b, .slice Ab1 lb1.length cb1, .slice Ab2 lb2.length cb2] 26), (.blk gK #[.bool a, .slice Aa1 la1.length ca1, .slice (some ad) la2.length ca2] 26)]) := Aside0.mk n2
        clear HS HM n2 hbz
        have HS := nS
        have HM := nM
        clear nS nM
        refine hK.out _ _ ?_
        clear hK K
        refine done_ (by kernel_rfl) ?_
        go_wp2
        go_roundw
        case rel =>
          refine ⟨j + 1, by push_cast; rfl, ⟨HLT.out⟩, HM, ⟨?_⟩⟩
          rw [← HFO.out, show (if fz (b == a) lb2 v < lb2.length then (1 : Int) else 0) = 0 from if_neg (by rw [fz_no HVM.out]; omega)]
          exact HS.out
        case measure => simp [intOf] <;> omega
    · obtain rfl : j = la2.length := by have := hj.out; omega
      have HS' : Aside0 (Sx w wr [(.blk gO #[.bool false, .slice AS la1.length cS, .slice AD la2.length cD] 26), (.row (.slice AS la1.length cS) la1), (.row (.slice AD la2.length cD) (la2.map (fun v => if fz (b == a) lb2 v < lb2.length then (1 : Int) else 0))), (.blk gV #[.bool a, .slice Aa1 la1.length ca1, .slice Aa2 la2.length ca2, .bool b, .slice Ab1 lb1.length cb1, .slice Ab2 lb2.length cb2] 26), (.blk gR #[.bool false, .slice none 0 0, .slice none 0 0] 26), (.blk gB #[.bool b, .slice Ab1 lb1.length cb1, .slice Ab2 lb2.length cb2] 26), (.blk gK #[.bool a, .slice Aa1 la1.length ca1, .slice Aa2 la2.length ca2] 26)]) := Aside0.mk (by have := HS.out; rw [List.drop_length, List.append_nil, List.take_of_length_le (by simp)] at this; exact this)
      clear HS HM
      have HS := HS'
      clear HS'
      go_wp2_with (first | ((with_reducible refine gate_dst (N := 57) rfl ?_); refine wpList_load_row rfl 26 (.tmp 8) rfl gO rfl 26 #[.bool false, .slice AS la1.length cS, .slice AD la2.length cD] (0, 0) _ (HS.out.blk 0 rfl) Try.underlying26 rfl (by kernel_rfl) ?_) | ((with_reducible refine gate_store rfl ?_); refine store_named rfl 26 (.tmp 4) (.tmp 57) rfl gR #[.bool false, .slice AS la1.length cS, .slice AD la2.length cD] rfl rfl 26 #[.bool false, .slice none 0 0, .slice none 0 0] (HS.out.blk 4 rfl) (by kernel_rfl) rfl (by simp [Value.oneCell']) ?_; intro wz1 hxz1 hbz1; have nS : Aside0 (Sx w wz1 [(.blk gO #[.bool false, .slice AS la1.length cS, .slice AD la2.length cD] 26), (.row (.slice AS la1.length cS) la1), (.row (.slice AD la2.length cD) (la2.map (fun v => if fz (b == a) lb2 v < lb2.length then (1 : Int) else 0))), (.blk gV #[.bool a, .slice Aa1 la1.length ca1, .slice Aa2 la2.length ca2, .bool b, .slice Ab1 lb1.length cb1, .slice Ab2 lb2.length cb2] 26), (.blk gR #[.bool false, .slice AS la1.length cS, .slice AD la2.length cD] 26), (.blk gB #[.bool b, .slice Ab1 lb1.length cb1, .slice Ab2 lb2.length cb2] 26), (.blk gK #[.bool a, .slice Aa1 la1.length ca1, .slice Aa2 la2.length ca2] 26)]) := Aside0.mk (HS.out.put 4 rfl hxz1 hbz1); clear HS; have HS := nS; clear nS hxz1 hbz1))
      refine bodyPost_ret (results_ct rfl _ _ gR 26 #[.bool false, .slice AS la1.length cS, .slice AD la2.length cD] (0, 0) _ rfl (HS.out.blk 4 rfl) Try.underlying26 rfl (by kernel_rfl)) rfl ?_
      refine ⟨_, _, rfl, (HS.out.two 1 2 (by decide) rfl rfl).1, (HS.out.two 1 2 (by decide) rfl rfl).2, HS.out.below⟩
def impl_Find.f (a : Bool) (l1 l2 : List Int) (b : Bool) (m1 m2 : List Int) : Option ArrAns := if okLens l1 l2 m1 m2 then some (findV a l1 l2 b m1 m2) else none
theorem impl_Find.calls (a : Bool) (Aa1 : Option Addr) (ca1 : Nat) (la1 : List Int) (Aa2 : Option Addr) (ca2 : Nat) (la2 : List Int) (b : Bool) (Ab1 : Option Addr) (cb1 : Nat) (lb1 : List Int) (Ab2 : Option Addr) (cb2 : Nat) (lb2 : List Int) (r1 : Bool) (r2 r3 : List Int) (r4 : Int) (w : World) (ha1 : Kd.C (Kd.int .i64) w Aa1 la1.length la1) (ka1 : la1.length ≤ ca1) (ha2 : Kd.C (Kd.int .i64) w Aa2 la2.length la2) (ka2 : la2.length ≤ ca2) (hb1 : Kd.C (Kd.int .i64) w Ab1 lb1.length lb1) (kb1 : lb1.length ≤ cb1) (hb2 : Kd.C (Kd.int .i64) w Ab2 lb2.length lb2) (kb2 : lb2.length ≤ cb2) (h : impl_Find.f a la1 la2 b lb1 lb2 = some (r1, r2, r3, r4)) :
    Calls Try.prog 10 #[.agg #[.bool a, .slice Aa1 la1.length ca1, .slice Aa2 la2.length ca2], .agg #[.bool b, .slice Ab1 lb1.length cb1, .slice Ab2 lb2.length cb2]] w fun e w' => ∃ v1_ v2_ : Value, e = .returned (.tuple #[.agg #[.bool r1, v1_, v2_], .int .i64 r4]) ∧ Kd.R (Kd.int .i64) 3 w' w.heap.size (fun k_ => some k_ ≠ (v2_ : Value).ownBlock) v1_ r2 ∧ Kd.R (Kd.int .i64) 3 w' w.heap.size (fun k_ => some k_ ≠ (v1_ : Value).ownBlock) v2_ r3 ∧ Below w.heap.size w w' := by
  unfold impl_Find.f at h
  split at h
  · rename_i hl
    have h := Option.some.inj h
    simp only [okLens, Bool.and_eq_true, decide_eq_true_eq] at hl
    obtain ⟨k0, hk0⟩ := (valid_ev2 a la1 la2 b lb1 lb2 (by omega) (by omega)).rounds
    unfold findV at h
    by_cases hv : (arrOk a la1 la2 && arrOk b lb1 lb2) = true
    · rw [if_pos hv] at hk0 h
      have hv' := hv
      simp only [Bool.and_eq_true] at hv'
      have n1 := arrOk_len hv'.1
      have n2 := arrOk_len hv'.2
      have hc1 := arrOk_cells hv'.1
      have hc2 := arrOk_cells hv'.2
      by_cases h0 : la1.length = 1
      · rw [if_pos h0] at h
        cases h
        exact find_ok k0 a Aa1 ca1 la1 Aa2 ca2 la2 b Ab1 cb1 lb1 Ab2 cb2 lb2 w ha1 ka1 ha2 ka2 hb1 kb1 hb2 kb2 hk0 h0 n1.2 hc1 n2.2 hc2 n2.1
      · rw [if_neg h0] at h
        cases h
        exact find_rank k0 a Aa1 ca1 la1 Aa2 ca2 la2 b Ab1 cb1 lb1 Ab2 cb2 lb2 w ha1 ka1 ha2 ka2 hb1 kb1 hb2 kb2 hk0 h0
    · rw [if_neg hv] at hk0 h
      cases h
      exact find_no k0 a Aa1 ca1 la1 Aa2 ca2 la2 b Ab1 cb1 lb1 Ab2 cb2 lb2 w ha1 ka1 ha2 ka2 hb1 kb1 hb2 kb2 3 hk0 (by decide)
  · cases h
def impl_Member.f (a : Bool) (l1 l2 : List Int) (b : Bool) (m1 m2 : List Int) : Option ArrAns := if okLens l1 l2 m1 m2 then some (memV a l1 l2 b m1 m2) else none
theorem impl_Member.calls (a : Bool) (Aa1 : Option Addr) (ca1 : Nat) (la1 : List Int) (Aa2 : Option Addr) (ca2 : Nat) (la2 : List Int) (b : Bool) (Ab1 : Option Addr) (cb1 : Nat) (lb1 : List Int) (Ab2 : Option Addr) (cb2 : Nat) (lb2 : List Int) (r1 : Bool) (r2 r3 : List Int) (r4 : Int) (w : World) (ha1 : Kd.C (Kd.int .i64) w Aa1 la1.length la1) (ka1 : la1.length ≤ ca1) (ha2 : Kd.C (Kd.int .i64) w Aa2 la2.length la2) (ka2 : la2.length ≤ ca2) (hb1 : Kd.C (Kd.int .i64) w Ab1 lb1.length lb1) (kb1 : lb1.length ≤ cb1) (hb2 : Kd.C (Kd.int .i64) w Ab2 lb2.length lb2) (kb2 : lb2.length ≤ cb2) (h : impl_Member.f a la1 la2 b lb1 lb2 = some (r1, r2, r3, r4)) :
    Calls Try.prog 15 #[.agg #[.bool a, .slice Aa1 la1.length ca1, .slice Aa2 la2.length ca2], .agg #[.bool b, .slice Ab1 lb1.length cb1, .slice Ab2 lb2.length cb2]] w fun e w' => ∃ v1_ v2_ : Value, e = .returned (.tuple #[.agg #[.bool r1, v1_, v2_], .int .i64 r4]) ∧ Kd.R (Kd.int .i64) 3 w' w.heap.size (fun k_ => some k_ ≠ (v2_ : Value).ownBlock) v1_ r2 ∧ Kd.R (Kd.int .i64) 3 w' w.heap.size (fun k_ => some k_ ≠ (v1_ : Value).ownBlock) v2_ r3 ∧ Below w.heap.size w w' := by
  unfold impl_Member.f at h
  split at h
  · rename_i hl
    have h := Option.some.inj h
    simp only [okLens, Bool.and_eq_true, decide_eq_true_eq] at hl
    obtain ⟨k0, hk0⟩ := (valid_ev2 a la1 la2 b lb1 lb2 (by omega) (by omega)).rounds
    unfold memV at h
    by_cases hv : (arrOk a la1 la2 && arrOk b lb1 lb2) = true
    · rw [if_pos hv] at hk0 h
      have hv' := hv
      simp only [Bool.and_eq_true] at hv'
      have n1 := arrOk_len hv'.1
      have n2 := arrOk_len hv'.2
      have hc1 := arrOk_cells hv'.1
      have hc2 := arrOk_cells hv'.2
      cases h
      exact member_ok k0 a Aa1 ca1 la1 Aa2 ca2 la2 b Ab1 cb1 lb1 Ab2 cb2 lb2 w ha1 ka1 ha2 ka2 hb1 kb1 hb2 kb2 hk0 n2.2 hc2 n1.2 hc1 n1.1
    · rw [if_neg hv] at hk0 h
      cases h
      exact member_no k0 a Aa1 ca1 la1 Aa2 ca2 la2 b Ab1 cb1 lb1 Ab2 cb2 lb2 w ha1 ka1 ha2 ka2 hb1 kb1 hb2 kb2 3 hk0 (by decide)
  · cases h
end Go.Proofs.Ytlomomhajmackaa.PA

namespace Go.Proofs.Ytlomomhajmackaa.PA
open Go.RowKit Go.Proofs.YtlomomhajmackaaW.PrintWords Go.Proofs.YtlomomhajmackaaW.PrintLast Go.Proofs.YtlomomhajmackaaW.PrintMore
set_option linter.unusedVariables false
set_option linter.unusedSimpArgs false
/-- A pair of rows of numbers, made between two sizes of the heap. -/
structure PrD where
  lo : Nat
  hi : Nat
  v1 : Value
  v2 : Value
  l1 : List Int
  l2 : List Int
def Pr (W : World) (d : PrD) : Prop := Kd.R (Kd.int .i64) 3 W d.lo (fun k => k < d.hi ∧ some k ≠ d.v2.ownBlock) d.v1 d.l1 ∧ Kd.R (Kd.int .i64) 3 W d.lo (fun k => k < d.hi ∧ some k ≠ d.v1.ownBlock) d.v2 d.l2
abbrev Bk := Nat × Array Value × TypeId
structure St (w W : World) (bl : List Bk) (ps : List PrD) : Prop where
  below : Below w.heap.size w W
  blk : ∀ p ∈ bl, W.heap[p.1]? = some (.cells p.2.1 p.2.2 (0, 0)) ∧ w.heap.size ≤ p.1 ∧ p.2.2 ≠ 3
  nod : bl.Pairwise (fun p q => p.1 ≠ q.1)
  pr : ∀ d ∈ ps, Pr W d ∧ w.heap.size ≤ d.lo ∧ d.hi ≤ W.heap.size
  far : ps.Pairwise (fun d e => e.hi ≤ d.lo)
theorem St.start (w : World) : St w w [] [] := ⟨Below.refl _ _, (fun _ h => nomatch h), .nil, (fun _ h => nomatch h), .nil⟩
theorem Pr.step {W W' : World} {d : PrD} (h : Pr W d) (hb : Below W.heap.size W W') : Pr W' d := ⟨Kd.R_below h.1 hb, Kd.R_below h.2 hb⟩
theorem St.step {w W W' : World} {bl : List Bk} {ps : List PrD} (h : St w W bl ps) (hb : Below W.heap.size W W') : St w W' bl ps :=
  ⟨below_step h.below hb, fun p hp => ⟨blk_below (h.blk p hp).1 hb, (h.blk p hp).2⟩, h.nod, fun d hd => ⟨(h.pr d hd).1.step hb, (h.pr d hd).2.1, Nat.le_trans (h.pr d hd).2.2 hb.size⟩, h.far⟩
theorem St.at {w W : World} {bl : List Bk} {ps : List PrD} (h : St w W bl ps) {g : Nat} {cs : Array Value} {t : TypeId} (hm : (g, cs, t) ∈ bl) : W.heap[g]? = some (.cells cs t (0, 0)) := (h.blk _ hm).1
theorem St.box {w W W' : World} {bl : List Bk} {ps : List PrD} (h : St w W bl ps) {g : Nat} {cs : Array Value} {t : TypeId} (hg : g = W.heap.size) (hB : W'.heap[g]? = some (.cells cs t (0, 0))) (hb : Below W.heap.size W W') (ht : t ≠ 3) : St w W' ((g, cs, t) :: bl) ps := by
  have h' := h.step hb
  refine ⟨h'.below, fun p hp => ?_, .cons (fun p hp e => ?_) h.nod, h'.pr, h.far⟩
  · rcases List.mem_cons.1 hp with rfl | hp
    · exact ⟨hB, hg ▸ h.below.size, ht⟩
    · exact h'.blk p hp
  · have := blk_lt (h.blk p hp).1
    simp only at e; omega
theorem St.alloc {w W : World} {bl : List Bk} {ps : List PrD} (h : St w W bl ps) (cs : Array Value) (t : TypeId) (ht : t ≠ 3) : St w (W.alloc (.cells cs t)) ((W.heap.size, cs, t) :: bl) ps := h.box rfl (blk_new W _) (below_alloc (Below.refl _ _) _) ht
theorem St.drew {w W : World} {bl : List Bk} {ps : List PrD} (h : St w W bl ps) : St w W.drew bl ps := h.step (below_drew (Below.refl _ _))
theorem St.drewN {w W : World} {bl : List Bk} {ps : List PrD} (h : St w W bl ps) (n : Nat) : St w (W.drewN n) bl ps := h.step (pw_below_drewN (Below.refl _ _) n)
theorem St.put {w W w1 : World} {bl : List Bk} {ps : List PrD} (h : St w W bl ps) (i : Nat) {g : Nat} {cs cs1 : Array Value} {t : TypeId} (hi : bl[i]? = some (g, cs, t)) (hs : w1.heap[g]? = some (.cells cs1 t (0, 0))) (hk : But1 g W w1) : St w w1 (bl.set i (g, cs1, t)) ps := by
  obtain ⟨hlt, hie⟩ := List.getElem?_eq_some_iff.1 hi
  have hm : (g, cs, t) ∈ bl := List.mem_of_getElem? hi
  have hg := h.blk _ hm
  have hnod := List.pairwise_iff_getElem.1 h.nod
  have hoth : ∀ (j : Nat) (hj : j < bl.length), j ≠ i → (bl[j]).1 ≠ g := fun j hj hne => by
    rcases Nat.lt_or_gt_of_ne hne with hl | hl
    · have := hnod j i hj hlt hl; rw [hie] at this; exact this
    · have := hnod i j hlt hj hl; rw [hie] at this; exact fun e => this e.symm
  refine ⟨h.below.trans (hk.below _ hg.2.1), fun p hp => ?_, ?_, fun d hd => ⟨?_, (h.pr d hd).2.1, ?_⟩, h.far⟩
  · obtain ⟨j, hj, e⟩ := List.getElem_of_mem hp
    rw [List.length_set] at hj
    rw [List.getElem_set] at e
    split at e
    · subst e; exact ⟨hs, hg.2⟩
    · rename_i hne
      have hp' := h.blk p (e ▸ List.getElem_mem hj)
      exact ⟨hk.blk hp'.1 (e ▸ hoth j hj (fun e => hne e.symm)), hp'.2⟩
  · refine List.pairwise_iff_getElem.2 fun a b ha hb hab => ?_
    rw [List.length_set] at ha hb
    rw [List.getElem_set, List.getElem_set]
    split
    · rename_i e1
      split
      · rename_i e2; omega
      · rename_i e2; exact fun e => hoth b hb (fun e => e2 e.symm) e.symm
    · rename_i e1
      split
      · exact hoth a ha (fun e => e1 e.symm)
      · exact hnod a b ha hb hab
  · exact ⟨hk.row (h.pr d hd).1.1 hg.1 (fun e => hg.2.2 e.symm), hk.row (h.pr d hd).1.2 hg.1 (fun e => hg.2.2 e.symm)⟩
  · exact Nat.le_trans (h.pr d hd).2.2 (hk.below _ hg.2.1).size
theorem Pr.ne {W : World} {d : PrD} (h : Pr W d) : ∀ k, some k = d.v1.ownBlock → ¬ some k = d.v2.ownBlock := fun k hk => (h.1.1 k hk.symm).2
theorem Pr.in1 {W : World} {d : PrD} (h : Pr W d) : ∀ k, some k = d.v1.ownBlock → d.lo ≤ k ∧ k < d.hi := fun k hk => ⟨Kd.R_base h.1 k hk.symm, (h.1.1 k hk.symm).1⟩
theorem Pr.in2 {W : World} {d : PrD} (h : Pr W d) : ∀ k, some k = d.v2.ownBlock → d.lo ≤ k ∧ k < d.hi := fun k hk => ⟨Kd.R_base h.2 k hk.symm, (h.2.1 k hk.symm).1⟩
theorem St.add {w W W' : World} {bl : List Bk} {ps : List PrD} (h : St w W bl ps) (hb : Below W.heap.size W W') {B : Nat} (hle : W.heap.size ≤ B) {v1 v2 : Value} {l1 l2 : List Int} {ok2 : Nat → Prop}
    (R1 : Kd.R (Kd.int .i64) 3 W' B (fun k => some k ≠ v2.ownBlock) v1 l1) (R2 : Kd.R (Kd.int .i64) 3 W' B ok2 v2 l2) : St w W' bl (⟨W.heap.size, W'.heap.size, v1, v2, l1, l2⟩ :: ps) := by
  have h' := h.step hb
  refine ⟨h'.below, h'.blk, h'.nod, fun d hd => ?_, .cons (fun d hd => (h.pr d hd).2.2) h.far⟩
  rcases List.mem_cons.1 hd with rfl | hd
  · refine ⟨⟨Kd.R_reok rfl (Kd.R_lower R1 hle) (fun k hk => ⟨Kd.R_lt R1 k hk, R1.1 k hk⟩), Kd.R_reok rfl (Kd.R_lower R2 hle) (fun k hk => ⟨Kd.R_lt R2 k hk, fun e => R1.1 k e.symm hk.symm⟩)⟩, h.below.size, Nat.le_refl _⟩
  · exact h'.pr d hd
theorem St.prAt {w W : World} {bl : List Bk} {ps : List PrD} (h : St w W bl ps) {d : PrD} (hd : d ∈ ps) : Pr W d := (h.pr d hd).1
theorem St.idx {w W : World} {bl : List Bk} {ps : List PrD} (h : St w W bl ps) (i : Nat) {g : Nat} {cs : Array Value} {t : TypeId} (hi : bl[i]? = some (g, cs, t)) : W.heap[g]? = some (.cells cs t (0, 0)) := (h.blk _ (List.mem_of_getElem? hi)).1
theorem St.nth {w W : World} {bl : List Bk} {ps : List PrD} (h : St w W bl ps) (j : Nat) {d : PrD} (hj : ps[j]? = some d) : Pr W d := h.prAt (List.mem_of_getElem? hj)
theorem St.sub {w W : World} {bl : List Bk} {ps ps' : List PrD} (h : St w W bl ps) (hs : ps'.Sublist ps) : St w W bl ps' := ⟨h.below, h.blk, h.nod, fun d hd => h.pr d (hs.subset hd), h.far.sublist hs⟩
theorem Pr.c1 {W : World} {lo hi n c : Nat} {A : Option Addr} {v2 : Value} {l1 l2 : List Int} (h : Pr W ⟨lo, hi, .slice A n c, v2, l1, l2⟩) : n = l1.length ∧ Kd.C (Kd.int .i64) W A l1.length l1 ∧ l1.length ≤ c :=
  by obtain ⟨e, k, c⟩ := Kd.R_reads' h.1; exact ⟨e, c, e ▸ k⟩
theorem Pr.c2 {W : World} {lo hi n c : Nat} {A : Option Addr} {v1 : Value} {l1 l2 : List Int} (h : Pr W ⟨lo, hi, v1, .slice A n c, l1, l2⟩) : n = l2.length ∧ Kd.C (Kd.int .i64) W A l2.length l2 ∧ l2.length ≤ c :=
  by obtain ⟨e, k, c⟩ := Kd.R_reads' h.2; exact ⟨e, c, e ▸ k⟩
theorem St.mark {w W W' : World} {bl : List Bk} {ps : List PrD} (h : St w W bl ps) (i : Nat) {d : PrD} (hi : ps[i]? = some d) {m1 m2 : List Int} {ok1 ok2 : Nat → Prop} (hk : Kept W W' (fun k => some k = d.v1.ownBlock ∨ some k = d.v2.ownBlock))
    (R1 : Kd.R (Kd.int .i64) 3 W' w.heap.size ok1 d.v1 m1) (R2 : Kd.R (Kd.int .i64) 3 W' w.heap.size ok2 d.v2 m2) (hb : Below w.heap.size w W') : St w W' bl (ps.set i ⟨d.lo, d.hi, d.v1, d.v2, m1, m2⟩) := by
  obtain ⟨hlt, hie⟩ := List.getElem?_eq_some_iff.1 hi
  have hd : d ∈ ps := List.mem_of_getElem? hi
  have hp := h.pr d hd
  have hfar := List.pairwise_iff_getElem.1 h.far
  have hin : ∀ k, (some k = d.v1.ownBlock ∨ some k = d.v2.ownBlock) → d.lo ≤ k ∧ k < d.hi := fun k hk => by
    rcases hk with hk | hk
    · exact hp.1.in1 k hk
    · exact hp.1.in2 k hk
  refine ⟨hb, fun p hp' => ⟨?_, (h.blk p hp').2⟩, h.nod, fun e he => ?_, ?_⟩
  · refine blk_kept (h.blk p hp').1 hk fun hs => ?_
    have hb' := (h.blk p hp').1
    rcases hs with hs | hs
    · obtain ⟨cells, hc⟩ := own_typed (Kd.own_of_R hp.1.1) p.1 hs.symm
      rw [hc] at hb'; injection hb' with hb'; injection hb' with _ hb'; exact (h.blk p hp').2.2 hb'.symm
    · obtain ⟨cells, hc⟩ := own_typed (Kd.own_of_R hp.1.2) p.1 hs.symm
      rw [hc] at hb'; injection hb' with hb'; injection hb' with _ hb'; exact (h.blk p hp').2.2 hb'.symm
  · obtain ⟨j, hj, ej⟩ := List.getElem_of_mem he
    rw [List.length_set] at hj
    rw [List.getElem_set] at ej
    split at ej
    · subst ej
      refine ⟨⟨?_, ?_⟩, hp.2.1, Nat.le_trans hp.2.2 hk.1⟩
      · exact Kd.R_of_own (Kd.own_raise (Kd.own_of_R R1) (fun k hk => (hp.1.in1 k hk.symm).1)) (fun k hk => ⟨(hp.1.in1 k hk.symm).2, hp.1.ne k hk.symm⟩)
      · exact Kd.R_of_own (Kd.own_raise (Kd.own_of_R R2) (fun k hk => (hp.1.in2 k hk.symm).1)) (fun k hk => ⟨(hp.1.in2 k hk.symm).2, fun e => hp.1.ne k e hk.symm⟩)
    · rename_i hne
      have he' : e ∈ ps := ej ▸ List.getElem_mem hj
      have hq := h.pr e he'
      have hdis : ∀ k, e.lo ≤ k → k < e.hi → ¬ (some k = d.v1.ownBlock ∨ some k = d.v2.ownBlock) := fun k h1 h2 hs => by
        have h3 := hin k hs
        rcases Nat.lt_or_gt_of_ne hne with hl | hl
        · have := hfar i j hlt hj hl; rw [hie, ej] at this; omega
        · have := hfar j i hj hlt hl; rw [hie, ej] at this; omega
      refine ⟨⟨?_, ?_⟩, hq.2.1, Nat.le_trans hq.2.2 hk.1⟩
      · exact Kd.R_mono (Kd.R_step (Kd.R_bound hq.1.1) (fun k hok hlt' => hk.2 k hlt' (hdis k hok.2.1 hok.1.1))) (fun k hok => hok.1)
      · exact Kd.R_mono (Kd.R_step (Kd.R_bound hq.1.2) (fun k hok hlt' => hk.2 k hlt' (hdis k hok.2.1 hok.1.1))) (fun k hok => hok.1)
  · refine List.pairwise_iff_getElem.2 fun a b ha hb' hab => ?_
    rw [List.length_set] at ha hb'
    have hab' := hfar a b ha hb' hab
    have ea : ((ps.set i ⟨d.lo, d.hi, d.v1, d.v2, m1, m2⟩)[a]'(by rw [List.length_set]; exact ha)).lo = (ps[a]).lo := by
      rw [List.getElem_set]; split
      · rename_i e; subst e; rw [hie]
      · rfl
    have eb : ((ps.set i ⟨d.lo, d.hi, d.v1, d.v2, m1, m2⟩)[b]'(by rw [List.length_set]; exact hb')).hi = (ps[b]).hi := by
      rw [List.getElem_set]; split
      · rename_i e; subst e; rw [hie]
      · rfl
    rw [ea, eb]; exact hab'
theorem cells3 {W : World} {g : Nat} {t : TypeId} {x y z : Value} (h : W.heap[g]? = some (.cells #[x, y, z] t (0, 0))) : W.cell? ⟨g, 0, none⟩ = some x ∧ W.cell? ⟨g, 1, none⟩ = some y ∧ W.cell? ⟨g, 2, none⟩ = some z :=
  ⟨(blk_cell h 0).trans rfl, (blk_cell h 1).trans rfl, (blk_cell h 2).trans rfl⟩
theorem St.cells2 {w W : World} {bl : List Bk} {ps : List PrD} {g1 g2 : Nat} {x1 y1 z1 x2 y2 z2 : Value} {t1 t2 : TypeId} (h : St w W bl ps) (m1 : (g1, #[x1, y1, z1], t1) ∈ bl) (m2 : (g2, #[x2, y2, z2], t2) ∈ bl) :
    W.cell? ⟨g1, 0, none⟩ = some x1 ∧ W.cell? ⟨g1, 1, none⟩ = some y1 ∧ W.cell? ⟨g1, 2, none⟩ = some z1 ∧ W.cell? ⟨g2, 0, none⟩ = some x2 ∧ W.cell? ⟨g2, 1, none⟩ = some y2 ∧ W.cell? ⟨g2, 2, none⟩ = some z2 :=
  ⟨(cells3 (h.at m1)).1, (cells3 (h.at m1)).2.1, (cells3 (h.at m1)).2.2, cells3 (h.at m2)⟩
theorem But1.set3 {W : World} {g : Nat} (x y z : Value) : But1 g W (((W.setCell ⟨g, 0, none⟩ x).setCell ⟨g, 1, none⟩ y).setCell ⟨g, 2, none⟩ z) :=
  ⟨fun k hk => (Below.heap_setCell _ _ _ k hk).trans ((Below.heap_setCell _ _ _ k hk).trans (Below.heap_setCell _ _ _ k hk)), fun B hB => (((Below.refl B W).setCell (p := ⟨g, 0, none⟩) hB x).setCell (p := ⟨g, 1, none⟩) hB y).setCell (p := ⟨g, 2, none⟩) hB z⟩
theorem St.set3 {w W : World} {bl : List Bk} {ps : List PrD} {g : Nat} {a b c : Value} {t : TypeId} (h : St w W ((g, #[a, b, c], t) :: bl) ps) (x y z : Value) :
    St w (((W.setCell ⟨g, 0, none⟩ x).setCell ⟨g, 1, none⟩ y).setCell ⟨g, 2, none⟩ z) ((g, #[x, y, z], t) :: bl) ps := by
  have s := blk_set (blk_set (blk_set (h.at (g := g) (cs := #[a, b, c]) (t := t) List.mem_cons_self) 0 x) 1 y) 2 z
  exact h.put 0 rfl (by simpa using s) (But1.set3 x y z)
/-- What a call that gives an array and a code leaves, its answer laid in a box. -/
def Got (w : World) (bl : List Bk) (ps : List PrD) (t : TypeId) (b : Bool) (l1 l2 : List Int) (cd : Int) (v6 v7 : Value) (W : World) : Prop :=
  ∃ g A1 c1 A2 c2 lo hi, v6 = .pointer (some ⟨g, 0, none⟩) ∧ v7 = .int .i64 cd ∧ St w W ((g, #[.bool b, .slice A1 l1.length c1, .slice A2 l2.length c2], t) :: bl) (⟨lo, hi, .slice A1 l1.length c1, .slice A2 l2.length c2, l1, l2⟩ :: ps)
theorem gotA {w W : World} {bl : List Bk} {ps ps' : List PrD} {t : TypeId} {b : Bool} {l1 l2 : List Int} {cd : Int} {A1 A2 : Option Addr} {c1 c2 lo hi : Nat} (h : St w W bl (⟨lo, hi, .slice A1 l1.length c1, .slice A2 l2.length c2, l1, l2⟩ :: ps')) (hs : ps.Sublist ps') (ht : t ≠ 3) :
    Got w bl ps t b l1 l2 cd (.pointer (some ⟨W.heap.size, 0, none⟩)) (.int .i64 cd) (W.alloc (.cells #[.bool b, .slice A1 l1.length c1, .slice A2 l2.length c2] t)) :=
  ⟨_, A1, c1, A2, c2, lo, hi, rfl, rfl, (h.alloc _ t ht).sub (hs.cons_cons _)⟩
theorem gotB {w W : World} {bl : List Bk} {ps ps' : List PrD} {t : TypeId} {b : Bool} {l1 l2 : List Int} {cd : Int} {A1 A2 : Option Addr} {c1 c2 lo hi g : Nat} {x y z : Value} (h : St w W ((g, #[x, y, z], t) :: bl) (⟨lo, hi, .slice A1 l1.length c1, .slice A2 l2.length c2, l1, l2⟩ :: ps')) (hs : ps.Sublist ps') :
    Got w bl ps t b l1 l2 cd (.pointer (some ⟨g, 0, none⟩)) (.int .i64 cd) (((W.setCell ⟨g, 0, none⟩ (.bool b)).setCell ⟨g, 1, none⟩ (.slice A1 l1.length c1)).setCell ⟨g, 2, none⟩ (.slice A2 l2.length c2)) :=
  ⟨g, A1, c1, A2, c2, lo, hi, rfl, rfl, (h.set3 _ _ _).sub (hs.cons_cons _)⟩
theorem Got.drew {w W : World} {bl : List Bk} {ps : List PrD} {t : TypeId} {b : Bool} {l1 l2 : List Int} {cd : Int} {v6 v7 : Value} (h : Got w bl ps t b l1 l2 cd v6 v7 W) : Got w bl ps t b l1 l2 cd v6 v7 W.drew := by
  obtain ⟨g, A1, c1, A2, c2, lo, hi, e1, e2, hs⟩ := h
  exact ⟨g, A1, c1, A2, c2, lo, hi, e1, e2, hs.drew⟩
/-- A pair that is marked: what the law's function asks. -/
theorem St.ready {w W : World} {bl : List Bk} {ps : List PrD} (h : St w W bl ps) {d : PrD} (hd : d ∈ ps) :
    Kd.R (Kd.int .i64) 3 W w.heap.size (fun k => some k = d.v1.ownBlock) d.v1 d.l1 ∧ (∀ k, some k = d.v1.ownBlock → ¬ some k = d.v2.ownBlock) ∧ Kd.R (Kd.int .i64) 3 W w.heap.size (fun k => some k = d.v2.ownBlock) d.v2 d.l2 ∧ (∀ k, some k = d.v2.ownBlock → ¬ some k = d.v1.ownBlock) :=
  ⟨Kd.R_tight rfl (Kd.R_lower (h.prAt hd).1 (h.pr d hd).2.1), (h.prAt hd).ne, Kd.R_tight rfl (Kd.R_lower (h.prAt hd).2 (h.pr d hd).2.1), fun k h2 h1 => (h.prAt hd).ne k h1 h2⟩
theorem St.ready' {w W : World} {bl : List Bk} {ps : List PrD} (h : St w W bl ps) (j : Nat) {d : PrD} (hj : ps[j]? = some d) :
    Kd.R (Kd.int .i64) 3 W w.heap.size (fun k => some k = d.v1.ownBlock) d.v1 d.l1 ∧ (∀ k, some k = d.v1.ownBlock → ¬ some k = d.v2.ownBlock) ∧ Kd.R (Kd.int .i64) 3 W w.heap.size (fun k => some k = d.v2.ownBlock) d.v2 d.l2 ∧ (∀ k, some k = d.v2.ownBlock → ¬ some k = d.v1.ownBlock) := h.ready (List.mem_of_getElem? hj)
/-- 'held' at rows whose lengths are written another way. -/
theorem held_n (k : Nat) (b : Bool) (A1 A2 : Option Addr) (n1 n2 c1 c2 : Nat) (l1 l2 : List Int) (a r : Int) (w : World) (e1 : n1 = l1.length) (e2 : n2 = l2.length) (h1 : Kd.C (Kd.int .i64) w A1 l1.length l1) (k1 : l1.length ≤ c1) (h2 : Kd.C (Kd.int .i64) w A2 l2.length l2) (k2 : l2.length ≤ c2)
    (h : laws_heldArray.f k b l1 l2 a = some r) : Calls Try.prog 13 #[.agg #[.bool b, .slice A1 n1 c1, .slice A2 n2 c2], .int .i64 a] w fun e w' => e = .returned (.int .i64 r) ∧ Below w.heap.size w w' := by
  subst e1 e2
  exact laws_heldArray.calls k b A1 c1 l1 A2 c2 l2 a r w h1 k1 h2 k2 h
end Go.Proofs.Ytlomomhajmackaa.PA

namespace Go.Proofs.Ytlomomhajmackaa.PA
open Go.RowKit Go.Proofs.YtlomomhajmackaaW.PrintWords Go.Proofs.YtlomomhajmackaaW.PrintLast Go.Proofs.YtlomomhajmackaaW.PrintMore
set_option linter.unusedVariables false
set_option linter.unusedSimpArgs false
set_option maxHeartbeats 8000000 in
set_option maxRecDepth 100000 in
theorem lawMember_y (kta ktb kea keb ks kev kh kk1 kk2 kk3 : Nat) (a : Bool) (Aa1 : Option Addr) (ca1 : Nat) (la1 : List Int) (Aa2 : Option Addr) (ca2 : Nat) (la2 : List Int) (b : Bool) (Ab1 : Option Addr) (cb1 : Nat) (lb1 : List Int) (Ab2 : Option Addr) (cb2 : Nat) (lb2 : List Int) (v1 : Bool) (v2 v3 : List Int) (v4 : Int) (s1 : Int) (s2 : Int) (k1 : Int) (m11 m12 : List Int) (k2 : Int) (m21 m22 : List Int) (k3 : Int) (m31 m32 : List Int) (w : World) (ha1 : Kd.C (Kd.int .i64) w Aa1 la1.length la1) (ka1 : la1.length ≤ ca1) (ha2 : Kd.C (Kd.int .i64) w Aa2 la2.length la2) (ka2 : la2.length ≤ ca2) (hb1 : Kd.C (Kd.int .i64) w Ab1 lb1.length lb1) (kb1 : lb1.length ≤ cb1) (hb2 : Kd.C (Kd.int .i64) w Ab2 lb2.length lb2) (kb2 : lb2.length ≤ cb2)
    (hta : laws_toArray.f kta a la1 la2 = some (a, la1, la2))
    (hea : laws_eqArray.f kea a la1 la2 a la1 la2 = some true)
    (htb : laws_toArray.f ktb b lb1 lb2 = some (b, lb1, lb2))
    (heb : laws_eqArray.f keb b lb1 lb2 b lb1 lb2 = some true)
    (hsp : spec_Member.f ks a la1 la2 b lb1 lb2 = some (v1, v2, v3, v4))
    (him : impl_Member.f a la1 la2 b lb1 lb2 = some (v1, v2, v3, v4))
    (hev : laws_eqArray.f kev v1 v2 v3 v1 v2 v3 = some true)
    (hz1 : laws_szArray.f a la1 la2 1048576 = some s1)
    (pz1 : 0 ≤ s1)
    (hz2 : laws_szArray.f b lb1 lb2 s1 = some s2)
    (pz2 : 0 ≤ s2)
    (hm1 : laws_markArray.f kk1 a la1 la2 1 = some (k1, m11, m12))
    (pm1 : 0 ≤ k1)
    (lm11 : la1.length = m11.length)
    (lm12 : la2.length = m12.length)
    (hm2 : laws_markArray.f kk2 b lb1 lb2 k1 = some (k2, m21, m22))
    (pm2 : 0 ≤ k2)
    (lm21 : lb1.length = m21.length)
    (lm22 : lb2.length = m22.length)
    (hm3 : laws_markArray.f kk3 v1 v2 v3 1 = some (k3, m31, m32))
    (pm3 : 0 ≤ k3)
    (lm31 : v2.length = m31.length)
    (lm32 : v3.length = m32.length)
    (hhG : laws_heldArray.f kh v1 m31 m32 1 = some k3) :
    Calls Try.prog 4 #[.agg #[.bool a, .slice Aa1 la1.length ca1, .slice Aa2 la2.length ca2], .agg #[.bool b, .slice Ab1 lb1.length cb1, .slice Ab2 lb2.length cb2]] w fun e w' => e = .returned (.bool true) ∧ Below w.heap.size w w' := by
  have Ha1 := Aside0.mk ha1
  have Ka1 := Aside0.mk ka1
  have Ha2 := Aside0.mk ha2
  have Ka2 := Aside0.mk ka2
  have Hb1 := Aside0.mk hb1
  have Kb1 := Aside0.mk kb1
  have Hb2 := Aside0.mk hb2
  have Kb2 := Aside0.mk kb2
  replace hta := Aside0.mk hta
  replace hea := Aside0.mk hea
  replace htb := Aside0.mk htb
  replace heb := Aside0.mk heb
  replace hsp := Aside0.mk hsp
  replace him := Aside0.mk him
  replace hev := Aside0.mk hev
  replace hz1 := Aside0.mk hz1
  replace hz2 := Aside0.mk hz2
  replace hm1 := Aside0.mk hm1
  replace lm11 := Aside0.mk lm11
  replace lm12 := Aside0.mk lm12
  replace hm2 := Aside0.mk hm2
  replace lm21 := Aside0.mk lm21
  replace lm22 := Aside0.mk lm22
  replace hm3 := Aside0.mk hm3
  replace lm31 := Aside0.mk lm31
  replace lm32 := Aside0.mk lm32
  replace hhG := Aside0.mk hhG
  clear ha1 ka1 ha2 ka2 hb1 kb1 hb2 kb2
  have qpz1 : decide (s1 < 0) = false := decide_eq_false (by omega)
  have qpz2 : decide (s2 < 0) = false := decide_eq_false (by omega)
  have qpm1 : decide (k1 < 0) = false := decide_eq_false (by omega)
  have qpm2 : decide (k2 < 0) = false := decide_eq_false (by omega)
  have qpm3 : decide (k3 < 0) = false := decide_eq_false (by omega)
  have HS := Aside0.mk (St.start w)
  go_enter Try.func4, Try.ntmps4
  go_upto_region 1 with (first | ((with_reducible refine gate_dst (N := 2) rfl ?_); refine box_event ?hg (N := 2) ?hd (cs := #[.bool a, .slice Aa1 la1.length ca1, .slice Aa2 la2.length ca2]) (t := 24) ?hr ?_; (case hd => rfl); (case hg => rfl); (case hr => first | (go_simp; done) | (go_simp; rfl)); intro g1 hg1 w1 hx1 hb1; have nS := Aside0.mk (HS.out.box hg1 hx1 hb1 (by decide)); clear HS; have HS := nS; clear nS hg1 hx1 hb1) | ((with_reducible refine gate_dst (N := 3) rfl ?_); refine box_event ?hg (N := 3) ?hd (cs := #[.bool b, .slice Ab1 lb1.length cb1, .slice Ab2 lb2.length cb2]) (t := 24) ?hr ?_; (case hd => rfl); (case hg => rfl); (case hr => first | (go_simp; done) | (go_simp; rfl)); intro g2 hg2 w2 hx2 hb2; have nS := Aside0.mk (HS.out.box hg2 hx2 hb2 (by decide)); clear HS; have HS := nS; clear nS hg2 hx2 hb2))
  go_upto_region 2 with (fail)
  go_upto_region 3 with (first | ((with_reducible refine gate_dst (N := 17) rfl ?_); refine wpList_load_row rfl 24 (.tmp 2) rfl g1 rfl 24 #[.bool a, .slice Aa1 la1.length ca1, .slice Aa2 la2.length ca2] (0, 0) _ (HS.out.idx 1 rfl) Try.underlying24 rfl (by kernel_rfl) ?_) | (go_at_call 7; refine (laws_szArray.calls a _ _ la1 _ _ la2 1048576 s1 _ (by (with_reducible repeat (first | refine Kd.C_drew ?_ | refine Kd.C_drewN ?_ _ | refine Kd.C_alloc ?_ _)); exact (Kd.C_below Ha1.out HS.out.below)) Ka1.out (by (with_reducible repeat (first | refine Kd.C_drew ?_ | refine Kd.C_drewN ?_ _ | refine Kd.C_alloc ?_ _)); exact (Kd.C_below Ha2.out HS.out.below)) Ka2.out hz1.out).mono ?_; rintro e w3 ⟨rfl, hb3⟩; have nS := Aside0.mk (St.step (by repeat (first | (with_reducible exact HS.out) | (with_reducible apply St.drew) | (with_reducible apply St.drewN) | (with_reducible apply St.alloc) | decide)) hb3); clear HS; have HS := nS; clear nS hb3))
  go_upto_region 5 with (fail)
  go_upto_region 6 with (first | ((with_reducible refine gate_dst (N := 22) rfl ?_); refine wpList_load_row rfl 24 (.tmp 3) rfl g2 rfl 24 #[.bool b, .slice Ab1 lb1.length cb1, .slice Ab2 lb2.length cb2] (0, 0) _ (HS.out.idx 0 rfl) Try.underlying24 rfl (by kernel_rfl) ?_) | (go_at_call 7; refine (laws_szArray.calls b _ _ lb1 _ _ lb2 s1 s2 _ (by (with_reducible repeat (first | refine Kd.C_drew ?_ | refine Kd.C_drewN ?_ _ | refine Kd.C_alloc ?_ _)); exact (Kd.C_below Hb1.out HS.out.below)) Kb1.out (by (with_reducible repeat (first | refine Kd.C_drew ?_ | refine Kd.C_drewN ?_ _ | refine Kd.C_alloc ?_ _)); exact (Kd.C_below Hb2.out HS.out.below)) Kb2.out hz2.out).mono ?_; rintro e w4 ⟨rfl, hb4⟩; have nS := Aside0.mk (St.step (by repeat (first | (with_reducible exact HS.out) | (with_reducible apply St.drew) | (with_reducible apply St.drewN) | (with_reducible apply St.alloc) | decide)) hb4); clear HS; have HS := nS; clear nS hb4))
  go_upto_region 8 with (fail)
  go_cut [6, 7] (fun v6 v7 wc => Got w [(g2, #[.bool b, .slice Ab1 lb1.length cb1, .slice Ab2 lb2.length cb2], 24), (g1, #[.bool a, .slice Aa1 la1.length ca1, .slice Aa2 la2.length ca2], 24)] ([] : List PrD) 26 v1 v2 v3 v4 v6 v7 wc)
  case first =>
    go_region_held3 (fun w' => w'.cell? ⟨g1, 0, none⟩ = some (.bool a) ∧ w'.cell? ⟨g1, 1, none⟩ = some (.slice Aa1 la1.length ca1) ∧ w'.cell? ⟨g1, 2, none⟩ = some (.slice Aa2 la2.length ca2) ∧ w'.cell? ⟨g2, 0, none⟩ = some (.bool b) ∧ w'.cell? ⟨g2, 1, none⟩ = some (.slice Ab1 lb1.length cb1) ∧ w'.cell? ⟨g2, 2, none⟩ = some (.slice Ab2 lb2.length cb2)) ((apply St.cells2 (w := w) (t1 := 24) (t2 := 24); (repeat (first | (with_reducible exact HS.out) | (with_reducible apply St.drew) | (with_reducible apply St.drewN) | (with_reducible apply St.alloc) | (with_reducible apply St.set3) | decide)); all_goals simp)) (first | (go_at_call_of 9 (Value.agg #[Value.bool a, Value.slice Aa1 la1.length ca1, Value.slice Aa2 la2.length ca2]); refine (laws_toArray.calls kta a _ _ la1 _ _ la2 a la1 la2 _ (by (with_reducible repeat (first | refine Kd.C_drew ?_ | refine Kd.C_drewN ?_ _ | refine Kd.C_alloc ?_ _)); exact (Kd.C_below Ha1.out HS.out.below)) Ka1.out (by (with_reducible repeat (first | refine Kd.C_drew ?_ | refine Kd.C_drewN ?_ _ | refine Kd.C_alloc ?_ _)); exact (Kd.C_below Ha2.out HS.out.below)) Ka2.out hta.out).mono ?_; rintro e w5 ⟨x5, y5, rfl, hx5, hy5, hb5⟩; obtain ⟨Ax5, cx5, rfl⟩ := Kd.R_slice hx5; obtain ⟨Ay5, cy5, rfl⟩ := Kd.R_slice hy5; have nS := Aside0.mk (St.add (by repeat (first | (with_reducible exact HS.out) | (with_reducible apply St.drew) | (with_reducible apply St.drewN) | (with_reducible apply St.alloc) | decide)) hb5 (Nat.le_refl _) hx5 hy5); clear HS; have HS := nS; clear nS hb5 hx5 hy5) | (go_at_call_of 9 (Value.agg #[Value.bool b, Value.slice Ab1 lb1.length cb1, Value.slice Ab2 lb2.length cb2]); refine (laws_toArray.calls ktb b _ _ lb1 _ _ lb2 b lb1 lb2 _ (by (with_reducible repeat (first | refine Kd.C_drew ?_ | refine Kd.C_drewN ?_ _ | refine Kd.C_alloc ?_ _)); exact (Kd.C_below Hb1.out HS.out.below)) Kb1.out (by (with_reducible repeat (first | refine Kd.C_drew ?_ | refine Kd.C_drewN ?_ _ | refine Kd.C_alloc ?_ _)); exact (Kd.C_below Hb2.out HS.out.below)) Kb2.out htb.out).mono ?_; rintro e w6 ⟨x6, y6, rfl, hx6, hy6, hb6⟩; obtain ⟨Ax6, cx6, rfl⟩ := Kd.R_slice hx6; obtain ⟨Ay6, cy6, rfl⟩ := Kd.R_slice hy6; have nS := Aside0.mk (St.add (by repeat (first | (with_reducible exact HS.out) | (with_reducible apply St.drew) | (with_reducible apply St.drewN) | (with_reducible apply St.alloc) | decide)) hb6 (Nat.le_refl _) hx6 hy6); clear HS; have HS := nS; clear nS hb6 hx6 hy6) | (go_at_call 14; refine (spec_Member.calls ks a Ax5 cx5 la1 Ay5 cy5 la2 b Ax6 cx6 lb1 Ay6 cy6 lb2 v1 v2 v3 v4 _ (by (with_reducible repeat (first | refine Kd.C_drew ?_ | refine Kd.C_drewN ?_ _ | refine Kd.C_alloc ?_ _)); exact (HS.out.nth 1 rfl).c1.2.1) (HS.out.nth 1 rfl).c1.2.2 (by (with_reducible repeat (first | refine Kd.C_drew ?_ | refine Kd.C_drewN ?_ _ | refine Kd.C_alloc ?_ _)); exact (HS.out.nth 1 rfl).c2.2.1) (HS.out.nth 1 rfl).c2.2.2 (by (with_reducible repeat (first | refine Kd.C_drew ?_ | refine Kd.C_drewN ?_ _ | refine Kd.C_alloc ?_ _)); exact (HS.out.nth 0 rfl).c1.2.1) (HS.out.nth 0 rfl).c1.2.2 (by (with_reducible repeat (first | refine Kd.C_drew ?_ | refine Kd.C_drewN ?_ _ | refine Kd.C_alloc ?_ _)); exact (HS.out.nth 0 rfl).c2.2.1) (HS.out.nth 0 rfl).c2.2.2 hsp.out).mono ?_; rintro e w7 ⟨x7, y7, rfl, hx7, hy7, hb7⟩; obtain ⟨Ax7, cx7, rfl⟩ := Kd.R_slice hx7; obtain ⟨Ay7, cy7, rfl⟩ := Kd.R_slice hy7; have nS := Aside0.mk (St.add (by repeat (first | (with_reducible exact HS.out) | (with_reducible apply St.drew) | (with_reducible apply St.drewN) | (with_reducible apply St.alloc) | decide)) hb7 (Nat.le_refl _) hx7 hy7); clear HS; have HS := nS; clear nS hb7 hx7 hy7; have hz_ := Aside0.mk (HS.out.idx 0 rfl); have hx0_ := (cells3 hz_.out).1; have hx1_ := (cells3 hz_.out).2.1; have hx2_ := (cells3 hz_.out).2.2; have hy0_ := blk_frozen hz_.out 0; have hy1_ := blk_frozen hz_.out 1; have hy2_ := blk_frozen hz_.out 2))
    all_goals
      go_wp2_with fail
      go_meet
      case rel =>
        (try (with_reducible refine Got.drew ?_))
        first | (with_reducible refine gotB HS.out ?_) | (with_reducible refine gotA HS.out ?_ (show 26 ≠ 3 by decide))
        repeat (first | (with_reducible exact List.Sublist.refl _) | (with_reducible exact List.nil_sublist _) | (with_reducible apply List.Sublist.cons_cons) | (with_reducible apply List.Sublist.cons))
  case rest =>
    obtain ⟨g8, Az8, cz8, Bz8, dz8, lo8, hi8, rfl, rfl, hs8⟩ := hcut; have HS := Aside0.mk hs8; clear hs8
    go_upto_region 10 with (first | ((with_reducible refine gate_dst (N := 35) rfl ?_); refine wpList_load_row rfl 24 (.tmp 2) rfl g1 rfl 24 #[.bool a, .slice Aa1 la1.length ca1, .slice Aa2 la2.length ca2] (0, 0) _ (HS.out.idx 2 rfl) Try.underlying24 rfl (by kernel_rfl) ?_) | (go_at_call_of 9 (Value.agg #[Value.bool a, Value.slice Aa1 la1.length ca1, Value.slice Aa2 la2.length ca2]); refine (laws_toArray.calls kta a _ _ la1 _ _ la2 a la1 la2 _ (by (with_reducible repeat (first | refine Kd.C_drew ?_ | refine Kd.C_drewN ?_ _ | refine Kd.C_alloc ?_ _)); exact (Kd.C_below Ha1.out HS.out.below)) Ka1.out (by (with_reducible repeat (first | refine Kd.C_drew ?_ | refine Kd.C_drewN ?_ _ | refine Kd.C_alloc ?_ _)); exact (Kd.C_below Ha2.out HS.out.below)) Ka2.out hta.out).mono ?_; rintro e w9 ⟨x9, y9, rfl, hx9, hy9, hb9⟩; obtain ⟨Ax9, cx9, rfl⟩ := Kd.R_slice hx9; obtain ⟨Ay9, cy9, rfl⟩ := Kd.R_slice hy9; have nS := Aside0.mk (St.add (by repeat (first | (with_reducible exact HS.out) | (with_reducible apply St.drew) | (with_reducible apply St.drewN) | (with_reducible apply St.alloc) | decide)) hb9 (Nat.le_refl _) hx9 hy9); clear HS; have HS := nS; clear nS hb9 hx9 hy9) | ((with_reducible refine gate_dst (N := 8) rfl ?_); refine box_event ?hg (N := 8) ?hd (cs := #[.bool false, .slice none 0 0, .slice none 0 0]) (t := 26) ?hr ?_; (case hd => rfl); (case hg => rfl); (case hr => first | (go_simp; done) | (go_simp; rfl)); intro g10 hg10 w10 hx10 hb10; have nS := Aside0.mk (HS.out.box hg10 hx10 hb10 (by decide)); clear HS; have HS := nS; clear nS hg10 hx10 hb10) | ((with_reducible refine gate_store rfl ?_); refine store_named rfl 26 (.tmp 8) (.tmp 36) rfl g10 #[.bool a, .slice Ax9 la1.length cx9, .slice Ay9 la2.length cy9] rfl rfl 26 #[.bool false, .slice none 0 0, .slice none 0 0] (HS.out.idx 0 rfl) (by kernel_rfl) rfl (by simp [Value.oneCell']) ?_; intro w11 hx11 hb11; have nS := Aside0.mk (HS.out.put 0 rfl hx11 hb11); simp only [List.set_cons_zero, List.set_cons_succ] at nS; clear HS; have HS := nS; clear nS hx11 hb11))
    go_upto_region 11 with (first | ((with_reducible refine gate_dst (N := 37) rfl ?_); refine wpList_load_row rfl 24 (.tmp 3) rfl g2 rfl 24 #[.bool b, .slice Ab1 lb1.length cb1, .slice Ab2 lb2.length cb2] (0, 0) _ (HS.out.idx 2 rfl) Try.underlying24 rfl (by kernel_rfl) ?_) | (go_at_call_of 9 (Value.agg #[Value.bool b, Value.slice Ab1 lb1.length cb1, Value.slice Ab2 lb2.length cb2]); refine (laws_toArray.calls ktb b _ _ lb1 _ _ lb2 b lb1 lb2 _ (by (with_reducible repeat (first | refine Kd.C_drew ?_ | refine Kd.C_drewN ?_ _ | refine Kd.C_alloc ?_ _)); exact (Kd.C_below Hb1.out HS.out.below)) Kb1.out (by (with_reducible repeat (first | refine Kd.C_drew ?_ | refine Kd.C_drewN ?_ _ | refine Kd.C_alloc ?_ _)); exact (Kd.C_below Hb2.out HS.out.below)) Kb2.out htb.out).mono ?_; rintro e w12 ⟨x12, y12, rfl, hx12, hy12, hb12⟩; obtain ⟨Ax12, cx12, rfl⟩ := Kd.R_slice hx12; obtain ⟨Ay12, cy12, rfl⟩ := Kd.R_slice hy12; have nS := Aside0.mk (St.add (by repeat (first | (with_reducible exact HS.out) | (with_reducible apply St.drew) | (with_reducible apply St.drewN) | (with_reducible apply St.alloc) | decide)) hb12 (Nat.le_refl _) hx12 hy12); clear HS; have HS := nS; clear nS hb12 hx12 hy12) | ((with_reducible refine gate_dst (N := 9) rfl ?_); refine box_event ?hg (N := 9) ?hd (cs := #[.bool false, .slice none 0 0, .slice none 0 0]) (t := 26) ?hr ?_; (case hd => rfl); (case hg => rfl); (case hr => first | (go_simp; done) | (go_simp; rfl)); intro g13 hg13 w13 hx13 hb13; have nS := Aside0.mk (HS.out.box hg13 hx13 hb13 (by decide)); clear HS; have HS := nS; clear nS hg13 hx13 hb13) | ((with_reducible refine gate_store rfl ?_); refine store_named rfl 26 (.tmp 9) (.tmp 38) rfl g13 #[.bool b, .slice Ax12 lb1.length cx12, .slice Ay12 lb2.length cy12] rfl rfl 26 #[.bool false, .slice none 0 0, .slice none 0 0] (HS.out.idx 0 rfl) (by kernel_rfl) rfl (by simp [Value.oneCell']) ?_; intro w14 hx14 hb14; have nS := Aside0.mk (HS.out.put 0 rfl hx14 hb14); simp only [List.set_cons_zero, List.set_cons_succ] at nS; clear HS; have HS := nS; clear nS hx14 hb14))
    go_upto_region 12 with (first | ((with_reducible refine gate_dst (N := 40) rfl ?_); refine wpList_load_row rfl 26 (.tmp 8) rfl g10 rfl 26 #[.bool a, .slice Ax9 la1.length cx9, .slice Ay9 la2.length cy9] (0, 0) _ (HS.out.idx 1 rfl) Try.underlying26 rfl (by kernel_rfl) ?_) | ((with_reducible refine gate_dst (N := 41) rfl ?_); refine wpList_load_row rfl 26 (.tmp 9) rfl g13 rfl 26 #[.bool b, .slice Ax12 lb1.length cx12, .slice Ay12 lb2.length cy12] (0, 0) _ (HS.out.idx 0 rfl) Try.underlying26 rfl (by kernel_rfl) ?_) | (go_at_call 15; refine (impl_Member.calls a Ax9 cx9 la1 Ay9 cy9 la2 b Ax12 cx12 lb1 Ay12 cy12 lb2 v1 v2 v3 v4 _ (by (with_reducible repeat (first | refine Kd.C_drew ?_ | refine Kd.C_drewN ?_ _ | refine Kd.C_alloc ?_ _)); exact (HS.out.nth 1 rfl).c1.2.1) (HS.out.nth 1 rfl).c1.2.2 (by (with_reducible repeat (first | refine Kd.C_drew ?_ | refine Kd.C_drewN ?_ _ | refine Kd.C_alloc ?_ _)); exact (HS.out.nth 1 rfl).c2.2.1) (HS.out.nth 1 rfl).c2.2.2 (by (with_reducible repeat (first | refine Kd.C_drew ?_ | refine Kd.C_drewN ?_ _ | refine Kd.C_alloc ?_ _)); exact (HS.out.nth 0 rfl).c1.2.1) (HS.out.nth 0 rfl).c1.2.2 (by (with_reducible repeat (first | refine Kd.C_drew ?_ | refine Kd.C_drewN ?_ _ | refine Kd.C_alloc ?_ _)); exact (HS.out.nth 0 rfl).c2.2.1) (HS.out.nth 0 rfl).c2.2.2 him.out).mono ?_; rintro e w15 ⟨x15, y15, rfl, hx15, hy15, hb15⟩; obtain ⟨Ax15, cx15, rfl⟩ := Kd.R_slice hx15; obtain ⟨Ay15, cy15, rfl⟩ := Kd.R_slice hy15; have nS := Aside0.mk (St.add (by repeat (first | (with_reducible exact HS.out) | (with_reducible apply St.drew) | (with_reducible apply St.drewN) | (with_reducible apply St.alloc) | decide)) hb15 (Nat.le_refl _) hx15 hy15); clear HS; have HS := nS; clear nS hb15 hx15 hy15) | ((with_reducible refine gate_dst (N := 10) rfl ?_); refine box_event ?hg (N := 10) ?hd (cs := #[.bool false, .slice none 0 0, .slice none 0 0]) (t := 26) ?hr ?_; (case hd => rfl); (case hg => rfl); (case hr => first | (go_simp; done) | (go_simp; rfl)); intro g16 hg16 w16 hx16 hb16; have nS := Aside0.mk (HS.out.box hg16 hx16 hb16 (by decide)); clear HS; have HS := nS; clear nS hg16 hx16 hb16) | ((with_reducible refine gate_store rfl ?_); refine store_named rfl 26 (.tmp 10) (.tmp 43) rfl g16 #[.bool v1, .slice Ax15 v2.length cx15, .slice Ay15 v3.length cy15] rfl rfl 26 #[.bool false, .slice none 0 0, .slice none 0 0] (HS.out.idx 0 rfl) (by kernel_rfl) rfl (by simp [Value.oneCell']) ?_; intro w17 hx17 hb17; have nS := Aside0.mk (HS.out.put 0 rfl hx17 hb17); simp only [List.set_cons_zero, List.set_cons_succ] at nS; clear HS; have HS := nS; clear nS hx17 hb17))
    go_upto_region 14 with (first | ((with_reducible refine gate_dst (N := 45) rfl ?_); refine wpList_load_row rfl 26 (.tmp 10) rfl g16 rfl 26 #[.bool v1, .slice Ax15 v2.length cx15, .slice Ay15 v3.length cy15] (0, 0) _ (HS.out.idx 0 rfl) Try.underlying26 rfl (by kernel_rfl) ?_) | ((with_reducible refine gate_dst (N := 46) rfl ?_); refine wpList_load_row rfl 26 (.tmp 6) rfl g8 rfl 26 #[.bool v1, .slice Az8 v2.length cz8, .slice Bz8 v3.length dz8] (0, 0) _ (HS.out.idx 3 rfl) Try.underlying26 rfl (by kernel_rfl) ?_) | (go_at_call 11; refine (laws_eqArray.calls kev v1 Ax15 cx15 v2 Ay15 cy15 v3 v1 Az8 cz8 v2 Bz8 dz8 v3 true _ (by (with_reducible repeat (first | refine Kd.C_drew ?_ | refine Kd.C_drewN ?_ _ | refine Kd.C_alloc ?_ _)); exact (HS.out.nth 0 rfl).c1.2.1) (HS.out.nth 0 rfl).c1.2.2 (by (with_reducible repeat (first | refine Kd.C_drew ?_ | refine Kd.C_drewN ?_ _ | refine Kd.C_alloc ?_ _)); exact (HS.out.nth 0 rfl).c2.2.1) (HS.out.nth 0 rfl).c2.2.2 (by (with_reducible repeat (first | refine Kd.C_drew ?_ | refine Kd.C_drewN ?_ _ | refine Kd.C_alloc ?_ _)); exact (HS.out.nth 3 rfl).c1.2.1) (HS.out.nth 3 rfl).c1.2.2 (by (with_reducible repeat (first | refine Kd.C_drew ?_ | refine Kd.C_drewN ?_ _ | refine Kd.C_alloc ?_ _)); exact (HS.out.nth 3 rfl).c2.2.1) (HS.out.nth 3 rfl).c2.2.2 hev.out).mono ?_; rintro e w18 ⟨rfl, hb18⟩; have nS := Aside0.mk (St.step (by repeat (first | (with_reducible exact HS.out) | (with_reducible apply St.drew) | (with_reducible apply St.drewN) | (with_reducible apply St.alloc) | decide)) hb18); clear HS; have HS := nS; clear nS hb18))
    go_region_held3 (fun w' => w'.cell? ⟨g10, 0, none⟩ = some (.bool a) ∧ w'.cell? ⟨g10, 1, none⟩ = some (.slice Ax9 la1.length cx9) ∧ w'.cell? ⟨g10, 2, none⟩ = some (.slice Ay9 la2.length cy9) ∧ w'.cell? ⟨g1, 0, none⟩ = some (.bool a) ∧ w'.cell? ⟨g1, 1, none⟩ = some (.slice Aa1 la1.length ca1) ∧ w'.cell? ⟨g1, 2, none⟩ = some (.slice Aa2 la2.length ca2)) ((apply St.cells2 (w := w) (t1 := 26) (t2 := 24); (repeat (first | (with_reducible exact HS.out) | (with_reducible apply St.drew) | (with_reducible apply St.drewN) | (with_reducible apply St.alloc) | (with_reducible apply St.set3) | decide)); all_goals simp)) (first | (go_at_call_of 9 (Value.agg #[Value.bool a, Value.slice Aa1 la1.length ca1, Value.slice Aa2 la2.length ca2]); refine (laws_toArray.calls kta a _ _ la1 _ _ la2 a la1 la2 _ (by (with_reducible repeat (first | refine Kd.C_drew ?_ | refine Kd.C_drewN ?_ _ | refine Kd.C_alloc ?_ _)); exact (Kd.C_below Ha1.out HS.out.below)) Ka1.out (by (with_reducible repeat (first | refine Kd.C_drew ?_ | refine Kd.C_drewN ?_ _ | refine Kd.C_alloc ?_ _)); exact (Kd.C_below Ha2.out HS.out.below)) Ka2.out hta.out).mono ?_; rintro e w19 ⟨x19, y19, rfl, hx19, hy19, hb19⟩; obtain ⟨Ax19, cx19, rfl⟩ := Kd.R_slice hx19; obtain ⟨Ay19, cy19, rfl⟩ := Kd.R_slice hy19; have nS := Aside0.mk (St.add (by repeat (first | (with_reducible exact HS.out) | (with_reducible apply St.drew) | (with_reducible apply St.drewN) | (with_reducible apply St.alloc) | decide)) hb19 (Nat.le_refl _) hx19 hy19); clear HS; have HS := nS; clear nS hb19 hx19 hy19) | (go_at_call 11; refine (laws_eqArray.calls kea a Ax9 cx9 la1 Ay9 cy9 la2 a Ax19 cx19 la1 Ay19 cy19 la2 true _ (by (with_reducible repeat (first | refine Kd.C_drew ?_ | refine Kd.C_drewN ?_ _ | refine Kd.C_alloc ?_ _)); exact (HS.out.nth 3 rfl).c1.2.1) (HS.out.nth 3 rfl).c1.2.2 (by (with_reducible repeat (first | refine Kd.C_drew ?_ | refine Kd.C_drewN ?_ _ | refine Kd.C_alloc ?_ _)); exact (HS.out.nth 3 rfl).c2.2.1) (HS.out.nth 3 rfl).c2.2.2 (by (with_reducible repeat (first | refine Kd.C_drew ?_ | refine Kd.C_drewN ?_ _ | refine Kd.C_alloc ?_ _)); exact (HS.out.nth 0 rfl).c1.2.1) (HS.out.nth 0 rfl).c1.2.2 (by (with_reducible repeat (first | refine Kd.C_drew ?_ | refine Kd.C_drewN ?_ _ | refine Kd.C_alloc ?_ _)); exact (HS.out.nth 0 rfl).c2.2.1) (HS.out.nth 0 rfl).c2.2.2 hea.out).mono ?_; rintro e w20 ⟨rfl, hb20⟩; have nS := Aside0.mk (St.step (by repeat (first | (with_reducible exact HS.out) | (with_reducible apply St.drew) | (with_reducible apply St.drewN) | (with_reducible apply St.alloc) | decide)) hb20); clear HS; have HS := nS; clear nS hb20))
    go_upto_region 16 with (fail)
    go_region_held3 (fun w' => w'.cell? ⟨g13, 0, none⟩ = some (.bool b) ∧ w'.cell? ⟨g13, 1, none⟩ = some (.slice Ax12 lb1.length cx12) ∧ w'.cell? ⟨g13, 2, none⟩ = some (.slice Ay12 lb2.length cy12) ∧ w'.cell? ⟨g2, 0, none⟩ = some (.bool b) ∧ w'.cell? ⟨g2, 1, none⟩ = some (.slice Ab1 lb1.length cb1) ∧ w'.cell? ⟨g2, 2, none⟩ = some (.slice Ab2 lb2.length cb2)) ((apply St.cells2 (w := w) (t1 := 26) (t2 := 24); (repeat (first | (with_reducible exact HS.out) | (with_reducible apply St.drew) | (with_reducible apply St.drewN) | (with_reducible apply St.alloc) | (with_reducible apply St.set3) | decide)); all_goals simp)) (first | (go_at_call_of 9 (Value.agg #[Value.bool b, Value.slice Ab1 lb1.length cb1, Value.slice Ab2 lb2.length cb2]); refine (laws_toArray.calls ktb b _ _ lb1 _ _ lb2 b lb1 lb2 _ (by (with_reducible repeat (first | refine Kd.C_drew ?_ | refine Kd.C_drewN ?_ _ | refine Kd.C_alloc ?_ _)); exact (Kd.C_below Hb1.out HS.out.below)) Kb1.out (by (with_reducible repeat (first | refine Kd.C_drew ?_ | refine Kd.C_drewN ?_ _ | refine Kd.C_alloc ?_ _)); exact (Kd.C_below Hb2.out HS.out.below)) Kb2.out htb.out).mono ?_; rintro e w21 ⟨x21, y21, rfl, hx21, hy21, hb21⟩; obtain ⟨Ax21, cx21, rfl⟩ := Kd.R_slice hx21; obtain ⟨Ay21, cy21, rfl⟩ := Kd.R_slice hy21; have nS := Aside0.mk (St.add (by repeat (first | (with_reducible exact HS.out) | (with_reducible apply St.drew) | (with_reducible apply St.drewN) | (with_reducible apply St.alloc) | decide)) hb21 (Nat.le_refl _) hx21 hy21); clear HS; have HS := nS; clear nS hb21 hx21 hy21) | (go_at_call 11; refine (laws_eqArray.calls keb b Ax12 cx12 lb1 Ay12 cy12 lb2 b Ax21 cx21 lb1 Ay21 cy21 lb2 true _ (by (with_reducible repeat (first | refine Kd.C_drew ?_ | refine Kd.C_drewN ?_ _ | refine Kd.C_alloc ?_ _)); exact (HS.out.nth 3 rfl).c1.2.1) (HS.out.nth 3 rfl).c1.2.2 (by (with_reducible repeat (first | refine Kd.C_drew ?_ | refine Kd.C_drewN ?_ _ | refine Kd.C_alloc ?_ _)); exact (HS.out.nth 3 rfl).c2.2.1) (HS.out.nth 3 rfl).c2.2.2 (by (with_reducible repeat (first | refine Kd.C_drew ?_ | refine Kd.C_drewN ?_ _ | refine Kd.C_alloc ?_ _)); exact (HS.out.nth 0 rfl).c1.2.1) (HS.out.nth 0 rfl).c1.2.2 (by (with_reducible repeat (first | refine Kd.C_drew ?_ | refine Kd.C_drewN ?_ _ | refine Kd.C_alloc ?_ _)); exact (HS.out.nth 0 rfl).c2.2.1) (HS.out.nth 0 rfl).c2.2.2 heb.out).mono ?_; rintro e w22 ⟨rfl, hb22⟩; have nS := Aside0.mk (St.step (by repeat (first | (with_reducible exact HS.out) | (with_reducible apply St.drew) | (with_reducible apply St.drewN) | (with_reducible apply St.alloc) | decide)) hb22); clear HS; have HS := nS; clear nS hb22))
    go_upto_region 18 with (fail)
    go_upto_region 19 with (fail)
    go_upto_region 20 with (first | ((with_reducible refine gate_dst (N := 64) rfl ?_); refine wpList_load_row rfl 26 (.tmp 8) rfl g10 rfl 26 #[.bool a, .slice Ax9 la1.length cx9, .slice Ay9 la2.length cy9] (0, 0) _ (HS.out.idx 2 rfl) Try.underlying26 rfl (by kernel_rfl) ?_) | (go_at_call 12; have hr_ := HS.out.ready' 4 rfl; refine (laws_markArray.calls kk1 a (fun k => some k = ((.slice Ax9 la1.length cx9) : Value).ownBlock) (.slice Ax9 la1.length cx9) la1 (fun k => some k = ((.slice Ay9 la2.length cy9) : Value).ownBlock) (.slice Ay9 la2.length cy9) la2 1 k1 m11 m12 w w22 HS.out.below hr_.1 hr_.2.1 hr_.2.2.1 hr_.2.2.2 hm1.out).mono ?_; clear hr_; rintro e w23 ⟨rfl, hx23, hy23, hb23, hk23⟩; have nS := Aside0.mk (HS.out.mark 4 rfl hk23 hx23 hy23 hb23); simp only [List.set_cons_zero, List.set_cons_succ] at nS; clear HS; have HS := nS; clear nS hk23 hx23 hy23 hb23))
    go_upto_region 21 with (first | ((with_reducible refine gate_dst (N := 67) rfl ?_); refine wpList_load_row rfl 26 (.tmp 9) rfl g13 rfl 26 #[.bool b, .slice Ax12 lb1.length cx12, .slice Ay12 lb2.length cy12] (0, 0) _ (HS.out.idx 1 rfl) Try.underlying26 rfl (by kernel_rfl) ?_) | (go_at_call 12; have hr_ := HS.out.ready' 3 rfl; refine (laws_markArray.calls kk2 b (fun k => some k = ((.slice Ax12 lb1.length cx12) : Value).ownBlock) (.slice Ax12 lb1.length cx12) lb1 (fun k => some k = ((.slice Ay12 lb2.length cy12) : Value).ownBlock) (.slice Ay12 lb2.length cy12) lb2 k1 k2 m21 m22 w w23 HS.out.below hr_.1 hr_.2.1 hr_.2.2.1 hr_.2.2.2 hm2.out).mono ?_; clear hr_; rintro e w24 ⟨rfl, hx24, hy24, hb24, hk24⟩; have nS := Aside0.mk (HS.out.mark 3 rfl hk24 hx24 hy24 hb24); simp only [List.set_cons_zero, List.set_cons_succ] at nS; clear HS; have HS := nS; clear nS hk24 hx24 hy24 hb24))
    have gc0_ := cells3 (HS.out.idx 0 rfl); have gd0_ := gc0_.2; replace gc0_ := gc0_.1; have ge0_ := gd0_.2; replace gd0_ := gd0_.1
    have gc1_ := cells3 (HS.out.idx 3 rfl); have gd1_ := gc1_.2; replace gc1_ := gc1_.1; have ge1_ := gd1_.2; replace gd1_ := gd1_.1
    go_upto_region 23 with (first | (go_at_call 11; refine (laws_eqArray.calls kev v1 Ax15 cx15 v2 Ay15 cy15 v3 v1 Az8 cz8 v2 Bz8 dz8 v3 true _ (by (with_reducible repeat (first | refine Kd.C_drew ?_ | refine Kd.C_drewN ?_ _ | refine Kd.C_alloc ?_ _)); exact (HS.out.nth 2 rfl).c1.2.1) (HS.out.nth 2 rfl).c1.2.2 (by (with_reducible repeat (first | refine Kd.C_drew ?_ | refine Kd.C_drewN ?_ _ | refine Kd.C_alloc ?_ _)); exact (HS.out.nth 2 rfl).c2.2.1) (HS.out.nth 2 rfl).c2.2.2 (by (with_reducible repeat (first | refine Kd.C_drew ?_ | refine Kd.C_drewN ?_ _ | refine Kd.C_alloc ?_ _)); exact (HS.out.nth 5 rfl).c1.2.1) (HS.out.nth 5 rfl).c1.2.2 (by (with_reducible repeat (first | refine Kd.C_drew ?_ | refine Kd.C_drewN ?_ _ | refine Kd.C_alloc ?_ _)); exact (HS.out.nth 5 rfl).c2.2.1) (HS.out.nth 5 rfl).c2.2.2 hev.out).mono ?_; rintro e w25 ⟨rfl, hb25⟩; have nS := Aside0.mk (St.step (by repeat (first | (with_reducible exact HS.out) | (with_reducible apply St.drew) | (with_reducible apply St.drewN) | (with_reducible apply St.alloc) | decide)) hb25); clear HS; have HS := nS; clear nS hb25))
    clear gc0_ gd0_ ge0_ gc1_ gd1_ ge1_
    go_upto_region 24 with (fail)
    go_upto_region 25 with (first | ((with_reducible refine gate_dst (N := 83) rfl ?_); refine wpList_load_row rfl 26 (.tmp 10) rfl g16 rfl 26 #[.bool v1, .slice Ax15 v2.length cx15, .slice Ay15 v3.length cy15] (0, 0) _ (HS.out.idx 0 rfl) Try.underlying26 rfl (by kernel_rfl) ?_) | (go_at_call 12; have hr_ := HS.out.ready' 2 rfl; refine (laws_markArray.calls kk3 v1 (fun k => some k = ((.slice Ax15 v2.length cx15) : Value).ownBlock) (.slice Ax15 v2.length cx15) v2 (fun k => some k = ((.slice Ay15 v3.length cy15) : Value).ownBlock) (.slice Ay15 v3.length cy15) v3 1 k3 m31 m32 w w25 HS.out.below hr_.1 hr_.2.1 hr_.2.2.1 hr_.2.2.2 hm3.out).mono ?_; clear hr_; rintro e w26 ⟨rfl, hx26, hy26, hb26, hk26⟩; have nS := Aside0.mk (HS.out.mark 2 rfl hk26 hx26 hy26 hb26); simp only [List.set_cons_zero, List.set_cons_succ] at nS; clear HS; have HS := nS; clear nS hk26 hx26 hy26 hb26))
    go_upto_region 26 with (fail)
    go_upto_region 27 with (first | ((with_reducible refine gate_dst (N := 86) rfl ?_); refine wpList_load_row rfl 26 (.tmp 10) rfl g16 rfl 26 #[.bool v1, .slice Ax15 v2.length cx15, .slice Ay15 v3.length cy15] (0, 0) _ (HS.out.idx 0 rfl) Try.underlying26 rfl (by kernel_rfl) ?_) | (go_at_call 13; refine (held_n kh v1 Ax15 Ay15 _ _ cx15 cy15 m31 m32 1 k3 _ lm31.out lm32.out (by (with_reducible repeat (first | refine Kd.C_drew ?_ | refine Kd.C_drewN ?_ _ | refine Kd.C_alloc ?_ _)); exact (HS.out.nth 2 rfl).c1.2.1) (HS.out.nth 2 rfl).c1.2.2 (by (with_reducible repeat (first | refine Kd.C_drew ?_ | refine Kd.C_drewN ?_ _ | refine Kd.C_alloc ?_ _)); exact (HS.out.nth 2 rfl).c2.2.1) (HS.out.nth 2 rfl).c2.2.2 hhG.out).mono ?_; rintro e w27 ⟨rfl, hb27⟩; have nS := Aside0.mk (St.step (by repeat (first | (with_reducible exact HS.out) | (with_reducible apply St.drew) | (with_reducible apply St.drewN) | (with_reducible apply St.alloc) | decide)) hb27); clear HS; have HS := nS; clear nS hb27))
    go_upto_region 29 with (fail)
    go_upto_region 31 with (fail)
    go_cut [15, 16] (fun v6 v7 wc => Got w [(g16, #[.bool v1, .slice Ax15 v2.length cx15, .slice Ay15 v3.length cy15], 26), (g13, #[.bool b, .slice Ax12 lb1.length cx12, .slice Ay12 lb2.length cy12], 26), (g10, #[.bool a, .slice Ax9 la1.length cx9, .slice Ay9 la2.length cy9], 26), (g8, #[.bool v1, .slice Az8 v2.length cz8, .slice Bz8 v3.length dz8], 26), (g2, #[.bool b, .slice Ab1 lb1.length cb1, .slice Ab2 lb2.length cb2], 24), (g1, #[.bool a, .slice Aa1 la1.length ca1, .slice Aa2 la2.length ca2], 24)] ([⟨w14.heap.size, w15.heap.size, .slice Ax15 v2.length cx15, .slice Ay15 v3.length cy15, m31, m32⟩, ⟨lo8, hi8, .slice Az8 v2.length cz8, .slice Bz8 v3.length dz8, v2, v3⟩] : List PrD) 26 v1 v2 v3 v4 v6 v7 wc)
    case first =>
      go_region_held3 (fun w' => w'.cell? ⟨g1, 0, none⟩ = some (.bool a) ∧ w'.cell? ⟨g1, 1, none⟩ = some (.slice Aa1 la1.length ca1) ∧ w'.cell? ⟨g1, 2, none⟩ = some (.slice Aa2 la2.length ca2) ∧ w'.cell? ⟨g2, 0, none⟩ = some (.bool b) ∧ w'.cell? ⟨g2, 1, none⟩ = some (.slice Ab1 lb1.length cb1) ∧ w'.cell? ⟨g2, 2, none⟩ = some (.slice Ab2 lb2.length cb2)) ((apply St.cells2 (w := w) (t1 := 24) (t2 := 24); (repeat (first | (with_reducible exact HS.out) | (with_reducible apply St.drew) | (with_reducible apply St.drewN) | (with_reducible apply St.alloc) | (with_reducible apply St.set3) | decide)); all_goals simp)) (first | (go_at_call_of 9 (Value.agg #[Value.bool a, Value.slice Aa1 la1.length ca1, Value.slice Aa2 la2.length ca2]); refine (laws_toArray.calls kta a _ _ la1 _ _ la2 a la1 la2 _ (by (with_reducible repeat (first | refine Kd.C_drew ?_ | refine Kd.C_drewN ?_ _ | refine Kd.C_alloc ?_ _)); exact (Kd.C_below Ha1.out HS.out.below)) Ka1.out (by (with_reducible repeat (first | refine Kd.C_drew ?_ | refine Kd.C_drewN ?_ _ | refine Kd.C_alloc ?_ _)); exact (Kd.C_below Ha2.out HS.out.below)) Ka2.out hta.out).mono ?_; rintro e w28 ⟨x28, y28, rfl, hx28, hy28, hb28⟩; obtain ⟨Ax28, cx28, rfl⟩ := Kd.R_slice hx28; obtain ⟨Ay28, cy28, rfl⟩ := Kd.R_slice hy28; have nS := Aside0.mk (St.add (by repeat (first | (with_reducible exact HS.out) | (with_reducible apply St.drew) | (with_reducible apply St.drewN) | (with_reducible apply St.alloc) | decide)) hb28 (Nat.le_refl _) hx28 hy28); clear HS; have HS := nS; clear nS hb28 hx28 hy28) | (go_at_call_of 9 (Value.agg #[Value.bool b, Value.slice Ab1 lb1.length cb1, Value.slice Ab2 lb2.length cb2]); refine (laws_toArray.calls ktb b _ _ lb1 _ _ lb2 b lb1 lb2 _ (by (with_reducible repeat (first | refine Kd.C_drew ?_ | refine Kd.C_drewN ?_ _ | refine Kd.C_alloc ?_ _)); exact (Kd.C_below Hb1.out HS.out.below)) Kb1.out (by (with_reducible repeat (first | refine Kd.C_drew ?_ | refine Kd.C_drewN ?_ _ | refine Kd.C_alloc ?_ _)); exact (Kd.C_below Hb2.out HS.out.below)) Kb2.out htb.out).mono ?_; rintro e w29 ⟨x29, y29, rfl, hx29, hy29, hb29⟩; obtain ⟨Ax29, cx29, rfl⟩ := Kd.R_slice hx29; obtain ⟨Ay29, cy29, rfl⟩ := Kd.R_slice hy29; have nS := Aside0.mk (St.add (by repeat (first | (with_reducible exact HS.out) | (with_reducible apply St.drew) | (with_reducible apply St.drewN) | (with_reducible apply St.alloc) | decide)) hb29 (Nat.le_refl _) hx29 hy29); clear HS; have HS := nS; clear nS hb29 hx29 hy29) | (go_at_call 15; refine (impl_Member.calls a Ax28 cx28 la1 Ay28 cy28 la2 b Ax29 cx29 lb1 Ay29 cy29 lb2 v1 v2 v3 v4 _ (by (with_reducible repeat (first | refine Kd.C_drew ?_ | refine Kd.C_drewN ?_ _ | refine Kd.C_alloc ?_ _)); exact (HS.out.nth 1 rfl).c1.2.1) (HS.out.nth 1 rfl).c1.2.2 (by (with_reducible repeat (first | refine Kd.C_drew ?_ | refine Kd.C_drewN ?_ _ | refine Kd.C_alloc ?_ _)); exact (HS.out.nth 1 rfl).c2.2.1) (HS.out.nth 1 rfl).c2.2.2 (by (with_reducible repeat (first | refine Kd.C_drew ?_ | refine Kd.C_drewN ?_ _ | refine Kd.C_alloc ?_ _)); exact (HS.out.nth 0 rfl).c1.2.1) (HS.out.nth 0 rfl).c1.2.2 (by (with_reducible repeat (first | refine Kd.C_drew ?_ | refine Kd.C_drewN ?_ _ | refine Kd.C_alloc ?_ _)); exact (HS.out.nth 0 rfl).c2.2.1) (HS.out.nth 0 rfl).c2.2.2 him.out).mono ?_; rintro e w30 ⟨x30, y30, rfl, hx30, hy30, hb30⟩; obtain ⟨Ax30, cx30, rfl⟩ := Kd.R_slice hx30; obtain ⟨Ay30, cy30, rfl⟩ := Kd.R_slice hy30; have nS := Aside0.mk (St.add (by repeat (first | (with_reducible exact HS.out) | (with_reducible apply St.drew) | (with_reducible apply St.drewN) | (with_reducible apply St.alloc) | decide)) hb30 (Nat.le_refl _) hx30 hy30); clear HS; have HS := nS; clear nS hb30 hx30 hy30; have hz_ := Aside0.mk (HS.out.idx 0 rfl); have hx0_ := (cells3 hz_.out).1; have hx1_ := (cells3 hz_.out).2.1; have hx2_ := (cells3 hz_.out).2.2; have hy0_ := blk_frozen hz_.out 0; have hy1_ := blk_frozen hz_.out 1; have hy2_ := blk_frozen hz_.out 2))
      all_goals
        go_wp2_with fail
        go_meet
        case rel =>
          (try (with_reducible refine Got.drew ?_))
          first | (with_reducible refine gotB HS.out ?_) | (with_reducible refine gotA HS.out ?_ (show 26 ≠ 3 by decide))
          repeat (first | (with_reducible exact List.Sublist.refl _) | (with_reducible exact List.nil_sublist _) | (with_reducible apply List.Sublist.cons_cons) | (with_reducible apply List.Sublist.cons))
    case rest =>
      obtain ⟨g31, Az31, cz31, Bz31, dz31, lo31, hi31, rfl, rfl, hs31⟩ := hcut; have HS := Aside0.mk hs31; clear hs31
      go_upto_region 34 with (first | ((with_reducible refine gate_dst (N := 102) rfl ?_); refine wpList_load_row rfl 26 (.tmp 15) rfl g31 rfl 26 #[.bool v1, .slice Az31 v2.length cz31, .slice Bz31 v3.length dz31] (0, 0) _ (HS.out.idx 0 rfl) Try.underlying26 rfl (by kernel_rfl) ?_) | ((with_reducible refine gate_dst (N := 103) rfl ?_); refine wpList_load_row rfl 26 (.tmp 6) rfl g8 rfl 26 #[.bool v1, .slice Az8 v2.length cz8, .slice Bz8 v3.length dz8] (0, 0) _ (HS.out.idx 4 rfl) Try.underlying26 rfl (by kernel_rfl) ?_) | (go_at_call 11; refine (laws_eqArray.calls kev v1 Az31 cz31 v2 Bz31 dz31 v3 v1 Az8 cz8 v2 Bz8 dz8 v3 true _ (by (with_reducible repeat (first | refine Kd.C_drew ?_ | refine Kd.C_drewN ?_ _ | refine Kd.C_alloc ?_ _)); exact (HS.out.nth 0 rfl).c1.2.1) (HS.out.nth 0 rfl).c1.2.2 (by (with_reducible repeat (first | refine Kd.C_drew ?_ | refine Kd.C_drewN ?_ _ | refine Kd.C_alloc ?_ _)); exact (HS.out.nth 0 rfl).c2.2.1) (HS.out.nth 0 rfl).c2.2.2 (by (with_reducible repeat (first | refine Kd.C_drew ?_ | refine Kd.C_drewN ?_ _ | refine Kd.C_alloc ?_ _)); exact (HS.out.nth 2 rfl).c1.2.1) (HS.out.nth 2 rfl).c1.2.2 (by (with_reducible repeat (first | refine Kd.C_drew ?_ | refine Kd.C_drewN ?_ _ | refine Kd.C_alloc ?_ _)); exact (HS.out.nth 2 rfl).c2.2.1) (HS.out.nth 2 rfl).c2.2.2 hev.out).mono ?_; rintro e w32 ⟨rfl, hb32⟩; have nS := Aside0.mk (St.step (by repeat (first | (with_reducible exact HS.out) | (with_reducible apply St.drew) | (with_reducible apply St.drewN) | (with_reducible apply St.alloc) | decide)) hb32); clear HS; have HS := nS; clear nS hb32))
      go_upto_region 35 with (fail)
      go_upto_region 36 with (first | ((with_reducible refine gate_dst (N := 111) rfl ?_); refine wpList_load_row rfl 26 (.tmp 10) rfl g16 rfl 26 #[.bool v1, .slice Ax15 v2.length cx15, .slice Ay15 v3.length cy15] (0, 0) _ (HS.out.idx 1 rfl) Try.underlying26 rfl (by kernel_rfl) ?_) | (go_at_call 13; refine (held_n kh v1 Ax15 Ay15 _ _ cx15 cy15 m31 m32 1 k3 _ lm31.out lm32.out (by (with_reducible repeat (first | refine Kd.C_drew ?_ | refine Kd.C_drewN ?_ _ | refine Kd.C_alloc ?_ _)); exact (HS.out.nth 1 rfl).c1.2.1) (HS.out.nth 1 rfl).c1.2.2 (by (with_reducible repeat (first | refine Kd.C_drew ?_ | refine Kd.C_drewN ?_ _ | refine Kd.C_alloc ?_ _)); exact (HS.out.nth 1 rfl).c2.2.1) (HS.out.nth 1 rfl).c2.2.2 hhG.out).mono ?_; rintro e w33 ⟨rfl, hb33⟩; have nS := Aside0.mk (St.step (by repeat (first | (with_reducible exact HS.out) | (with_reducible apply St.drew) | (with_reducible apply St.drewN) | (with_reducible apply St.alloc) | decide)) hb33); clear HS; have HS := nS; clear nS hb33))
      go_upto_region 38 with (fail)
      go_upto_region 40 with (fail)
      go_wp2_with fail
      go_ret
      exact ⟨rfl, HS.out.below⟩
set_option maxHeartbeats 8000000 in
set_option maxRecDepth 100000 in
theorem lawMember_n1 (a : Bool) (Aa1 : Option Addr) (ca1 : Nat) (la1 : List Int) (Aa2 : Option Addr) (ca2 : Nat) (la2 : List Int) (b : Bool) (Ab1 : Option Addr) (cb1 : Nat) (lb1 : List Int) (Ab2 : Option Addr) (cb2 : Nat) (lb2 : List Int)  (w : World) (ha1 : Kd.C (Kd.int .i64) w Aa1 la1.length la1) (ka1 : la1.length ≤ ca1) (ha2 : Kd.C (Kd.int .i64) w Aa2 la2.length la2) (ka2 : la2.length ≤ ca2) (hb1 : Kd.C (Kd.int .i64) w Ab1 lb1.length lb1) (kb1 : lb1.length ≤ cb1) (hb2 : Kd.C (Kd.int .i64) w Ab2 lb2.length lb2) (kb2 : lb2.length ≤ cb2)
    (hz1 : laws_szArray.f a la1 la2 1048576 = some (-1)) :
    Calls Try.prog 4 #[.agg #[.bool a, .slice Aa1 la1.length ca1, .slice Aa2 la2.length ca2], .agg #[.bool b, .slice Ab1 lb1.length cb1, .slice Ab2 lb2.length cb2]] w fun e w' => e = .returned (.bool true) ∧ Below w.heap.size w w' := by
  have Ha1 := Aside0.mk ha1
  have Ka1 := Aside0.mk ka1
  have Ha2 := Aside0.mk ha2
  have Ka2 := Aside0.mk ka2
  have Hb1 := Aside0.mk hb1
  have Kb1 := Aside0.mk kb1
  have Hb2 := Aside0.mk hb2
  have Kb2 := Aside0.mk kb2
  replace hz1 := Aside0.mk hz1
  clear ha1 ka1 ha2 ka2 hb1 kb1 hb2 kb2
  have HS := Aside0.mk (St.start w)
  go_enter Try.func4, Try.ntmps4
  go_upto_region 1 with (first | ((with_reducible refine gate_dst (N := 2) rfl ?_); refine box_event ?hg (N := 2) ?hd (cs := #[.bool a, .slice Aa1 la1.length ca1, .slice Aa2 la2.length ca2]) (t := 24) ?hr ?_; (case hd => rfl); (case hg => rfl); (case hr => first | (go_simp; done) | (go_simp; rfl)); intro g1 hg1 w1 hx1 hb1; have nS := Aside0.mk (HS.out.box hg1 hx1 hb1 (by decide)); clear HS; have HS := nS; clear nS hg1 hx1 hb1) | ((with_reducible refine gate_dst (N := 3) rfl ?_); refine box_event ?hg (N := 3) ?hd (cs := #[.bool b, .slice Ab1 lb1.length cb1, .slice Ab2 lb2.length cb2]) (t := 24) ?hr ?_; (case hd => rfl); (case hg => rfl); (case hr => first | (go_simp; done) | (go_simp; rfl)); intro g2 hg2 w2 hx2 hb2; have nS := Aside0.mk (HS.out.box hg2 hx2 hb2 (by decide)); clear HS; have HS := nS; clear nS hg2 hx2 hb2))
  go_upto_region 2 with (fail)
  go_wp2_with (first | ((with_reducible refine gate_dst (N := 17) rfl ?_); refine wpList_load_row rfl 24 (.tmp 2) rfl g1 rfl 24 #[.bool a, .slice Aa1 la1.length ca1, .slice Aa2 la2.length ca2] (0, 0) _ (HS.out.idx 1 rfl) Try.underlying24 rfl (by kernel_rfl) ?_) | (go_at_call 7; refine (laws_szArray.calls a _ _ la1 _ _ la2 1048576 (-1) _ (by (with_reducible repeat (first | refine Kd.C_drew ?_ | refine Kd.C_drewN ?_ _ | refine Kd.C_alloc ?_ _)); exact (Kd.C_below Ha1.out HS.out.below)) Ka1.out (by (with_reducible repeat (first | refine Kd.C_drew ?_ | refine Kd.C_drewN ?_ _ | refine Kd.C_alloc ?_ _)); exact (Kd.C_below Ha2.out HS.out.below)) Ka2.out hz1.out).mono ?_; rintro e w3 ⟨rfl, hb3⟩; have nS := Aside0.mk (St.step (by repeat (first | (with_reducible exact HS.out) | (with_reducible apply St.drew) | (with_reducible apply St.drewN) | (with_reducible apply St.alloc) | decide)) hb3); clear HS; have HS := nS; clear nS hb3))
  go_ret
  exact ⟨rfl, HS.out.below⟩
set_option maxHeartbeats 8000000 in
set_option maxRecDepth 100000 in
theorem lawMember_n2 (a : Bool) (Aa1 : Option Addr) (ca1 : Nat) (la1 : List Int) (Aa2 : Option Addr) (ca2 : Nat) (la2 : List Int) (b : Bool) (Ab1 : Option Addr) (cb1 : Nat) (lb1 : List Int) (Ab2 : Option Addr) (cb2 : Nat) (lb2 : List Int) (s1 : Int) (w : World) (ha1 : Kd.C (Kd.int .i64) w Aa1 la1.length la1) (ka1 : la1.length ≤ ca1) (ha2 : Kd.C (Kd.int .i64) w Aa2 la2.length la2) (ka2 : la2.length ≤ ca2) (hb1 : Kd.C (Kd.int .i64) w Ab1 lb1.length lb1) (kb1 : lb1.length ≤ cb1) (hb2 : Kd.C (Kd.int .i64) w Ab2 lb2.length lb2) (kb2 : lb2.length ≤ cb2)
    (hz1 : laws_szArray.f a la1 la2 1048576 = some s1) (pz1 : 0 ≤ s1) (hz2 : laws_szArray.f b lb1 lb2 s1 = some (-1)) :
    Calls Try.prog 4 #[.agg #[.bool a, .slice Aa1 la1.length ca1, .slice Aa2 la2.length ca2], .agg #[.bool b, .slice Ab1 lb1.length cb1, .slice Ab2 lb2.length cb2]] w fun e w' => e = .returned (.bool true) ∧ Below w.heap.size w w' := by
  have Ha1 := Aside0.mk ha1
  have Ka1 := Aside0.mk ka1
  have Ha2 := Aside0.mk ha2
  have Ka2 := Aside0.mk ka2
  have Hb1 := Aside0.mk hb1
  have Kb1 := Aside0.mk kb1
  have Hb2 := Aside0.mk hb2
  have Kb2 := Aside0.mk kb2
  replace hz1 := Aside0.mk hz1
  replace hz2 := Aside0.mk hz2
  clear ha1 ka1 ha2 ka2 hb1 kb1 hb2 kb2
  have qpz1 : decide (s1 < 0) = false := decide_eq_false (by omega)
  have HS := Aside0.mk (St.start w)
  go_enter Try.func4, Try.ntmps4
  go_upto_region 1 with (first | ((with_reducible refine gate_dst (N := 2) rfl ?_); refine box_event ?hg (N := 2) ?hd (cs := #[.bool a, .slice Aa1 la1.length ca1, .slice Aa2 la2.length ca2]) (t := 24) ?hr ?_; (case hd => rfl); (case hg => rfl); (case hr => first | (go_simp; done) | (go_simp; rfl)); intro g1 hg1 w1 hx1 hb1; have nS := Aside0.mk (HS.out.box hg1 hx1 hb1 (by decide)); clear HS; have HS := nS; clear nS hg1 hx1 hb1) | ((with_reducible refine gate_dst (N := 3) rfl ?_); refine box_event ?hg (N := 3) ?hd (cs := #[.bool b, .slice Ab1 lb1.length cb1, .slice Ab2 lb2.length cb2]) (t := 24) ?hr ?_; (case hd => rfl); (case hg => rfl); (case hr => first | (go_simp; done) | (go_simp; rfl)); intro g2 hg2 w2 hx2 hb2; have nS := Aside0.mk (HS.out.box hg2 hx2 hb2 (by decide)); clear HS; have HS := nS; clear nS hg2 hx2 hb2))
  go_upto_region 2 with (fail)
  go_upto_region 3 with (first | ((with_reducible refine gate_dst (N := 17) rfl ?_); refine wpList_load_row rfl 24 (.tmp 2) rfl g1 rfl 24 #[.bool a, .slice Aa1 la1.length ca1, .slice Aa2 la2.length ca2] (0, 0) _ (HS.out.idx 1 rfl) Try.underlying24 rfl (by kernel_rfl) ?_) | (go_at_call 7; refine (laws_szArray.calls a _ _ la1 _ _ la2 1048576 s1 _ (by (with_reducible repeat (first | refine Kd.C_drew ?_ | refine Kd.C_drewN ?_ _ | refine Kd.C_alloc ?_ _)); exact (Kd.C_below Ha1.out HS.out.below)) Ka1.out (by (with_reducible repeat (first | refine Kd.C_drew ?_ | refine Kd.C_drewN ?_ _ | refine Kd.C_alloc ?_ _)); exact (Kd.C_below Ha2.out HS.out.below)) Ka2.out hz1.out).mono ?_; rintro e w3 ⟨rfl, hb3⟩; have nS := Aside0.mk (St.step (by repeat (first | (with_reducible exact HS.out) | (with_reducible apply St.drew) | (with_reducible apply St.drewN) | (with_reducible apply St.alloc) | decide)) hb3); clear HS; have HS := nS; clear nS hb3))
  go_upto_region 5 with (fail)
  go_wp2_with (first | ((with_reducible refine gate_dst (N := 22) rfl ?_); refine wpList_load_row rfl 24 (.tmp 3) rfl g2 rfl 24 #[.bool b, .slice Ab1 lb1.length cb1, .slice Ab2 lb2.length cb2] (0, 0) _ (HS.out.idx 0 rfl) Try.underlying24 rfl (by kernel_rfl) ?_) | (go_at_call 7; refine (laws_szArray.calls b _ _ lb1 _ _ lb2 s1 (-1) _ (by (with_reducible repeat (first | refine Kd.C_drew ?_ | refine Kd.C_drewN ?_ _ | refine Kd.C_alloc ?_ _)); exact (Kd.C_below Hb1.out HS.out.below)) Kb1.out (by (with_reducible repeat (first | refine Kd.C_drew ?_ | refine Kd.C_drewN ?_ _ | refine Kd.C_alloc ?_ _)); exact (Kd.C_below Hb2.out HS.out.below)) Kb2.out hz2.out).mono ?_; rintro e w4 ⟨rfl, hb4⟩; have nS := Aside0.mk (St.step (by repeat (first | (with_reducible exact HS.out) | (with_reducible apply St.drew) | (with_reducible apply St.drewN) | (with_reducible apply St.alloc) | decide)) hb4); clear HS; have HS := nS; clear nS hb4))
  go_ret
  exact ⟨rfl, HS.out.below⟩
theorem lawMember (a : Bool) (Aa1 : Option Addr) (ca1 : Nat) (la1 : List Int) (Aa2 : Option Addr) (ca2 : Nat) (la2 : List Int) (b : Bool) (Ab1 : Option Addr) (cb1 : Nat) (lb1 : List Int) (Ab2 : Option Addr) (cb2 : Nat) (lb2 : List Int) (w : World) (ha1 : Kd.C (Kd.int .i64) w Aa1 la1.length la1) (ka1 : la1.length ≤ ca1) (ha2 : Kd.C (Kd.int .i64) w Aa2 la2.length la2) (ka2 : la2.length ≤ ca2) (hb1 : Kd.C (Kd.int .i64) w Ab1 lb1.length lb1) (kb1 : lb1.length ≤ cb1) (hb2 : Kd.C (Kd.int .i64) w Ab2 lb2.length lb2) (kb2 : lb2.length ≤ cb2) (na1 : la1.length ≤ maxLen) (na2 : la2.length ≤ maxLen) (nb1 : lb1.length ≤ maxLen) (nb2 : lb2.length ≤ maxLen) :
    Calls Try.prog 4 #[.agg #[.bool a, .slice Aa1 la1.length ca1, .slice Aa2 la2.length ca2], .agg #[.bool b, .slice Ab1 lb1.length cb1, .slice Ab2 lb2.length cb2]] w fun e w' => e = .returned (.bool true) ∧ Below w.heap.size w w' := by
  by_cases z1 : (la1.length : Int) + la2.length ≤ (1048576 : Int)
  · have f1 : laws_szArray.f a la1 la2 ((1048576 : Int)) = some ((1048576 : Int) - la1.length - la2.length) := (szArray_eq a la1 la2 _ (by omega) (by omega) na1 na2).trans (by rw [if_pos z1])
    by_cases z2 : (lb1.length : Int) + lb2.length ≤ (1048576 : Int) - la1.length - la2.length
    · have f2 : laws_szArray.f b lb1 lb2 ((1048576 : Int) - la1.length - la2.length) = some ((1048576 : Int) - la1.length - la2.length - lb1.length - lb2.length) := (szArray_eq b lb1 lb2 _ (by omega) (by omega) nb1 nb2).trans (by rw [if_pos z2])
      obtain ⟨v1, v2, v3, v4, hv⟩ : ∃ v1 v2 v3 v4, memV a la1 la2 b lb1 lb2 = (v1, v2, v3, v4) := ⟨_, _, _, _, rfl⟩
      have hs := specMember_ev a la1 la2 b lb1 lb2 (by omega) (by omega) (by omega) (by omega)
      have him : impl_Member.f a la1 la2 b lb1 lb2 = some (memV a la1 la2 b lb1 lb2) := by unfold impl_Member.f; rw [if_pos (okLens_of (by omega) (by omega) (by omega) (by omega))]
      have hn := memV_len a la1 la2 b lb1 lb2
      rw [hv] at hs him hn
      simp only at hn
      obtain ⟨ks, hsp⟩ := hs.rounds
      obtain ⟨kta, hta⟩ := (toArray_ev a la1 la2 (by omega) (by omega)).rounds
      obtain ⟨kea, hea⟩ := (eqArray_self a la1 la2 (by omega) (by omega)).rounds
      obtain ⟨ktb, htb⟩ := (toArray_ev b lb1 lb2 (by omega) (by omega)).rounds
      obtain ⟨keb, heb⟩ := (eqArray_self b lb1 lb2 (by omega) (by omega)).rounds
      obtain ⟨kev, hev⟩ := (eqArray_self v1 v2 v3 (by omega) (by omega)).rounds
      obtain ⟨kk1, hm1⟩ := (markArray_ev a la1 la2 (1) (by omega) (by omega) (by omega) (by omega)).rounds
      obtain ⟨kk2, hm2⟩ := (markArray_ev b lb1 lb2 ((1 : Int) + la1.length + la2.length) (by omega) (by omega) (by omega) (by omega)).rounds
      obtain ⟨kk3, hm3⟩ := (markArray_ev v1 v2 v3 1 (by omega) (by omega) (by omega) (by omega)).rounds
      obtain ⟨kh, hh⟩ := (heldArray_ev v1 v2.length v3.length 1 (by omega) (by omega) (by omega) (by omega)).rounds
      exact lawMember_y kta ktb kea keb ks kev kh kk1 kk2 kk3 a Aa1 ca1 la1 Aa2 ca2 la2 b Ab1 cb1 lb1 Ab2 cb2 lb2 v1 v2 v3 v4 _ _ _ _ _ _ _ _ _ _ _ w ha1 ka1 ha2 ka2 hb1 kb1 hb2 kb2 hta hea htb heb hsp him hev f1 (by omega) f2 (by omega) hm1 (by omega) (upFrom_len _ _).symm (upFrom_len _ _).symm hm2 (by omega) (upFrom_len _ _).symm (upFrom_len _ _).symm hm3 (by omega) (upFrom_len _ _).symm (upFrom_len _ _).symm hh
    · exact lawMember_n2 a Aa1 ca1 la1 Aa2 ca2 la2 b Ab1 cb1 lb1 Ab2 cb2 lb2 _ w ha1 ka1 ha2 ka2 hb1 kb1 hb2 kb2 f1 (by omega) ((szArray_eq b lb1 lb2 _ (by omega) (by omega) nb1 nb2).trans (by rw [if_neg z2]))
  · exact lawMember_n1 a Aa1 ca1 la1 Aa2 ca2 la2 b Ab1 cb1 lb1 Ab2 cb2 lb2  w ha1 ka1 ha2 ka2 hb1 kb1 hb2 kb2 ((szArray_eq a la1 la2 _ (by omega) (by omega) na1 na2).trans (by rw [if_neg z1]))
end Go.Proofs.Ytlomomhajmackaa.PA

namespace Go.Proofs.Ytlomomhajmackaa.PA
open Go.ChangeShapes Go.WideShapes Go.ChangeAt Go.RowKit Go.Deep Go.Proofs.YtlomomhajmackaaW.PrintWords Go.Proofs.YtlomomhajmackaaW.PrintLast Go.Proofs.YtlomomhajmackaaW.PrintMore

/-- A slice of whole numbers that came in: what it reads as. -/
structure Sl (W : World) (A : Option Addr) (l : List Int) (c : Nat) : Prop where
  reads : ReadsInt W .i64 A l.length l
  max : l.length ≤ maxLen
  wf : ∀ x ∈ l, (Lit.int .i64 x).wf = true
  cap : l.length ≤ c

theorem slice_cell {H : Type} {enc : TypeId × Value → H} {P : Program} {W : World} {fuel : Nat} {t e : TypeId} {cs : List Value} {x : DataW H × List MemPlace}
    (ht : P.underlying t = some (.slice e)) (he : P.underlying e = some (.int .i64)) (hc : P.cellsOf e = 1)
    (hf : DataW.trod enc P W 0 (fun _ => true) true fuel t cs = some x) : ∃ A l c, cs = [.slice A l.length c] ∧ Sl W A l c := by
  rcases open_ints ht he hc hf with ⟨hcs, _⟩ | ⟨a, n, c, zs, hcs, _, hl, hm, hz, _, hcell, hwz⟩
  · obtain ⟨l, e1, h1, h2, h3, h4⟩ := ReadsInt.ofRowC (k := .i64) (w := W) (a := none) (len := 0) (cap := 0) (zs := []) (.inl ⟨rfl, rfl, rfl, rfl⟩)
    refine ⟨none, l, 0, ?_, h1, h2, h3, h4⟩
    rw [← e1]; exact hcs
  · obtain ⟨l, e1, h1, h2, h3, h4⟩ := ReadsInt.ofRowC (k := .i64) (w := W) (a := some a) (len := n) (cap := c) (zs := zs) (.inr ⟨a, rfl, hl, hm, by simpa using hz, hcell, hwz⟩)
    refine ⟨some a, l, c, ?_, h1, h2, h3, h4⟩
    rw [← e1]; exact hcs


theorem open_bss {H : Type} {enc : TypeId × Value → H} {P : Program} {W : World} {t e : TypeId} {f0 f1 f2 : Field} {v : Value} {d : DataW H} {p : List MemPlace} {r : Reach} {b0 : Nat}
    (hs : P.underlying t = some (.struct #[f0, f1, f2])) (hone : oneCellFields P #[f0, f1, f2] = true) (hC : P.cellsOf t = 3)
    (h0 : P.underlying f0.type = some .bool) (h1 : P.underlying f1.type = some (.slice e)) (h2 : P.underlying f2.type = some (.slice e)) (he : P.underlying e = some (.int .i64)) (hc : P.cellsOf e = 1)
    (hv : Value.okWide P W r b0 t v) (h : DataW.Trod enc P W 0 (fun _ => true) true t v d p) :
    ∃ (a : Bool) (A1 : Option Addr) (l1 : List Int) (c1 : Nat) (A2 : Option Addr) (l2 : List Int) (c2 : Nat), v = .agg #[.bool a, .slice A1 l1.length c1, .slice A2 l2.length c2] ∧ Sl W A1 l1 c1 ∧ Sl W A2 l2 c2 := by
  obtain ⟨v0, v1, v2, y0, y1, y2, n, rfl, _, _, k0, k1, k2⟩ := Go.Joins.open_agg3 hs hone hC hv h
  obtain ⟨A1, l1, c1, e1, s1⟩ := slice_cell h1 he hc k1
  obtain ⟨A2, l2, c2, e2, s2⟩ := slice_cell h2 he hc k2
  obtain ⟨a, e0, _⟩ := DataW.trod_bool h0 k0
  simp only [List.cons.injEq, and_true] at e0 e1 e2
  subst e0 e1 e2
  exact ⟨a, A1, l1, c1, A2, l2, c2, rfl, s1, s2⟩

end Go.Proofs.Ytlomomhajmackaa.PA
