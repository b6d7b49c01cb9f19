import Derived.Test.YtehfcnndjhjkoaaKFnExactCatenate2
import Derived.IntWalk
import Derived.Deep.CutRange

namespace Go.Proofs.Ytehfcnndjhjkoaa.PA
open Go.RowKit Go.Proofs.YtehfcnndjhjkoaaW.PrintWords Go.Proofs.YtehfcnndjhjkoaaW.PrintLast Go.Proofs.YtehfcnndjhjkoaaW.PrintMore
set_option linter.unusedVariables false
set_option linter.unusedSimpArgs false
theorem noInt_A (b : Bool) (A1 : Option Addr) (n1 c1 : Nat) (A2 : Option Addr) (n2 c2 : Nat) : noInt #[.bool b, .slice A1 n1 c1, .slice A2 n2 c2] := by
  intro j k z
  match j with
  | 0 => simp
  | 1 => simp
  | 2 => simp
  | j + 3 => simp
/-- What is known of one beside another. -/
def BesOk (args : Array Value) (a : Bool) (L1 L2 : List Int) (w : World) : Prop := ∀ W, Below w.heap.size w W → Calls Try.prog 89 args W fun e w' => ∃ As cs Ad cd, e = .returned (.agg #[.bool a, .slice As L1.length cs, .slice Ad L2.length cd]) ∧ Kd.C (Kd.int .i64) w' As L1.length L1 ∧ L1.length ≤ cs ∧ Kd.C (Kd.int .i64) w' Ad L2.length L2 ∧ L2.length ≤ cd ∧ Below W.heap.size W w'
theorem BesOk.go {args : Array Value} {a : Bool} {L1 L2 : List Int} {w : World} (h : BesOk args a L1 L2 w) (W : World) (hb : Below w.heap.size w W) : Calls Try.prog 89 args W fun e w' => ∃ As cs Ad cd, e = .returned (.agg #[.bool a, .slice As L1.length cs, .slice Ad L2.length cd]) ∧ Kd.C (Kd.int .i64) w' As L1.length L1 ∧ L1.length ≤ cs ∧ Kd.C (Kd.int .i64) w' Ad L2.length L2 ∧ L2.length ≤ cd ∧ Below W.heap.size W w' := h W hb
set_option maxHeartbeats 2000000 in
set_option maxRecDepth 100000 in
theorem cat_no (k0 : Nat) (a : Bool) (Aa1 : Option Addr) (ca1 : Nat) (la1 : List Int) (Aa2 : Option Addr) (ca2 : Nat) (la2 : List Int) (b : Bool) (Ab1 : Option Addr) (cb1 : Nat) (lb1 : List Int) (Ab2 : Option Addr) (cb2 : Nat) (lb2 : List Int) (w : World) (ha1 : Kd.C (Kd.int .i64) w Aa1 la1.length la1) (ka1 : la1.length ≤ ca1) (ha2 : Kd.C (Kd.int .i64) w Aa2 la2.length la2) (ka2 : la2.length ≤ ca2) (hb1 : Kd.C (Kd.int .i64) w Ab1 lb1.length lb1) (kb1 : lb1.length ≤ cb1) (hb2 : Kd.C (Kd.int .i64) w Ab2 lb2.length lb2) (kb2 : lb2.length ≤ cb2) (v : Int) (hv : impl_valid.f k0 [⟨a, la1, la2⟩, ⟨b, lb1, lb2⟩] = some v) (hv0 : v ≠ 0) :
    Calls Try.prog 38 #[.agg #[.bool a, .slice Aa1 la1.length ca1, .slice Aa2 la2.length ca2], .agg #[.bool b, .slice Ab1 lb1.length cb1, .slice Ab2 lb2.length cb2]] w fun e w' => ∃ v1_ v2_ : Value, e = .returned (.tuple #[.agg #[.bool false, v1_, v2_], .int .i64 v]) ∧ Kd.R (Kd.int .i64) 3 w' w.heap.size (fun k_ => some k_ ≠ (v2_ : Value).ownBlock) v1_ [] ∧ Kd.R (Kd.int .i64) 3 w' w.heap.size (fun k_ => some k_ ≠ (v1_ : Value).ownBlock) v2_ [] ∧ Below w.heap.size w w' := by
  have Ha1 := Aside0.mk ha1
  have Ka1 := Aside0.mk ka1
  clear ha1 ka1
  have Ha2 := Aside0.mk ha2
  have Ka2 := Aside0.mk ka2
  clear ha2 ka2
  have Hb1 := Aside0.mk hb1
  have Kb1 := Aside0.mk kb1
  clear hb1 kb1
  have Hb2 := Aside0.mk hb2
  have Kb2 := Aside0.mk kb2
  clear hb2 kb2
  have HV := Aside0.mk hv
  clear hv
  have c0 : (v == 0) = false := beq_eq_false_iff_ne.mpr hv0
  have c1 : (v != 0) = true := bne_iff_ne.mpr hv0
  clear hv0
  have HS := Aside0.mk (Sx.start w)
  go_enter Try.func38, Try.ntmps38
  go_wp2_with (first | ((with_reducible refine gate_dst (N := 2) rfl ?_); refine box_event ?hg (N := 2) ?hd (cs := #[.bool a, .slice Aa1 la1.length ca1, .slice Aa2 la2.length ca2]) (t := 28) ?hr ?_; (case hd => rfl); (case hg => rfl); (case hr => first | (go_simp; done) | (go_simp; rfl)); intro gK hg1 w1 hx1 hb1; have nS : Aside0 (Sx w w1 [(.blk gK #[.bool a, .slice Aa1 la1.length ca1, .slice Aa2 la2.length ca2] 28)]) := Aside0.mk (HS.out.box hg1 hx1 hb1); clear HS; have HS := nS; clear nS hg1 hx1 hb1) | ((with_reducible refine gate_dst (N := 3) rfl ?_); refine box_event ?hg (N := 3) ?hd (cs := #[.bool b, .slice Ab1 lb1.length cb1, .slice Ab2 lb2.length cb2]) (t := 28) ?hr ?_; (case hd => rfl); (case hg => rfl); (case hr => first | (go_simp; done) | (go_simp; rfl)); intro gB hg2 w2 hx2 hb2; have nS : Aside0 (Sx w w2 [(.blk gB #[.bool b, .slice Ab1 lb1.length cb1, .slice Ab2 lb2.length cb2] 28), (.blk gK #[.bool a, .slice Aa1 la1.length ca1, .slice Aa2 la2.length ca2] 28)]) := Aside0.mk (HS.out.box hg2 hx2 hb2); clear HS; have HS := nS; clear nS hg2 hx2 hb2) | ((with_reducible refine gate_dst (N := 4) rfl ?_); refine box_event ?hg (N := 4) ?hd (cs := #[.bool false, .slice none 0 0, .slice none 0 0]) (t := 28) ?hr ?_; (case hd => rfl); (case hg => rfl); (case hr => first | (go_simp; done) | (go_simp; rfl)); intro gR hg3 w3 hx3 hb3; have nS : Aside0 (Sx w w3 [(.blk gR #[.bool false, .slice none 0 0, .slice none 0 0] 28), (.blk gB #[.bool b, .slice Ab1 lb1.length cb1, .slice Ab2 lb2.length cb2] 28), (.blk gK #[.bool a, .slice Aa1 la1.length ca1, .slice Aa2 la2.length ca2] 28)]) := Aside0.mk (HS.out.box hg3 hx3 hb3); clear HS; have HS := nS; clear nS hg3 hx3 hb3) | ((with_reducible refine gate_dst (N := 17) rfl ?_); refine wpList_load_row rfl 28 (.tmp 2) rfl gK rfl 28 #[.bool a, .slice Aa1 la1.length ca1, .slice Aa2 la2.length ca2] (0, 0) _ (HS.out.blk 2 rfl) Try.underlying28 rfl (by kernel_rfl) ?_) | ((with_reducible refine gate_dst (N := 18) rfl ?_); refine wpList_load_row rfl 28 (.tmp 3) rfl gB rfl 28 #[.bool b, .slice Ab1 lb1.length cb1, .slice Ab2 lb2.length cb2] (0, 0) _ (HS.out.blk 1 rfl) Try.underlying28 rfl (by kernel_rfl) ?_) | ((with_reducible refine gate_dst (N := 19) rfl ?_); refine lit_event ?hg (N := 19) ?hd (cs := #[.bool a, .slice Aa1 la1.length ca1, .slice Aa2 la2.length ca2, .bool b, .slice Ab1 lb1.length cb1, .slice Ab2 lb2.length cb2]) (t := 28) (n := 2) ?hr ?_; (case hd => rfl); (case hg => rfl); (case hr => first | (go_simp; done) | (go_simp; rfl)); intro gV hg4 w4 hx4 hb4; have nS : Aside0 (Sx w w4 [(.blk gV #[.bool a, .slice Aa1 la1.length ca1, .slice Aa2 la2.length ca2, .bool b, .slice Ab1 lb1.length cb1, .slice Ab2 lb2.length cb2] 28), (.blk gR #[.bool false, .slice none 0 0, .slice none 0 0] 28), (.blk gB #[.bool b, .slice Ab1 lb1.length cb1, .slice Ab2 lb2.length cb2] 28), (.blk gK #[.bool a, .slice Aa1 la1.length ca1, .slice Aa2 la2.length ca2] 28)]) := Aside0.mk (HS.out.box hg4 hx4 hb4); clear HS; have HS := nS; clear nS hg4 hx4 hb4) | (go_at_call 58; refine (impl_valid.calls k0 _ 2 [⟨a, la1, la2⟩, ⟨b, lb1, lb2⟩] v _ (pair_C (HS.out.blk 0 rfl) (Kd.C_below Ha1.out HS.out.below) Ka1.out (Kd.C_below Ha2.out HS.out.below) Ka2.out (Kd.C_below Hb1.out HS.out.below) Kb1.out (Kd.C_below Hb2.out HS.out.below) Kb2.out) (Nat.le_refl _) HV.out).mono ?_; rintro e w5 ⟨rfl, hb5⟩; have nS : Aside0 (Sx w w5 [(.blk gV #[.bool a, .slice Aa1 la1.length ca1, .slice Aa2 la2.length ca2, .bool b, .slice Ab1 lb1.length cb1, .slice Ab2 lb2.length cb2] 28), (.blk gR #[.bool false, .slice none 0 0, .slice none 0 0] 28), (.blk gB #[.bool b, .slice Ab1 lb1.length cb1, .slice Ab2 lb2.length cb2] 28), (.blk gK #[.bool a, .slice Aa1 la1.length ca1, .slice Aa2 la2.length ca2] 28)]) := Aside0.mk (HS.out.step hb5); clear HS; have HS := nS; clear nS hb5) | ((with_reducible refine gate_store rfl ?_); refine store_named rfl 28 (.tmp 4) (.tmp 23) rfl gR #[.bool false, .slice none 0 0, .slice none 0 0] rfl rfl 28 #[.bool false, .slice none 0 0, .slice none 0 0] (HS.out.blk 1 rfl) (by kernel_rfl) rfl (by simp [Value.oneCell']) ?_; intro w6 hx6 hb6; have nS : Aside0 (Sx w w6 [(.blk gV #[.bool a, .slice Aa1 la1.length ca1, .slice Aa2 la2.length ca2, .bool b, .slice Ab1 lb1.length cb1, .slice Ab2 lb2.length cb2] 28), (.blk gR #[.bool false, .slice none 0 0, .slice none 0 0] 28), (.blk gB #[.bool b, .slice Ab1 lb1.length cb1, .slice Ab2 lb2.length cb2] 28), (.blk gK #[.bool a, .slice Aa1 la1.length ca1, .slice Aa2 la2.length ca2] 28)]) := Aside0.mk (HS.out.put 1 rfl hx6 hb6); clear HS; have HS := nS; clear nS hx6 hb6))
  refine bodyPost_ret (results_ct rfl _ _ gR 28 #[.bool false, .slice none 0 0, .slice none 0 0] (0, 0) _ rfl (HS.out.blk 1 rfl) Try.underlying28 rfl (by kernel_rfl)) rfl ?_
  exact ⟨_, _, rfl, Kd.R_nil _ _ _ _ _, Kd.R_nil _ _ _ _ _, HS.out.below⟩
set_option maxHeartbeats 2000000 in
set_option maxRecDepth 100000 in
theorem cat_rank (k0 : Nat) (a : Bool) (Aa1 : Option Addr) (ca1 : Nat) (la1 : List Int) (Aa2 : Option Addr) (ca2 : Nat) (la2 : List Int) (b : Bool) (Ab1 : Option Addr) (cb1 : Nat) (lb1 : List Int) (Ab2 : Option Addr) (cb2 : Nat) (lb2 : List Int) (w : World) (ha1 : Kd.C (Kd.int .i64) w Aa1 la1.length la1) (ka1 : la1.length ≤ ca1) (ha2 : Kd.C (Kd.int .i64) w Aa2 la2.length la2) (ka2 : la2.length ≤ ca2) (hb1 : Kd.C (Kd.int .i64) w Ab1 lb1.length lb1) (kb1 : lb1.length ≤ cb1) (hb2 : Kd.C (Kd.int .i64) w Ab2 lb2.length lb2) (kb2 : lb2.length ≤ cb2) (hv : impl_valid.f k0 [⟨a, la1, la2⟩, ⟨b, lb1, lb2⟩] = some 0) (L1 L2 M1 M2 : List Int) (hA : BesOk #[.agg #[.bool a, .slice Aa1 la1.length ca1, .slice Aa2 la2.length ca2], .agg #[.bool b, .slice Ab1 lb1.length cb1, .slice Ab2 lb2.length cb2]] a L1 L2 w) (hB : BesOk #[.agg #[.bool b, .slice Ab1 lb1.length cb1, .slice Ab2 lb2.length cb2], .agg #[.bool a, .slice Aa1 la1.length ca1, .slice Aa2 la2.length ca2]] b M1 M2 w) (hne : L1.length ≠ M1.length) :
    Calls Try.prog 38 #[.agg #[.bool a, .slice Aa1 la1.length ca1, .slice Aa2 la2.length ca2], .agg #[.bool b, .slice Ab1 lb1.length cb1, .slice Ab2 lb2.length cb2]] w fun e w' => ∃ v1_ v2_ : Value, e = .returned (.tuple #[.agg #[.bool false, v1_, v2_], .int .i64 4]) ∧ Kd.R (Kd.int .i64) 3 w' w.heap.size (fun k_ => some k_ ≠ (v2_ : Value).ownBlock) v1_ [] ∧ Kd.R (Kd.int .i64) 3 w' w.heap.size (fun k_ => some k_ ≠ (v1_ : Value).ownBlock) v2_ [] ∧ Below w.heap.size w w' := by
  have Ha1 := Aside0.mk ha1
  have Ka1 := Aside0.mk ka1
  clear ha1 ka1
  have Ha2 := Aside0.mk ha2
  have Ka2 := Aside0.mk ka2
  clear ha2 ka2
  have Hb1 := Aside0.mk hb1
  have Kb1 := Aside0.mk kb1
  clear hb1 kb1
  have Hb2 := Aside0.mk hb2
  have Kb2 := Aside0.mk kb2
  clear hb2 kb2
  have HV := Aside0.mk hv
  clear hv
  have HA := Aside0.mk hA
  have HB := Aside0.mk hB
  clear hA hB
  have d0 : ((L1.length : Int) == (M1.length : Int)) = false := beq_eq_false_iff_ne.mpr (by omega)
  have d1 : ((L1.length : Int) != (M1.length : Int)) = true := bne_iff_ne.mpr (by omega)
  have d2 : ¬ L1.length = M1.length := hne
  clear hne
  have HS := Aside0.mk (Sx.start w)
  go_enter Try.func38, Try.ntmps38
  go_upto_region 4 with (first | ((with_reducible refine gate_dst (N := 2) rfl ?_); refine box_event ?hg (N := 2) ?hd (cs := #[.bool a, .slice Aa1 la1.length ca1, .slice Aa2 la2.length ca2]) (t := 28) ?hr ?_; (case hd => rfl); (case hg => rfl); (case hr => first | (go_simp; done) | (go_simp; rfl)); intro gK hg1 w1 hx1 hb1; have nS : Aside0 (Sx w w1 [(.blk gK #[.bool a, .slice Aa1 la1.length ca1, .slice Aa2 la2.length ca2] 28)]) := Aside0.mk (HS.out.box hg1 hx1 hb1); clear HS; have HS := nS; clear nS hg1 hx1 hb1) | ((with_reducible refine gate_dst (N := 3) rfl ?_); refine box_event ?hg (N := 3) ?hd (cs := #[.bool b, .slice Ab1 lb1.length cb1, .slice Ab2 lb2.length cb2]) (t := 28) ?hr ?_; (case hd => rfl); (case hg => rfl); (case hr => first | (go_simp; done) | (go_simp; rfl)); intro gB hg2 w2 hx2 hb2; have nS : Aside0 (Sx w w2 [(.blk gB #[.bool b, .slice Ab1 lb1.length cb1, .slice Ab2 lb2.length cb2] 28), (.blk gK #[.bool a, .slice Aa1 la1.length ca1, .slice Aa2 la2.length ca2] 28)]) := Aside0.mk (HS.out.box hg2 hx2 hb2); clear HS; have HS := nS; clear nS hg2 hx2 hb2) | ((with_reducible refine gate_dst (N := 4) rfl ?_); refine box_event ?hg (N := 4) ?hd (cs := #[.bool false, .slice none 0 0, .slice none 0 0]) (t := 28) ?hr ?_; (case hd => rfl); (case hg => rfl); (case hr => first | (go_simp; done) | (go_simp; rfl)); intro gR hg3 w3 hx3 hb3; have nS : Aside0 (Sx w w3 [(.blk gR #[.bool false, .slice none 0 0, .slice none 0 0] 28), (.blk gB #[.bool b, .slice Ab1 lb1.length cb1, .slice Ab2 lb2.length cb2] 28), (.blk gK #[.bool a, .slice Aa1 la1.length ca1, .slice Aa2 la2.length ca2] 28)]) := Aside0.mk (HS.out.box hg3 hx3 hb3); clear HS; have HS := nS; clear nS hg3 hx3 hb3) | ((with_reducible refine gate_dst (N := 17) rfl ?_); refine wpList_load_row rfl 28 (.tmp 2) rfl gK rfl 28 #[.bool a, .slice Aa1 la1.length ca1, .slice Aa2 la2.length ca2] (0, 0) _ (HS.out.blk 2 rfl) Try.underlying28 rfl (by kernel_rfl) ?_) | ((with_reducible refine gate_dst (N := 18) rfl ?_); refine wpList_load_row rfl 28 (.tmp 3) rfl gB rfl 28 #[.bool b, .slice Ab1 lb1.length cb1, .slice Ab2 lb2.length cb2] (0, 0) _ (HS.out.blk 1 rfl) Try.underlying28 rfl (by kernel_rfl) ?_) | ((with_reducible refine gate_dst (N := 19) rfl ?_); refine lit_event ?hg (N := 19) ?hd (cs := #[.bool a, .slice Aa1 la1.length ca1, .slice Aa2 la2.length ca2, .bool b, .slice Ab1 lb1.length cb1, .slice Ab2 lb2.length cb2]) (t := 28) (n := 2) ?hr ?_; (case hd => rfl); (case hg => rfl); (case hr => first | (go_simp; done) | (go_simp; rfl)); intro gV hg4 w4 hx4 hb4; have nS : Aside0 (Sx w w4 [(.blk gV #[.bool a, .slice Aa1 la1.length ca1, .slice Aa2 la2.length ca2, .bool b, .slice Ab1 lb1.length cb1, .slice Ab2 lb2.length cb2] 28), (.blk gR #[.bool false, .slice none 0 0, .slice none 0 0] 28), (.blk gB #[.bool b, .slice Ab1 lb1.length cb1, .slice Ab2 lb2.length cb2] 28), (.blk gK #[.bool a, .slice Aa1 la1.length ca1, .slice Aa2 la2.length ca2] 28)]) := Aside0.mk (HS.out.box hg4 hx4 hb4); clear HS; have HS := nS; clear nS hg4 hx4 hb4) | (go_at_call 58; refine (impl_valid.calls k0 _ 2 [⟨a, la1, la2⟩, ⟨b, lb1, lb2⟩] 0 _ (pair_C (HS.out.blk 0 rfl) (Kd.C_below Ha1.out HS.out.below) Ka1.out (Kd.C_below Ha2.out HS.out.below) Ka2.out (Kd.C_below Hb1.out HS.out.below) Kb1.out (Kd.C_below Hb2.out HS.out.below) Kb2.out) (Nat.le_refl _) HV.out).mono ?_; rintro e w5 ⟨rfl, hb5⟩; have nS : Aside0 (Sx w w5 [(.blk gV #[.bool a, .slice Aa1 la1.length ca1, .slice Aa2 la2.length ca2, .bool b, .slice Ab1 lb1.length cb1, .slice Ab2 lb2.length cb2] 28), (.blk gR #[.bool false, .slice none 0 0, .slice none 0 0] 28), (.blk gB #[.bool b, .slice Ab1 lb1.length cb1, .slice Ab2 lb2.length cb2] 28), (.blk gK #[.bool a, .slice Aa1 la1.length ca1, .slice Aa2 la2.length ca2] 28)]) := Aside0.mk (HS.out.step hb5); clear HS; have HS := nS; clear nS hb5))
  have nS := Aside0.mk HS.out.drew
  clear HS
  have HS := nS
  clear nS
  refine start_ (n := 8) (S := (fun w' => w'.cell? ⟨gK, 0, none⟩ = some (.bool a) ∧ w'.cell? ⟨gK, 1, none⟩ = some (.slice Aa1 la1.length ca1) ∧ w'.cell? ⟨gK, 2, none⟩ = some (.slice Aa2 la2.length ca2) ∧ w'.cell? ⟨gB, 0, none⟩ = some (.bool b) ∧ w'.cell? ⟨gB, 1, none⟩ = some (.slice Ab1 lb1.length cb1) ∧ w'.cell? ⟨gB, 2, none⟩ = some (.slice Ab2 lb2.length cb2))) (ds := [6, 7]) #[false, false, false, false, false, false, false, false] (by kernel_rfl) rfl rfl ⟨(blk_cell (HS.out.blk 3 rfl) 0).trans rfl, (blk_cell (HS.out.blk 3 rfl) 1).trans rfl, (blk_cell (HS.out.blk 3 rfl) 2).trans rfl, (blk_cell (HS.out.blk 2 rfl) 0).trans rfl, (blk_cell (HS.out.blk 2 rfl) 1).trans rfl, (blk_cell (HS.out.blk 2 rfl) 2).trans rfl⟩ (fun hHeld => ?_)
  refine take_ (i := 0) (N := (some 25)) (v := ?_) (a' := ?_) #[true, false, false, false, false, false, false, false] rfl rfl (by kernel_rfl) (fun _ _ _ h => h) (Or.inl ⟨by rfl, ?_⟩) hHeld ?_ ?_
  rotate_left
  · rintro w' ⟨s0, s1, s2, s3, s4, s5⟩
    go_simp
    with_reducible rfl
  rotate_left
  · simp only [Act.put, List.setIfInBounds_toArray, List.set_cons_zero, List.set_cons_succ]
    rfl
  refine take_ (i := 1) (N := (some 26)) (v := ?_) (a' := ?_) #[true, true, false, false, false, false, false, false] rfl rfl (by kernel_rfl) (fun _ _ _ h => h) (Or.inl ⟨by rfl, ?_⟩) hHeld ?_ ?_
  rotate_left
  · rintro w' ⟨s0, s1, s2, s3, s4, s5⟩
    go_simp
    with_reducible rfl
  rotate_left
  · simp only [Act.put, List.setIfInBounds_toArray, List.set_cons_zero, List.set_cons_succ]
    rfl
  refine take_ (i := 3) (N := (some 28)) (v := ?_) (a' := ?_) #[true, true, false, true, false, false, false, false] rfl rfl (by kernel_rfl) (fun _ _ _ h => h) (Or.inl ⟨by rfl, ?_⟩) hHeld ?_ ?_
  rotate_left
  · rintro w' ⟨s0, s1, s2, s3, s4, s5⟩
    go_simp
    with_reducible rfl
  rotate_left
  · simp only [Act.put, List.setIfInBounds_toArray, List.set_cons_zero, List.set_cons_succ]
    rfl
  refine take_ (i := 4) (N := (some 29)) (v := ?_) (a' := ?_) #[true, true, false, true, true, false, false, false] rfl rfl (by kernel_rfl) (fun _ _ _ h => h) (Or.inl ⟨by rfl, ?_⟩) hHeld ?_ ?_
  rotate_left
  · rintro w' ⟨s0, s1, s2, s3, s4, s5⟩
    go_simp
    with_reducible rfl
  rotate_left
  · simp only [Act.put, List.setIfInBounds_toArray, List.set_cons_zero, List.set_cons_succ]
    rfl
  refine one_ (i := 2) (N := (some 27)) #[true, true, true, true, true, false, false, false] rfl rfl (by kernel_rfl) (by decide) (fun K hK => ?_)
  refine goes_ Try.func89 (by kernel_rfl) rfl #[.agg #[.bool a, .slice Aa1 la1.length ca1, .slice Aa2 la2.length ca2], .agg #[.bool b, .slice Ab1 lb1.length cb1, .slice Ab2 lb2.length cb2]] (by rfl) rfl rfl (by (try simp only [List.map_toArray, List.map_cons, List.map_nil]); first | done | rfl) ?_
  with_reducible refine (HA.out.go _ HS.out.below).mono ?_
  rintro e w6 ⟨As, cs, Ad, cd, rfl, hCA1, hKA1, hCA2, hKA2, hb6⟩
  have CA1 := Aside0.mk hCA1
  have KA1 := Aside0.mk hKA1
  have CA2 := Aside0.mk hCA2
  have KA2 := Aside0.mk hKA2
  clear hCA1 hKA1 hCA2 hKA2
  have nS : Aside0 (Sx w w6 [(.blk gV #[.bool a, .slice Aa1 la1.length ca1, .slice Aa2 la2.length ca2, .bool b, .slice Ab1 lb1.length cb1, .slice Ab2 lb2.length cb2] 28), (.blk gR #[.bool false, .slice none 0 0, .slice none 0 0] 28), (.blk gB #[.bool b, .slice Ab1 lb1.length cb1, .slice Ab2 lb2.length cb2] 28), (.blk gK #[.bool a, .slice Aa1 la1.length ca1, .slice Aa2 la2.length ca2] 28)]) := Aside0.mk (HS.out.step hb6)
  clear HS hb6
  have HS := nS
  clear nS
  refine ⟨_, rfl, ?_⟩
  refine hK.out _ _ ⟨(blk_cell (HS.out.blk 3 rfl) 0).trans rfl, (blk_cell (HS.out.blk 3 rfl) 1).trans rfl, (blk_cell (HS.out.blk 3 rfl) 2).trans rfl, (blk_cell (HS.out.blk 2 rfl) 0).trans rfl, (blk_cell (HS.out.blk 2 rfl) 1).trans rfl, (blk_cell (HS.out.blk 2 rfl) 2).trans rfl⟩ (fun hHeld => ?_)
  clear hK K
  refine norm_ (a' := ?_) ?_ ?_
  rotate_left
  · show Act.put _ (some 27) _ = _
    simp only [Act.put, List.setIfInBounds_toArray, List.set_cons_zero, List.set_cons_succ]
    rfl
  refine one_ (i := 5) (N := (some 30)) #[true, true, true, true, true, true, false, false] rfl rfl (by kernel_rfl) (by decide) (fun K hK => ?_)
  refine goes_ Try.func89 (by kernel_rfl) rfl #[.agg #[.bool b, .slice Ab1 lb1.length cb1, .slice Ab2 lb2.length cb2], .agg #[.bool a, .slice Aa1 la1.length ca1, .slice Aa2 la2.length ca2]] (by rfl) rfl rfl (by (try simp only [List.map_toArray, List.map_cons, List.map_nil]); first | done | rfl) ?_
  with_reducible refine (HB.out.go _ HS.out.below).mono ?_
  rintro e w7 ⟨Bs, ds, Bd, dd, rfl, hCB1, hKB1, hCB2, hKB2, hb7⟩
  have CB1 := Aside0.mk hCB1
  have KB1 := Aside0.mk hKB1
  have CB2 := Aside0.mk hCB2
  have KB2 := Aside0.mk hKB2
  clear hCB1 hKB1 hCB2 hKB2
  have nCA1 := Aside0.mk (Kd.C_below CA1.out hb7)
  clear CA1
  have CA1 := nCA1
  clear nCA1
  have nCA2 := Aside0.mk (Kd.C_below CA2.out hb7)
  clear CA2
  have CA2 := nCA2
  clear nCA2
  have nS : Aside0 (Sx w w7 [(.blk gV #[.bool a, .slice Aa1 la1.length ca1, .slice Aa2 la2.length ca2, .bool b, .slice Ab1 lb1.length cb1, .slice Ab2 lb2.length cb2] 28), (.blk gR #[.bool false, .slice none 0 0, .slice none 0 0] 28), (.blk gB #[.bool b, .slice Ab1 lb1.length cb1, .slice Ab2 lb2.length cb2] 28), (.blk gK #[.bool a, .slice Aa1 la1.length ca1, .slice Aa2 la2.length ca2] 28)]) := Aside0.mk (HS.out.step hb7)
  clear HS hb7
  have HS := nS
  clear nS
  refine ⟨_, rfl, ?_⟩
  refine hK.out _ _ ⟨(blk_cell (HS.out.blk 3 rfl) 0).trans rfl, (blk_cell (HS.out.blk 3 rfl) 1).trans rfl, (blk_cell (HS.out.blk 3 rfl) 2).trans rfl, (blk_cell (HS.out.blk 2 rfl) 0).trans rfl, (blk_cell (HS.out.blk 2 rfl) 1).trans rfl, (blk_cell (HS.out.blk 2 rfl) 2).trans rfl⟩ (fun hHeld => ?_)
  clear hK K
  refine norm_ (a' := ?_) ?_ ?_
  rotate_left
  · show Act.put _ (some 30) _ = _
    simp only [Act.put, List.setIfInBounds_toArray, List.set_cons_zero, List.set_cons_succ]
    rfl
  refine last_ (i := 6) (N := none) #[true, true, true, true, true, true, true, false] rfl rfl (by kernel_rfl) (by decide) (fun K hK => ?_)
  refine store_named_step (by rfl) 28 (.tmp 2) (.tmp 27) rfl gK #[.bool a, .slice As L1.length cs, .slice Ad L2.length cd] rfl rfl 28 #[.bool a, .slice Aa1 la1.length ca1, .slice Aa2 la2.length ca2] (HS.out.blk 3 rfl) (by kernel_rfl) rfl (by simp [Value.oneCell']) ?_
  intro wz6 hxz hbz
  have nCA1 := Aside0.mk (C_but1 CA1.out hbz (HS.out.blk 3 rfl) (noInt_A _ _ _ _ _ _ _))
  clear CA1
  have CA1 := nCA1
  clear nCA1
  have nCA2 := Aside0.mk (C_but1 CA2.out hbz (HS.out.blk 3 rfl) (noInt_A _ _ _ _ _ _ _))
  clear CA2
  have CA2 := nCA2
  clear nCA2
  have nCB1 := Aside0.mk (C_but1 CB1.out hbz (HS.out.blk 3 rfl) (noInt_A _ _ _ _ _ _ _))
  clear CB1
  have CB1 := nCB1
  clear nCB1
  have nCB2 := Aside0.mk (C_but1 CB2.out hbz (HS.out.blk 3 rfl) (noInt_A _ _ _ _ _ _ _))
  clear CB2
  have CB2 := nCB2
  clear nCB2
  have nS : Aside0 (Sx w wz6 [(.blk gV #[.bool a, .slice Aa1 la1.length ca1, .slice Aa2 la2.length ca2, .bool b, .slice Ab1 lb1.length cb1, .slice Ab2 lb2.length cb2] 28), (.blk gR #[.bool false, .slice none 0 0, .slice none 0 0] 28), (.blk gB #[.bool b, .slice Ab1 lb1.length cb1, .slice Ab2 lb2.length cb2] 28), (.blk gK #[.bool a, .slice As L1.length cs, .slice Ad L2.length cd] 28)]) := Aside0.mk (HS.out.put 3 rfl hxz hbz)
  clear HS hxz hbz
  have HS := nS
  clear nS
  refine hK.out _ _ ?_
  clear hK K
  refine norm_ (a' := ?_) ?_ ?_
  rotate_left
  · show Act.put _ none _ = _
    simp only [Act.put, List.setIfInBounds_toArray, List.set_cons_zero, List.set_cons_succ]
    rfl
  refine last_ (i := 7) (N := none) #[true, true, true, true, true, true, true, true] rfl rfl (by kernel_rfl) (by decide) (fun K hK => ?_)
  refine store_named_step (by rfl) 28 (.tmp 3) (.tmp 30) rfl gB #[.bool b, .slice Bs M1.length ds, .slice Bd M2.length dd] rfl rfl 28 #[.bool b, .slice Ab1 lb1.length cb1, .slice Ab2 lb2.length cb2] (HS.out.blk 2 rfl) (by kernel_rfl) rfl (by simp [Value.oneCell']) ?_
  intro wz7 hxz hbz
  have nCA1 := Aside0.mk (C_but1 CA1.out hbz (HS.out.blk 2 rfl) (noInt_A _ _ _ _ _ _ _))
  clear CA1
  have CA1 := nCA1
  clear nCA1
  have nCA2 := Aside0.mk (C_but1 CA2.out hbz (HS.out.blk 2 rfl) (noInt_A _ _ _ _ _ _ _))
  clear CA2
  have CA2 := nCA2
  clear nCA2
  have nCB1 := Aside0.mk (C_but1 CB1.out hbz (HS.out.blk 2 rfl) (noInt_A _ _ _ _ _ _ _))
  clear CB1
  have CB1 := nCB1
  clear nCB1
  have nCB2 := Aside0.mk (C_but1 CB2.out hbz (HS.out.blk 2 rfl) (noInt_A _ _ _ _ _ _ _))
  clear CB2
  have CB2 := nCB2
  clear nCB2
  have nS : Aside0 (Sx w wz7 [(.blk gV #[.bool a, .slice Aa1 la1.length ca1, .slice Aa2 la2.length ca2, .bool b, .slice Ab1 lb1.length cb1, .slice Ab2 lb2.length cb2] 28), (.blk gR #[.bool false, .slice none 0 0, .slice none 0 0] 28), (.blk gB #[.bool b, .slice Bs M1.length ds, .slice Bd M2.length dd] 28), (.blk gK #[.bool a, .slice As L1.length cs, .slice Ad L2.length cd] 28)]) := Aside0.mk (HS.out.put 2 rfl hxz hbz)
  clear HS hxz hbz
  have HS := nS
  clear nS
  refine hK.out _ _ ?_
  clear hK K
  refine done_ (by kernel_rfl) ?_
  have HB0 := Aside0.mk HS.out.below
  have HGR := Aside0.mk (HS.out.get 1 rfl).2
  have HKB := Aside0.mk (HS.out.blk 3 rfl)
  have HBB := Aside0.mk (HS.out.blk 2 rfl)
  have HRB := Aside0.mk (HS.out.blk 1 rfl)
  clear HS HA HB
  have HS := Aside0.mk (Sx.start wz7)
  go_simp
  go_upto_region 5 with fail
  have nS := Aside0.mk HS.out.drew
  clear HS
  have HS := nS
  clear nS
  refine start_ (n := 5) (S := (fun w' => w'.cell? ⟨gK, 0, none⟩ = some (.bool a) ∧ w'.cell? ⟨gK, 1, none⟩ = some (.slice As L1.length cs) ∧ w'.cell? ⟨gK, 2, none⟩ = some (.slice Ad L2.length cd) ∧ w'.cell? ⟨gB, 0, none⟩ = some (.bool b) ∧ w'.cell? ⟨gB, 1, none⟩ = some (.slice Bs M1.length ds) ∧ w'.cell? ⟨gB, 2, none⟩ = some (.slice Bd M2.length dd))) (ds := []) #[false, false, false, false, false] (by kernel_rfl) rfl rfl ⟨(blk_cell (blk_below HKB.out HS.out.below) 0).trans rfl, (blk_cell (blk_below HKB.out HS.out.below) 1).trans rfl, (blk_cell (blk_below HKB.out HS.out.below) 2).trans rfl, (blk_cell (blk_below HBB.out HS.out.below) 0).trans rfl, (blk_cell (blk_below HBB.out HS.out.below) 1).trans rfl, (blk_cell (blk_below HBB.out HS.out.below) 2).trans rfl⟩ (fun hHeld => ?_)
  refine take_ (i := 0) (N := (some 31)) (v := ?_) (a' := ?_) #[true, false, false, false, false] rfl rfl (by kernel_rfl) (fun _ _ _ h => h) (Or.inl ⟨by rfl, ?_⟩) hHeld ?_ ?_
  rotate_left
  · rintro w' ⟨s0, s1, s2, s3, s4, s5⟩
    go_simp
    with_reducible rfl
  rotate_left
  · simp only [Act.put, List.setIfInBounds_toArray, List.set_cons_zero, List.set_cons_succ]
    rfl
  refine take_ (i := 2) (N := (some 33)) (v := ?_) (a' := ?_) #[true, false, true, false, false] rfl rfl (by kernel_rfl) (fun _ _ _ h => h) (Or.inl ⟨by rfl, ?_⟩) hHeld ?_ ?_
  rotate_left
  · rintro w' ⟨s0, s1, s2, s3, s4, s5⟩
    go_simp
    with_reducible rfl
  rotate_left
  · simp only [Act.put, List.setIfInBounds_toArray, List.set_cons_zero, List.set_cons_succ]
    rfl
  refine one_ (i := 1) (N := (some 32)) #[true, true, true, false, false] rfl rfl (by kernel_rfl) (by decide) (fun K hK => ?_)
  refine goes_ Try.func90 (by kernel_rfl) rfl #[.agg #[.bool a, .slice As L1.length cs, .slice Ad L2.length cd]] (by rfl) rfl rfl (by (try simp only [List.map_toArray, List.map_cons, List.map_nil]); first | done | rfl) ?_
  with_reducible refine (impl_Array_rank.calls a As cs L1 Ad cd L2 (L1.length : Int) _ (Kd.C_below CA1.out HS.out.below) KA1.out (Kd.C_below CA2.out HS.out.below) KA2.out rfl).mono ?_
  rintro e v1 ⟨rfl, hb1⟩
  have nS : Aside0 (Sx wz7 v1 []) := Aside0.mk (HS.out.step hb1)
  clear HS hb1
  have HS := nS
  clear nS
  refine ⟨_, rfl, ?_⟩
  refine hK.out _ _ ⟨(blk_cell (blk_below HKB.out HS.out.below) 0).trans rfl, (blk_cell (blk_below HKB.out HS.out.below) 1).trans rfl, (blk_cell (blk_below HKB.out HS.out.below) 2).trans rfl, (blk_cell (blk_below HBB.out HS.out.below) 0).trans rfl, (blk_cell (blk_below HBB.out HS.out.below) 1).trans rfl, (blk_cell (blk_below HBB.out HS.out.below) 2).trans rfl⟩ (fun hHeld => ?_)
  clear hK K
  refine norm_ (a' := ?_) ?_ ?_
  rotate_left
  · show Act.put _ (some 32) _ = _
    simp only [Act.put, List.setIfInBounds_toArray, List.set_cons_zero, List.set_cons_succ]
    rfl
  refine one_ (i := 3) (N := (some 34)) #[true, true, true, true, false] rfl rfl (by kernel_rfl) (by decide) (fun K hK => ?_)
  refine goes_ Try.func90 (by kernel_rfl) rfl #[.agg #[.bool b, .slice Bs M1.length ds, .slice Bd M2.length dd]] (by rfl) rfl rfl (by (try simp only [List.map_toArray, List.map_cons, List.map_nil]); first | done | rfl) ?_
  with_reducible refine (impl_Array_rank.calls b Bs ds M1 Bd dd M2 (M1.length : Int) _ (Kd.C_below CB1.out HS.out.below) KB1.out (Kd.C_below CB2.out HS.out.below) KB2.out rfl).mono ?_
  rintro e v2 ⟨rfl, hb2⟩
  have nS : Aside0 (Sx wz7 v2 []) := Aside0.mk (HS.out.step hb2)
  clear HS hb2
  have HS := nS
  clear nS
  refine ⟨_, rfl, ?_⟩
  refine hK.out _ _ ⟨(blk_cell (blk_below HKB.out HS.out.below) 0).trans rfl, (blk_cell (blk_below HKB.out HS.out.below) 1).trans rfl, (blk_cell (blk_below HKB.out HS.out.below) 2).trans rfl, (blk_cell (blk_below HBB.out HS.out.below) 0).trans rfl, (blk_cell (blk_below HBB.out HS.out.below) 1).trans rfl, (blk_cell (blk_below HBB.out HS.out.below) 2).trans rfl⟩ (fun hHeld => ?_)
  clear hK K
  refine norm_ (a' := ?_) ?_ ?_
  rotate_left
  · show Act.put _ (some 34) _ = _
    simp only [Act.put, List.setIfInBounds_toArray, List.set_cons_zero, List.set_cons_succ]
    rfl
  refine pure_ (i := 4) (N := (some 35)) (v := ?_) (a' := ?_) #[true, true, true, true, true] rfl rfl (by kernel_rfl) (fun _ _ _ h => h) (Or.inl ⟨by rfl, ?_⟩) ?_ ?_
  rotate_left
  · intro w'
    go_simp
    with_reducible rfl
  rotate_left
  · simp only [Act.put, List.setIfInBounds_toArray, List.set_cons_zero, List.set_cons_succ]
    rfl
  refine done_ (by kernel_rfl) ?_
  go_wp2_with (first | ((with_reducible refine gate_store rfl ?_); refine store_named rfl 28 (.tmp 4) (.tmp 36) rfl gR #[.bool false, .slice none 0 0, .slice none 0 0] rfl rfl 28 #[.bool false, .slice none 0 0, .slice none 0 0] (blk_below HRB.out HS.out.below) (by kernel_rfl) rfl (by simp [Value.oneCell']) ?_; intro wF hxF hbF; have HXF := Aside0.mk hxF; have HBF := Aside0.mk hbF; clear hxF hbF))
  refine bodyPost_ret (results_ct rfl _ _ gR 28 #[.bool false, .slice none 0 0, .slice none 0 0] (0, 0) _ rfl HXF.out Try.underlying28 rfl (by kernel_rfl)) rfl ?_
  exact ⟨_, _, rfl, Kd.R_nil _ _ _ _ _, Kd.R_nil _ _ _ _ _, (below_step HB0.out HS.out.below).trans (HBF.out.below _ HGR.out)⟩
set_option maxHeartbeats 2000000 in
set_option maxRecDepth 100000 in
theorem cat_len (k0 : Nat) (a : Bool) (Aa1 : Option Addr) (ca1 : Nat) (la1 : List Int) (Aa2 : Option Addr) (ca2 : Nat) (la2 : List Int) (b : Bool) (Ab1 : Option Addr) (cb1 : Nat) (lb1 : List Int) (Ab2 : Option Addr) (cb2 : Nat) (lb2 : List Int) (w : World) (ha1 : Kd.C (Kd.int .i64) w Aa1 la1.length la1) (ka1 : la1.length ≤ ca1) (ha2 : Kd.C (Kd.int .i64) w Aa2 la2.length la2) (ka2 : la2.length ≤ ca2) (hb1 : Kd.C (Kd.int .i64) w Ab1 lb1.length lb1) (kb1 : lb1.length ≤ cb1) (hb2 : Kd.C (Kd.int .i64) w Ab2 lb2.length lb2) (kb2 : lb2.length ≤ cb2) (hv : impl_valid.f k0 [⟨a, la1, la2⟩, ⟨b, lb1, lb2⟩] = some 0) (L1 L2 M1 M2 : List Int) (hA : BesOk #[.agg #[.bool a, .slice Aa1 la1.length ca1, .slice Aa2 la2.length ca2], .agg #[.bool b, .slice Ab1 lb1.length cb1, .slice Ab2 lb2.length cb2]] a L1 L2 w) (hB : BesOk #[.agg #[.bool b, .slice Ab1 lb1.length cb1, .slice Ab2 lb2.length cb2], .agg #[.bool a, .slice Aa1 la1.length ca1, .slice Aa2 la2.length ca2]] b M1 M2 w) (heq : L1.length = M1.length) (P1 Q1 : List Int) (hwa : impl_Array_without.f a L1 L2 false = some P1) (hwb : impl_Array_without.f b M1 M2 false = some Q1) (k2 : Nat) (hq : slices_Equal_int_int.f k2 P1 Q1 = some false)  :
    Calls Try.prog 38 #[.agg #[.bool a, .slice Aa1 la1.length ca1, .slice Aa2 la2.length ca2], .agg #[.bool b, .slice Ab1 lb1.length cb1, .slice Ab2 lb2.length cb2]] w fun e w' => ∃ v1_ v2_ : Value, e = .returned (.tuple #[.agg #[.bool false, v1_, v2_], .int .i64 5]) ∧ Kd.R (Kd.int .i64) 3 w' w.heap.size (fun k_ => some k_ ≠ (v2_ : Value).ownBlock) v1_ [] ∧ Kd.R (Kd.int .i64) 3 w' w.heap.size (fun k_ => some k_ ≠ (v1_ : Value).ownBlock) v2_ [] ∧ Below w.heap.size w w' := by
  have Ha1 := Aside0.mk ha1
  have Ka1 := Aside0.mk ka1
  clear ha1 ka1
  have Ha2 := Aside0.mk ha2
  have Ka2 := Aside0.mk ka2
  clear ha2 ka2
  have Hb1 := Aside0.mk hb1
  have Kb1 := Aside0.mk kb1
  clear hb1 kb1
  have Hb2 := Aside0.mk hb2
  have Kb2 := Aside0.mk kb2
  clear hb2 kb2
  have HV := Aside0.mk hv
  clear hv
  have HA := Aside0.mk hA
  have HB := Aside0.mk hB
  clear hA hB
  have d0 : ((L1.length : Int) == (M1.length : Int)) = true := beq_iff_eq.mpr (by omega)
  have d1 : ((L1.length : Int) != (M1.length : Int)) = false := by rw [bne, d0]; rfl
  have HLM := Aside0.mk heq
  have HWA := Aside0.mk hwa
  have HWB := Aside0.mk hwb
  clear heq hwa hwb
  have HEQ := Aside0.mk hq
  clear hq
  have HS := Aside0.mk (Sx.start w)
  go_enter Try.func38, Try.ntmps38
  go_upto_region 4 with (first | ((with_reducible refine gate_dst (N := 2) rfl ?_); refine box_event ?hg (N := 2) ?hd (cs := #[.bool a, .slice Aa1 la1.length ca1, .slice Aa2 la2.length ca2]) (t := 28) ?hr ?_; (case hd => rfl); (case hg => rfl); (case hr => first | (go_simp; done) | (go_simp; rfl)); intro gK hg1 w1 hx1 hb1; have nS : Aside0 (Sx w w1 [(.blk gK #[.bool a, .slice Aa1 la1.length ca1, .slice Aa2 la2.length ca2] 28)]) := Aside0.mk (HS.out.box hg1 hx1 hb1); clear HS; have HS := nS; clear nS hg1 hx1 hb1) | ((with_reducible refine gate_dst (N := 3) rfl ?_); refine box_event ?hg (N := 3) ?hd (cs := #[.bool b, .slice Ab1 lb1.length cb1, .slice Ab2 lb2.length cb2]) (t := 28) ?hr ?_; (case hd => rfl); (case hg => rfl); (case hr => first | (go_simp; done) | (go_simp; rfl)); intro gB hg2 w2 hx2 hb2; have nS : Aside0 (Sx w w2 [(.blk gB #[.bool b, .slice Ab1 lb1.length cb1, .slice Ab2 lb2.length cb2] 28), (.blk gK #[.bool a, .slice Aa1 la1.length ca1, .slice Aa2 la2.length ca2] 28)]) := Aside0.mk (HS.out.box hg2 hx2 hb2); clear HS; have HS := nS; clear nS hg2 hx2 hb2) | ((with_reducible refine gate_dst (N := 4) rfl ?_); refine box_event ?hg (N := 4) ?hd (cs := #[.bool false, .slice none 0 0, .slice none 0 0]) (t := 28) ?hr ?_; (case hd => rfl); (case hg => rfl); (case hr => first | (go_simp; done) | (go_simp; rfl)); intro gR hg3 w3 hx3 hb3; have nS : Aside0 (Sx w w3 [(.blk gR #[.bool false, .slice none 0 0, .slice none 0 0] 28), (.blk gB #[.bool b, .slice Ab1 lb1.length cb1, .slice Ab2 lb2.length cb2] 28), (.blk gK #[.bool a, .slice Aa1 la1.length ca1, .slice Aa2 la2.length ca2] 28)]) := Aside0.mk (HS.out.box hg3 hx3 hb3); clear HS; have HS := nS; clear nS hg3 hx3 hb3) | ((with_reducible refine gate_dst (N := 17) rfl ?_); refine wpList_load_row rfl 28 (.tmp 2) rfl gK rfl 28 #[.bool a, .slice Aa1 la1.length ca1, .slice Aa2 la2.length ca2] (0, 0) _ (HS.out.blk 2 rfl) Try.underlying28 rfl (by kernel_rfl) ?_) | ((with_reducible refine gate_dst (N := 18) rfl ?_); refine wpList_load_row rfl 28 (.tmp 3) rfl gB rfl 28 #[.bool b, .slice Ab1 lb1.length cb1, .slice Ab2 lb2.length cb2] (0, 0) _ (HS.out.blk 1 rfl) Try.underlying28 rfl (by kernel_rfl) ?_) | ((with_reducible refine gate_dst (N := 19) rfl ?_); refine lit_event ?hg (N := 19) ?hd (cs := #[.bool a, .slice Aa1 la1.length ca1, .slice Aa2 la2.length ca2, .bool b, .slice Ab1 lb1.length cb1, .slice Ab2 lb2.length cb2]) (t := 28) (n := 2) ?hr ?_; (case hd => rfl); (case hg => rfl); (case hr => first | (go_simp; done) | (go_simp; rfl)); intro gV hg4 w4 hx4 hb4; have nS : Aside0 (Sx w w4 [(.blk gV #[.bool a, .slice Aa1 la1.length ca1, .slice Aa2 la2.length ca2, .bool b, .slice Ab1 lb1.length cb1, .slice Ab2 lb2.length cb2] 28), (.blk gR #[.bool false, .slice none 0 0, .slice none 0 0] 28), (.blk gB #[.bool b, .slice Ab1 lb1.length cb1, .slice Ab2 lb2.length cb2] 28), (.blk gK #[.bool a, .slice Aa1 la1.length ca1, .slice Aa2 la2.length ca2] 28)]) := Aside0.mk (HS.out.box hg4 hx4 hb4); clear HS; have HS := nS; clear nS hg4 hx4 hb4) | (go_at_call 58; refine (impl_valid.calls k0 _ 2 [⟨a, la1, la2⟩, ⟨b, lb1, lb2⟩] 0 _ (pair_C (HS.out.blk 0 rfl) (Kd.C_below Ha1.out HS.out.below) Ka1.out (Kd.C_below Ha2.out HS.out.below) Ka2.out (Kd.C_below Hb1.out HS.out.below) Kb1.out (Kd.C_below Hb2.out HS.out.below) Kb2.out) (Nat.le_refl _) HV.out).mono ?_; rintro e w5 ⟨rfl, hb5⟩; have nS : Aside0 (Sx w w5 [(.blk gV #[.bool a, .slice Aa1 la1.length ca1, .slice Aa2 la2.length ca2, .bool b, .slice Ab1 lb1.length cb1, .slice Ab2 lb2.length cb2] 28), (.blk gR #[.bool false, .slice none 0 0, .slice none 0 0] 28), (.blk gB #[.bool b, .slice Ab1 lb1.length cb1, .slice Ab2 lb2.length cb2] 28), (.blk gK #[.bool a, .slice Aa1 la1.length ca1, .slice Aa2 la2.length ca2] 28)]) := Aside0.mk (HS.out.step hb5); clear HS; have HS := nS; clear nS hb5))
  have nS := Aside0.mk HS.out.drew
  clear HS
  have HS := nS
  clear nS
  refine start_ (n := 8) (S := (fun w' => w'.cell? ⟨gK, 0, none⟩ = some (.bool a) ∧ w'.cell? ⟨gK, 1, none⟩ = some (.slice Aa1 la1.length ca1) ∧ w'.cell? ⟨gK, 2, none⟩ = some (.slice Aa2 la2.length ca2) ∧ w'.cell? ⟨gB, 0, none⟩ = some (.bool b) ∧ w'.cell? ⟨gB, 1, none⟩ = some (.slice Ab1 lb1.length cb1) ∧ w'.cell? ⟨gB, 2, none⟩ = some (.slice Ab2 lb2.length cb2))) (ds := [6, 7]) #[false, false, false, false, false, false, false, false] (by kernel_rfl) rfl rfl ⟨(blk_cell (HS.out.blk 3 rfl) 0).trans rfl, (blk_cell (HS.out.blk 3 rfl) 1).trans rfl, (blk_cell (HS.out.blk 3 rfl) 2).trans rfl, (blk_cell (HS.out.blk 2 rfl) 0).trans rfl, (blk_cell (HS.out.blk 2 rfl) 1).trans rfl, (blk_cell (HS.out.blk 2 rfl) 2).trans rfl⟩ (fun hHeld => ?_)
  refine take_ (i := 0) (N := (some 25)) (v := ?_) (a' := ?_) #[true, false, false, false, false, false, false, false] rfl rfl (by kernel_rfl) (fun _ _ _ h => h) (Or.inl ⟨by rfl, ?_⟩) hHeld ?_ ?_
  rotate_left
  · rintro w' ⟨s0, s1, s2, s3, s4, s5⟩
    go_simp
    with_reducible rfl
  rotate_left
  · simp only [Act.put, List.setIfInBounds_toArray, List.set_cons_zero, List.set_cons_succ]
    rfl
  refine take_ (i := 1) (N := (some 26)) (v := ?_) (a' := ?_) #[true, true, false, false, false, false, false, false] rfl rfl (by kernel_rfl) (fun _ _ _ h => h) (Or.inl ⟨by rfl, ?_⟩) hHeld ?_ ?_
  rotate_left
  · rintro w' ⟨s0, s1, s2, s3, s4, s5⟩
    go_simp
    with_reducible rfl
  rotate_left
  · simp only [Act.put, List.setIfInBounds_toArray, List.set_cons_zero, List.set_cons_succ]
    rfl
  refine take_ (i := 3) (N := (some 28)) (v := ?_) (a' := ?_) #[true, true, false, true, false, false, false, false] rfl rfl (by kernel_rfl) (fun _ _ _ h => h) (Or.inl ⟨by rfl, ?_⟩) hHeld ?_ ?_
  rotate_left
  · rintro w' ⟨s0, s1, s2, s3, s4, s5⟩
    go_simp
    with_reducible rfl
  rotate_left
  · simp only [Act.put, List.setIfInBounds_toArray, List.set_cons_zero, List.set_cons_succ]
    rfl
  refine take_ (i := 4) (N := (some 29)) (v := ?_) (a' := ?_) #[true, true, false, true, true, false, false, false] rfl rfl (by kernel_rfl) (fun _ _ _ h => h) (Or.inl ⟨by rfl, ?_⟩) hHeld ?_ ?_
  rotate_left
  · rintro w' ⟨s0, s1, s2, s3, s4, s5⟩
    go_simp
    with_reducible rfl
  rotate_left
  · simp only [Act.put, List.setIfInBounds_toArray, List.set_cons_zero, List.set_cons_succ]
    rfl
  refine one_ (i := 2) (N := (some 27)) #[true, true, true, true, true, false, false, false] rfl rfl (by kernel_rfl) (by decide) (fun K hK => ?_)
  refine goes_ Try.func89 (by kernel_rfl) rfl #[.agg #[.bool a, .slice Aa1 la1.length ca1, .slice Aa2 la2.length ca2], .agg #[.bool b, .slice Ab1 lb1.length cb1, .slice Ab2 lb2.length cb2]] (by rfl) rfl rfl (by (try simp only [List.map_toArray, List.map_cons, List.map_nil]); first | done | rfl) ?_
  with_reducible refine (HA.out.go _ HS.out.below).mono ?_
  rintro e w6 ⟨As, cs, Ad, cd, rfl, hCA1, hKA1, hCA2, hKA2, hb6⟩
  have CA1 := Aside0.mk hCA1
  have KA1 := Aside0.mk hKA1
  have CA2 := Aside0.mk hCA2
  have KA2 := Aside0.mk hKA2
  clear hCA1 hKA1 hCA2 hKA2
  have nS : Aside0 (Sx w w6 [(.blk gV #[.bool a, .slice Aa1 la1.length ca1, .slice Aa2 la2.length ca2, .bool b, .slice Ab1 lb1.length cb1, .slice Ab2 lb2.length cb2] 28), (.blk gR #[.bool false, .slice none 0 0, .slice none 0 0] 28), (.blk gB #[.bool b, .slice Ab1 lb1.length cb1, .slice Ab2 lb2.length cb2] 28), (.blk gK #[.bool a, .slice Aa1 la1.length ca1, .slice Aa2 la2.length ca2] 28)]) := Aside0.mk (HS.out.step hb6)
  clear HS hb6
  have HS := nS
  clear nS
  refine ⟨_, rfl, ?_⟩
  refine hK.out _ _ ⟨(blk_cell (HS.out.blk 3 rfl) 0).trans rfl, (blk_cell (HS.out.blk 3 rfl) 1).trans rfl, (blk_cell (HS.out.blk 3 rfl) 2).trans rfl, (blk_cell (HS.out.blk 2 rfl) 0).trans rfl, (blk_cell (HS.out.blk 2 rfl) 1).trans rfl, (blk_cell (HS.out.blk 2 rfl) 2).trans rfl⟩ (fun hHeld => ?_)
  clear hK K
  refine norm_ (a' := ?_) ?_ ?_
  rotate_left
  · show Act.put _ (some 27) _ = _
    simp only [Act.put, List.setIfInBounds_toArray, List.set_cons_zero, List.set_cons_succ]
    rfl
  refine one_ (i := 5) (N := (some 30)) #[true, true, true, true, true, true, false, false] rfl rfl (by kernel_rfl) (by decide) (fun K hK => ?_)
  refine goes_ Try.func89 (by kernel_rfl) rfl #[.agg #[.bool b, .slice Ab1 lb1.length cb1, .slice Ab2 lb2.length cb2], .agg #[.bool a, .slice Aa1 la1.length ca1, .slice Aa2 la2.length ca2]] (by rfl) rfl rfl (by (try simp only [List.map_toArray, List.map_cons, List.map_nil]); first | done | rfl) ?_
  with_reducible refine (HB.out.go _ HS.out.below).mono ?_
  rintro e w7 ⟨Bs, ds, Bd, dd, rfl, hCB1, hKB1, hCB2, hKB2, hb7⟩
  have CB1 := Aside0.mk hCB1
  have KB1 := Aside0.mk hKB1
  have CB2 := Aside0.mk hCB2
  have KB2 := Aside0.mk hKB2
  clear hCB1 hKB1 hCB2 hKB2
  have nCA1 := Aside0.mk (Kd.C_below CA1.out hb7)
  clear CA1
  have CA1 := nCA1
  clear nCA1
  have nCA2 := Aside0.mk (Kd.C_below CA2.out hb7)
  clear CA2
  have CA2 := nCA2
  clear nCA2
  have nS : Aside0 (Sx w w7 [(.blk gV #[.bool a, .slice Aa1 la1.length ca1, .slice Aa2 la2.length ca2, .bool b, .slice Ab1 lb1.length cb1, .slice Ab2 lb2.length cb2] 28), (.blk gR #[.bool false, .slice none 0 0, .slice none 0 0] 28), (.blk gB #[.bool b, .slice Ab1 lb1.length cb1, .slice Ab2 lb2.length cb2] 28), (.blk gK #[.bool a, .slice Aa1 la1.length ca1, .slice Aa2 la2.length ca2] 28)]) := Aside0.mk (HS.out.step hb7)
  clear HS hb7
  have HS := nS
  clear nS
  refine ⟨_, rfl, ?_⟩
  refine hK.out _ _ ⟨(blk_cell (HS.out.blk 3 rfl) 0).trans rfl, (blk_cell (HS.out.blk 3 rfl) 1).trans rfl, (blk_cell (HS.out.blk 3 rfl) 2).trans rfl, (blk_cell (HS.out.blk 2 rfl) 0).trans rfl, (blk_cell (HS.out.blk 2 rfl) 1).trans rfl, (blk_cell (HS.out.blk 2 rfl) 2).trans rfl⟩ (fun hHeld => ?_)
  clear hK K
  refine norm_ (a' := ?_) ?_ ?_
  rotate_left
  · show Act.put _ (some 30) _ = _
    simp only [Act.put, List.setIfInBounds_toArray, List.set_cons_zero, List.set_cons_succ]
    rfl
  refine last_ (i := 6) (N := none) #[true, true, true, true, true, true, true, false] rfl rfl (by kernel_rfl) (by decide) (fun K hK => ?_)
  refine store_named_step (by rfl) 28 (.tmp 2) (.tmp 27) rfl gK #[.bool a, .slice As L1.length cs, .slice Ad L2.length cd] rfl rfl 28 #[.bool a, .slice Aa1 la1.length ca1, .slice Aa2 la2.length ca2] (HS.out.blk 3 rfl) (by kernel_rfl) rfl (by simp [Value.oneCell']) ?_
  intro wz6 hxz hbz
  have nCA1 := Aside0.mk (C_but1 CA1.out hbz (HS.out.blk 3 rfl) (noInt_A _ _ _ _ _ _ _))
  clear CA1
  have CA1 := nCA1
  clear nCA1
  have nCA2 := Aside0.mk (C_but1 CA2.out hbz (HS.out.blk 3 rfl) (noInt_A _ _ _ _ _ _ _))
  clear CA2
  have CA2 := nCA2
  clear nCA2
  have nCB1 := Aside0.mk (C_but1 CB1.out hbz (HS.out.blk 3 rfl) (noInt_A _ _ _ _ _ _ _))
  clear CB1
  have CB1 := nCB1
  clear nCB1
  have nCB2 := Aside0.mk (C_but1 CB2.out hbz (HS.out.blk 3 rfl) (noInt_A _ _ _ _ _ _ _))
  clear CB2
  have CB2 := nCB2
  clear nCB2
  have nS : Aside0 (Sx w wz6 [(.blk gV #[.bool a, .slice Aa1 la1.length ca1, .slice Aa2 la2.length ca2, .bool b, .slice Ab1 lb1.length cb1, .slice Ab2 lb2.length cb2] 28), (.blk gR #[.bool false, .slice none 0 0, .slice none 0 0] 28), (.blk gB #[.bool b, .slice Ab1 lb1.length cb1, .slice Ab2 lb2.length cb2] 28), (.blk gK #[.bool a, .slice As L1.length cs, .slice Ad L2.length cd] 28)]) := Aside0.mk (HS.out.put 3 rfl hxz hbz)
  clear HS hxz hbz
  have HS := nS
  clear nS
  refine hK.out _ _ ?_
  clear hK K
  refine norm_ (a' := ?_) ?_ ?_
  rotate_left
  · show Act.put _ none _ = _
    simp only [Act.put, List.setIfInBounds_toArray, List.set_cons_zero, List.set_cons_succ]
    rfl
  refine last_ (i := 7) (N := none) #[true, true, true, true, true, true, true, true] rfl rfl (by kernel_rfl) (by decide) (fun K hK => ?_)
  refine store_named_step (by rfl) 28 (.tmp 3) (.tmp 30) rfl gB #[.bool b, .slice Bs M1.length ds, .slice Bd M2.length dd] rfl rfl 28 #[.bool b, .slice Ab1 lb1.length cb1, .slice Ab2 lb2.length cb2] (HS.out.blk 2 rfl) (by kernel_rfl) rfl (by simp [Value.oneCell']) ?_
  intro wz7 hxz hbz
  have nCA1 := Aside0.mk (C_but1 CA1.out hbz (HS.out.blk 2 rfl) (noInt_A _ _ _ _ _ _ _))
  clear CA1
  have CA1 := nCA1
  clear nCA1
  have nCA2 := Aside0.mk (C_but1 CA2.out hbz (HS.out.blk 2 rfl) (noInt_A _ _ _ _ _ _ _))
  clear CA2
  have CA2 := nCA2
  clear nCA2
  have nCB1 := Aside0.mk (C_but1 CB1.out hbz (HS.out.blk 2 rfl) (noInt_A _ _ _ _ _ _ _))
  clear CB1
  have CB1 := nCB1
  clear nCB1
  have nCB2 := Aside0.mk (C_but1 CB2.out hbz (HS.out.blk 2 rfl) (noInt_A _ _ _ _ _ _ _))
  clear CB2
  have CB2 := nCB2
  clear nCB2
  have nS : Aside0 (Sx w wz7 [(.blk gV #[.bool a, .slice Aa1 la1.length ca1, .slice Aa2 la2.length ca2, .bool b, .slice Ab1 lb1.length cb1, .slice Ab2 lb2.length cb2] 28), (.blk gR #[.bool false, .slice none 0 0, .slice none 0 0] 28), (.blk gB #[.bool b, .slice Bs M1.length ds, .slice Bd M2.length dd] 28), (.blk gK #[.bool a, .slice As L1.length cs, .slice Ad L2.length cd] 28)]) := Aside0.mk (HS.out.put 2 rfl hxz hbz)
  clear HS hxz hbz
  have HS := nS
  clear nS
  refine hK.out _ _ ?_
  clear hK K
  refine done_ (by kernel_rfl) ?_
  have HB0 := Aside0.mk HS.out.below
  have HGR := Aside0.mk (HS.out.get 1 rfl).2
  have HKB := Aside0.mk (HS.out.blk 3 rfl)
  have HBB := Aside0.mk (HS.out.blk 2 rfl)
  have HRB := Aside0.mk (HS.out.blk 1 rfl)
  clear HS HA HB
  have HS := Aside0.mk (Sx.start wz7)
  go_simp
  go_upto_region 5 with fail
  have nS := Aside0.mk HS.out.drew
  clear HS
  have HS := nS
  clear nS
  refine start_ (n := 5) (S := (fun w' => w'.cell? ⟨gK, 0, none⟩ = some (.bool a) ∧ w'.cell? ⟨gK, 1, none⟩ = some (.slice As L1.length cs) ∧ w'.cell? ⟨gK, 2, none⟩ = some (.slice Ad L2.length cd) ∧ w'.cell? ⟨gB, 0, none⟩ = some (.bool b) ∧ w'.cell? ⟨gB, 1, none⟩ = some (.slice Bs M1.length ds) ∧ w'.cell? ⟨gB, 2, none⟩ = some (.slice Bd M2.length dd))) (ds := []) #[false, false, false, false, false] (by kernel_rfl) rfl rfl ⟨(blk_cell (blk_below HKB.out HS.out.below) 0).trans rfl, (blk_cell (blk_below HKB.out HS.out.below) 1).trans rfl, (blk_cell (blk_below HKB.out HS.out.below) 2).trans rfl, (blk_cell (blk_below HBB.out HS.out.below) 0).trans rfl, (blk_cell (blk_below HBB.out HS.out.below) 1).trans rfl, (blk_cell (blk_below HBB.out HS.out.below) 2).trans rfl⟩ (fun hHeld => ?_)
  refine take_ (i := 0) (N := (some 31)) (v := ?_) (a' := ?_) #[true, false, false, false, false] rfl rfl (by kernel_rfl) (fun _ _ _ h => h) (Or.inl ⟨by rfl, ?_⟩) hHeld ?_ ?_
  rotate_left
  · rintro w' ⟨s0, s1, s2, s3, s4, s5⟩
    go_simp
    with_reducible rfl
  rotate_left
  · simp only [Act.put, List.setIfInBounds_toArray, List.set_cons_zero, List.set_cons_succ]
    rfl
  refine take_ (i := 2) (N := (some 33)) (v := ?_) (a' := ?_) #[true, false, true, false, false] rfl rfl (by kernel_rfl) (fun _ _ _ h => h) (Or.inl ⟨by rfl, ?_⟩) hHeld ?_ ?_
  rotate_left
  · rintro w' ⟨s0, s1, s2, s3, s4, s5⟩
    go_simp
    with_reducible rfl
  rotate_left
  · simp only [Act.put, List.setIfInBounds_toArray, List.set_cons_zero, List.set_cons_succ]
    rfl
  refine one_ (i := 1) (N := (some 32)) #[true, true, true, false, false] rfl rfl (by kernel_rfl) (by decide) (fun K hK => ?_)
  refine goes_ Try.func90 (by kernel_rfl) rfl #[.agg #[.bool a, .slice As L1.length cs, .slice Ad L2.length cd]] (by rfl) rfl rfl (by (try simp only [List.map_toArray, List.map_cons, List.map_nil]); first | done | rfl) ?_
  with_reducible refine (impl_Array_rank.calls a As cs L1 Ad cd L2 (L1.length : Int) _ (Kd.C_below CA1.out HS.out.below) KA1.out (Kd.C_below CA2.out HS.out.below) KA2.out rfl).mono ?_
  rintro e v1 ⟨rfl, hb1⟩
  have nS : Aside0 (Sx wz7 v1 []) := Aside0.mk (HS.out.step hb1)
  clear HS hb1
  have HS := nS
  clear nS
  refine ⟨_, rfl, ?_⟩
  refine hK.out _ _ ⟨(blk_cell (blk_below HKB.out HS.out.below) 0).trans rfl, (blk_cell (blk_below HKB.out HS.out.below) 1).trans rfl, (blk_cell (blk_below HKB.out HS.out.below) 2).trans rfl, (blk_cell (blk_below HBB.out HS.out.below) 0).trans rfl, (blk_cell (blk_below HBB.out HS.out.below) 1).trans rfl, (blk_cell (blk_below HBB.out HS.out.below) 2).trans rfl⟩ (fun hHeld => ?_)
  clear hK K
  refine norm_ (a' := ?_) ?_ ?_
  rotate_left
  · show Act.put _ (some 32) _ = _
    simp only [Act.put, List.setIfInBounds_toArray, List.set_cons_zero, List.set_cons_succ]
    rfl
  refine one_ (i := 3) (N := (some 34)) #[true, true, true, true, false] rfl rfl (by kernel_rfl) (by decide) (fun K hK => ?_)
  refine goes_ Try.func90 (by kernel_rfl) rfl #[.agg #[.bool b, .slice Bs M1.length ds, .slice Bd M2.length dd]] (by rfl) rfl rfl (by (try simp only [List.map_toArray, List.map_cons, List.map_nil]); first | done | rfl) ?_
  with_reducible refine (impl_Array_rank.calls b Bs ds M1 Bd dd M2 (M1.length : Int) _ (Kd.C_below CB1.out HS.out.below) KB1.out (Kd.C_below CB2.out HS.out.below) KB2.out rfl).mono ?_
  rintro e v2 ⟨rfl, hb2⟩
  have nS : Aside0 (Sx wz7 v2 []) := Aside0.mk (HS.out.step hb2)
  clear HS hb2
  have HS := nS
  clear nS
  refine ⟨_, rfl, ?_⟩
  refine hK.out _ _ ⟨(blk_cell (blk_below HKB.out HS.out.below) 0).trans rfl, (blk_cell (blk_below HKB.out HS.out.below) 1).trans rfl, (blk_cell (blk_below HKB.out HS.out.below) 2).trans rfl, (blk_cell (blk_below HBB.out HS.out.below) 0).trans rfl, (blk_cell (blk_below HBB.out HS.out.below) 1).trans rfl, (blk_cell (blk_below HBB.out HS.out.below) 2).trans rfl⟩ (fun hHeld => ?_)
  clear hK K
  refine norm_ (a' := ?_) ?_ ?_
  rotate_left
  · show Act.put _ (some 34) _ = _
    simp only [Act.put, List.setIfInBounds_toArray, List.set_cons_zero, List.set_cons_succ]
    rfl
  refine pure_ (i := 4) (N := (some 35)) (v := ?_) (a' := ?_) #[true, true, true, true, true] rfl rfl (by kernel_rfl) (fun _ _ _ h => h) (Or.inl ⟨by rfl, ?_⟩) ?_ ?_
  rotate_left
  · intro w'
    go_simp
    with_reducible rfl
  rotate_left
  · simp only [Act.put, List.setIfInBounds_toArray, List.set_cons_zero, List.set_cons_succ]
    rfl
  refine done_ (by kernel_rfl) ?_
  go_upto_region 7 with fail
  have nS := Aside0.mk HS.out.drew
  clear HS
  have HS := nS
  clear nS
  refine start_ (n := 6) (S := (fun w' => w'.cell? ⟨gK, 0, none⟩ = some (.bool a) ∧ w'.cell? ⟨gK, 1, none⟩ = some (.slice As L1.length cs) ∧ w'.cell? ⟨gK, 2, none⟩ = some (.slice Ad L2.length cd) ∧ w'.cell? ⟨gB, 0, none⟩ = some (.bool b) ∧ w'.cell? ⟨gB, 1, none⟩ = some (.slice Bs M1.length ds) ∧ w'.cell? ⟨gB, 2, none⟩ = some (.slice Bd M2.length dd))) (ds := []) #[false, false, false, false, false, false] (by kernel_rfl) rfl rfl ⟨(blk_cell (blk_below HKB.out HS.out.below) 0).trans rfl, (blk_cell (blk_below HKB.out HS.out.below) 1).trans rfl, (blk_cell (blk_below HKB.out HS.out.below) 2).trans rfl, (blk_cell (blk_below HBB.out HS.out.below) 0).trans rfl, (blk_cell (blk_below HBB.out HS.out.below) 1).trans rfl, (blk_cell (blk_below HBB.out HS.out.below) 2).trans rfl⟩ (fun hHeld => ?_)
  refine take_ (i := 0) (N := (some 37)) (v := ?_) (a' := ?_) #[true, false, false, false, false, false] rfl rfl (by kernel_rfl) (fun _ _ _ h => h) (Or.inl ⟨by rfl, ?_⟩) hHeld ?_ ?_
  rotate_left
  · rintro w' ⟨s0, s1, s2, s3, s4, s5⟩
    go_simp
    with_reducible rfl
  rotate_left
  · simp only [Act.put, List.setIfInBounds_toArray, List.set_cons_zero, List.set_cons_succ]
    rfl
  refine take_ (i := 2) (N := (some 39)) (v := ?_) (a' := ?_) #[true, false, true, false, false, false] rfl rfl (by kernel_rfl) (fun _ _ _ h => h) (Or.inl ⟨by rfl, ?_⟩) hHeld ?_ ?_
  rotate_left
  · rintro w' ⟨s0, s1, s2, s3, s4, s5⟩
    go_simp
    with_reducible rfl
  rotate_left
  · simp only [Act.put, List.setIfInBounds_toArray, List.set_cons_zero, List.set_cons_succ]
    rfl
  refine one_ (i := 1) (N := (some 38)) #[true, true, true, false, false, false] rfl rfl (by kernel_rfl) (by decide) (fun K hK => ?_)
  refine goes_ Try.func92 (by kernel_rfl) rfl #[.agg #[.bool a, .slice As L1.length cs, .slice Ad L2.length cd], .bool false] (by rfl) rfl rfl (by (try simp only [List.map_toArray, List.map_cons, List.map_nil]); first | done | rfl) ?_
  with_reducible refine (impl_Array_without.calls a As cs L1 Ad cd L2 false P1 _ (Kd.C_below CA1.out HS.out.below) KA1.out (Kd.C_below CA2.out HS.out.below) KA2.out HWA.out).mono ?_
  rintro e v3 ⟨v_, rfl, hr3, hb3⟩
  obtain ⟨Ps, pc, hv_⟩ := Kd.R_slice hr3
  subst hv_
  have nS : Aside0 (Sx wz7 v3 [(.row (.slice Ps P1.length pc) P1)]) := Aside0.mk (HS.out.addRow hb3 hr3)
  clear HS hb3
  have HS := nS
  clear nS
  refine ⟨_, rfl, ?_⟩
  refine hK.out _ _ ⟨(blk_cell (blk_below HKB.out HS.out.below) 0).trans rfl, (blk_cell (blk_below HKB.out HS.out.below) 1).trans rfl, (blk_cell (blk_below HKB.out HS.out.below) 2).trans rfl, (blk_cell (blk_below HBB.out HS.out.below) 0).trans rfl, (blk_cell (blk_below HBB.out HS.out.below) 1).trans rfl, (blk_cell (blk_below HBB.out HS.out.below) 2).trans rfl⟩ (fun hHeld => ?_)
  clear hK K
  refine norm_ (a' := ?_) ?_ ?_
  rotate_left
  · show Act.put _ (some 38) _ = _
    simp only [Act.put, List.setIfInBounds_toArray, List.set_cons_zero, List.set_cons_succ]
    rfl
  refine one_ (i := 3) (N := (some 40)) #[true, true, true, true, false, false] rfl rfl (by kernel_rfl) (by decide) (fun K hK => ?_)
  refine goes_ Try.func92 (by kernel_rfl) rfl #[.agg #[.bool b, .slice Bs M1.length ds, .slice Bd M2.length dd], .bool false] (by rfl) rfl rfl (by (try simp only [List.map_toArray, List.map_cons, List.map_nil]); first | done | rfl) ?_
  with_reducible refine (impl_Array_without.calls b Bs ds M1 Bd dd M2 false Q1 _ (Kd.C_below CB1.out HS.out.below) KB1.out (Kd.C_below CB2.out HS.out.below) KB2.out HWB.out).mono ?_
  rintro e v4 ⟨v_, rfl, hr4, hb4⟩
  obtain ⟨Qs, qc, hv_⟩ := Kd.R_slice hr4
  subst hv_
  have nS : Aside0 (Sx wz7 v4 [(.row (.slice Qs Q1.length qc) Q1), (.row (.slice Ps P1.length pc) P1)]) := Aside0.mk (HS.out.addRow hb4 hr4)
  clear HS hb4
  have HS := nS
  clear nS
  refine ⟨_, rfl, ?_⟩
  refine hK.out _ _ ⟨(blk_cell (blk_below HKB.out HS.out.below) 0).trans rfl, (blk_cell (blk_below HKB.out HS.out.below) 1).trans rfl, (blk_cell (blk_below HKB.out HS.out.below) 2).trans rfl, (blk_cell (blk_below HBB.out HS.out.below) 0).trans rfl, (blk_cell (blk_below HBB.out HS.out.below) 1).trans rfl, (blk_cell (blk_below HBB.out HS.out.below) 2).trans rfl⟩ (fun hHeld => ?_)
  clear hK K
  refine norm_ (a' := ?_) ?_ ?_
  rotate_left
  · show Act.put _ (some 40) _ = _
    simp only [Act.put, List.setIfInBounds_toArray, List.set_cons_zero, List.set_cons_succ]
    rfl
  refine one_ (i := 4) (N := (some 41)) #[true, true, true, true, true, false] rfl rfl (by kernel_rfl) (by decide) (fun K hK => ?_)
  refine goes_ Try.func91 (by kernel_rfl) rfl #[.slice Ps P1.length pc, .slice Qs Q1.length qc] (by rfl) rfl rfl (by (try simp only [List.map_toArray, List.map_cons, List.map_nil]); first | done | rfl) ?_
  with_reducible refine (slices_Equal_int_int.calls k2 Ps pc P1 Qs qc Q1 false _ (HS.out.C 1 rfl) (HS.out.cap 1 rfl) (HS.out.C 0 rfl) (HS.out.cap 0 rfl) HEQ.out).mono ?_
  rintro e v5 ⟨rfl, hd_⟩
  have hb5 := Drawn0.below hd_
  clear hd_
  have nS : Aside0 (Sx wz7 v5 [(.row (.slice Qs Q1.length qc) Q1), (.row (.slice Ps P1.length pc) P1)]) := Aside0.mk (HS.out.step hb5)
  clear HS hb5
  have HS := nS
  clear nS
  refine ⟨_, rfl, ?_⟩
  refine hK.out _ _ ⟨(blk_cell (blk_below HKB.out HS.out.below) 0).trans rfl, (blk_cell (blk_below HKB.out HS.out.below) 1).trans rfl, (blk_cell (blk_below HKB.out HS.out.below) 2).trans rfl, (blk_cell (blk_below HBB.out HS.out.below) 0).trans rfl, (blk_cell (blk_below HBB.out HS.out.below) 1).trans rfl, (blk_cell (blk_below HBB.out HS.out.below) 2).trans rfl⟩ (fun hHeld => ?_)
  clear hK K
  refine norm_ (a' := ?_) ?_ ?_
  rotate_left
  · show Act.put _ (some 41) _ = _
    simp only [Act.put, List.setIfInBounds_toArray, List.set_cons_zero, List.set_cons_succ]
    rfl
  refine pure_ (i := 5) (N := (some 42)) (v := ?_) (a' := ?_) #[true, true, true, true, true, true] rfl rfl (by kernel_rfl) (fun _ _ _ h => h) (Or.inl ⟨by rfl, ?_⟩) ?_ ?_
  rotate_left
  · intro w'
    go_simp
    with_reducible rfl
  rotate_left
  · simp only [Act.put, List.setIfInBounds_toArray, List.set_cons_zero, List.set_cons_succ]
    rfl
  refine done_ (by kernel_rfl) ?_
  go_wp2_with (first | ((with_reducible refine gate_store rfl ?_); refine store_named rfl 28 (.tmp 4) (.tmp 43) rfl gR #[.bool false, .slice none 0 0, .slice none 0 0] rfl rfl 28 #[.bool false, .slice none 0 0, .slice none 0 0] (blk_below HRB.out HS.out.below) (by kernel_rfl) rfl (by simp [Value.oneCell']) ?_; intro wF hxF hbF; have HXF := Aside0.mk hxF; have HBF := Aside0.mk hbF; clear hxF hbF))
  refine bodyPost_ret (results_ct rfl _ _ gR 28 #[.bool false, .slice none 0 0, .slice none 0 0] (0, 0) _ rfl HXF.out Try.underlying28 rfl (by kernel_rfl)) rfl ?_
  exact ⟨_, _, rfl, Kd.R_nil _ _ _ _ _, Kd.R_nil _ _ _ _ _, (below_step HB0.out HS.out.below).trans (HBF.out.below _ HGR.out)⟩
set_option maxHeartbeats 2000000 in
set_option maxRecDepth 100000 in
theorem cat_char (k0 : Nat) (a : Bool) (Aa1 : Option Addr) (ca1 : Nat) (la1 : List Int) (Aa2 : Option Addr) (ca2 : Nat) (la2 : List Int) (b : Bool) (Ab1 : Option Addr) (cb1 : Nat) (lb1 : List Int) (Ab2 : Option Addr) (cb2 : Nat) (lb2 : List Int) (w : World) (ha1 : Kd.C (Kd.int .i64) w Aa1 la1.length la1) (ka1 : la1.length ≤ ca1) (ha2 : Kd.C (Kd.int .i64) w Aa2 la2.length la2) (ka2 : la2.length ≤ ca2) (hb1 : Kd.C (Kd.int .i64) w Ab1 lb1.length lb1) (kb1 : lb1.length ≤ cb1) (hb2 : Kd.C (Kd.int .i64) w Ab2 lb2.length lb2) (kb2 : lb2.length ≤ cb2) (hv : impl_valid.f k0 [⟨a, la1, la2⟩, ⟨b, lb1, lb2⟩] = some 0) (L1 L2 M1 M2 : List Int) (hA : BesOk #[.agg #[.bool a, .slice Aa1 la1.length ca1, .slice Aa2 la2.length ca2], .agg #[.bool b, .slice Ab1 lb1.length cb1, .slice Ab2 lb2.length cb2]] a L1 L2 w) (hB : BesOk #[.agg #[.bool b, .slice Ab1 lb1.length cb1, .slice Ab2 lb2.length cb2], .agg #[.bool a, .slice Aa1 la1.length ca1, .slice Aa2 la2.length ca2]] b M1 M2 w) (heq : L1.length = M1.length) (P1 Q1 : List Int) (hwa : impl_Array_without.f a L1 L2 false = some P1) (hwb : impl_Array_without.f b M1 M2 false = some Q1) (k2 : Nat) (hq : slices_Equal_int_int.f k2 P1 Q1 = some true) (hab : a ≠ b) (hl2 : 0 < L2.length) (hm2 : 0 < M2.length) :
    Calls Try.prog 38 #[.agg #[.bool a, .slice Aa1 la1.length ca1, .slice Aa2 la2.length ca2], .agg #[.bool b, .slice Ab1 lb1.length cb1, .slice Ab2 lb2.length cb2]] w fun e w' => ∃ v1_ v2_ : Value, e = .returned (.tuple #[.agg #[.bool false, v1_, v2_], .int .i64 3]) ∧ Kd.R (Kd.int .i64) 3 w' w.heap.size (fun k_ => some k_ ≠ (v2_ : Value).ownBlock) v1_ [] ∧ Kd.R (Kd.int .i64) 3 w' w.heap.size (fun k_ => some k_ ≠ (v1_ : Value).ownBlock) v2_ [] ∧ Below w.heap.size w w' := by
  have Ha1 := Aside0.mk ha1
  have Ka1 := Aside0.mk ka1
  clear ha1 ka1
  have Ha2 := Aside0.mk ha2
  have Ka2 := Aside0.mk ka2
  clear ha2 ka2
  have Hb1 := Aside0.mk hb1
  have Kb1 := Aside0.mk kb1
  clear hb1 kb1
  have Hb2 := Aside0.mk hb2
  have Kb2 := Aside0.mk kb2
  clear hb2 kb2
  have HV := Aside0.mk hv
  clear hv
  have HA := Aside0.mk hA
  have HB := Aside0.mk hB
  clear hA hB
  have d0 : ((L1.length : Int) == (M1.length : Int)) = true := beq_iff_eq.mpr (by omega)
  have d1 : ((L1.length : Int) != (M1.length : Int)) = false := by rw [bne, d0]; rfl
  have HLM := Aside0.mk heq
  have HWA := Aside0.mk hwa
  have HWB := Aside0.mk hwb
  clear heq hwa hwb
  have HEQ := Aside0.mk hq
  clear hq
  have e0 : (a == b) = false := beq_eq_false_iff_ne.mpr hab
  have e1 : (a != b) = true := bne_iff_ne.mpr hab
  have e2 : decide ((L2.length : Int) > 0) = true := decide_eq_true (by omega)
  have e3 : decide ((M2.length : Int) > 0) = true := decide_eq_true (by omega)
  have e4 : (0 : Int) < (L2.length : Int) := by omega
  have e5 : (0 : Int) < (M2.length : Int) := by omega
  clear hl2 hm2
  have HS := Aside0.mk (Sx.start w)
  go_enter Try.func38, Try.ntmps38
  go_upto_region 4 with (first | ((with_reducible refine gate_dst (N := 2) rfl ?_); refine box_event ?hg (N := 2) ?hd (cs := #[.bool a, .slice Aa1 la1.length ca1, .slice Aa2 la2.length ca2]) (t := 28) ?hr ?_; (case hd => rfl); (case hg => rfl); (case hr => first | (go_simp; done) | (go_simp; rfl)); intro gK hg1 w1 hx1 hb1; have nS : Aside0 (Sx w w1 [(.blk gK #[.bool a, .slice Aa1 la1.length ca1, .slice Aa2 la2.length ca2] 28)]) := Aside0.mk (HS.out.box hg1 hx1 hb1); clear HS; have HS := nS; clear nS hg1 hx1 hb1) | ((with_reducible refine gate_dst (N := 3) rfl ?_); refine box_event ?hg (N := 3) ?hd (cs := #[.bool b, .slice Ab1 lb1.length cb1, .slice Ab2 lb2.length cb2]) (t := 28) ?hr ?_; (case hd => rfl); (case hg => rfl); (case hr => first | (go_simp; done) | (go_simp; rfl)); intro gB hg2 w2 hx2 hb2; have nS : Aside0 (Sx w w2 [(.blk gB #[.bool b, .slice Ab1 lb1.length cb1, .slice Ab2 lb2.length cb2] 28), (.blk gK #[.bool a, .slice Aa1 la1.length ca1, .slice Aa2 la2.length ca2] 28)]) := Aside0.mk (HS.out.box hg2 hx2 hb2); clear HS; have HS := nS; clear nS hg2 hx2 hb2) | ((with_reducible refine gate_dst (N := 4) rfl ?_); refine box_event ?hg (N := 4) ?hd (cs := #[.bool false, .slice none 0 0, .slice none 0 0]) (t := 28) ?hr ?_; (case hd => rfl); (case hg => rfl); (case hr => first | (go_simp; done) | (go_simp; rfl)); intro gR hg3 w3 hx3 hb3; have nS : Aside0 (Sx w w3 [(.blk gR #[.bool false, .slice none 0 0, .slice none 0 0] 28), (.blk gB #[.bool b, .slice Ab1 lb1.length cb1, .slice Ab2 lb2.length cb2] 28), (.blk gK #[.bool a, .slice Aa1 la1.length ca1, .slice Aa2 la2.length ca2] 28)]) := Aside0.mk (HS.out.box hg3 hx3 hb3); clear HS; have HS := nS; clear nS hg3 hx3 hb3) | ((with_reducible refine gate_dst (N := 17) rfl ?_); refine wpList_load_row rfl 28 (.tmp 2) rfl gK rfl 28 #[.bool a, .slice Aa1 la1.length ca1, .slice Aa2 la2.length ca2] (0, 0) _ (HS.out.blk 2 rfl) Try.underlying28 rfl (by kernel_rfl) ?_) | ((with_reducible refine gate_dst (N := 18) rfl ?_); refine wpList_load_row rfl 28 (.tmp 3) rfl gB rfl 28 #[.bool b, .slice Ab1 lb1.length cb1, .slice Ab2 lb2.length cb2] (0, 0) _ (HS.out.blk 1 rfl) Try.underlying28 rfl (by kernel_rfl) ?_) | ((with_reducible refine gate_dst (N := 19) rfl ?_); refine lit_event ?hg (N := 19) ?hd (cs := #[.bool a, .slice Aa1 la1.length ca1, .slice Aa2 la2.length ca2, .bool b, .slice Ab1 lb1.length cb1, .slice Ab2 lb2.length cb2]) (t := 28) (n := 2) ?hr ?_; (case hd => rfl); (case hg => rfl); (case hr => first | (go_simp; done) | (go_simp; rfl)); intro gV hg4 w4 hx4 hb4; have nS : Aside0 (Sx w w4 [(.blk gV #[.bool a, .slice Aa1 la1.length ca1, .slice Aa2 la2.length ca2, .bool b, .slice Ab1 lb1.length cb1, .slice Ab2 lb2.length cb2] 28), (.blk gR #[.bool false, .slice none 0 0, .slice none 0 0] 28), (.blk gB #[.bool b, .slice Ab1 lb1.length cb1, .slice Ab2 lb2.length cb2] 28), (.blk gK #[.bool a, .slice Aa1 la1.length ca1, .slice Aa2 la2.length ca2] 28)]) := Aside0.mk (HS.out.box hg4 hx4 hb4); clear HS; have HS := nS; clear nS hg4 hx4 hb4) | (go_at_call 58; refine (impl_valid.calls k0 _ 2 [⟨a, la1, la2⟩, ⟨b, lb1, lb2⟩] 0 _ (pair_C (HS.out.blk 0 rfl) (Kd.C_below Ha1.out HS.out.below) Ka1.out (Kd.C_below Ha2.out HS.out.below) Ka2.out (Kd.C_below Hb1.out HS.out.below) Kb1.out (Kd.C_below Hb2.out HS.out.below) Kb2.out) (Nat.le_refl _) HV.out).mono ?_; rintro e w5 ⟨rfl, hb5⟩; have nS : Aside0 (Sx w w5 [(.blk gV #[.bool a, .slice Aa1 la1.length ca1, .slice Aa2 la2.length ca2, .bool b, .slice Ab1 lb1.length cb1, .slice Ab2 lb2.length cb2] 28), (.blk gR #[.bool false, .slice none 0 0, .slice none 0 0] 28), (.blk gB #[.bool b, .slice Ab1 lb1.length cb1, .slice Ab2 lb2.length cb2] 28), (.blk gK #[.bool a, .slice Aa1 la1.length ca1, .slice Aa2 la2.length ca2] 28)]) := Aside0.mk (HS.out.step hb5); clear HS; have HS := nS; clear nS hb5))
  have nS := Aside0.mk HS.out.drew
  clear HS
  have HS := nS
  clear nS
  refine start_ (n := 8) (S := (fun w' => w'.cell? ⟨gK, 0, none⟩ = some (.bool a) ∧ w'.cell? ⟨gK, 1, none⟩ = some (.slice Aa1 la1.length ca1) ∧ w'.cell? ⟨gK, 2, none⟩ = some (.slice Aa2 la2.length ca2) ∧ w'.cell? ⟨gB, 0, none⟩ = some (.bool b) ∧ w'.cell? ⟨gB, 1, none⟩ = some (.slice Ab1 lb1.length cb1) ∧ w'.cell? ⟨gB, 2, none⟩ = some (.slice Ab2 lb2.length cb2))) (ds := [6, 7]) #[false, false, false, false, false, false, false, false] (by kernel_rfl) rfl rfl ⟨(blk_cell (HS.out.blk 3 rfl) 0).trans rfl, (blk_cell (HS.out.blk 3 rfl) 1).trans rfl, (blk_cell (HS.out.blk 3 rfl) 2).trans rfl, (blk_cell (HS.out.blk 2 rfl) 0).trans rfl, (blk_cell (HS.out.blk 2 rfl) 1).trans rfl, (blk_cell (HS.out.blk 2 rfl) 2).trans rfl⟩ (fun hHeld => ?_)
  refine take_ (i := 0) (N := (some 25)) (v := ?_) (a' := ?_) #[true, false, false, false, false, false, false, false] rfl rfl (by kernel_rfl) (fun _ _ _ h => h) (Or.inl ⟨by rfl, ?_⟩) hHeld ?_ ?_
  rotate_left
  · rintro w' ⟨s0, s1, s2, s3, s4, s5⟩
    go_simp
    with_reducible rfl
  rotate_left
  · simp only [Act.put, List.setIfInBounds_toArray, List.set_cons_zero, List.set_cons_succ]
    rfl
  refine take_ (i := 1) (N := (some 26)) (v := ?_) (a' := ?_) #[true, true, false, false, false, false, false, false] rfl rfl (by kernel_rfl) (fun _ _ _ h => h) (Or.inl ⟨by rfl, ?_⟩) hHeld ?_ ?_
  rotate_left
  · rintro w' ⟨s0, s1, s2, s3, s4, s5⟩
    go_simp
    with_reducible rfl
  rotate_left
  · simp only [Act.put, List.setIfInBounds_toArray, List.set_cons_zero, List.set_cons_succ]
    rfl
  refine take_ (i := 3) (N := (some 28)) (v := ?_) (a' := ?_) #[true, true, false, true, false, false, false, false] rfl rfl (by kernel_rfl) (fun _ _ _ h => h) (Or.inl ⟨by rfl, ?_⟩) hHeld ?_ ?_
  rotate_left
  · rintro w' ⟨s0, s1, s2, s3, s4, s5⟩
    go_simp
    with_reducible rfl
  rotate_left
  · simp only [Act.put, List.setIfInBounds_toArray, List.set_cons_zero, List.set_cons_succ]
    rfl
  refine take_ (i := 4) (N := (some 29)) (v := ?_) (a' := ?_) #[true, true, false, true, true, false, false, false] rfl rfl (by kernel_rfl) (fun _ _ _ h => h) (Or.inl ⟨by rfl, ?_⟩) hHeld ?_ ?_
  rotate_left
  · rintro w' ⟨s0, s1, s2, s3, s4, s5⟩
    go_simp
    with_reducible rfl
  rotate_left
  · simp only [Act.put, List.setIfInBounds_toArray, List.set_cons_zero, List.set_cons_succ]
    rfl
  refine one_ (i := 2) (N := (some 27)) #[true, true, true, true, true, false, false, false] rfl rfl (by kernel_rfl) (by decide) (fun K hK => ?_)
  refine goes_ Try.func89 (by kernel_rfl) rfl #[.agg #[.bool a, .slice Aa1 la1.length ca1, .slice Aa2 la2.length ca2], .agg #[.bool b, .slice Ab1 lb1.length cb1, .slice Ab2 lb2.length cb2]] (by rfl) rfl rfl (by (try simp only [List.map_toArray, List.map_cons, List.map_nil]); first | done | rfl) ?_
  with_reducible refine (HA.out.go _ HS.out.below).mono ?_
  rintro e w6 ⟨As, cs, Ad, cd, rfl, hCA1, hKA1, hCA2, hKA2, hb6⟩
  have CA1 := Aside0.mk hCA1
  have KA1 := Aside0.mk hKA1
  have CA2 := Aside0.mk hCA2
  have KA2 := Aside0.mk hKA2
  clear hCA1 hKA1 hCA2 hKA2
  have nS : Aside0 (Sx w w6 [(.blk gV #[.bool a, .slice Aa1 la1.length ca1, .slice Aa2 la2.length ca2, .bool b, .slice Ab1 lb1.length cb1, .slice Ab2 lb2.length cb2] 28), (.blk gR #[.bool false, .slice none 0 0, .slice none 0 0] 28), (.blk gB #[.bool b, .slice Ab1 lb1.length cb1, .slice Ab2 lb2.length cb2] 28), (.blk gK #[.bool a, .slice Aa1 la1.length ca1, .slice Aa2 la2.length ca2] 28)]) := Aside0.mk (HS.out.step hb6)
  clear HS hb6
  have HS := nS
  clear nS
  refine ⟨_, rfl, ?_⟩
  refine hK.out _ _ ⟨(blk_cell (HS.out.blk 3 rfl) 0).trans rfl, (blk_cell (HS.out.blk 3 rfl) 1).trans rfl, (blk_cell (HS.out.blk 3 rfl) 2).trans rfl, (blk_cell (HS.out.blk 2 rfl) 0).trans rfl, (blk_cell (HS.out.blk 2 rfl) 1).trans rfl, (blk_cell (HS.out.blk 2 rfl) 2).trans rfl⟩ (fun hHeld => ?_)
  clear hK K
  refine norm_ (a' := ?_) ?_ ?_
  rotate_left
  · show Act.put _ (some 27) _ = _
    simp only [Act.put, List.setIfInBounds_toArray, List.set_cons_zero, List.set_cons_succ]
    rfl
  refine one_ (i := 5) (N := (some 30)) #[true, true, true, true, true, true, false, false] rfl rfl (by kernel_rfl) (by decide) (fun K hK => ?_)
  refine goes_ Try.func89 (by kernel_rfl) rfl #[.agg #[.bool b, .slice Ab1 lb1.length cb1, .slice Ab2 lb2.length cb2], .agg #[.bool a, .slice Aa1 la1.length ca1, .slice Aa2 la2.length ca2]] (by rfl) rfl rfl (by (try simp only [List.map_toArray, List.map_cons, List.map_nil]); first | done | rfl) ?_
  with_reducible refine (HB.out.go _ HS.out.below).mono ?_
  rintro e w7 ⟨Bs, ds, Bd, dd, rfl, hCB1, hKB1, hCB2, hKB2, hb7⟩
  have CB1 := Aside0.mk hCB1
  have KB1 := Aside0.mk hKB1
  have CB2 := Aside0.mk hCB2
  have KB2 := Aside0.mk hKB2
  clear hCB1 hKB1 hCB2 hKB2
  have nCA1 := Aside0.mk (Kd.C_below CA1.out hb7)
  clear CA1
  have CA1 := nCA1
  clear nCA1
  have nCA2 := Aside0.mk (Kd.C_below CA2.out hb7)
  clear CA2
  have CA2 := nCA2
  clear nCA2
  have nS : Aside0 (Sx w w7 [(.blk gV #[.bool a, .slice Aa1 la1.length ca1, .slice Aa2 la2.length ca2, .bool b, .slice Ab1 lb1.length cb1, .slice Ab2 lb2.length cb2] 28), (.blk gR #[.bool false, .slice none 0 0, .slice none 0 0] 28), (.blk gB #[.bool b, .slice Ab1 lb1.length cb1, .slice Ab2 lb2.length cb2] 28), (.blk gK #[.bool a, .slice Aa1 la1.length ca1, .slice Aa2 la2.length ca2] 28)]) := Aside0.mk (HS.out.step hb7)
  clear HS hb7
  have HS := nS
  clear nS
  refine ⟨_, rfl, ?_⟩
  refine hK.out _ _ ⟨(blk_cell (HS.out.blk 3 rfl) 0).trans rfl, (blk_cell (HS.out.blk 3 rfl) 1).trans rfl, (blk_cell (HS.out.blk 3 rfl) 2).trans rfl, (blk_cell (HS.out.blk 2 rfl) 0).trans rfl, (blk_cell (HS.out.blk 2 rfl) 1).trans rfl, (blk_cell (HS.out.blk 2 rfl) 2).trans rfl⟩ (fun hHeld => ?_)
  clear hK K
  refine norm_ (a' := ?_) ?_ ?_
  rotate_left
  · show Act.put _ (some 30) _ = _
    simp only [Act.put, List.setIfInBounds_toArray, List.set_cons_zero, List.set_cons_succ]
    rfl
  refine last_ (i := 6) (N := none) #[true, true, true, true, true, true, true, false] rfl rfl (by kernel_rfl) (by decide) (fun K hK => ?_)
  refine store_named_step (by rfl) 28 (.tmp 2) (.tmp 27) rfl gK #[.bool a, .slice As L1.length cs, .slice Ad L2.length cd] rfl rfl 28 #[.bool a, .slice Aa1 la1.length ca1, .slice Aa2 la2.length ca2] (HS.out.blk 3 rfl) (by kernel_rfl) rfl (by simp [Value.oneCell']) ?_
  intro wz6 hxz hbz
  have nCA1 := Aside0.mk (C_but1 CA1.out hbz (HS.out.blk 3 rfl) (noInt_A _ _ _ _ _ _ _))
  clear CA1
  have CA1 := nCA1
  clear nCA1
  have nCA2 := Aside0.mk (C_but1 CA2.out hbz (HS.out.blk 3 rfl) (noInt_A _ _ _ _ _ _ _))
  clear CA2
  have CA2 := nCA2
  clear nCA2
  have nCB1 := Aside0.mk (C_but1 CB1.out hbz (HS.out.blk 3 rfl) (noInt_A _ _ _ _ _ _ _))
  clear CB1
  have CB1 := nCB1
  clear nCB1
  have nCB2 := Aside0.mk (C_but1 CB2.out hbz (HS.out.blk 3 rfl) (noInt_A _ _ _ _ _ _ _))
  clear CB2
  have CB2 := nCB2
  clear nCB2
  have nS : Aside0 (Sx w wz6 [(.blk gV #[.bool a, .slice Aa1 la1.length ca1, .slice Aa2 la2.length ca2, .bool b, .slice Ab1 lb1.length cb1, .slice Ab2 lb2.length cb2] 28), (.blk gR #[.bool false, .slice none 0 0, .slice none 0 0] 28), (.blk gB #[.bool b, .slice Ab1 lb1.length cb1, .slice Ab2 lb2.length cb2] 28), (.blk gK #[.bool a, .slice As L1.length cs, .slice Ad L2.length cd] 28)]) := Aside0.mk (HS.out.put 3 rfl hxz hbz)
  clear HS hxz hbz
  have HS := nS
  clear nS
  refine hK.out _ _ ?_
  clear hK K
  refine norm_ (a' := ?_) ?_ ?_
  rotate_left
  · show Act.put _ none _ = _
    simp only [Act.put, List.setIfInBounds_toArray, List.set_cons_zero, List.set_cons_succ]
    rfl
  refine last_ (i := 7) (N := none) #[true, true, true, true, true, true, true, true] rfl rfl (by kernel_rfl) (by decide) (fun K hK => ?_)
  refine store_named_step (by rfl) 28 (.tmp 3) (.tmp 30) rfl gB #[.bool b, .slice Bs M1.length ds, .slice Bd M2.length dd] rfl rfl 28 #[.bool b, .slice Ab1 lb1.length cb1, .slice Ab2 lb2.length cb2] (HS.out.blk 2 rfl) (by kernel_rfl) rfl (by simp [Value.oneCell']) ?_
  intro wz7 hxz hbz
  have nCA1 := Aside0.mk (C_but1 CA1.out hbz (HS.out.blk 2 rfl) (noInt_A _ _ _ _ _ _ _))
  clear CA1
  have CA1 := nCA1
  clear nCA1
  have nCA2 := Aside0.mk (C_but1 CA2.out hbz (HS.out.blk 2 rfl) (noInt_A _ _ _ _ _ _ _))
  clear CA2
  have CA2 := nCA2
  clear nCA2
  have nCB1 := Aside0.mk (C_but1 CB1.out hbz (HS.out.blk 2 rfl) (noInt_A _ _ _ _ _ _ _))
  clear CB1
  have CB1 := nCB1
  clear nCB1
  have nCB2 := Aside0.mk (C_but1 CB2.out hbz (HS.out.blk 2 rfl) (noInt_A _ _ _ _ _ _ _))
  clear CB2
  have CB2 := nCB2
  clear nCB2
  have nS : Aside0 (Sx w wz7 [(.blk gV #[.bool a, .slice Aa1 la1.length ca1, .slice Aa2 la2.length ca2, .bool b, .slice Ab1 lb1.length cb1, .slice Ab2 lb2.length cb2] 28), (.blk gR #[.bool false, .slice none 0 0, .slice none 0 0] 28), (.blk gB #[.bool b, .slice Bs M1.length ds, .slice Bd M2.length dd] 28), (.blk gK #[.bool a, .slice As L1.length cs, .slice Ad L2.length cd] 28)]) := Aside0.mk (HS.out.put 2 rfl hxz hbz)
  clear HS hxz hbz
  have HS := nS
  clear nS
  refine hK.out _ _ ?_
  clear hK K
  refine done_ (by kernel_rfl) ?_
  have HB0 := Aside0.mk HS.out.below
  have HGR := Aside0.mk (HS.out.get 1 rfl).2
  have HKB := Aside0.mk (HS.out.blk 3 rfl)
  have HBB := Aside0.mk (HS.out.blk 2 rfl)
  have HRB := Aside0.mk (HS.out.blk 1 rfl)
  clear HS HA HB
  have HS := Aside0.mk (Sx.start wz7)
  go_simp
  go_upto_region 5 with fail
  have nS := Aside0.mk HS.out.drew
  clear HS
  have HS := nS
  clear nS
  refine start_ (n := 5) (S := (fun w' => w'.cell? ⟨gK, 0, none⟩ = some (.bool a) ∧ w'.cell? ⟨gK, 1, none⟩ = some (.slice As L1.length cs) ∧ w'.cell? ⟨gK, 2, none⟩ = some (.slice Ad L2.length cd) ∧ w'.cell? ⟨gB, 0, none⟩ = some (.bool b) ∧ w'.cell? ⟨gB, 1, none⟩ = some (.slice Bs M1.length ds) ∧ w'.cell? ⟨gB, 2, none⟩ = some (.slice Bd M2.length dd))) (ds := []) #[false, false, false, false, false] (by kernel_rfl) rfl rfl ⟨(blk_cell (blk_below HKB.out HS.out.below) 0).trans rfl, (blk_cell (blk_below HKB.out HS.out.below) 1).trans rfl, (blk_cell (blk_below HKB.out HS.out.below) 2).trans rfl, (blk_cell (blk_below HBB.out HS.out.below) 0).trans rfl, (blk_cell (blk_below HBB.out HS.out.below) 1).trans rfl, (blk_cell (blk_below HBB.out HS.out.below) 2).trans rfl⟩ (fun hHeld => ?_)
  refine take_ (i := 0) (N := (some 31)) (v := ?_) (a' := ?_) #[true, false, false, false, false] rfl rfl (by kernel_rfl) (fun _ _ _ h => h) (Or.inl ⟨by rfl, ?_⟩) hHeld ?_ ?_
  rotate_left
  · rintro w' ⟨s0, s1, s2, s3, s4, s5⟩
    go_simp
    with_reducible rfl
  rotate_left
  · simp only [Act.put, List.setIfInBounds_toArray, List.set_cons_zero, List.set_cons_succ]
    rfl
  refine take_ (i := 2) (N := (some 33)) (v := ?_) (a' := ?_) #[true, false, true, false, false] rfl rfl (by kernel_rfl) (fun _ _ _ h => h) (Or.inl ⟨by rfl, ?_⟩) hHeld ?_ ?_
  rotate_left
  · rintro w' ⟨s0, s1, s2, s3, s4, s5⟩
    go_simp
    with_reducible rfl
  rotate_left
  · simp only [Act.put, List.setIfInBounds_toArray, List.set_cons_zero, List.set_cons_succ]
    rfl
  refine one_ (i := 1) (N := (some 32)) #[true, true, true, false, false] rfl rfl (by kernel_rfl) (by decide) (fun K hK => ?_)
  refine goes_ Try.func90 (by kernel_rfl) rfl #[.agg #[.bool a, .slice As L1.length cs, .slice Ad L2.length cd]] (by rfl) rfl rfl (by (try simp only [List.map_toArray, List.map_cons, List.map_nil]); first | done | rfl) ?_
  with_reducible refine (impl_Array_rank.calls a As cs L1 Ad cd L2 (L1.length : Int) _ (Kd.C_below CA1.out HS.out.below) KA1.out (Kd.C_below CA2.out HS.out.below) KA2.out rfl).mono ?_
  rintro e v1 ⟨rfl, hb1⟩
  have nS : Aside0 (Sx wz7 v1 []) := Aside0.mk (HS.out.step hb1)
  clear HS hb1
  have HS := nS
  clear nS
  refine ⟨_, rfl, ?_⟩
  refine hK.out _ _ ⟨(blk_cell (blk_below HKB.out HS.out.below) 0).trans rfl, (blk_cell (blk_below HKB.out HS.out.below) 1).trans rfl, (blk_cell (blk_below HKB.out HS.out.below) 2).trans rfl, (blk_cell (blk_below HBB.out HS.out.below) 0).trans rfl, (blk_cell (blk_below HBB.out HS.out.below) 1).trans rfl, (blk_cell (blk_below HBB.out HS.out.below) 2).trans rfl⟩ (fun hHeld => ?_)
  clear hK K
  refine norm_ (a' := ?_) ?_ ?_
  rotate_left
  · show Act.put _ (some 32) _ = _
    simp only [Act.put, List.setIfInBounds_toArray, List.set_cons_zero, List.set_cons_succ]
    rfl
  refine one_ (i := 3) (N := (some 34)) #[true, true, true, true, false] rfl rfl (by kernel_rfl) (by decide) (fun K hK => ?_)
  refine goes_ Try.func90 (by kernel_rfl) rfl #[.agg #[.bool b, .slice Bs M1.length ds, .slice Bd M2.length dd]] (by rfl) rfl rfl (by (try simp only [List.map_toArray, List.map_cons, List.map_nil]); first | done | rfl) ?_
  with_reducible refine (impl_Array_rank.calls b Bs ds M1 Bd dd M2 (M1.length : Int) _ (Kd.C_below CB1.out HS.out.below) KB1.out (Kd.C_below CB2.out HS.out.below) KB2.out rfl).mono ?_
  rintro e v2 ⟨rfl, hb2⟩
  have nS : Aside0 (Sx wz7 v2 []) := Aside0.mk (HS.out.step hb2)
  clear HS hb2
  have HS := nS
  clear nS
  refine ⟨_, rfl, ?_⟩
  refine hK.out _ _ ⟨(blk_cell (blk_below HKB.out HS.out.below) 0).trans rfl, (blk_cell (blk_below HKB.out HS.out.below) 1).trans rfl, (blk_cell (blk_below HKB.out HS.out.below) 2).trans rfl, (blk_cell (blk_below HBB.out HS.out.below) 0).trans rfl, (blk_cell (blk_below HBB.out HS.out.below) 1).trans rfl, (blk_cell (blk_below HBB.out HS.out.below) 2).trans rfl⟩ (fun hHeld => ?_)
  clear hK K
  refine norm_ (a' := ?_) ?_ ?_
  rotate_left
  · show Act.put _ (some 34) _ = _
    simp only [Act.put, List.setIfInBounds_toArray, List.set_cons_zero, List.set_cons_succ]
    rfl
  refine pure_ (i := 4) (N := (some 35)) (v := ?_) (a' := ?_) #[true, true, true, true, true] rfl rfl (by kernel_rfl) (fun _ _ _ h => h) (Or.inl ⟨by rfl, ?_⟩) ?_ ?_
  rotate_left
  · intro w'
    go_simp
    with_reducible rfl
  rotate_left
  · simp only [Act.put, List.setIfInBounds_toArray, List.set_cons_zero, List.set_cons_succ]
    rfl
  refine done_ (by kernel_rfl) ?_
  go_upto_region 7 with fail
  have nS := Aside0.mk HS.out.drew
  clear HS
  have HS := nS
  clear nS
  refine start_ (n := 6) (S := (fun w' => w'.cell? ⟨gK, 0, none⟩ = some (.bool a) ∧ w'.cell? ⟨gK, 1, none⟩ = some (.slice As L1.length cs) ∧ w'.cell? ⟨gK, 2, none⟩ = some (.slice Ad L2.length cd) ∧ w'.cell? ⟨gB, 0, none⟩ = some (.bool b) ∧ w'.cell? ⟨gB, 1, none⟩ = some (.slice Bs M1.length ds) ∧ w'.cell? ⟨gB, 2, none⟩ = some (.slice Bd M2.length dd))) (ds := []) #[false, false, false, false, false, false] (by kernel_rfl) rfl rfl ⟨(blk_cell (blk_below HKB.out HS.out.below) 0).trans rfl, (blk_cell (blk_below HKB.out HS.out.below) 1).trans rfl, (blk_cell (blk_below HKB.out HS.out.below) 2).trans rfl, (blk_cell (blk_below HBB.out HS.out.below) 0).trans rfl, (blk_cell (blk_below HBB.out HS.out.below) 1).trans rfl, (blk_cell (blk_below HBB.out HS.out.below) 2).trans rfl⟩ (fun hHeld => ?_)
  refine take_ (i := 0) (N := (some 37)) (v := ?_) (a' := ?_) #[true, false, false, false, false, false] rfl rfl (by kernel_rfl) (fun _ _ _ h => h) (Or.inl ⟨by rfl, ?_⟩) hHeld ?_ ?_
  rotate_left
  · rintro w' ⟨s0, s1, s2, s3, s4, s5⟩
    go_simp
    with_reducible rfl
  rotate_left
  · simp only [Act.put, List.setIfInBounds_toArray, List.set_cons_zero, List.set_cons_succ]
    rfl
  refine take_ (i := 2) (N := (some 39)) (v := ?_) (a' := ?_) #[true, false, true, false, false, false] rfl rfl (by kernel_rfl) (fun _ _ _ h => h) (Or.inl ⟨by rfl, ?_⟩) hHeld ?_ ?_
  rotate_left
  · rintro w' ⟨s0, s1, s2, s3, s4, s5⟩
    go_simp
    with_reducible rfl
  rotate_left
  · simp only [Act.put, List.setIfInBounds_toArray, List.set_cons_zero, List.set_cons_succ]
    rfl
  refine one_ (i := 1) (N := (some 38)) #[true, true, true, false, false, false] rfl rfl (by kernel_rfl) (by decide) (fun K hK => ?_)
  refine goes_ Try.func92 (by kernel_rfl) rfl #[.agg #[.bool a, .slice As L1.length cs, .slice Ad L2.length cd], .bool false] (by rfl) rfl rfl (by (try simp only [List.map_toArray, List.map_cons, List.map_nil]); first | done | rfl) ?_
  with_reducible refine (impl_Array_without.calls a As cs L1 Ad cd L2 false P1 _ (Kd.C_below CA1.out HS.out.below) KA1.out (Kd.C_below CA2.out HS.out.below) KA2.out HWA.out).mono ?_
  rintro e v3 ⟨v_, rfl, hr3, hb3⟩
  obtain ⟨Ps, pc, hv_⟩ := Kd.R_slice hr3
  subst hv_
  have nS : Aside0 (Sx wz7 v3 [(.row (.slice Ps P1.length pc) P1)]) := Aside0.mk (HS.out.addRow hb3 hr3)
  clear HS hb3
  have HS := nS
  clear nS
  refine ⟨_, rfl, ?_⟩
  refine hK.out _ _ ⟨(blk_cell (blk_below HKB.out HS.out.below) 0).trans rfl, (blk_cell (blk_below HKB.out HS.out.below) 1).trans rfl, (blk_cell (blk_below HKB.out HS.out.below) 2).trans rfl, (blk_cell (blk_below HBB.out HS.out.below) 0).trans rfl, (blk_cell (blk_below HBB.out HS.out.below) 1).trans rfl, (blk_cell (blk_below HBB.out HS.out.below) 2).trans rfl⟩ (fun hHeld => ?_)
  clear hK K
  refine norm_ (a' := ?_) ?_ ?_
  rotate_left
  · show Act.put _ (some 38) _ = _
    simp only [Act.put, List.setIfInBounds_toArray, List.set_cons_zero, List.set_cons_succ]
    rfl
  refine one_ (i := 3) (N := (some 40)) #[true, true, true, true, false, false] rfl rfl (by kernel_rfl) (by decide) (fun K hK => ?_)
  refine goes_ Try.func92 (by kernel_rfl) rfl #[.agg #[.bool b, .slice Bs M1.length ds, .slice Bd M2.length dd], .bool false] (by rfl) rfl rfl (by (try simp only [List.map_toArray, List.map_cons, List.map_nil]); first | done | rfl) ?_
  with_reducible refine (impl_Array_without.calls b Bs ds M1 Bd dd M2 false Q1 _ (Kd.C_below CB1.out HS.out.below) KB1.out (Kd.C_below CB2.out HS.out.below) KB2.out HWB.out).mono ?_
  rintro e v4 ⟨v_, rfl, hr4, hb4⟩
  obtain ⟨Qs, qc, hv_⟩ := Kd.R_slice hr4
  subst hv_
  have nS : Aside0 (Sx wz7 v4 [(.row (.slice Qs Q1.length qc) Q1), (.row (.slice Ps P1.length pc) P1)]) := Aside0.mk (HS.out.addRow hb4 hr4)
  clear HS hb4
  have HS := nS
  clear nS
  refine ⟨_, rfl, ?_⟩
  refine hK.out _ _ ⟨(blk_cell (blk_below HKB.out HS.out.below) 0).trans rfl, (blk_cell (blk_below HKB.out HS.out.below) 1).trans rfl, (blk_cell (blk_below HKB.out HS.out.below) 2).trans rfl, (blk_cell (blk_below HBB.out HS.out.below) 0).trans rfl, (blk_cell (blk_below HBB.out HS.out.below) 1).trans rfl, (blk_cell (blk_below HBB.out HS.out.below) 2).trans rfl⟩ (fun hHeld => ?_)
  clear hK K
  refine norm_ (a' := ?_) ?_ ?_
  rotate_left
  · show Act.put _ (some 40) _ = _
    simp only [Act.put, List.setIfInBounds_toArray, List.set_cons_zero, List.set_cons_succ]
    rfl
  refine one_ (i := 4) (N := (some 41)) #[true, true, true, true, true, false] rfl rfl (by kernel_rfl) (by decide) (fun K hK => ?_)
  refine goes_ Try.func91 (by kernel_rfl) rfl #[.slice Ps P1.length pc, .slice Qs Q1.length qc] (by rfl) rfl rfl (by (try simp only [List.map_toArray, List.map_cons, List.map_nil]); first | done | rfl) ?_
  with_reducible refine (slices_Equal_int_int.calls k2 Ps pc P1 Qs qc Q1 true _ (HS.out.C 1 rfl) (HS.out.cap 1 rfl) (HS.out.C 0 rfl) (HS.out.cap 0 rfl) HEQ.out).mono ?_
  rintro e v5 ⟨rfl, hd_⟩
  have hb5 := Drawn0.below hd_
  clear hd_
  have nS : Aside0 (Sx wz7 v5 [(.row (.slice Qs Q1.length qc) Q1), (.row (.slice Ps P1.length pc) P1)]) := Aside0.mk (HS.out.step hb5)
  clear HS hb5
  have HS := nS
  clear nS
  refine ⟨_, rfl, ?_⟩
  refine hK.out _ _ ⟨(blk_cell (blk_below HKB.out HS.out.below) 0).trans rfl, (blk_cell (blk_below HKB.out HS.out.below) 1).trans rfl, (blk_cell (blk_below HKB.out HS.out.below) 2).trans rfl, (blk_cell (blk_below HBB.out HS.out.below) 0).trans rfl, (blk_cell (blk_below HBB.out HS.out.below) 1).trans rfl, (blk_cell (blk_below HBB.out HS.out.below) 2).trans rfl⟩ (fun hHeld => ?_)
  clear hK K
  refine norm_ (a' := ?_) ?_ ?_
  rotate_left
  · show Act.put _ (some 41) _ = _
    simp only [Act.put, List.setIfInBounds_toArray, List.set_cons_zero, List.set_cons_succ]
    rfl
  refine pure_ (i := 5) (N := (some 42)) (v := ?_) (a' := ?_) #[true, true, true, true, true, true] rfl rfl (by kernel_rfl) (fun _ _ _ h => h) (Or.inl ⟨by rfl, ?_⟩) ?_ ?_
  rotate_left
  · intro w'
    go_simp
    with_reducible rfl
  rotate_left
  · simp only [Act.put, List.setIfInBounds_toArray, List.set_cons_zero, List.set_cons_succ]
    rfl
  refine done_ (by kernel_rfl) ?_
  go_wp2_with (first | ((with_reducible refine wpList_guardedB ?hw ?_); (case hw => first | rfl | (go_simp; done))) | ((with_reducible refine gate_dst (N := 45) rfl ?_); refine ev_load rfl 4 (.tmp 44) rfl ⟨gK, 0, none⟩ rfl (.bool a) ((blk_cell (blk_below HKB.out HS.out.below) 0).trans rfl) (by kernel_rfl) ?_) | ((with_reducible refine gate_dst (N := 47) rfl ?_); refine ev_load rfl 4 (.tmp 46) rfl ⟨gB, 0, none⟩ rfl (.bool b) ((blk_cell (blk_below HBB.out HS.out.below) 0).trans rfl) (by kernel_rfl) ?_) | ((with_reducible refine gate_dst (N := 51) rfl ?_); refine ev_load rfl 22 (.tmp 50) rfl ⟨gK, 2, none⟩ rfl (.slice Ad L2.length cd) ((blk_cell (blk_below HKB.out HS.out.below) 2).trans rfl) (by kernel_rfl) ?_) | ((with_reducible refine gate_dst (N := 57) rfl ?_); refine ev_load rfl 22 (.tmp 56) rfl ⟨gB, 2, none⟩ rfl (.slice Bd M2.length dd) ((blk_cell (blk_below HBB.out HS.out.below) 2).trans rfl) (by kernel_rfl) ?_) | ((with_reducible refine gate_store rfl ?_); refine store_named rfl 28 (.tmp 4) (.tmp 61) rfl gR #[.bool false, .slice none 0 0, .slice none 0 0] rfl rfl 28 #[.bool false, .slice none 0 0, .slice none 0 0] (blk_below HRB.out HS.out.below) (by kernel_rfl) rfl (by simp [Value.oneCell']) ?_; intro wF hxF hbF; have HXF := Aside0.mk hxF; have HBF := Aside0.mk hbF; clear hxF hbF))
  refine bodyPost_ret (results_ct rfl _ _ gR 28 #[.bool false, .slice none 0 0, .slice none 0 0] (0, 0) _ rfl HXF.out Try.underlying28 rfl (by kernel_rfl)) rfl ?_
  exact ⟨_, _, rfl, Kd.R_nil _ _ _ _ _, Kd.R_nil _ _ _ _ _, (below_step HB0.out HS.out.below).trans (HBF.out.below _ HGR.out)⟩
end Go.Proofs.Ytehfcnndjhjkoaa.PA

namespace Go.Proofs.Ytehfcnndjhjkoaa.PA
open Go.RowKit Go.Proofs.YtehfcnndjhjkoaaW.PrintWords Go.Proofs.YtehfcnndjhjkoaaW.PrintLast Go.Proofs.YtehfcnndjhjkoaaW.PrintMore
set_option linter.unusedVariables false
set_option linter.unusedSimpArgs false
def catL1 (l1 m1 : List Int) : List Int := if l1.length = 0 then m1.dropLast ++ [1] else if l1.length + 1 = m1.length then l1 ++ [1] else l1
def catL2 (l1 l2 m1 : List Int) : List Int := if l1.length = 0 then List.replicate (prod m1.dropLast).toNat (rd l2 0) else l2
theorem prod_app1 : ∀ (p : List Int) (y : Int), prod (p ++ [y]) = prod p * y
  | [], y => by simp [prod]
  | x :: p, y => by simp only [List.cons_append, prod]; rw [prod_app1 p y, Int.mul_assoc]
theorem shGo_one : ∀ (p : List Int) (f y : Int), 0 ≤ f → f ≤ 10000 → shGo f (p ++ [y]) = true → shGo f (p ++ [1]) = true
  | [], f, y, h0, h1, h => by simp [shGo]; omega
  | x :: p, f, y, h0, h1, h => by
    simp only [List.cons_append, shGo, Bool.and_eq_true, decide_eq_true_eq] at h ⊢
    refine ⟨h.1, ?_⟩
    have h2 := h.2
    by_cases hx : x = 0
    · rw [if_pos hx] at h2 ⊢
      exact shGo_one p f y h0 h1 h2
    · rw [if_neg hx] at h2 ⊢
      simp only [Bool.and_eq_true, decide_eq_true_eq] at h2 ⊢
      exact ⟨h2.1, shGo_one p (f * x) y (Int.mul_nonneg h0 h.1.1) h2.1 h2.2⟩
theorem shOk_one {l : List Int} (h : shOk l = true) (hl : l.length ≠ 0) : shOk (l.dropLast ++ [1]) = true := by
  have hne : l ≠ [] := by intro e; subst e; simp at hl
  obtain ⟨p, y, rfl⟩ : ∃ p y, l = p ++ [y] := ⟨l.dropLast, l.getLast hne, (List.dropLast_concat_getLast hne).symm⟩
  simp only [shOk, Bool.and_eq_true, decide_eq_true_eq] at h ⊢
  rw [List.dropLast_concat]
  refine ⟨by simpa using h.1, shGo_one p 1 y (by omega) (by omega) h.2⟩
theorem besOk (a : Bool) (Aa1 : Option Addr) (ca1 : Nat) (la1 : List Int) (Aa2 : Option Addr) (ca2 : Nat) (la2 : List Int) (b : Bool) (Ab1 : Option Addr) (cb1 : Nat) (lb1 : List Int) (Ab2 : Option Addr) (cb2 : Nat) (lb2 : List Int) (w : World) (ha1 : Kd.C (Kd.int .i64) w Aa1 la1.length la1) (ka1 : la1.length ≤ ca1) (ha2 : Kd.C (Kd.int .i64) w Aa2 la2.length la2) (ka2 : la2.length ≤ ca2) (hb1 : Kd.C (Kd.int .i64) w Ab1 lb1.length lb1) (kb1 : lb1.length ≤ cb1) (hb2 : Kd.C (Kd.int .i64) w Ab2 lb2.length lb2) (kb2 : lb2.length ≤ cb2) (oa : arrOk a la1 la2 = true) (ob : arrOk b lb1 lb2 = true) :
    BesOk #[.agg #[.bool a, .slice Aa1 la1.length ca1, .slice Aa2 la2.length ca2], .agg #[.bool b, .slice Ab1 lb1.length cb1, .slice Ab2 lb2.length cb2]] a (catL1 la1 lb1) (catL2 la1 la2 lb1) w := by
  intro W hb
  have sa := arrOk_sh oa
  have sb := arrOk_sh ob
  have pa := arrOk_prod oa
  have n5 := shOk_len sa
  have m5 := shOk_len sb
  by_cases hz : la1.length = 0
  · have e0 : la1 = [] := List.length_eq_zero_iff.1 hz
    have h2 : la2.length = 1 := by rw [e0] at pa; simp [prod] at pa; omega
    by_cases hy : lb1.length = 0
    · have e1 : lb1 = [] := List.length_eq_zero_iff.1 hy
      obtain ⟨x, ex⟩ := List.length_eq_one_iff.1 h2
      have q1 : catL1 la1 lb1 = [1] := by simp [catL1, e0, e1]
      have q2 : catL2 la1 la2 lb1 = la2 := by simp [catL2, e0, e1, ex, prod, rd]
      rw [q1, q2]
      exact beside_both a Aa1 ca1 la1 Aa2 ca2 la2 b Ab1 cb1 lb1 Ab2 cb2 lb2 W (Kd.C_below ha1 hb) ka1 (Kd.C_below ha2 hb) ka2 (Kd.C_below hb1 hb) kb1 (Kd.C_below hb2 hb) kb2 hz hy h2
    · have q1 : catL1 la1 lb1 = lb1.dropLast ++ [1] := by unfold catL1; rw [if_pos hz]
      have q2 : catL2 la1 la2 lb1 = List.replicate (prod lb1.dropLast).toNat (rd la2 0) := by unfold catL2; rw [if_pos hz]
      rw [q1, q2]
      have so := shOk_one sb hy
      have hp := shOk_prod so
      rw [prod_app1, Int.mul_one] at hp
      obtain ⟨k1, hk⟩ := (shapeOk_ev (lb1.dropLast ++ [1])).rounds
      have hk' : impl_shapeOk.f k1 (lb1.dropLast ++ [1]) = some (((prod lb1.dropLast).toNat : Int), true) := by
        rw [hk, shSize, if_pos so, prod_app1, Int.mul_one, Int.toNat_of_nonneg hp.1]
      exact beside_zero a Aa1 ca1 la1 Aa2 ca2 la2 b Ab1 cb1 lb1 Ab2 cb2 lb2 W (Kd.C_below ha1 hb) ka1 (Kd.C_below ha2 hb) ka2 (Kd.C_below hb1 hb) kb1 (Kd.C_below hb2 hb) kb2 hz hy h2 m5 (prod lb1.dropLast).toNat k1 hk' (by omega)
  · by_cases hw : la1.length + 1 = lb1.length
    · have q1 : catL1 la1 lb1 = la1 ++ [1] := by unfold catL1; rw [if_neg hz, if_pos hw]
      have q2 : catL2 la1 la2 lb1 = la2 := by unfold catL2; rw [if_neg hz]
      rw [q1, q2]
      exact beside_wide a Aa1 ca1 la1 Aa2 ca2 la2 b Ab1 cb1 lb1 Ab2 cb2 lb2 W (Kd.C_below ha1 hb) ka1 (Kd.C_below ha2 hb) ka2 (Kd.C_below hb1 hb) kb1 (Kd.C_below hb2 hb) kb2 n5 hz hw
    · have q1 : catL1 la1 lb1 = la1 := by unfold catL1; rw [if_neg hz, if_neg hw]
      have q2 : catL2 la1 la2 lb1 = la2 := by unfold catL2; rw [if_neg hz]
      rw [q1, q2]
      exact beside_same a Aa1 ca1 la1 Aa2 ca2 la2 b Ab1 cb1 lb1 Ab2 cb2 lb2 W (Kd.C_below ha1 hb) ka1 (Kd.C_below ha2 hb) ka2 (Kd.C_below hb1 hb) kb1 (Kd.C_below hb2 hb) kb2 n5 hz hw
end Go.Proofs.Ytehfcnndjhjkoaa.PA

-- By a program (prt.py, over the print of the kit), for this claim. Not trusted: Lean checks it.
namespace Go.Proofs.Ytehfcnndjhjkoaa.PA
open Go.RowKit Go.Proofs.YtehfcnndjhjkoaaW.PrintWords Go.Proofs.YtehfcnndjhjkoaaW.PrintLast Go.Proofs.YtehfcnndjhjkoaaW.PrintMore
attribute [local go_sem] max2_int min2_int max_two min_two max_three min_three max_four min_four   -- for this text's walks alone
set_option linter.unusedVariables false
set_option linter.unusedSimpArgs false

/-! ### spec_l3Same: function 87 -/
def spec_l3Same.l0 : Nat → List Int → List Int → Int → Option (Bool)
  | 0, _, _, _ => none
  | k + 1, x0, x1, x5 => if x5 < (x0.length : Int) then (if 0 ≤ x5 then (if x5 < (x1.length : Int) then (if (rd x0 x5) = (rd x1 x5) then (spec_l3Same.l0 k x0 x1 (wrap64 (x5 + 1))) else (some false)) else (none)) else (none)) else (some true)
def spec_l3Same.f (k : Nat) (l0 : List Int) (l1 : List Int) : Option (Bool) := if (l0.length : Int) = (l1.length : Int) then (spec_l3Same.l0 k l0 l1 0) else (some false)
theorem spec_l3Same.mono_l : ∀ k, (∀ y0 y1 y2, LeO (spec_l3Same.l0 k y0 y1 y2) (spec_l3Same.l0 (k + 1) y0 y1 y2))
  | 0 => fun _ _ _ r h => by simp [spec_l3Same.l0] at h
  | k + 1 => by
    have ih0 := spec_l3Same.mono_l k
    · intro y0 y1 y2
      unfold spec_l3Same.l0
      repeat' first
      | (with_reducible exact ih0 _ _ _)
      | (with_reducible exact LeO.refl _)
      | (with_reducible exact LeO.none _)
      | (with_reducible refine LeO.ite ?_ ?_)
      | (with_reducible refine LeO.bind ?_ (fun _ => ?_))
      | exact ih0 _ _ _
      | exact LeO.none _
      | refine LeO.ite ?_ ?_
      | refine LeO.bind ?_ (fun _ => ?_)
theorem spec_l3Same.mono : ∀ a0 a1 k, LeO (spec_l3Same.f k a0 a1) (spec_l3Same.f (k + 1) a0 a1) := by
  intro a0 a1 k
  have ih0 := spec_l3Same.mono_l k
  unfold spec_l3Same.f
  repeat' first
      | (with_reducible exact ih0 _ _ _)
      | (with_reducible exact LeO.refl _)
      | (with_reducible exact LeO.none _)
      | (with_reducible refine LeO.ite ?_ ?_)
      | (with_reducible refine LeO.bind ?_ (fun _ => ?_))
      | exact ih0 _ _ _
      | exact LeO.none _
      | refine LeO.ite ?_ ?_
      | refine LeO.bind ?_ (fun _ => ?_)
set_option maxHeartbeats 8000000 in
set_option maxRecDepth 100000 in
theorem spec_l3Same.calls (k : Nat) (A0 : Option Addr) (c0 : Nat) (l0 : List Int) (A1 : Option Addr) (c1 : Nat) (l1 : List Int) (r : Bool) (w : World) (hr0 : Kd.C (Kd.int .i64) w A0 l0.length l0) (hc0 : l0.length ≤ c0) (hr1 : Kd.C (Kd.int .i64) w A1 l1.length l1) (hc1 : l1.length ≤ c1) (h : spec_l3Same.f k l0 l1 = some r) :
    Calls Try.prog 87 #[.slice A0 l0.length c0, .slice A1 l1.length c1] w fun e w' => e = .returned (.bool r) ∧ Drawn0 w w' := by
  have HR0 := Aside0.mk hr0
  have HC0 := Aside0.mk hc0
  clear hr0 hc0
  have HR1 := Aside0.mk hr1
  have HC1 := Aside0.mk hc1
  clear hr1 hc1
  have H : (if (l0.length : Int) = (l1.length : Int) then (spec_l3Same.l0 k l0 l1 0) else (some false)) = some r := h
  clear h
  by_cases c3 : (l0.length : Int) = (l1.length : Int)
  · rw [if_pos c3] at H
    have c3b0 : ((l0.length : Int) == (l1.length : Int)) = true := beq_iff_eq.mpr c3
    have c3b1 : ((l0.length : Int) != (l1.length : Int)) = false := bne_eq_false_iff_eq.mpr c3
    have c3b2 : (l0.length == l1.length) = true := by first | simpa using c3 | (simp at c3 ⊢; omega)
    clear c3
    have H' := Aside0.mk H
    clear H
    go_enter Try.func87, Try.ntmps87
    go_wp2
    repeat (go_quiet (fail); try go_wp2)
    go_loopg [5] k (fun kq v5 w' => ∃ (x5_1 : Int), v5 = .int .i64 x5_1 ∧ Aside0 (spec_l3Same.l0 kq l0 l1 x5_1 = some r) ∧ Aside0 (kq ≤ k) ∧ Drawn0 w w')
    case atStart => exact ⟨(0), (by first | rfl | (simp; done) | (simp [*]; done)), H', ⟨Nat.le_refl _⟩, by repeat (first | exact Drawn0.refl _ | apply Drawn0.step)⟩
    case round =>
      clear H'
      try clear c1
      try clear p2
      try clear c3
      try clear c3b0
      try clear c3b1
      try clear c3b2
      obtain ⟨x5_1, rfl, HA, HK1, ⟨m1, rfl⟩⟩ := hrel
      cases gk with
      | zero => exact absurd HA.out (by simp [spec_l3Same.l0])
      | succ k1 =>
        have H := HA.out
        clear HA
        simp only [spec_l3Same.l0] at H
        by_cases c4 : x5_1 < (l0.length : Int)
        · rw [if_pos c4] at H
          have c4b0 : decide (x5_1 < (l0.length : Int)) = true := decide_eq_true c4
          clear c4
          by_cases c5 : 0 ≤ x5_1
          · rw [if_pos c5] at H
            have c5b0 : decide (0 ≤ x5_1) = true := decide_eq_true c5
            clear c5
            by_cases c6 : x5_1 < (l1.length : Int)
            · rw [if_pos c6] at H
              have c6b0 : decide (x5_1 < (l1.length : Int)) = true := decide_eq_true c6
              clear c6
              by_cases c7 : (rd l0 x5_1) = (rd l1 x5_1)
              · rw [if_pos c7] at H
                have c7b0 : ((rd l0 x5_1) == (rd l1 x5_1)) = true := beq_iff_eq.mpr c7
                have c7b1 : ((rd l0 x5_1) != (rd l1 x5_1)) = false := bne_eq_false_iff_eq.mpr c7
                clear c7
                have H' := Aside0.mk H
                clear H
                have p101 : 0 ≤ (x5_1 : Int) := of_decide_eq_true (by first | (with_reducible assumption) | assumption)
                have q101 : x5_1 < (l0.length : Int) := of_decide_eq_true (by first | (with_reducible assumption) | assumption)
                obtain ⟨ad101, e101, hx101_0⟩ := Kd.at_int HR0.out x5_1 p101 q101
                cases e101
                replace p101 := eq_true p101
                replace q101 := eq_true q101
                have p102 : 0 ≤ (x5_1 : Int) := of_decide_eq_true (by first | (with_reducible assumption) | assumption)
                have q102 : x5_1 < (l1.length : Int) := of_decide_eq_true (by first | (with_reducible assumption) | assumption)
                obtain ⟨ad102, e102, hx102_0⟩ := Kd.at_int HR1.out x5_1 p102 q102
                cases e102
                replace p102 := eq_true p102
                replace q102 := eq_true q102
                go_wp2
                repeat (go_quiet (fail); try go_wp2)
                go_roundg k1
                case measure => have := HK1.out; omega
                case rel => exact ⟨(wrap64 (x5_1 + 1)), (by first | rfl | (simp; done) | (simp [*]; done)), H', ⟨by have := HK1.out; omega⟩, by repeat (first | exact Drawn0.refl _ | apply Drawn0.step)⟩
              · rw [if_neg c7] at H
                have c7b0 : ((rd l0 x5_1) == (rd l1 x5_1)) = false := beq_eq_false_iff_ne.mpr c7
                have c7b1 : ((rd l0 x5_1) != (rd l1 x5_1)) = true := bne_iff_ne.mpr c7
                obtain rfl := Option.some.inj H
                have p101 : 0 ≤ (x5_1 : Int) := of_decide_eq_true (by first | (with_reducible assumption) | assumption)
                have q101 : x5_1 < (l0.length : Int) := of_decide_eq_true (by first | (with_reducible assumption) | assumption)
                obtain ⟨ad101, e101, hx101_0⟩ := Kd.at_int HR0.out x5_1 p101 q101
                cases e101
                replace p101 := eq_true p101
                replace q101 := eq_true q101
                have p102 : 0 ≤ (x5_1 : Int) := of_decide_eq_true (by first | (with_reducible assumption) | assumption)
                have q102 : x5_1 < (l1.length : Int) := of_decide_eq_true (by first | (with_reducible assumption) | assumption)
                obtain ⟨ad102, e102, hx102_0⟩ := Kd.at_int HR1.out x5_1 p102 q102
                cases e102
                replace p102 := eq_true p102
                replace q102 := eq_true q102
                go_wp2
                repeat (go_quiet (fail); try go_wp2)
                go_ret
                exact ⟨by first | rfl | (simp; done) | (simp [*]; done), by repeat (first | exact Drawn0.refl _ | apply Drawn0.step)⟩
            · rw [if_neg c6] at H
              exact absurd H (by simp)
          · rw [if_neg c5] at H
            exact absurd H (by simp)
        · rw [if_neg c4] at H
          have c4b0 : decide (x5_1 < (l0.length : Int)) = false := decide_eq_false c4
          clear c4
          obtain rfl := Option.some.inj H
          go_wp2
          repeat (go_quiet (fail); try go_wp2)
          go_ret
          exact ⟨by first | rfl | (simp; done) | (simp [*]; done), by repeat (first | exact Drawn0.refl _ | apply Drawn0.step)⟩
  · rw [if_neg c3] at H
    have c3b0 : ((l0.length : Int) == (l1.length : Int)) = false := beq_eq_false_iff_ne.mpr c3
    have c3b1 : ((l0.length : Int) != (l1.length : Int)) = true := bne_iff_ne.mpr c3
    have c3b2 : (l0.length == l1.length) = false := by first | simpa using c3 | (simp at c3 ⊢; omega)
    obtain rfl := Option.some.inj H
    go_enter Try.func87, Try.ntmps87
    go_wp2
    repeat (go_quiet (fail); try go_wp2)
    go_ret
    exact ⟨by first | rfl | (simp; done) | (simp [*]; done), by repeat (first | exact Drawn0.refl _ | apply Drawn0.step)⟩

end Go.Proofs.Ytehfcnndjhjkoaa.PA

namespace Go.Proofs.Ytehfcnndjhjkoaa.PA
open Go.RowKit Go.Proofs.YtehfcnndjhjkoaaW.PrintWords Go.Proofs.YtehfcnndjhjkoaaW.PrintLast Go.Proofs.YtehfcnndjhjkoaaW.PrintMore
set_option linter.unusedVariables false
set_option linter.unusedSimpArgs false
theorem l3Same_loop : ∀ (t p q s : List Int), p.length = q.length → t.length = s.length → (p ++ t).length < 35184372088833 →
    Ev (fun k => spec_l3Same.l0 k (p ++ t) (q ++ s) (p.length : Int)) (decide (t = s))
  | [], p, q, s, _, hs, _ => by
    obtain rfl : s = [] := List.eq_nil_of_length_eq_zero hs.symm
    refine evRound (Ev.now _) fun k => ?_
    simp only [spec_l3Same.l0]; rw [if_neg len_nlt]; simp
  | a :: t, p, q, [], _, hs, _ => by simp at hs
  | a :: t, p, q, b :: s, hp, hs, hl => by
    by_cases e : a = b
    · subst e
      have ih := l3Same_loop t (p ++ [a]) (q ++ [a]) s (by simp [hp]) (by simpa using hs) (by simpa using hl)
      rw [← app_mid, ← app_mid] at ih
      refine evVal (evRound ih fun k => ?_) (by simp)
      simp only [spec_l3Same.l0]
      rw [if_pos len_lt, if_pos (by omega), if_pos (by simp [hp]; omega), rd_mid, show rd (q ++ a :: s) (p.length : Int) = a by rw [hp]; exact rd_mid _ _ _, if_pos rfl, next_mid p t a hl]
    · refine evRound (Ev.now _) fun k => ?_
      simp only [spec_l3Same.l0]
      rw [if_pos len_lt, if_pos (by omega), if_pos (by simp [hp]; omega), rd_mid, show rd (q ++ b :: s) (p.length : Int) = b by rw [hp]; exact rd_mid _ _ _, if_neg e]; simp [e]
theorem l3Same_ev (l m : List Int) (h : l.length ≤ 35184372088832) : Ev (fun k => spec_l3Same.f k l m) (decide (l = m)) := by
  by_cases e : l.length = m.length
  · have h1 := l3Same_loop l [] [] m rfl e (by simpa using (by omega : l.length < 35184372088833))
    refine Ev.congr (fun k => ?_) h1
    simp only [spec_l3Same.f]
    rw [if_pos (by omega)]; rfl
  · refine evEq fun k => ?_
    simp only [spec_l3Same.f]
    rw [if_neg (by omega)]
    have : l ≠ m := fun h => e (h ▸ rfl)
    simp [this]
theorem slEqual_loop : ∀ (t p q s : List Int) (n : Int), n = ((p ++ t).length : Nat) → p.length = q.length → t.length = s.length → (p ++ t).length < 35184372088833 →
    Ev (fun k => slices_Equal_int_int.l0 k (p ++ t) (q ++ s) n (p.length : Int)) (decide (t = s))
  | [], p, q, s, n, hn, _, hs, _ => by
    obtain rfl : s = [] := List.eq_nil_of_length_eq_zero hs.symm
    subst hn
    refine evRound (Ev.now _) fun k => ?_
    simp only [slices_Equal_int_int.l0]; rw [if_neg len_nlt]; simp
  | a :: t, p, q, [], n, _, _, hs, _ => by simp at hs
  | a :: t, p, q, b :: s, n, hn, hp, hs, hl => by
    subst hn
    by_cases e : a = b
    · subst e
      have ih := slEqual_loop t (p ++ [a]) (q ++ [a]) s _ rfl (by simp [hp]) (by simpa using hs) (by simpa using hl)
      rw [← app_mid, ← app_mid] at ih
      refine evVal (evRound ih fun k => ?_) (by simp)
      simp only [slices_Equal_int_int.l0]
      rw [if_pos len_lt, if_pos (by omega), if_pos len_lt, if_pos (by simp [hp]; omega), rd_mid, show rd (q ++ a :: s) (p.length : Int) = a by rw [hp]; exact rd_mid _ _ _, if_pos rfl, next_mid p t a hl]
    · refine evRound (Ev.now _) fun k => ?_
      simp only [slices_Equal_int_int.l0]
      rw [if_pos len_lt, if_pos (by omega), if_pos len_lt, if_pos (by simp [hp]; omega), rd_mid, show rd (q ++ b :: s) (p.length : Int) = b by rw [hp]; exact rd_mid _ _ _, if_neg e]; simp [e]
theorem slEqual_ev (l m : List Int) (h : l.length ≤ 35184372088832) : Ev (fun k => slices_Equal_int_int.f k l m) (decide (l = m)) := by
  by_cases e : l.length = m.length
  · have h1 := slEqual_loop l [] [] m _ rfl rfl e (by simpa using (by omega : l.length < 35184372088833))
    refine Ev.congr (fun k => ?_) h1
    simp only [slices_Equal_int_int.f]
    rw [if_pos (by omega)]; rfl
  · refine evEq fun k => ?_
    simp only [slices_Equal_int_int.f]
    rw [if_neg (by omega)]
    have : l ≠ m := fun h => e (h ▸ rfl)
    simp [this]
theorem without_eq (a : Bool) (l1 l2 : List Int) (h0 : l1.length ≠ 0) (h5 : l1.length ≤ 5) : impl_Array_without.f a l1 l2 false = some l1.dropLast := by
  simp only [impl_Array_without.f, impl_Array_rank.f]
  rw [if_neg (by decide), Option.bind_some, w64 (by omega) (by omega), if_pos (by omega), if_pos (by omega)]
  have : ((l1.length : Int) - 1).toNat = l1.length - 1 := by omega
  rw [this, ← List.dropLast_eq_take]
  simp only [slices_Clone_int_int.f]
  rw [if_pos (by simp; omega)]
  rfl
/-- Rows of two arrays beside each other. -/
def catRows (A B : List Int) (m n : Nat) : Nat → List Int
  | 0 => []
  | r + 1 => catRows A B m n r ++ ((A.drop (r * m)).take m ++ (B.drop (r * n)).take n)
def lastOf (l : List Int) : Int := rd l ((l.length : Int) - 1)
def catV (a : Bool) (l1 l2 : List Int) (b : Bool) (m1 m2 : List Int) : ArrAns :=
  if (arrOk a l1 l2 && arrOk b m1 m2) = true then
    (if (catL1 l1 m1).length = (catL1 m1 l1).length then
      (if (catL1 l1 m1).dropLast = (catL1 m1 l1).dropLast then
        (if a ≠ b ∧ 0 < (catL2 l1 l2 m1).length ∧ 0 < (catL2 m1 m2 l1).length then noArr 3
         else if shOk ((catL1 l1 m1).dropLast ++ [lastOf (catL1 l1 m1) + lastOf (catL1 m1 l1)]) = true then
           (if (catL2 l1 l2 m1).length = 0 ∧ 0 < (catL2 m1 m2 l1).length then b else a, (catL1 l1 m1).dropLast ++ [lastOf (catL1 l1 m1) + lastOf (catL1 m1 l1)],
             catRows (catL2 l1 l2 m1) (catL2 m1 m2 l1) (lastOf (catL1 l1 m1)).toNat (lastOf (catL1 m1 l1)).toNat (prod (catL1 l1 m1).dropLast).toNat, 0)
         else noArr 7)
       else noArr 5)
     else noArr 4)
  else noArr 3
/-- The two widened arrays stand as arrays do: the elements are as many as the shape says. -/
theorem catL_prod {a b : Bool} {l1 l2 m1 m2 : List Int} (oa : arrOk a l1 l2 = true) (ob : arrOk b m1 m2 = true) : prod (catL1 l1 m1) = (catL2 l1 l2 m1).length := by
  have pa := arrOk_prod oa
  have sb := arrOk_sh ob
  unfold catL1 catL2
  by_cases hz : l1.length = 0
  · rw [if_pos hz, if_pos hz, prod_app1, Int.mul_one, List.length_replicate]
    by_cases hy : m1.length = 0
    · have e1 : m1 = [] := List.length_eq_zero_iff.1 hy
      subst e1; simp [prod]
    · have hp := shOk_prod (shOk_one sb hy)
      rw [prod_app1, Int.mul_one] at hp
      omega
  · rw [if_neg hz, if_neg hz]
    split
    · rw [prod_app1, Int.mul_one]; exact pa
    · exact pa
end Go.Proofs.Ytehfcnndjhjkoaa.PA

namespace Go.Proofs.Ytehfcnndjhjkoaa.PA
open Go.RowKit Go.Proofs.YtehfcnndjhjkoaaW.PrintWords Go.Proofs.YtehfcnndjhjkoaaW.PrintLast Go.Proofs.YtehfcnndjhjkoaaW.PrintMore
set_option linter.unusedVariables false
set_option linter.unusedSimpArgs false
theorem Sx.perm {w W : World} {Ts Us : List Th} (h : Sx w W Ts) (p : Ts.Perm Us) : Sx w W Us :=
  ⟨h.below, fun T hT => h.ok T (p.mem_iff.2 hT), (p.pairwise_iff (fun h k hb ha => h k ha hb)).1 h.nod⟩

set_option maxRecDepth 100000 in
theorem mid_ (A : Option Addr) (c : Nat) (l : List Int) (x0 x1 k : Nat) (h : x0 + k = x1) (h1 : x1 ≤ l.length) (hc : l.length ≤ c) :
    ∃ A', (∀ W : World, (Instr.slice 22 (.slice A l.length c) (some (.int .i64 (x0 : Int))) (some (.int .i64 (x1 : Int))) none).run Try.prog W = .ok (.slice A' k (c - x0)) W) ∧ (∀ w, Kd.C (Kd.int .i64) w A l.length l → Kd.C (Kd.int .i64) w A' ((l.drop x0).take k).length ((l.drop x0).take k)) ∧ ((l.drop x0).take k).length = k := by
  obtain ⟨i0, hi0, _, hsz, _⟩ := info_parts info3
  obtain ⟨A', h2, h3, h4⟩ := print_mid_of (P := Try.prog) (Value.int .i64) 0 22 3 .i64 .i64 Try.underlying22 hi0 hsz A c l (x0 : Int) (x1 : Int) (by omega) (by omega) (by omega) hc
  have e : (l.take ((x1 : Int)).toNat).drop ((x0 : Int)).toNat = (l.drop x0).take k := by
    rw [Int.toNat_natCast, Int.toNat_natCast, List.drop_take]; congr; omega
  rw [e] at h2 h3
  have hk : ((l.drop x0).take k).length = k := by simp; omega
  exact ⟨A', fun W => by have := h2 W; rw [hk, Int.toNat_natCast] at this; exact this, fun w hw => Kd.C_of_reads (h1 := fun _ => rfl) (h3 w (Kd.reads_of_C hw)), hk⟩
theorem store_cell_step {P : Program} {ops : Array Oper} {o : Oper} {a : Act} {Q : Exit → Act → World → Prop} {Kc : Act → World → Prop} {W : World} (hw : Region.wanted o (yielded ops a.tmps) = true) (ty : TypeId) (x y : Operand) (ho : o.op = .store ty x y) (g j : Nat) (hx : a.eval x = .pointer (some ⟨g, j, none⟩)) (v : Value) (hy : a.eval y = v)
    (cs : Array Value) (t : TypeId) (hg : W.heap[g]? = some (.cells cs t (0, 0))) (hj : j < cs.size) (h1 : v.oneCell' = true) (hi : (P.info? ty).map (·.size) = some 1)
    (h : ∀ w1, w1.heap[g]? = some (.cells (cs.setIfInBounds j v) t (0, 0)) → But1 g W w1 → Kc (a.put o.dst undef) w1) : if Region.wanted o (yielded ops a.tmps) = true then Oper.wp P o a W Kc Q else Kc (a.put o.dst undef) W := by
  rw [if_pos hw]
  unfold Oper.wp execOp
  simp only [ho, hx, hy, Instr.storeAt, Instr.sureAddr, Sem.run_bind, Sem.run_pure, Result.andThen_ok, run_store_cell hg hj h1 hi]
  exact h _ (blk_set hg j v) ⟨fun k hk => Below.heap_setCell W _ v k hk, fun B hB => (Below.refl B W).setCell (p := ⟨g, j, none⟩) hB v⟩
/-- Two rows stand behind a store into a block of before. -/
theorem Sx.two_but {w W W' : World} {Ts : List Th} (h : Sx w W Ts) (i j : Nat) (hne : i ≠ j) {v1 v2 : Value} {l1 l2 : List Int} (hi : Ts[i]? = some (.row v1 l1)) (hj : Ts[j]? = some (.row v2 l2)) {g : Nat} (hb : But1 g W W') (hg : g < w.heap.size) (B : Nat) (hB : B ≤ w.heap.size) :
    Kd.R (Kd.int .i64) 3 W' B (fun k => some k ≠ v2.ownBlock) v1 l1 ∧ Kd.R (Kd.int .i64) 3 W' B (fun k => some k ≠ v1.ownBlock) v2 l2 := by
  have hi' : Th.ok w.heap.size W' (.row v1 l1) := Th.keep (h.get i hi) fun k hk _ => hb.same k (by have := (Th.lt (h.get i hi) k hk).1; omega)
  have hj' : Th.ok w.heap.size W' (.row v2 l2) := Th.keep (h.get j hj) fun k hk _ => hb.same k (by have := (Th.lt (h.get j hj) k hk).1; omega)
  obtain ⟨hil, hie⟩ := List.getElem?_eq_some_iff.1 hi
  obtain ⟨hjl, hje⟩ := List.getElem?_eq_some_iff.1 hj
  have hnod := List.pairwise_iff_getElem.1 h.nod
  have hd : ∀ k, v1.ownBlock = some k → ¬ v2.ownBlock = some k := fun k h1 h2 => by
    rcases Nat.lt_or_gt_of_ne hne with hl | hl
    · have := hnod i j hil hjl hl; rw [hie, hje] at this; exact this k h1 h2
    · have := hnod j i hjl hil hl; rw [hie, hje] at this; exact this k h2 h1
  exact ⟨Kd.R_lower (Kd.R_reok rfl hi' fun k hk e => hd k hk e.symm) hB, Kd.R_lower (Kd.R_reok rfl hj' fun k hk e => hd k e.symm hk) hB⟩
theorem catRows_len (A B : List Int) (m n N : Nat) (hA : N * m ≤ A.length) (hB : N * n ≤ B.length) : ∀ r, r ≤ N → (catRows A B m n r).length = r * (m + n)
  | 0, _ => by simp [catRows]
  | r + 1, h => by
    have h1 : (r + 1) * m ≤ N * m := Nat.mul_le_mul_right m h
    have h2 : (r + 1) * n ≤ N * n := Nat.mul_le_mul_right n h
    rw [Nat.succ_mul] at h1 h2
    simp only [catRows, List.length_append, List.length_take, List.length_drop]
    rw [catRows_len A B m n N hA hB r (by omega), Nat.min_eq_left (by omega), Nat.min_eq_left (by omega), Nat.succ_mul]

theorem rows_n {r N1 ma nb n : Nat} {L2 M2 : List Int} (ha : N1 * ma = L2.length) (hb : N1 * nb = M2.length) (hl : L2.length ≤ 10000) (hm : M2.length ≤ 10000) (hlt : r < N1) (hn : (catRows L2 M2 ma nb r).length = n) : n + ma + nb ≤ 20000 := by
  rw [catRows_len L2 M2 ma nb N1 (by omega) (by omega) r (by omega)] at hn
  have h : (r + 1) * (ma + nb) ≤ N1 * (ma + nb) := Nat.mul_le_mul_right _ hlt
  rw [Nat.succ_mul, Nat.mul_add N1, hn] at h
  omega
theorem rows_at {r N1 ma : Nat} {L2 : List Int} (ha : N1 * ma = L2.length) (hl : L2.length ≤ 10000) (hlt : r < N1) : ∃ x0 x1 : Nat, x0 = r * ma ∧ x0 + ma = x1 ∧ x1 ≤ L2.length ∧ IntKind.i64.wrap ((r : Int) * (ma : Int)) = (x0 : Int) ∧ IntKind.i64.wrap (((r + 1 : Nat) : Int) * (ma : Int)) = (x1 : Int) ∧ IntKind.i64.wrap ((x0 : Int) + (ma : Int)) = (x1 : Int) := by
  have h : (r + 1) * ma ≤ N1 * ma := Nat.mul_le_mul_right ma hlt
  have e : (r + 1) * ma = r * ma + ma := Nat.succ_mul r ma
  refine ⟨r * ma, (r + 1) * ma, rfl, e.symm, by omega, ?_, ?_, ?_⟩
  · rw [← Int.natCast_mul, IntWalk.i64_in _ (by omega)]
  · rw [← Int.natCast_mul, IntWalk.i64_in _ (by omega)]
  · rw [IntWalk.i64_in _ (by omega)]; omega
set_option maxHeartbeats 2000000 in
set_option maxRecDepth 100000 in
theorem cat_on (k0 : Nat) (a : Bool) (Aa1 : Option Addr) (ca1 : Nat) (la1 : List Int) (Aa2 : Option Addr) (ca2 : Nat) (la2 : List Int) (b : Bool) (Ab1 : Option Addr) (cb1 : Nat) (lb1 : List Int) (Ab2 : Option Addr) (cb2 : Nat) (lb2 : List Int) (w : World) (ha1 : Kd.C (Kd.int .i64) w Aa1 la1.length la1) (ka1 : la1.length ≤ ca1) (ha2 : Kd.C (Kd.int .i64) w Aa2 la2.length la2) (ka2 : la2.length ≤ ca2) (hb1 : Kd.C (Kd.int .i64) w Ab1 lb1.length lb1) (kb1 : lb1.length ≤ cb1) (hb2 : Kd.C (Kd.int .i64) w Ab2 lb2.length lb2) (kb2 : lb2.length ≤ cb2) (hv : impl_valid.f k0 [⟨a, la1, la2⟩, ⟨b, lb1, lb2⟩] = some 0) (L1 L2 M1 M2 : List Int) (hA : BesOk #[.agg #[.bool a, .slice Aa1 la1.length ca1, .slice Aa2 la2.length ca2], .agg #[.bool b, .slice Ab1 lb1.length cb1, .slice Ab2 lb2.length cb2]] a L1 L2 w) (hB : BesOk #[.agg #[.bool b, .slice Ab1 lb1.length cb1, .slice Ab2 lb2.length cb2], .agg #[.bool a, .slice Aa1 la1.length ca1, .slice Aa2 la2.length ca2]] b M1 M2 w) (heq : L1.length = M1.length) (P1 Q1 : List Int) (hwa : impl_Array_without.f a L1 L2 false = some P1) (hwb : impl_Array_without.f b M1 M2 false = some Q1) (k2 : Nat) (hq : slices_Equal_int_int.f k2 P1 Q1 = some true) (hway : a = b ∨ (a ≠ b ∧ L2.length = 0) ∨ (a ≠ b ∧ 0 < L2.length ∧ M2.length = 0)) (m : Nat) (hp5 : P1.length ≤ 5) (ma nb : Nat) (hma : rd L1 (m : Int) = (ma : Int)) (hnb : rd M1 (m : Int) = (nb : Int)) (z : Int) (hz : IntKind.i64.wrap ((ma : Int) + (nb : Int)) = z) (hl1m : L1.length = m + 1) (hm1m : M1.length = m + 1) (hl15 : L1.length ≤ 5) (hm15 : M1.length ≤ 5) (sw : Bool) (hsw : sw = (decide (L2.length = 0) && decide (0 < M2.length))) (kc : Bool) (hkc : kc = if sw then b else a) (k1 : Nat) (zN : Int) (zok : Bool) (hsh : impl_shapeOk.f k1 (P1 ++ [z]) = some (zN, zok)) (k3 N1 : Nat) (hsh1 : impl_shapeOk.f k3 P1 = some ((N1 : Int), true)) (hnr : N1 ≤ 10000) (hpa : N1 * ma = L2.length) (hpb : N1 * nb = M2.length) (hl2_ : L2.length ≤ 10000) (hm2_ : M2.length ≤ 10000) (K_ : Bool) (S1_ S2_ : List Int) (cd_ : Int) (h7 : zok = false → K_ = false ∧ S1_ = [] ∧ S2_ = [] ∧ cd_ = 7) (h0 : zok = true → K_ = kc ∧ S1_ = P1 ++ [z] ∧ S2_ = catRows L2 M2 ma nb N1 ∧ cd_ = 0) :
    Calls Try.prog 38 #[.agg #[.bool a, .slice Aa1 la1.length ca1, .slice Aa2 la2.length ca2], .agg #[.bool b, .slice Ab1 lb1.length cb1, .slice Ab2 lb2.length cb2]] w fun e w' => ∃ v1_ v2_ : Value, e = .returned (.tuple #[.agg #[.bool K_, v1_, v2_], .int .i64 cd_]) ∧ Kd.R (Kd.int .i64) 3 w' w.heap.size (fun k_ => some k_ ≠ (v2_ : Value).ownBlock) v1_ S1_ ∧ Kd.R (Kd.int .i64) 3 w' w.heap.size (fun k_ => some k_ ≠ (v1_ : Value).ownBlock) v2_ S2_ ∧ Below w.heap.size w w' := by
  have Ha1 := Aside0.mk ha1
  have Ka1 := Aside0.mk ka1
  clear ha1 ka1
  have Ha2 := Aside0.mk ha2
  have Ka2 := Aside0.mk ka2
  clear ha2 ka2
  have Hb1 := Aside0.mk hb1
  have Kb1 := Aside0.mk kb1
  clear hb1 kb1
  have Hb2 := Aside0.mk hb2
  have Kb2 := Aside0.mk kb2
  clear hb2 kb2
  have HV := Aside0.mk hv
  clear hv
  have HA := Aside0.mk hA
  have HB := Aside0.mk hB
  clear hA hB
  have d0 : ((L1.length : Int) == (M1.length : Int)) = true := beq_iff_eq.mpr (by omega)
  have d1 : ((L1.length : Int) != (M1.length : Int)) = false := by rw [bne, d0]; rfl
  have HLM := Aside0.mk heq
  have HWA := Aside0.mk hwa
  have HWB := Aside0.mk hwb
  clear heq hwa hwb
  have HEQ := Aside0.mk hq
  clear hq
  have HP5 := Aside0.mk hp5
  clear hp5
  have HL1M := Aside0.mk hl1m
  clear hl1m
  have HM1M := Aside0.mk hm1m
  clear hm1m
  have HL15 := Aside0.mk hl15
  clear hl15
  have HM15 := Aside0.mk hm15
  clear hm15
  have HSW := Aside0.mk hsw
  clear hsw
  have HKC := Aside0.mk hkc
  clear hkc
  have HSH := Aside0.mk hsh
  clear hsh
  have HSH1 := Aside0.mk hsh1
  clear hsh1
  have HNR := Aside0.mk hnr
  clear hnr
  have HPA := Aside0.mk hpa
  clear hpa
  have HPB := Aside0.mk hpb
  clear hpb
  have HL2 := Aside0.mk hl2_
  clear hl2_
  have HM2 := Aside0.mk hm2_
  clear hm2_
  have H7 := Aside0.mk h7
  clear h7
  have H0 := Aside0.mk h0
  clear h0
  have HWAY := Aside0.mk hway
  clear hway
  have HPZ := Aside0.mk (show (P1 ++ [z]).length = P1.length + 1 by simp)
  have HS := Aside0.mk (Sx.start w)
  go_enter Try.func38, Try.ntmps38
  go_upto_region 4 with (first | ((with_reducible refine gate_dst (N := 2) rfl ?_); refine box_event ?hg (N := 2) ?hd (cs := #[.bool a, .slice Aa1 la1.length ca1, .slice Aa2 la2.length ca2]) (t := 28) ?hr ?_; (case hd => rfl); (case hg => rfl); (case hr => first | (go_simp; done) | (go_simp; rfl)); intro gK hg1 w1 hx1 hb1; have nS : Aside0 (Sx w w1 [(.blk gK #[.bool a, .slice Aa1 la1.length ca1, .slice Aa2 la2.length ca2] 28)]) := Aside0.mk (HS.out.box hg1 hx1 hb1); clear HS; have HS := nS; clear nS hg1 hx1 hb1) | ((with_reducible refine gate_dst (N := 3) rfl ?_); refine box_event ?hg (N := 3) ?hd (cs := #[.bool b, .slice Ab1 lb1.length cb1, .slice Ab2 lb2.length cb2]) (t := 28) ?hr ?_; (case hd => rfl); (case hg => rfl); (case hr => first | (go_simp; done) | (go_simp; rfl)); intro gB hg2 w2 hx2 hb2; have nS : Aside0 (Sx w w2 [(.blk gB #[.bool b, .slice Ab1 lb1.length cb1, .slice Ab2 lb2.length cb2] 28), (.blk gK #[.bool a, .slice Aa1 la1.length ca1, .slice Aa2 la2.length ca2] 28)]) := Aside0.mk (HS.out.box hg2 hx2 hb2); clear HS; have HS := nS; clear nS hg2 hx2 hb2) | ((with_reducible refine gate_dst (N := 4) rfl ?_); refine box_event ?hg (N := 4) ?hd (cs := #[.bool false, .slice none 0 0, .slice none 0 0]) (t := 28) ?hr ?_; (case hd => rfl); (case hg => rfl); (case hr => first | (go_simp; done) | (go_simp; rfl)); intro gR hg3 w3 hx3 hb3; have nS : Aside0 (Sx w w3 [(.blk gR #[.bool false, .slice none 0 0, .slice none 0 0] 28), (.blk gB #[.bool b, .slice Ab1 lb1.length cb1, .slice Ab2 lb2.length cb2] 28), (.blk gK #[.bool a, .slice Aa1 la1.length ca1, .slice Aa2 la2.length ca2] 28)]) := Aside0.mk (HS.out.box hg3 hx3 hb3); clear HS; have HS := nS; clear nS hg3 hx3 hb3) | ((with_reducible refine gate_dst (N := 17) rfl ?_); refine wpList_load_row rfl 28 (.tmp 2) rfl gK rfl 28 #[.bool a, .slice Aa1 la1.length ca1, .slice Aa2 la2.length ca2] (0, 0) _ (HS.out.blk 2 rfl) Try.underlying28 rfl (by kernel_rfl) ?_) | ((with_reducible refine gate_dst (N := 18) rfl ?_); refine wpList_load_row rfl 28 (.tmp 3) rfl gB rfl 28 #[.bool b, .slice Ab1 lb1.length cb1, .slice Ab2 lb2.length cb2] (0, 0) _ (HS.out.blk 1 rfl) Try.underlying28 rfl (by kernel_rfl) ?_) | ((with_reducible refine gate_dst (N := 19) rfl ?_); refine lit_event ?hg (N := 19) ?hd (cs := #[.bool a, .slice Aa1 la1.length ca1, .slice Aa2 la2.length ca2, .bool b, .slice Ab1 lb1.length cb1, .slice Ab2 lb2.length cb2]) (t := 28) (n := 2) ?hr ?_; (case hd => rfl); (case hg => rfl); (case hr => first | (go_simp; done) | (go_simp; rfl)); intro gV hg4 w4 hx4 hb4; have nS : Aside0 (Sx w w4 [(.blk gV #[.bool a, .slice Aa1 la1.length ca1, .slice Aa2 la2.length ca2, .bool b, .slice Ab1 lb1.length cb1, .slice Ab2 lb2.length cb2] 28), (.blk gR #[.bool false, .slice none 0 0, .slice none 0 0] 28), (.blk gB #[.bool b, .slice Ab1 lb1.length cb1, .slice Ab2 lb2.length cb2] 28), (.blk gK #[.bool a, .slice Aa1 la1.length ca1, .slice Aa2 la2.length ca2] 28)]) := Aside0.mk (HS.out.box hg4 hx4 hb4); clear HS; have HS := nS; clear nS hg4 hx4 hb4) | (go_at_call 58; refine (impl_valid.calls k0 _ 2 [⟨a, la1, la2⟩, ⟨b, lb1, lb2⟩] 0 _ (pair_C (HS.out.blk 0 rfl) (Kd.C_below Ha1.out HS.out.below) Ka1.out (Kd.C_below Ha2.out HS.out.below) Ka2.out (Kd.C_below Hb1.out HS.out.below) Kb1.out (Kd.C_below Hb2.out HS.out.below) Kb2.out) (Nat.le_refl _) HV.out).mono ?_; rintro e w5 ⟨rfl, hb5⟩; have nS : Aside0 (Sx w w5 [(.blk gV #[.bool a, .slice Aa1 la1.length ca1, .slice Aa2 la2.length ca2, .bool b, .slice Ab1 lb1.length cb1, .slice Ab2 lb2.length cb2] 28), (.blk gR #[.bool false, .slice none 0 0, .slice none 0 0] 28), (.blk gB #[.bool b, .slice Ab1 lb1.length cb1, .slice Ab2 lb2.length cb2] 28), (.blk gK #[.bool a, .slice Aa1 la1.length ca1, .slice Aa2 la2.length ca2] 28)]) := Aside0.mk (HS.out.step hb5); clear HS; have HS := nS; clear nS hb5))
  have nS := Aside0.mk HS.out.drew
  clear HS
  have HS := nS
  clear nS
  refine start_ (n := 8) (S := (fun w' => w'.cell? ⟨gK, 0, none⟩ = some (.bool a) ∧ w'.cell? ⟨gK, 1, none⟩ = some (.slice Aa1 la1.length ca1) ∧ w'.cell? ⟨gK, 2, none⟩ = some (.slice Aa2 la2.length ca2) ∧ w'.cell? ⟨gB, 0, none⟩ = some (.bool b) ∧ w'.cell? ⟨gB, 1, none⟩ = some (.slice Ab1 lb1.length cb1) ∧ w'.cell? ⟨gB, 2, none⟩ = some (.slice Ab2 lb2.length cb2))) (ds := [6, 7]) #[false, false, false, false, false, false, false, false] (by kernel_rfl) rfl rfl ⟨(blk_cell (HS.out.blk 3 rfl) 0).trans rfl, (blk_cell (HS.out.blk 3 rfl) 1).trans rfl, (blk_cell (HS.out.blk 3 rfl) 2).trans rfl, (blk_cell (HS.out.blk 2 rfl) 0).trans rfl, (blk_cell (HS.out.blk 2 rfl) 1).trans rfl, (blk_cell (HS.out.blk 2 rfl) 2).trans rfl⟩ (fun hHeld => ?_)
  refine take_ (i := 0) (N := (some 25)) (v := ?_) (a' := ?_) #[true, false, false, false, false, false, false, false] rfl rfl (by kernel_rfl) (fun _ _ _ h => h) (Or.inl ⟨by rfl, ?_⟩) hHeld ?_ ?_
  rotate_left
  · rintro w' ⟨s0, s1, s2, s3, s4, s5⟩
    go_simp
    with_reducible rfl
  rotate_left
  · simp only [Act.put, List.setIfInBounds_toArray, List.set_cons_zero, List.set_cons_succ]
    rfl
  refine take_ (i := 1) (N := (some 26)) (v := ?_) (a' := ?_) #[true, true, false, false, false, false, false, false] rfl rfl (by kernel_rfl) (fun _ _ _ h => h) (Or.inl ⟨by rfl, ?_⟩) hHeld ?_ ?_
  rotate_left
  · rintro w' ⟨s0, s1, s2, s3, s4, s5⟩
    go_simp
    with_reducible rfl
  rotate_left
  · simp only [Act.put, List.setIfInBounds_toArray, List.set_cons_zero, List.set_cons_succ]
    rfl
  refine take_ (i := 3) (N := (some 28)) (v := ?_) (a' := ?_) #[true, true, false, true, false, false, false, false] rfl rfl (by kernel_rfl) (fun _ _ _ h => h) (Or.inl ⟨by rfl, ?_⟩) hHeld ?_ ?_
  rotate_left
  · rintro w' ⟨s0, s1, s2, s3, s4, s5⟩
    go_simp
    with_reducible rfl
  rotate_left
  · simp only [Act.put, List.setIfInBounds_toArray, List.set_cons_zero, List.set_cons_succ]
    rfl
  refine take_ (i := 4) (N := (some 29)) (v := ?_) (a' := ?_) #[true, true, false, true, true, false, false, false] rfl rfl (by kernel_rfl) (fun _ _ _ h => h) (Or.inl ⟨by rfl, ?_⟩) hHeld ?_ ?_
  rotate_left
  · rintro w' ⟨s0, s1, s2, s3, s4, s5⟩
    go_simp
    with_reducible rfl
  rotate_left
  · simp only [Act.put, List.setIfInBounds_toArray, List.set_cons_zero, List.set_cons_succ]
    rfl
  refine one_ (i := 2) (N := (some 27)) #[true, true, true, true, true, false, false, false] rfl rfl (by kernel_rfl) (by decide) (fun K hK => ?_)
  refine goes_ Try.func89 (by kernel_rfl) rfl #[.agg #[.bool a, .slice Aa1 la1.length ca1, .slice Aa2 la2.length ca2], .agg #[.bool b, .slice Ab1 lb1.length cb1, .slice Ab2 lb2.length cb2]] (by rfl) rfl rfl (by (try simp only [List.map_toArray, List.map_cons, List.map_nil]); first | done | rfl) ?_
  with_reducible refine (HA.out.go _ HS.out.below).mono ?_
  rintro e w6 ⟨As, cs, Ad, cd, rfl, hCA1, hKA1, hCA2, hKA2, hb6⟩
  have CA1 := Aside0.mk hCA1
  have KA1 := Aside0.mk hKA1
  have CA2 := Aside0.mk hCA2
  have KA2 := Aside0.mk hKA2
  clear hCA1 hKA1 hCA2 hKA2
  have nS : Aside0 (Sx w w6 [(.blk gV #[.bool a, .slice Aa1 la1.length ca1, .slice Aa2 la2.length ca2, .bool b, .slice Ab1 lb1.length cb1, .slice Ab2 lb2.length cb2] 28), (.blk gR #[.bool false, .slice none 0 0, .slice none 0 0] 28), (.blk gB #[.bool b, .slice Ab1 lb1.length cb1, .slice Ab2 lb2.length cb2] 28), (.blk gK #[.bool a, .slice Aa1 la1.length ca1, .slice Aa2 la2.length ca2] 28)]) := Aside0.mk (HS.out.step hb6)
  clear HS hb6
  have HS := nS
  clear nS
  refine ⟨_, rfl, ?_⟩
  refine hK.out _ _ ⟨(blk_cell (HS.out.blk 3 rfl) 0).trans rfl, (blk_cell (HS.out.blk 3 rfl) 1).trans rfl, (blk_cell (HS.out.blk 3 rfl) 2).trans rfl, (blk_cell (HS.out.blk 2 rfl) 0).trans rfl, (blk_cell (HS.out.blk 2 rfl) 1).trans rfl, (blk_cell (HS.out.blk 2 rfl) 2).trans rfl⟩ (fun hHeld => ?_)
  clear hK K
  refine norm_ (a' := ?_) ?_ ?_
  rotate_left
  · show Act.put _ (some 27) _ = _
    simp only [Act.put, List.setIfInBounds_toArray, List.set_cons_zero, List.set_cons_succ]
    rfl
  refine one_ (i := 5) (N := (some 30)) #[true, true, true, true, true, true, false, false] rfl rfl (by kernel_rfl) (by decide) (fun K hK => ?_)
  refine goes_ Try.func89 (by kernel_rfl) rfl #[.agg #[.bool b, .slice Ab1 lb1.length cb1, .slice Ab2 lb2.length cb2], .agg #[.bool a, .slice Aa1 la1.length ca1, .slice Aa2 la2.length ca2]] (by rfl) rfl rfl (by (try simp only [List.map_toArray, List.map_cons, List.map_nil]); first | done | rfl) ?_
  with_reducible refine (HB.out.go _ HS.out.below).mono ?_
  rintro e w7 ⟨Bs, ds, Bd, dd, rfl, hCB1, hKB1, hCB2, hKB2, hb7⟩
  have CB1 := Aside0.mk hCB1
  have KB1 := Aside0.mk hKB1
  have CB2 := Aside0.mk hCB2
  have KB2 := Aside0.mk hKB2
  clear hCB1 hKB1 hCB2 hKB2
  have nCA1 := Aside0.mk (Kd.C_below CA1.out hb7)
  clear CA1
  have CA1 := nCA1
  clear nCA1
  have nCA2 := Aside0.mk (Kd.C_below CA2.out hb7)
  clear CA2
  have CA2 := nCA2
  clear nCA2
  have nS : Aside0 (Sx w w7 [(.blk gV #[.bool a, .slice Aa1 la1.length ca1, .slice Aa2 la2.length ca2, .bool b, .slice Ab1 lb1.length cb1, .slice Ab2 lb2.length cb2] 28), (.blk gR #[.bool false, .slice none 0 0, .slice none 0 0] 28), (.blk gB #[.bool b, .slice Ab1 lb1.length cb1, .slice Ab2 lb2.length cb2] 28), (.blk gK #[.bool a, .slice Aa1 la1.length ca1, .slice Aa2 la2.length ca2] 28)]) := Aside0.mk (HS.out.step hb7)
  clear HS hb7
  have HS := nS
  clear nS
  refine ⟨_, rfl, ?_⟩
  refine hK.out _ _ ⟨(blk_cell (HS.out.blk 3 rfl) 0).trans rfl, (blk_cell (HS.out.blk 3 rfl) 1).trans rfl, (blk_cell (HS.out.blk 3 rfl) 2).trans rfl, (blk_cell (HS.out.blk 2 rfl) 0).trans rfl, (blk_cell (HS.out.blk 2 rfl) 1).trans rfl, (blk_cell (HS.out.blk 2 rfl) 2).trans rfl⟩ (fun hHeld => ?_)
  clear hK K
  refine norm_ (a' := ?_) ?_ ?_
  rotate_left
  · show Act.put _ (some 30) _ = _
    simp only [Act.put, List.setIfInBounds_toArray, List.set_cons_zero, List.set_cons_succ]
    rfl
  refine last_ (i := 6) (N := none) #[true, true, true, true, true, true, true, false] rfl rfl (by kernel_rfl) (by decide) (fun K hK => ?_)
  refine store_named_step (by rfl) 28 (.tmp 2) (.tmp 27) rfl gK #[.bool a, .slice As L1.length cs, .slice Ad L2.length cd] rfl rfl 28 #[.bool a, .slice Aa1 la1.length ca1, .slice Aa2 la2.length ca2] (HS.out.blk 3 rfl) (by kernel_rfl) rfl (by simp [Value.oneCell']) ?_
  intro wz6 hxz hbz
  have nCA1 := Aside0.mk (C_but1 CA1.out hbz (HS.out.blk 3 rfl) (noInt_A _ _ _ _ _ _ _))
  clear CA1
  have CA1 := nCA1
  clear nCA1
  have nCA2 := Aside0.mk (C_but1 CA2.out hbz (HS.out.blk 3 rfl) (noInt_A _ _ _ _ _ _ _))
  clear CA2
  have CA2 := nCA2
  clear nCA2
  have nCB1 := Aside0.mk (C_but1 CB1.out hbz (HS.out.blk 3 rfl) (noInt_A _ _ _ _ _ _ _))
  clear CB1
  have CB1 := nCB1
  clear nCB1
  have nCB2 := Aside0.mk (C_but1 CB2.out hbz (HS.out.blk 3 rfl) (noInt_A _ _ _ _ _ _ _))
  clear CB2
  have CB2 := nCB2
  clear nCB2
  have nS : Aside0 (Sx w wz6 [(.blk gV #[.bool a, .slice Aa1 la1.length ca1, .slice Aa2 la2.length ca2, .bool b, .slice Ab1 lb1.length cb1, .slice Ab2 lb2.length cb2] 28), (.blk gR #[.bool false, .slice none 0 0, .slice none 0 0] 28), (.blk gB #[.bool b, .slice Ab1 lb1.length cb1, .slice Ab2 lb2.length cb2] 28), (.blk gK #[.bool a, .slice As L1.length cs, .slice Ad L2.length cd] 28)]) := Aside0.mk (HS.out.put 3 rfl hxz hbz)
  clear HS hxz hbz
  have HS := nS
  clear nS
  refine hK.out _ _ ?_
  clear hK K
  refine norm_ (a' := ?_) ?_ ?_
  rotate_left
  · show Act.put _ none _ = _
    simp only [Act.put, List.setIfInBounds_toArray, List.set_cons_zero, List.set_cons_succ]
    rfl
  refine last_ (i := 7) (N := none) #[true, true, true, true, true, true, true, true] rfl rfl (by kernel_rfl) (by decide) (fun K hK => ?_)
  refine store_named_step (by rfl) 28 (.tmp 3) (.tmp 30) rfl gB #[.bool b, .slice Bs M1.length ds, .slice Bd M2.length dd] rfl rfl 28 #[.bool b, .slice Ab1 lb1.length cb1, .slice Ab2 lb2.length cb2] (HS.out.blk 2 rfl) (by kernel_rfl) rfl (by simp [Value.oneCell']) ?_
  intro wz7 hxz hbz
  have nCA1 := Aside0.mk (C_but1 CA1.out hbz (HS.out.blk 2 rfl) (noInt_A _ _ _ _ _ _ _))
  clear CA1
  have CA1 := nCA1
  clear nCA1
  have nCA2 := Aside0.mk (C_but1 CA2.out hbz (HS.out.blk 2 rfl) (noInt_A _ _ _ _ _ _ _))
  clear CA2
  have CA2 := nCA2
  clear nCA2
  have nCB1 := Aside0.mk (C_but1 CB1.out hbz (HS.out.blk 2 rfl) (noInt_A _ _ _ _ _ _ _))
  clear CB1
  have CB1 := nCB1
  clear nCB1
  have nCB2 := Aside0.mk (C_but1 CB2.out hbz (HS.out.blk 2 rfl) (noInt_A _ _ _ _ _ _ _))
  clear CB2
  have CB2 := nCB2
  clear nCB2
  have nS : Aside0 (Sx w wz7 [(.blk gV #[.bool a, .slice Aa1 la1.length ca1, .slice Aa2 la2.length ca2, .bool b, .slice Ab1 lb1.length cb1, .slice Ab2 lb2.length cb2] 28), (.blk gR #[.bool false, .slice none 0 0, .slice none 0 0] 28), (.blk gB #[.bool b, .slice Bs M1.length ds, .slice Bd M2.length dd] 28), (.blk gK #[.bool a, .slice As L1.length cs, .slice Ad L2.length cd] 28)]) := Aside0.mk (HS.out.put 2 rfl hxz hbz)
  clear HS hxz hbz
  have HS := nS
  clear nS
  refine hK.out _ _ ?_
  clear hK K
  refine done_ (by kernel_rfl) ?_
  have HB0 := Aside0.mk HS.out.below
  have HGR := Aside0.mk (HS.out.get 1 rfl).2
  have HKB := Aside0.mk (HS.out.blk 3 rfl)
  have HBB := Aside0.mk (HS.out.blk 2 rfl)
  have HRB := Aside0.mk (HS.out.blk 1 rfl)
  have HGL := Aside0.mk (blk_lt HRB.out)
  clear HS HA HB
  have HS := Aside0.mk (Sx.start wz7)
  go_simp
  go_upto_region 5 with fail
  have nS := Aside0.mk HS.out.drew
  clear HS
  have HS := nS
  clear nS
  refine start_ (n := 5) (S := (fun w' => w'.cell? ⟨gK, 0, none⟩ = some (.bool a) ∧ w'.cell? ⟨gK, 1, none⟩ = some (.slice As L1.length cs) ∧ w'.cell? ⟨gK, 2, none⟩ = some (.slice Ad L2.length cd) ∧ w'.cell? ⟨gB, 0, none⟩ = some (.bool b) ∧ w'.cell? ⟨gB, 1, none⟩ = some (.slice Bs M1.length ds) ∧ w'.cell? ⟨gB, 2, none⟩ = some (.slice Bd M2.length dd))) (ds := []) #[false, false, false, false, false] (by kernel_rfl) rfl rfl ⟨(blk_cell (blk_below HKB.out HS.out.below) 0).trans rfl, (blk_cell (blk_below HKB.out HS.out.below) 1).trans rfl, (blk_cell (blk_below HKB.out HS.out.below) 2).trans rfl, (blk_cell (blk_below HBB.out HS.out.below) 0).trans rfl, (blk_cell (blk_below HBB.out HS.out.below) 1).trans rfl, (blk_cell (blk_below HBB.out HS.out.below) 2).trans rfl⟩ (fun hHeld => ?_)
  refine take_ (i := 0) (N := (some 31)) (v := ?_) (a' := ?_) #[true, false, false, false, false] rfl rfl (by kernel_rfl) (fun _ _ _ h => h) (Or.inl ⟨by rfl, ?_⟩) hHeld ?_ ?_
  rotate_left
  · rintro w' ⟨s0, s1, s2, s3, s4, s5⟩
    go_simp
    with_reducible rfl
  rotate_left
  · simp only [Act.put, List.setIfInBounds_toArray, List.set_cons_zero, List.set_cons_succ]
    rfl
  refine take_ (i := 2) (N := (some 33)) (v := ?_) (a' := ?_) #[true, false, true, false, false] rfl rfl (by kernel_rfl) (fun _ _ _ h => h) (Or.inl ⟨by rfl, ?_⟩) hHeld ?_ ?_
  rotate_left
  · rintro w' ⟨s0, s1, s2, s3, s4, s5⟩
    go_simp
    with_reducible rfl
  rotate_left
  · simp only [Act.put, List.setIfInBounds_toArray, List.set_cons_zero, List.set_cons_succ]
    rfl
  refine one_ (i := 1) (N := (some 32)) #[true, true, true, false, false] rfl rfl (by kernel_rfl) (by decide) (fun K hK => ?_)
  refine goes_ Try.func90 (by kernel_rfl) rfl #[.agg #[.bool a, .slice As L1.length cs, .slice Ad L2.length cd]] (by rfl) rfl rfl (by (try simp only [List.map_toArray, List.map_cons, List.map_nil]); first | done | rfl) ?_
  with_reducible refine (impl_Array_rank.calls a As cs L1 Ad cd L2 (L1.length : Int) _ (Kd.C_below CA1.out HS.out.below) KA1.out (Kd.C_below CA2.out HS.out.below) KA2.out rfl).mono ?_
  rintro e v1 ⟨rfl, hb1⟩
  have nS : Aside0 (Sx wz7 v1 []) := Aside0.mk (HS.out.step hb1)
  clear HS hb1
  have HS := nS
  clear nS
  refine ⟨_, rfl, ?_⟩
  refine hK.out _ _ ⟨(blk_cell (blk_below HKB.out HS.out.below) 0).trans rfl, (blk_cell (blk_below HKB.out HS.out.below) 1).trans rfl, (blk_cell (blk_below HKB.out HS.out.below) 2).trans rfl, (blk_cell (blk_below HBB.out HS.out.below) 0).trans rfl, (blk_cell (blk_below HBB.out HS.out.below) 1).trans rfl, (blk_cell (blk_below HBB.out HS.out.below) 2).trans rfl⟩ (fun hHeld => ?_)
  clear hK K
  refine norm_ (a' := ?_) ?_ ?_
  rotate_left
  · show Act.put _ (some 32) _ = _
    simp only [Act.put, List.setIfInBounds_toArray, List.set_cons_zero, List.set_cons_succ]
    rfl
  refine one_ (i := 3) (N := (some 34)) #[true, true, true, true, false] rfl rfl (by kernel_rfl) (by decide) (fun K hK => ?_)
  refine goes_ Try.func90 (by kernel_rfl) rfl #[.agg #[.bool b, .slice Bs M1.length ds, .slice Bd M2.length dd]] (by rfl) rfl rfl (by (try simp only [List.map_toArray, List.map_cons, List.map_nil]); first | done | rfl) ?_
  with_reducible refine (impl_Array_rank.calls b Bs ds M1 Bd dd M2 (M1.length : Int) _ (Kd.C_below CB1.out HS.out.below) KB1.out (Kd.C_below CB2.out HS.out.below) KB2.out rfl).mono ?_
  rintro e v2 ⟨rfl, hb2⟩
  have nS : Aside0 (Sx wz7 v2 []) := Aside0.mk (HS.out.step hb2)
  clear HS hb2
  have HS := nS
  clear nS
  refine ⟨_, rfl, ?_⟩
  refine hK.out _ _ ⟨(blk_cell (blk_below HKB.out HS.out.below) 0).trans rfl, (blk_cell (blk_below HKB.out HS.out.below) 1).trans rfl, (blk_cell (blk_below HKB.out HS.out.below) 2).trans rfl, (blk_cell (blk_below HBB.out HS.out.below) 0).trans rfl, (blk_cell (blk_below HBB.out HS.out.below) 1).trans rfl, (blk_cell (blk_below HBB.out HS.out.below) 2).trans rfl⟩ (fun hHeld => ?_)
  clear hK K
  refine norm_ (a' := ?_) ?_ ?_
  rotate_left
  · show Act.put _ (some 34) _ = _
    simp only [Act.put, List.setIfInBounds_toArray, List.set_cons_zero, List.set_cons_succ]
    rfl
  refine pure_ (i := 4) (N := (some 35)) (v := ?_) (a' := ?_) #[true, true, true, true, true] rfl rfl (by kernel_rfl) (fun _ _ _ h => h) (Or.inl ⟨by rfl, ?_⟩) ?_ ?_
  rotate_left
  · intro w'
    go_simp
    with_reducible rfl
  rotate_left
  · simp only [Act.put, List.setIfInBounds_toArray, List.set_cons_zero, List.set_cons_succ]
    rfl
  refine done_ (by kernel_rfl) ?_
  go_upto_region 7 with fail
  have nS := Aside0.mk HS.out.drew
  clear HS
  have HS := nS
  clear nS
  refine start_ (n := 6) (S := (fun w' => w'.cell? ⟨gK, 0, none⟩ = some (.bool a) ∧ w'.cell? ⟨gK, 1, none⟩ = some (.slice As L1.length cs) ∧ w'.cell? ⟨gK, 2, none⟩ = some (.slice Ad L2.length cd) ∧ w'.cell? ⟨gB, 0, none⟩ = some (.bool b) ∧ w'.cell? ⟨gB, 1, none⟩ = some (.slice Bs M1.length ds) ∧ w'.cell? ⟨gB, 2, none⟩ = some (.slice Bd M2.length dd))) (ds := []) #[false, false, false, false, false, false] (by kernel_rfl) rfl rfl ⟨(blk_cell (blk_below HKB.out HS.out.below) 0).trans rfl, (blk_cell (blk_below HKB.out HS.out.below) 1).trans rfl, (blk_cell (blk_below HKB.out HS.out.below) 2).trans rfl, (blk_cell (blk_below HBB.out HS.out.below) 0).trans rfl, (blk_cell (blk_below HBB.out HS.out.below) 1).trans rfl, (blk_cell (blk_below HBB.out HS.out.below) 2).trans rfl⟩ (fun hHeld => ?_)
  refine take_ (i := 0) (N := (some 37)) (v := ?_) (a' := ?_) #[true, false, false, false, false, false] rfl rfl (by kernel_rfl) (fun _ _ _ h => h) (Or.inl ⟨by rfl, ?_⟩) hHeld ?_ ?_
  rotate_left
  · rintro w' ⟨s0, s1, s2, s3, s4, s5⟩
    go_simp
    with_reducible rfl
  rotate_left
  · simp only [Act.put, List.setIfInBounds_toArray, List.set_cons_zero, List.set_cons_succ]
    rfl
  refine take_ (i := 2) (N := (some 39)) (v := ?_) (a' := ?_) #[true, false, true, false, false, false] rfl rfl (by kernel_rfl) (fun _ _ _ h => h) (Or.inl ⟨by rfl, ?_⟩) hHeld ?_ ?_
  rotate_left
  · rintro w' ⟨s0, s1, s2, s3, s4, s5⟩
    go_simp
    with_reducible rfl
  rotate_left
  · simp only [Act.put, List.setIfInBounds_toArray, List.set_cons_zero, List.set_cons_succ]
    rfl
  refine one_ (i := 1) (N := (some 38)) #[true, true, true, false, false, false] rfl rfl (by kernel_rfl) (by decide) (fun K hK => ?_)
  refine goes_ Try.func92 (by kernel_rfl) rfl #[.agg #[.bool a, .slice As L1.length cs, .slice Ad L2.length cd], .bool false] (by rfl) rfl rfl (by (try simp only [List.map_toArray, List.map_cons, List.map_nil]); first | done | rfl) ?_
  with_reducible refine (impl_Array_without.calls a As cs L1 Ad cd L2 false P1 _ (Kd.C_below CA1.out HS.out.below) KA1.out (Kd.C_below CA2.out HS.out.below) KA2.out HWA.out).mono ?_
  rintro e v3 ⟨v_, rfl, hr3, hb3⟩
  obtain ⟨Ps, pc, hv_⟩ := Kd.R_slice hr3
  subst hv_
  have nS : Aside0 (Sx wz7 v3 [(.row (.slice Ps P1.length pc) P1)]) := Aside0.mk (HS.out.addRow hb3 hr3)
  clear HS hb3
  have HS := nS
  clear nS
  refine ⟨_, rfl, ?_⟩
  refine hK.out _ _ ⟨(blk_cell (blk_below HKB.out HS.out.below) 0).trans rfl, (blk_cell (blk_below HKB.out HS.out.below) 1).trans rfl, (blk_cell (blk_below HKB.out HS.out.below) 2).trans rfl, (blk_cell (blk_below HBB.out HS.out.below) 0).trans rfl, (blk_cell (blk_below HBB.out HS.out.below) 1).trans rfl, (blk_cell (blk_below HBB.out HS.out.below) 2).trans rfl⟩ (fun hHeld => ?_)
  clear hK K
  refine norm_ (a' := ?_) ?_ ?_
  rotate_left
  · show Act.put _ (some 38) _ = _
    simp only [Act.put, List.setIfInBounds_toArray, List.set_cons_zero, List.set_cons_succ]
    rfl
  refine one_ (i := 3) (N := (some 40)) #[true, true, true, true, false, false] rfl rfl (by kernel_rfl) (by decide) (fun K hK => ?_)
  refine goes_ Try.func92 (by kernel_rfl) rfl #[.agg #[.bool b, .slice Bs M1.length ds, .slice Bd M2.length dd], .bool false] (by rfl) rfl rfl (by (try simp only [List.map_toArray, List.map_cons, List.map_nil]); first | done | rfl) ?_
  with_reducible refine (impl_Array_without.calls b Bs ds M1 Bd dd M2 false Q1 _ (Kd.C_below CB1.out HS.out.below) KB1.out (Kd.C_below CB2.out HS.out.below) KB2.out HWB.out).mono ?_
  rintro e v4 ⟨v_, rfl, hr4, hb4⟩
  obtain ⟨Qs, qc, hv_⟩ := Kd.R_slice hr4
  subst hv_
  have nS : Aside0 (Sx wz7 v4 [(.row (.slice Qs Q1.length qc) Q1), (.row (.slice Ps P1.length pc) P1)]) := Aside0.mk (HS.out.addRow hb4 hr4)
  clear HS hb4
  have HS := nS
  clear nS
  refine ⟨_, rfl, ?_⟩
  refine hK.out _ _ ⟨(blk_cell (blk_below HKB.out HS.out.below) 0).trans rfl, (blk_cell (blk_below HKB.out HS.out.below) 1).trans rfl, (blk_cell (blk_below HKB.out HS.out.below) 2).trans rfl, (blk_cell (blk_below HBB.out HS.out.below) 0).trans rfl, (blk_cell (blk_below HBB.out HS.out.below) 1).trans rfl, (blk_cell (blk_below HBB.out HS.out.below) 2).trans rfl⟩ (fun hHeld => ?_)
  clear hK K
  refine norm_ (a' := ?_) ?_ ?_
  rotate_left
  · show Act.put _ (some 40) _ = _
    simp only [Act.put, List.setIfInBounds_toArray, List.set_cons_zero, List.set_cons_succ]
    rfl
  refine one_ (i := 4) (N := (some 41)) #[true, true, true, true, true, false] rfl rfl (by kernel_rfl) (by decide) (fun K hK => ?_)
  refine goes_ Try.func91 (by kernel_rfl) rfl #[.slice Ps P1.length pc, .slice Qs Q1.length qc] (by rfl) rfl rfl (by (try simp only [List.map_toArray, List.map_cons, List.map_nil]); first | done | rfl) ?_
  with_reducible refine (slices_Equal_int_int.calls k2 Ps pc P1 Qs qc Q1 true _ (HS.out.C 1 rfl) (HS.out.cap 1 rfl) (HS.out.C 0 rfl) (HS.out.cap 0 rfl) HEQ.out).mono ?_
  rintro e v5 ⟨rfl, hd_⟩
  have hb5 := Drawn0.below hd_
  clear hd_
  have nS : Aside0 (Sx wz7 v5 [(.row (.slice Qs Q1.length qc) Q1), (.row (.slice Ps P1.length pc) P1)]) := Aside0.mk (HS.out.step hb5)
  clear HS hb5
  have HS := nS
  clear nS
  refine ⟨_, rfl, ?_⟩
  refine hK.out _ _ ⟨(blk_cell (blk_below HKB.out HS.out.below) 0).trans rfl, (blk_cell (blk_below HKB.out HS.out.below) 1).trans rfl, (blk_cell (blk_below HKB.out HS.out.below) 2).trans rfl, (blk_cell (blk_below HBB.out HS.out.below) 0).trans rfl, (blk_cell (blk_below HBB.out HS.out.below) 1).trans rfl, (blk_cell (blk_below HBB.out HS.out.below) 2).trans rfl⟩ (fun hHeld => ?_)
  clear hK K
  refine norm_ (a' := ?_) ?_ ?_
  rotate_left
  · show Act.put _ (some 41) _ = _
    simp only [Act.put, List.setIfInBounds_toArray, List.set_cons_zero, List.set_cons_succ]
    rfl
  refine pure_ (i := 5) (N := (some 42)) (v := ?_) (a' := ?_) #[true, true, true, true, true, true] rfl rfl (by kernel_rfl) (fun _ _ _ h => h) (Or.inl ⟨by rfl, ?_⟩) ?_ ?_
  rotate_left
  · intro w'
    go_simp
    with_reducible rfl
  rotate_left
  · simp only [Act.put, List.setIfInBounds_toArray, List.set_cons_zero, List.set_cons_succ]
    rfl
  refine done_ (by kernel_rfl) ?_
  go_upto_region 9 with fail
  go_cut [60] from 44 to 60 (fun s60 wx => s60 = .bool false ∧ Aside0 (Sx wz7 wx [(.row (.slice Qs Q1.length qc) Q1), (.row (.slice Ps P1.length pc) P1)]))
  case first =>
    have hway := HWAY.out
    clear HWAY
    rcases hway with hab | ⟨hab, hl2⟩ | ⟨hab, hl2, hm2⟩
    · have e0 : (a == b) = true := beq_iff_eq.mpr hab
      have e1 : (a != b) = false := by rw [bne, e0]; rfl
      clear hab
      go_wp2_with (first | ((with_reducible refine wpList_guardedB ?hw ?_); (case hw => first | rfl | (go_simp; done))) | ((with_reducible refine gate_dst (N := 45) rfl ?_); refine ev_load rfl 4 (.tmp 44) rfl ⟨gK, 0, none⟩ rfl (.bool a) ((blk_cell (blk_below HKB.out HS.out.below) 0).trans rfl) (by kernel_rfl) ?_) | ((with_reducible refine gate_dst (N := 47) rfl ?_); refine ev_load rfl 4 (.tmp 46) rfl ⟨gB, 0, none⟩ rfl (.bool b) ((blk_cell (blk_below HBB.out HS.out.below) 0).trans rfl) (by kernel_rfl) ?_) | ((with_reducible refine gate_dst (N := 51) rfl ?_); refine ev_load rfl 22 (.tmp 50) rfl ⟨gK, 2, none⟩ rfl (.slice Ad L2.length cd) ((blk_cell (blk_below HKB.out HS.out.below) 2).trans rfl) (by kernel_rfl) ?_) | ((with_reducible refine gate_dst (N := 57) rfl ?_); refine ev_load rfl 22 (.tmp 56) rfl ⟨gB, 2, none⟩ rfl (.slice Bd M2.length dd) ((blk_cell (blk_below HBB.out HS.out.below) 2).trans rfl) (by kernel_rfl) ?_))
      go_meet
      case rel => exact ⟨by first | rfl | rw [e6], HS⟩
    · have e0 : (a == b) = false := beq_eq_false_iff_ne.mpr hab
      have e1 : (a != b) = true := bne_iff_ne.mpr hab
      have e2 : decide ((L2.length : Int) > 0) = false := decide_eq_false (by omega)
      have e4 : ¬ (0 : Int) < (L2.length : Int) := by omega
      clear hl2 hab
      go_wp2_with (first | ((with_reducible refine wpList_guardedB ?hw ?_); (case hw => first | rfl | (go_simp; done))) | ((with_reducible refine gate_dst (N := 45) rfl ?_); refine ev_load rfl 4 (.tmp 44) rfl ⟨gK, 0, none⟩ rfl (.bool a) ((blk_cell (blk_below HKB.out HS.out.below) 0).trans rfl) (by kernel_rfl) ?_) | ((with_reducible refine gate_dst (N := 47) rfl ?_); refine ev_load rfl 4 (.tmp 46) rfl ⟨gB, 0, none⟩ rfl (.bool b) ((blk_cell (blk_below HBB.out HS.out.below) 0).trans rfl) (by kernel_rfl) ?_) | ((with_reducible refine gate_dst (N := 51) rfl ?_); refine ev_load rfl 22 (.tmp 50) rfl ⟨gK, 2, none⟩ rfl (.slice Ad L2.length cd) ((blk_cell (blk_below HKB.out HS.out.below) 2).trans rfl) (by kernel_rfl) ?_) | ((with_reducible refine gate_dst (N := 57) rfl ?_); refine ev_load rfl 22 (.tmp 56) rfl ⟨gB, 2, none⟩ rfl (.slice Bd M2.length dd) ((blk_cell (blk_below HBB.out HS.out.below) 2).trans rfl) (by kernel_rfl) ?_))
      go_meet
      case rel => exact ⟨by first | rfl | rw [e6], HS⟩
    · have e0 : (a == b) = false := beq_eq_false_iff_ne.mpr hab
      have e1 : (a != b) = true := bne_iff_ne.mpr hab
      have e2 : decide ((L2.length : Int) > 0) = true := decide_eq_true (by omega)
      have e3 : decide ((M2.length : Int) > 0) = false := decide_eq_false (by omega)
      have e4 : (0 : Int) < (L2.length : Int) := by omega
      have e5 : ¬ (0 : Int) < (M2.length : Int) := by omega
      have e6 : decide (0 < M2.length) = false := decide_eq_false (by omega)
      clear hl2 hm2 hab
      go_wp2_with (first | ((with_reducible refine wpList_guardedB ?hw ?_); (case hw => first | rfl | (go_simp; done))) | ((with_reducible refine gate_dst (N := 45) rfl ?_); refine ev_load rfl 4 (.tmp 44) rfl ⟨gK, 0, none⟩ rfl (.bool a) ((blk_cell (blk_below HKB.out HS.out.below) 0).trans rfl) (by kernel_rfl) ?_) | ((with_reducible refine gate_dst (N := 47) rfl ?_); refine ev_load rfl 4 (.tmp 46) rfl ⟨gB, 0, none⟩ rfl (.bool b) ((blk_cell (blk_below HBB.out HS.out.below) 0).trans rfl) (by kernel_rfl) ?_) | ((with_reducible refine gate_dst (N := 51) rfl ?_); refine ev_load rfl 22 (.tmp 50) rfl ⟨gK, 2, none⟩ rfl (.slice Ad L2.length cd) ((blk_cell (blk_below HKB.out HS.out.below) 2).trans rfl) (by kernel_rfl) ?_) | ((with_reducible refine gate_dst (N := 57) rfl ?_); refine ev_load rfl 22 (.tmp 56) rfl ⟨gB, 2, none⟩ rfl (.slice Bd M2.length dd) ((blk_cell (blk_below HBB.out HS.out.below) 2).trans rfl) (by kernel_rfl) ?_))
      go_meet
      case rel => exact ⟨by first | rfl | rw [e6], HS⟩
  clear HS
  obtain ⟨e60, HS⟩ := hcut
  subst e60
  go_upto_region 13 with (first | ((with_reducible refine gate_dst (N := 63) rfl ?_); refine wpList_load_row rfl 28 (.tmp 2) rfl gK rfl 28 #[.bool a, .slice As L1.length cs, .slice Ad L2.length cd] (0, 0) _ (blk_below HKB.out HS.out.below) Try.underlying28 rfl (by kernel_rfl) ?_) | (go_at_call_of 93 (Value.agg #[.bool a, .slice As L1.length cs, .slice Ad L2.length cd]); refine (axisOf_last a As cs L1 Ad cd L2 m _ (Kd.C_below CA1.out HS.out.below) KA1.out (Kd.C_below CA2.out HS.out.below) KA2.out HL1M.out HL15.out).mono ?_; rintro e wo6 ⟨rfl, hbo6⟩; have nS : Aside0 (Sx wz7 wo6 [(.row (.slice Qs Q1.length qc) Q1), (.row (.slice Ps P1.length pc) P1)]) := Aside0.mk (HS.out.step hbo6); clear HS; have HS := nS; clear nS hbo6) | ((with_reducible refine gate_dst (N := 68) rfl ?_); refine wpList_load_row rfl 28 (.tmp 3) rfl gB rfl 28 #[.bool b, .slice Bs M1.length ds, .slice Bd M2.length dd] (0, 0) _ (blk_below HBB.out HS.out.below) Try.underlying28 rfl (by kernel_rfl) ?_) | (go_at_call_of 93 (Value.agg #[.bool b, .slice Bs M1.length ds, .slice Bd M2.length dd]); refine (axisOf_last b Bs ds M1 Bd dd M2 m _ (Kd.C_below CB1.out HS.out.below) KB1.out (Kd.C_below CB2.out HS.out.below) KB2.out HM1M.out HM15.out).mono ?_; rintro e wo7 ⟨rfl, hbo7⟩; have nS : Aside0 (Sx wz7 wo7 [(.row (.slice Qs Q1.length qc) Q1), (.row (.slice Ps P1.length pc) P1)]) := Aside0.mk (HS.out.step hbo7); clear HS; have HS := nS; clear nS hbo7))
  have nS := Aside0.mk HS.out.drew
  clear HS
  have HS := nS
  clear nS
  refine start_ (n := 12) (S := (fun w' => w'.cell? ⟨gK, 0, none⟩ = some (.bool a) ∧ w'.cell? ⟨gK, 1, none⟩ = some (.slice As L1.length cs) ∧ w'.cell? ⟨gK, 2, none⟩ = some (.slice Ad L2.length cd))) (ds := [11]) #[false, false, false, false, false, false, false, false, false, false, false, false] (by kernel_rfl) rfl rfl ⟨(blk_cell (blk_below HKB.out HS.out.below) 0).trans rfl, (blk_cell (blk_below HKB.out HS.out.below) 1).trans rfl, (blk_cell (blk_below HKB.out HS.out.below) 2).trans rfl⟩ (fun hHeld => ?_)
  refine pure_ (i := 0) (N := (some 72)) (v := ?_) (a' := ?_) #[true, false, false, false, false, false, false, false, false, false, false, false] rfl rfl (by kernel_rfl) (fun _ _ _ h => h) (Or.inl ⟨by rfl, ?_⟩) ?_ ?_
  rotate_left
  · intro w'
    go_simp
    with_reducible rfl
  rotate_left
  · simp only [Act.put, List.setIfInBounds_toArray, List.set_cons_zero, List.set_cons_succ]
    rfl
  refine take_ (i := 1) (N := (some 73)) (v := ?_) (a' := ?_) #[true, true, false, false, false, false, false, false, false, false, false, false] rfl rfl (by kernel_rfl) (fun _ _ _ h => h) (Or.inl ⟨by rfl, ?_⟩) hHeld ?_ ?_
  rotate_left
  · rintro w' ⟨s0, s1, s2⟩
    go_simp
    with_reducible rfl
  rotate_left
  · simp only [Act.put, List.setIfInBounds_toArray, List.set_cons_zero, List.set_cons_succ]
    rfl
  refine take_ (i := 2) (N := (some 74)) (v := ?_) (a' := ?_) #[true, true, true, false, false, false, false, false, false, false, false, false] rfl rfl (by kernel_rfl) (fun _ _ _ h => h) (Or.inl ⟨by rfl, ?_⟩) hHeld ?_ ?_
  rotate_left
  · rintro w' ⟨s0, s1, s2⟩
    go_simp
    with_reducible rfl
  rotate_left
  · simp only [Act.put, List.setIfInBounds_toArray, List.set_cons_zero, List.set_cons_succ]
    rfl
  refine pure_ (i := 4) (N := (some 76)) (v := ?_) (a' := ?_) #[true, true, true, false, true, false, false, false, false, false, false, false] rfl rfl (by kernel_rfl) (fun _ _ _ h => h) (Or.inl ⟨by rfl, ?_⟩) ?_ ?_
  rotate_left
  · intro w'
    go_simp
    with_reducible rfl
  rotate_left
  · simp only [Act.put, List.setIfInBounds_toArray, List.set_cons_zero, List.set_cons_succ]
    rfl
  refine pure_ (i := 5) (N := (some 77)) (v := ?_) (a' := ?_) #[true, true, true, false, true, true, false, false, false, false, false, false] rfl rfl (by kernel_rfl) (fun _ _ _ h => h) (Or.inl ⟨by rfl, ?_⟩) ?_ ?_
  rotate_left
  · intro w'
    go_simp
    with_reducible rfl
  rotate_left
  · simp only [Act.put, List.setIfInBounds_toArray, List.set_cons_zero, List.set_cons_succ]
    rfl
  refine pure_ (i := 6) (N := (some 78)) (v := ?_) (a' := ?_) #[true, true, true, false, true, true, true, false, false, false, false, false] rfl rfl (by kernel_rfl) (fun _ _ _ h => h) (Or.inl ⟨by rfl, ?_⟩) ?_ ?_
  rotate_left
  · intro w'
    go_simp
    with_reducible rfl
  rotate_left
  · simp only [Act.put, List.setIfInBounds_toArray, List.set_cons_zero, List.set_cons_succ]
    rfl
  refine join_ (σ := Nat × Nat × Option Addr × Nat × Option Addr × Nat) 1 #[true, true, true, true, true, true, true, true, true, true, true, false] (fun s_ => [(75, .slice s_.2.2.2.2.1 P1.length s_.2.2.2.2.2), (79, .slice (some ⟨s_.2.1, 0, none⟩) 1 1), (80, .slice s_.2.2.1 (P1.length + 1) s_.2.2.2.1), (81, .agg #[.bool a, .slice s_.2.2.1 (P1.length + 1) s_.2.2.2.1, .slice none 0 0]), (11, .pointer (some ⟨s_.1, 0, none⟩))]) (fun s_ w' => Sx wz7 w' [(.blk s_.1 #[.bool false, .slice none 0 0, .slice none 0 0] 28), (.row (.slice s_.2.2.1 (P1.length + 1) s_.2.2.2.1) (P1 ++ [z])), (.blk s_.2.1 #[.int .i64 z] 3), (.row (.slice Qs Q1.length qc) Q1), (.row (.slice Ps P1.length pc) P1)]) ?_ ?_
  rotate_left
  · intro hJ
    refine three_ (i := 3) (j := 7) (k := 10) (Ni := (some 75)) (Nj := (some 79)) (Nk := (some 11)) #[true, true, true, true, true, true, true, false, false, false, false, false] #[true, true, true, false, true, true, true, true, false, false, false, false] #[true, true, true, false, true, true, true, false, false, false, true, false] rfl rfl rfl rfl rfl rfl (by kernel_rfl) (by decide) (by decide) (by decide) (fun K hK => ?_) (fun K hK => ?_) (fun K hK => ?_)
    · skip
      refine goes_ Try.func92 (by kernel_rfl) rfl #[.agg #[.bool a, .slice As L1.length cs, .slice Ad L2.length cd], .bool false] (by rfl) rfl rfl (by (try simp only [List.map_toArray, List.map_cons, List.map_nil]); first | done | rfl) ?_
      with_reducible refine (impl_Array_without.calls a As cs L1 Ad cd L2 false P1 _ (Kd.C_below CA1.out HS.out.below) KA1.out (Kd.C_below CA2.out HS.out.below) KA2.out HWA.out).mono ?_
      rintro e vo8 ⟨v_, rfl, hro8, hbo8⟩
      obtain ⟨Ns, nc, hv_⟩ := Kd.R_slice hro8
      subst hv_
      have nS : Aside0 (Sx wz7 vo8 [(.row (.slice Ns P1.length nc) P1), (.row (.slice Qs Q1.length qc) Q1), (.row (.slice Ps P1.length pc) P1)]) := Aside0.mk (HS.out.addRow hbo8 hro8)
      clear HS hbo8
      have HS := nS
      clear nS
      refine ⟨_, rfl, ?_⟩
      refine hK.out _ _ ⟨(blk_cell (blk_below HKB.out HS.out.below) 0).trans rfl, (blk_cell (blk_below HKB.out HS.out.below) 1).trans rfl, (blk_cell (blk_below HKB.out HS.out.below) 2).trans rfl⟩ (fun hHeld => ?_)
      clear hK K
      refine norm_ (a' := ?_) ?_ ?_
      rotate_left
      · show Act.put _ (some 75) _ = _
        simp only [Act.put, List.setIfInBounds_toArray, List.set_cons_zero, List.set_cons_succ]
        rfl
      refine two_ (i := 7) (j := 10) (Ni := (some 79)) (Nj := (some 11)) #[true, true, true, true, true, true, true, true, false, false, false, false] #[true, true, true, true, true, true, true, false, false, false, true, false] rfl rfl rfl rfl (by kernel_rfl) (by decide) (by decide) (fun K hK => ?_) (fun K hK => ?_)
      · skip
        refine lit_step (by rfl) rfl #[.int .i64 z] 3 1 (by first | (go_simp; done) | (go_simp; rfl)) ?_
        intro gL wL hgL hxL hbL
        have nS : Aside0 (Sx wz7 wL [(.blk gL #[.int .i64 z] 3), (.row (.slice Ns P1.length nc) P1), (.row (.slice Qs Q1.length qc) Q1), (.row (.slice Ps P1.length pc) P1)]) := Aside0.mk (HS.out.box hgL.symm hxL hbL)
        clear HS hgL hxL hbL
        have HS := nS
        clear nS
        refine hK.out _ _ ⟨(blk_cell (blk_below HKB.out HS.out.below) 0).trans rfl, (blk_cell (blk_below HKB.out HS.out.below) 1).trans rfl, (blk_cell (blk_below HKB.out HS.out.below) 2).trans rfl⟩ (fun hHeld => ?_)
        clear hK K
        refine norm_ (a' := ?_) ?_ ?_
        rotate_left
        · show Act.put _ (some 79) _ = _
          simp only [Act.put, List.setIfInBounds_toArray, List.set_cons_zero, List.set_cons_succ]
          rfl
        refine two_ (i := 8) (j := 10) (Ni := (some 80)) (Nj := (some 11)) #[true, true, true, true, true, true, true, true, true, false, false, false] #[true, true, true, true, true, true, true, true, false, false, true, false] rfl rfl rfl rfl (by kernel_rfl) (by decide) (by decide) (fun K hK => ?_) (fun K hK => ?_)
        · skip
          refine HS.out.appendRows_step 1 rfl P1.length (P1.length + 1) rfl (by rfl) (.tmp 75) (.tmp 79) rfl Try.underlying22 info3 (some ⟨gL, 0, none⟩) 1 1 [z] (P1 ++ [z]) rfl rfl rfl (rowI_C (l := [z]) (HS.out.blk 0 rfl) (by simp)) rfl rfl (by have := HP5.out; omega) ?_
          intro Aj cj wJ nJ
          have nS : Aside0 (Sx wz7 wJ [(.blk gL #[.int .i64 z] 3), (.row (.slice Aj (P1.length + 1) cj) (P1 ++ [z])), (.row (.slice Qs Q1.length qc) Q1), (.row (.slice Ps P1.length pc) P1)]) := Aside0.mk (nJ)
          clear HS nJ
          have HS := nS
          clear nS
          refine hK.out _ _ ⟨(blk_cell (blk_below HKB.out HS.out.below) 0).trans rfl, (blk_cell (blk_below HKB.out HS.out.below) 1).trans rfl, (blk_cell (blk_below HKB.out HS.out.below) 2).trans rfl⟩ (fun hHeld => ?_)
          clear hK K
          refine norm_ (a' := ?_) ?_ ?_
          rotate_left
          · show Act.put _ (some 80) _ = _
            simp only [Act.put, List.setIfInBounds_toArray, List.set_cons_zero, List.set_cons_succ]
            rfl
          refine pure_ (i := 9) (N := (some 81)) (v := ?_) (a' := ?_) #[true, true, true, true, true, true, true, true, true, true, false, false] rfl rfl (by kernel_rfl) (fun _ _ _ h => h) (Or.inl ⟨by rfl, ?_⟩) ?_ ?_
          rotate_left
          · intro w'
            go_simp
            with_reducible rfl
          rotate_left
          · simp only [Act.put, List.setIfInBounds_toArray, List.set_cons_zero, List.set_cons_succ]
            rfl
          refine one_ (i := 10) (N := (some 11)) #[true, true, true, true, true, true, true, true, true, true, true, false] rfl rfl (by kernel_rfl) (by decide) (fun K hK => ?_)
          refine box_step ?hg (N := 11) ?hd (cs := #[.bool false, .slice none 0 0, .slice none 0 0]) (t := 28) ?hr ?_; (case hd => rfl); (case hg => rfl); (case hr => first | (go_simp; done) | (go_simp; rfl))
          intro gO hgO wO hxO hbO
          have nS : Aside0 (Sx wz7 wO [(.blk gO #[.bool false, .slice none 0 0, .slice none 0 0] 28), (.blk gL #[.int .i64 z] 3), (.row (.slice Aj (P1.length + 1) cj) (P1 ++ [z])), (.row (.slice Qs Q1.length qc) Q1), (.row (.slice Ps P1.length pc) P1)]) := Aside0.mk (HS.out.box hgO hxO hbO)
          clear HS hgO hxO hbO
          have HS := nS
          clear nS
          refine hK.out _ _ ⟨(blk_cell (blk_below HKB.out HS.out.below) 0).trans rfl, (blk_cell (blk_below HKB.out HS.out.below) 1).trans rfl, (blk_cell (blk_below HKB.out HS.out.below) 2).trans rfl⟩ (fun hHeld => ?_)
          clear hK K
          refine norm_ (a' := ?_) ?_ ?_
          rotate_left
          · show Act.put _ (some 11) _ = _
            simp only [Act.put, List.setIfInBounds_toArray, List.set_cons_zero, List.set_cons_succ]
            rfl
          exact norm_ (by first | (simp only [putAll, Act.put, List.setIfInBounds_toArray, List.set_cons_zero, List.set_cons_succ]; done) | (simp only [putAll, Act.put, List.setIfInBounds_toArray, List.set_cons_zero, List.set_cons_succ]; rfl)) (hJ (gO, gL, Aj, cj, Ns, nc) _ (HS.out.perm (by first | exact List.Perm.refl _ | exact List.Perm.swap _ _ _ | exact (List.Perm.swap _ _ _).cons _ | exact (List.Perm.swap _ _ _).trans ((List.Perm.swap _ _ _).cons _) | exact ((List.Perm.swap _ _ _).cons _).trans (List.Perm.swap _ _ _) | exact (List.Perm.swap _ _ _).trans (((List.Perm.swap _ _ _).cons _).trans (List.Perm.swap _ _ _)))))
        · skip
          refine box_step ?hg (N := 11) ?hd (cs := #[.bool false, .slice none 0 0, .slice none 0 0]) (t := 28) ?hr ?_; (case hd => rfl); (case hg => rfl); (case hr => first | (go_simp; done) | (go_simp; rfl))
          intro gO hgO wO hxO hbO
          have nS : Aside0 (Sx wz7 wO [(.blk gO #[.bool false, .slice none 0 0, .slice none 0 0] 28), (.blk gL #[.int .i64 z] 3), (.row (.slice Ns P1.length nc) P1), (.row (.slice Qs Q1.length qc) Q1), (.row (.slice Ps P1.length pc) P1)]) := Aside0.mk (HS.out.box hgO hxO hbO)
          clear HS hgO hxO hbO
          have HS := nS
          clear nS
          refine hK.out _ _ ⟨(blk_cell (blk_below HKB.out HS.out.below) 0).trans rfl, (blk_cell (blk_below HKB.out HS.out.below) 1).trans rfl, (blk_cell (blk_below HKB.out HS.out.below) 2).trans rfl⟩ (fun hHeld => ?_)
          clear hK K
          refine norm_ (a' := ?_) ?_ ?_
          rotate_left
          · show Act.put _ (some 11) _ = _
            simp only [Act.put, List.setIfInBounds_toArray, List.set_cons_zero, List.set_cons_succ]
            rfl
          refine one_ (i := 8) (N := (some 80)) #[true, true, true, true, true, true, true, true, true, false, true, false] rfl rfl (by kernel_rfl) (by decide) (fun K hK => ?_)
          refine HS.out.appendRows_step 2 rfl P1.length (P1.length + 1) rfl (by rfl) (.tmp 75) (.tmp 79) rfl Try.underlying22 info3 (some ⟨gL, 0, none⟩) 1 1 [z] (P1 ++ [z]) rfl rfl rfl (rowI_C (l := [z]) (HS.out.blk 1 rfl) (by simp)) rfl rfl (by have := HP5.out; omega) ?_
          intro Aj cj wJ nJ
          have nS : Aside0 (Sx wz7 wJ [(.blk gO #[.bool false, .slice none 0 0, .slice none 0 0] 28), (.blk gL #[.int .i64 z] 3), (.row (.slice Aj (P1.length + 1) cj) (P1 ++ [z])), (.row (.slice Qs Q1.length qc) Q1), (.row (.slice Ps P1.length pc) P1)]) := Aside0.mk (nJ)
          clear HS nJ
          have HS := nS
          clear nS
          refine hK.out _ _ ⟨(blk_cell (blk_below HKB.out HS.out.below) 0).trans rfl, (blk_cell (blk_below HKB.out HS.out.below) 1).trans rfl, (blk_cell (blk_below HKB.out HS.out.below) 2).trans rfl⟩ (fun hHeld => ?_)
          clear hK K
          refine norm_ (a' := ?_) ?_ ?_
          rotate_left
          · show Act.put _ (some 80) _ = _
            simp only [Act.put, List.setIfInBounds_toArray, List.set_cons_zero, List.set_cons_succ]
            rfl
          refine pure_ (i := 9) (N := (some 81)) (v := ?_) (a' := ?_) #[true, true, true, true, true, true, true, true, true, true, true, false] rfl rfl (by kernel_rfl) (fun _ _ _ h => h) (Or.inl ⟨by rfl, ?_⟩) ?_ ?_
          rotate_left
          · intro w'
            go_simp
            with_reducible rfl
          rotate_left
          · simp only [Act.put, List.setIfInBounds_toArray, List.set_cons_zero, List.set_cons_succ]
            rfl
          exact norm_ (by first | (simp only [putAll, Act.put, List.setIfInBounds_toArray, List.set_cons_zero, List.set_cons_succ]; done) | (simp only [putAll, Act.put, List.setIfInBounds_toArray, List.set_cons_zero, List.set_cons_succ]; rfl)) (hJ (gO, gL, Aj, cj, Ns, nc) _ (HS.out.perm (by first | exact List.Perm.refl _ | exact List.Perm.swap _ _ _ | exact (List.Perm.swap _ _ _).cons _ | exact (List.Perm.swap _ _ _).trans ((List.Perm.swap _ _ _).cons _) | exact ((List.Perm.swap _ _ _).cons _).trans (List.Perm.swap _ _ _) | exact (List.Perm.swap _ _ _).trans (((List.Perm.swap _ _ _).cons _).trans (List.Perm.swap _ _ _)))))
      · skip
        refine box_step ?hg (N := 11) ?hd (cs := #[.bool false, .slice none 0 0, .slice none 0 0]) (t := 28) ?hr ?_; (case hd => rfl); (case hg => rfl); (case hr => first | (go_simp; done) | (go_simp; rfl))
        intro gO hgO wO hxO hbO
        have nS : Aside0 (Sx wz7 wO [(.blk gO #[.bool false, .slice none 0 0, .slice none 0 0] 28), (.row (.slice Ns P1.length nc) P1), (.row (.slice Qs Q1.length qc) Q1), (.row (.slice Ps P1.length pc) P1)]) := Aside0.mk (HS.out.box hgO hxO hbO)
        clear HS hgO hxO hbO
        have HS := nS
        clear nS
        refine hK.out _ _ ⟨(blk_cell (blk_below HKB.out HS.out.below) 0).trans rfl, (blk_cell (blk_below HKB.out HS.out.below) 1).trans rfl, (blk_cell (blk_below HKB.out HS.out.below) 2).trans rfl⟩ (fun hHeld => ?_)
        clear hK K
        refine norm_ (a' := ?_) ?_ ?_
        rotate_left
        · show Act.put _ (some 11) _ = _
          simp only [Act.put, List.setIfInBounds_toArray, List.set_cons_zero, List.set_cons_succ]
          rfl
        refine one_ (i := 7) (N := (some 79)) #[true, true, true, true, true, true, true, true, false, false, true, false] rfl rfl (by kernel_rfl) (by decide) (fun K hK => ?_)
        refine lit_step (by rfl) rfl #[.int .i64 z] 3 1 (by first | (go_simp; done) | (go_simp; rfl)) ?_
        intro gL wL hgL hxL hbL
        have nS : Aside0 (Sx wz7 wL [(.blk gL #[.int .i64 z] 3), (.blk gO #[.bool false, .slice none 0 0, .slice none 0 0] 28), (.row (.slice Ns P1.length nc) P1), (.row (.slice Qs Q1.length qc) Q1), (.row (.slice Ps P1.length pc) P1)]) := Aside0.mk (HS.out.box hgL.symm hxL hbL)
        clear HS hgL hxL hbL
        have HS := nS
        clear nS
        refine hK.out _ _ ⟨(blk_cell (blk_below HKB.out HS.out.below) 0).trans rfl, (blk_cell (blk_below HKB.out HS.out.below) 1).trans rfl, (blk_cell (blk_below HKB.out HS.out.below) 2).trans rfl⟩ (fun hHeld => ?_)
        clear hK K
        refine norm_ (a' := ?_) ?_ ?_
        rotate_left
        · show Act.put _ (some 79) _ = _
          simp only [Act.put, List.setIfInBounds_toArray, List.set_cons_zero, List.set_cons_succ]
          rfl
        refine one_ (i := 8) (N := (some 80)) #[true, true, true, true, true, true, true, true, true, false, true, false] rfl rfl (by kernel_rfl) (by decide) (fun K hK => ?_)
        refine HS.out.appendRows_step 2 rfl P1.length (P1.length + 1) rfl (by rfl) (.tmp 75) (.tmp 79) rfl Try.underlying22 info3 (some ⟨gL, 0, none⟩) 1 1 [z] (P1 ++ [z]) rfl rfl rfl (rowI_C (l := [z]) (HS.out.blk 0 rfl) (by simp)) rfl rfl (by have := HP5.out; omega) ?_
        intro Aj cj wJ nJ
        have nS : Aside0 (Sx wz7 wJ [(.blk gL #[.int .i64 z] 3), (.blk gO #[.bool false, .slice none 0 0, .slice none 0 0] 28), (.row (.slice Aj (P1.length + 1) cj) (P1 ++ [z])), (.row (.slice Qs Q1.length qc) Q1), (.row (.slice Ps P1.length pc) P1)]) := Aside0.mk (nJ)
        clear HS nJ
        have HS := nS
        clear nS
        refine hK.out _ _ ⟨(blk_cell (blk_below HKB.out HS.out.below) 0).trans rfl, (blk_cell (blk_below HKB.out HS.out.below) 1).trans rfl, (blk_cell (blk_below HKB.out HS.out.below) 2).trans rfl⟩ (fun hHeld => ?_)
        clear hK K
        refine norm_ (a' := ?_) ?_ ?_
        rotate_left
        · show Act.put _ (some 80) _ = _
          simp only [Act.put, List.setIfInBounds_toArray, List.set_cons_zero, List.set_cons_succ]
          rfl
        refine pure_ (i := 9) (N := (some 81)) (v := ?_) (a' := ?_) #[true, true, true, true, true, true, true, true, true, true, true, false] rfl rfl (by kernel_rfl) (fun _ _ _ h => h) (Or.inl ⟨by rfl, ?_⟩) ?_ ?_
        rotate_left
        · intro w'
          go_simp
          with_reducible rfl
        rotate_left
        · simp only [Act.put, List.setIfInBounds_toArray, List.set_cons_zero, List.set_cons_succ]
          rfl
        exact norm_ (by first | (simp only [putAll, Act.put, List.setIfInBounds_toArray, List.set_cons_zero, List.set_cons_succ]; done) | (simp only [putAll, Act.put, List.setIfInBounds_toArray, List.set_cons_zero, List.set_cons_succ]; rfl)) (hJ (gO, gL, Aj, cj, Ns, nc) _ (HS.out.perm (by first | exact List.Perm.refl _ | exact List.Perm.swap _ _ _ | exact (List.Perm.swap _ _ _).cons _ | exact (List.Perm.swap _ _ _).trans ((List.Perm.swap _ _ _).cons _) | exact ((List.Perm.swap _ _ _).cons _).trans (List.Perm.swap _ _ _) | exact (List.Perm.swap _ _ _).trans (((List.Perm.swap _ _ _).cons _).trans (List.Perm.swap _ _ _)))))
    · skip
      refine lit_step (by rfl) rfl #[.int .i64 z] 3 1 (by first | (go_simp; done) | (go_simp; rfl)) ?_
      intro gL wL hgL hxL hbL
      have nS : Aside0 (Sx wz7 wL [(.blk gL #[.int .i64 z] 3), (.row (.slice Qs Q1.length qc) Q1), (.row (.slice Ps P1.length pc) P1)]) := Aside0.mk (HS.out.box hgL.symm hxL hbL)
      clear HS hgL hxL hbL
      have HS := nS
      clear nS
      refine hK.out _ _ ⟨(blk_cell (blk_below HKB.out HS.out.below) 0).trans rfl, (blk_cell (blk_below HKB.out HS.out.below) 1).trans rfl, (blk_cell (blk_below HKB.out HS.out.below) 2).trans rfl⟩ (fun hHeld => ?_)
      clear hK K
      refine norm_ (a' := ?_) ?_ ?_
      rotate_left
      · show Act.put _ (some 79) _ = _
        simp only [Act.put, List.setIfInBounds_toArray, List.set_cons_zero, List.set_cons_succ]
        rfl
      refine two_ (i := 3) (j := 10) (Ni := (some 75)) (Nj := (some 11)) #[true, true, true, true, true, true, true, true, false, false, false, false] #[true, true, true, false, true, true, true, true, false, false, true, false] rfl rfl rfl rfl (by kernel_rfl) (by decide) (by decide) (fun K hK => ?_) (fun K hK => ?_)
      · skip
        refine goes_ Try.func92 (by kernel_rfl) rfl #[.agg #[.bool a, .slice As L1.length cs, .slice Ad L2.length cd], .bool false] (by rfl) rfl rfl (by (try simp only [List.map_toArray, List.map_cons, List.map_nil]); first | done | rfl) ?_
        with_reducible refine (impl_Array_without.calls a As cs L1 Ad cd L2 false P1 _ (Kd.C_below CA1.out HS.out.below) KA1.out (Kd.C_below CA2.out HS.out.below) KA2.out HWA.out).mono ?_
        rintro e vo8 ⟨v_, rfl, hro8, hbo8⟩
        obtain ⟨Ns, nc, hv_⟩ := Kd.R_slice hro8
        subst hv_
        have nS : Aside0 (Sx wz7 vo8 [(.row (.slice Ns P1.length nc) P1), (.blk gL #[.int .i64 z] 3), (.row (.slice Qs Q1.length qc) Q1), (.row (.slice Ps P1.length pc) P1)]) := Aside0.mk (HS.out.addRow hbo8 hro8)
        clear HS hbo8
        have HS := nS
        clear nS
        refine ⟨_, rfl, ?_⟩
        refine hK.out _ _ ⟨(blk_cell (blk_below HKB.out HS.out.below) 0).trans rfl, (blk_cell (blk_below HKB.out HS.out.below) 1).trans rfl, (blk_cell (blk_below HKB.out HS.out.below) 2).trans rfl⟩ (fun hHeld => ?_)
        clear hK K
        refine norm_ (a' := ?_) ?_ ?_
        rotate_left
        · show Act.put _ (some 75) _ = _
          simp only [Act.put, List.setIfInBounds_toArray, List.set_cons_zero, List.set_cons_succ]
          rfl
        refine two_ (i := 8) (j := 10) (Ni := (some 80)) (Nj := (some 11)) #[true, true, true, true, true, true, true, true, true, false, false, false] #[true, true, true, true, true, true, true, true, false, false, true, false] rfl rfl rfl rfl (by kernel_rfl) (by decide) (by decide) (fun K hK => ?_) (fun K hK => ?_)
        · skip
          refine HS.out.appendRows_step 0 rfl P1.length (P1.length + 1) rfl (by rfl) (.tmp 75) (.tmp 79) rfl Try.underlying22 info3 (some ⟨gL, 0, none⟩) 1 1 [z] (P1 ++ [z]) rfl rfl rfl (rowI_C (l := [z]) (HS.out.blk 1 rfl) (by simp)) rfl rfl (by have := HP5.out; omega) ?_
          intro Aj cj wJ nJ
          have nS : Aside0 (Sx wz7 wJ [(.row (.slice Aj (P1.length + 1) cj) (P1 ++ [z])), (.blk gL #[.int .i64 z] 3), (.row (.slice Qs Q1.length qc) Q1), (.row (.slice Ps P1.length pc) P1)]) := Aside0.mk (nJ)
          clear HS nJ
          have HS := nS
          clear nS
          refine hK.out _ _ ⟨(blk_cell (blk_below HKB.out HS.out.below) 0).trans rfl, (blk_cell (blk_below HKB.out HS.out.below) 1).trans rfl, (blk_cell (blk_below HKB.out HS.out.below) 2).trans rfl⟩ (fun hHeld => ?_)
          clear hK K
          refine norm_ (a' := ?_) ?_ ?_
          rotate_left
          · show Act.put _ (some 80) _ = _
            simp only [Act.put, List.setIfInBounds_toArray, List.set_cons_zero, List.set_cons_succ]
            rfl
          refine pure_ (i := 9) (N := (some 81)) (v := ?_) (a' := ?_) #[true, true, true, true, true, true, true, true, true, true, false, false] rfl rfl (by kernel_rfl) (fun _ _ _ h => h) (Or.inl ⟨by rfl, ?_⟩) ?_ ?_
          rotate_left
          · intro w'
            go_simp
            with_reducible rfl
          rotate_left
          · simp only [Act.put, List.setIfInBounds_toArray, List.set_cons_zero, List.set_cons_succ]
            rfl
          refine one_ (i := 10) (N := (some 11)) #[true, true, true, true, true, true, true, true, true, true, true, false] rfl rfl (by kernel_rfl) (by decide) (fun K hK => ?_)
          refine box_step ?hg (N := 11) ?hd (cs := #[.bool false, .slice none 0 0, .slice none 0 0]) (t := 28) ?hr ?_; (case hd => rfl); (case hg => rfl); (case hr => first | (go_simp; done) | (go_simp; rfl))
          intro gO hgO wO hxO hbO
          have nS : Aside0 (Sx wz7 wO [(.blk gO #[.bool false, .slice none 0 0, .slice none 0 0] 28), (.row (.slice Aj (P1.length + 1) cj) (P1 ++ [z])), (.blk gL #[.int .i64 z] 3), (.row (.slice Qs Q1.length qc) Q1), (.row (.slice Ps P1.length pc) P1)]) := Aside0.mk (HS.out.box hgO hxO hbO)
          clear HS hgO hxO hbO
          have HS := nS
          clear nS
          refine hK.out _ _ ⟨(blk_cell (blk_below HKB.out HS.out.below) 0).trans rfl, (blk_cell (blk_below HKB.out HS.out.below) 1).trans rfl, (blk_cell (blk_below HKB.out HS.out.below) 2).trans rfl⟩ (fun hHeld => ?_)
          clear hK K
          refine norm_ (a' := ?_) ?_ ?_
          rotate_left
          · show Act.put _ (some 11) _ = _
            simp only [Act.put, List.setIfInBounds_toArray, List.set_cons_zero, List.set_cons_succ]
            rfl
          exact norm_ (by first | (simp only [putAll, Act.put, List.setIfInBounds_toArray, List.set_cons_zero, List.set_cons_succ]; done) | (simp only [putAll, Act.put, List.setIfInBounds_toArray, List.set_cons_zero, List.set_cons_succ]; rfl)) (hJ (gO, gL, Aj, cj, Ns, nc) _ (HS.out.perm (by first | exact List.Perm.refl _ | exact List.Perm.swap _ _ _ | exact (List.Perm.swap _ _ _).cons _ | exact (List.Perm.swap _ _ _).trans ((List.Perm.swap _ _ _).cons _) | exact ((List.Perm.swap _ _ _).cons _).trans (List.Perm.swap _ _ _) | exact (List.Perm.swap _ _ _).trans (((List.Perm.swap _ _ _).cons _).trans (List.Perm.swap _ _ _)))))
        · skip
          refine box_step ?hg (N := 11) ?hd (cs := #[.bool false, .slice none 0 0, .slice none 0 0]) (t := 28) ?hr ?_; (case hd => rfl); (case hg => rfl); (case hr => first | (go_simp; done) | (go_simp; rfl))
          intro gO hgO wO hxO hbO
          have nS : Aside0 (Sx wz7 wO [(.blk gO #[.bool false, .slice none 0 0, .slice none 0 0] 28), (.row (.slice Ns P1.length nc) P1), (.blk gL #[.int .i64 z] 3), (.row (.slice Qs Q1.length qc) Q1), (.row (.slice Ps P1.length pc) P1)]) := Aside0.mk (HS.out.box hgO hxO hbO)
          clear HS hgO hxO hbO
          have HS := nS
          clear nS
          refine hK.out _ _ ⟨(blk_cell (blk_below HKB.out HS.out.below) 0).trans rfl, (blk_cell (blk_below HKB.out HS.out.below) 1).trans rfl, (blk_cell (blk_below HKB.out HS.out.below) 2).trans rfl⟩ (fun hHeld => ?_)
          clear hK K
          refine norm_ (a' := ?_) ?_ ?_
          rotate_left
          · show Act.put _ (some 11) _ = _
            simp only [Act.put, List.setIfInBounds_toArray, List.set_cons_zero, List.set_cons_succ]
            rfl
          refine one_ (i := 8) (N := (some 80)) #[true, true, true, true, true, true, true, true, true, false, true, false] rfl rfl (by kernel_rfl) (by decide) (fun K hK => ?_)
          refine HS.out.appendRows_step 1 rfl P1.length (P1.length + 1) rfl (by rfl) (.tmp 75) (.tmp 79) rfl Try.underlying22 info3 (some ⟨gL, 0, none⟩) 1 1 [z] (P1 ++ [z]) rfl rfl rfl (rowI_C (l := [z]) (HS.out.blk 2 rfl) (by simp)) rfl rfl (by have := HP5.out; omega) ?_
          intro Aj cj wJ nJ
          have nS : Aside0 (Sx wz7 wJ [(.blk gO #[.bool false, .slice none 0 0, .slice none 0 0] 28), (.row (.slice Aj (P1.length + 1) cj) (P1 ++ [z])), (.blk gL #[.int .i64 z] 3), (.row (.slice Qs Q1.length qc) Q1), (.row (.slice Ps P1.length pc) P1)]) := Aside0.mk (nJ)
          clear HS nJ
          have HS := nS
          clear nS
          refine hK.out _ _ ⟨(blk_cell (blk_below HKB.out HS.out.below) 0).trans rfl, (blk_cell (blk_below HKB.out HS.out.below) 1).trans rfl, (blk_cell (blk_below HKB.out HS.out.below) 2).trans rfl⟩ (fun hHeld => ?_)
          clear hK K
          refine norm_ (a' := ?_) ?_ ?_
          rotate_left
          · show Act.put _ (some 80) _ = _
            simp only [Act.put, List.setIfInBounds_toArray, List.set_cons_zero, List.set_cons_succ]
            rfl
          refine pure_ (i := 9) (N := (some 81)) (v := ?_) (a' := ?_) #[true, true, true, true, true, true, true, true, true, true, true, false] rfl rfl (by kernel_rfl) (fun _ _ _ h => h) (Or.inl ⟨by rfl, ?_⟩) ?_ ?_
          rotate_left
          · intro w'
            go_simp
            with_reducible rfl
          rotate_left
          · simp only [Act.put, List.setIfInBounds_toArray, List.set_cons_zero, List.set_cons_succ]
            rfl
          exact norm_ (by first | (simp only [putAll, Act.put, List.setIfInBounds_toArray, List.set_cons_zero, List.set_cons_succ]; done) | (simp only [putAll, Act.put, List.setIfInBounds_toArray, List.set_cons_zero, List.set_cons_succ]; rfl)) (hJ (gO, gL, Aj, cj, Ns, nc) _ (HS.out.perm (by first | exact List.Perm.refl _ | exact List.Perm.swap _ _ _ | exact (List.Perm.swap _ _ _).cons _ | exact (List.Perm.swap _ _ _).trans ((List.Perm.swap _ _ _).cons _) | exact ((List.Perm.swap _ _ _).cons _).trans (List.Perm.swap _ _ _) | exact (List.Perm.swap _ _ _).trans (((List.Perm.swap _ _ _).cons _).trans (List.Perm.swap _ _ _)))))
      · skip
        refine box_step ?hg (N := 11) ?hd (cs := #[.bool false, .slice none 0 0, .slice none 0 0]) (t := 28) ?hr ?_; (case hd => rfl); (case hg => rfl); (case hr => first | (go_simp; done) | (go_simp; rfl))
        intro gO hgO wO hxO hbO
        have nS : Aside0 (Sx wz7 wO [(.blk gO #[.bool false, .slice none 0 0, .slice none 0 0] 28), (.blk gL #[.int .i64 z] 3), (.row (.slice Qs Q1.length qc) Q1), (.row (.slice Ps P1.length pc) P1)]) := Aside0.mk (HS.out.box hgO hxO hbO)
        clear HS hgO hxO hbO
        have HS := nS
        clear nS
        refine hK.out _ _ ⟨(blk_cell (blk_below HKB.out HS.out.below) 0).trans rfl, (blk_cell (blk_below HKB.out HS.out.below) 1).trans rfl, (blk_cell (blk_below HKB.out HS.out.below) 2).trans rfl⟩ (fun hHeld => ?_)
        clear hK K
        refine norm_ (a' := ?_) ?_ ?_
        rotate_left
        · show Act.put _ (some 11) _ = _
          simp only [Act.put, List.setIfInBounds_toArray, List.set_cons_zero, List.set_cons_succ]
          rfl
        refine one_ (i := 3) (N := (some 75)) #[true, true, true, true, true, true, true, true, false, false, true, false] rfl rfl (by kernel_rfl) (by decide) (fun K hK => ?_)
        refine goes_ Try.func92 (by kernel_rfl) rfl #[.agg #[.bool a, .slice As L1.length cs, .slice Ad L2.length cd], .bool false] (by rfl) rfl rfl (by (try simp only [List.map_toArray, List.map_cons, List.map_nil]); first | done | rfl) ?_
        with_reducible refine (impl_Array_without.calls a As cs L1 Ad cd L2 false P1 _ (Kd.C_below CA1.out HS.out.below) KA1.out (Kd.C_below CA2.out HS.out.below) KA2.out HWA.out).mono ?_
        rintro e vo8 ⟨v_, rfl, hro8, hbo8⟩
        obtain ⟨Ns, nc, hv_⟩ := Kd.R_slice hro8
        subst hv_
        have nS : Aside0 (Sx wz7 vo8 [(.row (.slice Ns P1.length nc) P1), (.blk gO #[.bool false, .slice none 0 0, .slice none 0 0] 28), (.blk gL #[.int .i64 z] 3), (.row (.slice Qs Q1.length qc) Q1), (.row (.slice Ps P1.length pc) P1)]) := Aside0.mk (HS.out.addRow hbo8 hro8)
        clear HS hbo8
        have HS := nS
        clear nS
        refine ⟨_, rfl, ?_⟩
        refine hK.out _ _ ⟨(blk_cell (blk_below HKB.out HS.out.below) 0).trans rfl, (blk_cell (blk_below HKB.out HS.out.below) 1).trans rfl, (blk_cell (blk_below HKB.out HS.out.below) 2).trans rfl⟩ (fun hHeld => ?_)
        clear hK K
        refine norm_ (a' := ?_) ?_ ?_
        rotate_left
        · show Act.put _ (some 75) _ = _
          simp only [Act.put, List.setIfInBounds_toArray, List.set_cons_zero, List.set_cons_succ]
          rfl
        refine one_ (i := 8) (N := (some 80)) #[true, true, true, true, true, true, true, true, true, false, true, false] rfl rfl (by kernel_rfl) (by decide) (fun K hK => ?_)
        refine HS.out.appendRows_step 0 rfl P1.length (P1.length + 1) rfl (by rfl) (.tmp 75) (.tmp 79) rfl Try.underlying22 info3 (some ⟨gL, 0, none⟩) 1 1 [z] (P1 ++ [z]) rfl rfl rfl (rowI_C (l := [z]) (HS.out.blk 2 rfl) (by simp)) rfl rfl (by have := HP5.out; omega) ?_
        intro Aj cj wJ nJ
        have nS : Aside0 (Sx wz7 wJ [(.row (.slice Aj (P1.length + 1) cj) (P1 ++ [z])), (.blk gO #[.bool false, .slice none 0 0, .slice none 0 0] 28), (.blk gL #[.int .i64 z] 3), (.row (.slice Qs Q1.length qc) Q1), (.row (.slice Ps P1.length pc) P1)]) := Aside0.mk (nJ)
        clear HS nJ
        have HS := nS
        clear nS
        refine hK.out _ _ ⟨(blk_cell (blk_below HKB.out HS.out.below) 0).trans rfl, (blk_cell (blk_below HKB.out HS.out.below) 1).trans rfl, (blk_cell (blk_below HKB.out HS.out.below) 2).trans rfl⟩ (fun hHeld => ?_)
        clear hK K
        refine norm_ (a' := ?_) ?_ ?_
        rotate_left
        · show Act.put _ (some 80) _ = _
          simp only [Act.put, List.setIfInBounds_toArray, List.set_cons_zero, List.set_cons_succ]
          rfl
        refine pure_ (i := 9) (N := (some 81)) (v := ?_) (a' := ?_) #[true, true, true, true, true, true, true, true, true, true, true, false] rfl rfl (by kernel_rfl) (fun _ _ _ h => h) (Or.inl ⟨by rfl, ?_⟩) ?_ ?_
        rotate_left
        · intro w'
          go_simp
          with_reducible rfl
        rotate_left
        · simp only [Act.put, List.setIfInBounds_toArray, List.set_cons_zero, List.set_cons_succ]
          rfl
        exact norm_ (by first | (simp only [putAll, Act.put, List.setIfInBounds_toArray, List.set_cons_zero, List.set_cons_succ]; done) | (simp only [putAll, Act.put, List.setIfInBounds_toArray, List.set_cons_zero, List.set_cons_succ]; rfl)) (hJ (gO, gL, Aj, cj, Ns, nc) _ (HS.out.perm (by first | exact List.Perm.refl _ | exact List.Perm.swap _ _ _ | exact (List.Perm.swap _ _ _).cons _ | exact (List.Perm.swap _ _ _).trans ((List.Perm.swap _ _ _).cons _) | exact ((List.Perm.swap _ _ _).cons _).trans (List.Perm.swap _ _ _) | exact (List.Perm.swap _ _ _).trans (((List.Perm.swap _ _ _).cons _).trans (List.Perm.swap _ _ _)))))
    · skip
      refine box_step ?hg (N := 11) ?hd (cs := #[.bool false, .slice none 0 0, .slice none 0 0]) (t := 28) ?hr ?_; (case hd => rfl); (case hg => rfl); (case hr => first | (go_simp; done) | (go_simp; rfl))
      intro gO hgO wO hxO hbO
      have nS : Aside0 (Sx wz7 wO [(.blk gO #[.bool false, .slice none 0 0, .slice none 0 0] 28), (.row (.slice Qs Q1.length qc) Q1), (.row (.slice Ps P1.length pc) P1)]) := Aside0.mk (HS.out.box hgO hxO hbO)
      clear HS hgO hxO hbO
      have HS := nS
      clear nS
      refine hK.out _ _ ⟨(blk_cell (blk_below HKB.out HS.out.below) 0).trans rfl, (blk_cell (blk_below HKB.out HS.out.below) 1).trans rfl, (blk_cell (blk_below HKB.out HS.out.below) 2).trans rfl⟩ (fun hHeld => ?_)
      clear hK K
      refine norm_ (a' := ?_) ?_ ?_
      rotate_left
      · show Act.put _ (some 11) _ = _
        simp only [Act.put, List.setIfInBounds_toArray, List.set_cons_zero, List.set_cons_succ]
        rfl
      refine two_ (i := 3) (j := 7) (Ni := (some 75)) (Nj := (some 79)) #[true, true, true, true, true, true, true, false, false, false, true, false] #[true, true, true, false, true, true, true, true, false, false, true, false] rfl rfl rfl rfl (by kernel_rfl) (by decide) (by decide) (fun K hK => ?_) (fun K hK => ?_)
      · skip
        refine goes_ Try.func92 (by kernel_rfl) rfl #[.agg #[.bool a, .slice As L1.length cs, .slice Ad L2.length cd], .bool false] (by rfl) rfl rfl (by (try simp only [List.map_toArray, List.map_cons, List.map_nil]); first | done | rfl) ?_
        with_reducible refine (impl_Array_without.calls a As cs L1 Ad cd L2 false P1 _ (Kd.C_below CA1.out HS.out.below) KA1.out (Kd.C_below CA2.out HS.out.below) KA2.out HWA.out).mono ?_
        rintro e vo8 ⟨v_, rfl, hro8, hbo8⟩
        obtain ⟨Ns, nc, hv_⟩ := Kd.R_slice hro8
        subst hv_
        have nS : Aside0 (Sx wz7 vo8 [(.row (.slice Ns P1.length nc) P1), (.blk gO #[.bool false, .slice none 0 0, .slice none 0 0] 28), (.row (.slice Qs Q1.length qc) Q1), (.row (.slice Ps P1.length pc) P1)]) := Aside0.mk (HS.out.addRow hbo8 hro8)
        clear HS hbo8
        have HS := nS
        clear nS
        refine ⟨_, rfl, ?_⟩
        refine hK.out _ _ ⟨(blk_cell (blk_below HKB.out HS.out.below) 0).trans rfl, (blk_cell (blk_below HKB.out HS.out.below) 1).trans rfl, (blk_cell (blk_below HKB.out HS.out.below) 2).trans rfl⟩ (fun hHeld => ?_)
        clear hK K
        refine norm_ (a' := ?_) ?_ ?_
        rotate_left
        · show Act.put _ (some 75) _ = _
          simp only [Act.put, List.setIfInBounds_toArray, List.set_cons_zero, List.set_cons_succ]
          rfl
        refine one_ (i := 7) (N := (some 79)) #[true, true, true, true, true, true, true, true, false, false, true, false] rfl rfl (by kernel_rfl) (by decide) (fun K hK => ?_)
        refine lit_step (by rfl) rfl #[.int .i64 z] 3 1 (by first | (go_simp; done) | (go_simp; rfl)) ?_
        intro gL wL hgL hxL hbL
        have nS : Aside0 (Sx wz7 wL [(.blk gL #[.int .i64 z] 3), (.row (.slice Ns P1.length nc) P1), (.blk gO #[.bool false, .slice none 0 0, .slice none 0 0] 28), (.row (.slice Qs Q1.length qc) Q1), (.row (.slice Ps P1.length pc) P1)]) := Aside0.mk (HS.out.box hgL.symm hxL hbL)
        clear HS hgL hxL hbL
        have HS := nS
        clear nS
        refine hK.out _ _ ⟨(blk_cell (blk_below HKB.out HS.out.below) 0).trans rfl, (blk_cell (blk_below HKB.out HS.out.below) 1).trans rfl, (blk_cell (blk_below HKB.out HS.out.below) 2).trans rfl⟩ (fun hHeld => ?_)
        clear hK K
        refine norm_ (a' := ?_) ?_ ?_
        rotate_left
        · show Act.put _ (some 79) _ = _
          simp only [Act.put, List.setIfInBounds_toArray, List.set_cons_zero, List.set_cons_succ]
          rfl
        refine one_ (i := 8) (N := (some 80)) #[true, true, true, true, true, true, true, true, true, false, true, false] rfl rfl (by kernel_rfl) (by decide) (fun K hK => ?_)
        refine HS.out.appendRows_step 1 rfl P1.length (P1.length + 1) rfl (by rfl) (.tmp 75) (.tmp 79) rfl Try.underlying22 info3 (some ⟨gL, 0, none⟩) 1 1 [z] (P1 ++ [z]) rfl rfl rfl (rowI_C (l := [z]) (HS.out.blk 0 rfl) (by simp)) rfl rfl (by have := HP5.out; omega) ?_
        intro Aj cj wJ nJ
        have nS : Aside0 (Sx wz7 wJ [(.blk gL #[.int .i64 z] 3), (.row (.slice Aj (P1.length + 1) cj) (P1 ++ [z])), (.blk gO #[.bool false, .slice none 0 0, .slice none 0 0] 28), (.row (.slice Qs Q1.length qc) Q1), (.row (.slice Ps P1.length pc) P1)]) := Aside0.mk (nJ)
        clear HS nJ
        have HS := nS
        clear nS
        refine hK.out _ _ ⟨(blk_cell (blk_below HKB.out HS.out.below) 0).trans rfl, (blk_cell (blk_below HKB.out HS.out.below) 1).trans rfl, (blk_cell (blk_below HKB.out HS.out.below) 2).trans rfl⟩ (fun hHeld => ?_)
        clear hK K
        refine norm_ (a' := ?_) ?_ ?_
        rotate_left
        · show Act.put _ (some 80) _ = _
          simp only [Act.put, List.setIfInBounds_toArray, List.set_cons_zero, List.set_cons_succ]
          rfl
        refine pure_ (i := 9) (N := (some 81)) (v := ?_) (a' := ?_) #[true, true, true, true, true, true, true, true, true, true, true, false] rfl rfl (by kernel_rfl) (fun _ _ _ h => h) (Or.inl ⟨by rfl, ?_⟩) ?_ ?_
        rotate_left
        · intro w'
          go_simp
          with_reducible rfl
        rotate_left
        · simp only [Act.put, List.setIfInBounds_toArray, List.set_cons_zero, List.set_cons_succ]
          rfl
        exact norm_ (by first | (simp only [putAll, Act.put, List.setIfInBounds_toArray, List.set_cons_zero, List.set_cons_succ]; done) | (simp only [putAll, Act.put, List.setIfInBounds_toArray, List.set_cons_zero, List.set_cons_succ]; rfl)) (hJ (gO, gL, Aj, cj, Ns, nc) _ (HS.out.perm (by first | exact List.Perm.refl _ | exact List.Perm.swap _ _ _ | exact (List.Perm.swap _ _ _).cons _ | exact (List.Perm.swap _ _ _).trans ((List.Perm.swap _ _ _).cons _) | exact ((List.Perm.swap _ _ _).cons _).trans (List.Perm.swap _ _ _) | exact (List.Perm.swap _ _ _).trans (((List.Perm.swap _ _ _).cons _).trans (List.Perm.swap _ _ _)))))
      · skip
        refine lit_step (by rfl) rfl #[.int .i64 z] 3 1 (by first | (go_simp; done) | (go_simp; rfl)) ?_
        intro gL wL hgL hxL hbL
        have nS : Aside0 (Sx wz7 wL [(.blk gL #[.int .i64 z] 3), (.blk gO #[.bool false, .slice none 0 0, .slice none 0 0] 28), (.row (.slice Qs Q1.length qc) Q1), (.row (.slice Ps P1.length pc) P1)]) := Aside0.mk (HS.out.box hgL.symm hxL hbL)
        clear HS hgL hxL hbL
        have HS := nS
        clear nS
        refine hK.out _ _ ⟨(blk_cell (blk_below HKB.out HS.out.below) 0).trans rfl, (blk_cell (blk_below HKB.out HS.out.below) 1).trans rfl, (blk_cell (blk_below HKB.out HS.out.below) 2).trans rfl⟩ (fun hHeld => ?_)
        clear hK K
        refine norm_ (a' := ?_) ?_ ?_
        rotate_left
        · show Act.put _ (some 79) _ = _
          simp only [Act.put, List.setIfInBounds_toArray, List.set_cons_zero, List.set_cons_succ]
          rfl
        refine one_ (i := 3) (N := (some 75)) #[true, true, true, true, true, true, true, true, false, false, true, false] rfl rfl (by kernel_rfl) (by decide) (fun K hK => ?_)
        refine goes_ Try.func92 (by kernel_rfl) rfl #[.agg #[.bool a, .slice As L1.length cs, .slice Ad L2.length cd], .bool false] (by rfl) rfl rfl (by (try simp only [List.map_toArray, List.map_cons, List.map_nil]); first | done | rfl) ?_
        with_reducible refine (impl_Array_without.calls a As cs L1 Ad cd L2 false P1 _ (Kd.C_below CA1.out HS.out.below) KA1.out (Kd.C_below CA2.out HS.out.below) KA2.out HWA.out).mono ?_
        rintro e vo8 ⟨v_, rfl, hro8, hbo8⟩
        obtain ⟨Ns, nc, hv_⟩ := Kd.R_slice hro8
        subst hv_
        have nS : Aside0 (Sx wz7 vo8 [(.row (.slice Ns P1.length nc) P1), (.blk gL #[.int .i64 z] 3), (.blk gO #[.bool false, .slice none 0 0, .slice none 0 0] 28), (.row (.slice Qs Q1.length qc) Q1), (.row (.slice Ps P1.length pc) P1)]) := Aside0.mk (HS.out.addRow hbo8 hro8)
        clear HS hbo8
        have HS := nS
        clear nS
        refine ⟨_, rfl, ?_⟩
        refine hK.out _ _ ⟨(blk_cell (blk_below HKB.out HS.out.below) 0).trans rfl, (blk_cell (blk_below HKB.out HS.out.below) 1).trans rfl, (blk_cell (blk_below HKB.out HS.out.below) 2).trans rfl⟩ (fun hHeld => ?_)
        clear hK K
        refine norm_ (a' := ?_) ?_ ?_
        rotate_left
        · show Act.put _ (some 75) _ = _
          simp only [Act.put, List.setIfInBounds_toArray, List.set_cons_zero, List.set_cons_succ]
          rfl
        refine one_ (i := 8) (N := (some 80)) #[true, true, true, true, true, true, true, true, true, false, true, false] rfl rfl (by kernel_rfl) (by decide) (fun K hK => ?_)
        refine HS.out.appendRows_step 0 rfl P1.length (P1.length + 1) rfl (by rfl) (.tmp 75) (.tmp 79) rfl Try.underlying22 info3 (some ⟨gL, 0, none⟩) 1 1 [z] (P1 ++ [z]) rfl rfl rfl (rowI_C (l := [z]) (HS.out.blk 1 rfl) (by simp)) rfl rfl (by have := HP5.out; omega) ?_
        intro Aj cj wJ nJ
        have nS : Aside0 (Sx wz7 wJ [(.row (.slice Aj (P1.length + 1) cj) (P1 ++ [z])), (.blk gL #[.int .i64 z] 3), (.blk gO #[.bool false, .slice none 0 0, .slice none 0 0] 28), (.row (.slice Qs Q1.length qc) Q1), (.row (.slice Ps P1.length pc) P1)]) := Aside0.mk (nJ)
        clear HS nJ
        have HS := nS
        clear nS
        refine hK.out _ _ ⟨(blk_cell (blk_below HKB.out HS.out.below) 0).trans rfl, (blk_cell (blk_below HKB.out HS.out.below) 1).trans rfl, (blk_cell (blk_below HKB.out HS.out.below) 2).trans rfl⟩ (fun hHeld => ?_)
        clear hK K
        refine norm_ (a' := ?_) ?_ ?_
        rotate_left
        · show Act.put _ (some 80) _ = _
          simp only [Act.put, List.setIfInBounds_toArray, List.set_cons_zero, List.set_cons_succ]
          rfl
        refine pure_ (i := 9) (N := (some 81)) (v := ?_) (a' := ?_) #[true, true, true, true, true, true, true, true, true, true, true, false] rfl rfl (by kernel_rfl) (fun _ _ _ h => h) (Or.inl ⟨by rfl, ?_⟩) ?_ ?_
        rotate_left
        · intro w'
          go_simp
          with_reducible rfl
        rotate_left
        · simp only [Act.put, List.setIfInBounds_toArray, List.set_cons_zero, List.set_cons_succ]
          rfl
        exact norm_ (by first | (simp only [putAll, Act.put, List.setIfInBounds_toArray, List.set_cons_zero, List.set_cons_succ]; done) | (simp only [putAll, Act.put, List.setIfInBounds_toArray, List.set_cons_zero, List.set_cons_succ]; rfl)) (hJ (gO, gL, Aj, cj, Ns, nc) _ (HS.out.perm (by first | exact List.Perm.refl _ | exact List.Perm.swap _ _ _ | exact (List.Perm.swap _ _ _).cons _ | exact (List.Perm.swap _ _ _).trans ((List.Perm.swap _ _ _).cons _) | exact ((List.Perm.swap _ _ _).cons _).trans (List.Perm.swap _ _ _) | exact (List.Perm.swap _ _ _).trans (((List.Perm.swap _ _ _).cons _).trans (List.Perm.swap _ _ _)))))
  · skip
    intro s_ w_ hF
    obtain ⟨gO, gL, Aj, cj, Ns, nc⟩ := s_
    have nS : Aside0 (Sx wz7 w_ [(.blk gO #[.bool false, .slice none 0 0, .slice none 0 0] 28), (.row (.slice Aj (P1.length + 1) cj) (P1 ++ [z])), (.blk gL #[.int .i64 z] 3), (.row (.slice Qs Q1.length qc) Q1), (.row (.slice Ps P1.length pc) P1)]) := Aside0.mk hF
    clear HS hF
    have HS := nS
    clear nS
    refine norm_ (a' := ?_) ?_ ?_
    rotate_left
    · simp only [putAll, Act.put, List.setIfInBounds_toArray, List.set_cons_zero, List.set_cons_succ]
      rfl
    refine last_ (i := 11) (N := none) #[true, true, true, true, true, true, true, true, true, true, true, true] rfl rfl (by kernel_rfl) (by decide) (fun K hK => ?_)
    refine store_named_step (by rfl) 28 (.tmp 11) (.tmp 81) rfl gO #[.bool a, .slice Aj (P1.length + 1) cj, .slice none 0 0] rfl rfl 28 #[.bool false, .slice none 0 0, .slice none 0 0] (HS.out.blk 0 rfl) (by kernel_rfl) rfl (by simp [Value.oneCell']) ?_
    intro wO hxz hbz
    have nS : Aside0 (Sx wz7 wO [(.blk gO #[.bool a, .slice Aj (P1.length + 1) cj, .slice none 0 0] 28), (.row (.slice Aj (P1.length + 1) cj) (P1 ++ [z])), (.blk gL #[.int .i64 z] 3), (.row (.slice Qs Q1.length qc) Q1), (.row (.slice Ps P1.length pc) P1)]) := Aside0.mk (HS.out.put 0 rfl hxz hbz)
    clear HS hxz hbz
    have HS := nS
    clear nS
    refine hK.out _ _ ?_
    clear hK K
    refine done_ (by kernel_rfl) ?_
    go_simp
    go_upto_region 14 with fail
    go_cut [91] from 82 to 91 (fun s91 wx => s91 = .bool sw ∧ Aside0 (Sx wz7 wx [(.blk gO #[.bool a, .slice Aj (P1.length + 1) cj, .slice none 0 0] 28), (.row (.slice Aj (P1.length + 1) cj) (P1 ++ [z])), (.blk gL #[.int .i64 z] 3), (.row (.slice Qs Q1.length qc) Q1), (.row (.slice Ps P1.length pc) P1)]))
    case first =>
      have hsw := HSW.out
      clear HSW
      by_cases hl2 : L2.length = 0
      · by_cases hm2 : 0 < M2.length
        · have g0 : ((L2.length : Int) == 0) = true := beq_iff_eq.mpr (by omega)
          have g1 : (L2.length == 0) = true := beq_iff_eq.mpr hl2
          have g1d : decide (L2.length = 0) = true := decide_eq_true hl2
          have g2 : decide ((M2.length : Int) > 0) = true := decide_eq_true (by omega)
          have g3 : (0 : Int) < (M2.length : Int) := by omega
          have g4 : decide (0 < M2.length) = true := decide_eq_true hm2
          have E91 := Aside0.mk (show sw = true by rw [hsw, decide_eq_true hl2, decide_eq_true hm2]; rfl)
          clear hsw
          clear hl2 hm2
          go_wp2_with (first | ((with_reducible refine wpList_guardedB ?hw ?_); (case hw => first | rfl | (go_simp; done))) | ((with_reducible refine gate_dst (N := 83) rfl ?_); refine ev_load rfl 22 (.tmp 82) rfl ⟨gK, 2, none⟩ rfl (.slice Ad L2.length cd) ((blk_cell (blk_below HKB.out HS.out.below) 2).trans rfl) (by kernel_rfl) ?_) | ((with_reducible refine gate_dst (N := 88) rfl ?_); refine ev_load rfl 22 (.tmp 87) rfl ⟨gB, 2, none⟩ rfl (.slice Bd M2.length dd) ((blk_cell (blk_below HBB.out HS.out.below) 2).trans rfl) (by kernel_rfl) ?_))
          go_meet
          case rel => exact ⟨by first | (rw [E91.out]; done) | (rw [E91.out, g4]), HS⟩
        · have g0 : ((L2.length : Int) == 0) = true := beq_iff_eq.mpr (by omega)
          have g1 : (L2.length == 0) = true := beq_iff_eq.mpr hl2
          have g1d : decide (L2.length = 0) = true := decide_eq_true hl2
          have g2 : decide ((M2.length : Int) > 0) = false := decide_eq_false (by omega)
          have g3 : ¬ (0 : Int) < (M2.length : Int) := by omega
          have g4 : decide (0 < M2.length) = false := decide_eq_false hm2
          have E91 := Aside0.mk (show sw = false by rw [hsw, decide_eq_true hl2, decide_eq_false hm2]; rfl)
          clear hsw
          clear hl2 hm2
          go_wp2_with (first | ((with_reducible refine wpList_guardedB ?hw ?_); (case hw => first | rfl | (go_simp; done))) | ((with_reducible refine gate_dst (N := 83) rfl ?_); refine ev_load rfl 22 (.tmp 82) rfl ⟨gK, 2, none⟩ rfl (.slice Ad L2.length cd) ((blk_cell (blk_below HKB.out HS.out.below) 2).trans rfl) (by kernel_rfl) ?_) | ((with_reducible refine gate_dst (N := 88) rfl ?_); refine ev_load rfl 22 (.tmp 87) rfl ⟨gB, 2, none⟩ rfl (.slice Bd M2.length dd) ((blk_cell (blk_below HBB.out HS.out.below) 2).trans rfl) (by kernel_rfl) ?_))
          go_meet
          case rel => exact ⟨by first | (rw [E91.out]; done) | (rw [E91.out, g4]), HS⟩
      · have g0 : ((L2.length : Int) == 0) = false := beq_eq_false_iff_ne.mpr (by omega)
        have g1 : (L2.length == 0) = false := beq_eq_false_iff_ne.mpr hl2
        have g1d : decide (L2.length = 0) = false := decide_eq_false hl2
        have E91 := Aside0.mk (show sw = false by rw [hsw, decide_eq_false hl2]; rfl)
        clear hsw
        clear hl2
        go_wp2_with (first | ((with_reducible refine wpList_guardedB ?hw ?_); (case hw => first | rfl | (go_simp; done))) | ((with_reducible refine gate_dst (N := 83) rfl ?_); refine ev_load rfl 22 (.tmp 82) rfl ⟨gK, 2, none⟩ rfl (.slice Ad L2.length cd) ((blk_cell (blk_below HKB.out HS.out.below) 2).trans rfl) (by kernel_rfl) ?_) | ((with_reducible refine gate_dst (N := 88) rfl ?_); refine ev_load rfl 22 (.tmp 87) rfl ⟨gB, 2, none⟩ rfl (.slice Bd M2.length dd) ((blk_cell (blk_below HBB.out HS.out.below) 2).trans rfl) (by kernel_rfl) ?_))
        go_meet
        case rel => exact ⟨by first | (rw [E91.out]; done) | (rw [E91.out, g4]), HS⟩
    clear HS
    obtain ⟨e91, HS⟩ := hcut
    subst e91
    go_upto_if 91 with fail
    go_cut [] from 92 to 94 (fun wx => Aside0 (Sx wz7 wx [(.blk gO #[.bool kc, .slice Aj (P1.length + 1) cj, .slice none 0 0] 28), (.row (.slice Aj (P1.length + 1) cj) (P1 ++ [z])), (.blk gL #[.int .i64 z] 3), (.row (.slice Qs Q1.length qc) Q1), (.row (.slice Ps P1.length pc) P1)]))
    case first =>
      have hkc := HKC.out
      clear HKC HSW
      cases sw
      · replace hkc : kc = a := hkc
        subst kc
        go_wp2
        go_meet
        case rel => exact HS
      · replace hkc : kc = b := hkc
        subst kc
        go_wp2_with (first | ((with_reducible refine gate_dst (N := 93) rfl ?_); refine ev_load rfl 4 (.tmp 92) rfl ⟨gB, 0, none⟩ rfl (.bool b) ((blk_cell (blk_below HBB.out HS.out.below) 0).trans rfl) (by kernel_rfl) ?_) | ((with_reducible refine gate_store rfl ?_); refine ev_store rfl 4 (.tmp 94) (.tmp 93) rfl gO 0 rfl (.bool b) rfl #[.bool a, .slice Aj (P1.length + 1) cj, .slice none 0 0] 28 (HS.out.blk 0 rfl) (show 0 < 3 from by decide) rfl (by kernel_rfl) ?_; intro wk8 hxk8 hbk8; have nS : Aside0 (Sx wz7 wk8 [(.blk gO #[.bool b, .slice Aj (P1.length + 1) cj, .slice none 0 0] 28), (.row (.slice Aj (P1.length + 1) cj) (P1 ++ [z])), (.blk gL #[.int .i64 z] 3), (.row (.slice Qs Q1.length qc) Q1), (.row (.slice Ps P1.length pc) P1)]) := Aside0.mk (HS.out.put 0 rfl hxk8 hbk8); clear HS; have HS := nS; clear nS hxk8 hbk8))
        go_meet
        case rel => exact HS
    clear HS
    have HS := hcut
    clear hcut
    go_upto_region 17 with (first | ((with_reducible refine gate_dst (N := 97) rfl ?_); refine ev_load rfl 22 (.tmp 96) rfl ⟨gO, 1, none⟩ rfl (.slice Aj (P1.length + 1) cj) ((blk_cell (HS.out.blk 0 rfl) 1).trans rfl) (by kernel_rfl) ?_) | (go_at_call 94; refine (shapeOk_len k1 (P1.length + 1) Aj cj (P1 ++ [z]) (zN, zok) _ (HS.out.C 1 rfl) (HS.out.cap 1 rfl) HPZ.out HSH.out).mono ?_; rintro e ws8 ⟨rfl, hbs8⟩; have nS : Aside0 (Sx wz7 ws8 [(.blk gO #[.bool kc, .slice Aj (P1.length + 1) cj, .slice none 0 0] 28), (.row (.slice Aj (P1.length + 1) cj) (P1 ++ [z])), (.blk gL #[.int .i64 z] 3), (.row (.slice Qs Q1.length qc) Q1), (.row (.slice Ps P1.length pc) P1)]) := Aside0.mk (HS.out.step hbs8); clear HS; have HS := nS; clear nS hbs8))
    cases zok
    · obtain ⟨e1_, e2_, e3_, e4_⟩ := H7.out (by first | trivial | rfl)
      subst e1_ e2_ e3_ e4_
      clear H7 H0
      go_wp2_with (first | ((with_reducible refine gate_store rfl ?_); refine store_named rfl 28 (.tmp 4) (.tmp 103) rfl gR #[.bool false, .slice none 0 0, .slice none 0 0] rfl rfl 28 #[.bool false, .slice none 0 0, .slice none 0 0] (blk_below HRB.out HS.out.below) (by kernel_rfl) rfl (by simp [Value.oneCell']) ?_; intro wF hxF hbF; have HXF := Aside0.mk hxF; have HBF := Aside0.mk hbF; clear hxF hbF))
      refine bodyPost_ret (results_ct rfl _ _ gR 28 #[.bool false, .slice none 0 0, .slice none 0 0] (0, 0) _ rfl HXF.out Try.underlying28 rfl (by kernel_rfl)) rfl ?_
      exact ⟨_, _, rfl, Kd.R_nil _ _ _ _ _, Kd.R_nil _ _ _ _ _, (below_step HB0.out HS.out.below).trans (HBF.out.below _ HGR.out)⟩
    · go_wp2_with (first | ((with_reducible refine gate_dst (N := 105) rfl ?_); refine wpList_load_row rfl 28 (.tmp 2) rfl gK rfl 28 #[.bool a, .slice As L1.length cs, .slice Ad L2.length cd] (0, 0) _ (blk_below HKB.out HS.out.below) Try.underlying28 rfl (by kernel_rfl) ?_) | (go_at_call_of 92 (Value.agg #[.bool a, .slice As L1.length cs, .slice Ad L2.length cd]); refine (impl_Array_without.calls a As cs L1 Ad cd L2 false P1 _ (Kd.C_below CA1.out HS.out.below) KA1.out (Kd.C_below CA2.out HS.out.below) KA2.out HWA.out).mono ?_; rintro e ws9 ⟨v_, rfl, hrs9, hbs9⟩; obtain ⟨Ws, wc_, hv_⟩ := Kd.R_slice hrs9; subst hv_; have nS : Aside0 (Sx wz7 ws9 [(.row (.slice Ws P1.length wc_) P1), (.blk gO #[.bool kc, .slice Aj (P1.length + 1) cj, .slice none 0 0] 28), (.row (.slice Aj (P1.length + 1) cj) (P1 ++ [z])), (.blk gL #[.int .i64 z] 3), (.row (.slice Qs Q1.length qc) Q1), (.row (.slice Ps P1.length pc) P1)]) := Aside0.mk (HS.out.addRow hbs9 hrs9); clear HS; have HS := nS; clear nS hbs9) | (go_at_call 94; refine (shapeOk_len k3 P1.length Ws wc_ P1 ((N1 : Int), true) _ (HS.out.C 0 rfl) (HS.out.cap 0 rfl) rfl HSH1.out).mono ?_; rintro e ws10 ⟨rfl, hbs10⟩; have nS : Aside0 (Sx wz7 ws10 [(.row (.slice Ws P1.length wc_) P1), (.blk gO #[.bool kc, .slice Aj (P1.length + 1) cj, .slice none 0 0] 28), (.row (.slice Aj (P1.length + 1) cj) (P1 ++ [z])), (.blk gL #[.int .i64 z] 3), (.row (.slice Qs Q1.length qc) Q1), (.row (.slice Ps P1.length pc) P1)]) := Aside0.mk (HS.out.step hbs10); clear HS; have HS := nS; clear nS hbs10))
      have nS : Aside0 (Sx wz7 _ [(.row (.slice none 0 0) []), (.row (.slice Ws P1.length wc_) P1), (.blk gO #[.bool kc, .slice Aj (P1.length + 1) cj, .slice none 0 0] 28), (.row (.slice Aj (P1.length + 1) cj) (P1 ++ [z])), (.blk gL #[.int .i64 z] 3), (.row (.slice Qs Q1.length qc) Q1), (.row (.slice Ps P1.length pc) P1)]) := Aside0.mk (HS.out.nilRow 0 (Nat.zero_le _))
      clear HS 
      have HS := nS
      clear nS
      go_loopw [16, 111] (fun _ zz wr => ∃ (r : Nat) (A : Option Addr) (n c : Nat), zz = .int .i64 (r : Int) ∧ Aside0 (r ≤ N1) ∧ Aside0 ((catRows L2 M2 ma nb r).length = n) ∧ Aside0 (Sx wz7 wr [(.row (.slice A n c) (catRows L2 M2 ma nb r)), (.row (.slice Ws P1.length wc_) P1), (.blk gO #[.bool kc, .slice Aj (P1.length + 1) cj, .slice A n c] 28), (.row (.slice Aj (P1.length + 1) cj) (P1 ++ [z])), (.blk gL #[.int .i64 z] 3), (.row (.slice Qs Q1.length qc) Q1), (.row (.slice Ps P1.length pc) P1)])) (fun _ zz _ => N1 - (intOf zz).toNat)
      case atStart => exact ⟨0, none, 0, 0, rfl, ⟨Nat.zero_le _⟩, ⟨rfl⟩, HS⟩
      case round =>
        clear HS
        obtain ⟨r, A, n, c, rfl, hr, HN, HS⟩ := hrel
        by_cases hlt : r < N1
        · have HNB := Aside0.mk (rows_n HPA.out HPB.out HL2.out HM2.out hlt HN.out)
          obtain ⟨x0, x1, hx0, hx1, ha1, wa, wb, wc1⟩ := rows_at HPA.out HL2.out hlt
          obtain ⟨y0, y1, hy0, hy1, hb1, va, vb, vc1⟩ := rows_at HPB.out HM2.out hlt
          obtain ⟨r1, hr1⟩ : ∃ q, q = r + 1 := ⟨_, rfl⟩
          rw [← hr1] at wb vb
          have w1 : IntKind.i64.wrap ((r : Int) + 1) = (r1 : Int) := by rw [IntWalk.i64_in _ (by have := HL2.out; have := HNR.out; omega), hr1]; omega
          obtain ⟨A1_, hcu1, HCU1, HYL1⟩ := mid_ Ad cd L2 x0 x1 ma hx1 ha1 KA2.out
          obtain ⟨A2_, hcu2, HCU2, HYL2⟩ := mid_ Bd dd M2 y0 y1 nb hy1 hb1 KB2.out
          replace HCU1 := Aside0.mk HCU1
          replace HCU2 := Aside0.mk HCU2
          replace HYL1 := Aside0.mk HYL1
          replace HYL2 := Aside0.mk HYL2
          have HR1 := Aside0.mk hr1
          have HX0 := Aside0.mk hx0
          have HY0 := Aside0.mk hy0
          clear hx0 hx1 ha1 wc1 hy0 hy1 hb1 vc1 hr1
          have p1 : (r : Int) < (N1 : Int) := by omega
          go_upto_region 23 with fail
          have nS := Aside0.mk HS.out.drew
          clear HS
          have HS := nS
          clear nS
          refine start_ (n := 15) (S := (fun w' => w'.cell? ⟨gO, 2, none⟩ = some (.slice A n c) ∧ w'.cell? ⟨gK, 2, none⟩ = some (.slice Ad L2.length cd))) (ds := [14]) #[false, false, false, false, false, false, false, false, false, false, false, false, false, false, false] (by kernel_rfl) rfl rfl ⟨(blk_cell (HS.out.blk 2 rfl) 2).trans rfl, (blk_cell (blk_below HKB.out HS.out.below) 2).trans rfl⟩ (fun hHeld => ?_)
          refine pure_ (i := 0) (N := (some 114)) (v := ?_) (a' := ?_) #[true, false, false, false, false, false, false, false, false, false, false, false, false, false, false] rfl rfl (by kernel_rfl) (fun _ _ _ h => h) (Or.inl ⟨by rfl, ?_⟩) ?_ ?_
          rotate_left
          · intro w'
            go_simp
            with_reducible rfl
          rotate_left
          · simp only [Act.put, List.setIfInBounds_toArray, List.set_cons_zero, List.set_cons_succ]
            rfl
          refine take_ (i := 1) (N := (some 115)) (v := ?_) (a' := ?_) #[true, true, false, false, false, false, false, false, false, false, false, false, false, false, false] rfl rfl (by kernel_rfl) (fun _ _ _ h => h) (Or.inl ⟨by rfl, ?_⟩) hHeld ?_ ?_
          rotate_left
          · rintro w' ⟨s0, s1⟩
            go_simp
            with_reducible rfl
          rotate_left
          · simp only [Act.put, List.setIfInBounds_toArray, List.set_cons_zero, List.set_cons_succ]
            rfl
          refine pure_ (i := 2) (N := (some 116)) (v := ?_) (a' := ?_) #[true, true, true, false, false, false, false, false, false, false, false, false, false, false, false] rfl rfl (by kernel_rfl) (fun _ _ _ h => h) (Or.inl ⟨by rfl, ?_⟩) ?_ ?_
          rotate_left
          · intro w'
            go_simp
            with_reducible rfl
          rotate_left
          · simp only [Act.put, List.setIfInBounds_toArray, List.set_cons_zero, List.set_cons_succ]
            rfl
          refine take_ (i := 3) (N := (some 117)) (v := ?_) (a' := ?_) #[true, true, true, true, false, false, false, false, false, false, false, false, false, false, false] rfl rfl (by kernel_rfl) (fun _ _ _ h => h) (Or.inl ⟨by rfl, ?_⟩) hHeld ?_ ?_
          rotate_left
          · rintro w' ⟨s0, s1⟩
            go_simp
            with_reducible rfl
          rotate_left
          · simp only [Act.put, List.setIfInBounds_toArray, List.set_cons_zero, List.set_cons_succ]
            rfl
          refine pure_ (i := 4) (N := (some 118)) (v := ?_) (a' := ?_) #[true, true, true, true, true, false, false, false, false, false, false, false, false, false, false] rfl rfl (by kernel_rfl) (fun _ _ _ h => h) (Or.inl ⟨by rfl, ?_⟩) ?_ ?_
          rotate_left
          · intro w'
            go_simp
            with_reducible rfl
          rotate_left
          · simp only [Act.put, List.setIfInBounds_toArray, List.set_cons_zero, List.set_cons_succ]
            rfl
          refine pure_ (i := 5) (N := (some 119)) (v := ?_) (a' := ?_) #[true, true, true, true, true, true, false, false, false, false, false, false, false, false, false] rfl rfl (by kernel_rfl) (fun _ _ _ h => h) (Or.inl ⟨by rfl, ?_⟩) ?_ ?_
          rotate_left
          · intro w'
            go_simp
            with_reducible rfl
          rotate_left
          · simp only [Act.put, List.setIfInBounds_toArray, List.set_cons_zero, List.set_cons_succ]
            rfl
          refine pure_ (i := 6) (N := (some 120)) (v := ?_) (a' := ?_) #[true, true, true, true, true, true, true, false, false, false, false, false, false, false, false] rfl rfl (by kernel_rfl) (fun _ _ _ h => h) (Or.inl ⟨by rfl, ?_⟩) ?_ ?_
          rotate_left
          · intro w'
            go_simp
            with_reducible rfl
          rotate_left
          · simp only [Act.put, List.setIfInBounds_toArray, List.set_cons_zero, List.set_cons_succ]
            rfl
          refine pure_ (i := 7) (N := (some 121)) (v := ?_) (a' := ?_) #[true, true, true, true, true, true, true, true, false, false, false, false, false, false, false] rfl rfl (by kernel_rfl) (fun _ _ _ h => h) (Or.inl ⟨by rfl, ?_⟩) ?_ ?_
          rotate_left
          · intro w'
            go_simp
            with_reducible rfl
          rotate_left
          · simp only [Act.put, List.setIfInBounds_toArray, List.set_cons_zero, List.set_cons_succ]
            rfl
          refine pure_ (i := 8) (N := (some 122)) (v := ?_) (a' := ?_) #[true, true, true, true, true, true, true, true, true, false, false, false, false, false, false] rfl rfl (by kernel_rfl) (fun _ _ _ h => h) (Or.inl ⟨by rfl, ?_⟩) ?_ ?_
          rotate_left
          · intro w'
            go_simp
            with_reducible rfl
          rotate_left
          · simp only [Act.put, List.setIfInBounds_toArray, List.set_cons_zero, List.set_cons_succ]
            rfl
          refine pure_ (i := 9) (N := (some 123)) (v := ?_) (a' := ?_) #[true, true, true, true, true, true, true, true, true, true, false, false, false, false, false] rfl rfl (by kernel_rfl) (fun _ _ _ h => h) (Or.inl ⟨by rfl, ?_⟩) ?_ ?_
          rotate_left
          · intro w'
            go_simp
            with_reducible rfl
          rotate_left
          · simp only [Act.put, List.setIfInBounds_toArray, List.set_cons_zero, List.set_cons_succ]
            rfl
          refine pure_ (i := 10) (N := (some 124)) (v := ?_) (a' := ?_) #[true, true, true, true, true, true, true, true, true, true, true, false, false, false, false] rfl rfl (by kernel_rfl) (fun _ _ _ h => h) (Or.inl ⟨by rfl, ?_⟩) ?_ ?_
          rotate_left
          · intro w'
            go_simp
            with_reducible rfl
          rotate_left
          · simp only [Act.put, List.setIfInBounds_toArray, List.set_cons_zero, List.set_cons_succ]
            rfl
          refine pure_ (i := 11) (N := (some 125)) (v := ?_) (a' := ?_) #[true, true, true, true, true, true, true, true, true, true, true, true, false, false, false] rfl rfl (by kernel_rfl) (fun _ _ _ h => h) (Or.inl ⟨by rfl, ?_⟩) ?_ ?_
          rotate_left
          · intro w'
            go_simp
            with_reducible rfl
          rotate_left
          · simp only [Act.put, List.setIfInBounds_toArray, List.set_cons_zero, List.set_cons_succ]
            rfl
          refine one_ (i := 12) (N := (some 126)) #[true, true, true, true, true, true, true, true, true, true, true, true, true, false, false] rfl rfl (by kernel_rfl) (by decide) (fun K hK => ?_)
          refine HS.out.appendRows_step 0 rfl n (n + ma) HN.out (by rfl) (.tmp 115) (.tmp 125) rfl Try.underlying22 info3 A1_ ma (cd - x0) ((L2.drop x0).take ma) _ rfl rfl HYL1.out (HCU1.out _ (Kd.C_below CA2.out HS.out.below)) rfl rfl (by have := HNB.out; omega) ?_
          intro Ae ce wJ nJ
          have nS : Aside0 (Sx wz7 wJ [(.row (.slice Ae (n + ma) ce) ((catRows L2 M2 ma nb r) ++ ((L2.drop x0).take ma))), (.row (.slice Ws P1.length wc_) P1), (.blk gO #[.bool kc, .slice Aj (P1.length + 1) cj, .slice A n c] 28), (.row (.slice Aj (P1.length + 1) cj) (P1 ++ [z])), (.blk gL #[.int .i64 z] 3), (.row (.slice Qs Q1.length qc) Q1), (.row (.slice Ps P1.length pc) P1)]) := Aside0.mk nJ
          clear HS nJ
          have HS := nS
          clear nS
          refine hK.out _ _ ⟨(blk_cell (HS.out.blk 2 rfl) 2).trans rfl, (blk_cell (blk_below HKB.out HS.out.below) 2).trans rfl⟩ (fun hHeld => ?_)
          clear hK K
          refine norm_ (a' := ?_) ?_ ?_
          rotate_left
          · show Act.put _ (some 126) _ = _
            simp only [Act.put, List.setIfInBounds_toArray, List.set_cons_zero, List.set_cons_succ]
            rfl
          refine pure_ (i := 13) (N := (some 127)) (v := ?_) (a' := ?_) #[true, true, true, true, true, true, true, true, true, true, true, true, true, true, false] rfl rfl (by kernel_rfl) (fun _ _ _ h => h) (Or.inl ⟨by rfl, ?_⟩) ?_ ?_
          rotate_left
          · intro w'
            go_simp
            with_reducible rfl
          rotate_left
          · simp only [Act.put, List.setIfInBounds_toArray, List.set_cons_zero, List.set_cons_succ]
            rfl
          refine last_ (i := 14) (N := none) #[true, true, true, true, true, true, true, true, true, true, true, true, true, true, true] rfl rfl (by kernel_rfl) (by decide) (fun K hK => ?_)
          refine store_cell_step (by rfl) 22 (.tmp 127) (.tmp 126) rfl gO 2 rfl (.slice Ae (n + ma) ce) rfl #[.bool kc, .slice Aj (P1.length + 1) cj, .slice A n c] 28 (HS.out.blk 2 rfl) (show 2 < 3 from by decide) rfl (by kernel_rfl) ?_
          intro wz hxz hbz
          have nS : Aside0 (Sx wz7 wz [(.row (.slice Ae (n + ma) ce) ((catRows L2 M2 ma nb r) ++ ((L2.drop x0).take ma))), (.row (.slice Ws P1.length wc_) P1), (.blk gO #[.bool kc, .slice Aj (P1.length + 1) cj, .slice Ae (n + ma) ce] 28), (.row (.slice Aj (P1.length + 1) cj) (P1 ++ [z])), (.blk gL #[.int .i64 z] 3), (.row (.slice Qs Q1.length qc) Q1), (.row (.slice Ps P1.length pc) P1)]) := Aside0.mk (HS.out.put 2 rfl hxz hbz)
          clear HS hxz hbz
          have HS := nS
          clear nS
          refine hK.out _ _ ?_
          clear hK K
          refine done_ (by kernel_rfl) ?_
          go_simp
          go_upto_region 24 with fail
          have nS := Aside0.mk HS.out.drew
          clear HS
          have HS := nS
          clear nS
          refine start_ (n := 15) (S := (fun w' => w'.cell? ⟨gO, 2, none⟩ = some (.slice Ae (n + ma) ce) ∧ w'.cell? ⟨gB, 2, none⟩ = some (.slice Bd M2.length dd))) (ds := [14]) #[false, false, false, false, false, false, false, false, false, false, false, false, false, false, false] (by kernel_rfl) rfl rfl ⟨(blk_cell (HS.out.blk 2 rfl) 2).trans rfl, (blk_cell (blk_below HBB.out HS.out.below) 2).trans rfl⟩ (fun hHeld => ?_)
          refine pure_ (i := 0) (N := (some 128)) (v := ?_) (a' := ?_) #[true, false, false, false, false, false, false, false, false, false, false, false, false, false, false] rfl rfl (by kernel_rfl) (fun _ _ _ h => h) (Or.inl ⟨by rfl, ?_⟩) ?_ ?_
          rotate_left
          · intro w'
            go_simp
            with_reducible rfl
          rotate_left
          · simp only [Act.put, List.setIfInBounds_toArray, List.set_cons_zero, List.set_cons_succ]
            rfl
          refine take_ (i := 1) (N := (some 129)) (v := ?_) (a' := ?_) #[true, true, false, false, false, false, false, false, false, false, false, false, false, false, false] rfl rfl (by kernel_rfl) (fun _ _ _ h => h) (Or.inl ⟨by rfl, ?_⟩) hHeld ?_ ?_
          rotate_left
          · rintro w' ⟨s0, s1⟩
            go_simp
            with_reducible rfl
          rotate_left
          · simp only [Act.put, List.setIfInBounds_toArray, List.set_cons_zero, List.set_cons_succ]
            rfl
          refine pure_ (i := 2) (N := (some 130)) (v := ?_) (a' := ?_) #[true, true, true, false, false, false, false, false, false, false, false, false, false, false, false] rfl rfl (by kernel_rfl) (fun _ _ _ h => h) (Or.inl ⟨by rfl, ?_⟩) ?_ ?_
          rotate_left
          · intro w'
            go_simp
            with_reducible rfl
          rotate_left
          · simp only [Act.put, List.setIfInBounds_toArray, List.set_cons_zero, List.set_cons_succ]
            rfl
          refine take_ (i := 3) (N := (some 131)) (v := ?_) (a' := ?_) #[true, true, true, true, false, false, false, false, false, false, false, false, false, false, false] rfl rfl (by kernel_rfl) (fun _ _ _ h => h) (Or.inl ⟨by rfl, ?_⟩) hHeld ?_ ?_
          rotate_left
          · rintro w' ⟨s0, s1⟩
            go_simp
            with_reducible rfl
          rotate_left
          · simp only [Act.put, List.setIfInBounds_toArray, List.set_cons_zero, List.set_cons_succ]
            rfl
          refine pure_ (i := 4) (N := (some 132)) (v := ?_) (a' := ?_) #[true, true, true, true, true, false, false, false, false, false, false, false, false, false, false] rfl rfl (by kernel_rfl) (fun _ _ _ h => h) (Or.inl ⟨by rfl, ?_⟩) ?_ ?_
          rotate_left
          · intro w'
            go_simp
            with_reducible rfl
          rotate_left
          · simp only [Act.put, List.setIfInBounds_toArray, List.set_cons_zero, List.set_cons_succ]
            rfl
          refine pure_ (i := 5) (N := (some 133)) (v := ?_) (a' := ?_) #[true, true, true, true, true, true, false, false, false, false, false, false, false, false, false] rfl rfl (by kernel_rfl) (fun _ _ _ h => h) (Or.inl ⟨by rfl, ?_⟩) ?_ ?_
          rotate_left
          · intro w'
            go_simp
            with_reducible rfl
          rotate_left
          · simp only [Act.put, List.setIfInBounds_toArray, List.set_cons_zero, List.set_cons_succ]
            rfl
          refine pure_ (i := 6) (N := (some 134)) (v := ?_) (a' := ?_) #[true, true, true, true, true, true, true, false, false, false, false, false, false, false, false] rfl rfl (by kernel_rfl) (fun _ _ _ h => h) (Or.inl ⟨by rfl, ?_⟩) ?_ ?_
          rotate_left
          · intro w'
            go_simp
            with_reducible rfl
          rotate_left
          · simp only [Act.put, List.setIfInBounds_toArray, List.set_cons_zero, List.set_cons_succ]
            rfl
          refine pure_ (i := 7) (N := (some 135)) (v := ?_) (a' := ?_) #[true, true, true, true, true, true, true, true, false, false, false, false, false, false, false] rfl rfl (by kernel_rfl) (fun _ _ _ h => h) (Or.inl ⟨by rfl, ?_⟩) ?_ ?_
          rotate_left
          · intro w'
            go_simp
            with_reducible rfl
          rotate_left
          · simp only [Act.put, List.setIfInBounds_toArray, List.set_cons_zero, List.set_cons_succ]
            rfl
          refine pure_ (i := 8) (N := (some 136)) (v := ?_) (a' := ?_) #[true, true, true, true, true, true, true, true, true, false, false, false, false, false, false] rfl rfl (by kernel_rfl) (fun _ _ _ h => h) (Or.inl ⟨by rfl, ?_⟩) ?_ ?_
          rotate_left
          · intro w'
            go_simp
            with_reducible rfl
          rotate_left
          · simp only [Act.put, List.setIfInBounds_toArray, List.set_cons_zero, List.set_cons_succ]
            rfl
          refine pure_ (i := 9) (N := (some 137)) (v := ?_) (a' := ?_) #[true, true, true, true, true, true, true, true, true, true, false, false, false, false, false] rfl rfl (by kernel_rfl) (fun _ _ _ h => h) (Or.inl ⟨by rfl, ?_⟩) ?_ ?_
          rotate_left
          · intro w'
            go_simp
            with_reducible rfl
          rotate_left
          · simp only [Act.put, List.setIfInBounds_toArray, List.set_cons_zero, List.set_cons_succ]
            rfl
          refine pure_ (i := 10) (N := (some 138)) (v := ?_) (a' := ?_) #[true, true, true, true, true, true, true, true, true, true, true, false, false, false, false] rfl rfl (by kernel_rfl) (fun _ _ _ h => h) (Or.inl ⟨by rfl, ?_⟩) ?_ ?_
          rotate_left
          · intro w'
            go_simp
            with_reducible rfl
          rotate_left
          · simp only [Act.put, List.setIfInBounds_toArray, List.set_cons_zero, List.set_cons_succ]
            rfl
          refine pure_ (i := 11) (N := (some 139)) (v := ?_) (a' := ?_) #[true, true, true, true, true, true, true, true, true, true, true, true, false, false, false] rfl rfl (by kernel_rfl) (fun _ _ _ h => h) (Or.inl ⟨by rfl, ?_⟩) ?_ ?_
          rotate_left
          · intro w'
            go_simp
            with_reducible rfl
          rotate_left
          · simp only [Act.put, List.setIfInBounds_toArray, List.set_cons_zero, List.set_cons_succ]
            rfl
          refine one_ (i := 12) (N := (some 140)) #[true, true, true, true, true, true, true, true, true, true, true, true, true, false, false] rfl rfl (by kernel_rfl) (by decide) (fun K hK => ?_)
          refine HS.out.appendRows_step 0 rfl (n + ma) ((n + ma) + nb) (by rw [List.length_append, HN.out, HYL1.out]) (by rfl) (.tmp 129) (.tmp 139) rfl Try.underlying22 info3 A2_ nb (dd - y0) ((M2.drop y0).take nb) _ rfl rfl HYL2.out (HCU2.out _ (Kd.C_below CB2.out HS.out.below)) rfl rfl (by have := HNB.out; omega) ?_
          intro Af cf wJ nJ
          have nS : Aside0 (Sx wz7 wJ [(.row (.slice Af ((n + ma) + nb) cf) (((catRows L2 M2 ma nb r) ++ ((L2.drop x0).take ma)) ++ ((M2.drop y0).take nb))), (.row (.slice Ws P1.length wc_) P1), (.blk gO #[.bool kc, .slice Aj (P1.length + 1) cj, .slice Ae (n + ma) ce] 28), (.row (.slice Aj (P1.length + 1) cj) (P1 ++ [z])), (.blk gL #[.int .i64 z] 3), (.row (.slice Qs Q1.length qc) Q1), (.row (.slice Ps P1.length pc) P1)]) := Aside0.mk nJ
          clear HS nJ
          have HS := nS
          clear nS
          refine hK.out _ _ ⟨(blk_cell (HS.out.blk 2 rfl) 2).trans rfl, (blk_cell (blk_below HBB.out HS.out.below) 2).trans rfl⟩ (fun hHeld => ?_)
          clear hK K
          refine norm_ (a' := ?_) ?_ ?_
          rotate_left
          · show Act.put _ (some 140) _ = _
            simp only [Act.put, List.setIfInBounds_toArray, List.set_cons_zero, List.set_cons_succ]
            rfl
          refine pure_ (i := 13) (N := (some 141)) (v := ?_) (a' := ?_) #[true, true, true, true, true, true, true, true, true, true, true, true, true, true, false] rfl rfl (by kernel_rfl) (fun _ _ _ h => h) (Or.inl ⟨by rfl, ?_⟩) ?_ ?_
          rotate_left
          · intro w'
            go_simp
            with_reducible rfl
          rotate_left
          · simp only [Act.put, List.setIfInBounds_toArray, List.set_cons_zero, List.set_cons_succ]
            rfl
          refine last_ (i := 14) (N := none) #[true, true, true, true, true, true, true, true, true, true, true, true, true, true, true] rfl rfl (by kernel_rfl) (by decide) (fun K hK => ?_)
          refine store_cell_step (by rfl) 22 (.tmp 141) (.tmp 140) rfl gO 2 rfl (.slice Af ((n + ma) + nb) cf) rfl #[.bool kc, .slice Aj (P1.length + 1) cj, .slice Ae (n + ma) ce] 28 (HS.out.blk 2 rfl) (show 2 < 3 from by decide) rfl (by kernel_rfl) ?_
          intro wz hxz hbz
          have nS : Aside0 (Sx wz7 wz [(.row (.slice Af ((n + ma) + nb) cf) (((catRows L2 M2 ma nb r) ++ ((L2.drop x0).take ma)) ++ ((M2.drop y0).take nb))), (.row (.slice Ws P1.length wc_) P1), (.blk gO #[.bool kc, .slice Aj (P1.length + 1) cj, .slice Af ((n + ma) + nb) cf] 28), (.row (.slice Aj (P1.length + 1) cj) (P1 ++ [z])), (.blk gL #[.int .i64 z] 3), (.row (.slice Qs Q1.length qc) Q1), (.row (.slice Ps P1.length pc) P1)]) := Aside0.mk (HS.out.put 2 rfl hxz hbz)
          clear HS hxz hbz
          have HS := nS
          clear nS
          refine hK.out _ _ ?_
          clear hK K
          refine done_ (by kernel_rfl) ?_
          go_simp
          go_wp2
          go_roundw
          case rel =>
            refine ⟨r + 1, Af, n + ma + nb, cf, by rw [HR1.out], ⟨by omega⟩, ⟨by rw [catRows, List.length_append, List.length_append, HN.out, ← HX0.out, ← HY0.out, HYL1.out, HYL2.out, Nat.add_assoc]⟩, ⟨?_⟩⟩
            rw [catRows, ← List.append_assoc, ← HX0.out, ← HY0.out]
            exact HS.out
          case measure => simp [intOf, HR1.out]; omega
        · have er : r = N1 := by have := hr.out; omega
          subst er
          obtain ⟨e1_, e2_, e3_, e4_⟩ := H0.out (by first | trivial | rfl)
          subst K_
          subst e2_ e3_ e4_
          clear H7 H0
          have p1 : ¬ (r : Int) < (r : Int) := by omega
          go_wp2_with (first | ((with_reducible refine gate_dst (N := 143) rfl ?_); refine wpList_load_row rfl 28 (.tmp 11) rfl gO rfl 28 #[.bool kc, .slice Aj (P1.length + 1) cj, .slice A n c] (0, 0) _ (HS.out.blk 2 rfl) Try.underlying28 rfl (by kernel_rfl) ?_) | ((with_reducible refine gate_store rfl ?_); refine store_named rfl 28 (.tmp 4) (.tmp 143) rfl gR #[.bool kc, .slice Aj (P1.length + 1) cj, .slice A n c] rfl rfl 28 #[.bool false, .slice none 0 0, .slice none 0 0] (blk_below HRB.out HS.out.below) (by kernel_rfl) rfl (by simp [Value.oneCell']) ?_; intro wF hxF hbF; have HXF := Aside0.mk hxF; have HBF := Aside0.mk hbF; clear hxF hbF))
          have R_ := HS.out.two_but 3 0 (by decide) rfl rfl HBF.out HGL.out w.heap.size HB0.out.size
          refine bodyPost_ret (results_ct rfl _ _ gR 28 #[.bool kc, .slice Aj (P1.length + 1) cj, .slice A n c] (0, 0) _ rfl HXF.out Try.underlying28 rfl (by kernel_rfl)) rfl ?_
          exact ⟨_, _, rfl, R_.1, R_.2, (below_step HB0.out HS.out.below).trans (HBF.out.below _ HGR.out)⟩
end Go.Proofs.Ytehfcnndjhjkoaa.PA

namespace Go.Proofs.Ytehfcnndjhjkoaa.PA
open Go.RowKit Go.Proofs.YtehfcnndjhjkoaaW.PrintWords Go.Proofs.YtehfcnndjhjkoaaW.PrintLast Go.Proofs.YtehfcnndjhjkoaaW.PrintMore
set_option linter.unusedVariables false
set_option linter.unusedSimpArgs false
set_option maxHeartbeats 2000000 in
set_option maxRecDepth 100000 in
theorem wider_any (a : Bool) (Aa1 : Option Addr) (ca1 : Nat) (la1 : List Int) (Aa2 : Option Addr) (ca2 : Nat) (la2 : List Int) (w : World) (ha1 : Kd.C (Kd.int .i64) w Aa1 la1.length la1) (ka1 : la1.length ≤ ca1) (ha2 : Kd.C (Kd.int .i64) w Aa2 la2.length la2) (ka2 : la2.length ≤ ca2) (hn5 : la1.length ≤ 5) :
    Calls Try.prog 85 #[.agg #[.bool a, .slice Aa1 la1.length ca1, .slice Aa2 la2.length ca2]] w fun e w' => ∃ As cs Ad cd, e = .returned (.agg #[.bool a, .slice As ((la1 ++ [1]) : List Int).length cs, .slice Ad (la2 : List Int).length cd]) ∧ Kd.C (Kd.int .i64) w' As ((la1 ++ [1]) : List Int).length (la1 ++ [1]) ∧ ((la1 ++ [1]) : List Int).length ≤ cs ∧ Kd.C (Kd.int .i64) w' Ad (la2 : List Int).length la2 ∧ (la2 : List Int).length ≤ cd ∧ Below w.heap.size w w' := by
  have Ha1 := Aside0.mk ha1
  have Ka1 := Aside0.mk ka1
  clear ha1 ka1
  have Ha2 := Aside0.mk ha2
  have Ka2 := Aside0.mk ka2
  clear ha2 ka2
  have HN5 := Aside0.mk hn5
  clear hn5
  have HS := Aside0.mk (Sx.start w)
  go_enter Try.func85, Try.ntmps85
  go_upto_region 1 with (first | ((with_reducible refine gate_dst (N := 1) rfl ?_); refine box_event ?hg (N := 1) ?hd (cs := #[.bool a, .slice Aa1 la1.length ca1, .slice Aa2 la2.length ca2]) (t := 28) ?hr ?_; (case hd => rfl); (case hg => rfl); (case hr => first | (go_simp; done) | (go_simp; rfl)); intro gK hg1 w1 hx1 hb1; have nS : Aside0 (Sx w w1 [(.blk gK #[.bool a, .slice Aa1 la1.length ca1, .slice Aa2 la2.length ca2] 28)]) := Aside0.mk (HS.out.box hg1 hx1 hb1); clear HS; have HS := nS; clear nS hg1 hx1 hb1) | ((with_reducible refine gate_dst (N := 2) rfl ?_); refine box_event ?hg (N := 2) ?hd (cs := #[.bool false, .slice none 0 0, .slice none 0 0]) (t := 28) ?hr ?_; (case hd => rfl); (case hg => rfl); (case hr => first | (go_simp; done) | (go_simp; rfl)); intro gR hg2 w2 hx2 hb2; have nS : Aside0 (Sx w w2 [(.blk gR #[.bool false, .slice none 0 0, .slice none 0 0] 28), (.blk gK #[.bool a, .slice Aa1 la1.length ca1, .slice Aa2 la2.length ca2] 28)]) := Aside0.mk (HS.out.box hg2 hx2 hb2); clear HS; have HS := nS; clear nS hg2 hx2 hb2))
  have nS := Aside0.mk HS.out.drew
  clear HS
  have HS := nS
  clear nS
  refine start_ (n := 11) (S := (fun w' => w'.cell? ⟨gK, 0, none⟩ = some (.bool a) ∧ w'.cell? ⟨gK, 1, none⟩ = some (.slice Aa1 la1.length ca1) ∧ w'.cell? ⟨gK, 2, none⟩ = some (.slice Aa2 la2.length ca2))) (ds := [10]) #[false, false, false, false, false, false, false, false, false, false, false] (by kernel_rfl) rfl rfl ⟨(blk_cell (HS.out.blk 1 rfl) 0).trans rfl, (blk_cell (HS.out.blk 1 rfl) 1).trans rfl, (blk_cell (HS.out.blk 1 rfl) 2).trans rfl⟩ (fun hHeld => ?_)
  refine pure_ (i := 0) (N := (some 3)) (v := ?_) (a' := ?_) #[true, false, false, false, false, false, false, false, false, false, false] rfl rfl (by kernel_rfl) (fun _ _ _ h => h) (Or.inl ⟨by rfl, ?_⟩) ?_ ?_
  rotate_left
  · intro w'
    go_simp
    with_reducible rfl
  rotate_left
  · simp only [Act.put, List.setIfInBounds_toArray, List.set_cons_zero, List.set_cons_succ]
    rfl
  refine take_ (i := 1) (N := (some 4)) (v := ?_) (a' := ?_) #[true, true, false, false, false, false, false, false, false, false, false] rfl rfl (by kernel_rfl) (fun _ _ _ h => h) (Or.inl ⟨by rfl, ?_⟩) hHeld ?_ ?_
  rotate_left
  · rintro w' ⟨s0, s1, s2⟩
    go_simp
    with_reducible rfl
  rotate_left
  · simp only [Act.put, List.setIfInBounds_toArray, List.set_cons_zero, List.set_cons_succ]
    rfl
  refine pure_ (i := 2) (N := (some 5)) (v := ?_) (a' := ?_) #[true, true, true, false, false, false, false, false, false, false, false] rfl rfl (by kernel_rfl) (fun _ _ _ h => h) (Or.inl ⟨by rfl, ?_⟩) ?_ ?_
  rotate_left
  · intro w'
    go_simp
    with_reducible rfl
  rotate_left
  · simp only [Act.put, List.setIfInBounds_toArray, List.set_cons_zero, List.set_cons_succ]
    rfl
  refine take_ (i := 3) (N := (some 6)) (v := ?_) (a' := ?_) #[true, true, true, true, false, false, false, false, false, false, false] rfl rfl (by kernel_rfl) (fun _ _ _ h => h) (Or.inl ⟨by rfl, ?_⟩) hHeld ?_ ?_
  rotate_left
  · rintro w' ⟨s0, s1, s2⟩
    go_simp
    with_reducible rfl
  rotate_left
  · simp only [Act.put, List.setIfInBounds_toArray, List.set_cons_zero, List.set_cons_succ]
    rfl
  refine pure_ (i := 7) (N := (some 10)) (v := ?_) (a' := ?_) #[true, true, true, true, false, false, false, true, false, false, false] rfl rfl (by kernel_rfl) (fun _ _ _ h => h) (Or.inl ⟨by rfl, ?_⟩) ?_ ?_
  rotate_left
  · intro w'
    go_simp
    with_reducible rfl
  rotate_left
  · simp only [Act.put, List.setIfInBounds_toArray, List.set_cons_zero, List.set_cons_succ]
    rfl
  refine take_ (i := 8) (N := (some 11)) (v := ?_) (a' := ?_) #[true, true, true, true, false, false, false, true, true, false, false] rfl rfl (by kernel_rfl) (fun _ _ _ h => h) (Or.inl ⟨by rfl, ?_⟩) hHeld ?_ ?_
  rotate_left
  · rintro w' ⟨s0, s1, s2⟩
    go_simp
    with_reducible rfl
  rotate_left
  · simp only [Act.put, List.setIfInBounds_toArray, List.set_cons_zero, List.set_cons_succ]
    rfl
  refine two_ (i := 4) (j := 5) (Ni := (some 7)) (Nj := (some 8)) #[true, true, true, true, true, false, false, true, true, false, false] #[true, true, true, true, false, true, false, true, true, false, false] rfl rfl rfl rfl (by kernel_rfl) (by decide) (by decide) (fun K hK => ?_) (fun K hK => ?_)
  · refine goes_ Try.func73 (by kernel_rfl) rfl #[.slice Aa1 la1.length ca1] (by rfl) rfl rfl (by (try simp only [List.map_toArray, List.map_cons, List.map_nil]); first | done | rfl) ?_
    with_reducible refine (spec_l3Ints.calls Aa1 ca1 la1 la1 _ (Kd.C_below Ha1.out HS.out.below) Ka1.out (l3Ints_eq la1 (by have := HN5.out; omega))).mono ?_
    rintro e w3 ⟨v0, rfl, hr3, hb3⟩
    obtain ⟨As, cs, hv_⟩ := Kd.R_slice hr3; subst hv_
    have nS : Aside0 (Sx w w3 [(.row (.slice As la1.length cs) la1), (.blk gR #[.bool false, .slice none 0 0, .slice none 0 0] 28), (.blk gK #[.bool a, .slice Aa1 la1.length ca1, .slice Aa2 la2.length ca2] 28)]) := Aside0.mk (HS.out.addRow hb3 hr3)
    clear HS
    have HS := nS
    clear nS
    refine ⟨_, rfl, ?_⟩
    refine hK.out _ _ ⟨(blk_cell (HS.out.blk 2 rfl) 0).trans rfl, (blk_cell (HS.out.blk 2 rfl) 1).trans rfl, (blk_cell (HS.out.blk 2 rfl) 2).trans rfl⟩ (fun hHeld => ?_)
    clear hK K
    refine norm_ (a' := ?_) ?_ ?_
    rotate_left
    · show Act.put _ (some 7) _ = _
      simp only [Act.put, List.setIfInBounds_toArray, List.set_cons_zero, List.set_cons_succ]
      rfl
    refine one_ (i := 5) (N := (some 8)) #[true, true, true, true, true, true, false, true, true, false, false] rfl rfl (by kernel_rfl) (by decide) (fun K hK => ?_)
    refine lit_step (by rfl) rfl #[.int .i64 1] 3 1 (by first | (go_simp; done) | (go_simp; rfl)) ?_
    intro gL wL hgL hxL hbL
    have nS : Aside0 (Sx w wL [(.blk gL #[.int .i64 1] 3), (.row (.slice As la1.length cs) la1), (.blk gR #[.bool false, .slice none 0 0, .slice none 0 0] 28), (.blk gK #[.bool a, .slice Aa1 la1.length ca1, .slice Aa2 la2.length ca2] 28)]) := Aside0.mk (HS.out.box hgL.symm hxL hbL)
    clear HS hgL hxL hbL
    have HS := nS
    clear nS
    refine hK.out _ _ ⟨(blk_cell (HS.out.blk 3 rfl) 0).trans rfl, (blk_cell (HS.out.blk 3 rfl) 1).trans rfl, (blk_cell (HS.out.blk 3 rfl) 2).trans rfl⟩ (fun hHeld => ?_)
    clear hK K
    refine norm_ (a' := ?_) ?_ ?_
    rotate_left
    · show Act.put _ (some 8) _ = _
      simp only [Act.put, List.setIfInBounds_toArray, List.set_cons_zero, List.set_cons_succ]
      rfl
    refine one_ (i := 6) (N := (some 9)) #[true, true, true, true, true, true, true, true, true, false, false] rfl rfl (by kernel_rfl) (by decide) (fun K hK => ?_)
    refine HS.out.appendRows_step 1 rfl la1.length (la1.length + 1) rfl (by rfl) (.tmp 7) (.tmp 8) rfl Try.underlying22 info3 (some ⟨gL, 0, none⟩) 1 1 [1] (la1 ++ [1]) rfl rfl rfl (rowI_C (l := [1]) (HS.out.blk 0 rfl) (by simp)) rfl rfl (by have := HN5.out; omega) ?_
    intro Aj cj wJ nJ
    have nS : Aside0 (Sx w wJ [(.blk gL #[.int .i64 1] 3), (.row (.slice Aj (la1.length + 1) cj) (la1 ++ [1])), (.blk gR #[.bool false, .slice none 0 0, .slice none 0 0] 28), (.blk gK #[.bool a, .slice Aa1 la1.length ca1, .slice Aa2 la2.length ca2] 28)]) := Aside0.mk nJ
    clear HS nJ
    have HS := nS
    clear nS
    refine hK.out _ _ ⟨(blk_cell (HS.out.blk 3 rfl) 0).trans rfl, (blk_cell (HS.out.blk 3 rfl) 1).trans rfl, (blk_cell (HS.out.blk 3 rfl) 2).trans rfl⟩ (fun hHeld => ?_)
    clear hK K
    refine norm_ (a' := ?_) ?_ ?_
    rotate_left
    · show Act.put _ (some 9) _ = _
      simp only [Act.put, List.setIfInBounds_toArray, List.set_cons_zero, List.set_cons_succ]
      rfl
    refine pure_ (i := 9) (N := (some 12)) (v := ?_) (a' := ?_) #[true, true, true, true, true, true, true, true, true, true, false] rfl rfl (by kernel_rfl) (fun _ _ _ h => h) (Or.inl ⟨by rfl, ?_⟩) ?_ ?_
    rotate_left
    · intro w'
      go_simp
      with_reducible rfl
    rotate_left
    · simp only [Act.put, List.setIfInBounds_toArray, List.set_cons_zero, List.set_cons_succ]
      rfl
    refine last_ (i := 10) (N := none) #[true, true, true, true, true, true, true, true, true, true, true] rfl rfl (by kernel_rfl) (by decide) (fun K hK => ?_)
    refine store_named_step (by rfl) 28 (.tmp 2) (.tmp 12) rfl gR #[.bool a, .slice Aj (la1.length + 1) cj, .slice Aa2 la2.length ca2] rfl rfl 28 #[.bool false, .slice none 0 0, .slice none 0 0] (HS.out.blk 2 rfl) (by kernel_rfl) rfl (by simp [Value.oneCell']) ?_
    intro wz hxz hbz
    have nS : Aside0 (Sx w wz [(.blk gL #[.int .i64 1] 3), (.row (.slice Aj (la1.length + 1) cj) (la1 ++ [1])), (.blk gR #[.bool a, .slice Aj (la1.length + 1) cj, .slice Aa2 la2.length ca2] 28), (.blk gK #[.bool a, .slice Aa1 la1.length ca1, .slice Aa2 la2.length ca2] 28)]) := Aside0.mk (HS.out.put 2 rfl hxz hbz)
    clear HS hxz hbz
    have HS := nS
    clear nS
    refine hK.out _ _ ?_
    clear hK K
    refine done_ (by kernel_rfl) ?_
    go_wp2
    refine bodyPost_ret (results_cell_row rfl _ _ gR 28 #[.bool a, .slice Aj (la1.length + 1) cj, .slice Aa2 la2.length ca2] (0, 0) _ rfl (HS.out.blk 2 rfl) Try.underlying28 rfl (by kernel_rfl)) rfl ?_
    exact ⟨Aj, cj, Aa2, ca2, (by rw [List.length_append, List.length_singleton]), HS.out.C 1 rfl, HS.out.cap 1 rfl, (Kd.C_below Ha2.out HS.out.below), Ka2.out, HS.out.below⟩
  · refine lit_step (by rfl) rfl #[.int .i64 1] 3 1 (by first | (go_simp; done) | (go_simp; rfl)) ?_
    intro gL wL hgL hxL hbL
    have nS : Aside0 (Sx w wL [(.blk gL #[.int .i64 1] 3), (.blk gR #[.bool false, .slice none 0 0, .slice none 0 0] 28), (.blk gK #[.bool a, .slice Aa1 la1.length ca1, .slice Aa2 la2.length ca2] 28)]) := Aside0.mk (HS.out.box hgL.symm hxL hbL)
    clear HS hgL hxL hbL
    have HS := nS
    clear nS
    refine hK.out _ _ ⟨(blk_cell (HS.out.blk 2 rfl) 0).trans rfl, (blk_cell (HS.out.blk 2 rfl) 1).trans rfl, (blk_cell (HS.out.blk 2 rfl) 2).trans rfl⟩ (fun hHeld => ?_)
    clear hK K
    refine norm_ (a' := ?_) ?_ ?_
    rotate_left
    · show Act.put _ (some 8) _ = _
      simp only [Act.put, List.setIfInBounds_toArray, List.set_cons_zero, List.set_cons_succ]
      rfl
    refine one_ (i := 4) (N := (some 7)) #[true, true, true, true, true, true, false, true, true, false, false] rfl rfl (by kernel_rfl) (by decide) (fun K hK => ?_)
    refine goes_ Try.func73 (by kernel_rfl) rfl #[.slice Aa1 la1.length ca1] (by rfl) rfl rfl (by (try simp only [List.map_toArray, List.map_cons, List.map_nil]); first | done | rfl) ?_
    with_reducible refine (spec_l3Ints.calls Aa1 ca1 la1 la1 _ (Kd.C_below Ha1.out HS.out.below) Ka1.out (l3Ints_eq la1 (by have := HN5.out; omega))).mono ?_
    rintro e w3 ⟨v0, rfl, hr3, hb3⟩
    obtain ⟨As, cs, hv_⟩ := Kd.R_slice hr3; subst hv_
    have nS : Aside0 (Sx w w3 [(.row (.slice As la1.length cs) la1), (.blk gL #[.int .i64 1] 3), (.blk gR #[.bool false, .slice none 0 0, .slice none 0 0] 28), (.blk gK #[.bool a, .slice Aa1 la1.length ca1, .slice Aa2 la2.length ca2] 28)]) := Aside0.mk (HS.out.addRow hb3 hr3)
    clear HS
    have HS := nS
    clear nS
    refine ⟨_, rfl, ?_⟩
    refine hK.out _ _ ⟨(blk_cell (HS.out.blk 3 rfl) 0).trans rfl, (blk_cell (HS.out.blk 3 rfl) 1).trans rfl, (blk_cell (HS.out.blk 3 rfl) 2).trans rfl⟩ (fun hHeld => ?_)
    clear hK K
    refine norm_ (a' := ?_) ?_ ?_
    rotate_left
    · show Act.put _ (some 7) _ = _
      simp only [Act.put, List.setIfInBounds_toArray, List.set_cons_zero, List.set_cons_succ]
      rfl
    refine one_ (i := 6) (N := (some 9)) #[true, true, true, true, true, true, true, true, true, false, false] rfl rfl (by kernel_rfl) (by decide) (fun K hK => ?_)
    refine HS.out.appendRows_step 0 rfl la1.length (la1.length + 1) rfl (by rfl) (.tmp 7) (.tmp 8) rfl Try.underlying22 info3 (some ⟨gL, 0, none⟩) 1 1 [1] (la1 ++ [1]) rfl rfl rfl (rowI_C (l := [1]) (HS.out.blk 1 rfl) (by simp)) rfl rfl (by have := HN5.out; omega) ?_
    intro Aj cj wJ nJ
    have nS : Aside0 (Sx w wJ [(.row (.slice Aj (la1.length + 1) cj) (la1 ++ [1])), (.blk gL #[.int .i64 1] 3), (.blk gR #[.bool false, .slice none 0 0, .slice none 0 0] 28), (.blk gK #[.bool a, .slice Aa1 la1.length ca1, .slice Aa2 la2.length ca2] 28)]) := Aside0.mk nJ
    clear HS nJ
    have HS := nS
    clear nS
    refine hK.out _ _ ⟨(blk_cell (HS.out.blk 3 rfl) 0).trans rfl, (blk_cell (HS.out.blk 3 rfl) 1).trans rfl, (blk_cell (HS.out.blk 3 rfl) 2).trans rfl⟩ (fun hHeld => ?_)
    clear hK K
    refine norm_ (a' := ?_) ?_ ?_
    rotate_left
    · show Act.put _ (some 9) _ = _
      simp only [Act.put, List.setIfInBounds_toArray, List.set_cons_zero, List.set_cons_succ]
      rfl
    refine pure_ (i := 9) (N := (some 12)) (v := ?_) (a' := ?_) #[true, true, true, true, true, true, true, true, true, true, false] rfl rfl (by kernel_rfl) (fun _ _ _ h => h) (Or.inl ⟨by rfl, ?_⟩) ?_ ?_
    rotate_left
    · intro w'
      go_simp
      with_reducible rfl
    rotate_left
    · simp only [Act.put, List.setIfInBounds_toArray, List.set_cons_zero, List.set_cons_succ]
      rfl
    refine last_ (i := 10) (N := none) #[true, true, true, true, true, true, true, true, true, true, true] rfl rfl (by kernel_rfl) (by decide) (fun K hK => ?_)
    refine store_named_step (by rfl) 28 (.tmp 2) (.tmp 12) rfl gR #[.bool a, .slice Aj (la1.length + 1) cj, .slice Aa2 la2.length ca2] rfl rfl 28 #[.bool false, .slice none 0 0, .slice none 0 0] (HS.out.blk 2 rfl) (by kernel_rfl) rfl (by simp [Value.oneCell']) ?_
    intro wz hxz hbz
    have nS : Aside0 (Sx w wz [(.row (.slice Aj (la1.length + 1) cj) (la1 ++ [1])), (.blk gL #[.int .i64 1] 3), (.blk gR #[.bool a, .slice Aj (la1.length + 1) cj, .slice Aa2 la2.length ca2] 28), (.blk gK #[.bool a, .slice Aa1 la1.length ca1, .slice Aa2 la2.length ca2] 28)]) := Aside0.mk (HS.out.put 2 rfl hxz hbz)
    clear HS hxz hbz
    have HS := nS
    clear nS
    refine hK.out _ _ ?_
    clear hK K
    refine done_ (by kernel_rfl) ?_
    go_wp2
    refine bodyPost_ret (results_cell_row rfl _ _ gR 28 #[.bool a, .slice Aj (la1.length + 1) cj, .slice Aa2 la2.length ca2] (0, 0) _ rfl (HS.out.blk 2 rfl) Try.underlying28 rfl (by kernel_rfl)) rfl ?_
    exact ⟨Aj, cj, Aa2, ca2, (by rw [List.length_append, List.length_singleton]), HS.out.C 0 rfl, HS.out.cap 0 rfl, (Kd.C_below Ha2.out HS.out.below), Ka2.out, HS.out.below⟩
end Go.Proofs.Ytehfcnndjhjkoaa.PA

-- By a program (prt.py, over the print of the kit), for this claim. Not trusted: Lean checks it.
namespace Go.Proofs.Ytehfcnndjhjkoaa.PA
open Go.RowKit Go.Proofs.YtehfcnndjhjkoaaW.PrintWords Go.Proofs.YtehfcnndjhjkoaaW.PrintLast Go.Proofs.YtehfcnndjhjkoaaW.PrintMore
attribute [local go_sem] max2_int min2_int max_two min_two max_three min_three max_four min_four   -- for this text's walks alone
set_option linter.unusedVariables false
set_option linter.unusedSimpArgs false

/-! ### spec_l4Without: function 88 -/
def spec_l4Without.f (l0 : List Int) (a1 : Bool) : Option (List Int) := if a1 = true then (if 1 ≤ (l0.length : Int) then ((spec_l3Ints.f (l0.drop 1)).bind fun t102 => (some t102)) else (none)) else (if 0 ≤ (wrap64 ((l0.length : Int) - 1)) then (if (wrap64 ((l0.length : Int) - 1)) ≤ (l0.length : Int) then ((spec_l3Ints.f (l0.take ((wrap64 ((l0.length : Int) - 1)) : Int).toNat)).bind fun t106 => (some t106)) else (none)) else (none))
set_option maxHeartbeats 8000000 in
set_option maxRecDepth 100000 in
theorem spec_l4Without.calls (A0 : Option Addr) (c0 : Nat) (l0 : List Int) (a1 : Bool) (r : List Int) (w : World) (hr0 : Kd.C (Kd.int .i64) w A0 l0.length l0) (hc0 : l0.length ≤ c0) (h : spec_l4Without.f l0 a1 = some r) :
    Calls Try.prog 88 #[.slice A0 l0.length c0, .bool a1] w fun e w' => ∃ v0_ : Value, e = .returned (v0_) ∧ Kd.R (Kd.int .i64) 3 w' w.heap.size (fun _ => True) v0_ r ∧ Below w.heap.size w w' := by
  have HR0 := Aside0.mk hr0
  have HC0 := Aside0.mk hc0
  clear hr0 hc0
  have HB := Aside0.mk (Below.refl w.heap.size w)
  have H : (if a1 = true then (if 1 ≤ (l0.length : Int) then ((spec_l3Ints.f (l0.drop 1)).bind fun t102 => (some t102)) else (none)) else (if 0 ≤ (wrap64 ((l0.length : Int) - 1)) then (if (wrap64 ((l0.length : Int) - 1)) ≤ (l0.length : Int) then ((spec_l3Ints.f (l0.take ((wrap64 ((l0.length : Int) - 1)) : Int).toNat)).bind fun t106 => (some t106)) else (none)) else (none))) = some r := h
  clear h
  by_cases c3 : a1 = true
  · subst c3
    have H1 : (if 1 ≤ (l0.length : Int) then ((spec_l3Ints.f (l0.drop 1)).bind fun t102 => (some t102)) else (none)) = some r := by rw [if_pos rfl] at H; exact H
    clear H
    have H := H1
    clear H1
    by_cases c4 : 1 ≤ (l0.length : Int)
    · rw [if_pos c4] at H
      have c4b0 := eq_true c4
      have c4b1 : decide (1 ≤ (l0.length : Int)) = true := decide_eq_true c4
      clear c4
      replace H := Option.bind_eq_some_iff.mp H
      obtain ⟨t102, A50, H⟩ := H
      replace H : (some t102) = some r := H
      have A5 := Aside0.mk A50
      clear A50
      obtain rfl := Option.some.inj H
      obtain ⟨i06, hi06, _, hsz6, _⟩ := info_parts info3
      obtain ⟨A6, hcut6, hA6, hC6⟩ := print_drop_of (P := Try.prog) (Value.int .i64) 0 22 3 .i64 Try.underlying22 hi06 hsz6 A0 c0 l0 1 (by omega) (of_decide_eq_true (by first | (with_reducible assumption) | assumption)) HC0.out
      have HR101 := Aside0.mk (Kd.C_of_reads (h1 := fun _ => rfl) (hA6 _ (Kd.reads_of_C HR0.out)))
      have HC101 := Aside0.mk hC6
      clear hA6 hC6 hi06 hsz6
      go_enter Try.func88, Try.ntmps88
      go_wp2_with (first | ((with_reducible refine gate_callee (f := 73) rfl ?_); refine goesL_ (some 8) rfl rfl Try.func73 (by kernel_rfl) rfl #[.slice A6 (l0.drop 1).length (c0 - 1)] rfl (by (try simp only [List.map_toArray, List.map_cons, List.map_nil]); first | done | (rw [show (l0.drop 1).length = (l0.length - 1) from List.length_drop] <;> rfl) | rfl | (simp only [List.length_drop, List.length_take]; rfl)) ?_; (with_reducible refine (spec_l3Ints.calls _ _ (l0.drop 1) t102 _ ?side1 ?side2 A5.out).mono ?_); (case side1 => repeat (first | exact HR101.out | (with_reducible refine Kd.C_alloc ?_ _) | (with_reducible refine Kd.C_drewN ?_ _) | (with_reducible refine Kd.C_drew ?_))); (case side2 => exact HC101.out); rintro e w7 ⟨v103, rfl, ho0, hb⟩; refine ⟨_, rfl, ?_⟩; have n0_ := Aside0.mk (Kd.R_lower ho0 (below_size (by repeat (first | (with_reducible first | exact HB.out | apply below_alloc | apply pw_below_drewN | apply below_drew1) | exact HB.out)))); have n1_ := Aside0.mk (below_step (by repeat (first | (with_reducible first | exact HB.out | apply below_alloc | apply pw_below_drewN | apply below_drew1) | exact HB.out)) hb); clear HB; have HO104 := n0_; have HB := n1_; clear n0_ n1_; (try clear hb); (try clear hb2); (try clear hk); (try clear hi); (try clear ho0)))
      go_ret
      exact ⟨_, by first | rfl | (simp [errW_none, errW_some] <;> rfl) | (simp [*, errW_none, errW_some] <;> rfl), by (with_reducible repeat (first | apply Kd.R_alloc | apply Kd.R_drewN | apply Kd.R_drew)); exact HO104.out, by repeat (first | (with_reducible first | exact HB.out | apply below_alloc | apply pw_below_drewN | apply below_drew1) | exact HB.out)⟩
    · rw [if_neg c4] at H
      exact absurd H (by simp)
  · replace c3 := Bool.eq_false_iff.mpr c3
    subst c3
    have H1 : (if 0 ≤ (wrap64 ((l0.length : Int) - 1)) then (if (wrap64 ((l0.length : Int) - 1)) ≤ (l0.length : Int) then ((spec_l3Ints.f (l0.take ((wrap64 ((l0.length : Int) - 1)) : Int).toNat)).bind fun t106 => (some t106)) else (none)) else (none)) = some r := by rw [if_neg (show ¬ (false = true) by decide)] at H; exact H
    clear H
    have H := H1
    clear H1
    obtain ⟨ji8, hji8⟩ : ∃ j_ : Int, (wrap64 ((l0.length : Int) - 1)) = j_ := ⟨_, rfl⟩
    replace H : (if 0 ≤ (ji8) then (if (ji8) ≤ (l0.length : Int) then ((spec_l3Ints.f (l0.take ((ji8) : Int).toNat)).bind fun t106 => (some t106)) else (none)) else (none)) = some r := by first | (rw [hji8] at H; exact H) | (simp only [hji8] at H ⊢; exact H)
    have hji8w : (IntKind.i64.wrap ((l0.length : Int) - 1)) = ji8 := (i64_w _).trans hji8
    by_cases c9 : 0 ≤ (ji8)
    · rw [if_pos c9] at H
      have c9b0 := eq_true c9
      have c9b1 : decide (0 ≤ (ji8)) = true := decide_eq_true c9
      clear c9
      by_cases c10 : (ji8) ≤ (l0.length : Int)
      · rw [if_pos c10] at H
        have c10b0 := eq_true c10
        have c10b1 : decide ((ji8) ≤ (l0.length : Int)) = true := decide_eq_true c10
        clear c10
        replace H := Option.bind_eq_some_iff.mp H
        obtain ⟨t106, A110, H⟩ := H
        replace H : (some t106) = some r := H
        have A11 := Aside0.mk A110
        clear A110
        obtain rfl := Option.some.inj H
        obtain ⟨i012, hi012, _, hsz12, _⟩ := info_parts info3
        obtain ⟨hcut12, hA12, hC12⟩ := print_take_of (P := Try.prog) (Value.int .i64) 0 22 3 .i64 Try.underlying22 hi012 hsz12 A0 c0 l0 (ji8) (of_decide_eq_true (by first | (with_reducible assumption) | assumption)) (of_decide_eq_true (by first | (with_reducible assumption) | assumption)) HC0.out
        have HR105 := Aside0.mk (Kd.C_of_reads (h1 := fun _ => rfl) (hA12 _ (Kd.reads_of_C HR0.out)))
        have HC105 := Aside0.mk hC12
        clear hA12 hC12 hi012 hsz12
        go_enter Try.func88, Try.ntmps88
        go_wp2_with (first | ((with_reducible refine gate_callee (f := 73) rfl ?_); refine goesL_ (some 14) rfl rfl Try.func73 (by kernel_rfl) rfl #[.slice A0 (l0.take ((ji8) : Int).toNat).length c0] rfl (by (try simp only [List.map_toArray, List.map_cons, List.map_nil]); first | done | (rw [show (l0.take ((ji8) : Int).toNat).length = (ji8).toNat from (by rw [List.length_take]; have h_ : ((ji8) : Int) ≤ (l0.length : Int) := of_decide_eq_true (by first | (with_reducible assumption) | assumption); omega)] <;> rfl) | (simp only [hji8]; rfl) | rfl | (simp only [List.length_drop, List.length_take]; rfl)) ?_; (with_reducible refine (spec_l3Ints.calls _ _ (l0.take ((ji8) : Int).toNat) t106 _ ?side1 ?side2 A11.out).mono ?_); (case side1 => repeat (first | exact HR105.out | (with_reducible refine Kd.C_alloc ?_ _) | (with_reducible refine Kd.C_drewN ?_ _) | (with_reducible refine Kd.C_drew ?_))); (case side2 => exact HC105.out); rintro e w13 ⟨v107, rfl, ho0, hb⟩; refine ⟨_, rfl, ?_⟩; have n0_ := Aside0.mk (Kd.R_lower ho0 (below_size (by repeat (first | (with_reducible first | exact HB.out | apply below_alloc | apply pw_below_drewN | apply below_drew1) | exact HB.out)))); have n1_ := Aside0.mk (below_step (by repeat (first | (with_reducible first | exact HB.out | apply below_alloc | apply pw_below_drewN | apply below_drew1) | exact HB.out)) hb); clear HB; have HO108 := n0_; have HB := n1_; clear n0_ n1_; (try clear hb); (try clear hb2); (try clear hk); (try clear hi); (try clear ho0)))
        go_ret
        exact ⟨_, by first | rfl | (simp [errW_none, errW_some] <;> rfl) | (simp only [← hji8]; first | rfl | (simp [errW_none, errW_some] <;> rfl)) | (simp [*, errW_none, errW_some] <;> rfl), by (with_reducible repeat (first | apply Kd.R_alloc | apply Kd.R_drewN | apply Kd.R_drew)); exact HO108.out, by repeat (first | (with_reducible first | exact HB.out | apply below_alloc | apply pw_below_drewN | apply below_drew1) | exact HB.out)⟩
      · rw [if_neg c10] at H
        exact absurd H (by simp)
    · rw [if_neg c9] at H
      exact absurd H (by simp)

end Go.Proofs.Ytehfcnndjhjkoaa.PA
