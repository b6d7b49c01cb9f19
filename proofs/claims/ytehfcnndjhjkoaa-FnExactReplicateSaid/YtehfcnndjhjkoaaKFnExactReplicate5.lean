import Derived.Test.YtehfcnndjhjkoaaKFnExactReplicate4
import Derived.IntWalk

namespace Go.Proofs.Ytehfcnndjhjkoaa.PA
open Go.RowKit Go.Proofs.YtehfcnndjhjkoaaW.PrintWords Go.Proofs.YtehfcnndjhjkoaaW.PrintLast Go.Proofs.YtehfcnndjhjkoaaW.PrintMore
set_option linter.unusedVariables false
set_option linter.unusedSimpArgs false

def repQ (l : List Int) (u a : Nat) : Nat → List Int
  | 0 => []
  | q + 1 => repQ l u a q ++ [rd l ((u * a + q : Nat) : Int)]
def repC (r : List Int) : Nat → List Int
  | 0 => []
  | c + 1 => repC r c ++ r
def repI (l k : List Int) (n a p : Nat) : Nat → List Int
  | 0 => []
  | i + 1 => repI l k n a p i ++ repC (repQ l (p * n + i % n) a a) (rd k ((i % k.length : Nat) : Int)).toNat
def repP (l k : List Int) (n a m : Nat) : Nat → List Int
  | 0 => []
  | p + 1 => repP l k n a m p ++ repI l k n a p m
def sumS (k : List Int) : Nat → Int
  | 0 => 0
  | i + 1 => sumS k i + rd k ((i % k.length : Nat) : Int)
theorem repQ_len (l : List Int) (u a : Nat) : ∀ q, (repQ l u a q).length = q
  | 0 => rfl
  | q + 1 => by simp [repQ, repQ_len l u a q]
theorem repC_len (r : List Int) : ∀ c, (repC r c).length = c * r.length
  | 0 => by simp [repC]
  | c + 1 => by simp [repC, repC_len r c, Nat.succ_mul]
theorem rem_nat (i n : Nat) : Int.tmod (i : Int) (n : Int) = ((i % n : Nat) : Int) := by
  rw [Int.tmod_eq_emod_of_nonneg (by omega)]; rfl
set_option maxHeartbeats 2000000 in
set_option maxRecDepth 100000 in
theorem srep_no1 (a : Bool) (Aa1 : Option Addr) (ca1 : Nat) (la1 : List Int) (Aa2 : Option Addr) (ca2 : Nat) (la2 : List Int) (b : Bool) (Ab1 : Option Addr) (cb1 : Nat) (lb1 : List Int) (Ab2 : Option Addr) (cb2 : Nat) (lb2 : List Int) (first : Bool) (w : World) (ha1 : Kd.C (Kd.int .i64) w Aa1 la1.length la1) (ka1 : la1.length ≤ ca1) (ha2 : Kd.C (Kd.int .i64) w Aa2 la2.length la2) (ka2 : la2.length ≤ ca2) (hb1 : Kd.C (Kd.int .i64) w Ab1 lb1.length lb1) (kb1 : lb1.length ≤ cb1) (hb2 : Kd.C (Kd.int .i64) w Ab2 lb2.length lb2) (kb2 : lb2.length ≤ cb2) (ka : Nat) (hva : spec_ArrayOk.f ka a la1 la2 = some false)  :
    Calls Try.prog 42 #[.agg #[.bool a, .slice Aa1 la1.length ca1, .slice Aa2 la2.length ca2], .agg #[.bool b, .slice Ab1 lb1.length cb1, .slice Ab2 lb2.length cb2], .bool first] w fun e w' => ∃ v1_ v2_ : Value, e = .returned (.tuple #[.agg #[.bool false, v1_, v2_], .int .i64 3]) ∧ Kd.R (Kd.int .i64) 3 w' w.heap.size (fun k_ => some k_ ≠ (v2_ : Value).ownBlock) v1_ [] ∧ Kd.R (Kd.int .i64) 3 w' w.heap.size (fun k_ => some k_ ≠ (v1_ : Value).ownBlock) v2_ [] ∧ Below w.heap.size w w' := by
  have Ha1 := Aside0.mk ha1
  have Ka1 := Aside0.mk ka1
  clear ha1 ka1
  have Ha2 := Aside0.mk ha2
  have Ka2 := Aside0.mk ka2
  clear ha2 ka2
  have Hb1 := Aside0.mk hb1
  have Kb1 := Aside0.mk kb1
  clear hb1 kb1
  have Hb2 := Aside0.mk hb2
  have Kb2 := Aside0.mk kb2
  clear hb2 kb2
  have HVa := Aside0.mk hva
  clear hva
  have HS := Aside0.mk (Sx.start w)
  go_enter Try.func42, Try.ntmps42
  go_wp2_with (first | ((with_reducible refine gate_dst (N := 3) rfl ?_); refine box_event ?hg (N := 3) ?hd (cs := #[.bool a, .slice Aa1 la1.length ca1, .slice Aa2 la2.length ca2]) (t := 28) ?hr ?_; (case hd => rfl); (case hg => rfl); (case hr => first | (go_simp; done) | (go_simp; rfl)); intro gK hg1 w1 hx1 hb1; have nS : Aside0 (Sx w w1 [(.blk gK #[.bool a, .slice Aa1 la1.length ca1, .slice Aa2 la2.length ca2] 28)]) := Aside0.mk (HS.out.box hg1 hx1 hb1); clear HS; have HS := nS; clear nS hg1 hx1 hb1) | ((with_reducible refine gate_dst (N := 4) rfl ?_); refine box_event ?hg (N := 4) ?hd (cs := #[.bool b, .slice Ab1 lb1.length cb1, .slice Ab2 lb2.length cb2]) (t := 28) ?hr ?_; (case hd => rfl); (case hg => rfl); (case hr => first | (go_simp; done) | (go_simp; rfl)); intro gB hg2 w2 hx2 hb2; have nS : Aside0 (Sx w w2 [(.blk gB #[.bool b, .slice Ab1 lb1.length cb1, .slice Ab2 lb2.length cb2] 28), (.blk gK #[.bool a, .slice Aa1 la1.length ca1, .slice Aa2 la2.length ca2] 28)]) := Aside0.mk (HS.out.box hg2 hx2 hb2); clear HS; have HS := nS; clear nS hg2 hx2 hb2) | ((with_reducible refine gate_dst (N := 6) rfl ?_); refine box_event ?hg (N := 6) ?hd (cs := #[.bool false, .slice none 0 0, .slice none 0 0]) (t := 28) ?hr ?_; (case hd => rfl); (case hg => rfl); (case hr => first | (go_simp; done) | (go_simp; rfl)); intro gR hg3 w3 hx3 hb3; have nS : Aside0 (Sx w w3 [(.blk gR #[.bool false, .slice none 0 0, .slice none 0 0] 28), (.blk gB #[.bool b, .slice Ab1 lb1.length cb1, .slice Ab2 lb2.length cb2] 28), (.blk gK #[.bool a, .slice Aa1 la1.length ca1, .slice Aa2 la2.length ca2] 28)]) := Aside0.mk (HS.out.box hg3 hx3 hb3); clear HS; have HS := nS; clear nS hg3 hx3 hb3) | ((with_reducible refine gate_dst (N := 21) rfl ?_); refine wpList_load_row rfl 28 (.tmp 3) rfl gK rfl 28 #[.bool a, .slice Aa1 la1.length ca1, .slice Aa2 la2.length ca2] (0, 0) _ (HS.out.blk 2 rfl) Try.underlying28 rfl (by kernel_rfl) ?_) | (go_at_call 47; with_reducible refine (spec_ArrayOk.calls ka a Aa1 ca1 la1 Aa2 ca2 la2 false _ (Kd.C_below Ha1.out HS.out.below) Ka1.out (Kd.C_below Ha2.out HS.out.below) Ka2.out HVa.out).mono ?_; rintro e w4 ⟨rfl, hb4⟩; have nS : Aside0 (Sx w w4 [(.blk gR #[.bool false, .slice none 0 0, .slice none 0 0] 28), (.blk gB #[.bool b, .slice Ab1 lb1.length cb1, .slice Ab2 lb2.length cb2] 28), (.blk gK #[.bool a, .slice Aa1 la1.length ca1, .slice Aa2 la2.length ca2] 28)]) := Aside0.mk (HS.out.step hb4); clear HS; have HS := nS; clear nS hb4) | (go_at_call 53; refine (spec_l4None.calls false [] [] _ rfl).mono ?_; rintro e w5 ⟨v15, v25, rfl, hr15, hr25, hb5⟩; obtain ⟨AS, cS, hv_⟩ := Kd.R_slice hr15; subst hv_; obtain ⟨AD, cD, hv_⟩ := Kd.R_slice hr25; subst hv_; have nS : Aside0 (Sx w w5 [(.row (.slice AS ([] : List Int).length cS) []), (.row (.slice AD ([] : List Int).length cD) []), (.blk gR #[.bool false, .slice none 0 0, .slice none 0 0] 28), (.blk gB #[.bool b, .slice Ab1 lb1.length cb1, .slice Ab2 lb2.length cb2] 28), (.blk gK #[.bool a, .slice Aa1 la1.length ca1, .slice Aa2 la2.length ca2] 28)]) := Aside0.mk (HS.out.addRow2 hb5 hr15 hr25); clear HS; have HS := nS; clear nS hb5 hr15 hr25) | ((with_reducible refine gate_store rfl ?_); refine store_named rfl 28 (.tmp 6) (.tmp 29) rfl gR #[.bool false, .slice AS ([] : List Int).length cS, .slice AD ([] : List Int).length cD] rfl rfl 28 #[.bool false, .slice none 0 0, .slice none 0 0] (HS.out.blk 2 rfl) (by kernel_rfl) rfl (by simp [Value.oneCell']) ?_; intro w6 hx6 hb6; have nS : Aside0 (Sx w w6 [(.row (.slice AS ([] : List Int).length cS) []), (.row (.slice AD ([] : List Int).length cD) []), (.blk gR #[.bool false, .slice AS ([] : List Int).length cS, .slice AD ([] : List Int).length cD] 28), (.blk gB #[.bool b, .slice Ab1 lb1.length cb1, .slice Ab2 lb2.length cb2] 28), (.blk gK #[.bool a, .slice Aa1 la1.length ca1, .slice Aa2 la2.length ca2] 28)]) := Aside0.mk (HS.out.put 2 rfl hx6 hb6); clear HS; have HS := nS; clear nS hx6 hb6))
  refine bodyPost_ret (results_ct rfl _ _ gR 28 #[.bool false, .slice AS ([] : List Int).length cS, .slice AD ([] : List Int).length cD] (0, 0) _ rfl (HS.out.blk 2 rfl) Try.underlying28 rfl (by kernel_rfl)) rfl ?_
  exact ⟨_, _, rfl, (HS.out.two 0 1 (by decide) rfl rfl).1, (HS.out.two 0 1 (by decide) rfl rfl).2, HS.out.below⟩
set_option maxHeartbeats 2000000 in
set_option maxRecDepth 100000 in
theorem srep_no2 (a : Bool) (Aa1 : Option Addr) (ca1 : Nat) (la1 : List Int) (Aa2 : Option Addr) (ca2 : Nat) (la2 : List Int) (b : Bool) (Ab1 : Option Addr) (cb1 : Nat) (lb1 : List Int) (Ab2 : Option Addr) (cb2 : Nat) (lb2 : List Int) (first : Bool) (w : World) (ha1 : Kd.C (Kd.int .i64) w Aa1 la1.length la1) (ka1 : la1.length ≤ ca1) (ha2 : Kd.C (Kd.int .i64) w Aa2 la2.length la2) (ka2 : la2.length ≤ ca2) (hb1 : Kd.C (Kd.int .i64) w Ab1 lb1.length lb1) (kb1 : lb1.length ≤ cb1) (hb2 : Kd.C (Kd.int .i64) w Ab2 lb2.length lb2) (kb2 : lb2.length ≤ cb2) (ka : Nat) (hva : spec_ArrayOk.f ka a la1 la2 = some true) (kb : Nat) (hvb : spec_ArrayOk.f kb b lb1 lb2 = some false)  :
    Calls Try.prog 42 #[.agg #[.bool a, .slice Aa1 la1.length ca1, .slice Aa2 la2.length ca2], .agg #[.bool b, .slice Ab1 lb1.length cb1, .slice Ab2 lb2.length cb2], .bool first] w fun e w' => ∃ v1_ v2_ : Value, e = .returned (.tuple #[.agg #[.bool false, v1_, v2_], .int .i64 3]) ∧ Kd.R (Kd.int .i64) 3 w' w.heap.size (fun k_ => some k_ ≠ (v2_ : Value).ownBlock) v1_ [] ∧ Kd.R (Kd.int .i64) 3 w' w.heap.size (fun k_ => some k_ ≠ (v1_ : Value).ownBlock) v2_ [] ∧ Below w.heap.size w w' := by
  have Ha1 := Aside0.mk ha1
  have Ka1 := Aside0.mk ka1
  clear ha1 ka1
  have Ha2 := Aside0.mk ha2
  have Ka2 := Aside0.mk ka2
  clear ha2 ka2
  have Hb1 := Aside0.mk hb1
  have Kb1 := Aside0.mk kb1
  clear hb1 kb1
  have Hb2 := Aside0.mk hb2
  have Kb2 := Aside0.mk kb2
  clear hb2 kb2
  have HVa := Aside0.mk hva
  clear hva
  have HVb := Aside0.mk hvb
  clear hvb
  have HS := Aside0.mk (Sx.start w)
  go_enter Try.func42, Try.ntmps42
  go_wp2_with (first | ((with_reducible refine gate_dst (N := 3) rfl ?_); refine box_event ?hg (N := 3) ?hd (cs := #[.bool a, .slice Aa1 la1.length ca1, .slice Aa2 la2.length ca2]) (t := 28) ?hr ?_; (case hd => rfl); (case hg => rfl); (case hr => first | (go_simp; done) | (go_simp; rfl)); intro gK hg1 w1 hx1 hb1; have nS : Aside0 (Sx w w1 [(.blk gK #[.bool a, .slice Aa1 la1.length ca1, .slice Aa2 la2.length ca2] 28)]) := Aside0.mk (HS.out.box hg1 hx1 hb1); clear HS; have HS := nS; clear nS hg1 hx1 hb1) | ((with_reducible refine gate_dst (N := 4) rfl ?_); refine box_event ?hg (N := 4) ?hd (cs := #[.bool b, .slice Ab1 lb1.length cb1, .slice Ab2 lb2.length cb2]) (t := 28) ?hr ?_; (case hd => rfl); (case hg => rfl); (case hr => first | (go_simp; done) | (go_simp; rfl)); intro gB hg2 w2 hx2 hb2; have nS : Aside0 (Sx w w2 [(.blk gB #[.bool b, .slice Ab1 lb1.length cb1, .slice Ab2 lb2.length cb2] 28), (.blk gK #[.bool a, .slice Aa1 la1.length ca1, .slice Aa2 la2.length ca2] 28)]) := Aside0.mk (HS.out.box hg2 hx2 hb2); clear HS; have HS := nS; clear nS hg2 hx2 hb2) | ((with_reducible refine gate_dst (N := 6) rfl ?_); refine box_event ?hg (N := 6) ?hd (cs := #[.bool false, .slice none 0 0, .slice none 0 0]) (t := 28) ?hr ?_; (case hd => rfl); (case hg => rfl); (case hr => first | (go_simp; done) | (go_simp; rfl)); intro gR hg3 w3 hx3 hb3; have nS : Aside0 (Sx w w3 [(.blk gR #[.bool false, .slice none 0 0, .slice none 0 0] 28), (.blk gB #[.bool b, .slice Ab1 lb1.length cb1, .slice Ab2 lb2.length cb2] 28), (.blk gK #[.bool a, .slice Aa1 la1.length ca1, .slice Aa2 la2.length ca2] 28)]) := Aside0.mk (HS.out.box hg3 hx3 hb3); clear HS; have HS := nS; clear nS hg3 hx3 hb3) | ((with_reducible refine gate_dst (N := 21) rfl ?_); refine wpList_load_row rfl 28 (.tmp 3) rfl gK rfl 28 #[.bool a, .slice Aa1 la1.length ca1, .slice Aa2 la2.length ca2] (0, 0) _ (HS.out.blk 2 rfl) Try.underlying28 rfl (by kernel_rfl) ?_) | (go_at_call 47; with_reducible refine (spec_ArrayOk.calls ka a Aa1 ca1 la1 Aa2 ca2 la2 true _ (Kd.C_below Ha1.out HS.out.below) Ka1.out (Kd.C_below Ha2.out HS.out.below) Ka2.out HVa.out).mono ?_; rintro e w4 ⟨rfl, hb4⟩; have nS : Aside0 (Sx w w4 [(.blk gR #[.bool false, .slice none 0 0, .slice none 0 0] 28), (.blk gB #[.bool b, .slice Ab1 lb1.length cb1, .slice Ab2 lb2.length cb2] 28), (.blk gK #[.bool a, .slice Aa1 la1.length ca1, .slice Aa2 la2.length ca2] 28)]) := Aside0.mk (HS.out.step hb4); clear HS; have HS := nS; clear nS hb4) | ((with_reducible refine wpList_guardedB ?hw ?_); (case hw => first | rfl | (go_simp; done))) | ((with_reducible refine gate_dst (N := 25) rfl ?_); refine wpList_load_row rfl 28 (.tmp 4) rfl gB rfl 28 #[.bool b, .slice Ab1 lb1.length cb1, .slice Ab2 lb2.length cb2] (0, 0) _ (HS.out.blk 1 rfl) Try.underlying28 rfl (by kernel_rfl) ?_) | (go_at_call 47; with_reducible refine (spec_ArrayOk.calls kb b Ab1 cb1 lb1 Ab2 cb2 lb2 false _ (Kd.C_below Hb1.out HS.out.below) Kb1.out (Kd.C_below Hb2.out HS.out.below) Kb2.out HVb.out).mono ?_; rintro e w5 ⟨rfl, hb5⟩; have nS : Aside0 (Sx w w5 [(.blk gR #[.bool false, .slice none 0 0, .slice none 0 0] 28), (.blk gB #[.bool b, .slice Ab1 lb1.length cb1, .slice Ab2 lb2.length cb2] 28), (.blk gK #[.bool a, .slice Aa1 la1.length ca1, .slice Aa2 la2.length ca2] 28)]) := Aside0.mk (HS.out.step hb5); clear HS; have HS := nS; clear nS hb5) | (go_at_call 53; refine (spec_l4None.calls false [] [] _ rfl).mono ?_; rintro e w6 ⟨v16, v26, rfl, hr16, hr26, hb6⟩; obtain ⟨AS, cS, hv_⟩ := Kd.R_slice hr16; subst hv_; obtain ⟨AD, cD, hv_⟩ := Kd.R_slice hr26; subst hv_; have nS : Aside0 (Sx w w6 [(.row (.slice AS ([] : List Int).length cS) []), (.row (.slice AD ([] : List Int).length cD) []), (.blk gR #[.bool false, .slice none 0 0, .slice none 0 0] 28), (.blk gB #[.bool b, .slice Ab1 lb1.length cb1, .slice Ab2 lb2.length cb2] 28), (.blk gK #[.bool a, .slice Aa1 la1.length ca1, .slice Aa2 la2.length ca2] 28)]) := Aside0.mk (HS.out.addRow2 hb6 hr16 hr26); clear HS; have HS := nS; clear nS hb6 hr16 hr26) | ((with_reducible refine gate_store rfl ?_); refine store_named rfl 28 (.tmp 6) (.tmp 29) rfl gR #[.bool false, .slice AS ([] : List Int).length cS, .slice AD ([] : List Int).length cD] rfl rfl 28 #[.bool false, .slice none 0 0, .slice none 0 0] (HS.out.blk 2 rfl) (by kernel_rfl) rfl (by simp [Value.oneCell']) ?_; intro w7 hx7 hb7; have nS : Aside0 (Sx w w7 [(.row (.slice AS ([] : List Int).length cS) []), (.row (.slice AD ([] : List Int).length cD) []), (.blk gR #[.bool false, .slice AS ([] : List Int).length cS, .slice AD ([] : List Int).length cD] 28), (.blk gB #[.bool b, .slice Ab1 lb1.length cb1, .slice Ab2 lb2.length cb2] 28), (.blk gK #[.bool a, .slice Aa1 la1.length ca1, .slice Aa2 la2.length ca2] 28)]) := Aside0.mk (HS.out.put 2 rfl hx7 hb7); clear HS; have HS := nS; clear nS hx7 hb7))
  refine bodyPost_ret (results_ct rfl _ _ gR 28 #[.bool false, .slice AS ([] : List Int).length cS, .slice AD ([] : List Int).length cD] (0, 0) _ rfl (HS.out.blk 2 rfl) Try.underlying28 rfl (by kernel_rfl)) rfl ?_
  exact ⟨_, _, rfl, (HS.out.two 0 1 (by decide) rfl rfl).1, (HS.out.two 0 1 (by decide) rfl rfl).2, HS.out.below⟩
set_option maxHeartbeats 2000000 in
set_option maxRecDepth 100000 in
theorem srep_list (a : Bool) (Aa1 : Option Addr) (ca1 : Nat) (la1 : List Int) (Aa2 : Option Addr) (ca2 : Nat) (la2 : List Int) (b : Bool) (Ab1 : Option Addr) (cb1 : Nat) (lb1 : List Int) (Ab2 : Option Addr) (cb2 : Nat) (lb2 : List Int) (first : Bool) (w : World) (ha1 : Kd.C (Kd.int .i64) w Aa1 la1.length la1) (ka1 : la1.length ≤ ca1) (ha2 : Kd.C (Kd.int .i64) w Aa2 la2.length la2) (ka2 : la2.length ≤ ca2) (hb1 : Kd.C (Kd.int .i64) w Ab1 lb1.length lb1) (kb1 : lb1.length ≤ cb1) (hb2 : Kd.C (Kd.int .i64) w Ab2 lb2.length lb2) (kb2 : lb2.length ≤ cb2) (ka : Nat) (hva : spec_ArrayOk.f ka a la1 la2 = some true) (kb : Nat) (hvb : spec_ArrayOk.f kb b lb1 lb2 = some true) (v : Int) (hlo : spec_l5List.f a la1 la2 = some v) (hc0 : v ≠ 0) :
    Calls Try.prog 42 #[.agg #[.bool a, .slice Aa1 la1.length ca1, .slice Aa2 la2.length ca2], .agg #[.bool b, .slice Ab1 lb1.length cb1, .slice Ab2 lb2.length cb2], .bool first] w fun e w' => ∃ v1_ v2_ : Value, e = .returned (.tuple #[.agg #[.bool false, v1_, v2_], .int .i64 v]) ∧ Kd.R (Kd.int .i64) 3 w' w.heap.size (fun k_ => some k_ ≠ (v2_ : Value).ownBlock) v1_ [] ∧ Kd.R (Kd.int .i64) 3 w' w.heap.size (fun k_ => some k_ ≠ (v1_ : Value).ownBlock) v2_ [] ∧ Below w.heap.size w w' := by
  have Ha1 := Aside0.mk ha1
  have Ka1 := Aside0.mk ka1
  clear ha1 ka1
  have Ha2 := Aside0.mk ha2
  have Ka2 := Aside0.mk ka2
  clear ha2 ka2
  have Hb1 := Aside0.mk hb1
  have Kb1 := Aside0.mk kb1
  clear hb1 kb1
  have Hb2 := Aside0.mk hb2
  have Kb2 := Aside0.mk kb2
  clear hb2 kb2
  have HVa := Aside0.mk hva
  clear hva
  have HVb := Aside0.mk hvb
  clear hvb
  have HLO := Aside0.mk hlo
  clear hlo
  have c0 : (v == 0) = false := beq_eq_false_iff_ne.mpr hc0
  have c1 : (v != 0) = true := bne_iff_ne.mpr hc0
  clear hc0
  have HS := Aside0.mk (Sx.start w)
  go_enter Try.func42, Try.ntmps42
  go_wp2_with (first | ((with_reducible refine gate_dst (N := 3) rfl ?_); refine box_event ?hg (N := 3) ?hd (cs := #[.bool a, .slice Aa1 la1.length ca1, .slice Aa2 la2.length ca2]) (t := 28) ?hr ?_; (case hd => rfl); (case hg => rfl); (case hr => first | (go_simp; done) | (go_simp; rfl)); intro gK hg1 w1 hx1 hb1; have nS : Aside0 (Sx w w1 [(.blk gK #[.bool a, .slice Aa1 la1.length ca1, .slice Aa2 la2.length ca2] 28)]) := Aside0.mk (HS.out.box hg1 hx1 hb1); clear HS; have HS := nS; clear nS hg1 hx1 hb1) | ((with_reducible refine gate_dst (N := 4) rfl ?_); refine box_event ?hg (N := 4) ?hd (cs := #[.bool b, .slice Ab1 lb1.length cb1, .slice Ab2 lb2.length cb2]) (t := 28) ?hr ?_; (case hd => rfl); (case hg => rfl); (case hr => first | (go_simp; done) | (go_simp; rfl)); intro gB hg2 w2 hx2 hb2; have nS : Aside0 (Sx w w2 [(.blk gB #[.bool b, .slice Ab1 lb1.length cb1, .slice Ab2 lb2.length cb2] 28), (.blk gK #[.bool a, .slice Aa1 la1.length ca1, .slice Aa2 la2.length ca2] 28)]) := Aside0.mk (HS.out.box hg2 hx2 hb2); clear HS; have HS := nS; clear nS hg2 hx2 hb2) | ((with_reducible refine gate_dst (N := 6) rfl ?_); refine box_event ?hg (N := 6) ?hd (cs := #[.bool false, .slice none 0 0, .slice none 0 0]) (t := 28) ?hr ?_; (case hd => rfl); (case hg => rfl); (case hr => first | (go_simp; done) | (go_simp; rfl)); intro gR hg3 w3 hx3 hb3; have nS : Aside0 (Sx w w3 [(.blk gR #[.bool false, .slice none 0 0, .slice none 0 0] 28), (.blk gB #[.bool b, .slice Ab1 lb1.length cb1, .slice Ab2 lb2.length cb2] 28), (.blk gK #[.bool a, .slice Aa1 la1.length ca1, .slice Aa2 la2.length ca2] 28)]) := Aside0.mk (HS.out.box hg3 hx3 hb3); clear HS; have HS := nS; clear nS hg3 hx3 hb3) | ((with_reducible refine gate_dst (N := 21) rfl ?_); refine wpList_load_row rfl 28 (.tmp 3) rfl gK rfl 28 #[.bool a, .slice Aa1 la1.length ca1, .slice Aa2 la2.length ca2] (0, 0) _ (HS.out.blk 2 rfl) Try.underlying28 rfl (by kernel_rfl) ?_) | (go_at_call 47; with_reducible refine (spec_ArrayOk.calls ka a Aa1 ca1 la1 Aa2 ca2 la2 true _ (Kd.C_below Ha1.out HS.out.below) Ka1.out (Kd.C_below Ha2.out HS.out.below) Ka2.out HVa.out).mono ?_; rintro e w4 ⟨rfl, hb4⟩; have nS : Aside0 (Sx w w4 [(.blk gR #[.bool false, .slice none 0 0, .slice none 0 0] 28), (.blk gB #[.bool b, .slice Ab1 lb1.length cb1, .slice Ab2 lb2.length cb2] 28), (.blk gK #[.bool a, .slice Aa1 la1.length ca1, .slice Aa2 la2.length ca2] 28)]) := Aside0.mk (HS.out.step hb4); clear HS; have HS := nS; clear nS hb4) | ((with_reducible refine wpList_guardedB ?hw ?_); (case hw => first | rfl | (go_simp; done))) | ((with_reducible refine gate_dst (N := 25) rfl ?_); refine wpList_load_row rfl 28 (.tmp 4) rfl gB rfl 28 #[.bool b, .slice Ab1 lb1.length cb1, .slice Ab2 lb2.length cb2] (0, 0) _ (HS.out.blk 1 rfl) Try.underlying28 rfl (by kernel_rfl) ?_) | (go_at_call 47; with_reducible refine (spec_ArrayOk.calls kb b Ab1 cb1 lb1 Ab2 cb2 lb2 true _ (Kd.C_below Hb1.out HS.out.below) Kb1.out (Kd.C_below Hb2.out HS.out.below) Kb2.out HVb.out).mono ?_; rintro e w5 ⟨rfl, hb5⟩; have nS : Aside0 (Sx w w5 [(.blk gR #[.bool false, .slice none 0 0, .slice none 0 0] 28), (.blk gB #[.bool b, .slice Ab1 lb1.length cb1, .slice Ab2 lb2.length cb2] 28), (.blk gK #[.bool a, .slice Aa1 la1.length ca1, .slice Aa2 la2.length ca2] 28)]) := Aside0.mk (HS.out.step hb5); clear HS; have HS := nS; clear nS hb5) | ((with_reducible refine gate_dst (N := 30) rfl ?_); refine wpList_load_row rfl 28 (.tmp 3) rfl gK rfl 28 #[.bool a, .slice Aa1 la1.length ca1, .slice Aa2 la2.length ca2] (0, 0) _ (HS.out.blk 2 rfl) Try.underlying28 rfl (by kernel_rfl) ?_) | (go_at_call 71; refine (spec_l5List.calls a Aa1 ca1 la1 Aa2 ca2 la2 v _ (Kd.C_below Ha1.out HS.out.below) Ka1.out (Kd.C_below Ha2.out HS.out.below) Ka2.out HLO.out).mono ?_; rintro e w6 ⟨rfl, hb6⟩; have nS : Aside0 (Sx w w6 [(.blk gR #[.bool false, .slice none 0 0, .slice none 0 0] 28), (.blk gB #[.bool b, .slice Ab1 lb1.length cb1, .slice Ab2 lb2.length cb2] 28), (.blk gK #[.bool a, .slice Aa1 la1.length ca1, .slice Aa2 la2.length ca2] 28)]) := Aside0.mk (HS.out.step hb6); clear HS; have HS := nS; clear nS hb6) | (go_at_call 53; refine (spec_l4None.calls false [] [] _ rfl).mono ?_; rintro e w7 ⟨v17, v27, rfl, hr17, hr27, hb7⟩; obtain ⟨AS, cS, hv_⟩ := Kd.R_slice hr17; subst hv_; obtain ⟨AD, cD, hv_⟩ := Kd.R_slice hr27; subst hv_; have nS : Aside0 (Sx w w7 [(.row (.slice AS ([] : List Int).length cS) []), (.row (.slice AD ([] : List Int).length cD) []), (.blk gR #[.bool false, .slice none 0 0, .slice none 0 0] 28), (.blk gB #[.bool b, .slice Ab1 lb1.length cb1, .slice Ab2 lb2.length cb2] 28), (.blk gK #[.bool a, .slice Aa1 la1.length ca1, .slice Aa2 la2.length ca2] 28)]) := Aside0.mk (HS.out.addRow2 hb7 hr17 hr27); clear HS; have HS := nS; clear nS hb7 hr17 hr27) | ((with_reducible refine gate_store rfl ?_); refine store_named rfl 28 (.tmp 6) (.tmp 34) rfl gR #[.bool false, .slice AS ([] : List Int).length cS, .slice AD ([] : List Int).length cD] rfl rfl 28 #[.bool false, .slice none 0 0, .slice none 0 0] (HS.out.blk 2 rfl) (by kernel_rfl) rfl (by simp [Value.oneCell']) ?_; intro w8 hx8 hb8; have nS : Aside0 (Sx w w8 [(.row (.slice AS ([] : List Int).length cS) []), (.row (.slice AD ([] : List Int).length cD) []), (.blk gR #[.bool false, .slice AS ([] : List Int).length cS, .slice AD ([] : List Int).length cD] 28), (.blk gB #[.bool b, .slice Ab1 lb1.length cb1, .slice Ab2 lb2.length cb2] 28), (.blk gK #[.bool a, .slice Aa1 la1.length ca1, .slice Aa2 la2.length ca2] 28)]) := Aside0.mk (HS.out.put 2 rfl hx8 hb8); clear HS; have HS := nS; clear nS hx8 hb8))
  refine bodyPost_ret (results_ct rfl _ _ gR 28 #[.bool false, .slice AS ([] : List Int).length cS, .slice AD ([] : List Int).length cD] (0, 0) _ rfl (HS.out.blk 2 rfl) Try.underlying28 rfl (by kernel_rfl)) rfl ?_
  exact ⟨_, _, rfl, (HS.out.two 0 1 (by decide) rfl rfl).1, (HS.out.two 0 1 (by decide) rfl rfl).2, HS.out.below⟩
set_option maxHeartbeats 2000000 in
set_option maxRecDepth 100000 in
theorem srep_len (a : Bool) (Aa1 : Option Addr) (ca1 : Nat) (la1 : List Int) (Aa2 : Option Addr) (ca2 : Nat) (la2 : List Int) (b : Bool) (Ab1 : Option Addr) (cb1 : Nat) (lb1 : List Int) (Ab2 : Option Addr) (cb2 : Nat) (lb2 : List Int) (first : Bool) (w : World) (ha1 : Kd.C (Kd.int .i64) w Aa1 la1.length la1) (ka1 : la1.length ≤ ca1) (ha2 : Kd.C (Kd.int .i64) w Aa2 la2.length la2) (ka2 : la2.length ≤ ca2) (hb1 : Kd.C (Kd.int .i64) w Ab1 lb1.length lb1) (kb1 : lb1.length ≤ cb1) (hb2 : Kd.C (Kd.int .i64) w Ab2 lb2.length lb2) (kb2 : lb2.length ≤ cb2) (ka : Nat) (hva : spec_ArrayOk.f ka a la1 la2 = some true) (kb : Nat) (hvb : spec_ArrayOk.f kb b lb1 lb2 = some true) (hlo : spec_l5List.f a la1 la2 = some 0) (L1 : List Int) (hL1 : L1 = if lb1.length = 0 then lb1 ++ [1] else lb1) (zq : Bool) (hzq : zq = decide (lb1.length = 0)) (kA bN n aN : Nat) (hax : spec_l4Axis.f kA L1 first = some ((bN : Int), (n : Int), (aN : Int))) (h1 : n ≠ 1) (h2 : la2.length ≠ 1) (h3 : la2.length ≠ n) :
    Calls Try.prog 42 #[.agg #[.bool a, .slice Aa1 la1.length ca1, .slice Aa2 la2.length ca2], .agg #[.bool b, .slice Ab1 lb1.length cb1, .slice Ab2 lb2.length cb2], .bool first] w fun e w' => ∃ v1_ v2_ : Value, e = .returned (.tuple #[.agg #[.bool false, v1_, v2_], .int .i64 5]) ∧ Kd.R (Kd.int .i64) 3 w' w.heap.size (fun k_ => some k_ ≠ (v2_ : Value).ownBlock) v1_ [] ∧ Kd.R (Kd.int .i64) 3 w' w.heap.size (fun k_ => some k_ ≠ (v1_ : Value).ownBlock) v2_ [] ∧ Below w.heap.size w w' := by
  have Ha1 := Aside0.mk ha1
  have Ka1 := Aside0.mk ka1
  clear ha1 ka1
  have Ha2 := Aside0.mk ha2
  have Ka2 := Aside0.mk ka2
  clear ha2 ka2
  have Hb1 := Aside0.mk hb1
  have Kb1 := Aside0.mk kb1
  clear hb1 kb1
  have Hb2 := Aside0.mk hb2
  have Kb2 := Aside0.mk kb2
  clear hb2 kb2
  have HVa := Aside0.mk hva
  clear hva
  have HVb := Aside0.mk hvb
  clear hvb
  have HLO := Aside0.mk hlo
  clear hlo
  have HL1 := Aside0.mk hL1
  have HZQ := Aside0.mk hzq
  have HAX := Aside0.mk hax
  clear hL1 hzq hax
  have f1 : (((n : Int) : Int) == 1) = false := beq_eq_false_iff_ne.mpr (by omega)
  have f1n : (((n : Int) : Int) != 1) = true := by rw [bne, f1]; rfl
  have f1p : ¬ n = 1 := by omega
  have f2 : (((la2.length : Int) : Int) == 1) = false := beq_eq_false_iff_ne.mpr (by omega)
  have f2n : (((la2.length : Int) : Int) != 1) = true := by rw [bne, f2]; rfl
  have f2p : ¬ la2.length = 1 := by omega
  have f3 : (((la2.length : Int) : Int) == (n : Int)) = false := beq_eq_false_iff_ne.mpr (by omega)
  have f3n : (((la2.length : Int) : Int) != (n : Int)) = true := by rw [bne, f3]; rfl
  have f3p : ¬ la2.length = n := by omega
  clear h1 h2 h3
  have HS := Aside0.mk (Sx.start w)
  go_enter Try.func42, Try.ntmps42
  go_upto_region 6 with (first | ((with_reducible refine gate_dst (N := 3) rfl ?_); refine box_event ?hg (N := 3) ?hd (cs := #[.bool a, .slice Aa1 la1.length ca1, .slice Aa2 la2.length ca2]) (t := 28) ?hr ?_; (case hd => rfl); (case hg => rfl); (case hr => first | (go_simp; done) | (go_simp; rfl)); intro gK hg1 w1 hx1 hb1; have nS : Aside0 (Sx w w1 [(.blk gK #[.bool a, .slice Aa1 la1.length ca1, .slice Aa2 la2.length ca2] 28)]) := Aside0.mk (HS.out.box hg1 hx1 hb1); clear HS; have HS := nS; clear nS hg1 hx1 hb1) | ((with_reducible refine gate_dst (N := 4) rfl ?_); refine box_event ?hg (N := 4) ?hd (cs := #[.bool b, .slice Ab1 lb1.length cb1, .slice Ab2 lb2.length cb2]) (t := 28) ?hr ?_; (case hd => rfl); (case hg => rfl); (case hr => first | (go_simp; done) | (go_simp; rfl)); intro gB hg2 w2 hx2 hb2; have nS : Aside0 (Sx w w2 [(.blk gB #[.bool b, .slice Ab1 lb1.length cb1, .slice Ab2 lb2.length cb2] 28), (.blk gK #[.bool a, .slice Aa1 la1.length ca1, .slice Aa2 la2.length ca2] 28)]) := Aside0.mk (HS.out.box hg2 hx2 hb2); clear HS; have HS := nS; clear nS hg2 hx2 hb2) | ((with_reducible refine gate_dst (N := 6) rfl ?_); refine box_event ?hg (N := 6) ?hd (cs := #[.bool false, .slice none 0 0, .slice none 0 0]) (t := 28) ?hr ?_; (case hd => rfl); (case hg => rfl); (case hr => first | (go_simp; done) | (go_simp; rfl)); intro gR hg3 w3 hx3 hb3; have nS : Aside0 (Sx w w3 [(.blk gR #[.bool false, .slice none 0 0, .slice none 0 0] 28), (.blk gB #[.bool b, .slice Ab1 lb1.length cb1, .slice Ab2 lb2.length cb2] 28), (.blk gK #[.bool a, .slice Aa1 la1.length ca1, .slice Aa2 la2.length ca2] 28)]) := Aside0.mk (HS.out.box hg3 hx3 hb3); clear HS; have HS := nS; clear nS hg3 hx3 hb3) | ((with_reducible refine gate_dst (N := 21) rfl ?_); refine wpList_load_row rfl 28 (.tmp 3) rfl gK rfl 28 #[.bool a, .slice Aa1 la1.length ca1, .slice Aa2 la2.length ca2] (0, 0) _ (HS.out.blk 2 rfl) Try.underlying28 rfl (by kernel_rfl) ?_) | (go_at_call 47; with_reducible refine (spec_ArrayOk.calls ka a Aa1 ca1 la1 Aa2 ca2 la2 true _ (Kd.C_below Ha1.out HS.out.below) Ka1.out (Kd.C_below Ha2.out HS.out.below) Ka2.out HVa.out).mono ?_; rintro e w4 ⟨rfl, hb4⟩; have nS : Aside0 (Sx w w4 [(.blk gR #[.bool false, .slice none 0 0, .slice none 0 0] 28), (.blk gB #[.bool b, .slice Ab1 lb1.length cb1, .slice Ab2 lb2.length cb2] 28), (.blk gK #[.bool a, .slice Aa1 la1.length ca1, .slice Aa2 la2.length ca2] 28)]) := Aside0.mk (HS.out.step hb4); clear HS; have HS := nS; clear nS hb4) | ((with_reducible refine wpList_guardedB ?hw ?_); (case hw => first | rfl | (go_simp; done))) | ((with_reducible refine gate_dst (N := 25) rfl ?_); refine wpList_load_row rfl 28 (.tmp 4) rfl gB rfl 28 #[.bool b, .slice Ab1 lb1.length cb1, .slice Ab2 lb2.length cb2] (0, 0) _ (HS.out.blk 1 rfl) Try.underlying28 rfl (by kernel_rfl) ?_) | (go_at_call 47; with_reducible refine (spec_ArrayOk.calls kb b Ab1 cb1 lb1 Ab2 cb2 lb2 true _ (Kd.C_below Hb1.out HS.out.below) Kb1.out (Kd.C_below Hb2.out HS.out.below) Kb2.out HVb.out).mono ?_; rintro e w5 ⟨rfl, hb5⟩; have nS : Aside0 (Sx w w5 [(.blk gR #[.bool false, .slice none 0 0, .slice none 0 0] 28), (.blk gB #[.bool b, .slice Ab1 lb1.length cb1, .slice Ab2 lb2.length cb2] 28), (.blk gK #[.bool a, .slice Aa1 la1.length ca1, .slice Aa2 la2.length ca2] 28)]) := Aside0.mk (HS.out.step hb5); clear HS; have HS := nS; clear nS hb5) | ((with_reducible refine gate_dst (N := 30) rfl ?_); refine wpList_load_row rfl 28 (.tmp 3) rfl gK rfl 28 #[.bool a, .slice Aa1 la1.length ca1, .slice Aa2 la2.length ca2] (0, 0) _ (HS.out.blk 2 rfl) Try.underlying28 rfl (by kernel_rfl) ?_) | (go_at_call 71; refine (spec_l5List.calls a Aa1 ca1 la1 Aa2 ca2 la2 0 _ (Kd.C_below Ha1.out HS.out.below) Ka1.out (Kd.C_below Ha2.out HS.out.below) Ka2.out HLO.out).mono ?_; rintro e w6 ⟨rfl, hb6⟩; have nS : Aside0 (Sx w w6 [(.blk gR #[.bool false, .slice none 0 0, .slice none 0 0] 28), (.blk gB #[.bool b, .slice Ab1 lb1.length cb1, .slice Ab2 lb2.length cb2] 28), (.blk gK #[.bool a, .slice Aa1 la1.length ca1, .slice Aa2 la2.length ca2] 28)]) := Aside0.mk (HS.out.step hb6); clear HS; have HS := nS; clear nS hb6) | ((with_reducible refine gate_dst (N := 37) rfl ?_); refine ev_load rfl 22 (.tmp 36) rfl ⟨gB, 1, none⟩ rfl (.slice Ab1 lb1.length cb1) ((blk_cell (HS.out.blk 1 rfl) 1).trans rfl) (by kernel_rfl) ?_))
  go_cut [39] from 36 to 39 (fun s39 wx => s39 = .bool zq ∧ Aside0 (Sx w wx [(.blk gR #[.bool false, .slice none 0 0, .slice none 0 0] 28), (.blk gB #[.bool b, .slice Ab1 lb1.length cb1, .slice Ab2 lb2.length cb2] 28), (.blk gK #[.bool a, .slice Aa1 la1.length ca1, .slice Aa2 la2.length ca2] 28)]))
  case first =>
    by_cases y1 : lb1.length = 0
    · have E39 := Aside0.mk (show zq = true by rw [HZQ.out, decide_eq_true y1])
      have t1 : ((lb1.length : Int) == 0) = true := beq_iff_eq.mpr (by omega)
      have u1_ : (lb1.length == 0) = true := beq_iff_eq.mpr y1
      have u1_d : decide (lb1.length = 0) = true := decide_eq_true y1
      clear y1
      go_wp2_with (first | ((with_reducible refine gate_dst (N := 3) rfl ?_); refine box_event ?hg (N := 3) ?hd (cs := #[.bool a, .slice Aa1 la1.length ca1, .slice Aa2 la2.length ca2]) (t := 28) ?hr ?_; (case hd => rfl); (case hg => rfl); (case hr => first | (go_simp; done) | (go_simp; rfl)); intro gK hg1 w1 hx1 hb1; have nS : Aside0 (Sx w w1 [(.blk gK #[.bool a, .slice Aa1 la1.length ca1, .slice Aa2 la2.length ca2] 28)]) := Aside0.mk (HS.out.box hg1 hx1 hb1); clear HS; have HS := nS; clear nS hg1 hx1 hb1) | ((with_reducible refine gate_dst (N := 4) rfl ?_); refine box_event ?hg (N := 4) ?hd (cs := #[.bool b, .slice Ab1 lb1.length cb1, .slice Ab2 lb2.length cb2]) (t := 28) ?hr ?_; (case hd => rfl); (case hg => rfl); (case hr => first | (go_simp; done) | (go_simp; rfl)); intro gB hg2 w2 hx2 hb2; have nS : Aside0 (Sx w w2 [(.blk gB #[.bool b, .slice Ab1 lb1.length cb1, .slice Ab2 lb2.length cb2] 28), (.blk gK #[.bool a, .slice Aa1 la1.length ca1, .slice Aa2 la2.length ca2] 28)]) := Aside0.mk (HS.out.box hg2 hx2 hb2); clear HS; have HS := nS; clear nS hg2 hx2 hb2) | ((with_reducible refine gate_dst (N := 6) rfl ?_); refine box_event ?hg (N := 6) ?hd (cs := #[.bool false, .slice none 0 0, .slice none 0 0]) (t := 28) ?hr ?_; (case hd => rfl); (case hg => rfl); (case hr => first | (go_simp; done) | (go_simp; rfl)); intro gR hg3 w3 hx3 hb3; have nS : Aside0 (Sx w w3 [(.blk gR #[.bool false, .slice none 0 0, .slice none 0 0] 28), (.blk gB #[.bool b, .slice Ab1 lb1.length cb1, .slice Ab2 lb2.length cb2] 28), (.blk gK #[.bool a, .slice Aa1 la1.length ca1, .slice Aa2 la2.length ca2] 28)]) := Aside0.mk (HS.out.box hg3 hx3 hb3); clear HS; have HS := nS; clear nS hg3 hx3 hb3) | ((with_reducible refine gate_dst (N := 21) rfl ?_); refine wpList_load_row rfl 28 (.tmp 3) rfl gK rfl 28 #[.bool a, .slice Aa1 la1.length ca1, .slice Aa2 la2.length ca2] (0, 0) _ (HS.out.blk 2 rfl) Try.underlying28 rfl (by kernel_rfl) ?_) | (go_at_call 47; with_reducible refine (spec_ArrayOk.calls ka a Aa1 ca1 la1 Aa2 ca2 la2 true _ (Kd.C_below Ha1.out HS.out.below) Ka1.out (Kd.C_below Ha2.out HS.out.below) Ka2.out HVa.out).mono ?_; rintro e w4 ⟨rfl, hb4⟩; have nS : Aside0 (Sx w w4 [(.blk gR #[.bool false, .slice none 0 0, .slice none 0 0] 28), (.blk gB #[.bool b, .slice Ab1 lb1.length cb1, .slice Ab2 lb2.length cb2] 28), (.blk gK #[.bool a, .slice Aa1 la1.length ca1, .slice Aa2 la2.length ca2] 28)]) := Aside0.mk (HS.out.step hb4); clear HS; have HS := nS; clear nS hb4) | ((with_reducible refine wpList_guardedB ?hw ?_); (case hw => first | rfl | (go_simp; done))) | ((with_reducible refine gate_dst (N := 25) rfl ?_); refine wpList_load_row rfl 28 (.tmp 4) rfl gB rfl 28 #[.bool b, .slice Ab1 lb1.length cb1, .slice Ab2 lb2.length cb2] (0, 0) _ (HS.out.blk 1 rfl) Try.underlying28 rfl (by kernel_rfl) ?_) | (go_at_call 47; with_reducible refine (spec_ArrayOk.calls kb b Ab1 cb1 lb1 Ab2 cb2 lb2 true _ (Kd.C_below Hb1.out HS.out.below) Kb1.out (Kd.C_below Hb2.out HS.out.below) Kb2.out HVb.out).mono ?_; rintro e w5 ⟨rfl, hb5⟩; have nS : Aside0 (Sx w w5 [(.blk gR #[.bool false, .slice none 0 0, .slice none 0 0] 28), (.blk gB #[.bool b, .slice Ab1 lb1.length cb1, .slice Ab2 lb2.length cb2] 28), (.blk gK #[.bool a, .slice Aa1 la1.length ca1, .slice Aa2 la2.length ca2] 28)]) := Aside0.mk (HS.out.step hb5); clear HS; have HS := nS; clear nS hb5) | ((with_reducible refine gate_dst (N := 30) rfl ?_); refine wpList_load_row rfl 28 (.tmp 3) rfl gK rfl 28 #[.bool a, .slice Aa1 la1.length ca1, .slice Aa2 la2.length ca2] (0, 0) _ (HS.out.blk 2 rfl) Try.underlying28 rfl (by kernel_rfl) ?_) | (go_at_call 71; refine (spec_l5List.calls a Aa1 ca1 la1 Aa2 ca2 la2 0 _ (Kd.C_below Ha1.out HS.out.below) Ka1.out (Kd.C_below Ha2.out HS.out.below) Ka2.out HLO.out).mono ?_; rintro e w6 ⟨rfl, hb6⟩; have nS : Aside0 (Sx w w6 [(.blk gR #[.bool false, .slice none 0 0, .slice none 0 0] 28), (.blk gB #[.bool b, .slice Ab1 lb1.length cb1, .slice Ab2 lb2.length cb2] 28), (.blk gK #[.bool a, .slice Aa1 la1.length ca1, .slice Aa2 la2.length ca2] 28)]) := Aside0.mk (HS.out.step hb6); clear HS; have HS := nS; clear nS hb6) | ((with_reducible refine gate_dst (N := 37) rfl ?_); refine ev_load rfl 22 (.tmp 36) rfl ⟨gB, 1, none⟩ rfl (.slice Ab1 lb1.length cb1) ((blk_cell (HS.out.blk 1 rfl) 1).trans rfl) (by kernel_rfl) ?_))
      go_meet
      case rel => exact ⟨by first | (rw [E39.out]; done) | (rw [E39.out, u1_d]), HS⟩
    · have E39 := Aside0.mk (show zq = false by rw [HZQ.out, decide_eq_false y1])
      have t1 : ((lb1.length : Int) == 0) = false := beq_eq_false_iff_ne.mpr (by omega)
      have u1_ : (lb1.length == 0) = false := beq_eq_false_iff_ne.mpr y1
      have u1_d : decide (lb1.length = 0) = false := decide_eq_false y1
      have u1_p : ¬ lb1.length = 0 := y1
      clear y1
      go_wp2_with (first | ((with_reducible refine gate_dst (N := 3) rfl ?_); refine box_event ?hg (N := 3) ?hd (cs := #[.bool a, .slice Aa1 la1.length ca1, .slice Aa2 la2.length ca2]) (t := 28) ?hr ?_; (case hd => rfl); (case hg => rfl); (case hr => first | (go_simp; done) | (go_simp; rfl)); intro gK hg1 w1 hx1 hb1; have nS : Aside0 (Sx w w1 [(.blk gK #[.bool a, .slice Aa1 la1.length ca1, .slice Aa2 la2.length ca2] 28)]) := Aside0.mk (HS.out.box hg1 hx1 hb1); clear HS; have HS := nS; clear nS hg1 hx1 hb1) | ((with_reducible refine gate_dst (N := 4) rfl ?_); refine box_event ?hg (N := 4) ?hd (cs := #[.bool b, .slice Ab1 lb1.length cb1, .slice Ab2 lb2.length cb2]) (t := 28) ?hr ?_; (case hd => rfl); (case hg => rfl); (case hr => first | (go_simp; done) | (go_simp; rfl)); intro gB hg2 w2 hx2 hb2; have nS : Aside0 (Sx w w2 [(.blk gB #[.bool b, .slice Ab1 lb1.length cb1, .slice Ab2 lb2.length cb2] 28), (.blk gK #[.bool a, .slice Aa1 la1.length ca1, .slice Aa2 la2.length ca2] 28)]) := Aside0.mk (HS.out.box hg2 hx2 hb2); clear HS; have HS := nS; clear nS hg2 hx2 hb2) | ((with_reducible refine gate_dst (N := 6) rfl ?_); refine box_event ?hg (N := 6) ?hd (cs := #[.bool false, .slice none 0 0, .slice none 0 0]) (t := 28) ?hr ?_; (case hd => rfl); (case hg => rfl); (case hr => first | (go_simp; done) | (go_simp; rfl)); intro gR hg3 w3 hx3 hb3; have nS : Aside0 (Sx w w3 [(.blk gR #[.bool false, .slice none 0 0, .slice none 0 0] 28), (.blk gB #[.bool b, .slice Ab1 lb1.length cb1, .slice Ab2 lb2.length cb2] 28), (.blk gK #[.bool a, .slice Aa1 la1.length ca1, .slice Aa2 la2.length ca2] 28)]) := Aside0.mk (HS.out.box hg3 hx3 hb3); clear HS; have HS := nS; clear nS hg3 hx3 hb3) | ((with_reducible refine gate_dst (N := 21) rfl ?_); refine wpList_load_row rfl 28 (.tmp 3) rfl gK rfl 28 #[.bool a, .slice Aa1 la1.length ca1, .slice Aa2 la2.length ca2] (0, 0) _ (HS.out.blk 2 rfl) Try.underlying28 rfl (by kernel_rfl) ?_) | (go_at_call 47; with_reducible refine (spec_ArrayOk.calls ka a Aa1 ca1 la1 Aa2 ca2 la2 true _ (Kd.C_below Ha1.out HS.out.below) Ka1.out (Kd.C_below Ha2.out HS.out.below) Ka2.out HVa.out).mono ?_; rintro e w4 ⟨rfl, hb4⟩; have nS : Aside0 (Sx w w4 [(.blk gR #[.bool false, .slice none 0 0, .slice none 0 0] 28), (.blk gB #[.bool b, .slice Ab1 lb1.length cb1, .slice Ab2 lb2.length cb2] 28), (.blk gK #[.bool a, .slice Aa1 la1.length ca1, .slice Aa2 la2.length ca2] 28)]) := Aside0.mk (HS.out.step hb4); clear HS; have HS := nS; clear nS hb4) | ((with_reducible refine wpList_guardedB ?hw ?_); (case hw => first | rfl | (go_simp; done))) | ((with_reducible refine gate_dst (N := 25) rfl ?_); refine wpList_load_row rfl 28 (.tmp 4) rfl gB rfl 28 #[.bool b, .slice Ab1 lb1.length cb1, .slice Ab2 lb2.length cb2] (0, 0) _ (HS.out.blk 1 rfl) Try.underlying28 rfl (by kernel_rfl) ?_) | (go_at_call 47; with_reducible refine (spec_ArrayOk.calls kb b Ab1 cb1 lb1 Ab2 cb2 lb2 true _ (Kd.C_below Hb1.out HS.out.below) Kb1.out (Kd.C_below Hb2.out HS.out.below) Kb2.out HVb.out).mono ?_; rintro e w5 ⟨rfl, hb5⟩; have nS : Aside0 (Sx w w5 [(.blk gR #[.bool false, .slice none 0 0, .slice none 0 0] 28), (.blk gB #[.bool b, .slice Ab1 lb1.length cb1, .slice Ab2 lb2.length cb2] 28), (.blk gK #[.bool a, .slice Aa1 la1.length ca1, .slice Aa2 la2.length ca2] 28)]) := Aside0.mk (HS.out.step hb5); clear HS; have HS := nS; clear nS hb5) | ((with_reducible refine gate_dst (N := 30) rfl ?_); refine wpList_load_row rfl 28 (.tmp 3) rfl gK rfl 28 #[.bool a, .slice Aa1 la1.length ca1, .slice Aa2 la2.length ca2] (0, 0) _ (HS.out.blk 2 rfl) Try.underlying28 rfl (by kernel_rfl) ?_) | (go_at_call 71; refine (spec_l5List.calls a Aa1 ca1 la1 Aa2 ca2 la2 0 _ (Kd.C_below Ha1.out HS.out.below) Ka1.out (Kd.C_below Ha2.out HS.out.below) Ka2.out HLO.out).mono ?_; rintro e w6 ⟨rfl, hb6⟩; have nS : Aside0 (Sx w w6 [(.blk gR #[.bool false, .slice none 0 0, .slice none 0 0] 28), (.blk gB #[.bool b, .slice Ab1 lb1.length cb1, .slice Ab2 lb2.length cb2] 28), (.blk gK #[.bool a, .slice Aa1 la1.length ca1, .slice Aa2 la2.length ca2] 28)]) := Aside0.mk (HS.out.step hb6); clear HS; have HS := nS; clear nS hb6) | ((with_reducible refine gate_dst (N := 37) rfl ?_); refine ev_load rfl 22 (.tmp 36) rfl ⟨gB, 1, none⟩ rfl (.slice Ab1 lb1.length cb1) ((blk_cell (HS.out.blk 1 rfl) 1).trans rfl) (by kernel_rfl) ?_))
      go_meet
      case rel => exact ⟨by first | (rw [E39.out]; done) | (rw [E39.out, u1_d]), HS⟩
  clear HS
  obtain ⟨e39, HS⟩ := hcut
  subst e39
  go_upto_if 39 with fail
  go_cut [] from 40 to 41 (fun wx => ∃ Bs ds Bd dd, Kd.C (Kd.int .i64) wx Bs L1.length L1 ∧ L1.length ≤ ds ∧ Kd.C (Kd.int .i64) wx Bd lb2.length lb2 ∧ lb2.length ≤ dd ∧ Aside0 (Sx w wx [(.blk gR #[.bool false, .slice none 0 0, .slice none 0 0] 28), (.blk gB #[.bool b, .slice Bs L1.length ds, .slice Bd lb2.length dd] 28), (.blk gK #[.bool a, .slice Aa1 la1.length ca1, .slice Aa2 la2.length ca2] 28)]))
  case first =>
    by_cases y1 : lb1.length = 0
    · have eq_ : zq = true := by rw [HZQ.out, decide_eq_true y1]
      clear HZQ
      subst eq_
      have e_ : L1 = lb1 ++ [1] := by rw [HL1.out, if_pos y1]
      have HWD := Aside0.mk (show WBesOk #[.agg #[.bool b, .slice Ab1 lb1.length cb1, .slice Ab2 lb2.length cb2]] b L1 lb2 w by rw [e_]; exact wbesOk b Ab1 cb1 lb1 Ab2 cb2 lb2 w Hb1.out Kb1.out Hb2.out Kb2.out (by omega))
      clear HL1 y1 e_
      go_wp2_with (first | ((with_reducible refine gate_dst (N := 40) rfl ?_); refine wpList_load_row rfl 28 (.tmp 4) rfl gB rfl 28 #[.bool b, .slice Ab1 lb1.length cb1, .slice Ab2 lb2.length cb2] (0, 0) _ (HS.out.blk 1 rfl) Try.underlying28 rfl (by kernel_rfl) ?_) | (go_at_call 85; refine (HWD.out.go _ HS.out.below).mono ?_; rintro e wp7 ⟨Bs, ds, Bd, dd, rfl, hCB1, hKB1, hCB2, hKB2, hbp7⟩; have CB1 := Aside0.mk hCB1; have KB1 := Aside0.mk hKB1; have CB2 := Aside0.mk hCB2; have KB2 := Aside0.mk hKB2; clear hCB1 hKB1 hCB2 hKB2; have nS : Aside0 (Sx w wp7 [(.blk gR #[.bool false, .slice none 0 0, .slice none 0 0] 28), (.blk gB #[.bool b, .slice Ab1 lb1.length cb1, .slice Ab2 lb2.length cb2] 28), (.blk gK #[.bool a, .slice Aa1 la1.length ca1, .slice Aa2 la2.length ca2] 28)]) := Aside0.mk (HS.out.step hbp7); clear HS; have HS := nS; clear nS hbp7) | ((with_reducible refine gate_store rfl ?_); refine store_named rfl 28 (.tmp 4) (.tmp 41) rfl gB #[.bool b, .slice Bs L1.length ds, .slice Bd lb2.length dd] rfl rfl 28 #[.bool b, .slice Ab1 lb1.length cb1, .slice Ab2 lb2.length cb2] (HS.out.blk 1 rfl) (by kernel_rfl) rfl (by simp [Value.oneCell']) ?_; intro wp8 hxp8 hbp8; have nCB1 := Aside0.mk (C_but1 CB1.out hbp8 (HS.out.blk 1 rfl) (noInt_A _ _ _ _ _ _ _)); clear CB1; have CB1 := nCB1; clear nCB1; have nCB2 := Aside0.mk (C_but1 CB2.out hbp8 (HS.out.blk 1 rfl) (noInt_A _ _ _ _ _ _ _)); clear CB2; have CB2 := nCB2; clear nCB2; have nS : Aside0 (Sx w wp8 [(.blk gR #[.bool false, .slice none 0 0, .slice none 0 0] 28), (.blk gB #[.bool b, .slice Bs L1.length ds, .slice Bd lb2.length dd] 28), (.blk gK #[.bool a, .slice Aa1 la1.length ca1, .slice Aa2 la2.length ca2] 28)]) := Aside0.mk (HS.out.put 1 rfl hxp8 hbp8); clear HS; have HS := nS; clear nS hxp8 hbp8))
      go_meet
      case rel => exact ⟨Bs, ds, Bd, dd, CB1.out, KB1.out, CB2.out, KB2.out, HS⟩
    · have eq_ : zq = false := by rw [HZQ.out, decide_eq_false y1]
      clear HZQ
      subst eq_
      have e_ : L1 = lb1 := by rw [HL1.out, if_neg y1]
      subst L1
      clear HL1 y1
      go_wp2
      go_meet
      case rel => exact ⟨Ab1, cb1, Ab2, cb2, (Kd.C_below Hb1.out HS.out.below), Kb1.out, (Kd.C_below Hb2.out HS.out.below), Kb2.out, HS⟩
  clear HS
  obtain ⟨Bs, ds, Bd, dd, hCB1, hKB1, hCB2, hKB2, HS⟩ := hcut
  generalize wc = wz7 at *
  have CB1 := Aside0.mk hCB1
  have KB1 := Aside0.mk hKB1
  have CB2 := Aside0.mk hCB2
  have KB2 := Aside0.mk hKB2
  clear hCB1 hKB1 hCB2 hKB2
  have HB0 := Aside0.mk HS.out.below
  have HGR := Aside0.mk (HS.out.get 0 rfl).2
  have HRB := Aside0.mk (HS.out.blk 0 rfl)
  have HBB := Aside0.mk (HS.out.blk 1 rfl)
  have HKB := Aside0.mk (HS.out.blk 2 rfl)
  have HGL := Aside0.mk (blk_lt HRB.out)
  have CA2 := Aside0.mk (Kd.C_below Ha2.out HB0.out)
  clear HS
  have HS := Aside0.mk (Sx.start wz7)
  go_wp2_with (first | ((with_reducible refine gate_dst (N := 44) rfl ?_); refine ev_load rfl 22 (.tmp 43) rfl ⟨gB, 1, none⟩ rfl (.slice Bs L1.length ds) ((blk_cell (blk_below HBB.out HS.out.below) 1).trans rfl) (by kernel_rfl) ?_) | (go_at_call 82; refine (spec_l4Axis.calls kA Bs ds L1 first (bN : Int) (n : Int) (aN : Int) _ (Kd.C_below CB1.out HS.out.below) KB1.out HAX.out).mono ?_; rintro e we1 ⟨rfl, hde1⟩; have hbe1 := Drawn0.below hde1; clear hde1; have nS : Aside0 (Sx wz7 we1 []) := Aside0.mk (HS.out.step hbe1); clear HS; have HS := nS; clear nS hbe1) | ((with_reducible refine wpList_guardedB ?hw ?_); (case hw => first | rfl | (go_simp; done))) | ((with_reducible refine gate_dst (N := 57) rfl ?_); refine ev_load rfl 22 (.tmp 56) rfl ⟨gK, 2, none⟩ rfl (.slice Aa2 la2.length ca2) ((blk_cell (blk_below HKB.out HS.out.below) 2).trans rfl) (by kernel_rfl) ?_) | ((with_reducible refine gate_dst (N := 62) rfl ?_); refine ev_load rfl 22 (.tmp 61) rfl ⟨gK, 2, none⟩ rfl (.slice Aa2 la2.length ca2) ((blk_cell (blk_below HKB.out HS.out.below) 2).trans rfl) (by kernel_rfl) ?_) | (go_at_call 53; refine (spec_l4None.calls false [] [] _ rfl).mono ?_; rintro e we2 ⟨v1e2, v2e2, rfl, hr1e2, hr2e2, hbe2⟩; obtain ⟨AS, cS, hv_⟩ := Kd.R_slice hr1e2; subst hv_; obtain ⟨AD, cD, hv_⟩ := Kd.R_slice hr2e2; subst hv_; have nS : Aside0 (Sx wz7 we2 [(.row (.slice AS ([] : List Int).length cS) []), (.row (.slice AD ([] : List Int).length cD) [])]) := Aside0.mk (HS.out.addRow2 hbe2 hr1e2 hr2e2); clear HS; have HS := nS; clear nS hbe2 hr1e2 hr2e2) | ((with_reducible refine gate_store rfl ?_); refine store_named rfl 28 (.tmp 6) (.tmp 67) rfl gR #[.bool false, .slice AS ([] : List Int).length cS, .slice AD ([] : List Int).length cD] rfl rfl 28 #[.bool false, .slice none 0 0, .slice none 0 0] (blk_below HRB.out HS.out.below) (by kernel_rfl) rfl (by simp [Value.oneCell']) ?_; intro wF hxF hbF; have HXF := Aside0.mk hxF; have HBF := Aside0.mk hbF; clear hxF hbF))
  have R_ := HS.out.two_but 0 1 (by decide) rfl rfl HBF.out HGL.out w.heap.size HB0.out.size
  refine bodyPost_ret (results_ct rfl _ _ gR 28 #[.bool false, .slice AS ([] : List Int).length cS, .slice AD ([] : List Int).length cD] (0, 0) _ rfl HXF.out Try.underlying28 rfl (by kernel_rfl)) rfl ?_
  exact ⟨_, _, rfl, R_.1, R_.2, (below_step HB0.out HS.out.below).trans (HBF.out.below _ HGR.out)⟩
set_option maxHeartbeats 2000000 in
set_option maxRecDepth 100000 in
theorem srep_on (a : Bool) (Aa1 : Option Addr) (ca1 : Nat) (la1 : List Int) (Aa2 : Option Addr) (ca2 : Nat) (la2 : List Int) (b : Bool) (Ab1 : Option Addr) (cb1 : Nat) (lb1 : List Int) (Ab2 : Option Addr) (cb2 : Nat) (lb2 : List Int) (first : Bool) (w : World) (ha1 : Kd.C (Kd.int .i64) w Aa1 la1.length la1) (ka1 : la1.length ≤ ca1) (ha2 : Kd.C (Kd.int .i64) w Aa2 la2.length la2) (ka2 : la2.length ≤ ca2) (hb1 : Kd.C (Kd.int .i64) w Ab1 lb1.length lb1) (kb1 : lb1.length ≤ cb1) (hb2 : Kd.C (Kd.int .i64) w Ab2 lb2.length lb2) (kb2 : lb2.length ≤ cb2) (ka : Nat) (hva : spec_ArrayOk.f ka a la1 la2 = some true) (kb : Nat) (hvb : spec_ArrayOk.f kb b lb1 lb2 = some true) (hlo : spec_l5List.f a la1 la2 = some 0) (L1 : List Int) (hL1 : L1 = if lb1.length = 0 then lb1 ++ [1] else lb1) (zq : Bool) (hzq : zq = decide (lb1.length = 0)) (kA bN n aN : Nat) (hax : spec_l4Axis.f kA L1 first = some ((bN : Int), (n : Int), (aN : Int))) (n1 : Bool) (hn1 : n1 = decide (n = 1)) (m : Nat) (hm1 : n = 1 → m = la2.length) (hm2 : n ≠ 1 → m = n) (hway : n = 1 ∨ la2.length = 1 ∨ la2.length = n) (hml : 0 < m → 0 < la2.length) (hm : m ≤ 10000) (hn0 : 0 < m → 0 < n) (hlen : la2.length ≤ 10000) (hrk : ∀ x ∈ la2, -1000000000000000 ≤ x ∧ x ≤ 1000000000000000) (h5 : L1.length ≤ 5) (hbN : bN ≤ 10000) (haN : aN ≤ 10000) (hl2 : lb2.length ≤ 10000) (t : Nat) (htl : t < L1.length) (htf : t = if first = true then 0 else L1.length - 1) (SUM : Int) (hsm : sumS la2 m = SUM) (S2 : List Int) (hS2 : L1.set t SUM = S2) (hSL : S2.length = L1.length) (k1 : Nat) (zok : Bool) (hsh : spec_l3ShapeOk.f k1 S2 = some zok) (K_ : Bool) (S1_ S2_ : List Int) (cd_ : Int) (hneg : ∀ j : Nat, j < la2.length → rd la2 (j : Int) < 0 → K_ = false ∧ S1_ = [] ∧ S2_ = [] ∧ cd_ = 3) (hsum : (∀ i : Nat, i < la2.length → 0 ≤ rd la2 (i : Int)) → ∀ j : Nat, j ≤ m → sumS la2 j > 10000 → K_ = false ∧ S1_ = [] ∧ S2_ = [] ∧ cd_ = 7) (h7 : (∀ i : Nat, i < la2.length → 0 ≤ rd la2 (i : Int)) → zok = false → K_ = false ∧ S1_ = [] ∧ S2_ = [] ∧ cd_ = 7) (h0 : (∀ i : Nat, i < la2.length → 0 ≤ rd la2 (i : Int)) → zok = true → K_ = b ∧ S1_ = S2 ∧ S2_ = repP lb2 la2 n aN m bN ∧ cd_ = 0) (hbd : (∀ i : Nat, i < la2.length → 0 ≤ rd la2 (i : Int)) → zok = true → ∀ p i c_ : Nat, p < bN → i < m → c_ < (rd la2 ((i % la2.length : Nat) : Int)).toNat → ((repP lb2 la2 n aN m p ++ repI lb2 la2 n aN p i) ++ repC (repQ lb2 (p * n + i % n) aN aN) c_).length + aN ≤ 10000) (hix : zok = true → ∀ p i q : Nat, p < bN → i < m → q < aN → (p * n + i % n) * aN + q < lb2.length) :
    Calls Try.prog 42 #[.agg #[.bool a, .slice Aa1 la1.length ca1, .slice Aa2 la2.length ca2], .agg #[.bool b, .slice Ab1 lb1.length cb1, .slice Ab2 lb2.length cb2], .bool first] w fun e w' => ∃ v1_ v2_ : Value, e = .returned (.tuple #[.agg #[.bool K_, v1_, v2_], .int .i64 cd_]) ∧ Kd.R (Kd.int .i64) 3 w' w.heap.size (fun k_ => some k_ ≠ (v2_ : Value).ownBlock) v1_ S1_ ∧ Kd.R (Kd.int .i64) 3 w' w.heap.size (fun k_ => some k_ ≠ (v1_ : Value).ownBlock) v2_ S2_ ∧ Below w.heap.size w w' := by
  have Ha1 := Aside0.mk ha1
  have Ka1 := Aside0.mk ka1
  clear ha1 ka1
  have Ha2 := Aside0.mk ha2
  have Ka2 := Aside0.mk ka2
  clear ha2 ka2
  have Hb1 := Aside0.mk hb1
  have Kb1 := Aside0.mk kb1
  clear hb1 kb1
  have Hb2 := Aside0.mk hb2
  have Kb2 := Aside0.mk kb2
  clear hb2 kb2
  have HVa := Aside0.mk hva
  clear hva
  have HVb := Aside0.mk hvb
  clear hvb
  have HLO := Aside0.mk hlo
  clear hlo
  have HL1 := Aside0.mk hL1
  have HZQ := Aside0.mk hzq
  have HAX := Aside0.mk hax
  clear hL1 hzq hax
  have HN1 := Aside0.mk hn1
  clear hn1
  have HM1 := Aside0.mk hm1
  clear hm1
  have HM2 := Aside0.mk hm2
  clear hm2
  have HWAY := Aside0.mk hway
  clear hway
  have HML := Aside0.mk hml
  clear hml
  have HM := Aside0.mk hm
  clear hm
  have HN0 := Aside0.mk hn0
  clear hn0
  have HLEN := Aside0.mk hlen
  clear hlen
  have HRK := Aside0.mk hrk
  clear hrk
  have H5 := Aside0.mk h5
  clear h5
  have HBN := Aside0.mk hbN
  clear hbN
  have HAN := Aside0.mk haN
  clear haN
  have HL2 := Aside0.mk hl2
  clear hl2
  have HTL := Aside0.mk htl
  clear htl
  have HTF := Aside0.mk htf
  clear htf
  have HSM := Aside0.mk hsm
  clear hsm
  have HS2 := Aside0.mk hS2
  clear hS2
  have HSL := Aside0.mk hSL
  clear hSL
  have HSH := Aside0.mk hsh
  clear hsh
  have HNEG := Aside0.mk hneg
  clear hneg
  have HSUM := Aside0.mk hsum
  clear hsum
  have H7 := Aside0.mk h7
  clear h7
  have H0 := Aside0.mk h0
  clear h0
  have HBD0 := Aside0.mk hbd
  clear hbd
  have HIX0 := Aside0.mk hix
  clear hix
  have HS := Aside0.mk (Sx.start w)
  go_enter Try.func42, Try.ntmps42
  go_upto_region 6 with (first | ((with_reducible refine gate_dst (N := 3) rfl ?_); refine box_event ?hg (N := 3) ?hd (cs := #[.bool a, .slice Aa1 la1.length ca1, .slice Aa2 la2.length ca2]) (t := 28) ?hr ?_; (case hd => rfl); (case hg => rfl); (case hr => first | (go_simp; done) | (go_simp; rfl)); intro gK hg1 w1 hx1 hb1; have nS : Aside0 (Sx w w1 [(.blk gK #[.bool a, .slice Aa1 la1.length ca1, .slice Aa2 la2.length ca2] 28)]) := Aside0.mk (HS.out.box hg1 hx1 hb1); clear HS; have HS := nS; clear nS hg1 hx1 hb1) | ((with_reducible refine gate_dst (N := 4) rfl ?_); refine box_event ?hg (N := 4) ?hd (cs := #[.bool b, .slice Ab1 lb1.length cb1, .slice Ab2 lb2.length cb2]) (t := 28) ?hr ?_; (case hd => rfl); (case hg => rfl); (case hr => first | (go_simp; done) | (go_simp; rfl)); intro gB hg2 w2 hx2 hb2; have nS : Aside0 (Sx w w2 [(.blk gB #[.bool b, .slice Ab1 lb1.length cb1, .slice Ab2 lb2.length cb2] 28), (.blk gK #[.bool a, .slice Aa1 la1.length ca1, .slice Aa2 la2.length ca2] 28)]) := Aside0.mk (HS.out.box hg2 hx2 hb2); clear HS; have HS := nS; clear nS hg2 hx2 hb2) | ((with_reducible refine gate_dst (N := 6) rfl ?_); refine box_event ?hg (N := 6) ?hd (cs := #[.bool false, .slice none 0 0, .slice none 0 0]) (t := 28) ?hr ?_; (case hd => rfl); (case hg => rfl); (case hr => first | (go_simp; done) | (go_simp; rfl)); intro gR hg3 w3 hx3 hb3; have nS : Aside0 (Sx w w3 [(.blk gR #[.bool false, .slice none 0 0, .slice none 0 0] 28), (.blk gB #[.bool b, .slice Ab1 lb1.length cb1, .slice Ab2 lb2.length cb2] 28), (.blk gK #[.bool a, .slice Aa1 la1.length ca1, .slice Aa2 la2.length ca2] 28)]) := Aside0.mk (HS.out.box hg3 hx3 hb3); clear HS; have HS := nS; clear nS hg3 hx3 hb3) | ((with_reducible refine gate_dst (N := 21) rfl ?_); refine wpList_load_row rfl 28 (.tmp 3) rfl gK rfl 28 #[.bool a, .slice Aa1 la1.length ca1, .slice Aa2 la2.length ca2] (0, 0) _ (HS.out.blk 2 rfl) Try.underlying28 rfl (by kernel_rfl) ?_) | (go_at_call 47; with_reducible refine (spec_ArrayOk.calls ka a Aa1 ca1 la1 Aa2 ca2 la2 true _ (Kd.C_below Ha1.out HS.out.below) Ka1.out (Kd.C_below Ha2.out HS.out.below) Ka2.out HVa.out).mono ?_; rintro e w4 ⟨rfl, hb4⟩; have nS : Aside0 (Sx w w4 [(.blk gR #[.bool false, .slice none 0 0, .slice none 0 0] 28), (.blk gB #[.bool b, .slice Ab1 lb1.length cb1, .slice Ab2 lb2.length cb2] 28), (.blk gK #[.bool a, .slice Aa1 la1.length ca1, .slice Aa2 la2.length ca2] 28)]) := Aside0.mk (HS.out.step hb4); clear HS; have HS := nS; clear nS hb4) | ((with_reducible refine wpList_guardedB ?hw ?_); (case hw => first | rfl | (go_simp; done))) | ((with_reducible refine gate_dst (N := 25) rfl ?_); refine wpList_load_row rfl 28 (.tmp 4) rfl gB rfl 28 #[.bool b, .slice Ab1 lb1.length cb1, .slice Ab2 lb2.length cb2] (0, 0) _ (HS.out.blk 1 rfl) Try.underlying28 rfl (by kernel_rfl) ?_) | (go_at_call 47; with_reducible refine (spec_ArrayOk.calls kb b Ab1 cb1 lb1 Ab2 cb2 lb2 true _ (Kd.C_below Hb1.out HS.out.below) Kb1.out (Kd.C_below Hb2.out HS.out.below) Kb2.out HVb.out).mono ?_; rintro e w5 ⟨rfl, hb5⟩; have nS : Aside0 (Sx w w5 [(.blk gR #[.bool false, .slice none 0 0, .slice none 0 0] 28), (.blk gB #[.bool b, .slice Ab1 lb1.length cb1, .slice Ab2 lb2.length cb2] 28), (.blk gK #[.bool a, .slice Aa1 la1.length ca1, .slice Aa2 la2.length ca2] 28)]) := Aside0.mk (HS.out.step hb5); clear HS; have HS := nS; clear nS hb5) | ((with_reducible refine gate_dst (N := 30) rfl ?_); refine wpList_load_row rfl 28 (.tmp 3) rfl gK rfl 28 #[.bool a, .slice Aa1 la1.length ca1, .slice Aa2 la2.length ca2] (0, 0) _ (HS.out.blk 2 rfl) Try.underlying28 rfl (by kernel_rfl) ?_) | (go_at_call 71; refine (spec_l5List.calls a Aa1 ca1 la1 Aa2 ca2 la2 0 _ (Kd.C_below Ha1.out HS.out.below) Ka1.out (Kd.C_below Ha2.out HS.out.below) Ka2.out HLO.out).mono ?_; rintro e w6 ⟨rfl, hb6⟩; have nS : Aside0 (Sx w w6 [(.blk gR #[.bool false, .slice none 0 0, .slice none 0 0] 28), (.blk gB #[.bool b, .slice Ab1 lb1.length cb1, .slice Ab2 lb2.length cb2] 28), (.blk gK #[.bool a, .slice Aa1 la1.length ca1, .slice Aa2 la2.length ca2] 28)]) := Aside0.mk (HS.out.step hb6); clear HS; have HS := nS; clear nS hb6) | ((with_reducible refine gate_dst (N := 37) rfl ?_); refine ev_load rfl 22 (.tmp 36) rfl ⟨gB, 1, none⟩ rfl (.slice Ab1 lb1.length cb1) ((blk_cell (HS.out.blk 1 rfl) 1).trans rfl) (by kernel_rfl) ?_))
  go_cut [39] from 36 to 39 (fun s39 wx => s39 = .bool zq ∧ Aside0 (Sx w wx [(.blk gR #[.bool false, .slice none 0 0, .slice none 0 0] 28), (.blk gB #[.bool b, .slice Ab1 lb1.length cb1, .slice Ab2 lb2.length cb2] 28), (.blk gK #[.bool a, .slice Aa1 la1.length ca1, .slice Aa2 la2.length ca2] 28)]))
  case first =>
    by_cases y1 : lb1.length = 0
    · have E39 := Aside0.mk (show zq = true by rw [HZQ.out, decide_eq_true y1])
      have t1 : ((lb1.length : Int) == 0) = true := beq_iff_eq.mpr (by omega)
      have u1_ : (lb1.length == 0) = true := beq_iff_eq.mpr y1
      have u1_d : decide (lb1.length = 0) = true := decide_eq_true y1
      clear y1
      go_wp2_with (first | ((with_reducible refine gate_dst (N := 3) rfl ?_); refine box_event ?hg (N := 3) ?hd (cs := #[.bool a, .slice Aa1 la1.length ca1, .slice Aa2 la2.length ca2]) (t := 28) ?hr ?_; (case hd => rfl); (case hg => rfl); (case hr => first | (go_simp; done) | (go_simp; rfl)); intro gK hg1 w1 hx1 hb1; have nS : Aside0 (Sx w w1 [(.blk gK #[.bool a, .slice Aa1 la1.length ca1, .slice Aa2 la2.length ca2] 28)]) := Aside0.mk (HS.out.box hg1 hx1 hb1); clear HS; have HS := nS; clear nS hg1 hx1 hb1) | ((with_reducible refine gate_dst (N := 4) rfl ?_); refine box_event ?hg (N := 4) ?hd (cs := #[.bool b, .slice Ab1 lb1.length cb1, .slice Ab2 lb2.length cb2]) (t := 28) ?hr ?_; (case hd => rfl); (case hg => rfl); (case hr => first | (go_simp; done) | (go_simp; rfl)); intro gB hg2 w2 hx2 hb2; have nS : Aside0 (Sx w w2 [(.blk gB #[.bool b, .slice Ab1 lb1.length cb1, .slice Ab2 lb2.length cb2] 28), (.blk gK #[.bool a, .slice Aa1 la1.length ca1, .slice Aa2 la2.length ca2] 28)]) := Aside0.mk (HS.out.box hg2 hx2 hb2); clear HS; have HS := nS; clear nS hg2 hx2 hb2) | ((with_reducible refine gate_dst (N := 6) rfl ?_); refine box_event ?hg (N := 6) ?hd (cs := #[.bool false, .slice none 0 0, .slice none 0 0]) (t := 28) ?hr ?_; (case hd => rfl); (case hg => rfl); (case hr => first | (go_simp; done) | (go_simp; rfl)); intro gR hg3 w3 hx3 hb3; have nS : Aside0 (Sx w w3 [(.blk gR #[.bool false, .slice none 0 0, .slice none 0 0] 28), (.blk gB #[.bool b, .slice Ab1 lb1.length cb1, .slice Ab2 lb2.length cb2] 28), (.blk gK #[.bool a, .slice Aa1 la1.length ca1, .slice Aa2 la2.length ca2] 28)]) := Aside0.mk (HS.out.box hg3 hx3 hb3); clear HS; have HS := nS; clear nS hg3 hx3 hb3) | ((with_reducible refine gate_dst (N := 21) rfl ?_); refine wpList_load_row rfl 28 (.tmp 3) rfl gK rfl 28 #[.bool a, .slice Aa1 la1.length ca1, .slice Aa2 la2.length ca2] (0, 0) _ (HS.out.blk 2 rfl) Try.underlying28 rfl (by kernel_rfl) ?_) | (go_at_call 47; with_reducible refine (spec_ArrayOk.calls ka a Aa1 ca1 la1 Aa2 ca2 la2 true _ (Kd.C_below Ha1.out HS.out.below) Ka1.out (Kd.C_below Ha2.out HS.out.below) Ka2.out HVa.out).mono ?_; rintro e w4 ⟨rfl, hb4⟩; have nS : Aside0 (Sx w w4 [(.blk gR #[.bool false, .slice none 0 0, .slice none 0 0] 28), (.blk gB #[.bool b, .slice Ab1 lb1.length cb1, .slice Ab2 lb2.length cb2] 28), (.blk gK #[.bool a, .slice Aa1 la1.length ca1, .slice Aa2 la2.length ca2] 28)]) := Aside0.mk (HS.out.step hb4); clear HS; have HS := nS; clear nS hb4) | ((with_reducible refine wpList_guardedB ?hw ?_); (case hw => first | rfl | (go_simp; done))) | ((with_reducible refine gate_dst (N := 25) rfl ?_); refine wpList_load_row rfl 28 (.tmp 4) rfl gB rfl 28 #[.bool b, .slice Ab1 lb1.length cb1, .slice Ab2 lb2.length cb2] (0, 0) _ (HS.out.blk 1 rfl) Try.underlying28 rfl (by kernel_rfl) ?_) | (go_at_call 47; with_reducible refine (spec_ArrayOk.calls kb b Ab1 cb1 lb1 Ab2 cb2 lb2 true _ (Kd.C_below Hb1.out HS.out.below) Kb1.out (Kd.C_below Hb2.out HS.out.below) Kb2.out HVb.out).mono ?_; rintro e w5 ⟨rfl, hb5⟩; have nS : Aside0 (Sx w w5 [(.blk gR #[.bool false, .slice none 0 0, .slice none 0 0] 28), (.blk gB #[.bool b, .slice Ab1 lb1.length cb1, .slice Ab2 lb2.length cb2] 28), (.blk gK #[.bool a, .slice Aa1 la1.length ca1, .slice Aa2 la2.length ca2] 28)]) := Aside0.mk (HS.out.step hb5); clear HS; have HS := nS; clear nS hb5) | ((with_reducible refine gate_dst (N := 30) rfl ?_); refine wpList_load_row rfl 28 (.tmp 3) rfl gK rfl 28 #[.bool a, .slice Aa1 la1.length ca1, .slice Aa2 la2.length ca2] (0, 0) _ (HS.out.blk 2 rfl) Try.underlying28 rfl (by kernel_rfl) ?_) | (go_at_call 71; refine (spec_l5List.calls a Aa1 ca1 la1 Aa2 ca2 la2 0 _ (Kd.C_below Ha1.out HS.out.below) Ka1.out (Kd.C_below Ha2.out HS.out.below) Ka2.out HLO.out).mono ?_; rintro e w6 ⟨rfl, hb6⟩; have nS : Aside0 (Sx w w6 [(.blk gR #[.bool false, .slice none 0 0, .slice none 0 0] 28), (.blk gB #[.bool b, .slice Ab1 lb1.length cb1, .slice Ab2 lb2.length cb2] 28), (.blk gK #[.bool a, .slice Aa1 la1.length ca1, .slice Aa2 la2.length ca2] 28)]) := Aside0.mk (HS.out.step hb6); clear HS; have HS := nS; clear nS hb6) | ((with_reducible refine gate_dst (N := 37) rfl ?_); refine ev_load rfl 22 (.tmp 36) rfl ⟨gB, 1, none⟩ rfl (.slice Ab1 lb1.length cb1) ((blk_cell (HS.out.blk 1 rfl) 1).trans rfl) (by kernel_rfl) ?_))
      go_meet
      case rel => exact ⟨by first | (rw [E39.out]; done) | (rw [E39.out, u1_d]), HS⟩
    · have E39 := Aside0.mk (show zq = false by rw [HZQ.out, decide_eq_false y1])
      have t1 : ((lb1.length : Int) == 0) = false := beq_eq_false_iff_ne.mpr (by omega)
      have u1_ : (lb1.length == 0) = false := beq_eq_false_iff_ne.mpr y1
      have u1_d : decide (lb1.length = 0) = false := decide_eq_false y1
      have u1_p : ¬ lb1.length = 0 := y1
      clear y1
      go_wp2_with (first | ((with_reducible refine gate_dst (N := 3) rfl ?_); refine box_event ?hg (N := 3) ?hd (cs := #[.bool a, .slice Aa1 la1.length ca1, .slice Aa2 la2.length ca2]) (t := 28) ?hr ?_; (case hd => rfl); (case hg => rfl); (case hr => first | (go_simp; done) | (go_simp; rfl)); intro gK hg1 w1 hx1 hb1; have nS : Aside0 (Sx w w1 [(.blk gK #[.bool a, .slice Aa1 la1.length ca1, .slice Aa2 la2.length ca2] 28)]) := Aside0.mk (HS.out.box hg1 hx1 hb1); clear HS; have HS := nS; clear nS hg1 hx1 hb1) | ((with_reducible refine gate_dst (N := 4) rfl ?_); refine box_event ?hg (N := 4) ?hd (cs := #[.bool b, .slice Ab1 lb1.length cb1, .slice Ab2 lb2.length cb2]) (t := 28) ?hr ?_; (case hd => rfl); (case hg => rfl); (case hr => first | (go_simp; done) | (go_simp; rfl)); intro gB hg2 w2 hx2 hb2; have nS : Aside0 (Sx w w2 [(.blk gB #[.bool b, .slice Ab1 lb1.length cb1, .slice Ab2 lb2.length cb2] 28), (.blk gK #[.bool a, .slice Aa1 la1.length ca1, .slice Aa2 la2.length ca2] 28)]) := Aside0.mk (HS.out.box hg2 hx2 hb2); clear HS; have HS := nS; clear nS hg2 hx2 hb2) | ((with_reducible refine gate_dst (N := 6) rfl ?_); refine box_event ?hg (N := 6) ?hd (cs := #[.bool false, .slice none 0 0, .slice none 0 0]) (t := 28) ?hr ?_; (case hd => rfl); (case hg => rfl); (case hr => first | (go_simp; done) | (go_simp; rfl)); intro gR hg3 w3 hx3 hb3; have nS : Aside0 (Sx w w3 [(.blk gR #[.bool false, .slice none 0 0, .slice none 0 0] 28), (.blk gB #[.bool b, .slice Ab1 lb1.length cb1, .slice Ab2 lb2.length cb2] 28), (.blk gK #[.bool a, .slice Aa1 la1.length ca1, .slice Aa2 la2.length ca2] 28)]) := Aside0.mk (HS.out.box hg3 hx3 hb3); clear HS; have HS := nS; clear nS hg3 hx3 hb3) | ((with_reducible refine gate_dst (N := 21) rfl ?_); refine wpList_load_row rfl 28 (.tmp 3) rfl gK rfl 28 #[.bool a, .slice Aa1 la1.length ca1, .slice Aa2 la2.length ca2] (0, 0) _ (HS.out.blk 2 rfl) Try.underlying28 rfl (by kernel_rfl) ?_) | (go_at_call 47; with_reducible refine (spec_ArrayOk.calls ka a Aa1 ca1 la1 Aa2 ca2 la2 true _ (Kd.C_below Ha1.out HS.out.below) Ka1.out (Kd.C_below Ha2.out HS.out.below) Ka2.out HVa.out).mono ?_; rintro e w4 ⟨rfl, hb4⟩; have nS : Aside0 (Sx w w4 [(.blk gR #[.bool false, .slice none 0 0, .slice none 0 0] 28), (.blk gB #[.bool b, .slice Ab1 lb1.length cb1, .slice Ab2 lb2.length cb2] 28), (.blk gK #[.bool a, .slice Aa1 la1.length ca1, .slice Aa2 la2.length ca2] 28)]) := Aside0.mk (HS.out.step hb4); clear HS; have HS := nS; clear nS hb4) | ((with_reducible refine wpList_guardedB ?hw ?_); (case hw => first | rfl | (go_simp; done))) | ((with_reducible refine gate_dst (N := 25) rfl ?_); refine wpList_load_row rfl 28 (.tmp 4) rfl gB rfl 28 #[.bool b, .slice Ab1 lb1.length cb1, .slice Ab2 lb2.length cb2] (0, 0) _ (HS.out.blk 1 rfl) Try.underlying28 rfl (by kernel_rfl) ?_) | (go_at_call 47; with_reducible refine (spec_ArrayOk.calls kb b Ab1 cb1 lb1 Ab2 cb2 lb2 true _ (Kd.C_below Hb1.out HS.out.below) Kb1.out (Kd.C_below Hb2.out HS.out.below) Kb2.out HVb.out).mono ?_; rintro e w5 ⟨rfl, hb5⟩; have nS : Aside0 (Sx w w5 [(.blk gR #[.bool false, .slice none 0 0, .slice none 0 0] 28), (.blk gB #[.bool b, .slice Ab1 lb1.length cb1, .slice Ab2 lb2.length cb2] 28), (.blk gK #[.bool a, .slice Aa1 la1.length ca1, .slice Aa2 la2.length ca2] 28)]) := Aside0.mk (HS.out.step hb5); clear HS; have HS := nS; clear nS hb5) | ((with_reducible refine gate_dst (N := 30) rfl ?_); refine wpList_load_row rfl 28 (.tmp 3) rfl gK rfl 28 #[.bool a, .slice Aa1 la1.length ca1, .slice Aa2 la2.length ca2] (0, 0) _ (HS.out.blk 2 rfl) Try.underlying28 rfl (by kernel_rfl) ?_) | (go_at_call 71; refine (spec_l5List.calls a Aa1 ca1 la1 Aa2 ca2 la2 0 _ (Kd.C_below Ha1.out HS.out.below) Ka1.out (Kd.C_below Ha2.out HS.out.below) Ka2.out HLO.out).mono ?_; rintro e w6 ⟨rfl, hb6⟩; have nS : Aside0 (Sx w w6 [(.blk gR #[.bool false, .slice none 0 0, .slice none 0 0] 28), (.blk gB #[.bool b, .slice Ab1 lb1.length cb1, .slice Ab2 lb2.length cb2] 28), (.blk gK #[.bool a, .slice Aa1 la1.length ca1, .slice Aa2 la2.length ca2] 28)]) := Aside0.mk (HS.out.step hb6); clear HS; have HS := nS; clear nS hb6) | ((with_reducible refine gate_dst (N := 37) rfl ?_); refine ev_load rfl 22 (.tmp 36) rfl ⟨gB, 1, none⟩ rfl (.slice Ab1 lb1.length cb1) ((blk_cell (HS.out.blk 1 rfl) 1).trans rfl) (by kernel_rfl) ?_))
      go_meet
      case rel => exact ⟨by first | (rw [E39.out]; done) | (rw [E39.out, u1_d]), HS⟩
  clear HS
  obtain ⟨e39, HS⟩ := hcut
  subst e39
  go_upto_if 39 with fail
  go_cut [] from 40 to 41 (fun wx => ∃ Bs ds Bd dd, Kd.C (Kd.int .i64) wx Bs L1.length L1 ∧ L1.length ≤ ds ∧ Kd.C (Kd.int .i64) wx Bd lb2.length lb2 ∧ lb2.length ≤ dd ∧ Aside0 (Sx w wx [(.blk gR #[.bool false, .slice none 0 0, .slice none 0 0] 28), (.blk gB #[.bool b, .slice Bs L1.length ds, .slice Bd lb2.length dd] 28), (.blk gK #[.bool a, .slice Aa1 la1.length ca1, .slice Aa2 la2.length ca2] 28)]))
  case first =>
    by_cases y1 : lb1.length = 0
    · have eq_ : zq = true := by rw [HZQ.out, decide_eq_true y1]
      clear HZQ
      subst eq_
      have e_ : L1 = lb1 ++ [1] := by rw [HL1.out, if_pos y1]
      have HWD := Aside0.mk (show WBesOk #[.agg #[.bool b, .slice Ab1 lb1.length cb1, .slice Ab2 lb2.length cb2]] b L1 lb2 w by rw [e_]; exact wbesOk b Ab1 cb1 lb1 Ab2 cb2 lb2 w Hb1.out Kb1.out Hb2.out Kb2.out (by omega))
      clear HL1 y1 e_
      go_wp2_with (first | ((with_reducible refine gate_dst (N := 40) rfl ?_); refine wpList_load_row rfl 28 (.tmp 4) rfl gB rfl 28 #[.bool b, .slice Ab1 lb1.length cb1, .slice Ab2 lb2.length cb2] (0, 0) _ (HS.out.blk 1 rfl) Try.underlying28 rfl (by kernel_rfl) ?_) | (go_at_call 85; refine (HWD.out.go _ HS.out.below).mono ?_; rintro e wp7 ⟨Bs, ds, Bd, dd, rfl, hCB1, hKB1, hCB2, hKB2, hbp7⟩; have CB1 := Aside0.mk hCB1; have KB1 := Aside0.mk hKB1; have CB2 := Aside0.mk hCB2; have KB2 := Aside0.mk hKB2; clear hCB1 hKB1 hCB2 hKB2; have nS : Aside0 (Sx w wp7 [(.blk gR #[.bool false, .slice none 0 0, .slice none 0 0] 28), (.blk gB #[.bool b, .slice Ab1 lb1.length cb1, .slice Ab2 lb2.length cb2] 28), (.blk gK #[.bool a, .slice Aa1 la1.length ca1, .slice Aa2 la2.length ca2] 28)]) := Aside0.mk (HS.out.step hbp7); clear HS; have HS := nS; clear nS hbp7) | ((with_reducible refine gate_store rfl ?_); refine store_named rfl 28 (.tmp 4) (.tmp 41) rfl gB #[.bool b, .slice Bs L1.length ds, .slice Bd lb2.length dd] rfl rfl 28 #[.bool b, .slice Ab1 lb1.length cb1, .slice Ab2 lb2.length cb2] (HS.out.blk 1 rfl) (by kernel_rfl) rfl (by simp [Value.oneCell']) ?_; intro wp8 hxp8 hbp8; have nCB1 := Aside0.mk (C_but1 CB1.out hbp8 (HS.out.blk 1 rfl) (noInt_A _ _ _ _ _ _ _)); clear CB1; have CB1 := nCB1; clear nCB1; have nCB2 := Aside0.mk (C_but1 CB2.out hbp8 (HS.out.blk 1 rfl) (noInt_A _ _ _ _ _ _ _)); clear CB2; have CB2 := nCB2; clear nCB2; have nS : Aside0 (Sx w wp8 [(.blk gR #[.bool false, .slice none 0 0, .slice none 0 0] 28), (.blk gB #[.bool b, .slice Bs L1.length ds, .slice Bd lb2.length dd] 28), (.blk gK #[.bool a, .slice Aa1 la1.length ca1, .slice Aa2 la2.length ca2] 28)]) := Aside0.mk (HS.out.put 1 rfl hxp8 hbp8); clear HS; have HS := nS; clear nS hxp8 hbp8))
      go_meet
      case rel => exact ⟨Bs, ds, Bd, dd, CB1.out, KB1.out, CB2.out, KB2.out, HS⟩
    · have eq_ : zq = false := by rw [HZQ.out, decide_eq_false y1]
      clear HZQ
      subst eq_
      have e_ : L1 = lb1 := by rw [HL1.out, if_neg y1]
      subst L1
      clear HL1 y1
      go_wp2
      go_meet
      case rel => exact ⟨Ab1, cb1, Ab2, cb2, (Kd.C_below Hb1.out HS.out.below), Kb1.out, (Kd.C_below Hb2.out HS.out.below), Kb2.out, HS⟩
  clear HS
  obtain ⟨Bs, ds, Bd, dd, hCB1, hKB1, hCB2, hKB2, HS⟩ := hcut
  generalize wc = wz7 at *
  have CB1 := Aside0.mk hCB1
  have KB1 := Aside0.mk hKB1
  have CB2 := Aside0.mk hCB2
  have KB2 := Aside0.mk hKB2
  clear hCB1 hKB1 hCB2 hKB2
  have HB0 := Aside0.mk HS.out.below
  have HGR := Aside0.mk (HS.out.get 0 rfl).2
  have HRB := Aside0.mk (HS.out.blk 0 rfl)
  have HBB := Aside0.mk (HS.out.blk 1 rfl)
  have HKB := Aside0.mk (HS.out.blk 2 rfl)
  have HGL := Aside0.mk (blk_lt HRB.out)
  have CA2 := Aside0.mk (Kd.C_below Ha2.out HB0.out)
  clear HS
  have HS := Aside0.mk (Sx.start wz7)
  go_upto_region 10 with (first | ((with_reducible refine gate_dst (N := 44) rfl ?_); refine ev_load rfl 22 (.tmp 43) rfl ⟨gB, 1, none⟩ rfl (.slice Bs L1.length ds) ((blk_cell (blk_below HBB.out HS.out.below) 1).trans rfl) (by kernel_rfl) ?_) | (go_at_call 82; refine (spec_l4Axis.calls kA Bs ds L1 first (bN : Int) (n : Int) (aN : Int) _ (Kd.C_below CB1.out HS.out.below) KB1.out HAX.out).mono ?_; rintro e we1 ⟨rfl, hde1⟩; have hbe1 := Drawn0.below hde1; clear hde1; have nS : Aside0 (Sx wz7 we1 []) := Aside0.mk (HS.out.step hbe1); clear HS; have HS := nS; clear nS hbe1))
  go_cut [52] from 51 to 52 (fun s52 wx => s52 = .bool n1 ∧ Aside0 (Sx wz7 wx []))
  case first =>
    by_cases h1 : n = 1
    · have E52 := Aside0.mk (show n1 = true by rw [HN1.out, decide_eq_true h1])
      have f1 : (((n : Int) : Int) == 1) = true := beq_iff_eq.mpr (by omega)
      have f1n : (((n : Int) : Int) != 1) = false := by rw [bne, f1]; rfl
      have f1d : decide (n = 1) = true := decide_eq_true h1
      have f1e : decide ((n : Int) = 1) = true := decide_eq_true (by omega)
      clear h1
      go_wp2
      go_meet
      case rel => exact ⟨by first | (rw [E52.out]; done) | (rw [E52.out, f1d]) | (rw [E52.out, f1e]), HS⟩
    · have E52 := Aside0.mk (show n1 = false by rw [HN1.out, decide_eq_false h1])
      have f1 : (((n : Int) : Int) == 1) = false := beq_eq_false_iff_ne.mpr (by omega)
      have f1n : (((n : Int) : Int) != 1) = true := by rw [bne, f1]; rfl
      have f1d : decide (n = 1) = false := decide_eq_false h1
      have f1e : decide ((n : Int) = 1) = false := decide_eq_false (by omega)
      have f1p : ¬ n = 1 := by omega
      clear h1
      go_wp2
      go_meet
      case rel => exact ⟨by first | (rw [E52.out]; done) | (rw [E52.out, f1d]) | (rw [E52.out, f1e]), HS⟩
  clear HS
  obtain ⟨e52, HS⟩ := hcut
  subst e52
  go_upto_if 52 with fail
  go_cut [12] from 53 to 66 (fun s12 wx => s12 = .int .i64 (m : Int) ∧ Aside0 (Sx wz7 wx []))
  case first =>
    by_cases h1 : n = 1
    · have e_ : n1 = true := by rw [HN1.out, decide_eq_true h1]
      clear HN1
      subst e_
      have em := HM1.out h1
      have EM := Aside0.mk em
      clear em h1
      go_wp2_with (first | ((with_reducible refine gate_dst (N := 54) rfl ?_); refine ev_load rfl 22 (.tmp 53) rfl ⟨gK, 2, none⟩ rfl (.slice Aa2 la2.length ca2) ((blk_cell (blk_below HKB.out HS.out.below) 2).trans rfl) (by kernel_rfl) ?_))
      go_meet
      case rel => exact ⟨by rw [EM.out], HS⟩
    · have e_ : n1 = false := by rw [HN1.out, decide_eq_false h1]
      clear HN1
      subst e_
      have EM := Aside0.mk (HM2.out h1)
      by_cases h2 : la2.length = 1
      · have f2 : (((la2.length : Int) : Int) == 1) = true := beq_iff_eq.mpr (by omega)
        have f2n : (((la2.length : Int) : Int) != 1) = false := by rw [bne, f2]; rfl
        have f2d : (la2.length == 1) = true := beq_iff_eq.mpr h2
        have f2e : decide (la2.length = 1) = true := decide_eq_true h2
        clear h1 h2
        go_wp2_with (first | ((with_reducible refine wpList_guardedB ?hw ?_); (case hw => first | rfl | (go_simp; done))) | ((with_reducible refine gate_dst (N := 57) rfl ?_); refine ev_load rfl 22 (.tmp 56) rfl ⟨gK, 2, none⟩ rfl (.slice Aa2 la2.length ca2) ((blk_cell (blk_below HKB.out HS.out.below) 2).trans rfl) (by kernel_rfl) ?_) | ((with_reducible refine gate_dst (N := 62) rfl ?_); refine ev_load rfl 22 (.tmp 61) rfl ⟨gK, 2, none⟩ rfl (.slice Aa2 la2.length ca2) ((blk_cell (blk_below HKB.out HS.out.below) 2).trans rfl) (by kernel_rfl) ?_))
        go_meet
        case rel => exact ⟨by rw [EM.out], HS⟩
      · have h3 : la2.length = n := by rcases HWAY.out with h | h | h <;> omega
        have f2 : (((la2.length : Int) : Int) == 1) = false := beq_eq_false_iff_ne.mpr (by omega)
        have f2n : (((la2.length : Int) : Int) != 1) = true := by rw [bne, f2]; rfl
        have f2p : ¬ la2.length = 1 := by omega
        have f3 : (((la2.length : Int) : Int) == (n : Int)) = true := beq_iff_eq.mpr (by omega)
        have f3n : (((la2.length : Int) : Int) != (n : Int)) = false := by rw [bne, f3]; rfl
        clear h1 h2 h3
        go_wp2_with (first | ((with_reducible refine wpList_guardedB ?hw ?_); (case hw => first | rfl | (go_simp; done))) | ((with_reducible refine gate_dst (N := 57) rfl ?_); refine ev_load rfl 22 (.tmp 56) rfl ⟨gK, 2, none⟩ rfl (.slice Aa2 la2.length ca2) ((blk_cell (blk_below HKB.out HS.out.below) 2).trans rfl) (by kernel_rfl) ?_) | ((with_reducible refine gate_dst (N := 62) rfl ?_); refine ev_load rfl 22 (.tmp 61) rfl ⟨gK, 2, none⟩ rfl (.slice Aa2 la2.length ca2) ((blk_cell (blk_below HKB.out HS.out.below) 2).trans rfl) (by kernel_rfl) ?_))
        go_meet
        case rel => exact ⟨by rw [EM.out], HS⟩
  clear HS HN1 HM1 HM2
  obtain ⟨e12, HS⟩ := hcut
  subst e12
  go_wp2
  go_loopw [14] (fun zz wr => ∃ j : Nat, zz = .int .i64 (j : Int) ∧ Aside0 (j ≤ la2.length) ∧ Aside0 (∀ i : Nat, i < j → 0 ≤ rd la2 (i : Int)) ∧ Aside0 (Sx wz7 wr [])) (fun zz _ => la2.length - (intOf zz).toNat)
  case atStart => exact ⟨0, rfl, ⟨Nat.zero_le _⟩, ⟨fun i h => absurd h (by omega)⟩, HS⟩
  case round =>
    clear HS
    obtain ⟨j, rfl, hj, HA, HS⟩ := hrel
    by_cases hlt : j < la2.length
    · have h5_ := HLEN.out
      obtain ⟨ad, rfl, y1⟩ := Kd.at_int CA2.out (j : Int) (by omega) (by omega)
      clear y1
      obtain ⟨x_, hX⟩ : ∃ x, rd la2 (j : Int) = x := ⟨_, rfl⟩
      have HX := Aside0.mk hX
      have p1 : (j : Int) < (la2.length : Int) := by omega
      have p0 : 0 ≤ (j : Int) := by omega
      have yy : wr.cell? (ad.add j) = some (.int .i64 x_) := (C_at (Kd.C_below CA2.out HS.out.below) j hlt).trans (by rw [HX.out])
      have w1 : IntKind.i64.wrap ((j : Int) + 1) = ((j + 1 : Nat) : Int) := by rw [IntWalk.i64_in _ (by omega)]; omega
      clear h5_ hX
      by_cases hneg : x_ < 0
      · have n_1 : decide (x_ < 0) = true := decide_eq_true hneg
        have HG := Aside0.mk hneg
        obtain ⟨e1_, e2_, e3_, e4_⟩ := HNEG.out j hlt (by rw [HX.out]; exact HG.out)
        subst e1_ e2_ e3_ e4_
        clear hneg w1
        go_wp2_with (first | ((with_reducible refine gate_dst (N := 70) rfl ?_); refine ev_load rfl 22 (.tmp 69) rfl ⟨gK, 2, none⟩ rfl (.slice (some ad) la2.length ca2) ((blk_cell (blk_below HKB.out HS.out.below) 2).trans rfl) (by kernel_rfl) ?_) | ((with_reducible refine gate_dst (N := 76) rfl ?_); refine ev_load rfl 22 (.tmp 75) rfl ⟨gK, 2, none⟩ rfl (.slice (some ad) la2.length ca2) ((blk_cell (blk_below HKB.out HS.out.below) 2).trans rfl) (by kernel_rfl) ?_) | (go_at_call 53; refine (spec_l4None.calls false [] [] _ rfl).mono ?_; rintro e wg1 ⟨v1g1, v2g1, rfl, hr1g1, hr2g1, hbg1⟩; obtain ⟨AS, cS, hv_⟩ := Kd.R_slice hr1g1; subst hv_; obtain ⟨AD, cD, hv_⟩ := Kd.R_slice hr2g1; subst hv_; have nS : Aside0 (Sx wz7 wg1 [(.row (.slice AS ([] : List Int).length cS) []), (.row (.slice AD ([] : List Int).length cD) [])]) := Aside0.mk (HS.out.addRow2 hbg1 hr1g1 hr2g1); clear HS; have HS := nS; clear nS hbg1 hr1g1 hr2g1) | ((with_reducible refine gate_store rfl ?_); refine store_named rfl 28 (.tmp 6) (.tmp 81) rfl gR #[.bool false, .slice AS ([] : List Int).length cS, .slice AD ([] : List Int).length cD] rfl rfl 28 #[.bool false, .slice none 0 0, .slice none 0 0] (blk_below HRB.out HS.out.below) (by kernel_rfl) rfl (by simp [Value.oneCell']) ?_; intro wF hxF hbF; have HXF := Aside0.mk hxF; have HBF := Aside0.mk hbF; clear hxF hbF))
        have R_ := HS.out.two_but 0 1 (by decide) rfl rfl HBF.out HGL.out w.heap.size HB0.out.size
        refine bodyPost_ret (results_ct rfl _ _ gR 28 #[.bool false, .slice AS ([] : List Int).length cS, .slice AD ([] : List Int).length cD] (0, 0) _ rfl HXF.out Try.underlying28 rfl (by kernel_rfl)) rfl ?_
        exact ⟨_, _, rfl, R_.1, R_.2, (below_step HB0.out HS.out.below).trans (HBF.out.below _ HGR.out)⟩
      · have n_1 : decide (x_ < 0) = false := decide_eq_false hneg
        go_wp2_with (first | ((with_reducible refine gate_dst (N := 70) rfl ?_); refine ev_load rfl 22 (.tmp 69) rfl ⟨gK, 2, none⟩ rfl (.slice (some ad) la2.length ca2) ((blk_cell (blk_below HKB.out HS.out.below) 2).trans rfl) (by kernel_rfl) ?_) | ((with_reducible refine gate_dst (N := 76) rfl ?_); refine ev_load rfl 22 (.tmp 75) rfl ⟨gK, 2, none⟩ rfl (.slice (some ad) la2.length ca2) ((blk_cell (blk_below HKB.out HS.out.below) 2).trans rfl) (by kernel_rfl) ?_))
        go_roundw
        case rel => exact ⟨j + 1, (by first | rfl | (push_cast; rfl)), ⟨by omega⟩, ⟨fun i hi => by
          by_cases e : i = j
          · subst e; rw [HX.out]; omega
          · exact HA.out i (by omega)⟩, HS⟩
        case measure => simp [intOf]; omega
    · have HNN := Aside0.mk (fun (i : Nat) (hi : i < la2.length) => HA.out i (by have := hj.out; omega))
      clear HNEG HA
      have p1 : ¬ (j : Int) < (la2.length : Int) := by omega
      clear hlt hj
      go_wp2_with (first | ((with_reducible refine gate_dst (N := 70) rfl ?_); refine ev_load rfl 22 (.tmp 69) rfl ⟨gK, 2, none⟩ rfl (.slice Aa2 la2.length ca2) ((blk_cell (blk_below HKB.out HS.out.below) 2).trans rfl) (by kernel_rfl) ?_))
      clear p1
      go_loopw [13, 15] (fun ss zz wr => ∃ j : Nat, zz = .int .i64 (j : Int) ∧ ss = .int .i64 (sumS la2 j) ∧ Aside0 (j ≤ m) ∧ Aside0 (0 ≤ sumS la2 j ∧ sumS la2 j ≤ 10000) ∧ Aside0 (Sx wz7 wr [])) (fun _ zz _ => m - (intOf zz).toNat)
      case atStart => exact ⟨0, rfl, rfl, ⟨Nat.zero_le _⟩, ⟨by simp [sumS]⟩, HS⟩
      case round =>
        clear HS
        obtain ⟨j, rfl, rfl, hj, HSU, HS⟩ := hrel
        by_cases hlt : j < m
        · have hlen_ := HLEN.out
          have hl0 := HML.out (by omega)
          have hixl : j % la2.length < la2.length := Nat.mod_lt _ hl0
          have hr1 := rem_nat j la2.length
          have hr2 : (j : Int) % (la2.length : Int) = ((j % la2.length : Nat) : Int) := rfl
          obtain ⟨ix, hix⟩ : ∃ q, j % la2.length = q := ⟨_, rfl⟩
          rw [hix] at hixl hr1 hr2
          have HIX := Aside0.mk hix
          obtain ⟨ad, rfl, y1⟩ := Kd.at_int CA2.out (ix : Int) (by omega) (by omega)
          clear y1
          have hx_ := HNN.out ix hixl
          have hx2 := (HRK.out _ (rd_memR la2 ix hixl)).2
          obtain ⟨x_, hX⟩ : ∃ x, rd la2 (ix : Int) = x := ⟨_, rfl⟩
          have HX := Aside0.mk hX
          rw [hX] at hx_ hx2
          have p2 : 0 ≤ (ix : Int) := by omega
          have p3 : (ix : Int) < (la2.length : Int) := by omega
          have nz1 : ((la2.length : Int) == 0) = false := beq_eq_false_iff_ne.mpr (by omega)
          have nz2 : ¬ la2.length = 0 := by omega
          have HL0 := Aside0.mk hixl
          clear hlen_ hl0 hixl hix hX
          have hs_ := HSU.out
          obtain ⟨s_, hS_⟩ : ∃ u, sumS la2 j = u := ⟨_, rfl⟩
          have HS_ := Aside0.mk hS_
          rw [hS_] at hs_ ⊢
          have ws : IntKind.i64.wrap (s_ + x_) = s_ + x_ := IntWalk.i64_in _ (by omega)
          have p5 : (j : Int) < (m : Int) := by omega
          have w1 : IntKind.i64.wrap ((j : Int) + 1) = ((j + 1 : Nat) : Int) := by rw [IntWalk.i64_in _ (by have := HM.out; omega)]; omega
          have HSX := Aside0.mk (And.intro hs_ (And.intro hx_ hx2))
          clear hs_ hx_ hx2 hS_
          go_upto_region 23 with fail
          have nS := Aside0.mk HS.out.drew
          clear HS
          have HS := nS
          clear nS
          refine start_ (n := 12) (S := (fun w' => w'.cell? ⟨gK, 2, none⟩ = some (.slice (some ad) la2.length ca2) ∧ w'.cell? (ad.add ix) = some (.int .i64 x_))) (ds := []) #[false, false, false, false, false, false, false, false, false, false, false, false] (by kernel_rfl) rfl rfl ⟨(blk_cell (blk_below HKB.out HS.out.below) 2).trans rfl, (C_at (Kd.C_below CA2.out HS.out.below) ix HL0.out).trans (by rw [HX.out])⟩ (fun hHeld => ?_)
          refine pure_ (i := 0) (N := (some 87)) (v := ?_) (a' := ?_) #[true, false, false, false, false, false, false, false, false, false, false, false] rfl rfl (by kernel_rfl) (fun _ _ _ h => h) (Or.inl ⟨by rfl, ?_⟩) ?_ ?_
          rotate_left
          · intro w'
            go_simp
            with_reducible rfl
          rotate_left
          · simp only [Act.put, List.setIfInBounds_toArray, List.set_cons_zero, List.set_cons_succ]
            rfl
          refine pure_ (i := 1) (N := (some 88)) (v := ?_) (a' := ?_) #[true, true, false, false, false, false, false, false, false, false, false, false] rfl rfl (by kernel_rfl) (fun _ _ _ h => h) (Or.inl ⟨by rfl, ?_⟩) ?_ ?_
          rotate_left
          · intro w'
            go_simp
            with_reducible rfl
          rotate_left
          · simp only [Act.put, List.setIfInBounds_toArray, List.set_cons_zero, List.set_cons_succ]
            rfl
          refine take_ (i := 2) (N := (some 89)) (v := ?_) (a' := ?_) #[true, true, true, false, false, false, false, false, false, false, false, false] rfl rfl (by kernel_rfl) (fun _ _ _ h => h) (Or.inl ⟨by rfl, ?_⟩) hHeld ?_ ?_
          rotate_left
          · rintro w' ⟨s0, s1⟩
            go_simp
            with_reducible rfl
          rotate_left
          · simp only [Act.put, List.setIfInBounds_toArray, List.set_cons_zero, List.set_cons_succ]
            rfl
          refine pure_ (i := 3) (N := (some 90)) (v := ?_) (a' := ?_) #[true, true, true, true, false, false, false, false, false, false, false, false] rfl rfl (by kernel_rfl) (fun _ _ _ h => h) (Or.inl ⟨by rfl, ?_⟩) ?_ ?_
          rotate_left
          · intro w'
            go_simp
            with_reducible rfl
          rotate_left
          · simp only [Act.put, List.setIfInBounds_toArray, List.set_cons_zero, List.set_cons_succ]
            rfl
          refine pure_ (i := 4) (N := (some 91)) (v := ?_) (a' := ?_) #[true, true, true, true, true, false, false, false, false, false, false, false] rfl rfl (by kernel_rfl) (fun _ _ _ h => h) (Or.inl ⟨by rfl, ?_⟩) ?_ ?_
          rotate_left
          · intro w'
            go_simp
            with_reducible rfl
          rotate_left
          · simp only [Act.put, List.setIfInBounds_toArray, List.set_cons_zero, List.set_cons_succ]
            rfl
          refine take_ (i := 5) (N := (some 92)) (v := ?_) (a' := ?_) #[true, true, true, true, true, true, false, false, false, false, false, false] rfl rfl (by kernel_rfl) (fun _ _ _ h => h) (Or.inl ⟨by rfl, ?_⟩) hHeld ?_ ?_
          rotate_left
          · rintro w' ⟨s0, s1⟩
            go_simp
            with_reducible rfl
          rotate_left
          · simp only [Act.put, List.setIfInBounds_toArray, List.set_cons_zero, List.set_cons_succ]
            rfl
          refine pure_ (i := 6) (N := (some 93)) (v := ?_) (a' := ?_) #[true, true, true, true, true, true, true, false, false, false, false, false] rfl rfl (by kernel_rfl) (fun _ _ _ h => h) (Or.inl ⟨by rfl, ?_⟩) ?_ ?_
          rotate_left
          · intro w'
            go_simp
            with_reducible rfl
          rotate_left
          · simp only [Act.put, List.setIfInBounds_toArray, List.set_cons_zero, List.set_cons_succ]
            rfl
          refine pure_ (i := 7) (N := (some 94)) (v := ?_) (a' := ?_) #[true, true, true, true, true, true, true, true, false, false, false, false] rfl rfl (by kernel_rfl) (fun _ _ _ h => h) (Or.inl ⟨by rfl, ?_⟩) ?_ ?_
          rotate_left
          · intro w'
            go_simp
            with_reducible rfl
          rotate_left
          · simp only [Act.put, List.setIfInBounds_toArray, List.set_cons_zero, List.set_cons_succ]
            rfl
          refine pure_ (i := 8) (N := (some 95)) (v := ?_) (a' := ?_) #[true, true, true, true, true, true, true, true, true, false, false, false] rfl rfl (by kernel_rfl) (fun _ _ _ h => h) (Or.inl ⟨by rfl, ?_⟩) ?_ ?_
          rotate_left
          · intro w'
            go_simp
            with_reducible rfl
          rotate_left
          · simp only [Act.put, List.setIfInBounds_toArray, List.set_cons_zero, List.set_cons_succ]
            rfl
          refine take_ (i := 9) (N := (some 96)) (v := ?_) (a' := ?_) #[true, true, true, true, true, true, true, true, true, true, false, false] rfl rfl (by kernel_rfl) (fun _ _ _ h => h) (Or.inl ⟨by rfl, ?_⟩) hHeld ?_ ?_
          rotate_left
          · rintro w' ⟨s0, s1⟩
            go_simp
            with_reducible rfl
          rotate_left
          · simp only [Act.put, List.setIfInBounds_toArray, List.set_cons_zero, List.set_cons_succ]
            rfl
          refine pure_ (i := 10) (N := (some 97)) (v := ?_) (a' := ?_) #[true, true, true, true, true, true, true, true, true, true, true, false] rfl rfl (by kernel_rfl) (fun _ _ _ h => h) (Or.inl ⟨by rfl, ?_⟩) ?_ ?_
          rotate_left
          · intro w'
            go_simp
            with_reducible rfl
          rotate_left
          · simp only [Act.put, List.setIfInBounds_toArray, List.set_cons_zero, List.set_cons_succ]
            rfl
          refine pure_ (i := 11) (N := (some 13)) (v := ?_) (a' := ?_) #[true, true, true, true, true, true, true, true, true, true, true, true] rfl rfl (by kernel_rfl) (fun _ _ _ h => h) (Or.inl ⟨by rfl, ?_⟩) ?_ ?_
          rotate_left
          · intro w'
            go_simp
            with_reducible rfl
          rotate_left
          · simp only [Act.put, List.setIfInBounds_toArray, List.set_cons_zero, List.set_cons_succ]
            rfl
          refine done_ (by kernel_rfl) ?_
          go_simp
          by_cases hgt : s_ + x_ > 10000
          · have g1 : decide (s_ + x_ > 10000) = true := decide_eq_true hgt
            have g2 : 10000 < s_ + x_ := hgt
            obtain ⟨e1_, e2_, e3_, e4_⟩ := HSUM.out HNN.out (j + 1) (by omega) (by rw [sumS, HS_.out, HIX.out, HX.out]; exact hgt)
            subst e1_ e2_ e3_ e4_
            clear hgt w1
            go_wp2_with (first | (go_at_call 53; refine (spec_l4None.calls false [] [] _ rfl).mono ?_; rintro e wg1 ⟨v1g1, v2g1, rfl, hr1g1, hr2g1, hbg1⟩; obtain ⟨AS, cS, hv_⟩ := Kd.R_slice hr1g1; subst hv_; obtain ⟨AD, cD, hv_⟩ := Kd.R_slice hr2g1; subst hv_; have nS : Aside0 (Sx wz7 wg1 [(.row (.slice AS ([] : List Int).length cS) []), (.row (.slice AD ([] : List Int).length cD) [])]) := Aside0.mk (HS.out.addRow2 hbg1 hr1g1 hr2g1); clear HS; have HS := nS; clear nS hbg1 hr1g1 hr2g1) | ((with_reducible refine gate_store rfl ?_); refine store_named rfl 28 (.tmp 6) (.tmp 100) rfl gR #[.bool false, .slice AS ([] : List Int).length cS, .slice AD ([] : List Int).length cD] rfl rfl 28 #[.bool false, .slice none 0 0, .slice none 0 0] (blk_below HRB.out HS.out.below) (by kernel_rfl) rfl (by simp [Value.oneCell']) ?_; intro wF hxF hbF; have HXF := Aside0.mk hxF; have HBF := Aside0.mk hbF; clear hxF hbF))
            have R_ := HS.out.two_but 0 1 (by decide) rfl rfl HBF.out HGL.out w.heap.size HB0.out.size
            refine bodyPost_ret (results_ct rfl _ _ gR 28 #[.bool false, .slice AS ([] : List Int).length cS, .slice AD ([] : List Int).length cD] (0, 0) _ rfl HXF.out Try.underlying28 rfl (by kernel_rfl)) rfl ?_
            exact ⟨_, _, rfl, R_.1, R_.2, (below_step HB0.out HS.out.below).trans (HBF.out.below _ HGR.out)⟩
          · have g1 : decide (s_ + x_ > 10000) = false := decide_eq_false hgt
            have g2 : ¬ 10000 < s_ + x_ := by omega
            have HGT := Aside0.mk hgt
            clear hgt
            go_wp2
            go_roundw
            case rel => exact ⟨j + 1, (by first | rfl | (push_cast; rfl)), by rw [sumS, HS_.out, HIX.out, HX.out], ⟨by omega⟩, ⟨by rw [sumS, HS_.out, HIX.out, HX.out]; have := HSX.out; have := HGT.out; omega⟩, HS⟩
            case measure => simp [intOf]; omega
        · have er : j = m := by have := hj.out; omega
          subst j
          rw [HSM.out]
          have p5 : ¬ (m : Int) < (m : Int) := by omega
          clear hlt hj
          go_upto_region 26 with fail
          have nS := Aside0.mk HS.out.drew
          clear HS
          have HS := nS
          clear nS
          refine start_ (n := 9) (S := (fun w' => w'.cell? ⟨gB, 0, none⟩ = some (.bool b) ∧ w'.cell? ⟨gB, 1, none⟩ = some (.slice Bs L1.length ds))) (ds := [8]) #[false, false, false, false, false, false, false, false, false] (by kernel_rfl) rfl rfl ⟨(blk_cell (blk_below HBB.out HS.out.below) 0).trans rfl, (blk_cell (blk_below HBB.out HS.out.below) 1).trans rfl⟩ (fun hHeld => ?_)
          refine pure_ (i := 0) (N := (some 101)) (v := ?_) (a' := ?_) #[true, false, false, false, false, false, false, false, false] rfl rfl (by kernel_rfl) (fun _ _ _ h => h) (Or.inl ⟨by rfl, ?_⟩) ?_ ?_
          rotate_left
          · intro w'
            go_simp
            with_reducible rfl
          rotate_left
          · simp only [Act.put, List.setIfInBounds_toArray, List.set_cons_zero, List.set_cons_succ]
            rfl
          refine take_ (i := 1) (N := (some 102)) (v := ?_) (a' := ?_) #[true, true, false, false, false, false, false, false, false] rfl rfl (by kernel_rfl) (fun _ _ _ h => h) (Or.inl ⟨by rfl, ?_⟩) hHeld ?_ ?_
          rotate_left
          · rintro w' ⟨s0, s1⟩
            go_simp
            with_reducible rfl
          rotate_left
          · simp only [Act.put, List.setIfInBounds_toArray, List.set_cons_zero, List.set_cons_succ]
            rfl
          refine pure_ (i := 2) (N := (some 103)) (v := ?_) (a' := ?_) #[true, true, true, false, false, false, false, false, false] rfl rfl (by kernel_rfl) (fun _ _ _ h => h) (Or.inl ⟨by rfl, ?_⟩) ?_ ?_
          rotate_left
          · intro w'
            go_simp
            with_reducible rfl
          rotate_left
          · simp only [Act.put, List.setIfInBounds_toArray, List.set_cons_zero, List.set_cons_succ]
            rfl
          refine take_ (i := 3) (N := (some 104)) (v := ?_) (a' := ?_) #[true, true, true, true, false, false, false, false, false] rfl rfl (by kernel_rfl) (fun _ _ _ h => h) (Or.inl ⟨by rfl, ?_⟩) hHeld ?_ ?_
          rotate_left
          · rintro w' ⟨s0, s1⟩
            go_simp
            with_reducible rfl
          rotate_left
          · simp only [Act.put, List.setIfInBounds_toArray, List.set_cons_zero, List.set_cons_succ]
            rfl
          refine join_ (σ := Option Addr × Nat × Nat × Nat) 1 #[true, true, true, true, true, true, true, true, false] (fun s_ => [(105, .slice s_.1 L1.length s_.2.1), (106, .slice (some ⟨s_.2.2.1, 0, none⟩) 0 0), (16, .pointer (some ⟨s_.2.2.2, 0, none⟩)), (107, .agg #[.bool b, .slice s_.1 L1.length s_.2.1, .slice (some ⟨s_.2.2.1, 0, none⟩) 0 0])]) (fun s_ w' => Sx wz7 w' [(.blk s_.2.2.2 #[.bool false, .slice none 0 0, .slice none 0 0] 28), (.blk s_.2.2.1 #[] 3), (.row (.slice s_.1 L1.length s_.2.1) L1)]) ?_ ?_
          rotate_left
          · intro hJ_4_5_7
            refine join_ (σ := Option Addr × Nat × Nat) 2 #[true, true, true, true, true, true, true, false, false] (fun s_ => [(105, .slice s_.1 L1.length s_.2.1), (106, .slice (some ⟨s_.2.2, 0, none⟩) 0 0), (107, .agg #[.bool b, .slice s_.1 L1.length s_.2.1, .slice (some ⟨s_.2.2, 0, none⟩) 0 0])]) (fun s_ w' => Sx wz7 w' [(.blk s_.2.2 #[] 3), (.row (.slice s_.1 L1.length s_.2.1) L1)]) ?_ ?_
            rotate_left
            · intro hJ_4_5
              refine join_ (σ := Option Addr × Nat × Nat) 3 #[true, true, true, true, true, false, false, true, false] (fun s_ => [(105, .slice s_.1 L1.length s_.2.1), (16, .pointer (some ⟨s_.2.2, 0, none⟩))]) (fun s_ w' => Sx wz7 w' [(.blk s_.2.2 #[.bool false, .slice none 0 0, .slice none 0 0] 28), (.row (.slice s_.1 L1.length s_.2.1) L1)]) ?_ ?_
              rotate_left
              · intro hJ_4_7
                refine join_ (σ := Nat × Nat) 3 #[true, true, true, true, false, true, false, true, false] (fun s_ => [(106, .slice (some ⟨s_.1, 0, none⟩) 0 0), (16, .pointer (some ⟨s_.2, 0, none⟩))]) (fun s_ w' => Sx wz7 w' [(.blk s_.2 #[.bool false, .slice none 0 0, .slice none 0 0] 28), (.blk s_.1 #[] 3)]) ?_ ?_
                rotate_left
                · intro hJ_5_7
                  refine join_ (σ := Option Addr × Nat) 4 #[true, true, true, true, true, false, false, false, false] (fun s_ => [(105, .slice s_.1 L1.length s_.2)]) (fun s_ w' => Sx wz7 w' [(.row (.slice s_.1 L1.length s_.2) L1)]) ?_ ?_
                  rotate_left
                  · intro hJ_4
                    refine join_ (σ := Nat) 4 #[true, true, true, true, false, true, false, false, false] (fun s_ => [(106, .slice (some ⟨s_, 0, none⟩) 0 0)]) (fun s_ w' => Sx wz7 w' [(.blk s_ #[] 3)]) ?_ ?_
                    rotate_left
                    · intro hJ_5
                      refine join_ (σ := Nat) 4 #[true, true, true, true, false, false, false, true, false] (fun s_ => [(16, .pointer (some ⟨s_, 0, none⟩))]) (fun s_ w' => Sx wz7 w' [(.blk s_ #[.bool false, .slice none 0 0, .slice none 0 0] 28)]) ?_ ?_
                      rotate_left
                      · intro hJ_7
                        refine three_ (i := 4) (j := 5) (k := 7) (Ni := (some 105)) (Nj := (some 106)) (Nk := (some 16)) #[true, true, true, true, true, false, false, false, false] #[true, true, true, true, false, true, false, false, false] #[true, true, true, true, false, false, false, true, false] rfl rfl rfl rfl rfl rfl (by kernel_rfl) (by decide) (by decide) (by decide) (fun K hK => ?_) (fun K hK => ?_) (fun K hK => ?_)
                        · skip
                          refine goes_ Try.func73 (by kernel_rfl) rfl #[.slice Bs L1.length ds] (by rfl) rfl rfl (by (try simp only [List.map_toArray, List.map_cons, List.map_nil]); first | done | rfl) ?_
                          with_reducible refine (spec_l3Ints.calls Bs ds L1 L1 _ (Kd.C_below CB1.out HS.out.below) KB1.out (l3Ints_eq L1 (by have := H5.out; omega))).mono ?_
                          rintro e vh1 ⟨v_, rfl, hrh1, hbh1⟩
                          obtain ⟨Ns, nc, hv_⟩ := Kd.R_slice hrh1
                          subst hv_
                          have nS : Aside0 (Sx wz7 vh1 [(.row (.slice Ns L1.length nc) L1)]) := Aside0.mk (HS.out.addRow hbh1 hrh1)
                          clear HS hbh1
                          have HS := nS
                          clear nS
                          refine ⟨_, rfl, ?_⟩
                          refine hK.out _ _ ⟨(blk_cell (blk_below HBB.out HS.out.below) 0).trans rfl, (blk_cell (blk_below HBB.out HS.out.below) 1).trans rfl⟩ (fun hHeld => ?_)
                          clear hK K
                          refine norm_ (a' := ?_) ?_ ?_
                          rotate_left
                          · show Act.put _ (some 105) _ = _
                            simp only [Act.put, List.setIfInBounds_toArray, List.set_cons_zero, List.set_cons_succ]
                            rfl
                          exact norm_ (by first | (simp only [putAll, Act.put, List.setIfInBounds_toArray, List.set_cons_zero, List.set_cons_succ]; done) | (simp only [putAll, Act.put, List.setIfInBounds_toArray, List.set_cons_zero, List.set_cons_succ]; rfl)) (hJ_4 (Ns, nc) _ (HS.out.perm (List.Perm.refl _)))
                        · skip
                          refine lit_step (by rfl) rfl #[] 3 0 (by first | (go_simp; done) | (go_simp; rfl)) ?_
                          intro gE wE hgE hxE hbE
                          have nS : Aside0 (Sx wz7 wE [(.blk gE #[] 3)]) := Aside0.mk (HS.out.box hgE.symm hxE hbE)
                          clear HS hgE hxE hbE
                          have HS := nS
                          clear nS
                          refine hK.out _ _ ⟨(blk_cell (blk_below HBB.out HS.out.below) 0).trans rfl, (blk_cell (blk_below HBB.out HS.out.below) 1).trans rfl⟩ (fun hHeld => ?_)
                          clear hK K
                          refine norm_ (a' := ?_) ?_ ?_
                          rotate_left
                          · show Act.put _ (some 106) _ = _
                            simp only [Act.put, List.setIfInBounds_toArray, List.set_cons_zero, List.set_cons_succ]
                            rfl
                          exact norm_ (by first | (simp only [putAll, Act.put, List.setIfInBounds_toArray, List.set_cons_zero, List.set_cons_succ]; done) | (simp only [putAll, Act.put, List.setIfInBounds_toArray, List.set_cons_zero, List.set_cons_succ]; rfl)) (hJ_5 gE _ (HS.out.perm (List.Perm.refl _)))
                        · skip
                          refine box_step ?hg (N := 16) ?hd (cs := #[.bool false, .slice none 0 0, .slice none 0 0]) (t := 28) ?hr ?_; (case hd => rfl); (case hg => rfl); (case hr => first | (go_simp; done) | (go_simp; rfl))
                          intro gO hgO wO hxO hbO
                          have nS : Aside0 (Sx wz7 wO [(.blk gO #[.bool false, .slice none 0 0, .slice none 0 0] 28)]) := Aside0.mk (HS.out.box hgO hxO hbO)
                          clear HS hgO hxO hbO
                          have HS := nS
                          clear nS
                          refine hK.out _ _ ⟨(blk_cell (blk_below HBB.out HS.out.below) 0).trans rfl, (blk_cell (blk_below HBB.out HS.out.below) 1).trans rfl⟩ (fun hHeld => ?_)
                          clear hK K
                          refine norm_ (a' := ?_) ?_ ?_
                          rotate_left
                          · show Act.put _ (some 16) _ = _
                            simp only [Act.put, List.setIfInBounds_toArray, List.set_cons_zero, List.set_cons_succ]
                            rfl
                          exact norm_ (by first | (simp only [putAll, Act.put, List.setIfInBounds_toArray, List.set_cons_zero, List.set_cons_succ]; done) | (simp only [putAll, Act.put, List.setIfInBounds_toArray, List.set_cons_zero, List.set_cons_succ]; rfl)) (hJ_7 gO _ (HS.out.perm (List.Perm.refl _)))
                      · intro gO w_ hF
                        have nS : Aside0 (Sx wz7 w_ [(.blk gO #[.bool false, .slice none 0 0, .slice none 0 0] 28)]) := Aside0.mk hF
                        clear HS hF
                        have HS := nS
                        clear nS
                        refine norm_ (a' := ?_) ?_ ?_
                        rotate_left
                        · simp only [putAll, Act.put, List.setIfInBounds_toArray, List.set_cons_zero, List.set_cons_succ]
                          rfl
                        refine two_ (i := 4) (j := 5) (Ni := (some 105)) (Nj := (some 106)) #[true, true, true, true, true, false, false, true, false] #[true, true, true, true, false, true, false, true, false] rfl rfl rfl rfl (by kernel_rfl) (by decide) (by decide) (fun K hK => ?_) (fun K hK => ?_)
                        · skip
                          refine goes_ Try.func73 (by kernel_rfl) rfl #[.slice Bs L1.length ds] (by rfl) rfl rfl (by (try simp only [List.map_toArray, List.map_cons, List.map_nil]); first | done | rfl) ?_
                          with_reducible refine (spec_l3Ints.calls Bs ds L1 L1 _ (Kd.C_below CB1.out HS.out.below) KB1.out (l3Ints_eq L1 (by have := H5.out; omega))).mono ?_
                          rintro e vh1 ⟨v_, rfl, hrh1, hbh1⟩
                          obtain ⟨Ns, nc, hv_⟩ := Kd.R_slice hrh1
                          subst hv_
                          have nS : Aside0 (Sx wz7 vh1 [(.row (.slice Ns L1.length nc) L1), (.blk gO #[.bool false, .slice none 0 0, .slice none 0 0] 28)]) := Aside0.mk (HS.out.addRow hbh1 hrh1)
                          clear HS hbh1
                          have HS := nS
                          clear nS
                          refine ⟨_, rfl, ?_⟩
                          refine hK.out _ _ ⟨(blk_cell (blk_below HBB.out HS.out.below) 0).trans rfl, (blk_cell (blk_below HBB.out HS.out.below) 1).trans rfl⟩ (fun hHeld => ?_)
                          clear hK K
                          refine norm_ (a' := ?_) ?_ ?_
                          rotate_left
                          · show Act.put _ (some 105) _ = _
                            simp only [Act.put, List.setIfInBounds_toArray, List.set_cons_zero, List.set_cons_succ]
                            rfl
                          exact norm_ (by first | (simp only [putAll, Act.put, List.setIfInBounds_toArray, List.set_cons_zero, List.set_cons_succ]; done) | (simp only [putAll, Act.put, List.setIfInBounds_toArray, List.set_cons_zero, List.set_cons_succ]; rfl)) (hJ_4_7 (Ns, nc, gO) _ (HS.out.perm (List.perm_middle (a := (Th.row (.slice Ns L1.length nc) L1)) (l₁ := [(Th.blk gO #[.bool false, .slice none 0 0, .slice none 0 0] 28)]) (l₂ := [])).symm))
                        · skip
                          refine lit_step (by rfl) rfl #[] 3 0 (by first | (go_simp; done) | (go_simp; rfl)) ?_
                          intro gE wE hgE hxE hbE
                          have nS : Aside0 (Sx wz7 wE [(.blk gE #[] 3), (.blk gO #[.bool false, .slice none 0 0, .slice none 0 0] 28)]) := Aside0.mk (HS.out.box hgE.symm hxE hbE)
                          clear HS hgE hxE hbE
                          have HS := nS
                          clear nS
                          refine hK.out _ _ ⟨(blk_cell (blk_below HBB.out HS.out.below) 0).trans rfl, (blk_cell (blk_below HBB.out HS.out.below) 1).trans rfl⟩ (fun hHeld => ?_)
                          clear hK K
                          refine norm_ (a' := ?_) ?_ ?_
                          rotate_left
                          · show Act.put _ (some 106) _ = _
                            simp only [Act.put, List.setIfInBounds_toArray, List.set_cons_zero, List.set_cons_succ]
                            rfl
                          exact norm_ (by first | (simp only [putAll, Act.put, List.setIfInBounds_toArray, List.set_cons_zero, List.set_cons_succ]; done) | (simp only [putAll, Act.put, List.setIfInBounds_toArray, List.set_cons_zero, List.set_cons_succ]; rfl)) (hJ_5_7 (gE, gO) _ (HS.out.perm (List.perm_middle (a := (Th.blk gE #[] 3)) (l₁ := [(Th.blk gO #[.bool false, .slice none 0 0, .slice none 0 0] 28)]) (l₂ := [])).symm))
                    · intro gE w_ hF
                      have nS : Aside0 (Sx wz7 w_ [(.blk gE #[] 3)]) := Aside0.mk hF
                      clear HS hF
                      have HS := nS
                      clear nS
                      refine norm_ (a' := ?_) ?_ ?_
                      rotate_left
                      · simp only [putAll, Act.put, List.setIfInBounds_toArray, List.set_cons_zero, List.set_cons_succ]
                        rfl
                      refine two_ (i := 4) (j := 7) (Ni := (some 105)) (Nj := (some 16)) #[true, true, true, true, true, true, false, false, false] #[true, true, true, true, false, true, false, true, false] rfl rfl rfl rfl (by kernel_rfl) (by decide) (by decide) (fun K hK => ?_) (fun K hK => ?_)
                      · skip
                        refine goes_ Try.func73 (by kernel_rfl) rfl #[.slice Bs L1.length ds] (by rfl) rfl rfl (by (try simp only [List.map_toArray, List.map_cons, List.map_nil]); first | done | rfl) ?_
                        with_reducible refine (spec_l3Ints.calls Bs ds L1 L1 _ (Kd.C_below CB1.out HS.out.below) KB1.out (l3Ints_eq L1 (by have := H5.out; omega))).mono ?_
                        rintro e vh1 ⟨v_, rfl, hrh1, hbh1⟩
                        obtain ⟨Ns, nc, hv_⟩ := Kd.R_slice hrh1
                        subst hv_
                        have nS : Aside0 (Sx wz7 vh1 [(.row (.slice Ns L1.length nc) L1), (.blk gE #[] 3)]) := Aside0.mk (HS.out.addRow hbh1 hrh1)
                        clear HS hbh1
                        have HS := nS
                        clear nS
                        refine ⟨_, rfl, ?_⟩
                        refine hK.out _ _ ⟨(blk_cell (blk_below HBB.out HS.out.below) 0).trans rfl, (blk_cell (blk_below HBB.out HS.out.below) 1).trans rfl⟩ (fun hHeld => ?_)
                        clear hK K
                        refine norm_ (a' := ?_) ?_ ?_
                        rotate_left
                        · show Act.put _ (some 105) _ = _
                          simp only [Act.put, List.setIfInBounds_toArray, List.set_cons_zero, List.set_cons_succ]
                          rfl
                        refine pure_ (i := 6) (N := (some 107)) (v := ?_) (a' := ?_) #[true, true, true, true, true, true, true, false, false] rfl rfl (by kernel_rfl) (fun _ _ _ h => h) (Or.inl ⟨by rfl, ?_⟩) ?_ ?_
                        rotate_left
                        · intro w'
                          go_simp
                          with_reducible rfl
                        rotate_left
                        · simp only [Act.put, List.setIfInBounds_toArray, List.set_cons_zero, List.set_cons_succ]
                          rfl
                        exact norm_ (by first | (simp only [putAll, Act.put, List.setIfInBounds_toArray, List.set_cons_zero, List.set_cons_succ]; done) | (simp only [putAll, Act.put, List.setIfInBounds_toArray, List.set_cons_zero, List.set_cons_succ]; rfl)) (hJ_4_5 (Ns, nc, gE) _ (HS.out.perm (List.perm_middle (a := (Th.row (.slice Ns L1.length nc) L1)) (l₁ := [(Th.blk gE #[] 3)]) (l₂ := [])).symm))
                      · skip
                        refine box_step ?hg (N := 16) ?hd (cs := #[.bool false, .slice none 0 0, .slice none 0 0]) (t := 28) ?hr ?_; (case hd => rfl); (case hg => rfl); (case hr => first | (go_simp; done) | (go_simp; rfl))
                        intro gO hgO wO hxO hbO
                        have nS : Aside0 (Sx wz7 wO [(.blk gO #[.bool false, .slice none 0 0, .slice none 0 0] 28), (.blk gE #[] 3)]) := Aside0.mk (HS.out.box hgO hxO hbO)
                        clear HS hgO hxO hbO
                        have HS := nS
                        clear nS
                        refine hK.out _ _ ⟨(blk_cell (blk_below HBB.out HS.out.below) 0).trans rfl, (blk_cell (blk_below HBB.out HS.out.below) 1).trans rfl⟩ (fun hHeld => ?_)
                        clear hK K
                        refine norm_ (a' := ?_) ?_ ?_
                        rotate_left
                        · show Act.put _ (some 16) _ = _
                          simp only [Act.put, List.setIfInBounds_toArray, List.set_cons_zero, List.set_cons_succ]
                          rfl
                        exact norm_ (by first | (simp only [putAll, Act.put, List.setIfInBounds_toArray, List.set_cons_zero, List.set_cons_succ]; done) | (simp only [putAll, Act.put, List.setIfInBounds_toArray, List.set_cons_zero, List.set_cons_succ]; rfl)) (hJ_5_7 (gE, gO) _ (HS.out.perm (List.Perm.refl _)))
                  · intro s_ w_ hF
                    obtain ⟨Ns, nc⟩ := s_
                    have nS : Aside0 (Sx wz7 w_ [(.row (.slice Ns L1.length nc) L1)]) := Aside0.mk hF
                    clear HS hF
                    have HS := nS
                    clear nS
                    refine norm_ (a' := ?_) ?_ ?_
                    rotate_left
                    · simp only [putAll, Act.put, List.setIfInBounds_toArray, List.set_cons_zero, List.set_cons_succ]
                      rfl
                    refine two_ (i := 5) (j := 7) (Ni := (some 106)) (Nj := (some 16)) #[true, true, true, true, true, true, false, false, false] #[true, true, true, true, true, false, false, true, false] rfl rfl rfl rfl (by kernel_rfl) (by decide) (by decide) (fun K hK => ?_) (fun K hK => ?_)
                    · skip
                      refine lit_step (by rfl) rfl #[] 3 0 (by first | (go_simp; done) | (go_simp; rfl)) ?_
                      intro gE wE hgE hxE hbE
                      have nS : Aside0 (Sx wz7 wE [(.blk gE #[] 3), (.row (.slice Ns L1.length nc) L1)]) := Aside0.mk (HS.out.box hgE.symm hxE hbE)
                      clear HS hgE hxE hbE
                      have HS := nS
                      clear nS
                      refine hK.out _ _ ⟨(blk_cell (blk_below HBB.out HS.out.below) 0).trans rfl, (blk_cell (blk_below HBB.out HS.out.below) 1).trans rfl⟩ (fun hHeld => ?_)
                      clear hK K
                      refine norm_ (a' := ?_) ?_ ?_
                      rotate_left
                      · show Act.put _ (some 106) _ = _
                        simp only [Act.put, List.setIfInBounds_toArray, List.set_cons_zero, List.set_cons_succ]
                        rfl
                      refine pure_ (i := 6) (N := (some 107)) (v := ?_) (a' := ?_) #[true, true, true, true, true, true, true, false, false] rfl rfl (by kernel_rfl) (fun _ _ _ h => h) (Or.inl ⟨by rfl, ?_⟩) ?_ ?_
                      rotate_left
                      · intro w'
                        go_simp
                        with_reducible rfl
                      rotate_left
                      · simp only [Act.put, List.setIfInBounds_toArray, List.set_cons_zero, List.set_cons_succ]
                        rfl
                      exact norm_ (by first | (simp only [putAll, Act.put, List.setIfInBounds_toArray, List.set_cons_zero, List.set_cons_succ]; done) | (simp only [putAll, Act.put, List.setIfInBounds_toArray, List.set_cons_zero, List.set_cons_succ]; rfl)) (hJ_4_5 (Ns, nc, gE) _ (HS.out.perm (List.Perm.refl _)))
                    · skip
                      refine box_step ?hg (N := 16) ?hd (cs := #[.bool false, .slice none 0 0, .slice none 0 0]) (t := 28) ?hr ?_; (case hd => rfl); (case hg => rfl); (case hr => first | (go_simp; done) | (go_simp; rfl))
                      intro gO hgO wO hxO hbO
                      have nS : Aside0 (Sx wz7 wO [(.blk gO #[.bool false, .slice none 0 0, .slice none 0 0] 28), (.row (.slice Ns L1.length nc) L1)]) := Aside0.mk (HS.out.box hgO hxO hbO)
                      clear HS hgO hxO hbO
                      have HS := nS
                      clear nS
                      refine hK.out _ _ ⟨(blk_cell (blk_below HBB.out HS.out.below) 0).trans rfl, (blk_cell (blk_below HBB.out HS.out.below) 1).trans rfl⟩ (fun hHeld => ?_)
                      clear hK K
                      refine norm_ (a' := ?_) ?_ ?_
                      rotate_left
                      · show Act.put _ (some 16) _ = _
                        simp only [Act.put, List.setIfInBounds_toArray, List.set_cons_zero, List.set_cons_succ]
                        rfl
                      exact norm_ (by first | (simp only [putAll, Act.put, List.setIfInBounds_toArray, List.set_cons_zero, List.set_cons_succ]; done) | (simp only [putAll, Act.put, List.setIfInBounds_toArray, List.set_cons_zero, List.set_cons_succ]; rfl)) (hJ_4_7 (Ns, nc, gO) _ (HS.out.perm (List.Perm.refl _)))
                · intro s_ w_ hF
                  obtain ⟨gE, gO⟩ := s_
                  have nS : Aside0 (Sx wz7 w_ [(.blk gO #[.bool false, .slice none 0 0, .slice none 0 0] 28), (.blk gE #[] 3)]) := Aside0.mk hF
                  clear HS hF
                  have HS := nS
                  clear nS
                  refine norm_ (a' := ?_) ?_ ?_
                  rotate_left
                  · simp only [putAll, Act.put, List.setIfInBounds_toArray, List.set_cons_zero, List.set_cons_succ]
                    rfl
                  refine one_ (i := 4) (N := (some 105)) #[true, true, true, true, true, true, false, true, false] rfl rfl (by kernel_rfl) (by decide) (fun K hK => ?_)
                  refine goes_ Try.func73 (by kernel_rfl) rfl #[.slice Bs L1.length ds] (by rfl) rfl rfl (by (try simp only [List.map_toArray, List.map_cons, List.map_nil]); first | done | rfl) ?_
                  with_reducible refine (spec_l3Ints.calls Bs ds L1 L1 _ (Kd.C_below CB1.out HS.out.below) KB1.out (l3Ints_eq L1 (by have := H5.out; omega))).mono ?_
                  rintro e vh1 ⟨v_, rfl, hrh1, hbh1⟩
                  obtain ⟨Ns, nc, hv_⟩ := Kd.R_slice hrh1
                  subst hv_
                  have nS : Aside0 (Sx wz7 vh1 [(.row (.slice Ns L1.length nc) L1), (.blk gO #[.bool false, .slice none 0 0, .slice none 0 0] 28), (.blk gE #[] 3)]) := Aside0.mk (HS.out.addRow hbh1 hrh1)
                  clear HS hbh1
                  have HS := nS
                  clear nS
                  refine ⟨_, rfl, ?_⟩
                  refine hK.out _ _ ⟨(blk_cell (blk_below HBB.out HS.out.below) 0).trans rfl, (blk_cell (blk_below HBB.out HS.out.below) 1).trans rfl⟩ (fun hHeld => ?_)
                  clear hK K
                  refine norm_ (a' := ?_) ?_ ?_
                  rotate_left
                  · show Act.put _ (some 105) _ = _
                    simp only [Act.put, List.setIfInBounds_toArray, List.set_cons_zero, List.set_cons_succ]
                    rfl
                  refine pure_ (i := 6) (N := (some 107)) (v := ?_) (a' := ?_) #[true, true, true, true, true, true, true, true, false] rfl rfl (by kernel_rfl) (fun _ _ _ h => h) (Or.inl ⟨by rfl, ?_⟩) ?_ ?_
                  rotate_left
                  · intro w'
                    go_simp
                    with_reducible rfl
                  rotate_left
                  · simp only [Act.put, List.setIfInBounds_toArray, List.set_cons_zero, List.set_cons_succ]
                    rfl
                  exact norm_ (by first | (simp only [putAll, Act.put, List.setIfInBounds_toArray, List.set_cons_zero, List.set_cons_succ]; done) | (simp only [putAll, Act.put, List.setIfInBounds_toArray, List.set_cons_zero, List.set_cons_succ]; rfl)) (hJ_4_5_7 (Ns, nc, gE, gO) _ (HS.out.perm (List.perm_middle (a := (Th.row (.slice Ns L1.length nc) L1)) (l₁ := [(Th.blk gO #[.bool false, .slice none 0 0, .slice none 0 0] 28), (Th.blk gE #[] 3)]) (l₂ := [])).symm))
              · intro s_ w_ hF
                obtain ⟨Ns, nc, gO⟩ := s_
                have nS : Aside0 (Sx wz7 w_ [(.blk gO #[.bool false, .slice none 0 0, .slice none 0 0] 28), (.row (.slice Ns L1.length nc) L1)]) := Aside0.mk hF
                clear HS hF
                have HS := nS
                clear nS
                refine norm_ (a' := ?_) ?_ ?_
                rotate_left
                · simp only [putAll, Act.put, List.setIfInBounds_toArray, List.set_cons_zero, List.set_cons_succ]
                  rfl
                refine one_ (i := 5) (N := (some 106)) #[true, true, true, true, true, true, false, true, false] rfl rfl (by kernel_rfl) (by decide) (fun K hK => ?_)
                refine lit_step (by rfl) rfl #[] 3 0 (by first | (go_simp; done) | (go_simp; rfl)) ?_
                intro gE wE hgE hxE hbE
                have nS : Aside0 (Sx wz7 wE [(.blk gE #[] 3), (.blk gO #[.bool false, .slice none 0 0, .slice none 0 0] 28), (.row (.slice Ns L1.length nc) L1)]) := Aside0.mk (HS.out.box hgE.symm hxE hbE)
                clear HS hgE hxE hbE
                have HS := nS
                clear nS
                refine hK.out _ _ ⟨(blk_cell (blk_below HBB.out HS.out.below) 0).trans rfl, (blk_cell (blk_below HBB.out HS.out.below) 1).trans rfl⟩ (fun hHeld => ?_)
                clear hK K
                refine norm_ (a' := ?_) ?_ ?_
                rotate_left
                · show Act.put _ (some 106) _ = _
                  simp only [Act.put, List.setIfInBounds_toArray, List.set_cons_zero, List.set_cons_succ]
                  rfl
                refine pure_ (i := 6) (N := (some 107)) (v := ?_) (a' := ?_) #[true, true, true, true, true, true, true, true, false] rfl rfl (by kernel_rfl) (fun _ _ _ h => h) (Or.inl ⟨by rfl, ?_⟩) ?_ ?_
                rotate_left
                · intro w'
                  go_simp
                  with_reducible rfl
                rotate_left
                · simp only [Act.put, List.setIfInBounds_toArray, List.set_cons_zero, List.set_cons_succ]
                  rfl
                exact norm_ (by first | (simp only [putAll, Act.put, List.setIfInBounds_toArray, List.set_cons_zero, List.set_cons_succ]; done) | (simp only [putAll, Act.put, List.setIfInBounds_toArray, List.set_cons_zero, List.set_cons_succ]; rfl)) (hJ_4_5_7 (Ns, nc, gE, gO) _ (HS.out.perm (List.perm_middle (a := (Th.blk gE #[] 3)) (l₁ := [(Th.blk gO #[.bool false, .slice none 0 0, .slice none 0 0] 28)]) (l₂ := [(Th.row (.slice Ns L1.length nc) L1)])).symm))
            · intro s_ w_ hF
              obtain ⟨Ns, nc, gE⟩ := s_
              have nS : Aside0 (Sx wz7 w_ [(.blk gE #[] 3), (.row (.slice Ns L1.length nc) L1)]) := Aside0.mk hF
              clear HS hF
              have HS := nS
              clear nS
              refine norm_ (a' := ?_) ?_ ?_
              rotate_left
              · simp only [putAll, Act.put, List.setIfInBounds_toArray, List.set_cons_zero, List.set_cons_succ]
                rfl
              refine one_ (i := 7) (N := (some 16)) #[true, true, true, true, true, true, true, true, false] rfl rfl (by kernel_rfl) (by decide) (fun K hK => ?_)
              refine box_step ?hg (N := 16) ?hd (cs := #[.bool false, .slice none 0 0, .slice none 0 0]) (t := 28) ?hr ?_; (case hd => rfl); (case hg => rfl); (case hr => first | (go_simp; done) | (go_simp; rfl))
              intro gO hgO wO hxO hbO
              have nS : Aside0 (Sx wz7 wO [(.blk gO #[.bool false, .slice none 0 0, .slice none 0 0] 28), (.blk gE #[] 3), (.row (.slice Ns L1.length nc) L1)]) := Aside0.mk (HS.out.box hgO hxO hbO)
              clear HS hgO hxO hbO
              have HS := nS
              clear nS
              refine hK.out _ _ ⟨(blk_cell (blk_below HBB.out HS.out.below) 0).trans rfl, (blk_cell (blk_below HBB.out HS.out.below) 1).trans rfl⟩ (fun hHeld => ?_)
              clear hK K
              refine norm_ (a' := ?_) ?_ ?_
              rotate_left
              · show Act.put _ (some 16) _ = _
                simp only [Act.put, List.setIfInBounds_toArray, List.set_cons_zero, List.set_cons_succ]
                rfl
              exact norm_ (by first | (simp only [putAll, Act.put, List.setIfInBounds_toArray, List.set_cons_zero, List.set_cons_succ]; done) | (simp only [putAll, Act.put, List.setIfInBounds_toArray, List.set_cons_zero, List.set_cons_succ]; rfl)) (hJ_4_5_7 (Ns, nc, gE, gO) _ (HS.out.perm (List.Perm.refl _)))
          · intro s_ w_ hF
            obtain ⟨Ns, nc, gE, gO⟩ := s_
            have nS : Aside0 (Sx wz7 w_ [(.blk gO #[.bool false, .slice none 0 0, .slice none 0 0] 28), (.blk gE #[] 3), (.row (.slice Ns L1.length nc) L1)]) := Aside0.mk hF
            clear HS hF
            have HS := nS
            clear nS
            refine norm_ (a' := ?_) ?_ ?_
            rotate_left
            · simp only [putAll, Act.put, List.setIfInBounds_toArray, List.set_cons_zero, List.set_cons_succ]
              rfl
            refine last_ (i := 8) (N := none) #[true, true, true, true, true, true, true, true, true] rfl rfl (by kernel_rfl) (by decide) (fun K hK => ?_)
            refine store_named_step (by rfl) 28 (.tmp 16) (.tmp 107) rfl gO #[.bool b, .slice Ns L1.length nc, .slice (some ⟨gE, 0, none⟩) 0 0] rfl rfl 28 #[.bool false, .slice none 0 0, .slice none 0 0] (HS.out.blk 0 rfl) (by kernel_rfl) rfl (by simp [Value.oneCell']) ?_
            intro wO hxz hbz
            have nS : Aside0 (Sx wz7 wO [(.blk gO #[.bool b, .slice Ns L1.length nc, .slice (some ⟨gE, 0, none⟩) 0 0] 28), (.blk gE #[] 3), (.row (.slice Ns L1.length nc) L1)]) := Aside0.mk (HS.out.put 0 rfl hxz hbz)
            clear HS hxz hbz
            have HS := nS
            clear nS
            refine hK.out _ _ ?_
            clear hK K
            refine done_ (by kernel_rfl) ?_
            go_simp
            obtain ⟨gs, eN_, -, -⟩ := HS.out.at 2 rfl t HTL.out
            subst eN_
            go_upto_if 108 with fail
            go_cut [] from 109 to 120 (fun wx => Aside0 (Sx wz7 wx [(.blk gO #[.bool b, .slice (some ⟨gs, 0, none⟩) L1.length nc, .slice (some ⟨gE, 0, none⟩) 0 0] 28), (.blk gE #[] 3), (.row (.slice (some ⟨gs, 0, none⟩) L1.length nc) S2)]))
            case first =>
              have ht := HTF.out
              clear HTF
              have hax := HAX.out
              clear HAX
              cases first
              · have et : t = L1.length - 1 := ht
                have wl : IntKind.i64.wrap ((L1.length : Int) - 1) = (t : Int) := by rw [IntWalk.i64_in _ (by have := H5.out; omega)]; have := HTL.out; omega
                have q0 : 0 ≤ (t : Int) := by omega
                have q1 : (t : Int) < (L1.length : Int) := by have := HTL.out; omega
                clear ht et hax
                go_wp2_with (first | ((with_reducible refine gate_dst (N := 114) rfl ?_); refine ev_load rfl 22 (.tmp 113) rfl ⟨gO, 1, none⟩ rfl (.slice (some ⟨gs, 0, none⟩) L1.length nc) ((blk_cell (HS.out.blk 0 rfl) 1).trans rfl) (by kernel_rfl) ?_) | ((with_reducible refine gate_dst (N := 116) rfl ?_); refine ev_load rfl 22 (.tmp 115) rfl ⟨gO, 1, none⟩ rfl (.slice (some ⟨gs, 0, none⟩) L1.length nc) ((blk_cell (HS.out.blk 0 rfl) 1).trans rfl) (by kernel_rfl) ?_) | ((with_reducible refine gate_store rfl ?_); refine HS.out.storeAt 2 rfl rfl 3 _ _ rfl t HTL.out rfl SUM rfl (by kernel_rfl) ?_; intro wz n_ hbz; rw [HS2.out] at n_; have nS : Aside0 (Sx wz7 wz [(.blk gO #[.bool b, .slice (some ⟨gs, 0, none⟩) L1.length nc, .slice (some ⟨gE, 0, none⟩) 0 0] 28), (.blk gE #[] 3), (.row (.slice (some ⟨gs, 0, none⟩) L1.length nc) S2)]) := Aside0.mk n_; clear HS n_ hbz; have HS := nS; clear nS))
                go_meet
                case rel => exact HS
              · have et : t = 0 := ht
                subst et
                have q1 : (0 : Int) < (L1.length : Int) := by have := HTL.out; omega
                have q2 : 0 < L1.length := HTL.out
                clear ht hax
                go_wp2_with (first | ((with_reducible refine gate_dst (N := 110) rfl ?_); refine ev_load rfl 22 (.tmp 109) rfl ⟨gO, 1, none⟩ rfl (.slice (some ⟨gs, 0, none⟩) L1.length nc) ((blk_cell (HS.out.blk 0 rfl) 1).trans rfl) (by kernel_rfl) ?_) | ((with_reducible refine gate_store rfl ?_); refine HS.out.storeAt 2 rfl rfl 3 _ _ rfl 0 HTL.out rfl SUM rfl (by kernel_rfl) ?_; intro wz n_ hbz; rw [HS2.out] at n_; have nS : Aside0 (Sx wz7 wz [(.blk gO #[.bool b, .slice (some ⟨gs, 0, none⟩) L1.length nc, .slice (some ⟨gE, 0, none⟩) 0 0] 28), (.blk gE #[] 3), (.row (.slice (some ⟨gs, 0, none⟩) L1.length nc) S2)]) := Aside0.mk n_; clear HS n_ hbz; have HS := nS; clear nS))
                go_meet
                case rel => exact HS
            clear HS
            have HS := hcut
            clear hcut
            go_upto_if 124 with (first | ((with_reducible refine gate_dst (N := 122) rfl ?_); refine ev_load rfl 22 (.tmp 121) rfl ⟨gO, 1, none⟩ rfl (.slice (some ⟨gs, 0, none⟩) L1.length nc) ((blk_cell (HS.out.blk 0 rfl) 1).trans rfl) (by kernel_rfl) ?_) | (go_at_call 72; refine (l3ShapeOk_n k1 L1.length (some ⟨gs, 0, none⟩) nc S2 zok _ (HS.out.C 2 rfl) (HS.out.cap 2 rfl) HSL.out HSH.out).mono ?_; rintro e wl2 ⟨rfl, hd_⟩; have hbl2 := Drawn0.below hd_; clear hd_; have nS : Aside0 (Sx wz7 wl2 [(.blk gO #[.bool b, .slice (some ⟨gs, 0, none⟩) L1.length nc, .slice (some ⟨gE, 0, none⟩) 0 0] 28), (.blk gE #[] 3), (.row (.slice (some ⟨gs, 0, none⟩) L1.length nc) S2)]) := Aside0.mk (HS.out.step hbl2); clear HS; have HS := nS; clear nS))
            cases zok
            · obtain ⟨e1_, e2_, e3_, e4_⟩ := H7.out HNN.out (by first | trivial | rfl)
              subst e1_ e2_ e3_ e4_
              clear H7 H0
              go_wp2_with (first | (go_at_call 53; refine (spec_l4None.calls false [] [] _ rfl).mono ?_; rintro e wl3 ⟨v1l3, v2l3, rfl, hr1l3, hr2l3, hbl3⟩; obtain ⟨AS, cS, hv_⟩ := Kd.R_slice hr1l3; subst hv_; obtain ⟨AD, cD, hv_⟩ := Kd.R_slice hr2l3; subst hv_; have nS : Aside0 (Sx wz7 wl3 [(.row (.slice AS ([] : List Int).length cS) []), (.row (.slice AD ([] : List Int).length cD) []), (.blk gO #[.bool b, .slice (some ⟨gs, 0, none⟩) L1.length nc, .slice (some ⟨gE, 0, none⟩) 0 0] 28), (.blk gE #[] 3), (.row (.slice (some ⟨gs, 0, none⟩) L1.length nc) S2)]) := Aside0.mk (HS.out.addRow2 hbl3 hr1l3 hr2l3); clear HS; have HS := nS; clear nS hbl3 hr1l3 hr2l3) | ((with_reducible refine gate_store rfl ?_); refine store_named rfl 28 (.tmp 6) (.tmp 125) rfl gR #[.bool false, .slice AS ([] : List Int).length cS, .slice AD ([] : List Int).length cD] rfl rfl 28 #[.bool false, .slice none 0 0, .slice none 0 0] (blk_below HRB.out HS.out.below) (by kernel_rfl) rfl (by simp [Value.oneCell']) ?_; intro wF hxF hbF; have HXF := Aside0.mk hxF; have HBF := Aside0.mk hbF; clear hxF hbF))
              have R_ := HS.out.two_but 0 1 (by decide) rfl rfl HBF.out HGL.out w.heap.size HB0.out.size
              refine bodyPost_ret (results_ct rfl _ _ gR 28 #[.bool false, .slice AS ([] : List Int).length cS, .slice AD ([] : List Int).length cD] (0, 0) _ rfl HXF.out Try.underlying28 rfl (by kernel_rfl)) rfl ?_
              exact ⟨_, _, rfl, R_.1, R_.2, (below_step HB0.out HS.out.below).trans (HBF.out.below _ HGR.out)⟩
            · obtain ⟨e1_, e2_, e3_, e4_⟩ := H0.out HNN.out (by first | trivial | rfl)
              subst K_
              subst S1_ S2_ cd_
              clear H7 H0
              have HBD := Aside0.mk (HBD0.out HNN.out (by first | trivial | rfl))
              have HIXB := Aside0.mk (HIX0.out (by first | trivial | rfl))
              clear HBD0 HIX0
              have nS : Aside0 (Sx wz7 _ [(.blk gO #[.bool b, .slice (some ⟨gs, 0, none⟩) L1.length nc, .slice (some ⟨gE, 0, none⟩) 0 0] 28), (.row (.slice (some ⟨gE, 0, none⟩) 0 0) []), (.row (.slice (some ⟨gs, 0, none⟩) L1.length nc) S2)]) := Aside0.mk (HS.out.rowed 1 (l := []) rfl (by simp))
              clear HS 
              have HS := nS
              clear nS
              go_wp2
              go_loopw [17] (fun zz wr => ∃ (p : Nat) (A : Option Addr) (n_ c : Nat), zz = .int .i64 (p : Int) ∧ Aside0 (p ≤ bN) ∧ Aside0 ((repP lb2 la2 n aN m p).length = n_) ∧ Aside0 (Sx wz7 wr [(.blk gO #[.bool b, .slice (some ⟨gs, 0, none⟩) L1.length nc, .slice A n_ c] 28), (.row (.slice A n_ c) (repP lb2 la2 n aN m p)), (.row (.slice (some ⟨gs, 0, none⟩) L1.length nc) S2)])) (fun zz _ => bN - (intOf zz).toNat)
              case atStart => exact ⟨0, _, 0, 0, rfl, ⟨Nat.zero_le _⟩, ⟨rfl⟩, HS⟩
              case round =>
                clear HS
                obtain ⟨p, A, n_, c, rfl, hp, HN_, HS⟩ := hrel
                by_cases hlp : p < bN
                · have wp : IntKind.i64.wrap ((p : Int) + 1) = ((p + 1 : Nat) : Int) := by rw [IntWalk.i64_in _ (by have := HBN.out; omega)]; omega
                  have lp : (p : Int) < (bN : Int) := by omega
                  have HLP := Aside0.mk hlp
                  go_wp2
                  go_loopw [18] (fun zz wr => ∃ (i : Nat) (A : Option Addr) (n_ c : Nat), zz = .int .i64 (i : Int) ∧ Aside0 (i ≤ m) ∧ Aside0 (((repP lb2 la2 n aN m p) ++ repI lb2 la2 n aN p i).length = n_) ∧ Aside0 (Sx wz7 wr [(.blk gO #[.bool b, .slice (some ⟨gs, 0, none⟩) L1.length nc, .slice A n_ c] 28), (.row (.slice A n_ c) ((repP lb2 la2 n aN m p) ++ repI lb2 la2 n aN p i)), (.row (.slice (some ⟨gs, 0, none⟩) L1.length nc) S2)])) (fun zz _ => m - (intOf zz).toNat)
                  case atStart => exact ⟨0, A, n_, c, rfl, ⟨Nat.zero_le _⟩, ⟨by rw [repI, List.append_nil]; exact HN_.out⟩, ⟨by rw [repI, List.append_nil]; exact HS.out⟩⟩
                  case round =>
                    clear HS HN_
                    obtain ⟨i, A, n_, c, rfl, hi, HN_, HS⟩ := hrel
                    by_cases hlt : i < m
                    · have wi : IntKind.i64.wrap ((i : Int) + 1) = ((i + 1 : Nat) : Int) := by rw [IntWalk.i64_in _ (by have := HM.out; omega)]; omega
                      have li : (i : Int) < (m : Int) := by omega
                      have hlen_ := HLEN.out
                      have hl0 := HML.out (by omega)
                      have hixl : i % la2.length < la2.length := Nat.mod_lt _ hl0
                      have hr1 := rem_nat i la2.length
                      have hr2 : (i : Int) % (la2.length : Int) = ((i % la2.length : Nat) : Int) := rfl
                      obtain ⟨ix, hix⟩ : ∃ q, i % la2.length = q := ⟨_, rfl⟩
                      rw [hix] at hixl hr1 hr2
                      have HIXI := Aside0.mk hix
                      obtain ⟨ad, rfl, y1⟩ := Kd.at_int CA2.out (ix : Int) (by omega) (by omega)
                      clear y1
                      have hx_ := HNN.out ix hixl
                      have hx2 := (HRK.out _ (rd_memR la2 ix hixl)).2
                      obtain ⟨x_, hX⟩ : ∃ x, rd la2 (ix : Int) = x := ⟨_, rfl⟩
                      have HX := Aside0.mk hX
                      rw [hX] at hx_ hx2
                      have p2 : 0 ≤ (ix : Int) := by omega
                      have p3 : (ix : Int) < (la2.length : Int) := by omega
                      have nz1 : ((la2.length : Int) == 0) = false := beq_eq_false_iff_ne.mpr (by omega)
                      have nz2 : ¬ la2.length = 0 := by omega
                      have HL0 := Aside0.mk hixl
                      clear hlen_ hl0 hixl hix hX
                      obtain ⟨xm, hxm⟩ : ∃ v : Nat, x_ = (v : Int) := ⟨x_.toNat, by omega⟩
                      subst hxm
                      have HXM := Aside0.mk hx2
                      have HPI := Aside0.mk (And.intro HLP.out hlt)
                      clear hx_ hx2
                      go_wp2
                      go_loopw [19] (fun zz wr => ∃ (c_ : Nat) (A : Option Addr) (n_ c : Nat), zz = .int .i64 (c_ : Int) ∧ Aside0 (c_ ≤ xm) ∧ Aside0 ((((repP lb2 la2 n aN m p) ++ repI lb2 la2 n aN p i) ++ repC (repQ lb2 (p * n + i % n) aN aN) c_).length = n_) ∧ Aside0 (Sx wz7 wr [(.blk gO #[.bool b, .slice (some ⟨gs, 0, none⟩) L1.length nc, .slice A n_ c] 28), (.row (.slice A n_ c) (((repP lb2 la2 n aN m p) ++ repI lb2 la2 n aN p i) ++ repC (repQ lb2 (p * n + i % n) aN aN) c_)), (.row (.slice (some ⟨gs, 0, none⟩) L1.length nc) S2)])) (fun zz _ => xm - (intOf zz).toNat)
                      case atStart => exact ⟨0, A, n_, c, rfl, ⟨Nat.zero_le _⟩, ⟨by rw [repC, List.append_nil]; exact HN_.out⟩, ⟨by rw [repC, List.append_nil]; exact HS.out⟩⟩
                      case round =>
                        clear HS HN_
                        obtain ⟨c_, A, n_, c, rfl, hc_, HN_, HS⟩ := hrel
                        by_cases hlc : c_ < xm
                        · have wc_ : IntKind.i64.wrap ((c_ : Int) + 1) = ((c_ + 1 : Nat) : Int) := by rw [IntWalk.i64_in _ (by have := HXM.out; omega)]; omega
                          have lc_ : (c_ : Int) < (xm : Int) := by omega
                          have HCM := Aside0.mk hlc
                          go_upto_region 39 with fail
                          have nS := Aside0.mk HS.out.drew
                          clear HS
                          have HS := nS
                          clear nS
                          refine start_ (n := 11) (S := (fun w' => w'.cell? ⟨gK, 2, none⟩ = some (.slice (some ad) la2.length ca2) ∧ w'.cell? (ad.add ix) = some (.int .i64 (xm : Int)))) (ds := []) #[false, false, false, false, false, false, false, false, false, false, false] (by kernel_rfl) rfl rfl ⟨(blk_cell (blk_below HKB.out HS.out.below) 2).trans rfl, (C_at (Kd.C_below CA2.out HS.out.below) ix HL0.out).trans (by rw [HX.out])⟩ (fun hHeld => ?_)
                          refine pure_ (i := 0) (N := (some 136)) (v := ?_) (a' := ?_) #[true, false, false, false, false, false, false, false, false, false, false] rfl rfl (by kernel_rfl) (fun _ _ _ h => h) (Or.inl ⟨by rfl, ?_⟩) ?_ ?_
                          rotate_left
                          · intro w'
                            go_simp
                            with_reducible rfl
                          rotate_left
                          · simp only [Act.put, List.setIfInBounds_toArray, List.set_cons_zero, List.set_cons_succ]
                            rfl
                          refine pure_ (i := 1) (N := (some 137)) (v := ?_) (a' := ?_) #[true, true, false, false, false, false, false, false, false, false, false] rfl rfl (by kernel_rfl) (fun _ _ _ h => h) (Or.inl ⟨by rfl, ?_⟩) ?_ ?_
                          rotate_left
                          · intro w'
                            go_simp
                            with_reducible rfl
                          rotate_left
                          · simp only [Act.put, List.setIfInBounds_toArray, List.set_cons_zero, List.set_cons_succ]
                            rfl
                          refine take_ (i := 2) (N := (some 138)) (v := ?_) (a' := ?_) #[true, true, true, false, false, false, false, false, false, false, false] rfl rfl (by kernel_rfl) (fun _ _ _ h => h) (Or.inl ⟨by rfl, ?_⟩) hHeld ?_ ?_
                          rotate_left
                          · rintro w' ⟨s0, s1⟩
                            go_simp
                            with_reducible rfl
                          rotate_left
                          · simp only [Act.put, List.setIfInBounds_toArray, List.set_cons_zero, List.set_cons_succ]
                            rfl
                          refine pure_ (i := 3) (N := (some 139)) (v := ?_) (a' := ?_) #[true, true, true, true, false, false, false, false, false, false, false] rfl rfl (by kernel_rfl) (fun _ _ _ h => h) (Or.inl ⟨by rfl, ?_⟩) ?_ ?_
                          rotate_left
                          · intro w'
                            go_simp
                            with_reducible rfl
                          rotate_left
                          · simp only [Act.put, List.setIfInBounds_toArray, List.set_cons_zero, List.set_cons_succ]
                            rfl
                          refine pure_ (i := 4) (N := (some 140)) (v := ?_) (a' := ?_) #[true, true, true, true, true, false, false, false, false, false, false] rfl rfl (by kernel_rfl) (fun _ _ _ h => h) (Or.inl ⟨by rfl, ?_⟩) ?_ ?_
                          rotate_left
                          · intro w'
                            go_simp
                            with_reducible rfl
                          rotate_left
                          · simp only [Act.put, List.setIfInBounds_toArray, List.set_cons_zero, List.set_cons_succ]
                            rfl
                          refine take_ (i := 5) (N := (some 141)) (v := ?_) (a' := ?_) #[true, true, true, true, true, true, false, false, false, false, false] rfl rfl (by kernel_rfl) (fun _ _ _ h => h) (Or.inl ⟨by rfl, ?_⟩) hHeld ?_ ?_
                          rotate_left
                          · rintro w' ⟨s0, s1⟩
                            go_simp
                            with_reducible rfl
                          rotate_left
                          · simp only [Act.put, List.setIfInBounds_toArray, List.set_cons_zero, List.set_cons_succ]
                            rfl
                          refine pure_ (i := 6) (N := (some 142)) (v := ?_) (a' := ?_) #[true, true, true, true, true, true, true, false, false, false, false] rfl rfl (by kernel_rfl) (fun _ _ _ h => h) (Or.inl ⟨by rfl, ?_⟩) ?_ ?_
                          rotate_left
                          · intro w'
                            go_simp
                            with_reducible rfl
                          rotate_left
                          · simp only [Act.put, List.setIfInBounds_toArray, List.set_cons_zero, List.set_cons_succ]
                            rfl
                          refine pure_ (i := 7) (N := (some 143)) (v := ?_) (a' := ?_) #[true, true, true, true, true, true, true, true, false, false, false] rfl rfl (by kernel_rfl) (fun _ _ _ h => h) (Or.inl ⟨by rfl, ?_⟩) ?_ ?_
                          rotate_left
                          · intro w'
                            go_simp
                            with_reducible rfl
                          rotate_left
                          · simp only [Act.put, List.setIfInBounds_toArray, List.set_cons_zero, List.set_cons_succ]
                            rfl
                          refine pure_ (i := 8) (N := (some 144)) (v := ?_) (a' := ?_) #[true, true, true, true, true, true, true, true, true, false, false] rfl rfl (by kernel_rfl) (fun _ _ _ h => h) (Or.inl ⟨by rfl, ?_⟩) ?_ ?_
                          rotate_left
                          · intro w'
                            go_simp
                            with_reducible rfl
                          rotate_left
                          · simp only [Act.put, List.setIfInBounds_toArray, List.set_cons_zero, List.set_cons_succ]
                            rfl
                          refine take_ (i := 9) (N := (some 145)) (v := ?_) (a' := ?_) #[true, true, true, true, true, true, true, true, true, true, false] rfl rfl (by kernel_rfl) (fun _ _ _ h => h) (Or.inl ⟨by rfl, ?_⟩) hHeld ?_ ?_
                          rotate_left
                          · rintro w' ⟨s0, s1⟩
                            go_simp
                            with_reducible rfl
                          rotate_left
                          · simp only [Act.put, List.setIfInBounds_toArray, List.set_cons_zero, List.set_cons_succ]
                            rfl
                          refine pure_ (i := 10) (N := (some 146)) (v := ?_) (a' := ?_) #[true, true, true, true, true, true, true, true, true, true, true] rfl rfl (by kernel_rfl) (fun _ _ _ h => h) (Or.inl ⟨by rfl, ?_⟩) ?_ ?_
                          rotate_left
                          · intro w'
                            go_simp
                            with_reducible rfl
                          rotate_left
                          · simp only [Act.put, List.setIfInBounds_toArray, List.set_cons_zero, List.set_cons_succ]
                            rfl
                          refine done_ (by kernel_rfl) ?_
                          go_simp
                          go_wp2
                          go_loopw [20] (fun zz wr => ∃ (q : Nat) (A : Option Addr) (n_ c : Nat), zz = .int .i64 (q : Int) ∧ Aside0 (q ≤ aN) ∧ Aside0 (((((repP lb2 la2 n aN m p) ++ repI lb2 la2 n aN p i) ++ repC (repQ lb2 (p * n + i % n) aN aN) c_) ++ repQ lb2 (p * n + i % n) aN q).length = n_) ∧ Aside0 (Sx wz7 wr [(.blk gO #[.bool b, .slice (some ⟨gs, 0, none⟩) L1.length nc, .slice A n_ c] 28), (.row (.slice A n_ c) ((((repP lb2 la2 n aN m p) ++ repI lb2 la2 n aN p i) ++ repC (repQ lb2 (p * n + i % n) aN aN) c_) ++ repQ lb2 (p * n + i % n) aN q)), (.row (.slice (some ⟨gs, 0, none⟩) L1.length nc) S2)])) (fun zz _ => aN - (intOf zz).toNat)
                          case atStart => exact ⟨0, A, n_, c, rfl, ⟨Nat.zero_le _⟩, ⟨by rw [repQ, List.append_nil]; exact HN_.out⟩, ⟨by rw [repQ, List.append_nil]; exact HS.out⟩⟩
                          case round =>
                            clear HS HN_
                            obtain ⟨q, A, n_, c, rfl, hq, HN_, HS⟩ := hrel
                            by_cases hlq : q < aN
                            · have wq : IntKind.i64.wrap ((q : Int) + 1) = ((q + 1 : Nat) : Int) := by rw [IntWalk.i64_in _ (by have := HAN.out; omega)]; omega
                              have lq : (q : Int) < (aN : Int) := by omega
                              have hz := HIXB.out p i q HPI.out.1 HPI.out.2 hlq
                              have hbd := HBD.out p i c_ HPI.out.1 HPI.out.2 (by rw [HIXI.out, HX.out]; have := HCM.out; omega)
                              have hn_ := HN_.out
                              rw [List.length_append, repQ_len] at hn_
                              obtain ⟨x0, hx0⟩ : ∃ v, p * n = v := ⟨_, rfl⟩
                              obtain ⟨im, him⟩ : ∃ v, i % n = v := ⟨_, rfl⟩
                              obtain ⟨y0, hy0⟩ : ∃ v, (p * n + i % n) * aN = v := ⟨_, rfl⟩
                              obtain ⟨z0, hz0⟩ : ∃ v, y0 + q = v := ⟨_, rfl⟩
                              have hge : p * n + i % n ≤ (p * n + i % n) * aN := Nat.le_mul_of_pos_right _ (by omega)
                              rw [hy0] at hz
                              rw [hy0, hx0, him] at hge
                              rw [hz0] at hz
                              have hl2 := HL2.out
                              have m1 : IntKind.i64.wrap ((p : Int) * (n : Int)) = (x0 : Int) := by rw [← Int.natCast_mul, hx0, IntWalk.i64_in _ (by omega)]
                              have m2 : IntKind.i64.wrap ((x0 : Int) + (im : Int)) = ((x0 + im : Nat) : Int) := by rw [IntWalk.i64_in _ (by omega)]; omega
                              obtain ⟨u0, hu0⟩ : ∃ v, x0 + im = v := ⟨_, rfl⟩
                              rw [hu0] at m2 hge
                              have m3 : IntKind.i64.wrap ((u0 : Int) * (aN : Int)) = (y0 : Int) := by rw [← Int.natCast_mul, ← hu0, ← hx0, ← him, hy0, IntWalk.i64_in _ (by omega)]
                              have m4 : IntKind.i64.wrap ((y0 : Int) + (q : Int)) = (z0 : Int) := by rw [IntWalk.i64_in _ (by omega)]; omega
                              have r1 := rem_nat i n
                              have r2 : (i : Int) % (n : Int) = ((i % n : Nat) : Int) := rfl
                              rw [him] at r1 r2
                              have hn0 := HN0.out (by have := HPI.out.2; omega)
                              have v1 : ((n : Int) == 0) = false := beq_eq_false_iff_ne.mpr (by omega)
                              have v2 : ¬ n = 0 := by omega
                              obtain ⟨bd, rfl, yb⟩ := Kd.at_int CB2.out (z0 : Int) (by omega) (by omega)
                              clear yb
                              obtain ⟨b_, hY⟩ : ∃ v, rd lb2 (z0 : Int) = v := ⟨_, rfl⟩
                              have HY := Aside0.mk hY
                              have HZ0 := Aside0.mk hz
                              have p7 : 0 ≤ (z0 : Int) := by omega
                              have p8 : (z0 : Int) < (lb2.length : Int) := by omega
                              have HBQ := Aside0.mk hbd
                              have HNQ := Aside0.mk hn_
                              have HQA := Aside0.mk hlq
                              have HYZ := Aside0.mk (show (p * n + i % n) * aN + q = z0 by rw [hy0]; exact hz0)
                              clear hz hbd hn_ hge hx0 him hy0 hz0 hu0 hY hl2 hn0 hlq
                              go_upto_region 44 with fail
                              have nS := Aside0.mk HS.out.drew
                              clear HS
                              have HS := nS
                              clear nS
                              refine start_ (n := 21) (S := (fun w' => w'.cell? ⟨gO, 2, none⟩ = some (.slice A n_ c) ∧ w'.cell? ⟨gB, 2, none⟩ = some (.slice (some bd) lb2.length dd) ∧ w'.cell? (bd.add z0) = some (.int .i64 b_))) (ds := [20]) #[false, false, false, false, false, false, false, false, false, false, false, false, false, false, false, false, false, false, false, false, false] (by kernel_rfl) rfl rfl ⟨(blk_cell (HS.out.blk 0 rfl) 2).trans rfl, (blk_cell (blk_below HBB.out HS.out.below) 2).trans rfl, (C_at (Kd.C_below CB2.out HS.out.below) z0 HZ0.out).trans (by rw [HY.out])⟩ (fun hHeld => ?_)
                              refine pure_ (i := 0) (N := (some 154)) (v := ?_) (a' := ?_) #[true, false, false, false, false, false, false, false, false, false, false, false, false, false, false, false, false, false, false, false, false] rfl rfl (by kernel_rfl) (fun _ _ _ h => h) (Or.inl ⟨by rfl, ?_⟩) ?_ ?_
                              rotate_left
                              · intro w'
                                go_simp
                                with_reducible rfl
                              rotate_left
                              · simp only [Act.put, List.setIfInBounds_toArray, List.set_cons_zero, List.set_cons_succ]
                                rfl
                              refine take_ (i := 1) (N := (some 155)) (v := ?_) (a' := ?_) #[true, true, false, false, false, false, false, false, false, false, false, false, false, false, false, false, false, false, false, false, false] rfl rfl (by kernel_rfl) (fun _ _ _ h => h) (Or.inl ⟨by rfl, ?_⟩) hHeld ?_ ?_
                              rotate_left
                              · rintro w' ⟨s0, s1, s2⟩
                                go_simp
                                with_reducible rfl
                              rotate_left
                              · simp only [Act.put, List.setIfInBounds_toArray, List.set_cons_zero, List.set_cons_succ]
                                rfl
                              refine pure_ (i := 2) (N := (some 156)) (v := ?_) (a' := ?_) #[true, true, true, false, false, false, false, false, false, false, false, false, false, false, false, false, false, false, false, false, false] rfl rfl (by kernel_rfl) (fun _ _ _ h => h) (Or.inl ⟨by rfl, ?_⟩) ?_ ?_
                              rotate_left
                              · intro w'
                                go_simp
                                with_reducible rfl
                              rotate_left
                              · simp only [Act.put, List.setIfInBounds_toArray, List.set_cons_zero, List.set_cons_succ]
                                rfl
                              refine take_ (i := 3) (N := (some 157)) (v := ?_) (a' := ?_) #[true, true, true, true, false, false, false, false, false, false, false, false, false, false, false, false, false, false, false, false, false] rfl rfl (by kernel_rfl) (fun _ _ _ h => h) (Or.inl ⟨by rfl, ?_⟩) hHeld ?_ ?_
                              rotate_left
                              · rintro w' ⟨s0, s1, s2⟩
                                go_simp
                                with_reducible rfl
                              rotate_left
                              · simp only [Act.put, List.setIfInBounds_toArray, List.set_cons_zero, List.set_cons_succ]
                                rfl
                              refine pure_ (i := 4) (N := (some 158)) (v := ?_) (a' := ?_) #[true, true, true, true, true, false, false, false, false, false, false, false, false, false, false, false, false, false, false, false, false] rfl rfl (by kernel_rfl) (fun _ _ _ h => h) (Or.inl ⟨by rfl, ?_⟩) ?_ ?_
                              rotate_left
                              · intro w'
                                go_simp
                                with_reducible rfl
                              rotate_left
                              · simp only [Act.put, List.setIfInBounds_toArray, List.set_cons_zero, List.set_cons_succ]
                                rfl
                              refine pure_ (i := 5) (N := (some 159)) (v := ?_) (a' := ?_) #[true, true, true, true, true, true, false, false, false, false, false, false, false, false, false, false, false, false, false, false, false] rfl rfl (by kernel_rfl) (fun _ _ _ h => h) (Or.inl ⟨by rfl, ?_⟩) ?_ ?_
                              rotate_left
                              · intro w'
                                go_simp
                                with_reducible rfl
                              rotate_left
                              · simp only [Act.put, List.setIfInBounds_toArray, List.set_cons_zero, List.set_cons_succ]
                                rfl
                              refine pure_ (i := 6) (N := (some 160)) (v := ?_) (a' := ?_) #[true, true, true, true, true, true, true, false, false, false, false, false, false, false, false, false, false, false, false, false, false] rfl rfl (by kernel_rfl) (fun _ _ _ h => h) (Or.inl ⟨by rfl, ?_⟩) ?_ ?_
                              rotate_left
                              · intro w'
                                go_simp
                                with_reducible rfl
                              rotate_left
                              · simp only [Act.put, List.setIfInBounds_toArray, List.set_cons_zero, List.set_cons_succ]
                                rfl
                              refine pure_ (i := 7) (N := (some 161)) (v := ?_) (a' := ?_) #[true, true, true, true, true, true, true, true, false, false, false, false, false, false, false, false, false, false, false, false, false] rfl rfl (by kernel_rfl) (fun _ _ _ h => h) (Or.inl ⟨by rfl, ?_⟩) ?_ ?_
                              rotate_left
                              · intro w'
                                go_simp
                                with_reducible rfl
                              rotate_left
                              · simp only [Act.put, List.setIfInBounds_toArray, List.set_cons_zero, List.set_cons_succ]
                                rfl
                              refine pure_ (i := 8) (N := (some 162)) (v := ?_) (a' := ?_) #[true, true, true, true, true, true, true, true, true, false, false, false, false, false, false, false, false, false, false, false, false] rfl rfl (by kernel_rfl) (fun _ _ _ h => h) (Or.inl ⟨by rfl, ?_⟩) ?_ ?_
                              rotate_left
                              · intro w'
                                go_simp
                                with_reducible rfl
                              rotate_left
                              · simp only [Act.put, List.setIfInBounds_toArray, List.set_cons_zero, List.set_cons_succ]
                                rfl
                              refine pure_ (i := 9) (N := (some 163)) (v := ?_) (a' := ?_) #[true, true, true, true, true, true, true, true, true, true, false, false, false, false, false, false, false, false, false, false, false] rfl rfl (by kernel_rfl) (fun _ _ _ h => h) (Or.inl ⟨by rfl, ?_⟩) ?_ ?_
                              rotate_left
                              · intro w'
                                go_simp
                                with_reducible rfl
                              rotate_left
                              · simp only [Act.put, List.setIfInBounds_toArray, List.set_cons_zero, List.set_cons_succ]
                                rfl
                              refine pure_ (i := 10) (N := (some 164)) (v := ?_) (a' := ?_) #[true, true, true, true, true, true, true, true, true, true, true, false, false, false, false, false, false, false, false, false, false] rfl rfl (by kernel_rfl) (fun _ _ _ h => h) (Or.inl ⟨by rfl, ?_⟩) ?_ ?_
                              rotate_left
                              · intro w'
                                go_simp
                                with_reducible rfl
                              rotate_left
                              · simp only [Act.put, List.setIfInBounds_toArray, List.set_cons_zero, List.set_cons_succ]
                                rfl
                              refine pure_ (i := 11) (N := (some 165)) (v := ?_) (a' := ?_) #[true, true, true, true, true, true, true, true, true, true, true, true, false, false, false, false, false, false, false, false, false] rfl rfl (by kernel_rfl) (fun _ _ _ h => h) (Or.inl ⟨by rfl, ?_⟩) ?_ ?_
                              rotate_left
                              · intro w'
                                go_simp
                                with_reducible rfl
                              rotate_left
                              · simp only [Act.put, List.setIfInBounds_toArray, List.set_cons_zero, List.set_cons_succ]
                                rfl
                              refine pure_ (i := 12) (N := (some 166)) (v := ?_) (a' := ?_) #[true, true, true, true, true, true, true, true, true, true, true, true, true, false, false, false, false, false, false, false, false] rfl rfl (by kernel_rfl) (fun _ _ _ h => h) (Or.inl ⟨by rfl, ?_⟩) ?_ ?_
                              rotate_left
                              · intro w'
                                go_simp
                                with_reducible rfl
                              rotate_left
                              · simp only [Act.put, List.setIfInBounds_toArray, List.set_cons_zero, List.set_cons_succ]
                                rfl
                              refine pure_ (i := 13) (N := (some 167)) (v := ?_) (a' := ?_) #[true, true, true, true, true, true, true, true, true, true, true, true, true, true, false, false, false, false, false, false, false] rfl rfl (by kernel_rfl) (fun _ _ _ h => h) (Or.inl ⟨by rfl, ?_⟩) ?_ ?_
                              rotate_left
                              · intro w'
                                go_simp
                                with_reducible rfl
                              rotate_left
                              · simp only [Act.put, List.setIfInBounds_toArray, List.set_cons_zero, List.set_cons_succ]
                                rfl
                              refine pure_ (i := 14) (N := (some 168)) (v := ?_) (a' := ?_) #[true, true, true, true, true, true, true, true, true, true, true, true, true, true, true, false, false, false, false, false, false] rfl rfl (by kernel_rfl) (fun _ _ _ h => h) (Or.inl ⟨by rfl, ?_⟩) ?_ ?_
                              rotate_left
                              · intro w'
                                go_simp
                                with_reducible rfl
                              rotate_left
                              · simp only [Act.put, List.setIfInBounds_toArray, List.set_cons_zero, List.set_cons_succ]
                                rfl
                              refine pure_ (i := 15) (N := (some 169)) (v := ?_) (a' := ?_) #[true, true, true, true, true, true, true, true, true, true, true, true, true, true, true, true, false, false, false, false, false] rfl rfl (by kernel_rfl) (fun _ _ _ h => h) (Or.inl ⟨by rfl, ?_⟩) ?_ ?_
                              rotate_left
                              · intro w'
                                go_simp
                                with_reducible rfl
                              rotate_left
                              · simp only [Act.put, List.setIfInBounds_toArray, List.set_cons_zero, List.set_cons_succ]
                                rfl
                              refine take_ (i := 16) (N := (some 170)) (v := ?_) (a' := ?_) #[true, true, true, true, true, true, true, true, true, true, true, true, true, true, true, true, true, false, false, false, false] rfl rfl (by kernel_rfl) (fun _ _ _ h => h) (Or.inl ⟨by rfl, ?_⟩) hHeld ?_ ?_
                              rotate_left
                              · rintro w' ⟨s0, s1, s2⟩
                                go_simp
                                with_reducible rfl
                              rotate_left
                              · simp only [Act.put, List.setIfInBounds_toArray, List.set_cons_zero, List.set_cons_succ]
                                rfl
                              refine one_ (i := 17) (N := (some 171)) #[true, true, true, true, true, true, true, true, true, true, true, true, true, true, true, true, true, true, false, false, false] rfl rfl (by kernel_rfl) (by decide) (fun K hK => ?_)
                              refine lit_step (by rfl) rfl #[.int .i64 b_] 3 1 (by first | (go_simp; done) | (go_simp; rfl)) ?_
                              intro gM wM hgM hxM hbM
                              have nS : Aside0 (Sx wz7 wM [(.blk gM #[.int .i64 b_] 3), (.blk gO #[.bool b, .slice (some ⟨gs, 0, none⟩) L1.length nc, .slice A n_ c] 28), (.row (.slice A n_ c) ((((repP lb2 la2 n aN m p) ++ repI lb2 la2 n aN p i) ++ repC (repQ lb2 (p * n + i % n) aN aN) c_) ++ repQ lb2 (p * n + i % n) aN q)), (.row (.slice (some ⟨gs, 0, none⟩) L1.length nc) S2)]) := Aside0.mk (HS.out.box hgM.symm hxM hbM)
                              clear HS hgM hxM hbM
                              have HS := nS
                              clear nS
                              refine hK.out _ _ ⟨(blk_cell (HS.out.blk 1 rfl) 2).trans rfl, (blk_cell (blk_below HBB.out HS.out.below) 2).trans rfl, (C_at (Kd.C_below CB2.out HS.out.below) z0 HZ0.out).trans (by rw [HY.out])⟩ (fun hHeld => ?_)
                              clear hK K
                              refine norm_ (a' := ?_) ?_ ?_
                              rotate_left
                              · show Act.put _ (some 171) _ = _
                                simp only [Act.put, List.setIfInBounds_toArray, List.set_cons_zero, List.set_cons_succ]
                                rfl
                              refine one_ (i := 18) (N := (some 172)) #[true, true, true, true, true, true, true, true, true, true, true, true, true, true, true, true, true, true, true, false, false] rfl rfl (by kernel_rfl) (by decide) (fun K hK => ?_)
                              refine HS.out.appendRows_step 2 rfl n_ (n_ + 1) HN_.out (by rfl) (.tmp 155) (.tmp 171) rfl Try.underlying22 info3 (some ⟨gM, 0, none⟩) 1 1 [b_] _ rfl rfl rfl (rowI_C (l := [b_]) (HS.out.blk 0 rfl) (by simp)) rfl rfl (by have := HBQ.out; have := HNQ.out; have := HQA.out; omega) ?_
                              intro A2 c2 wJ nJ
                              have nS : Aside0 (Sx wz7 wJ [(.blk gM #[.int .i64 b_] 3), (.blk gO #[.bool b, .slice (some ⟨gs, 0, none⟩) L1.length nc, .slice A n_ c] 28), (.row (.slice A2 (n_ + 1) c2) (((((repP lb2 la2 n aN m p) ++ repI lb2 la2 n aN p i) ++ repC (repQ lb2 (p * n + i % n) aN aN) c_) ++ repQ lb2 (p * n + i % n) aN q) ++ [b_])), (.row (.slice (some ⟨gs, 0, none⟩) L1.length nc) S2)]) := Aside0.mk nJ
                              clear HS nJ
                              have HS := nS
                              clear nS
                              refine hK.out _ _ ⟨(blk_cell (HS.out.blk 1 rfl) 2).trans rfl, (blk_cell (blk_below HBB.out HS.out.below) 2).trans rfl, (C_at (Kd.C_below CB2.out HS.out.below) z0 HZ0.out).trans (by rw [HY.out])⟩ (fun hHeld => ?_)
                              clear hK K
                              refine norm_ (a' := ?_) ?_ ?_
                              rotate_left
                              · show Act.put _ (some 172) _ = _
                                simp only [Act.put, List.setIfInBounds_toArray, List.set_cons_zero, List.set_cons_succ]
                                rfl
                              refine pure_ (i := 19) (N := (some 173)) (v := ?_) (a' := ?_) #[true, true, true, true, true, true, true, true, true, true, true, true, true, true, true, true, true, true, true, true, false] rfl rfl (by kernel_rfl) (fun _ _ _ h => h) (Or.inl ⟨by rfl, ?_⟩) ?_ ?_
                              rotate_left
                              · intro w'
                                go_simp
                                with_reducible rfl
                              rotate_left
                              · simp only [Act.put, List.setIfInBounds_toArray, List.set_cons_zero, List.set_cons_succ]
                                rfl
                              refine last_ (i := 20) (N := none) #[true, true, true, true, true, true, true, true, true, true, true, true, true, true, true, true, true, true, true, true, true] rfl rfl (by kernel_rfl) (by decide) (fun K hK => ?_)
                              refine store_cell_step (by rfl) 22 (.tmp 173) (.tmp 172) rfl gO 2 rfl (.slice A2 (n_ + 1) c2) rfl #[.bool b, .slice (some ⟨gs, 0, none⟩) L1.length nc, .slice A n_ c] 28 (HS.out.blk 1 rfl) (show 2 < 3 from by decide) rfl (by kernel_rfl) ?_
                              intro wz hxz hbz
                              have nS : Aside0 (Sx wz7 wz [(.blk gM #[.int .i64 b_] 3), (.blk gO #[.bool b, .slice (some ⟨gs, 0, none⟩) L1.length nc, .slice A2 (n_ + 1) c2] 28), (.row (.slice A2 (n_ + 1) c2) (((((repP lb2 la2 n aN m p) ++ repI lb2 la2 n aN p i) ++ repC (repQ lb2 (p * n + i % n) aN aN) c_) ++ repQ lb2 (p * n + i % n) aN q) ++ [b_])), (.row (.slice (some ⟨gs, 0, none⟩) L1.length nc) S2)]) := Aside0.mk (HS.out.put 1 rfl hxz hbz)
                              clear HS hxz hbz
                              have HS := nS
                              clear nS
                              refine hK.out _ _ ?_
                              clear hK K
                              refine done_ (by kernel_rfl) ?_
                              go_simp
                              go_wp2
                              go_roundw
                              case rel => first | exact ⟨q + 1, A2, n_ + 1, c2, (by first | rfl | (push_cast; rfl)), ⟨by have := HQA.out; omega⟩, ⟨by rw [repQ, ← List.append_assoc, List.length_append, HN_.out]; rfl⟩, ⟨by rw [repQ, ← List.append_assoc, HYZ.out, HY.out]; exact HS.out.sub (List.sublist_cons_self _ _)⟩⟩ | exact ⟨q + 1, (by first | rfl | (push_cast; rfl)), ⟨by have := HQA.out; omega⟩, A2, n_ + 1, ⟨by have h_ := HN_.out; (try simp only [repQ, repC, repI, repP, HIXI.out, HX.out, Int.toNat_natCast, List.length_append, List.length_singleton] at h_ ⊢); omega⟩, c2, ⟨by simp only [repQ, ← List.append_assoc, HYZ.out, HY.out]; exact HS.out.sub (List.sublist_cons_self _ _)⟩⟩
                              case measure => have := HQA.out; simp [intOf]; omega
                            · have eq_ : q = aN := by have := hq.out; omega
                              subst q
                              have lq : ¬ (aN : Int) < (aN : Int) := by omega
                              clear hlq
                              go_wp2
                              go_roundw
                              case rel => first | exact ⟨c_ + 1, A, n_, c, (by first | rfl | (push_cast; rfl)), ⟨by omega⟩, ⟨by rw [repC, ← List.append_assoc]; exact HN_.out⟩, ⟨by rw [repC, ← List.append_assoc]; exact HS.out⟩⟩ | exact ⟨c_ + 1, (by first | rfl | (push_cast; rfl)), ⟨by omega⟩, A, n_, ⟨by have h_ := HN_.out; (try simp only [repQ, repC, repI, repP, HIXI.out, HX.out, Int.toNat_natCast, List.length_append, List.length_singleton] at h_ ⊢); omega⟩, c, ⟨by simp only [repC, ← List.append_assoc]; exact HS.out⟩⟩
                              case measure => simp [intOf]; omega
                        · have ec__ : c_ = xm := by have := hc_.out; omega
                          subst c_
                          have lc_ : ¬ (xm : Int) < (xm : Int) := by omega
                          clear hlc
                          go_upto_region 39 with fail
                          have nS := Aside0.mk HS.out.drew
                          clear HS
                          have HS := nS
                          clear nS
                          refine start_ (n := 11) (S := (fun w' => w'.cell? ⟨gK, 2, none⟩ = some (.slice (some ad) la2.length ca2) ∧ w'.cell? (ad.add ix) = some (.int .i64 (xm : Int)))) (ds := []) #[false, false, false, false, false, false, false, false, false, false, false] (by kernel_rfl) rfl rfl ⟨(blk_cell (blk_below HKB.out HS.out.below) 2).trans rfl, (C_at (Kd.C_below CA2.out HS.out.below) ix HL0.out).trans (by rw [HX.out])⟩ (fun hHeld => ?_)
                          refine pure_ (i := 0) (N := (some 136)) (v := ?_) (a' := ?_) #[true, false, false, false, false, false, false, false, false, false, false] rfl rfl (by kernel_rfl) (fun _ _ _ h => h) (Or.inl ⟨by rfl, ?_⟩) ?_ ?_
                          rotate_left
                          · intro w'
                            go_simp
                            with_reducible rfl
                          rotate_left
                          · simp only [Act.put, List.setIfInBounds_toArray, List.set_cons_zero, List.set_cons_succ]
                            rfl
                          refine pure_ (i := 1) (N := (some 137)) (v := ?_) (a' := ?_) #[true, true, false, false, false, false, false, false, false, false, false] rfl rfl (by kernel_rfl) (fun _ _ _ h => h) (Or.inl ⟨by rfl, ?_⟩) ?_ ?_
                          rotate_left
                          · intro w'
                            go_simp
                            with_reducible rfl
                          rotate_left
                          · simp only [Act.put, List.setIfInBounds_toArray, List.set_cons_zero, List.set_cons_succ]
                            rfl
                          refine take_ (i := 2) (N := (some 138)) (v := ?_) (a' := ?_) #[true, true, true, false, false, false, false, false, false, false, false] rfl rfl (by kernel_rfl) (fun _ _ _ h => h) (Or.inl ⟨by rfl, ?_⟩) hHeld ?_ ?_
                          rotate_left
                          · rintro w' ⟨s0, s1⟩
                            go_simp
                            with_reducible rfl
                          rotate_left
                          · simp only [Act.put, List.setIfInBounds_toArray, List.set_cons_zero, List.set_cons_succ]
                            rfl
                          refine pure_ (i := 3) (N := (some 139)) (v := ?_) (a' := ?_) #[true, true, true, true, false, false, false, false, false, false, false] rfl rfl (by kernel_rfl) (fun _ _ _ h => h) (Or.inl ⟨by rfl, ?_⟩) ?_ ?_
                          rotate_left
                          · intro w'
                            go_simp
                            with_reducible rfl
                          rotate_left
                          · simp only [Act.put, List.setIfInBounds_toArray, List.set_cons_zero, List.set_cons_succ]
                            rfl
                          refine pure_ (i := 4) (N := (some 140)) (v := ?_) (a' := ?_) #[true, true, true, true, true, false, false, false, false, false, false] rfl rfl (by kernel_rfl) (fun _ _ _ h => h) (Or.inl ⟨by rfl, ?_⟩) ?_ ?_
                          rotate_left
                          · intro w'
                            go_simp
                            with_reducible rfl
                          rotate_left
                          · simp only [Act.put, List.setIfInBounds_toArray, List.set_cons_zero, List.set_cons_succ]
                            rfl
                          refine take_ (i := 5) (N := (some 141)) (v := ?_) (a' := ?_) #[true, true, true, true, true, true, false, false, false, false, false] rfl rfl (by kernel_rfl) (fun _ _ _ h => h) (Or.inl ⟨by rfl, ?_⟩) hHeld ?_ ?_
                          rotate_left
                          · rintro w' ⟨s0, s1⟩
                            go_simp
                            with_reducible rfl
                          rotate_left
                          · simp only [Act.put, List.setIfInBounds_toArray, List.set_cons_zero, List.set_cons_succ]
                            rfl
                          refine pure_ (i := 6) (N := (some 142)) (v := ?_) (a' := ?_) #[true, true, true, true, true, true, true, false, false, false, false] rfl rfl (by kernel_rfl) (fun _ _ _ h => h) (Or.inl ⟨by rfl, ?_⟩) ?_ ?_
                          rotate_left
                          · intro w'
                            go_simp
                            with_reducible rfl
                          rotate_left
                          · simp only [Act.put, List.setIfInBounds_toArray, List.set_cons_zero, List.set_cons_succ]
                            rfl
                          refine pure_ (i := 7) (N := (some 143)) (v := ?_) (a' := ?_) #[true, true, true, true, true, true, true, true, false, false, false] rfl rfl (by kernel_rfl) (fun _ _ _ h => h) (Or.inl ⟨by rfl, ?_⟩) ?_ ?_
                          rotate_left
                          · intro w'
                            go_simp
                            with_reducible rfl
                          rotate_left
                          · simp only [Act.put, List.setIfInBounds_toArray, List.set_cons_zero, List.set_cons_succ]
                            rfl
                          refine pure_ (i := 8) (N := (some 144)) (v := ?_) (a' := ?_) #[true, true, true, true, true, true, true, true, true, false, false] rfl rfl (by kernel_rfl) (fun _ _ _ h => h) (Or.inl ⟨by rfl, ?_⟩) ?_ ?_
                          rotate_left
                          · intro w'
                            go_simp
                            with_reducible rfl
                          rotate_left
                          · simp only [Act.put, List.setIfInBounds_toArray, List.set_cons_zero, List.set_cons_succ]
                            rfl
                          refine take_ (i := 9) (N := (some 145)) (v := ?_) (a' := ?_) #[true, true, true, true, true, true, true, true, true, true, false] rfl rfl (by kernel_rfl) (fun _ _ _ h => h) (Or.inl ⟨by rfl, ?_⟩) hHeld ?_ ?_
                          rotate_left
                          · rintro w' ⟨s0, s1⟩
                            go_simp
                            with_reducible rfl
                          rotate_left
                          · simp only [Act.put, List.setIfInBounds_toArray, List.set_cons_zero, List.set_cons_succ]
                            rfl
                          refine pure_ (i := 10) (N := (some 146)) (v := ?_) (a' := ?_) #[true, true, true, true, true, true, true, true, true, true, true] rfl rfl (by kernel_rfl) (fun _ _ _ h => h) (Or.inl ⟨by rfl, ?_⟩) ?_ ?_
                          rotate_left
                          · intro w'
                            go_simp
                            with_reducible rfl
                          rotate_left
                          · simp only [Act.put, List.setIfInBounds_toArray, List.set_cons_zero, List.set_cons_succ]
                            rfl
                          refine done_ (by kernel_rfl) ?_
                          go_simp
                          go_wp2
                          go_roundw
                          case rel => first | exact ⟨i + 1, A, n_, c, (by first | rfl | (push_cast; rfl)), ⟨by omega⟩, ⟨by rw [repI, HIXI.out, HX.out, Int.toNat_natCast, ← List.append_assoc]; exact HN_.out⟩, ⟨by rw [repI, HIXI.out, HX.out, Int.toNat_natCast, ← List.append_assoc]; exact HS.out⟩⟩ | exact ⟨i + 1, (by first | rfl | (push_cast; rfl)), ⟨by omega⟩, A, n_, ⟨by have h_ := HN_.out; (try simp only [repQ, repC, repI, repP, HIXI.out, HX.out, Int.toNat_natCast, List.length_append, List.length_singleton] at h_ ⊢); omega⟩, c, ⟨by simp only [repI, HIXI.out, HX.out, Int.toNat_natCast, ← List.append_assoc]; exact HS.out⟩⟩
                          case measure => simp [intOf]; omega
                    · have ei_ : i = m := by have := hi.out; omega
                      subst i
                      have li : ¬ (m : Int) < (m : Int) := by omega
                      clear hlt
                      go_wp2
                      go_roundw
                      case rel => first | exact ⟨p + 1, A, n_, c, (by first | rfl | (push_cast; rfl)), ⟨by omega⟩, ⟨by rw [repP]; exact HN_.out⟩, ⟨by rw [repP]; exact HS.out⟩⟩ | exact ⟨p + 1, (by first | rfl | (push_cast; rfl)), ⟨by omega⟩, A, n_, ⟨by have h_ := HN_.out; (try simp only [repQ, repC, repI, repP, HIXI.out, HX.out, Int.toNat_natCast, List.length_append, List.length_singleton] at h_ ⊢); omega⟩, c, ⟨by simp only [repP]; exact HS.out⟩⟩
                      case measure => simp [intOf]; omega
                · have ep_ : p = bN := by have := hp.out; omega
                  subst p
                  have lp : ¬ (bN : Int) < (bN : Int) := by omega
                  clear hlp
                  go_wp2_with (first | ((with_reducible refine gate_dst (N := 174) rfl ?_); refine wpList_load_row rfl 28 (.tmp 16) rfl gO rfl 28 #[.bool b, .slice (some ⟨gs, 0, none⟩) L1.length nc, .slice A n_ c] (0, 0) _ (HS.out.blk 0 rfl) Try.underlying28 rfl (by kernel_rfl) ?_) | ((with_reducible refine gate_store rfl ?_); refine store_named rfl 28 (.tmp 6) (.tmp 174) rfl gR #[.bool b, .slice (some ⟨gs, 0, none⟩) L1.length nc, .slice A n_ c] rfl rfl 28 #[.bool false, .slice none 0 0, .slice none 0 0] (blk_below HRB.out HS.out.below) (by kernel_rfl) rfl (by simp [Value.oneCell']) ?_; intro wF hxF hbF; have HXF := Aside0.mk hxF; have HBF := Aside0.mk hbF; clear hxF hbF))
                  have R_ := HS.out.two_but 2 1 (by decide) rfl rfl HBF.out HGL.out w.heap.size HB0.out.size
                  refine bodyPost_ret (results_ct rfl _ _ gR 28 #[.bool b, .slice (some ⟨gs, 0, none⟩) L1.length nc, .slice A n_ c] (0, 0) _ rfl HXF.out Try.underlying28 rfl (by kernel_rfl)) rfl ?_
                  exact ⟨_, _, rfl, R_.1, R_.2, (below_step HB0.out HS.out.below).trans (HBF.out.below _ HGR.out)⟩
end Go.Proofs.Ytehfcnndjhjkoaa.PA

namespace Go.Proofs.Ytehfcnndjhjkoaa.PA
open Go.RowKit Go.Proofs.YtehfcnndjhjkoaaW.PrintWords Go.Proofs.YtehfcnndjhjkoaaW.PrintLast Go.Proofs.YtehfcnndjhjkoaaW.PrintMore
set_option linter.unusedVariables false
set_option linter.unusedSimpArgs false
theorem shGo_pre : ∀ (p : List Int) (f y : Int), shGo f (p ++ [y]) = true → shGo f p = true
  | [], f, y, h => rfl
  | x :: p, f, y, h => by
    simp only [List.cons_append, shGo, Bool.and_eq_true, decide_eq_true_eq] at h ⊢
    refine ⟨h.1, ?_⟩
    have h2 := h.2
    by_cases hx : x = 0
    · rw [if_pos hx] at h2 ⊢; exact shGo_pre p f y h2
    · rw [if_neg hx] at h2 ⊢
      simp only [Bool.and_eq_true, decide_eq_true_eq] at h2 ⊢
      exact ⟨h2.1, shGo_pre p (f * x) y h2.2⟩
/-- A shape's last number and what stands before it. -/
theorem sh_last {L : List Int} (h : shOk L = true) (h0 : L.length ≠ 0) : ∃ (P : List Int) (m N : Nat), L = P ++ [(m : Int)] ∧ L.dropLast = P ∧ lastOf L = (m : Int) ∧ shOk P = true ∧ prod P = (N : Int) ∧ N ≤ 10000 ∧ m ≤ 10000 ∧ P.length ≤ 5 ∧ prod L = ((N * m : Nat) : Int) := by
  have hne : L ≠ [] := by intro e; subst e; simp at h0
  obtain ⟨P, y, rfl⟩ : ∃ p y, L = p ++ [y] := ⟨L.dropLast, L.getLast hne, (List.dropLast_concat_getLast hne).symm⟩
  have hr := shOk_range h y (by simp)
  have h5 := shOk_len h
  have hP : shOk P = true := by
    simp only [shOk, Bool.and_eq_true, decide_eq_true_eq] at h ⊢
    refine ⟨by have := h.1; simp at this; omega, shGo_pre P 1 y h.2⟩
  have hp := shOk_prod hP
  refine ⟨P, y.toNat, (prod P).toNat, by rw [Int.toNat_of_nonneg hr.1], by simp, ?_, hP, by omega, by omega, by omega, by simp at h5; omega, ?_⟩
  · simp only [lastOf, List.length_append, List.length_singleton]
    rw [show ((P.length + 1 : Nat) : Int) - 1 = (P.length : Int) by omega, rd_mid P [] y]; omega
  · rw [prod_app1, Int.natCast_mul, Int.toNat_of_nonneg hp.1, Int.toNat_of_nonneg hr.1]
theorem cat_one {a : Bool} {l1 l2 : List Int} (oa : arrOk a l1 l2 = true) (h : l1.length = 0) : l2.length = 1 := by
  have pa := arrOk_prod oa
  have e1 : l1 = [] := List.length_eq_zero_iff.1 h
  subst e1
  simp [prod] at pa; omega
end Go.Proofs.Ytehfcnndjhjkoaa.PA

namespace Go.Proofs.Ytehfcnndjhjkoaa.PA
open Go.RowKit Go.Proofs.YtehfcnndjhjkoaaW.PrintWords Go.Proofs.YtehfcnndjhjkoaaW.PrintLast Go.Proofs.YtehfcnndjhjkoaaW.PrintMore
set_option linter.unusedVariables false
set_option linter.unusedSimpArgs false
def repL1 (l1 : List Int) : List Int := if l1.length = 0 then [1] else l1
def axT (first : Bool) (L1 : List Int) : Nat := if first = true then 0 else L1.length - 1
def repM (n : Nat) (k2 : List Int) : Nat := if n = 1 then k2.length else n
def oftenL (n : Nat) (k2 : List Int) : List Int := if k2.length = 1 then List.replicate n (rd k2 0) else k2
theorem flat_map_ {α β γ : Type} (f : α → β) (g : β → List γ) : ∀ l : List α, (l.map f).flatMap g = l.flatMap fun a => g (f a)
  | [] => rfl
  | a :: l => by simp only [List.map_cons, List.flatMap_cons, flat_map_ f g l]
theorem flat_congr_ {α β : Type} {f g : α → List β} : ∀ {l : List α}, (∀ a ∈ l, f a = g a) → l.flatMap f = l.flatMap g
  | [], _ => rfl
  | a :: l, h => by rw [List.flatMap_cons, List.flatMap_cons, h a List.mem_cons_self, flat_congr_ fun b hb => h b (List.mem_cons_of_mem _ hb)]
theorem range_mul (B : Nat) (g : Nat → Int) : ∀ A : Nat, (List.range (A * B)).map g = (List.range A).flatMap fun i => (List.range B).map fun j => g (i * B + j)
  | 0 => by simp
  | A + 1 => by
    rw [Nat.succ_mul, List.range_succ, List.flatMap_append, ← range_mul B g A, List.range_add, List.map_append, List.map_map]
    simp [Function.comp_def]
theorem fromL_range (sh s : List Int) (f : Nat → Int → Int) : ∀ N, fromL sh s f N = (List.range N).map fun u => fromOne sh f (idxL s u)
  | 0 => rfl
  | N + 1 => by rw [fromL, fromL_range sh s f N, List.range_succ, List.map_append]; rfl
theorem repQ_range (l : List Int) (u a : Nat) : ∀ q, repQ l u a q = (List.range q).map fun j => rd l ((u * a + j : Nat) : Int)
  | 0 => rfl
  | q + 1 => by rw [repQ, repQ_range l u a q, List.range_succ, List.map_append]; rfl
theorem repP_range (l k : List Int) (n a m : Nat) : ∀ b, repP l k n a m b = (List.range b).flatMap fun p => repI l k n a p m
  | 0 => rfl
  | b + 1 => by rw [repP, repP_range l k n a m b, List.range_succ, List.flatMap_append]; simp
theorem range_rd (l : List Int) : (List.range l.length).map (fun s : Nat => rd l (s : Int)) = l := by
  apply List.ext_getElem
  · simp
  · intro i h1 h2
    simp [rd, h2]
theorem flat_rep (g : Int → List Int) (v : Int) : ∀ c : Nat, (List.replicate c v).flatMap g = repC (g v) c
  | 0 => rfl
  | c + 1 => by rw [List.replicate_succ', List.flatMap_append, flat_rep g v c, repC]; simp
/-- What is known of the counts and of the elements' number. -/
structure CntOk (n : Nat) (k2 L : List Int) (m : Nat) : Prop where
  len : L.length = m
  at_ : ∀ j : Nat, j < m → rd L (j : Int) = rd k2 ((j % k2.length : Nat) : Int)
  pos : ∀ j : Nat, j < m → 0 < k2.length
  src : ∀ j : Nat, j < m → 0 < n ∧ (if (n : Int) - 1 < (j : Int) then (n : Int) - 1 else (j : Int)) = ((j % n : Nat) : Int)
theorem rd_rep (n : Nat) (v : Int) (j : Nat) (h : j < n) : rd (List.replicate n v) (j : Int) = v := by simp [rd, List.getD_eq_getElem?_getD, h]
theorem cntOk (n : Nat) (k2 : List Int) (h : n = 1 ∨ k2.length = 1 ∨ k2.length = n) : CntOk n k2 (oftenL n k2) (repM n k2) := by
  unfold oftenL repM
  by_cases h1 : k2.length = 1
  · rw [if_pos h1, h1]
    have e : (if n = 1 then 1 else n) = n := by split <;> omega
    rw [e]
    refine ⟨by simp, fun j hj => ?_, fun j hj => by omega, fun j hj => ⟨by omega, ?_⟩⟩
    · rw [rd_rep _ _ _ hj, h1, Nat.mod_one]; rfl
    · rw [Nat.mod_eq_of_lt hj, if_neg (by omega)]
  · rw [if_neg h1]
    by_cases h2 : n = 1
    · rw [if_pos h2]
      subst h2
      refine ⟨rfl, fun j hj => by rw [Nat.mod_eq_of_lt hj], fun j hj => by omega, fun j hj => ⟨by omega, ?_⟩⟩
      rw [Nat.mod_one]
      split <;> omega
    · rw [if_neg h2]
      have h3 : k2.length = n := by omega
      refine ⟨h3, fun j hj => by rw [h3, Nat.mod_eq_of_lt hj], fun j hj => by omega, fun j hj => ⟨by omega, ?_⟩⟩
      rw [Nat.mod_eq_of_lt hj, if_neg (by omega)]
section
variable {n : Nat} {k2 L : List Int} {m : Nat} (hc : CntOk n k2 L m) (hn : ∀ i : Nat, i < k2.length → 0 ≤ rd k2 (i : Int))
include hc hn
theorem cnt_nn (j : Nat) (h : j < m) : 0 ≤ rd k2 ((j % k2.length : Nat) : Int) := hn _ (Nat.mod_lt _ (hc.pos j h))
theorem sumS_nn : ∀ j, j ≤ m → 0 ≤ sumS k2 j
  | 0, _ => by simp [sumS]
  | j + 1, h => by
    have := sumS_nn j (by omega)
    have := cnt_nn hc hn j (by omega)
    simp only [sumS]; omega
theorem sumS_mono (i : Nat) : ∀ d, i + d ≤ m → sumS k2 i ≤ sumS k2 (i + d)
  | 0, _ => by simp
  | d + 1, h => by
    have := sumS_mono i d (by omega)
    have := cnt_nn hc hn (i + d) (by omega)
    rw [← Nat.add_assoc]; simp only [sumS]; omega
theorem totU_eq : ∀ j, j ≤ m → totU L j = if sumS k2 j ≤ 10000 then sumS k2 j else 10001
  | 0, _ => by simp [totU, sumS]
  | j + 1, h => by
    have h1 := totU_eq j (by omega)
    have h2 := cnt_nn hc hn j (by omega)
    have h3 := sumS_nn hc hn j (by omega)
    show (if 10001 < totU L j + rd L (j : Int) then 10001 else totU L j + rd L (j : Int)) = _
    rw [show sumS k2 (j + 1) = sumS k2 j + rd k2 ((j % k2.length : Nat) : Int) from rfl, hc.at_ j (by omega), h1]
    by_cases e : sumS k2 j ≤ 10000
    · rw [if_pos e]
      by_cases e2 : sumS k2 j + rd k2 ((j % k2.length : Nat) : Int) ≤ 10000
      · rw [if_pos e2, if_neg (by omega)]
      · rw [if_neg e2]
        by_cases e3 : 10001 < sumS k2 j + rd k2 ((j % k2.length : Nat) : Int)
        · rw [if_pos e3]
        · rw [if_neg e3]; omega
    · rw [if_neg e, if_neg (show ¬ sumS k2 j + rd k2 ((j % k2.length : Nat) : Int) ≤ 10000 by omega)]
      by_cases e3 : 10001 < 10001 + rd k2 ((j % k2.length : Nat) : Int)
      · rw [if_pos e3]
      · rw [if_neg e3]; omega
theorem srcL_len : ∀ j, j ≤ m → (srcL n L j).length = (sumS k2 j).toNat
  | 0, _ => by simp [srcL, sumS]
  | j + 1, h => by
    have h1 := srcL_len j (by omega)
    have h2 := cnt_nn hc hn j (by omega)
    have h3 := sumS_nn hc hn j (by omega)
    simp only [srcL, sumS, List.length_append, List.length_replicate]
    rw [hc.at_ j (by omega), h1]; omega
theorem srcL_mem : ∀ j, j ≤ m → ∀ x ∈ srcL n L j, 0 ≤ x ∧ x < (n : Int)
  | 0, _ => by have _h := hn; simp [srcL]
  | j + 1, h => by
    intro x hx
    rw [srcL, List.mem_append] at hx
    rcases hx with hx | hx
    · exact srcL_mem j (by omega) x hx
    · have := (List.mem_replicate.1 hx).2
      have h4 := hc.src j (by omega)
      rw [h4.2] at this
      have := Nat.mod_lt j h4.1
      omega
theorem srcL_flat (l : List Int) (a p : Nat) : ∀ j, j ≤ m → (srcL n L j).flatMap (fun v => repQ l (p * n + v.toNat) a a) = repI l k2 n a p j
  | 0, _ => by have _h := hn; rfl
  | j + 1, h => by
    have h4 := hc.src j (by omega)
    rw [srcL, List.flatMap_append, srcL_flat l a p j (by omega), flat_rep, h4.2, repI, hc.at_ j (by omega), Int.toNat_natCast]
theorem repI_len (l : List Int) (a p : Nat) : ∀ j, j ≤ m → (repI l k2 n a p j).length = (sumS k2 j).toNat * a
  | 0, _ => by simp [repI, sumS]
  | j + 1, h => by
    have h2 := cnt_nn hc hn j (by omega)
    have h3 := sumS_nn hc hn j (by omega)
    simp only [repI, sumS, List.length_append, repC_len, repQ_len]
    rw [repI_len l a p j (by omega), ← Nat.add_mul]
    congr 1; omega
theorem repP_len (l : List Int) (a : Nat) : ∀ p, (repP l k2 n a m p).length = p * ((sumS k2 m).toNat * a)
  | 0 => by simp [repP]
  | p + 1 => by simp only [repP, List.length_append]; rw [repP_len l a p, repI_len hc hn l a p m (Nat.le_refl _), Nat.succ_mul]
theorem rep_room (l : List Int) (a b p i c : Nat) (hp : p < b) (hi : i < m) (hcc : c < (rd k2 ((i % k2.length : Nat) : Int)).toNat) :
    ((repP l k2 n a m p ++ repI l k2 n a p i) ++ repC (repQ l (p * n + i % n) a a) c).length + a ≤ b * ((sumS k2 m).toNat * a) := by
  simp only [List.length_append, repC_len, repQ_len]
  rw [repP_len hc hn l a p, repI_len hc hn l a p i (by omega)]
  have h2 := cnt_nn hc hn i hi
  have h3 := sumS_nn hc hn i (by omega)
  have h5 := sumS_mono hc hn (i + 1) (m - (i + 1)) (by omega)
  rw [show i + 1 + (m - (i + 1)) = m by omega] at h5
  simp only [sumS] at h5
  have h6 : (sumS k2 i).toNat + c + 1 ≤ (sumS k2 m).toNat := by omega
  have h7 : ((sumS k2 i).toNat + c + 1) * a ≤ (sumS k2 m).toNat * a := Nat.mul_le_mul_right a h6
  have h8 : (p + 1) * ((sumS k2 m).toNat * a) ≤ b * ((sumS k2 m).toNat * a) := Nat.mul_le_mul_right _ hp
  rw [Nat.succ_mul] at h8
  rw [Nat.add_mul, Nat.add_mul, Nat.one_mul] at h7
  omega
/-- The move's elements are the reference's rows. -/
theorem rep_data (cb : Bool) (l2 P Q : List Int) (a bN : Nat) (hP : prod P = (bN : Int)) (hQ : prod Q = (a : Int)) (hL : shOk (P ++ [(n : Int)] ++ Q) = true) (hS : shOk (P ++ [sumS k2 m] ++ Q) = true) (hl : bN * n * a = l2.length) :
    ofL cb l2 (fromL (P ++ [(n : Int)] ++ Q) (P ++ [sumS k2 m] ++ Q) (repF (srcL n L m) P.length) (prod (P ++ [sumS k2 m] ++ Q)).toNat) = repP l2 k2 n a m bN ∧ ∀ x ∈ fromL (P ++ [(n : Int)] ++ Q) (P ++ [sumS k2 m] ++ Q) (repF (srcL n L m) P.length) (prod (P ++ [sumS k2 m] ++ Q)).toNat, x < l2.length := by
  have hnn := sumS_nn hc hn m (Nat.le_refl _)
  have hsl := srcL_len hc hn m (Nat.le_refl _)
  obtain ⟨T, hT⟩ : ∃ T : Nat, sumS k2 m = (T : Int) := ⟨(sumS k2 m).toNat, by omega⟩
  rw [hT] at hS ⊢
  rw [hT, Int.toNat_natCast] at hsl
  have hpS : prod (P ++ [(T : Int)] ++ Q) = ((bN * T * a : Nat) : Int) := by
    rw [prod_app, prod_app, hP, hQ]; simp [prod]
  have hrS := shOk_range hS
  have hrL := shOk_range hL
  have hn4 := (hrL (n : Int) (by simp)).2
  have key : ∀ u : Nat, u < bN * T * a → fromOne (P ++ [(n : Int)] ++ Q) (repF (srcL n L m) P.length) (idxL (P ++ [(T : Int)] ++ Q) u) = ((u : Int) / (a : Int) / (T : Int) * n + rd (srcL n L m) ((u : Int) / (a : Int) % (T : Int))) * (a : Int) + (u : Int) % (a : Int) := by
    intro u hu
    have := from_one P Q (T : Int) (n : Int) (repF (srcL n L m) P.length) (fun i => rd (srcL n L m) i) hrS (shOk_prod hL).2 hn4 (fun i h0 h1 => by
      obtain ⟨i', rfl⟩ := Int.eq_ofNat_of_zero_le h0
      exact srcL_mem hc hn m (Nat.le_refl _) _ (rd_memR _ i' (by omega))) (fun k i => rfl) u (by rw [hpS]; exact Int.ofNat_lt.2 hu)
    rw [hQ] at this
    exact this
  have kv : ∀ p s q : Nat, p < bN → s < T → q < a → ((((p * T + s) * a + q : Nat) : Int) / (a : Int) / (T : Int) * n + rd (srcL n L m) ((((p * T + s) * a + q : Nat) : Int) / (a : Int) % (T : Int))) * (a : Int) + (((p * T + s) * a + q : Nat) : Int) % (a : Int) = (((p * n + (rd (srcL n L m) (s : Int)).toNat) * a + q : Nat) : Int) ∧ (p * n + (rd (srcL n L m) (s : Int)).toNat) * a + q < l2.length := by
    intro p s q hp hs hq
    have d1 : ((p * T + s) * a + q) / a = p * T + s := by rw [Nat.mul_comm, Nat.mul_add_div (by omega), Nat.div_eq_of_lt hq, Nat.add_zero]
    have d2 : ((p * T + s) * a + q) % a = q := by rw [Nat.mul_comm, Nat.mul_add_mod, Nat.mod_eq_of_lt hq]
    have d3 : (p * T + s) / T = p := by rw [Nat.mul_comm, Nat.mul_add_div (by omega), Nat.div_eq_of_lt hs, Nat.add_zero]
    have d4 : (p * T + s) % T = s := by rw [Nat.mul_comm, Nat.mul_add_mod, Nat.mod_eq_of_lt hs]
    have e1 : (((p * T + s) * a + q : Nat) : Int) / (a : Int) = ((p * T + s : Nat) : Int) := by rw [← Int.natCast_ediv, d1]
    have e2 : (((p * T + s) * a + q : Nat) : Int) % (a : Int) = (q : Int) := by rw [← Int.natCast_emod, d2]
    have e3 : ((p * T + s : Nat) : Int) / (T : Int) = (p : Int) := by rw [← Int.natCast_ediv, d3]
    have e4 : ((p * T + s : Nat) : Int) % (T : Int) = (s : Int) := by rw [← Int.natCast_emod, d4]
    have hm := srcL_mem hc hn m (Nat.le_refl _) _ (rd_memR (srcL n L m) s (by omega))
    rw [e1, e2, e3, e4]
    generalize rd (srcL n L m) (s : Int) = v at hm ⊢
    obtain ⟨v', rfl⟩ := Int.eq_ofNat_of_zero_le hm.1
    rw [Int.toNat_natCast]
    refine ⟨by push_cast; rfl, ?_⟩
    rw [← hl]
    exact lin_lt hp (by omega) hq
  have hr : fromL (P ++ [(n : Int)] ++ Q) (P ++ [(T : Int)] ++ Q) (repF (srcL n L m) P.length) (prod (P ++ [(T : Int)] ++ Q)).toNat = (List.range bN).flatMap fun p : Nat => (List.range T).flatMap fun s : Nat => (List.range a).map fun q : Nat => (((p * n + (rd (srcL n L m) (s : Int)).toNat) * a + q : Nat) : Int) := by
    rw [fromL_range, hpS, Int.toNat_natCast]
    rw [List.map_congr_left (g := fun u : Nat => ((u : Int) / (a : Int) / (T : Int) * n + rd (srcL n L m) ((u : Int) / (a : Int) % (T : Int))) * (a : Int) + (u : Int) % (a : Int)) (fun u hu => key u (List.mem_range.1 hu))]
    rw [range_mul a _ (bN * T)]
    have step : ∀ (A B : Nat) (g : Nat → List Int), (List.range (A * B)).flatMap g = (List.range A).flatMap fun i => (List.range B).flatMap fun j => g (i * B + j) := by
      intro A B g
      induction A with
      | zero => simp
      | succ A ih =>
        rw [Nat.succ_mul, List.range_succ, List.flatMap_append, ← ih, List.range_add, List.flatMap_append, flat_map_]
        simp
    rw [step bN T]
    refine flat_congr_ fun p hp => flat_congr_ fun s hs => List.map_congr_left fun q hq => ?_
    exact (kv p s q (List.mem_range.1 hp) (List.mem_range.1 hs) (List.mem_range.1 hq)).1
  rw [hr]
  constructor
  · rw [repP_range]
    unfold ofL
    rw [List.map_flatMap]
    refine flat_congr_ fun p hp => ?_
    rw [← srcL_flat hc hn l2 a p m (Nat.le_refl _)]
    have hT' : (List.range T).map (fun s : Nat => rd (srcL n L m) (s : Int)) = srcL n L m := by rw [← hsl]; exact range_rd _
    conv => rhs; rw [← hT']
    rw [flat_map_, List.map_flatMap]
    refine flat_congr_ fun s hs => ?_
    rw [repQ_range, List.map_map]
    refine List.map_congr_left fun q hq => ?_
    simp only [Function.comp_def, ofV]
    rw [if_pos (by omega)]
  · intro x hx
    simp only [List.mem_flatMap, List.mem_map, List.mem_range] at hx
    obtain ⟨p, hp, s, hs, q, hq, rfl⟩ := hx
    have := (kv p s q hp hs hq).2
    omega
end
end Go.Proofs.Ytehfcnndjhjkoaa.PA

namespace Go.Proofs.Ytehfcnndjhjkoaa.PA
open Go.RowKit Go.Proofs.YtehfcnndjhjkoaaW.PrintWords Go.Proofs.YtehfcnndjhjkoaaW.PrintLast Go.Proofs.YtehfcnndjhjkoaaW.PrintMore
set_option linter.unusedVariables false
set_option linter.unusedSimpArgs false

theorem ax_parts (first : Bool) {L : List Int} (h : shOk L = true) (h0 : L.length ≠ 0) : ∃ (P Q : List Int) (n bN aN : Nat), L = P ++ [(n : Int)] ++ Q ∧ P.length = axT first L ∧ prod P = (bN : Int) ∧ prod Q = (aN : Int) ∧ bN ≤ 10000 ∧ aN ≤ 10000 ∧ n ≤ 10000 ∧ prod L = ((bN * n * aN : Nat) : Int) ∧ Ev (fun k => spec_l4Axis.f k L first) ((bN : Int), (n : Int), (aN : Int)) := by
  have hr := shOk_range h
  cases first with
  | true =>
    obtain ⟨x, Q, rfl⟩ : ∃ x Q, L = x :: Q := by
      cases L with
      | nil => simp at h0
      | cons x Q => exact ⟨x, Q, rfl⟩
    have hx := hr x (by simp)
    have hq := shOk_part (P := [x]) (Q := Q) (by simpa using h)
    refine ⟨[], Q, x.toNat, 1, (prod Q).toNat, by simp [Int.toNat_of_nonneg hx.1], rfl, rfl, (Int.toNat_of_nonneg hq.2.1).symm, by omega, by omega, by omega, ?_, ?_⟩
    · simp only [prod]; rw [Nat.one_mul, Int.natCast_mul, Int.toNat_of_nonneg hx.1, Int.toNat_of_nonneg hq.2.1]
    · have := l4Axis_first x Q h
      rw [Int.toNat_of_nonneg hx.1, Int.toNat_of_nonneg hq.2.1]; exact this
  | false =>
    obtain ⟨P, m, N, e1, e2, e3, e4, e5, e6, e7, e8, e9⟩ := sh_last h h0
    refine ⟨P, [], m, N, 1, by rw [e1]; simp, ?_, e5, rfl, e6, by omega, e7, ?_, ?_⟩
    · simp [axT, e1]
    · rw [e9]; simp
    · have := l4Axis_last P m (e1 ▸ h)
      rw [e5] at this; rw [e1]; exact this
theorem set_midR (P Q : List Int) (y x : Int) : (P ++ [y] ++ Q).set P.length x = P ++ [x] ++ Q := by simp
theorem hrg_rep {s : List Int} (hs : shOk s = true) : ∀ (t : Nat), t < (prod s).toNat → ∀ k : Nat, k < s.length → 0 ≤ rd (idxL s t) (k : Int) ∧ rd (idxL s t) (k : Int) < rd s (k : Int) := by
  intro t ht k hk
  have hr := shOk_range hs
  rw [idxL_of hr (by omega)]
  exact digs_range s.length s t rfl (pos_of_prod (fun x hx => (hr x hx).1) (by omega)) (by omega) k hk
def negAny (k2 : List Int) : Bool := k2.any fun x => decide (x < 0)
theorem negAny_no {k2 : List Int} (h : ¬ negAny k2 = true) (i : Nat) (hi : i < k2.length) : 0 ≤ rd k2 (i : Int) := by
  have hm := rd_memR k2 i hi
  by_cases e : rd k2 (i : Int) < 0
  · exact absurd (by unfold negAny; exact List.any_eq_true.2 ⟨_, hm, decide_eq_true e⟩) h
  · omega
theorem negAny_yes {k2 : List Int} (h : negAny k2 = true) : ∃ j : Nat, j < k2.length ∧ rd k2 (j : Int) < 0 := by
  obtain ⟨x, hx, hd⟩ := List.any_eq_true.1 h
  obtain ⟨j, hj, e⟩ := List.getElem_of_mem hx
  refine ⟨j, hj, ?_⟩
  have : rd k2 (j : Int) = x := by rw [← e]; simp [rd, hj]
  rw [this]; exact of_decide_eq_true hd
def repG (b : Bool) (L l2 k2 : List Int) (t n : Nat) : ArrAns :=
  if n ≠ 1 ∧ k2.length ≠ 1 ∧ k2.length ≠ n then noArr 5
  else if negAny k2 = true then noArr 3
  else if shOk (L.set t (sumS k2 (repM n k2))) = true then (b, L.set t (sumS k2 (repM n k2)), repP l2 k2 n (prod (L.drop (t + 1))).toNat (repM n k2) (prod (L.take t)).toNat, 0)
  else noArr 7
def repV (a : Bool) (k1 k2 : List Int) (b : Bool) (l1 l2 : List Int) (first : Bool) : ArrAns :=
  if (arrOk a k1 k2 && arrOk b l1 l2) = true then
    (if listC a k1 = 0 then repG b (repL1 l1) l2 k2 (axT first (repL1 l1)) (rd (repL1 l1) (axT first (repL1 l1) : Int)).toNat else noArr (listC a k1))
  else noArr 3
theorem repL1_ok {l1 : List Int} (h : shOk l1 = true) : shOk (repL1 l1) = true ∧ (repL1 l1).length ≠ 0 := by
  unfold repL1
  split
  · exact ⟨by decide, by simp⟩
  · rename_i h0; exact ⟨h, h0⟩
theorem repL1_prod {b : Bool} {l1 l2 : List Int} (h : arrOk b l1 l2 = true) : prod (repL1 l1) = l2.length := by
  unfold repL1
  split
  · rename_i h0
    rw [cat_one h h0]; rfl
  · exact arrOk_prod h
theorem times_five (a : Bool) (Aa1 : Option Addr) (ca1 : Nat) (la1 : List Int) (Aa2 : Option Addr) (ca2 : Nat) (la2 : List Int) (n : Nat) (w : World) (ha1 : Kd.C (Kd.int .i64) w Aa1 la1.length la1) (ka1 : la1.length ≤ ca1) (ha2 : Kd.C (Kd.int .i64) w Aa2 la2.length la2) (ka2 : la2.length ≤ ca2) (h1 : la2.length ≠ 1) (h2 : n ≠ 1) (h3 : la2.length ≠ n) : TimesOk #[.agg #[.bool a, .slice Aa1 la1.length ca1, .slice Aa2 la2.length ca2], .int .i64 (n : Int)] [] 5 w := fun W hb => times_bad a Aa1 ca1 la1 Aa2 ca2 la2 n W (Kd.C_below ha1 hb) ka1 (Kd.C_below ha2 hb) ka2 h1 h2 h3
theorem times_neg (a : Bool) (Aa1 : Option Addr) (ca1 : Nat) (la1 : List Int) (Aa2 : Option Addr) (ca2 : Nat) (la2 : List Int) (n : Nat) (w : World) (ha1 : Kd.C (Kd.int .i64) w Aa1 la1.length la1) (ka1 : la1.length ≤ ca1) (ha2 : Kd.C (Kd.int .i64) w Aa2 la2.length la2) (ka2 : la2.length ≤ ca2) (hn : n ≤ 10000) (hl : la2.length ≤ 10000) (hw : n = 1 ∨ la2.length = 1 ∨ la2.length = n) (hj : ∃ j : Nat, j < la2.length ∧ rd la2 (j : Int) < 0) : TimesOk #[.agg #[.bool a, .slice Aa1 la1.length ca1, .slice Aa2 la2.length ca2], .int .i64 (n : Int)] [] 3 w := by
  intro W hb
  obtain ⟨j0, hj0, hj1⟩ := hj
  by_cases h1 : la2.length = 1
  · exact times_one a Aa1 ca1 la1 Aa2 ca2 la2 n W (Kd.C_below ha1 hb) ka1 (Kd.C_below ha2 hb) ka2 h1 hn hl [] 3 (fun _ _ _ => ⟨rfl, rfl⟩) (fun h => absurd (h j0 hj0) (by omega))
  · by_cases h2 : n = 1
    · exact times_n1 a Aa1 ca1 la1 Aa2 ca2 la2 n W (Kd.C_below ha1 hb) ka1 (Kd.C_below ha2 hb) ka2 h1 h2 hl [] 3 (fun _ _ _ => ⟨rfl, rfl⟩) (fun h => absurd (h j0 hj0) (by omega))
    · exact times_eq a Aa1 ca1 la1 Aa2 ca2 la2 n W (Kd.C_below ha1 hb) ka1 (Kd.C_below ha2 hb) ka2 h1 h2 (by omega) hl [] 3 (fun _ _ _ => ⟨rfl, rfl⟩) (fun h => absurd (h j0 hj0) (by omega))
theorem times_good (a : Bool) (Aa1 : Option Addr) (ca1 : Nat) (la1 : List Int) (Aa2 : Option Addr) (ca2 : Nat) (la2 : List Int) (n : Nat) (w : World) (ha1 : Kd.C (Kd.int .i64) w Aa1 la1.length la1) (ka1 : la1.length ≤ ca1) (ha2 : Kd.C (Kd.int .i64) w Aa2 la2.length la2) (ka2 : la2.length ≤ ca2) (hn : n ≤ 10000) (hl : la2.length ≤ 10000) (hw : n = 1 ∨ la2.length = 1 ∨ la2.length = n) (hj : ∀ i : Nat, i < la2.length → 0 ≤ rd la2 (i : Int)) : TimesOk #[.agg #[.bool a, .slice Aa1 la1.length ca1, .slice Aa2 la2.length ca2], .int .i64 (n : Int)] (oftenL n la2) 0 w := by
  intro W hb
  unfold oftenL
  by_cases h1 : la2.length = 1
  · rw [if_pos h1]
    exact times_one a Aa1 ca1 la1 Aa2 ca2 la2 n W (Kd.C_below ha1 hb) ka1 (Kd.C_below ha2 hb) ka2 h1 hn hl _ 0 (fun j h k => absurd (hj j h) (by omega)) (fun _ => ⟨rfl, rfl⟩)
  · rw [if_neg h1]
    by_cases h2 : n = 1
    · exact times_n1 a Aa1 ca1 la1 Aa2 ca2 la2 n W (Kd.C_below ha1 hb) ka1 (Kd.C_below ha2 hb) ka2 h1 h2 hl _ 0 (fun j h k => absurd (hj j h) (by omega)) (fun _ => ⟨rfl, rfl⟩)
    · exact times_eq a Aa1 ca1 la1 Aa2 ca2 la2 n W (Kd.C_below ha1 hb) ka1 (Kd.C_below ha2 hb) ka2 h1 h2 (by omega) hl _ 0 (fun j h k => absurd (hj j h) (by omega)) (fun _ => ⟨rfl, rfl⟩)
theorem firstAxis_t (b : Bool) (L l2 : List Int) (first : Bool) (h0 : L.length ≠ 0) (h : L.length ≤ 5) : impl_firstAxis.f b L l2 first = some (axT first L : Int) := by
  unfold impl_firstAxis.f impl_Array_rank.f axT
  cases first
  · simp only [Bool.false_eq_true, if_false, Option.bind_some]; rw [w64 (by omega) (by omega)]; congr 1; omega
  · rfl
theorem shapeOk_partsR {k : Nat} {l : List Int} (h : impl_shapeOk.f k l = some (shSize l)) : impl_shapeOk.f k l = some ((shSize l).1, shOk l) := by
  rw [h]; unfold shSize; split
  · rename_i h1; rw [h1]
  · rename_i h1; simp [h1]
theorem oftenL_mem {n : Nat} {k2 : List Int} {lo hi : Int} (h : ∀ x ∈ k2, lo ≤ x ∧ x ≤ hi) : ∀ x ∈ oftenL n k2, lo ≤ x ∧ x ≤ hi := by
  unfold oftenL
  intro x hx
  split at hx
  · rename_i h1
    have := (List.mem_replicate.1 hx).2
    rw [this]; exact h _ (rd_memR k2 0 (by omega))
  · exact h x hx
def impl_Replicate.f (a : Bool) (k1 k2 : List Int) (b : Bool) (l1 l2 : List Int) (first : Bool) : Option ArrAns := if okLens k1 k2 l1 l2 then some (repV a k1 k2 b l1 l2 first) else none
theorem impl_Replicate.calls (a : Bool) (Aa1 : Option Addr) (ca1 : Nat) (la1 : List Int) (Aa2 : Option Addr) (ca2 : Nat) (la2 : List Int) (b : Bool) (Ab1 : Option Addr) (cb1 : Nat) (lb1 : List Int) (Ab2 : Option Addr) (cb2 : Nat) (lb2 : List Int) (first : Bool) (r1 : Bool) (r2 r3 : List Int) (r4 : Int) (w : World) (ha1 : Kd.C (Kd.int .i64) w Aa1 la1.length la1) (ka1 : la1.length ≤ ca1) (ha2 : Kd.C (Kd.int .i64) w Aa2 la2.length la2) (ka2 : la2.length ≤ ca2) (hb1 : Kd.C (Kd.int .i64) w Ab1 lb1.length lb1) (kb1 : lb1.length ≤ cb1) (hb2 : Kd.C (Kd.int .i64) w Ab2 lb2.length lb2) (kb2 : lb2.length ≤ cb2) (h : impl_Replicate.f a la1 la2 b lb1 lb2 first = some (r1, r2, r3, r4)) :
    Calls Try.prog 43 #[.agg #[.bool a, .slice Aa1 la1.length ca1, .slice Aa2 la2.length ca2], .agg #[.bool b, .slice Ab1 lb1.length cb1, .slice Ab2 lb2.length cb2], .bool first] w fun e w' => ∃ v1_ v2_ : Value, e = .returned (.tuple #[.agg #[.bool r1, v1_, v2_], .int .i64 r4]) ∧ Kd.R (Kd.int .i64) 3 w' w.heap.size (fun k_ => some k_ ≠ (v2_ : Value).ownBlock) v1_ r2 ∧ Kd.R (Kd.int .i64) 3 w' w.heap.size (fun k_ => some k_ ≠ (v1_ : Value).ownBlock) v2_ r3 ∧ Below w.heap.size w w' := by
  unfold impl_Replicate.f at h
  split at h
  · rename_i hl
    have h := Option.some.inj h
    simp only [okLens, Bool.and_eq_true, decide_eq_true_eq] at hl
    obtain ⟨k0, hk0⟩ := (valid_ev2 a la1 la2 b lb1 lb2 (by omega) (by omega)).rounds
    unfold repV at h
    by_cases hv : (arrOk a la1 la2 && arrOk b lb1 lb2) = true
    · rw [if_pos hv] at hk0 h
      simp only [Bool.and_eq_true] at hv
      have oa := hv.1
      have ob := hv.2
      have hlo := listOk_eq a la1 la2
      by_cases hc : listC a la1 = 0
      · rw [if_pos hc] at h
        rw [hc] at hlo
        have n2 := arrOk_len oa
        have n3 := arrOk_len ob
        have sL := repL1_ok (arrOk_sh ob)
        have pL := repL1_prod ob
        have hL1 : repL1 lb1 = if lb1.length = 0 then [(lb2.length : Int)] else lb1 := by
          unfold repL1
          split
          · rename_i h0; rw [cat_one ob h0]; rfl
          · rfl
        generalize repL1 lb1 = L1 at *
        have n5 := shOk_len sL.1
        have hfa := firstAxis_t b L1 lb2 first sL.2 n5
        obtain ⟨P, Q, n, bN, aN, e1, e2, e3, e4, e5, e6, e7, e8, e9⟩ := ax_parts first sL.1 sL.2
        have htl : axT first L1 < L1.length := by rw [← e2, e1]; simp
        have hrd : rd L1 (axT first L1 : Int) = (n : Int) := by rw [← e2, e1, List.append_assoc]; exact rd_mid P Q _
        generalize axT first L1 = t at *
        subst e2
        rw [hrd, Int.toNat_natCast] at h
        unfold repG at h
        by_cases hb5 : n ≠ 1 ∧ la2.length ≠ 1 ∧ la2.length ≠ n
        · rw [if_pos hb5] at h
          cases h
          exact rep_code k0 a Aa1 ca1 la1 Aa2 ca2 la2 b Ab1 cb1 lb1 Ab2 cb2 lb2 first w ha1 ka1 ha2 ka2 hb1 kb1 hb2 kb2 hk0 hlo L1 hL1 _ rfl P.length n htl hfa hrd [] 5 (times_five a Aa1 ca1 la1 Aa2 ca2 la2 n w ha1 ka1 ha2 ka2 hb5.2.1 hb5.1 hb5.2.2) (by decide)
        · rw [if_neg hb5] at h
          have hway : n = 1 ∨ la2.length = 1 ∨ la2.length = n := by omega
          by_cases hng : negAny la2 = true
          · rw [if_pos hng] at h
            cases h
            exact rep_code k0 a Aa1 ca1 la1 Aa2 ca2 la2 b Ab1 cb1 lb1 Ab2 cb2 lb2 first w ha1 ka1 ha2 ka2 hb1 kb1 hb2 kb2 hk0 hlo L1 hL1 _ rfl P.length n htl hfa hrd [] 3 (times_neg a Aa1 ca1 la1 Aa2 ca2 la2 n w ha1 ka1 ha2 ka2 e7 n2.2 hway (negAny_yes hng)) (by decide)
          · rw [if_neg hng] at h
            have hnn := negAny_no hng
            have hcn := cntOk n la2 hway
            have htg := times_good a Aa1 ca1 la1 Aa2 ca2 la2 n w ha1 ka1 ha2 ka2 e7 n2.2 hway hnn
            have hcl := arrOk_cells oa
            have hom : ∀ x ∈ oftenL n la2, 0 ≤ x ∧ x ≤ 1000000000000000 := oftenL_mem (fun x hx => by
              obtain ⟨j, hj, rfl⟩ := List.getElem_of_mem hx
              have := hnn j hj
              have h2 := hcl _ hx
              have e : rd la2 (j : Int) = la2[j] := by simp [rd, hj]
              omega)
            have hm1 : repM n la2 ≤ 10000 := by unfold repM; split <;> omega
            have htot := totU_eq hcn hnn (repM n la2) (Nat.le_refl _)
            have hsl := srcL_len hcn hnn (repM n la2) (Nat.le_refl _)
            have hs0 := sumS_nn hcn hnn (repM n la2) (Nat.le_refl _)
            have hmono : ∀ j, j ≤ (oftenL n la2).length → (srcL n (oftenL n la2) j).length ≤ (sumS la2 (repM n la2)).toNat := fun j hj => by
              rw [hcn.len] at hj
              rw [srcL_len hcn hnn j hj]
              have := sumS_mono hcn hnn j (repM n la2 - j) (by omega)
              rw [show j + (repM n la2 - j) = repM n la2 by omega] at this
              omega
            have hset : ∀ x : Int, L1.set P.length x = P ++ [x] ++ Q := fun x => by rw [e1]; exact set_midR P Q _ x
            have hdrop : L1.drop (P.length + 1) = Q := by rw [e1]; simp
            have htake : L1.take P.length = P := by rw [e1]; simp
            rw [hdrop, htake, e3, e4, Int.toNat_natCast, Int.toNat_natCast] at h
            have hbig : sumS la2 (repM n la2) > 10000 → ¬ shOk (L1.set P.length (sumS la2 (repM n la2))) = true := fun hg hs => by
              have := (shOk_range hs (sumS la2 (repM n la2)) (by rw [hset]; simp)).2
              omega
            have hbig2 : sumS la2 (repM n la2) > 10000 → ¬ shOk (L1.set P.length (totU (oftenL n la2) (oftenL n la2).length)) = true := fun hg hs => by
              rw [hcn.len, htot, if_neg (by omega)] at hs
              have := (shOk_range hs 10001 (by rw [hset]; simp)).2
              omega
            obtain ⟨k1, hk1⟩ := (shapeOk_ev (L1.set P.length (totU (oftenL n la2) (oftenL n la2).length))).rounds
            obtain ⟨k5, hk5⟩ : ∃ k5, shOk (L1.set P.length (totU (oftenL n la2) (oftenL n la2).length)) = true → impl_move_of.f k5 (L1.set P.length (totU (oftenL n la2) (oftenL n la2).length)) (fromL L1 (L1.set P.length (totU (oftenL n la2) (oftenL n la2).length)) (repF (srcL n (oftenL n la2) (oftenL n la2).length) P.length) (prod (L1.set P.length (totU (oftenL n la2) (oftenL n la2).length))).toNat) b L1 lb2 = some (b, L1.set P.length (totU (oftenL n la2) (oftenL n la2).length), repP lb2 la2 n aN (repM n la2) bN) := by
              by_cases hs : shOk (L1.set P.length (totU (oftenL n la2) (oftenL n la2).length)) = true
              · have hle : sumS la2 (repM n la2) ≤ 10000 := by
                  by_cases g : sumS la2 (repM n la2) ≤ 10000
                  · exact g
                  · exact absurd hs (hbig2 (by omega))
                rw [hcn.len, htot, if_pos hle] at hs ⊢
                have hp := shOk_prod hs
                have h5 := shOk_len hs
                rw [hset] at hs ⊢
                have hd := rep_data hcn hnn b lb2 P Q aN bN e3 e4 (e1 ▸ sL.1) hs (by omega)
                obtain ⟨k5, hk5⟩ := (moveOf_ev b L1 lb2 (P ++ [sumS la2 (repM n la2)] ++ Q) (fromL L1 (P ++ [sumS la2 (repM n la2)] ++ Q) (repF (srcL n (oftenL n la2) (repM n la2)) P.length) (prod (P ++ [sumS la2 (repM n la2)] ++ Q)).toNat) (by rw [← hset]; omega) (by rw [fromL_len, ← hset]; omega) (by rw [e1]; exact hd.2)).rounds
                refine ⟨k5, fun _ => ?_⟩
                rw [hk5]
                congr 1
                rw [Prod.mk.injEq, Prod.mk.injEq]
                refine ⟨rfl, rfl, ?_⟩
                have := hd.1
                rw [← e1] at this
                exact this
              · exact ⟨0, fun h => absurd h hs⟩
            exact rep_on k0 a Aa1 ca1 la1 Aa2 ca2 la2 b Ab1 cb1 lb1 Ab2 cb2 lb2 first w ha1 ka1 ha2 ka2 hb1 kb1 hb2 kb2 hk0 hlo L1 hL1 _ rfl P.length n htl hfa hrd (oftenL n la2) htg n5 (by rw [hcn.len]; exact hm1) hom (fun _ _ => e7) _ rfl _ rfl (by simp) k1 _ _ (shapeOk_partsR hk1) _ rfl _ rfl k5 _
              (fun hs => by
                have hle : sumS la2 (repM n la2) ≤ 10000 := by
                  by_cases g : sumS la2 (repM n la2) ≤ 10000
                  · exact g
                  · exact absurd hs (hbig2 (by omega))
                refine ⟨shOk_prod hs, by rw [hk1, shSize, if_pos hs], ?_, fun j hj => ?_, hrg_rep hs, hk5 hs⟩
                · rw [rd_set _ _ _ htl, hcn.len, htot, if_pos hle, hsl]; omega
                · have := hmono j hj; omega)
              r1 r2 r3 r4
              (fun hz => by
                have hg : ¬ shOk (L1.set P.length (sumS la2 (repM n la2))) = true := by
                  by_cases g : sumS la2 (repM n la2) ≤ 10000
                  · rw [hcn.len, htot, if_pos g] at hz; rw [hz]; decide
                  · exact hbig (by omega)
                rw [if_neg hg] at h
                simp only [noArr, Prod.mk.injEq] at h
                obtain ⟨rfl, rfl, rfl, rfl⟩ := h
                exact ⟨rfl, rfl, rfl, rfl⟩)
              (fun hz => by
                have hle : sumS la2 (repM n la2) ≤ 10000 := by
                  by_cases g : sumS la2 (repM n la2) ≤ 10000
                  · exact g
                  · exact absurd hz (hbig2 (by omega))
                have hz2 := hz
                rw [hcn.len, htot, if_pos hle] at hz2
                rw [if_pos hz2] at h
                simp only [Prod.mk.injEq] at h
                obtain ⟨rfl, rfl, rfl, rfl⟩ := h
                rw [hcn.len, htot, if_pos hle]
                exact ⟨rfl, rfl, rfl, rfl⟩)
      · rw [if_neg hc] at h
        cases h
        exact rep_list k0 a Aa1 ca1 la1 Aa2 ca2 la2 b Ab1 cb1 lb1 Ab2 cb2 lb2 first w ha1 ka1 ha2 ka2 hb1 kb1 hb2 kb2 hk0 _ hlo hc
    · rw [if_neg hv] at hk0 h
      cases h
      exact rep_no k0 a Aa1 ca1 la1 Aa2 ca2 la2 b Ab1 cb1 lb1 Ab2 cb2 lb2 first w ha1 ka1 ha2 ka2 hb1 kb1 hb2 kb2 3 hk0 (by decide)
  · cases h

def spec_Replicate.f (k : Nat) (a : Bool) (k1 k2 : List Int) (b : Bool) (l1 l2 : List Int) (first : Bool) : Option ArrAns := if okLens k1 k2 l1 l2 then some (repV a k1 k2 b l1 l2 first) else none
theorem specReplicate_ev (a : Bool) (l1 l2 : List Int) (b : Bool) (m1 m2 : List Int) (first : Bool) (h1 : l1.length ≤ 35184372088832) (h2 : l2.length ≤ 35184372088832) (h3 : m1.length ≤ 35184372088832) (h4 : m2.length ≤ 35184372088832) : Ev (fun k => spec_Replicate.f k a l1 l2 b m1 m2 first) (repV a l1 l2 b m1 m2 first) := by
  simp only [spec_Replicate.f, if_pos (okLens_of h1 h2 h3 h4)]
  exact Ev.now _
theorem spec_Replicate.calls (k : Nat) (a : Bool) (Aa1 : Option Addr) (ca1 : Nat) (la1 : List Int) (Aa2 : Option Addr) (ca2 : Nat) (la2 : List Int) (b : Bool) (Ab1 : Option Addr) (cb1 : Nat) (lb1 : List Int) (Ab2 : Option Addr) (cb2 : Nat) (lb2 : List Int) (first : Bool) (r1 : Bool) (r2 r3 : List Int) (r4 : Int) (w : World) (ha1 : Kd.C (Kd.int .i64) w Aa1 la1.length la1) (ka1 : la1.length ≤ ca1) (ha2 : Kd.C (Kd.int .i64) w Aa2 la2.length la2) (ka2 : la2.length ≤ ca2) (hb1 : Kd.C (Kd.int .i64) w Ab1 lb1.length lb1) (kb1 : lb1.length ≤ cb1) (hb2 : Kd.C (Kd.int .i64) w Ab2 lb2.length lb2) (kb2 : lb2.length ≤ cb2) (h : spec_Replicate.f k a la1 la2 b lb1 lb2 first = some (r1, r2, r3, r4)) :
    Calls Try.prog 42 #[.agg #[.bool a, .slice Aa1 la1.length ca1, .slice Aa2 la2.length ca2], .agg #[.bool b, .slice Ab1 lb1.length cb1, .slice Ab2 lb2.length cb2], .bool first] w fun e w' => ∃ v1_ v2_ : Value, e = .returned (.tuple #[.agg #[.bool r1, v1_, v2_], .int .i64 r4]) ∧ Kd.R (Kd.int .i64) 3 w' w.heap.size (fun k_ => some k_ ≠ (v2_ : Value).ownBlock) v1_ r2 ∧ Kd.R (Kd.int .i64) 3 w' w.heap.size (fun k_ => some k_ ≠ (v1_ : Value).ownBlock) v2_ r3 ∧ Below w.heap.size w w' := by
  unfold spec_Replicate.f at h
  split at h
  · rename_i hl
    have h := Option.some.inj h
    simp only [okLens, Bool.and_eq_true, decide_eq_true_eq] at hl
    obtain ⟨ka, hka⟩ := (specArrayOk_ev a la1 la2 (by omega) (by omega)).rounds
    obtain ⟨kb, hkb⟩ := (specArrayOk_ev b lb1 lb2 (by omega) (by omega)).rounds
    unfold repV at h
    cases oa : arrOk a la1 la2 with
    | false =>
      rw [oa] at hka
      rw [oa, if_neg (by simp)] at h
      cases h
      exact srep_no1 a Aa1 ca1 la1 Aa2 ca2 la2 b Ab1 cb1 lb1 Ab2 cb2 lb2 first w ha1 ka1 ha2 ka2 hb1 kb1 hb2 kb2 ka hka
    | true =>
      rw [oa] at hka
      cases ob : arrOk b lb1 lb2 with
      | false =>
        rw [ob] at hkb
        rw [oa, ob, if_neg (by simp)] at h
        cases h
        exact srep_no2 a Aa1 ca1 la1 Aa2 ca2 la2 b Ab1 cb1 lb1 Ab2 cb2 lb2 first w ha1 ka1 ha2 ka2 hb1 kb1 hb2 kb2 ka hka kb hkb
      | true =>
        rw [ob] at hkb
        rw [oa, ob, if_pos (by rfl)] at h
        have hlo := l5List_eq a la1 la2
        by_cases hc : listC a la1 = 0
        · rw [if_pos hc] at h
          rw [hc] at hlo
          have n2 := arrOk_len oa
          have n3 := arrOk_len ob
          have sL := repL1_ok (arrOk_sh ob)
          have pL := repL1_prod ob
          have hL1 : repL1 lb1 = if lb1.length = 0 then lb1 ++ [1] else lb1 := by
            unfold repL1
            split
            · rename_i h0; rw [List.length_eq_zero_iff.1 h0]; rfl
            · rfl
          generalize repL1 lb1 = L1 at *
          have n5 := shOk_len sL.1
          have htf : axT first L1 = if first = true then 0 else L1.length - 1 := rfl
          obtain ⟨P, Q, n, bN, aN, e1, e2, e3, e4, e5, e6, e7, e8, e9⟩ := ax_parts first sL.1 sL.2
          have htl : axT first L1 < L1.length := by rw [← e2, e1]; simp
          have hrd : rd L1 (axT first L1 : Int) = (n : Int) := by rw [← e2, e1, List.append_assoc]; exact rd_mid P Q _
          generalize axT first L1 = t at *
          subst e2
          obtain ⟨kA, hkA⟩ := e9.rounds
          rw [hrd, Int.toNat_natCast] at h
          unfold repG at h
          by_cases hb5 : n ≠ 1 ∧ la2.length ≠ 1 ∧ la2.length ≠ n
          · rw [if_pos hb5] at h
            cases h
            exact srep_len a Aa1 ca1 la1 Aa2 ca2 la2 b Ab1 cb1 lb1 Ab2 cb2 lb2 first w ha1 ka1 ha2 ka2 hb1 kb1 hb2 kb2 ka hka kb hkb hlo L1 hL1 _ rfl kA bN n aN hkA hb5.1 hb5.2.1 hb5.2.2
          · rw [if_neg hb5] at h
            have hway : n = 1 ∨ la2.length = 1 ∨ la2.length = n := by omega
            have hcn := cntOk n la2 hway
            have hset : ∀ x : Int, L1.set P.length x = P ++ [x] ++ Q := fun x => by rw [e1]; exact set_midR P Q _ x
            have hdrop : L1.drop (P.length + 1) = Q := by rw [e1]; simp
            have htake : L1.take P.length = P := by rw [e1]; simp
            rw [hdrop, htake, e3, e4, Int.toNat_natCast, Int.toNat_natCast] at h
            have hm1 : repM n la2 ≤ 10000 := by unfold repM; split <;> omega
            have hbig : sumS la2 (repM n la2) > 10000 → ¬ shOk (L1.set P.length (sumS la2 (repM n la2))) = true := fun hg hs => by
              have := (shOk_range hs (sumS la2 (repM n la2)) (by rw [hset]; simp)).2
              omega
            obtain ⟨k1, hk1⟩ := (l3ShapeOk_ev (L1.set P.length (sumS la2 (repM n la2))) (by simp; omega)).rounds
            have hany : (∀ i : Nat, i < la2.length → 0 ≤ rd la2 (i : Int)) → ¬ negAny la2 = true := fun hn hg => by
              obtain ⟨j, hj, hj1⟩ := negAny_yes hg
              have := hn j hj
              omega
            exact srep_on a Aa1 ca1 la1 Aa2 ca2 la2 b Ab1 cb1 lb1 Ab2 cb2 lb2 first w ha1 ka1 ha2 ka2 hb1 kb1 hb2 kb2 ka hka kb hkb hlo L1 hL1 _ rfl kA bN n aN hkA _ rfl (repM n la2) (fun e => by unfold repM; rw [if_pos e]) (fun e => by unfold repM; rw [if_neg e]) hway (fun h0 => hcn.pos 0 h0) hm1 (fun h0 => (hcn.src 0 h0).1) n2.2 (arrOk_cells oa) n5 e5 e6 n3.2 P.length htl htf _ rfl _ rfl (by simp) k1 _ hk1 r1 r2 r3 r4
              (fun j hj hj1 => by
                have hng : negAny la2 = true := by
                  by_cases g : negAny la2 = true
                  · exact g
                  · have := negAny_no g j hj; omega
                rw [if_pos hng] at h
                simp only [noArr, Prod.mk.injEq] at h
                obtain ⟨rfl, rfl, rfl, rfl⟩ := h
                exact ⟨rfl, rfl, rfl, rfl⟩)
              (fun hn j hj hg => by
                rw [if_neg (hany hn)] at h
                have := sumS_mono hcn hn j (repM n la2 - j) (by omega)
                rw [show j + (repM n la2 - j) = repM n la2 by omega] at this
                rw [if_neg (hbig (by omega))] at h
                simp only [noArr, Prod.mk.injEq] at h
                obtain ⟨rfl, rfl, rfl, rfl⟩ := h
                exact ⟨rfl, rfl, rfl, rfl⟩)
              (fun hn hz => by
                rw [if_neg (hany hn), if_neg (by rw [hz]; decide)] at h
                simp only [noArr, Prod.mk.injEq] at h
                obtain ⟨rfl, rfl, rfl, rfl⟩ := h
                exact ⟨rfl, rfl, rfl, rfl⟩)
              (fun hn hz => by
                rw [if_neg (hany hn), if_pos hz] at h
                simp only [Prod.mk.injEq] at h
                obtain ⟨rfl, rfl, rfl, rfl⟩ := h
                exact ⟨rfl, rfl, rfl, rfl⟩)
              (fun hn hz p i c_ hp hi hcc => by
                have hr := rep_room hcn hn lb2 aN bN p i c_ hp hi hcc
                have hs0 := sumS_nn hcn hn (repM n la2) (Nat.le_refl _)
                have hpr := shOk_prod hz
                rw [hset, prod_app, prod_app, e3, e4] at hpr
                simp only [prod, Int.mul_one] at hpr
                obtain ⟨T, hT⟩ : ∃ T : Nat, sumS la2 (repM n la2) = (T : Int) := ⟨(sumS la2 (repM n la2)).toNat, by omega⟩
                rw [hT] at hpr hr
                rw [Int.toNat_natCast, ← Nat.mul_assoc] at hr
                rw [← Int.natCast_mul, ← Int.natCast_mul] at hpr
                omega)
              (fun hz p i q hp hi hq => by
                have hh := lin_lt hp (Nat.mod_lt i (hcn.src i hi).1) hq
                have : bN * n * aN = lb2.length := by omega
                omega)
        · rw [if_neg hc] at h
          cases h
          exact srep_list a Aa1 ca1 la1 Aa2 ca2 la2 b Ab1 cb1 lb1 Ab2 cb2 lb2 first w ha1 ka1 ha2 ka2 hb1 kb1 hb2 kb2 ka hka kb hkb _ hlo hc
  · cases h
theorem repV_len (a : Bool) (k1 k2 : List Int) (b : Bool) (l1 l2 : List Int) (first : Bool) : (repV a k1 k2 b l1 l2 first).2.1.length ≤ 10000 ∧ (repV a k1 k2 b l1 l2 first).2.2.1.length ≤ 10000 := by
  unfold repV
  split
  · rename_i hv
    simp only [Bool.and_eq_true] at hv
    have ob := hv.2
    have sL := repL1_ok (arrOk_sh ob)
    split
    · generalize repL1 l1 = L1 at *
      obtain ⟨P, Q, n, bN, aN, e1, e2, e3, e4, e5, e6, e7, e8, e9⟩ := ax_parts first sL.1 sL.2
      have hrd : rd L1 (axT first L1 : Int) = (n : Int) := by rw [← e2, e1, List.append_assoc]; exact rd_mid P Q _
      generalize axT first L1 = t at *
      subst e2
      rw [hrd, Int.toNat_natCast]
      unfold repG
      split
      · simp [noArr]
      · rename_i hb5
        have hway : n = 1 ∨ k2.length = 1 ∨ k2.length = n := by omega
        have hcn := cntOk n k2 hway
        split
        · simp [noArr]
        · rename_i hng
          have hnn := negAny_no hng
          split
          · rename_i hs
            have hpr := shOk_prod hs
            have h5 := shOk_len hs
            have hset : ∀ x : Int, L1.set P.length x = P ++ [x] ++ Q := fun x => by rw [e1]; exact set_midR P Q _ x
            have hdrop : L1.drop (P.length + 1) = Q := by rw [e1]; simp
            have htake : L1.take P.length = P := by rw [e1]; simp
            refine ⟨Nat.le_trans h5 (by omega), ?_⟩
            show (repP l2 k2 n (prod (L1.drop (P.length + 1))).toNat (repM n k2) (prod (L1.take P.length)).toNat).length ≤ 10000
            rw [hdrop, htake, e3, e4, Int.toNat_natCast, Int.toNat_natCast, repP_len hcn hnn]
            have hs0 := sumS_nn hcn hnn (repM n k2) (Nat.le_refl _)
            rw [hset, prod_app, prod_app, e3, e4] at hpr
            simp only [prod, Int.mul_one] at hpr
            obtain ⟨T, hT⟩ : ∃ T : Nat, sumS k2 (repM n k2) = (T : Int) := ⟨(sumS k2 (repM n k2)).toNat, by omega⟩
            rw [hT] at hpr ⊢
            rw [Int.toNat_natCast, ← Nat.mul_assoc]
            rw [← Int.natCast_mul, ← Int.natCast_mul] at hpr
            omega
          · simp [noArr]
    · simp [noArr]
  · simp [noArr]
end Go.Proofs.Ytehfcnndjhjkoaa.PA

namespace Go.Proofs.Ytehfcnndjhjkoaa.PA
open Go.RowKit Go.Proofs.YtehfcnndjhjkoaaW.PrintWords Go.Proofs.YtehfcnndjhjkoaaW.PrintLast Go.Proofs.YtehfcnndjhjkoaaW.PrintMore
set_option linter.unusedVariables false
set_option linter.unusedSimpArgs false
/-- A pair of rows of numbers, made between two sizes of the heap. -/
structure PrD where
  lo : Nat
  hi : Nat
  v1 : Value
  v2 : Value
  l1 : List Int
  l2 : List Int
def Pr (W : World) (d : PrD) : Prop := Kd.R (Kd.int .i64) 3 W d.lo (fun k => k < d.hi ∧ some k ≠ d.v2.ownBlock) d.v1 d.l1 ∧ Kd.R (Kd.int .i64) 3 W d.lo (fun k => k < d.hi ∧ some k ≠ d.v1.ownBlock) d.v2 d.l2
abbrev Bk := Nat × Array Value × TypeId
structure St (w W : World) (bl : List Bk) (ps : List PrD) : Prop where
  below : Below w.heap.size w W
  blk : ∀ p ∈ bl, W.heap[p.1]? = some (.cells p.2.1 p.2.2 (0, 0)) ∧ w.heap.size ≤ p.1 ∧ p.2.2 ≠ 3
  nod : bl.Pairwise (fun p q => p.1 ≠ q.1)
  pr : ∀ d ∈ ps, Pr W d ∧ w.heap.size ≤ d.lo ∧ d.hi ≤ W.heap.size
  far : ps.Pairwise (fun d e => e.hi ≤ d.lo)
theorem St.start (w : World) : St w w [] [] := ⟨Below.refl _ _, (fun _ h => nomatch h), .nil, (fun _ h => nomatch h), .nil⟩
theorem Pr.step {W W' : World} {d : PrD} (h : Pr W d) (hb : Below W.heap.size W W') : Pr W' d := ⟨Kd.R_below h.1 hb, Kd.R_below h.2 hb⟩
theorem St.step {w W W' : World} {bl : List Bk} {ps : List PrD} (h : St w W bl ps) (hb : Below W.heap.size W W') : St w W' bl ps :=
  ⟨below_step h.below hb, fun p hp => ⟨blk_below (h.blk p hp).1 hb, (h.blk p hp).2⟩, h.nod, fun d hd => ⟨(h.pr d hd).1.step hb, (h.pr d hd).2.1, Nat.le_trans (h.pr d hd).2.2 hb.size⟩, h.far⟩
theorem St.at {w W : World} {bl : List Bk} {ps : List PrD} (h : St w W bl ps) {g : Nat} {cs : Array Value} {t : TypeId} (hm : (g, cs, t) ∈ bl) : W.heap[g]? = some (.cells cs t (0, 0)) := (h.blk _ hm).1
theorem St.box {w W W' : World} {bl : List Bk} {ps : List PrD} (h : St w W bl ps) {g : Nat} {cs : Array Value} {t : TypeId} (hg : g = W.heap.size) (hB : W'.heap[g]? = some (.cells cs t (0, 0))) (hb : Below W.heap.size W W') (ht : t ≠ 3) : St w W' ((g, cs, t) :: bl) ps := by
  have h' := h.step hb
  refine ⟨h'.below, fun p hp => ?_, .cons (fun p hp e => ?_) h.nod, h'.pr, h.far⟩
  · rcases List.mem_cons.1 hp with rfl | hp
    · exact ⟨hB, hg ▸ h.below.size, ht⟩
    · exact h'.blk p hp
  · have := blk_lt (h.blk p hp).1
    simp only at e; omega
theorem St.alloc {w W : World} {bl : List Bk} {ps : List PrD} (h : St w W bl ps) (cs : Array Value) (t : TypeId) (ht : t ≠ 3) : St w (W.alloc (.cells cs t)) ((W.heap.size, cs, t) :: bl) ps := h.box rfl (blk_new W _) (below_alloc (Below.refl _ _) _) ht
theorem St.drew {w W : World} {bl : List Bk} {ps : List PrD} (h : St w W bl ps) : St w W.drew bl ps := h.step (below_drew (Below.refl _ _))
theorem St.drewN {w W : World} {bl : List Bk} {ps : List PrD} (h : St w W bl ps) (n : Nat) : St w (W.drewN n) bl ps := h.step (pw_below_drewN (Below.refl _ _) n)
theorem St.put {w W w1 : World} {bl : List Bk} {ps : List PrD} (h : St w W bl ps) (i : Nat) {g : Nat} {cs cs1 : Array Value} {t : TypeId} (hi : bl[i]? = some (g, cs, t)) (hs : w1.heap[g]? = some (.cells cs1 t (0, 0))) (hk : But1 g W w1) : St w w1 (bl.set i (g, cs1, t)) ps := by
  obtain ⟨hlt, hie⟩ := List.getElem?_eq_some_iff.1 hi
  have hm : (g, cs, t) ∈ bl := List.mem_of_getElem? hi
  have hg := h.blk _ hm
  have hnod := List.pairwise_iff_getElem.1 h.nod
  have hoth : ∀ (j : Nat) (hj : j < bl.length), j ≠ i → (bl[j]).1 ≠ g := fun j hj hne => by
    rcases Nat.lt_or_gt_of_ne hne with hl | hl
    · have := hnod j i hj hlt hl; rw [hie] at this; exact this
    · have := hnod i j hlt hj hl; rw [hie] at this; exact fun e => this e.symm
  refine ⟨h.below.trans (hk.below _ hg.2.1), fun p hp => ?_, ?_, fun d hd => ⟨?_, (h.pr d hd).2.1, ?_⟩, h.far⟩
  · obtain ⟨j, hj, e⟩ := List.getElem_of_mem hp
    rw [List.length_set] at hj
    rw [List.getElem_set] at e
    split at e
    · subst e; exact ⟨hs, hg.2⟩
    · rename_i hne
      have hp' := h.blk p (e ▸ List.getElem_mem hj)
      exact ⟨hk.blk hp'.1 (e ▸ hoth j hj (fun e => hne e.symm)), hp'.2⟩
  · refine List.pairwise_iff_getElem.2 fun a b ha hb hab => ?_
    rw [List.length_set] at ha hb
    rw [List.getElem_set, List.getElem_set]
    split
    · rename_i e1
      split
      · rename_i e2; omega
      · rename_i e2; exact fun e => hoth b hb (fun e => e2 e.symm) e.symm
    · rename_i e1
      split
      · exact hoth a ha (fun e => e1 e.symm)
      · exact hnod a b ha hb hab
  · exact ⟨hk.row (h.pr d hd).1.1 hg.1 (fun e => hg.2.2 e.symm), hk.row (h.pr d hd).1.2 hg.1 (fun e => hg.2.2 e.symm)⟩
  · exact Nat.le_trans (h.pr d hd).2.2 (hk.below _ hg.2.1).size
theorem Pr.ne {W : World} {d : PrD} (h : Pr W d) : ∀ k, some k = d.v1.ownBlock → ¬ some k = d.v2.ownBlock := fun k hk => (h.1.1 k hk.symm).2
theorem Pr.in1 {W : World} {d : PrD} (h : Pr W d) : ∀ k, some k = d.v1.ownBlock → d.lo ≤ k ∧ k < d.hi := fun k hk => ⟨Kd.R_base h.1 k hk.symm, (h.1.1 k hk.symm).1⟩
theorem Pr.in2 {W : World} {d : PrD} (h : Pr W d) : ∀ k, some k = d.v2.ownBlock → d.lo ≤ k ∧ k < d.hi := fun k hk => ⟨Kd.R_base h.2 k hk.symm, (h.2.1 k hk.symm).1⟩
theorem St.add {w W W' : World} {bl : List Bk} {ps : List PrD} (h : St w W bl ps) (hb : Below W.heap.size W W') {B : Nat} (hle : W.heap.size ≤ B) {v1 v2 : Value} {l1 l2 : List Int} {ok2 : Nat → Prop}
    (R1 : Kd.R (Kd.int .i64) 3 W' B (fun k => some k ≠ v2.ownBlock) v1 l1) (R2 : Kd.R (Kd.int .i64) 3 W' B ok2 v2 l2) : St w W' bl (⟨W.heap.size, W'.heap.size, v1, v2, l1, l2⟩ :: ps) := by
  have h' := h.step hb
  refine ⟨h'.below, h'.blk, h'.nod, fun d hd => ?_, .cons (fun d hd => (h.pr d hd).2.2) h.far⟩
  rcases List.mem_cons.1 hd with rfl | hd
  · refine ⟨⟨Kd.R_reok rfl (Kd.R_lower R1 hle) (fun k hk => ⟨Kd.R_lt R1 k hk, R1.1 k hk⟩), Kd.R_reok rfl (Kd.R_lower R2 hle) (fun k hk => ⟨Kd.R_lt R2 k hk, fun e => R1.1 k e.symm hk.symm⟩)⟩, h.below.size, Nat.le_refl _⟩
  · exact h'.pr d hd
theorem St.prAt {w W : World} {bl : List Bk} {ps : List PrD} (h : St w W bl ps) {d : PrD} (hd : d ∈ ps) : Pr W d := (h.pr d hd).1
theorem St.idx {w W : World} {bl : List Bk} {ps : List PrD} (h : St w W bl ps) (i : Nat) {g : Nat} {cs : Array Value} {t : TypeId} (hi : bl[i]? = some (g, cs, t)) : W.heap[g]? = some (.cells cs t (0, 0)) := (h.blk _ (List.mem_of_getElem? hi)).1
theorem St.nth {w W : World} {bl : List Bk} {ps : List PrD} (h : St w W bl ps) (j : Nat) {d : PrD} (hj : ps[j]? = some d) : Pr W d := h.prAt (List.mem_of_getElem? hj)
theorem St.sub {w W : World} {bl : List Bk} {ps ps' : List PrD} (h : St w W bl ps) (hs : ps'.Sublist ps) : St w W bl ps' := ⟨h.below, h.blk, h.nod, fun d hd => h.pr d (hs.subset hd), h.far.sublist hs⟩
theorem Pr.c1 {W : World} {lo hi n c : Nat} {A : Option Addr} {v2 : Value} {l1 l2 : List Int} (h : Pr W ⟨lo, hi, .slice A n c, v2, l1, l2⟩) : n = l1.length ∧ Kd.C (Kd.int .i64) W A l1.length l1 ∧ l1.length ≤ c :=
  by obtain ⟨e, k, c⟩ := Kd.R_reads' h.1; exact ⟨e, c, e ▸ k⟩
theorem Pr.c2 {W : World} {lo hi n c : Nat} {A : Option Addr} {v1 : Value} {l1 l2 : List Int} (h : Pr W ⟨lo, hi, v1, .slice A n c, l1, l2⟩) : n = l2.length ∧ Kd.C (Kd.int .i64) W A l2.length l2 ∧ l2.length ≤ c :=
  by obtain ⟨e, k, c⟩ := Kd.R_reads' h.2; exact ⟨e, c, e ▸ k⟩
theorem St.mark {w W W' : World} {bl : List Bk} {ps : List PrD} (h : St w W bl ps) (i : Nat) {d : PrD} (hi : ps[i]? = some d) {m1 m2 : List Int} {ok1 ok2 : Nat → Prop} (hk : Kept W W' (fun k => some k = d.v1.ownBlock ∨ some k = d.v2.ownBlock))
    (R1 : Kd.R (Kd.int .i64) 3 W' w.heap.size ok1 d.v1 m1) (R2 : Kd.R (Kd.int .i64) 3 W' w.heap.size ok2 d.v2 m2) (hb : Below w.heap.size w W') : St w W' bl (ps.set i ⟨d.lo, d.hi, d.v1, d.v2, m1, m2⟩) := by
  obtain ⟨hlt, hie⟩ := List.getElem?_eq_some_iff.1 hi
  have hd : d ∈ ps := List.mem_of_getElem? hi
  have hp := h.pr d hd
  have hfar := List.pairwise_iff_getElem.1 h.far
  have hin : ∀ k, (some k = d.v1.ownBlock ∨ some k = d.v2.ownBlock) → d.lo ≤ k ∧ k < d.hi := fun k hk => by
    rcases hk with hk | hk
    · exact hp.1.in1 k hk
    · exact hp.1.in2 k hk
  refine ⟨hb, fun p hp' => ⟨?_, (h.blk p hp').2⟩, h.nod, fun e he => ?_, ?_⟩
  · refine blk_kept (h.blk p hp').1 hk fun hs => ?_
    have hb' := (h.blk p hp').1
    rcases hs with hs | hs
    · obtain ⟨cells, hc⟩ := own_typed (Kd.own_of_R hp.1.1) p.1 hs.symm
      rw [hc] at hb'; injection hb' with hb'; injection hb' with _ hb'; exact (h.blk p hp').2.2 hb'.symm
    · obtain ⟨cells, hc⟩ := own_typed (Kd.own_of_R hp.1.2) p.1 hs.symm
      rw [hc] at hb'; injection hb' with hb'; injection hb' with _ hb'; exact (h.blk p hp').2.2 hb'.symm
  · obtain ⟨j, hj, ej⟩ := List.getElem_of_mem he
    rw [List.length_set] at hj
    rw [List.getElem_set] at ej
    split at ej
    · subst ej
      refine ⟨⟨?_, ?_⟩, hp.2.1, Nat.le_trans hp.2.2 hk.1⟩
      · exact Kd.R_of_own (Kd.own_raise (Kd.own_of_R R1) (fun k hk => (hp.1.in1 k hk.symm).1)) (fun k hk => ⟨(hp.1.in1 k hk.symm).2, hp.1.ne k hk.symm⟩)
      · exact Kd.R_of_own (Kd.own_raise (Kd.own_of_R R2) (fun k hk => (hp.1.in2 k hk.symm).1)) (fun k hk => ⟨(hp.1.in2 k hk.symm).2, fun e => hp.1.ne k e hk.symm⟩)
    · rename_i hne
      have he' : e ∈ ps := ej ▸ List.getElem_mem hj
      have hq := h.pr e he'
      have hdis : ∀ k, e.lo ≤ k → k < e.hi → ¬ (some k = d.v1.ownBlock ∨ some k = d.v2.ownBlock) := fun k h1 h2 hs => by
        have h3 := hin k hs
        rcases Nat.lt_or_gt_of_ne hne with hl | hl
        · have := hfar i j hlt hj hl; rw [hie, ej] at this; omega
        · have := hfar j i hj hlt hl; rw [hie, ej] at this; omega
      refine ⟨⟨?_, ?_⟩, hq.2.1, Nat.le_trans hq.2.2 hk.1⟩
      · exact Kd.R_mono (Kd.R_step (Kd.R_bound hq.1.1) (fun k hok hlt' => hk.2 k hlt' (hdis k hok.2.1 hok.1.1))) (fun k hok => hok.1)
      · exact Kd.R_mono (Kd.R_step (Kd.R_bound hq.1.2) (fun k hok hlt' => hk.2 k hlt' (hdis k hok.2.1 hok.1.1))) (fun k hok => hok.1)
  · refine List.pairwise_iff_getElem.2 fun a b ha hb' hab => ?_
    rw [List.length_set] at ha hb'
    have hab' := hfar a b ha hb' hab
    have ea : ((ps.set i ⟨d.lo, d.hi, d.v1, d.v2, m1, m2⟩)[a]'(by rw [List.length_set]; exact ha)).lo = (ps[a]).lo := by
      rw [List.getElem_set]; split
      · rename_i e; subst e; rw [hie]
      · rfl
    have eb : ((ps.set i ⟨d.lo, d.hi, d.v1, d.v2, m1, m2⟩)[b]'(by rw [List.length_set]; exact hb')).hi = (ps[b]).hi := by
      rw [List.getElem_set]; split
      · rename_i e; subst e; rw [hie]
      · rfl
    rw [ea, eb]; exact hab'
theorem cells3 {W : World} {g : Nat} {t : TypeId} {x y z : Value} (h : W.heap[g]? = some (.cells #[x, y, z] t (0, 0))) : W.cell? ⟨g, 0, none⟩ = some x ∧ W.cell? ⟨g, 1, none⟩ = some y ∧ W.cell? ⟨g, 2, none⟩ = some z :=
  ⟨(blk_cell h 0).trans rfl, (blk_cell h 1).trans rfl, (blk_cell h 2).trans rfl⟩
theorem St.cells2 {w W : World} {bl : List Bk} {ps : List PrD} {g1 g2 : Nat} {x1 y1 z1 x2 y2 z2 : Value} {t1 t2 : TypeId} (h : St w W bl ps) (m1 : (g1, #[x1, y1, z1], t1) ∈ bl) (m2 : (g2, #[x2, y2, z2], t2) ∈ bl) :
    W.cell? ⟨g1, 0, none⟩ = some x1 ∧ W.cell? ⟨g1, 1, none⟩ = some y1 ∧ W.cell? ⟨g1, 2, none⟩ = some z1 ∧ W.cell? ⟨g2, 0, none⟩ = some x2 ∧ W.cell? ⟨g2, 1, none⟩ = some y2 ∧ W.cell? ⟨g2, 2, none⟩ = some z2 :=
  ⟨(cells3 (h.at m1)).1, (cells3 (h.at m1)).2.1, (cells3 (h.at m1)).2.2, cells3 (h.at m2)⟩
theorem But1.set3 {W : World} {g : Nat} (x y z : Value) : But1 g W (((W.setCell ⟨g, 0, none⟩ x).setCell ⟨g, 1, none⟩ y).setCell ⟨g, 2, none⟩ z) :=
  ⟨fun k hk => (Below.heap_setCell _ _ _ k hk).trans ((Below.heap_setCell _ _ _ k hk).trans (Below.heap_setCell _ _ _ k hk)), fun B hB => (((Below.refl B W).setCell (p := ⟨g, 0, none⟩) hB x).setCell (p := ⟨g, 1, none⟩) hB y).setCell (p := ⟨g, 2, none⟩) hB z⟩
theorem St.set3 {w W : World} {bl : List Bk} {ps : List PrD} {g : Nat} {a b c : Value} {t : TypeId} (h : St w W ((g, #[a, b, c], t) :: bl) ps) (x y z : Value) :
    St w (((W.setCell ⟨g, 0, none⟩ x).setCell ⟨g, 1, none⟩ y).setCell ⟨g, 2, none⟩ z) ((g, #[x, y, z], t) :: bl) ps := by
  have s := blk_set (blk_set (blk_set (h.at (g := g) (cs := #[a, b, c]) (t := t) List.mem_cons_self) 0 x) 1 y) 2 z
  exact h.put 0 rfl (by simpa using s) (But1.set3 x y z)
/-- What a call that gives an array and a code leaves, its answer laid in a box. -/
def Got (w : World) (bl : List Bk) (ps : List PrD) (t : TypeId) (b : Bool) (l1 l2 : List Int) (cd : Int) (v6 v7 : Value) (W : World) : Prop :=
  ∃ g A1 c1 A2 c2 lo hi, v6 = .pointer (some ⟨g, 0, none⟩) ∧ v7 = .int .i64 cd ∧ St w W ((g, #[.bool b, .slice A1 l1.length c1, .slice A2 l2.length c2], t) :: bl) (⟨lo, hi, .slice A1 l1.length c1, .slice A2 l2.length c2, l1, l2⟩ :: ps)
theorem gotA {w W : World} {bl : List Bk} {ps ps' : List PrD} {t : TypeId} {b : Bool} {l1 l2 : List Int} {cd : Int} {A1 A2 : Option Addr} {c1 c2 lo hi : Nat} (h : St w W bl (⟨lo, hi, .slice A1 l1.length c1, .slice A2 l2.length c2, l1, l2⟩ :: ps')) (hs : ps.Sublist ps') (ht : t ≠ 3) :
    Got w bl ps t b l1 l2 cd (.pointer (some ⟨W.heap.size, 0, none⟩)) (.int .i64 cd) (W.alloc (.cells #[.bool b, .slice A1 l1.length c1, .slice A2 l2.length c2] t)) :=
  ⟨_, A1, c1, A2, c2, lo, hi, rfl, rfl, (h.alloc _ t ht).sub (hs.cons_cons _)⟩
theorem gotB {w W : World} {bl : List Bk} {ps ps' : List PrD} {t : TypeId} {b : Bool} {l1 l2 : List Int} {cd : Int} {A1 A2 : Option Addr} {c1 c2 lo hi g : Nat} {x y z : Value} (h : St w W ((g, #[x, y, z], t) :: bl) (⟨lo, hi, .slice A1 l1.length c1, .slice A2 l2.length c2, l1, l2⟩ :: ps')) (hs : ps.Sublist ps') :
    Got w bl ps t b l1 l2 cd (.pointer (some ⟨g, 0, none⟩)) (.int .i64 cd) (((W.setCell ⟨g, 0, none⟩ (.bool b)).setCell ⟨g, 1, none⟩ (.slice A1 l1.length c1)).setCell ⟨g, 2, none⟩ (.slice A2 l2.length c2)) :=
  ⟨g, A1, c1, A2, c2, lo, hi, rfl, rfl, (h.set3 _ _ _).sub (hs.cons_cons _)⟩
theorem Got.drew {w W : World} {bl : List Bk} {ps : List PrD} {t : TypeId} {b : Bool} {l1 l2 : List Int} {cd : Int} {v6 v7 : Value} (h : Got w bl ps t b l1 l2 cd v6 v7 W) : Got w bl ps t b l1 l2 cd v6 v7 W.drew := by
  obtain ⟨g, A1, c1, A2, c2, lo, hi, e1, e2, hs⟩ := h
  exact ⟨g, A1, c1, A2, c2, lo, hi, e1, e2, hs.drew⟩
/-- A pair that is marked: what the law's function asks. -/
theorem St.ready {w W : World} {bl : List Bk} {ps : List PrD} (h : St w W bl ps) {d : PrD} (hd : d ∈ ps) :
    Kd.R (Kd.int .i64) 3 W w.heap.size (fun k => some k = d.v1.ownBlock) d.v1 d.l1 ∧ (∀ k, some k = d.v1.ownBlock → ¬ some k = d.v2.ownBlock) ∧ Kd.R (Kd.int .i64) 3 W w.heap.size (fun k => some k = d.v2.ownBlock) d.v2 d.l2 ∧ (∀ k, some k = d.v2.ownBlock → ¬ some k = d.v1.ownBlock) :=
  ⟨Kd.R_tight rfl (Kd.R_lower (h.prAt hd).1 (h.pr d hd).2.1), (h.prAt hd).ne, Kd.R_tight rfl (Kd.R_lower (h.prAt hd).2 (h.pr d hd).2.1), fun k h2 h1 => (h.prAt hd).ne k h1 h2⟩
theorem St.ready' {w W : World} {bl : List Bk} {ps : List PrD} (h : St w W bl ps) (j : Nat) {d : PrD} (hj : ps[j]? = some d) :
    Kd.R (Kd.int .i64) 3 W w.heap.size (fun k => some k = d.v1.ownBlock) d.v1 d.l1 ∧ (∀ k, some k = d.v1.ownBlock → ¬ some k = d.v2.ownBlock) ∧ Kd.R (Kd.int .i64) 3 W w.heap.size (fun k => some k = d.v2.ownBlock) d.v2 d.l2 ∧ (∀ k, some k = d.v2.ownBlock → ¬ some k = d.v1.ownBlock) := h.ready (List.mem_of_getElem? hj)
/-- 'held' at rows whose lengths are written another way. -/
theorem held_n (k : Nat) (b : Bool) (A1 A2 : Option Addr) (n1 n2 c1 c2 : Nat) (l1 l2 : List Int) (a r : Int) (w : World) (e1 : n1 = l1.length) (e2 : n2 = l2.length) (h1 : Kd.C (Kd.int .i64) w A1 l1.length l1) (k1 : l1.length ≤ c1) (h2 : Kd.C (Kd.int .i64) w A2 l2.length l2) (k2 : l2.length ≤ c2)
    (h : laws_heldArray.f k b l1 l2 a = some r) : Calls Try.prog 25 #[.agg #[.bool b, .slice A1 n1 c1, .slice A2 n2 c2], .int .i64 a] w fun e w' => e = .returned (.int .i64 r) ∧ Below w.heap.size w w' := by
  subst e1 e2
  exact laws_heldArray.calls k b A1 c1 l1 A2 c2 l2 a r w h1 k1 h2 k2 h
end Go.Proofs.Ytehfcnndjhjkoaa.PA
