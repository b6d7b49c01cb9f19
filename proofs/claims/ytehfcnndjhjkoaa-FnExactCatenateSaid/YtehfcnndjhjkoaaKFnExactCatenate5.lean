import Derived.Test.YtehfcnndjhjkoaaKFnExactCatenate4
import Derived.IntWalk
import Derived.Deep.RegionHeld3
import Derived.Deep.DeepCutAuto
import Derived.ProofKit
import Derived.OpenShut
import Derived.ChangeOld
import Derived.Below
import Derived.SizedLaws
import Derived.Lib.SmallJoins
import Derived.Deep.Fields

namespace Go.Proofs.Ytehfcnndjhjkoaa.PA
open Go.RowKit Go.Proofs.YtehfcnndjhjkoaaW.PrintWords Go.Proofs.YtehfcnndjhjkoaaW.PrintLast Go.Proofs.YtehfcnndjhjkoaaW.PrintMore
set_option linter.unusedVariables false
set_option linter.unusedSimpArgs false
set_option maxHeartbeats 2000000 in
set_option maxRecDepth 100000 in
theorem scat_on (a : Bool) (Aa1 : Option Addr) (ca1 : Nat) (la1 : List Int) (Aa2 : Option Addr) (ca2 : Nat) (la2 : List Int) (b : Bool) (Ab1 : Option Addr) (cb1 : Nat) (lb1 : List Int) (Ab2 : Option Addr) (cb2 : Nat) (lb2 : List Int) (w : World) (ha1 : Kd.C (Kd.int .i64) w Aa1 la1.length la1) (ka1 : la1.length ≤ ca1) (ha2 : Kd.C (Kd.int .i64) w Aa2 la2.length la2) (ka2 : la2.length ≤ ca2) (hb1 : Kd.C (Kd.int .i64) w Ab1 lb1.length lb1) (kb1 : lb1.length ≤ cb1) (hb2 : Kd.C (Kd.int .i64) w Ab2 lb2.length lb2) (kb2 : lb2.length ≤ cb2) (ka : Nat) (hva : spec_ArrayOk.f ka a la1 la2 = some true) (kb : Nat) (hvb : spec_ArrayOk.f kb b lb1 lb2 = some true) (hn5 : la1.length ≤ 5) (hm5 : lb1.length ≤ 5) (L1 L2 M1 M2 : List Int) (hL1 : L1 = catL1 la1 lb1) (hL2 : L2 = catL2 la1 la2 lb1) (hM1 : M1 = catL1 lb1 la1) (hM2 : M2 = catL2 lb1 lb2 la1) (pq : Bool) (hpq : pq = (decide (la1.length = 0) && decide (lb1.length = 0))) (hd1 : la1.length = 0 → lb1.length = 0 → catL1 la1 lb1 = la1 ++ [1] ∧ catL2 la1 la2 lb1 = la2 ∧ catL1 lb1 la1 = lb1 ++ [1] ∧ catL2 lb1 lb2 la1 = lb2) (hba : la1.length = 0 → lb1.length ≠ 0 → SBesOk #[.agg #[.bool a, .slice Aa1 la1.length ca1, .slice Aa2 la2.length ca2], .agg #[.bool b, .slice Ab1 lb1.length cb1, .slice Ab2 lb2.length cb2]] a (lb1.dropLast ++ [1]) (List.replicate (prod lb1.dropLast).toNat (rd la2 0)) w) (hbb : lb1.length = 0 → la1.length ≠ 0 → SBesOk #[.agg #[.bool b, .slice Ab1 lb1.length cb1, .slice Ab2 lb2.length cb2], .agg #[.bool a, .slice Aa1 la1.length ca1, .slice Aa2 la2.length ca2]] b (la1.dropLast ++ [1]) (List.replicate (prod la1.dropLast).toNat (rd lb2 0)) w) (hr4 : la1.length = 0 ∨ lb1.length = 0 ∨ la1.length + 1 = lb1.length ∨ lb1.length + 1 = la1.length ∨ la1.length = lb1.length) (P1 Q1 : List Int) (hwa : spec_l4Without.f L1 false = some P1) (hwb : spec_l4Without.f M1 false = some Q1) (k2 : Nat) (hq : spec_l3Same.f k2 P1 Q1 = some true) (hway : a = b ∨ (a ≠ b ∧ L2.length = 0) ∨ (a ≠ b ∧ 0 < L2.length ∧ M2.length = 0)) (hp5 : P1.length ≤ 5) (ma nb : Nat) (z : Int) (hz : IntKind.i64.wrap ((ma : Int) + (nb : Int)) = z) (sw : Bool) (hsw : sw = (decide (L2.length = 0) && decide (0 < M2.length))) (kc : Bool) (hkc : kc = if sw then b else a) (k1 : Nat) (zok : Bool) (hsh : spec_l3ShapeOk.f k1 (P1 ++ [z]) = some zok) (kA kB N1 : Nat) (hax : spec_l4Axis.f kA L1 false = some ((N1 : Int), (ma : Int), 1)) (hay : spec_l4Axis.f kB M1 false = some ((N1 : Int), (nb : Int), 1)) (hnr : N1 ≤ 10000) (hpa : N1 * ma = L2.length) (hpb : N1 * nb = M2.length) (hl2_ : L2.length ≤ 10000) (hm2_ : M2.length ≤ 10000) (K_ : Bool) (S1_ S2_ : List Int) (cd_ : Int) (h7 : zok = false → K_ = false ∧ S1_ = [] ∧ S2_ = [] ∧ cd_ = 7) (h0 : zok = true → K_ = kc ∧ S1_ = P1 ++ [z] ∧ S2_ = catRows L2 M2 ma nb N1 ∧ cd_ = 0) :
    Calls Try.prog 37 #[.agg #[.bool a, .slice Aa1 la1.length ca1, .slice Aa2 la2.length ca2], .agg #[.bool b, .slice Ab1 lb1.length cb1, .slice Ab2 lb2.length cb2]] w fun e w' => ∃ v1_ v2_ : Value, e = .returned (.tuple #[.agg #[.bool K_, v1_, v2_], .int .i64 cd_]) ∧ Kd.R (Kd.int .i64) 3 w' w.heap.size (fun k_ => some k_ ≠ (v2_ : Value).ownBlock) v1_ S1_ ∧ Kd.R (Kd.int .i64) 3 w' w.heap.size (fun k_ => some k_ ≠ (v1_ : Value).ownBlock) v2_ S2_ ∧ Below w.heap.size w w' := by
  have Ha1 := Aside0.mk ha1
  have Ka1 := Aside0.mk ka1
  clear ha1 ka1
  have Ha2 := Aside0.mk ha2
  have Ka2 := Aside0.mk ka2
  clear ha2 ka2
  have Hb1 := Aside0.mk hb1
  have Kb1 := Aside0.mk kb1
  clear hb1 kb1
  have Hb2 := Aside0.mk hb2
  have Kb2 := Aside0.mk kb2
  clear hb2 kb2
  have HVa := Aside0.mk hva
  clear hva
  have HVb := Aside0.mk hvb
  clear hvb
  have HN5 := Aside0.mk hn5
  have HM5 := Aside0.mk hm5
  have HL1 := Aside0.mk hL1
  have HL2_ := Aside0.mk hL2
  have HM1 := Aside0.mk hM1
  have HM2_ := Aside0.mk hM2
  have HPQ := Aside0.mk hpq
  have HD1 := Aside0.mk hd1
  have HBA0 := Aside0.mk hba
  have HBB0 := Aside0.mk hbb
  have HR4 := Aside0.mk hr4
  clear hL1 hL2 hM1 hM2 hpq hd1 hba hbb hr4
  have HWA := Aside0.mk hwa
  have HWB := Aside0.mk hwb
  clear hwa hwb
  have HEQ := Aside0.mk hq
  clear hq
  have HP5 := Aside0.mk hp5
  clear hp5
  have HSW := Aside0.mk hsw
  clear hsw
  have HKC := Aside0.mk hkc
  clear hkc
  have HSH := Aside0.mk hsh
  clear hsh
  have HAX := Aside0.mk hax
  clear hax
  have HAY := Aside0.mk hay
  clear hay
  have HNR := Aside0.mk hnr
  clear hnr
  have HPA := Aside0.mk hpa
  clear hpa
  have HPB := Aside0.mk hpb
  clear hpb
  have HL2 := Aside0.mk hl2_
  clear hl2_
  have HM2 := Aside0.mk hm2_
  clear hm2_
  have H7 := Aside0.mk h7
  clear h7
  have H0 := Aside0.mk h0
  clear h0
  have HWAY := Aside0.mk hway
  clear hway
  have HPZ := Aside0.mk (show (P1 ++ [z]).length = P1.length + 1 by simp)
  have HS := Aside0.mk (Sx.start w)
  go_enter Try.func37, Try.ntmps37
  go_upto_region 5 with (first | ((with_reducible refine gate_dst (N := 2) rfl ?_); refine box_event ?hg (N := 2) ?hd (cs := #[.bool a, .slice Aa1 la1.length ca1, .slice Aa2 la2.length ca2]) (t := 28) ?hr ?_; (case hd => rfl); (case hg => rfl); (case hr => first | (go_simp; done) | (go_simp; rfl)); intro gK hg1 w1 hx1 hb1; have nS : Aside0 (Sx w w1 [(.blk gK #[.bool a, .slice Aa1 la1.length ca1, .slice Aa2 la2.length ca2] 28)]) := Aside0.mk (HS.out.box hg1 hx1 hb1); clear HS; have HS := nS; clear nS hg1 hx1 hb1) | ((with_reducible refine gate_dst (N := 3) rfl ?_); refine box_event ?hg (N := 3) ?hd (cs := #[.bool b, .slice Ab1 lb1.length cb1, .slice Ab2 lb2.length cb2]) (t := 28) ?hr ?_; (case hd => rfl); (case hg => rfl); (case hr => first | (go_simp; done) | (go_simp; rfl)); intro gB hg2 w2 hx2 hb2; have nS : Aside0 (Sx w w2 [(.blk gB #[.bool b, .slice Ab1 lb1.length cb1, .slice Ab2 lb2.length cb2] 28), (.blk gK #[.bool a, .slice Aa1 la1.length ca1, .slice Aa2 la2.length ca2] 28)]) := Aside0.mk (HS.out.box hg2 hx2 hb2); clear HS; have HS := nS; clear nS hg2 hx2 hb2) | ((with_reducible refine gate_dst (N := 4) rfl ?_); refine box_event ?hg (N := 4) ?hd (cs := #[.bool false, .slice none 0 0, .slice none 0 0]) (t := 28) ?hr ?_; (case hd => rfl); (case hg => rfl); (case hr => first | (go_simp; done) | (go_simp; rfl)); intro gR hg3 w3 hx3 hb3; have nS : Aside0 (Sx w w3 [(.blk gR #[.bool false, .slice none 0 0, .slice none 0 0] 28), (.blk gB #[.bool b, .slice Ab1 lb1.length cb1, .slice Ab2 lb2.length cb2] 28), (.blk gK #[.bool a, .slice Aa1 la1.length ca1, .slice Aa2 la2.length ca2] 28)]) := Aside0.mk (HS.out.box hg3 hx3 hb3); clear HS; have HS := nS; clear nS hg3 hx3 hb3) | ((with_reducible refine gate_dst (N := 16) rfl ?_); refine wpList_load_row rfl 28 (.tmp 2) rfl gK rfl 28 #[.bool a, .slice Aa1 la1.length ca1, .slice Aa2 la2.length ca2] (0, 0) _ (HS.out.blk 2 rfl) Try.underlying28 rfl (by kernel_rfl) ?_) | (go_at_call 47; with_reducible refine (spec_ArrayOk.calls ka a Aa1 ca1 la1 Aa2 ca2 la2 true _ (Kd.C_below Ha1.out HS.out.below) Ka1.out (Kd.C_below Ha2.out HS.out.below) Ka2.out HVa.out).mono ?_; rintro e w4 ⟨rfl, hb4⟩; have nS : Aside0 (Sx w w4 [(.blk gR #[.bool false, .slice none 0 0, .slice none 0 0] 28), (.blk gB #[.bool b, .slice Ab1 lb1.length cb1, .slice Ab2 lb2.length cb2] 28), (.blk gK #[.bool a, .slice Aa1 la1.length ca1, .slice Aa2 la2.length ca2] 28)]) := Aside0.mk (HS.out.step hb4); clear HS; have HS := nS; clear nS hb4) | ((with_reducible refine wpList_guardedB ?hw ?_); (case hw => first | rfl | (go_simp; done))) | ((with_reducible refine gate_dst (N := 20) rfl ?_); refine wpList_load_row rfl 28 (.tmp 3) rfl gB rfl 28 #[.bool b, .slice Ab1 lb1.length cb1, .slice Ab2 lb2.length cb2] (0, 0) _ (HS.out.blk 1 rfl) Try.underlying28 rfl (by kernel_rfl) ?_) | (go_at_call 47; with_reducible refine (spec_ArrayOk.calls kb b Ab1 cb1 lb1 Ab2 cb2 lb2 true _ (Kd.C_below Hb1.out HS.out.below) Kb1.out (Kd.C_below Hb2.out HS.out.below) Kb2.out HVb.out).mono ?_; rintro e w5 ⟨rfl, hb5⟩; have nS : Aside0 (Sx w w5 [(.blk gR #[.bool false, .slice none 0 0, .slice none 0 0] 28), (.blk gB #[.bool b, .slice Ab1 lb1.length cb1, .slice Ab2 lb2.length cb2] 28), (.blk gK #[.bool a, .slice Aa1 la1.length ca1, .slice Aa2 la2.length ca2] 28)]) := Aside0.mk (HS.out.step hb5); clear HS; have HS := nS; clear nS hb5) | ((with_reducible refine gate_dst (N := 26) rfl ?_); refine ev_load rfl 22 (.tmp 25) rfl ⟨gK, 1, none⟩ rfl (.slice Aa1 la1.length ca1) ((blk_cell (HS.out.blk 2 rfl) 1).trans rfl) (by kernel_rfl) ?_) | ((with_reducible refine gate_dst (N := 29) rfl ?_); refine ev_load rfl 22 (.tmp 28) rfl ⟨gB, 1, none⟩ rfl (.slice Ab1 lb1.length cb1) ((blk_cell (HS.out.blk 1 rfl) 1).trans rfl) (by kernel_rfl) ?_))
  go_cut [36] from 31 to 36 (fun s36 wx => s36 = .bool pq ∧ Aside0 (Sx w wx [(.blk gR #[.bool false, .slice none 0 0, .slice none 0 0] 28), (.blk gB #[.bool b, .slice Ab1 lb1.length cb1, .slice Ab2 lb2.length cb2] 28), (.blk gK #[.bool a, .slice Aa1 la1.length ca1, .slice Aa2 la2.length ca2] 28)]))
  case first =>
    by_cases y1 : la1.length = 0
    · by_cases y2 : lb1.length = 0
      · have t1 : (((la1.length : Int) : Int) == 0) = true := beq_iff_eq.mpr (by omega)
        have u1_ : (la1.length == 0) = true := beq_iff_eq.mpr (by omega)
        have u1_d : decide (la1.length = 0) = true := decide_eq_true (by omega)
        have t2 : (((lb1.length : Int) : Int) == 0) = true := beq_iff_eq.mpr (by omega)
        have u2_ : (lb1.length == 0) = true := beq_iff_eq.mpr (by omega)
        have u2_d : decide (lb1.length = 0) = true := decide_eq_true (by omega)
        have E36 := Aside0.mk (show pq = true by rw [HPQ.out, decide_eq_true y1, decide_eq_true y2]; rfl)
        clear y1 y2
        go_wp2_with (first | ((with_reducible refine wpList_guardedB ?hw ?_); (case hw => first | rfl | (go_simp; done))))
        go_meet
        case rel => exact ⟨by first | (rw [E36.out]; done) | (rw [E36.out, u2_d]), HS⟩
      · have t1 : (((la1.length : Int) : Int) == 0) = true := beq_iff_eq.mpr (by omega)
        have u1_ : (la1.length == 0) = true := beq_iff_eq.mpr (by omega)
        have u1_d : decide (la1.length = 0) = true := decide_eq_true (by omega)
        have t2 : (((lb1.length : Int) : Int) == 0) = false := beq_eq_false_iff_ne.mpr (by omega)
        have u2_ : (lb1.length == 0) = false := beq_eq_false_iff_ne.mpr (by omega)
        have u2_d : decide (lb1.length = 0) = false := decide_eq_false (by omega)
        have u2_p : ¬ lb1.length = 0 := by omega
        have E36 := Aside0.mk (show pq = false by rw [HPQ.out, decide_eq_true y1, decide_eq_false y2]; rfl)
        clear y1 y2
        go_wp2_with (first | ((with_reducible refine wpList_guardedB ?hw ?_); (case hw => first | rfl | (go_simp; done))))
        go_meet
        case rel => exact ⟨by first | (rw [E36.out]; done) | (rw [E36.out, u2_d]), HS⟩
    · have t1 : (((la1.length : Int) : Int) == 0) = false := beq_eq_false_iff_ne.mpr (by omega)
      have u1_ : (la1.length == 0) = false := beq_eq_false_iff_ne.mpr (by omega)
      have u1_d : decide (la1.length = 0) = false := decide_eq_false (by omega)
      have u1_p : ¬ la1.length = 0 := by omega
      have E36 := Aside0.mk (show pq = false by rw [HPQ.out, decide_eq_false y1]; rfl)
      clear y1
      go_wp2_with (first | ((with_reducible refine wpList_guardedB ?hw ?_); (case hw => first | rfl | (go_simp; done))))
      go_meet
      case rel => exact ⟨by first | (rw [E36.out]; done) | (rw [E36.out, u2_d]), HS⟩
  clear HS
  obtain ⟨e36, HS⟩ := hcut
  subst e36
  go_upto_if 36 with fail
  go_cut [] from 37 to 66 (fun wx => ∃ As cs Ad cd Bs ds Bd dd, Kd.C (Kd.int .i64) wx As L1.length L1 ∧ L1.length ≤ cs ∧ Kd.C (Kd.int .i64) wx Ad L2.length L2 ∧ L2.length ≤ cd ∧ Kd.C (Kd.int .i64) wx Bs M1.length M1 ∧ M1.length ≤ ds ∧ Kd.C (Kd.int .i64) wx Bd M2.length M2 ∧ M2.length ≤ dd ∧ Aside0 (Sx w wx [(.blk gR #[.bool false, .slice none 0 0, .slice none 0 0] 28), (.blk gB #[.bool b, .slice Bs M1.length ds, .slice Bd M2.length dd] 28), (.blk gK #[.bool a, .slice As L1.length cs, .slice Ad L2.length cd] 28)]))
  case first =>
    have hpq := HPQ.out
    clear HPQ
    by_cases y1 : la1.length = 0
    · by_cases y2 : lb1.length = 0
      · have e_ : pq = true := by rw [hpq, decide_eq_true y1, decide_eq_true y2]; rfl
        subst e_
        have f1 := HD1.out y1 y2
        obtain ⟨e1_, e2_, e3_, e4_⟩ : L1 = (la1 ++ [1]) ∧ L2 = la2 ∧ M1 = (lb1 ++ [1]) ∧ M2 = lb2 := ⟨HL1.out.trans f1.1, HL2_.out.trans f1.2.1, HM1.out.trans f1.2.2.1, HM2_.out.trans f1.2.2.2⟩
        clear HL1 HL2_ HM1 HM2_
        have HWDa := Aside0.mk (show WBesOk #[.agg #[.bool a, .slice Aa1 la1.length ca1, .slice Aa2 la2.length ca2]] a L1 L2 w by rw [e1_, e2_]; exact wbesOk a Aa1 ca1 la1 Aa2 ca2 la2 w Ha1.out Ka1.out Ha2.out Ka2.out HN5.out)
        clear e1_ e2_
        have HWDb := Aside0.mk (show WBesOk #[.agg #[.bool b, .slice Ab1 lb1.length cb1, .slice Ab2 lb2.length cb2]] b M1 M2 w by rw [e3_, e4_]; exact wbesOk b Ab1 cb1 lb1 Ab2 cb2 lb2 w Hb1.out Kb1.out Hb2.out Kb2.out HM5.out)
        clear e3_ e4_
        clear y1 y2 hpq f1 hn5 hm5
        go_wp2_with (first | ((with_reducible refine gate_dst (N := 37) rfl ?_); refine wpList_load_row rfl 28 (.tmp 2) rfl gK rfl 28 #[.bool a, .slice Aa1 la1.length ca1, .slice Aa2 la2.length ca2] (0, 0) _ (HS.out.blk 2 rfl) Try.underlying28 rfl (by kernel_rfl) ?_) | (go_at_call_of 85 (Value.agg #[.bool a, .slice Aa1 la1.length ca1, .slice Aa2 la2.length ca2]); refine (HWDa.out.go _ HS.out.below).mono ?_; rintro e wp6 ⟨As, cs, Ad, cd, rfl, hCA1, hKA1, hCA2, hKA2, hbp6⟩; have CA1 := Aside0.mk hCA1; have KA1 := Aside0.mk hKA1; have CA2 := Aside0.mk hCA2; have KA2 := Aside0.mk hKA2; clear hCA1 hKA1 hCA2 hKA2; have nS : Aside0 (Sx w wp6 [(.blk gR #[.bool false, .slice none 0 0, .slice none 0 0] 28), (.blk gB #[.bool b, .slice Ab1 lb1.length cb1, .slice Ab2 lb2.length cb2] 28), (.blk gK #[.bool a, .slice Aa1 la1.length ca1, .slice Aa2 la2.length ca2] 28)]) := Aside0.mk (HS.out.step hbp6); clear HS; have HS := nS; clear nS hbp6) | ((with_reducible refine gate_store rfl ?_); refine store_named rfl 28 (.tmp 2) (.tmp 38) rfl gK #[.bool a, .slice As L1.length cs, .slice Ad L2.length cd] rfl rfl 28 #[.bool a, .slice Aa1 la1.length ca1, .slice Aa2 la2.length ca2] (HS.out.blk 2 rfl) (by kernel_rfl) rfl (by simp [Value.oneCell']) ?_; intro wp7 hxp7 hbp7; have nCA1 := Aside0.mk (C_but1 CA1.out hbp7 (HS.out.blk 2 rfl) (noInt_A _ _ _ _ _ _ _)); clear CA1; have CA1 := nCA1; clear nCA1; have nCA2 := Aside0.mk (C_but1 CA2.out hbp7 (HS.out.blk 2 rfl) (noInt_A _ _ _ _ _ _ _)); clear CA2; have CA2 := nCA2; clear nCA2; have nS : Aside0 (Sx w wp7 [(.blk gR #[.bool false, .slice none 0 0, .slice none 0 0] 28), (.blk gB #[.bool b, .slice Ab1 lb1.length cb1, .slice Ab2 lb2.length cb2] 28), (.blk gK #[.bool a, .slice As L1.length cs, .slice Ad L2.length cd] 28)]) := Aside0.mk (HS.out.put 2 rfl hxp7 hbp7); clear HS; have HS := nS; clear nS hxp7 hbp7) | ((with_reducible refine gate_dst (N := 39) rfl ?_); refine wpList_load_row rfl 28 (.tmp 3) rfl gB rfl 28 #[.bool b, .slice Ab1 lb1.length cb1, .slice Ab2 lb2.length cb2] (0, 0) _ (HS.out.blk 1 rfl) Try.underlying28 rfl (by kernel_rfl) ?_) | (go_at_call_of 85 (Value.agg #[.bool b, .slice Ab1 lb1.length cb1, .slice Ab2 lb2.length cb2]); refine (HWDb.out.go _ HS.out.below).mono ?_; rintro e wp8 ⟨Bs, ds, Bd, dd, rfl, hCB1, hKB1, hCB2, hKB2, hbp8⟩; have CB1 := Aside0.mk hCB1; have KB1 := Aside0.mk hKB1; have CB2 := Aside0.mk hCB2; have KB2 := Aside0.mk hKB2; clear hCB1 hKB1 hCB2 hKB2; have nCA1 := Aside0.mk (Kd.C_below CA1.out hbp8); clear CA1; have CA1 := nCA1; clear nCA1; have nCA2 := Aside0.mk (Kd.C_below CA2.out hbp8); clear CA2; have CA2 := nCA2; clear nCA2; have nS : Aside0 (Sx w wp8 [(.blk gR #[.bool false, .slice none 0 0, .slice none 0 0] 28), (.blk gB #[.bool b, .slice Ab1 lb1.length cb1, .slice Ab2 lb2.length cb2] 28), (.blk gK #[.bool a, .slice As L1.length cs, .slice Ad L2.length cd] 28)]) := Aside0.mk (HS.out.step hbp8); clear HS; have HS := nS; clear nS hbp8) | ((with_reducible refine gate_store rfl ?_); refine store_named rfl 28 (.tmp 3) (.tmp 40) rfl gB #[.bool b, .slice Bs M1.length ds, .slice Bd M2.length dd] rfl rfl 28 #[.bool b, .slice Ab1 lb1.length cb1, .slice Ab2 lb2.length cb2] (HS.out.blk 1 rfl) (by kernel_rfl) rfl (by simp [Value.oneCell']) ?_; intro wp9 hxp9 hbp9; have nCA1 := Aside0.mk (C_but1 CA1.out hbp9 (HS.out.blk 1 rfl) (noInt_A _ _ _ _ _ _ _)); clear CA1; have CA1 := nCA1; clear nCA1; have nCA2 := Aside0.mk (C_but1 CA2.out hbp9 (HS.out.blk 1 rfl) (noInt_A _ _ _ _ _ _ _)); clear CA2; have CA2 := nCA2; clear nCA2; have nCB1 := Aside0.mk (C_but1 CB1.out hbp9 (HS.out.blk 1 rfl) (noInt_A _ _ _ _ _ _ _)); clear CB1; have CB1 := nCB1; clear nCB1; have nCB2 := Aside0.mk (C_but1 CB2.out hbp9 (HS.out.blk 1 rfl) (noInt_A _ _ _ _ _ _ _)); clear CB2; have CB2 := nCB2; clear nCB2; have nS : Aside0 (Sx w wp9 [(.blk gR #[.bool false, .slice none 0 0, .slice none 0 0] 28), (.blk gB #[.bool b, .slice Bs M1.length ds, .slice Bd M2.length dd] 28), (.blk gK #[.bool a, .slice As L1.length cs, .slice Ad L2.length cd] 28)]) := Aside0.mk (HS.out.put 1 rfl hxp9 hbp9); clear HS; have HS := nS; clear nS hxp9 hbp9))
        go_meet
        case rel => exact ⟨As, cs, Ad, cd, Bs, ds, Bd, dd, CA1.out, KA1.out, CA2.out, KA2.out, CB1.out, KB1.out, CB2.out, KB2.out, HS⟩
      · have e_ : pq = false := by rw [hpq, decide_eq_true y1, decide_eq_false y2]; rfl
        subst e_
        have t1 : (((la1.length : Int) : Int) == 0) = true := beq_iff_eq.mpr (by omega)
        have u1_ : (la1.length == 0) = true := beq_iff_eq.mpr (by omega)
        have u1_d : decide (la1.length = 0) = true := decide_eq_true (by omega)
        obtain ⟨e1_, e2_, e3_, e4_⟩ : L1 = (lb1.dropLast ++ [1]) ∧ L2 = (List.replicate (prod lb1.dropLast).toNat (rd la2 0)) ∧ M1 = lb1 ∧ M2 = lb2 := by
          have h1 := HL1.out; have h2 := HL2_.out; have h3 := HM1.out; have h4 := HM2_.out
          unfold catL1 at h1 h3; unfold catL2 at h2 h4
          (repeat (first | rw [if_pos (by omega)] at h1 | rw [if_neg (by omega)] at h1)); (repeat (first | rw [if_pos (by omega)] at h2 | rw [if_neg (by omega)] at h2)); (repeat (first | rw [if_pos (by omega)] at h3 | rw [if_neg (by omega)] at h3)); (repeat (first | rw [if_pos (by omega)] at h4 | rw [if_neg (by omega)] at h4))
          exact ⟨h1, h2, h3, h4⟩
        clear HL1 HL2_ HM1 HM2_
        have HBA := Aside0.mk (show SBesOk #[.agg #[.bool a, .slice Aa1 la1.length ca1, .slice Aa2 la2.length ca2], .agg #[.bool b, .slice Ab1 lb1.length cb1, .slice Ab2 lb2.length cb2]] a L1 L2 w by rw [e1_, e2_]; exact HBA0.out y1 y2)
        clear e1_ e2_
        subst M1 M2
        clear y1 y2 hpq hn5 hm5
        go_wp2_with (first | ((with_reducible refine gate_dst (N := 43) rfl ?_); refine wpList_load_row rfl 28 (.tmp 2) rfl gK rfl 28 #[.bool a, .slice Aa1 la1.length ca1, .slice Aa2 la2.length ca2] (0, 0) _ (HS.out.blk 2 rfl) Try.underlying28 rfl (by kernel_rfl) ?_) | ((with_reducible refine gate_dst (N := 44) rfl ?_); refine wpList_load_row rfl 28 (.tmp 3) rfl gB rfl 28 #[.bool b, .slice Ab1 lb1.length cb1, .slice Ab2 lb2.length cb2] (0, 0) _ (HS.out.blk 1 rfl) Try.underlying28 rfl (by kernel_rfl) ?_) | (go_at_call 86; refine (HBA.out.go _ HS.out.below).mono ?_; rintro e wp6 ⟨As, cs, Ad, cd, rfl, hCA1, hKA1, hCA2, hKA2, hbp6⟩; have CA1 := Aside0.mk hCA1; have KA1 := Aside0.mk hKA1; have CA2 := Aside0.mk hCA2; have KA2 := Aside0.mk hKA2; clear hCA1 hKA1 hCA2 hKA2; have nS : Aside0 (Sx w wp6 [(.blk gR #[.bool false, .slice none 0 0, .slice none 0 0] 28), (.blk gB #[.bool b, .slice Ab1 lb1.length cb1, .slice Ab2 lb2.length cb2] 28), (.blk gK #[.bool a, .slice Aa1 la1.length ca1, .slice Aa2 la2.length ca2] 28)]) := Aside0.mk (HS.out.step hbp6); clear HS; have HS := nS; clear nS hbp6) | ((with_reducible refine gate_store rfl ?_); refine store_named rfl 28 (.tmp 2) (.tmp 45) rfl gK #[.bool a, .slice As L1.length cs, .slice Ad L2.length cd] rfl rfl 28 #[.bool a, .slice Aa1 la1.length ca1, .slice Aa2 la2.length ca2] (HS.out.blk 2 rfl) (by kernel_rfl) rfl (by simp [Value.oneCell']) ?_; intro wp7 hxp7 hbp7; have nCA1 := Aside0.mk (C_but1 CA1.out hbp7 (HS.out.blk 2 rfl) (noInt_A _ _ _ _ _ _ _)); clear CA1; have CA1 := nCA1; clear nCA1; have nCA2 := Aside0.mk (C_but1 CA2.out hbp7 (HS.out.blk 2 rfl) (noInt_A _ _ _ _ _ _ _)); clear CA2; have CA2 := nCA2; clear nCA2; have nS : Aside0 (Sx w wp7 [(.blk gR #[.bool false, .slice none 0 0, .slice none 0 0] 28), (.blk gB #[.bool b, .slice Ab1 lb1.length cb1, .slice Ab2 lb2.length cb2] 28), (.blk gK #[.bool a, .slice As L1.length cs, .slice Ad L2.length cd] 28)]) := Aside0.mk (HS.out.put 2 rfl hxp7 hbp7); clear HS; have HS := nS; clear nS hxp7 hbp7))
        go_meet
        case rel => exact ⟨As, cs, Ad, cd, Ab1, cb1, Ab2, cb2, CA1.out, KA1.out, CA2.out, KA2.out, (Kd.C_below Hb1.out HS.out.below), Kb1.out, (Kd.C_below Hb2.out HS.out.below), Kb2.out, HS⟩
    · by_cases y2 : lb1.length = 0
      · have e_ : pq = false := by rw [hpq, decide_eq_false y1]; rfl
        subst e_
        have t1 : (((la1.length : Int) : Int) == 0) = false := beq_eq_false_iff_ne.mpr (by omega)
        have u1_ : (la1.length == 0) = false := beq_eq_false_iff_ne.mpr (by omega)
        have u1_d : decide (la1.length = 0) = false := decide_eq_false (by omega)
        have u1_p : ¬ la1.length = 0 := by omega
        have t2 : (((lb1.length : Int) : Int) == 0) = true := beq_iff_eq.mpr (by omega)
        have u2_ : (lb1.length == 0) = true := beq_iff_eq.mpr (by omega)
        have u2_d : decide (lb1.length = 0) = true := decide_eq_true (by omega)
        obtain ⟨e1_, e2_, e3_, e4_⟩ : L1 = la1 ∧ L2 = la2 ∧ M1 = (la1.dropLast ++ [1]) ∧ M2 = (List.replicate (prod la1.dropLast).toNat (rd lb2 0)) := by
          have h1 := HL1.out; have h2 := HL2_.out; have h3 := HM1.out; have h4 := HM2_.out
          unfold catL1 at h1 h3; unfold catL2 at h2 h4
          (repeat (first | rw [if_pos (by omega)] at h1 | rw [if_neg (by omega)] at h1)); (repeat (first | rw [if_pos (by omega)] at h2 | rw [if_neg (by omega)] at h2)); (repeat (first | rw [if_pos (by omega)] at h3 | rw [if_neg (by omega)] at h3)); (repeat (first | rw [if_pos (by omega)] at h4 | rw [if_neg (by omega)] at h4))
          exact ⟨h1, h2, h3, h4⟩
        clear HL1 HL2_ HM1 HM2_
        subst L1 L2
        have HBB := Aside0.mk (show SBesOk #[.agg #[.bool b, .slice Ab1 lb1.length cb1, .slice Ab2 lb2.length cb2], .agg #[.bool a, .slice Aa1 la1.length ca1, .slice Aa2 la2.length ca2]] b M1 M2 w by rw [e3_, e4_]; exact HBB0.out y2 y1)
        clear e3_ e4_
        clear y1 y2 hpq hn5 hm5
        go_wp2_with (first | ((with_reducible refine gate_dst (N := 48) rfl ?_); refine wpList_load_row rfl 28 (.tmp 3) rfl gB rfl 28 #[.bool b, .slice Ab1 lb1.length cb1, .slice Ab2 lb2.length cb2] (0, 0) _ (HS.out.blk 1 rfl) Try.underlying28 rfl (by kernel_rfl) ?_) | ((with_reducible refine gate_dst (N := 49) rfl ?_); refine wpList_load_row rfl 28 (.tmp 2) rfl gK rfl 28 #[.bool a, .slice Aa1 la1.length ca1, .slice Aa2 la2.length ca2] (0, 0) _ (HS.out.blk 2 rfl) Try.underlying28 rfl (by kernel_rfl) ?_) | (go_at_call 86; refine (HBB.out.go _ HS.out.below).mono ?_; rintro e wp6 ⟨Bs, ds, Bd, dd, rfl, hCB1, hKB1, hCB2, hKB2, hbp6⟩; have CB1 := Aside0.mk hCB1; have KB1 := Aside0.mk hKB1; have CB2 := Aside0.mk hCB2; have KB2 := Aside0.mk hKB2; clear hCB1 hKB1 hCB2 hKB2; have nS : Aside0 (Sx w wp6 [(.blk gR #[.bool false, .slice none 0 0, .slice none 0 0] 28), (.blk gB #[.bool b, .slice Ab1 lb1.length cb1, .slice Ab2 lb2.length cb2] 28), (.blk gK #[.bool a, .slice Aa1 la1.length ca1, .slice Aa2 la2.length ca2] 28)]) := Aside0.mk (HS.out.step hbp6); clear HS; have HS := nS; clear nS hbp6) | ((with_reducible refine gate_store rfl ?_); refine store_named rfl 28 (.tmp 3) (.tmp 50) rfl gB #[.bool b, .slice Bs M1.length ds, .slice Bd M2.length dd] rfl rfl 28 #[.bool b, .slice Ab1 lb1.length cb1, .slice Ab2 lb2.length cb2] (HS.out.blk 1 rfl) (by kernel_rfl) rfl (by simp [Value.oneCell']) ?_; intro wp7 hxp7 hbp7; have nCB1 := Aside0.mk (C_but1 CB1.out hbp7 (HS.out.blk 1 rfl) (noInt_A _ _ _ _ _ _ _)); clear CB1; have CB1 := nCB1; clear nCB1; have nCB2 := Aside0.mk (C_but1 CB2.out hbp7 (HS.out.blk 1 rfl) (noInt_A _ _ _ _ _ _ _)); clear CB2; have CB2 := nCB2; clear nCB2; have nS : Aside0 (Sx w wp7 [(.blk gR #[.bool false, .slice none 0 0, .slice none 0 0] 28), (.blk gB #[.bool b, .slice Bs M1.length ds, .slice Bd M2.length dd] 28), (.blk gK #[.bool a, .slice Aa1 la1.length ca1, .slice Aa2 la2.length ca2] 28)]) := Aside0.mk (HS.out.put 1 rfl hxp7 hbp7); clear HS; have HS := nS; clear nS hxp7 hbp7))
        go_meet
        case rel => exact ⟨Aa1, ca1, Aa2, ca2, Bs, ds, Bd, dd, (Kd.C_below Ha1.out HS.out.below), Ka1.out, (Kd.C_below Ha2.out HS.out.below), Ka2.out, CB1.out, KB1.out, CB2.out, KB2.out, HS⟩
      · by_cases y3 : la1.length + 1 = lb1.length
        · have e_ : pq = false := by rw [hpq, decide_eq_false y1]; rfl
          subst e_
          have t1 : (((la1.length : Int) : Int) == 0) = false := beq_eq_false_iff_ne.mpr (by omega)
          have u1_ : (la1.length == 0) = false := beq_eq_false_iff_ne.mpr (by omega)
          have u1_d : decide (la1.length = 0) = false := decide_eq_false (by omega)
          have u1_p : ¬ la1.length = 0 := by omega
          have t2 : (((lb1.length : Int) : Int) == 0) = false := beq_eq_false_iff_ne.mpr (by omega)
          have u2_ : (lb1.length == 0) = false := beq_eq_false_iff_ne.mpr (by omega)
          have u2_d : decide (lb1.length = 0) = false := decide_eq_false (by omega)
          have u2_p : ¬ lb1.length = 0 := by omega
          have t3 : (((la1.length : Int) + 1 : Int) == (lb1.length : Int)) = true := beq_iff_eq.mpr (by omega)
          have wa_ : IntKind.i64.wrap ((la1.length : Int) + 1) = (la1.length : Int) + 1 := IntWalk.i64_in _ (by have := HN5.out; omega)
          have wb_ : IntKind.i64.wrap ((lb1.length : Int) + 1) = (lb1.length : Int) + 1 := IntWalk.i64_in _ (by have := HM5.out; omega)
          obtain ⟨e1_, e2_, e3_, e4_⟩ : L1 = (la1 ++ [1]) ∧ L2 = la2 ∧ M1 = lb1 ∧ M2 = lb2 := by
            have h1 := HL1.out; have h2 := HL2_.out; have h3 := HM1.out; have h4 := HM2_.out
            unfold catL1 at h1 h3; unfold catL2 at h2 h4
            (repeat (first | rw [if_pos (by omega)] at h1 | rw [if_neg (by omega)] at h1)); (repeat (first | rw [if_pos (by omega)] at h2 | rw [if_neg (by omega)] at h2)); (repeat (first | rw [if_pos (by omega)] at h3 | rw [if_neg (by omega)] at h3)); (repeat (first | rw [if_pos (by omega)] at h4 | rw [if_neg (by omega)] at h4))
            exact ⟨h1, h2, h3, h4⟩
          clear HL1 HL2_ HM1 HM2_
          have HWDa := Aside0.mk (show WBesOk #[.agg #[.bool a, .slice Aa1 la1.length ca1, .slice Aa2 la2.length ca2]] a L1 L2 w by rw [e1_, e2_]; exact wbesOk a Aa1 ca1 la1 Aa2 ca2 la2 w Ha1.out Ka1.out Ha2.out Ka2.out HN5.out)
          clear e1_ e2_
          subst M1 M2
          clear y1 y2 y3 hpq hn5 hm5
          go_wp2_with (first | ((with_reducible refine gate_dst (N := 55) rfl ?_); refine wpList_load_row rfl 28 (.tmp 2) rfl gK rfl 28 #[.bool a, .slice Aa1 la1.length ca1, .slice Aa2 la2.length ca2] (0, 0) _ (HS.out.blk 2 rfl) Try.underlying28 rfl (by kernel_rfl) ?_) | (go_at_call_of 85 (Value.agg #[.bool a, .slice Aa1 la1.length ca1, .slice Aa2 la2.length ca2]); refine (HWDa.out.go _ HS.out.below).mono ?_; rintro e wp6 ⟨As, cs, Ad, cd, rfl, hCA1, hKA1, hCA2, hKA2, hbp6⟩; have CA1 := Aside0.mk hCA1; have KA1 := Aside0.mk hKA1; have CA2 := Aside0.mk hCA2; have KA2 := Aside0.mk hKA2; clear hCA1 hKA1 hCA2 hKA2; have nS : Aside0 (Sx w wp6 [(.blk gR #[.bool false, .slice none 0 0, .slice none 0 0] 28), (.blk gB #[.bool b, .slice Ab1 lb1.length cb1, .slice Ab2 lb2.length cb2] 28), (.blk gK #[.bool a, .slice Aa1 la1.length ca1, .slice Aa2 la2.length ca2] 28)]) := Aside0.mk (HS.out.step hbp6); clear HS; have HS := nS; clear nS hbp6) | ((with_reducible refine gate_store rfl ?_); refine store_named rfl 28 (.tmp 2) (.tmp 56) rfl gK #[.bool a, .slice As L1.length cs, .slice Ad L2.length cd] rfl rfl 28 #[.bool a, .slice Aa1 la1.length ca1, .slice Aa2 la2.length ca2] (HS.out.blk 2 rfl) (by kernel_rfl) rfl (by simp [Value.oneCell']) ?_; intro wp7 hxp7 hbp7; have nCA1 := Aside0.mk (C_but1 CA1.out hbp7 (HS.out.blk 2 rfl) (noInt_A _ _ _ _ _ _ _)); clear CA1; have CA1 := nCA1; clear nCA1; have nCA2 := Aside0.mk (C_but1 CA2.out hbp7 (HS.out.blk 2 rfl) (noInt_A _ _ _ _ _ _ _)); clear CA2; have CA2 := nCA2; clear nCA2; have nS : Aside0 (Sx w wp7 [(.blk gR #[.bool false, .slice none 0 0, .slice none 0 0] 28), (.blk gB #[.bool b, .slice Ab1 lb1.length cb1, .slice Ab2 lb2.length cb2] 28), (.blk gK #[.bool a, .slice As L1.length cs, .slice Ad L2.length cd] 28)]) := Aside0.mk (HS.out.put 2 rfl hxp7 hbp7); clear HS; have HS := nS; clear nS hxp7 hbp7))
          go_meet
          case rel => exact ⟨As, cs, Ad, cd, Ab1, cb1, Ab2, cb2, CA1.out, KA1.out, CA2.out, KA2.out, (Kd.C_below Hb1.out HS.out.below), Kb1.out, (Kd.C_below Hb2.out HS.out.below), Kb2.out, HS⟩
        · by_cases y4 : lb1.length + 1 = la1.length
          · have e_ : pq = false := by rw [hpq, decide_eq_false y1]; rfl
            subst e_
            have t1 : (((la1.length : Int) : Int) == 0) = false := beq_eq_false_iff_ne.mpr (by omega)
            have u1_ : (la1.length == 0) = false := beq_eq_false_iff_ne.mpr (by omega)
            have u1_d : decide (la1.length = 0) = false := decide_eq_false (by omega)
            have u1_p : ¬ la1.length = 0 := by omega
            have t2 : (((lb1.length : Int) : Int) == 0) = false := beq_eq_false_iff_ne.mpr (by omega)
            have u2_ : (lb1.length == 0) = false := beq_eq_false_iff_ne.mpr (by omega)
            have u2_d : decide (lb1.length = 0) = false := decide_eq_false (by omega)
            have u2_p : ¬ lb1.length = 0 := by omega
            have t3 : (((la1.length : Int) + 1 : Int) == (lb1.length : Int)) = false := beq_eq_false_iff_ne.mpr (by omega)
            have t3p : ¬ la1.length + 1 = lb1.length := by omega
            have t4 : (((lb1.length : Int) + 1 : Int) == (la1.length : Int)) = true := beq_iff_eq.mpr (by omega)
            have wa_ : IntKind.i64.wrap ((la1.length : Int) + 1) = (la1.length : Int) + 1 := IntWalk.i64_in _ (by have := HN5.out; omega)
            have wb_ : IntKind.i64.wrap ((lb1.length : Int) + 1) = (lb1.length : Int) + 1 := IntWalk.i64_in _ (by have := HM5.out; omega)
            obtain ⟨e1_, e2_, e3_, e4_⟩ : L1 = la1 ∧ L2 = la2 ∧ M1 = (lb1 ++ [1]) ∧ M2 = lb2 := by
              have h1 := HL1.out; have h2 := HL2_.out; have h3 := HM1.out; have h4 := HM2_.out
              unfold catL1 at h1 h3; unfold catL2 at h2 h4
              (repeat (first | rw [if_pos (by omega)] at h1 | rw [if_neg (by omega)] at h1)); (repeat (first | rw [if_pos (by omega)] at h2 | rw [if_neg (by omega)] at h2)); (repeat (first | rw [if_pos (by omega)] at h3 | rw [if_neg (by omega)] at h3)); (repeat (first | rw [if_pos (by omega)] at h4 | rw [if_neg (by omega)] at h4))
              exact ⟨h1, h2, h3, h4⟩
            clear HL1 HL2_ HM1 HM2_
            subst L1 L2
            have HWDb := Aside0.mk (show WBesOk #[.agg #[.bool b, .slice Ab1 lb1.length cb1, .slice Ab2 lb2.length cb2]] b M1 M2 w by rw [e3_, e4_]; exact wbesOk b Ab1 cb1 lb1 Ab2 cb2 lb2 w Hb1.out Kb1.out Hb2.out Kb2.out HM5.out)
            clear e3_ e4_
            clear y1 y2 y3 y4 hpq hn5 hm5
            go_wp2_with (first | ((with_reducible refine gate_dst (N := 61) rfl ?_); refine wpList_load_row rfl 28 (.tmp 3) rfl gB rfl 28 #[.bool b, .slice Ab1 lb1.length cb1, .slice Ab2 lb2.length cb2] (0, 0) _ (HS.out.blk 1 rfl) Try.underlying28 rfl (by kernel_rfl) ?_) | (go_at_call_of 85 (Value.agg #[.bool b, .slice Ab1 lb1.length cb1, .slice Ab2 lb2.length cb2]); refine (HWDb.out.go _ HS.out.below).mono ?_; rintro e wp6 ⟨Bs, ds, Bd, dd, rfl, hCB1, hKB1, hCB2, hKB2, hbp6⟩; have CB1 := Aside0.mk hCB1; have KB1 := Aside0.mk hKB1; have CB2 := Aside0.mk hCB2; have KB2 := Aside0.mk hKB2; clear hCB1 hKB1 hCB2 hKB2; have nS : Aside0 (Sx w wp6 [(.blk gR #[.bool false, .slice none 0 0, .slice none 0 0] 28), (.blk gB #[.bool b, .slice Ab1 lb1.length cb1, .slice Ab2 lb2.length cb2] 28), (.blk gK #[.bool a, .slice Aa1 la1.length ca1, .slice Aa2 la2.length ca2] 28)]) := Aside0.mk (HS.out.step hbp6); clear HS; have HS := nS; clear nS hbp6) | ((with_reducible refine gate_store rfl ?_); refine store_named rfl 28 (.tmp 3) (.tmp 62) rfl gB #[.bool b, .slice Bs M1.length ds, .slice Bd M2.length dd] rfl rfl 28 #[.bool b, .slice Ab1 lb1.length cb1, .slice Ab2 lb2.length cb2] (HS.out.blk 1 rfl) (by kernel_rfl) rfl (by simp [Value.oneCell']) ?_; intro wp7 hxp7 hbp7; have nCB1 := Aside0.mk (C_but1 CB1.out hbp7 (HS.out.blk 1 rfl) (noInt_A _ _ _ _ _ _ _)); clear CB1; have CB1 := nCB1; clear nCB1; have nCB2 := Aside0.mk (C_but1 CB2.out hbp7 (HS.out.blk 1 rfl) (noInt_A _ _ _ _ _ _ _)); clear CB2; have CB2 := nCB2; clear nCB2; have nS : Aside0 (Sx w wp7 [(.blk gR #[.bool false, .slice none 0 0, .slice none 0 0] 28), (.blk gB #[.bool b, .slice Bs M1.length ds, .slice Bd M2.length dd] 28), (.blk gK #[.bool a, .slice Aa1 la1.length ca1, .slice Aa2 la2.length ca2] 28)]) := Aside0.mk (HS.out.put 1 rfl hxp7 hbp7); clear HS; have HS := nS; clear nS hxp7 hbp7))
            go_meet
            case rel => exact ⟨Aa1, ca1, Aa2, ca2, Bs, ds, Bd, dd, (Kd.C_below Ha1.out HS.out.below), Ka1.out, (Kd.C_below Ha2.out HS.out.below), Ka2.out, CB1.out, KB1.out, CB2.out, KB2.out, HS⟩
          · have e_ : pq = false := by rw [hpq, decide_eq_false y1]; rfl
            subst e_
            have y5 : la1.length = lb1.length := by rcases HR4.out with h | h | h | h | h <;> omega
            have t1 : (((la1.length : Int) : Int) == 0) = false := beq_eq_false_iff_ne.mpr (by omega)
            have u1_ : (la1.length == 0) = false := beq_eq_false_iff_ne.mpr (by omega)
            have u1_d : decide (la1.length = 0) = false := decide_eq_false (by omega)
            have u1_p : ¬ la1.length = 0 := by omega
            have t2 : (((lb1.length : Int) : Int) == 0) = false := beq_eq_false_iff_ne.mpr (by omega)
            have u2_ : (lb1.length == 0) = false := beq_eq_false_iff_ne.mpr (by omega)
            have u2_d : decide (lb1.length = 0) = false := decide_eq_false (by omega)
            have u2_p : ¬ lb1.length = 0 := by omega
            have t3 : (((la1.length : Int) + 1 : Int) == (lb1.length : Int)) = false := beq_eq_false_iff_ne.mpr (by omega)
            have t3p : ¬ la1.length + 1 = lb1.length := by omega
            have t4 : (((lb1.length : Int) + 1 : Int) == (la1.length : Int)) = false := beq_eq_false_iff_ne.mpr (by omega)
            have t4p : ¬ lb1.length + 1 = la1.length := by omega
            have u5_ : (la1.length == lb1.length) = true := beq_iff_eq.mpr (by omega)
            have u5_d : decide (la1.length = lb1.length) = true := decide_eq_true (by omega)
            have t6 : ((la1.length : Int) != (lb1.length : Int)) = false := by rw [bne, beq_iff_eq.mpr (by omega)]; rfl
            have wa_ : IntKind.i64.wrap ((la1.length : Int) + 1) = (la1.length : Int) + 1 := IntWalk.i64_in _ (by have := HN5.out; omega)
            have wb_ : IntKind.i64.wrap ((lb1.length : Int) + 1) = (lb1.length : Int) + 1 := IntWalk.i64_in _ (by have := HM5.out; omega)
            obtain ⟨e1_, e2_, e3_, e4_⟩ : L1 = la1 ∧ L2 = la2 ∧ M1 = lb1 ∧ M2 = lb2 := by
              have h1 := HL1.out; have h2 := HL2_.out; have h3 := HM1.out; have h4 := HM2_.out
              unfold catL1 at h1 h3; unfold catL2 at h2 h4
              (repeat (first | rw [if_pos (by omega)] at h1 | rw [if_neg (by omega)] at h1)); (repeat (first | rw [if_pos (by omega)] at h2 | rw [if_neg (by omega)] at h2)); (repeat (first | rw [if_pos (by omega)] at h3 | rw [if_neg (by omega)] at h3)); (repeat (first | rw [if_pos (by omega)] at h4 | rw [if_neg (by omega)] at h4))
              exact ⟨h1, h2, h3, h4⟩
            clear HL1 HL2_ HM1 HM2_
            subst L1 L2
            subst M1 M2
            clear y1 y2 y3 y4 y5 hpq hn5 hm5
            go_wp2_with fail
            go_meet
            case rel => exact ⟨Aa1, ca1, Aa2, ca2, Ab1, cb1, Ab2, cb2, (Kd.C_below Ha1.out HS.out.below), Ka1.out, (Kd.C_below Ha2.out HS.out.below), Ka2.out, (Kd.C_below Hb1.out HS.out.below), Kb1.out, (Kd.C_below Hb2.out HS.out.below), Kb2.out, HS⟩
  clear HS
  obtain ⟨As, cs, Ad, cd, Bs, ds, Bd, dd, hCA1, hKA1, hCA2, hKA2, hCB1, hKB1, hCB2, hKB2, HS⟩ := hcut
  generalize wc = wz7 at *
  have CA1 := Aside0.mk hCA1
  clear hCA1
  have KA1 := Aside0.mk hKA1
  clear hKA1
  have CA2 := Aside0.mk hCA2
  clear hCA2
  have KA2 := Aside0.mk hKA2
  clear hKA2
  have CB1 := Aside0.mk hCB1
  clear hCB1
  have KB1 := Aside0.mk hKB1
  clear hKB1
  have CB2 := Aside0.mk hCB2
  clear hCB2
  have KB2 := Aside0.mk hKB2
  clear hKB2
  have HB0 := Aside0.mk HS.out.below
  have HGR := Aside0.mk (HS.out.get 0 rfl).2
  have HRB := Aside0.mk (HS.out.blk 0 rfl)
  have HBB := Aside0.mk (HS.out.blk 1 rfl)
  have HKB := Aside0.mk (HS.out.blk 2 rfl)
  have HGL := Aside0.mk (blk_lt HRB.out)
  clear HS
  have HS := Aside0.mk (Sx.start wz7)
  go_upto_region 18 with fail
  have nS := Aside0.mk HS.out.drew
  clear HS
  have HS := nS
  clear nS
  refine start_ (n := 8) (S := (fun w' => w'.cell? ⟨gK, 1, none⟩ = some (.slice As L1.length cs) ∧ w'.cell? ⟨gB, 1, none⟩ = some (.slice Bs M1.length ds))) (ds := []) #[false, false, false, false, false, false, false, false] (by kernel_rfl) rfl rfl ⟨(blk_cell (blk_below HKB.out HS.out.below) 1).trans rfl, (blk_cell (blk_below HBB.out HS.out.below) 1).trans rfl⟩ (fun hHeld => ?_)
  refine pure_ (i := 0) (N := (some 67)) (v := ?_) (a' := ?_) #[true, false, false, false, false, false, false, false] rfl rfl (by kernel_rfl) (fun _ _ _ h => h) (Or.inl ⟨by rfl, ?_⟩) ?_ ?_
  rotate_left
  · intro w'
    go_simp
    with_reducible rfl
  rotate_left
  · simp only [Act.put, List.setIfInBounds_toArray, List.set_cons_zero, List.set_cons_succ]
    rfl
  refine take_ (i := 1) (N := (some 68)) (v := ?_) (a' := ?_) #[true, true, false, false, false, false, false, false] rfl rfl (by kernel_rfl) (fun _ _ _ h => h) (Or.inl ⟨by rfl, ?_⟩) hHeld ?_ ?_
  rotate_left
  · rintro w' ⟨s0, s1⟩
    go_simp
    with_reducible rfl
  rotate_left
  · simp only [Act.put, List.setIfInBounds_toArray, List.set_cons_zero, List.set_cons_succ]
    rfl
  refine pure_ (i := 3) (N := (some 70)) (v := ?_) (a' := ?_) #[true, true, false, true, false, false, false, false] rfl rfl (by kernel_rfl) (fun _ _ _ h => h) (Or.inl ⟨by rfl, ?_⟩) ?_ ?_
  rotate_left
  · intro w'
    go_simp
    with_reducible rfl
  rotate_left
  · simp only [Act.put, List.setIfInBounds_toArray, List.set_cons_zero, List.set_cons_succ]
    rfl
  refine take_ (i := 4) (N := (some 71)) (v := ?_) (a' := ?_) #[true, true, false, true, true, false, false, false] rfl rfl (by kernel_rfl) (fun _ _ _ h => h) (Or.inl ⟨by rfl, ?_⟩) hHeld ?_ ?_
  rotate_left
  · rintro w' ⟨s0, s1⟩
    go_simp
    with_reducible rfl
  rotate_left
  · simp only [Act.put, List.setIfInBounds_toArray, List.set_cons_zero, List.set_cons_succ]
    rfl
  refine one_ (i := 2) (N := (some 69)) #[true, true, true, true, true, false, false, false] rfl rfl (by kernel_rfl) (by decide) (fun K hK => ?_)
  refine goes_ Try.func88 (by kernel_rfl) rfl #[.slice As L1.length cs, .bool false] (by rfl) rfl rfl (by (try simp only [List.map_toArray, List.map_cons, List.map_nil]); first | done | rfl) ?_
  with_reducible refine (spec_l4Without.calls As cs L1 false P1 _ (Kd.C_below CA1.out HS.out.below) KA1.out HWA.out).mono ?_
  rintro e ve1 ⟨v_, rfl, hre1, hbe1⟩
  obtain ⟨Ps, pc, hv_⟩ := Kd.R_slice hre1
  subst hv_
  have nS : Aside0 (Sx wz7 ve1 [(.row (.slice Ps P1.length pc) P1)]) := Aside0.mk (HS.out.addRow hbe1 hre1)
  clear HS hbe1
  have HS := nS
  clear nS
  refine ⟨_, rfl, ?_⟩
  refine hK.out _ _ ⟨(blk_cell (blk_below HKB.out HS.out.below) 1).trans rfl, (blk_cell (blk_below HBB.out HS.out.below) 1).trans rfl⟩ (fun hHeld => ?_)
  clear hK K
  refine norm_ (a' := ?_) ?_ ?_
  rotate_left
  · show Act.put _ (some 69) _ = _
    simp only [Act.put, List.setIfInBounds_toArray, List.set_cons_zero, List.set_cons_succ]
    rfl
  refine one_ (i := 5) (N := (some 72)) #[true, true, true, true, true, true, false, false] rfl rfl (by kernel_rfl) (by decide) (fun K hK => ?_)
  refine goes_ Try.func88 (by kernel_rfl) rfl #[.slice Bs M1.length ds, .bool false] (by rfl) rfl rfl (by (try simp only [List.map_toArray, List.map_cons, List.map_nil]); first | done | rfl) ?_
  with_reducible refine (spec_l4Without.calls Bs ds M1 false Q1 _ (Kd.C_below CB1.out HS.out.below) KB1.out HWB.out).mono ?_
  rintro e ve2 ⟨v_, rfl, hre2, hbe2⟩
  obtain ⟨Qs, qc, hv_⟩ := Kd.R_slice hre2
  subst hv_
  have nS : Aside0 (Sx wz7 ve2 [(.row (.slice Qs Q1.length qc) Q1), (.row (.slice Ps P1.length pc) P1)]) := Aside0.mk (HS.out.addRow hbe2 hre2)
  clear HS hbe2
  have HS := nS
  clear nS
  refine ⟨_, rfl, ?_⟩
  refine hK.out _ _ ⟨(blk_cell (blk_below HKB.out HS.out.below) 1).trans rfl, (blk_cell (blk_below HBB.out HS.out.below) 1).trans rfl⟩ (fun hHeld => ?_)
  clear hK K
  refine norm_ (a' := ?_) ?_ ?_
  rotate_left
  · show Act.put _ (some 72) _ = _
    simp only [Act.put, List.setIfInBounds_toArray, List.set_cons_zero, List.set_cons_succ]
    rfl
  refine one_ (i := 6) (N := (some 73)) #[true, true, true, true, true, true, true, false] rfl rfl (by kernel_rfl) (by decide) (fun K hK => ?_)
  refine goes_ Try.func87 (by kernel_rfl) rfl #[.slice Ps P1.length pc, .slice Qs Q1.length qc] (by rfl) rfl rfl (by (try simp only [List.map_toArray, List.map_cons, List.map_nil]); first | done | rfl) ?_
  with_reducible refine (spec_l3Same.calls k2 Ps pc P1 Qs qc Q1 true _ (HS.out.C 1 rfl) (HS.out.cap 1 rfl) (HS.out.C 0 rfl) (HS.out.cap 0 rfl) HEQ.out).mono ?_
  rintro e ve3 ⟨rfl, hd_⟩
  have hbe3 := Drawn0.below hd_
  clear hd_
  have nS : Aside0 (Sx wz7 ve3 [(.row (.slice Qs Q1.length qc) Q1), (.row (.slice Ps P1.length pc) P1)]) := Aside0.mk (HS.out.step hbe3)
  clear HS hbe3
  have HS := nS
  clear nS
  refine ⟨_, rfl, ?_⟩
  refine hK.out _ _ ⟨(blk_cell (blk_below HKB.out HS.out.below) 1).trans rfl, (blk_cell (blk_below HBB.out HS.out.below) 1).trans rfl⟩ (fun hHeld => ?_)
  clear hK K
  refine norm_ (a' := ?_) ?_ ?_
  rotate_left
  · show Act.put _ (some 73) _ = _
    simp only [Act.put, List.setIfInBounds_toArray, List.set_cons_zero, List.set_cons_succ]
    rfl
  refine pure_ (i := 7) (N := (some 74)) (v := ?_) (a' := ?_) #[true, true, true, true, true, true, true, true] rfl rfl (by kernel_rfl) (fun _ _ _ h => h) (Or.inl ⟨by rfl, ?_⟩) ?_ ?_
  rotate_left
  · intro w'
    go_simp
    with_reducible rfl
  rotate_left
  · simp only [Act.put, List.setIfInBounds_toArray, List.set_cons_zero, List.set_cons_succ]
    rfl
  refine done_ (by kernel_rfl) ?_
  go_simp
  go_upto_region 20 with fail
  go_cut [92] from 76 to 92 (fun s92 wx => s92 = .bool false ∧ Aside0 (Sx wz7 wx [(.row (.slice Qs Q1.length qc) Q1), (.row (.slice Ps P1.length pc) P1)]))
  case first =>
    have hway := HWAY.out
    clear HWAY
    rcases hway with hab | ⟨hab, hl2⟩ | ⟨hab, hl2, hm2⟩
    · have e0 : (a == b) = true := beq_iff_eq.mpr hab
      have e1 : (a != b) = false := by rw [bne, e0]; rfl
      clear hab
      go_wp2_with (first | ((with_reducible refine wpList_guardedB ?hw ?_); (case hw => first | rfl | (go_simp; done))) | ((with_reducible refine gate_dst (N := 77) rfl ?_); refine ev_load rfl 4 (.tmp 76) rfl ⟨gK, 0, none⟩ rfl (.bool a) ((blk_cell (blk_below HKB.out HS.out.below) 0).trans rfl) (by kernel_rfl) ?_) | ((with_reducible refine gate_dst (N := 79) rfl ?_); refine ev_load rfl 4 (.tmp 78) rfl ⟨gB, 0, none⟩ rfl (.bool b) ((blk_cell (blk_below HBB.out HS.out.below) 0).trans rfl) (by kernel_rfl) ?_) | ((with_reducible refine gate_dst (N := 83) rfl ?_); refine ev_load rfl 22 (.tmp 82) rfl ⟨gK, 2, none⟩ rfl (.slice Ad L2.length cd) ((blk_cell (blk_below HKB.out HS.out.below) 2).trans rfl) (by kernel_rfl) ?_) | ((with_reducible refine gate_dst (N := 89) rfl ?_); refine ev_load rfl 22 (.tmp 88) rfl ⟨gB, 2, none⟩ rfl (.slice Bd M2.length dd) ((blk_cell (blk_below HBB.out HS.out.below) 2).trans rfl) (by kernel_rfl) ?_))
      go_meet
      case rel => exact ⟨by first | rfl | rw [e6], HS⟩
    · have e0 : (a == b) = false := beq_eq_false_iff_ne.mpr hab
      have e1 : (a != b) = true := bne_iff_ne.mpr hab
      have e2 : decide ((L2.length : Int) > 0) = false := decide_eq_false (by omega)
      have e4 : ¬ (0 : Int) < (L2.length : Int) := by omega
      clear hl2 hab
      go_wp2_with (first | ((with_reducible refine wpList_guardedB ?hw ?_); (case hw => first | rfl | (go_simp; done))) | ((with_reducible refine gate_dst (N := 77) rfl ?_); refine ev_load rfl 4 (.tmp 76) rfl ⟨gK, 0, none⟩ rfl (.bool a) ((blk_cell (blk_below HKB.out HS.out.below) 0).trans rfl) (by kernel_rfl) ?_) | ((with_reducible refine gate_dst (N := 79) rfl ?_); refine ev_load rfl 4 (.tmp 78) rfl ⟨gB, 0, none⟩ rfl (.bool b) ((blk_cell (blk_below HBB.out HS.out.below) 0).trans rfl) (by kernel_rfl) ?_) | ((with_reducible refine gate_dst (N := 83) rfl ?_); refine ev_load rfl 22 (.tmp 82) rfl ⟨gK, 2, none⟩ rfl (.slice Ad L2.length cd) ((blk_cell (blk_below HKB.out HS.out.below) 2).trans rfl) (by kernel_rfl) ?_) | ((with_reducible refine gate_dst (N := 89) rfl ?_); refine ev_load rfl 22 (.tmp 88) rfl ⟨gB, 2, none⟩ rfl (.slice Bd M2.length dd) ((blk_cell (blk_below HBB.out HS.out.below) 2).trans rfl) (by kernel_rfl) ?_))
      go_meet
      case rel => exact ⟨by first | rfl | rw [e6], HS⟩
    · have e0 : (a == b) = false := beq_eq_false_iff_ne.mpr hab
      have e1 : (a != b) = true := bne_iff_ne.mpr hab
      have e2 : decide ((L2.length : Int) > 0) = true := decide_eq_true (by omega)
      have e3 : decide ((M2.length : Int) > 0) = false := decide_eq_false (by omega)
      have e4 : (0 : Int) < (L2.length : Int) := by omega
      have e5 : ¬ (0 : Int) < (M2.length : Int) := by omega
      have e6 : decide (0 < M2.length) = false := decide_eq_false (by omega)
      clear hl2 hm2 hab
      go_wp2_with (first | ((with_reducible refine wpList_guardedB ?hw ?_); (case hw => first | rfl | (go_simp; done))) | ((with_reducible refine gate_dst (N := 77) rfl ?_); refine ev_load rfl 4 (.tmp 76) rfl ⟨gK, 0, none⟩ rfl (.bool a) ((blk_cell (blk_below HKB.out HS.out.below) 0).trans rfl) (by kernel_rfl) ?_) | ((with_reducible refine gate_dst (N := 79) rfl ?_); refine ev_load rfl 4 (.tmp 78) rfl ⟨gB, 0, none⟩ rfl (.bool b) ((blk_cell (blk_below HBB.out HS.out.below) 0).trans rfl) (by kernel_rfl) ?_) | ((with_reducible refine gate_dst (N := 83) rfl ?_); refine ev_load rfl 22 (.tmp 82) rfl ⟨gK, 2, none⟩ rfl (.slice Ad L2.length cd) ((blk_cell (blk_below HKB.out HS.out.below) 2).trans rfl) (by kernel_rfl) ?_) | ((with_reducible refine gate_dst (N := 89) rfl ?_); refine ev_load rfl 22 (.tmp 88) rfl ⟨gB, 2, none⟩ rfl (.slice Bd M2.length dd) ((blk_cell (blk_below HBB.out HS.out.below) 2).trans rfl) (by kernel_rfl) ?_))
      go_meet
      case rel => exact ⟨by first | rfl | rw [e6], HS⟩
  clear HS
  obtain ⟨e92, HS⟩ := hcut
  subst e92
  go_upto_region 24 with (first | ((with_reducible refine gate_dst (N := 96) rfl ?_); refine ev_load rfl 22 (.tmp 95) rfl ⟨gK, 1, none⟩ rfl (.slice As L1.length cs) ((blk_cell (blk_below HKB.out HS.out.below) 1).trans rfl) (by kernel_rfl) ?_) | (go_at_call_of 82 (Value.slice As L1.length cs); refine (spec_l4Axis.calls kA As cs L1 false (N1 : Int) (ma : Int) 1 _ (Kd.C_below CA1.out HS.out.below) KA1.out HAX.out).mono ?_; rintro e wo4 ⟨rfl, hdo4⟩; have hbo4 := Drawn0.below hdo4; clear hdo4; have nS : Aside0 (Sx wz7 wo4 [(.row (.slice Qs Q1.length qc) Q1), (.row (.slice Ps P1.length pc) P1)]) := Aside0.mk (HS.out.step hbo4); clear HS; have HS := nS; clear nS hbo4) | ((with_reducible refine gate_dst (N := 103) rfl ?_); refine ev_load rfl 22 (.tmp 102) rfl ⟨gB, 1, none⟩ rfl (.slice Bs M1.length ds) ((blk_cell (blk_below HBB.out HS.out.below) 1).trans rfl) (by kernel_rfl) ?_) | (go_at_call_of 82 (Value.slice Bs M1.length ds); refine (spec_l4Axis.calls kB Bs ds M1 false (N1 : Int) (nb : Int) 1 _ (Kd.C_below CB1.out HS.out.below) KB1.out HAY.out).mono ?_; rintro e wo5 ⟨rfl, hdo5⟩; have hbo5 := Drawn0.below hdo5; clear hdo5; have nS : Aside0 (Sx wz7 wo5 [(.row (.slice Qs Q1.length qc) Q1), (.row (.slice Ps P1.length pc) P1)]) := Aside0.mk (HS.out.step hbo5); clear HS; have HS := nS; clear nS hbo5))
  have nS := Aside0.mk HS.out.drew
  clear HS
  have HS := nS
  clear nS
  refine start_ (n := 14) (S := (fun w' => w'.cell? ⟨gK, 0, none⟩ = some (.bool a) ∧ w'.cell? ⟨gK, 1, none⟩ = some (.slice As L1.length cs))) (ds := [13]) #[false, false, false, false, false, false, false, false, false, false, false, false, false, false] (by kernel_rfl) rfl rfl ⟨(blk_cell (blk_below HKB.out HS.out.below) 0).trans rfl, (blk_cell (blk_below HKB.out HS.out.below) 1).trans rfl⟩ (fun hHeld => ?_)
  refine pure_ (i := 0) (N := (some 108)) (v := ?_) (a' := ?_) #[true, false, false, false, false, false, false, false, false, false, false, false, false, false] rfl rfl (by kernel_rfl) (fun _ _ _ h => h) (Or.inl ⟨by rfl, ?_⟩) ?_ ?_
  rotate_left
  · intro w'
    go_simp
    with_reducible rfl
  rotate_left
  · simp only [Act.put, List.setIfInBounds_toArray, List.set_cons_zero, List.set_cons_succ]
    rfl
  refine take_ (i := 1) (N := (some 109)) (v := ?_) (a' := ?_) #[true, true, false, false, false, false, false, false, false, false, false, false, false, false] rfl rfl (by kernel_rfl) (fun _ _ _ h => h) (Or.inl ⟨by rfl, ?_⟩) hHeld ?_ ?_
  rotate_left
  · rintro w' ⟨s0, s1⟩
    go_simp
    with_reducible rfl
  rotate_left
  · simp only [Act.put, List.setIfInBounds_toArray, List.set_cons_zero, List.set_cons_succ]
    rfl
  refine pure_ (i := 2) (N := (some 110)) (v := ?_) (a' := ?_) #[true, true, true, false, false, false, false, false, false, false, false, false, false, false] rfl rfl (by kernel_rfl) (fun _ _ _ h => h) (Or.inl ⟨by rfl, ?_⟩) ?_ ?_
  rotate_left
  · intro w'
    go_simp
    with_reducible rfl
  rotate_left
  · simp only [Act.put, List.setIfInBounds_toArray, List.set_cons_zero, List.set_cons_succ]
    rfl
  refine take_ (i := 3) (N := (some 111)) (v := ?_) (a' := ?_) #[true, true, true, true, false, false, false, false, false, false, false, false, false, false] rfl rfl (by kernel_rfl) (fun _ _ _ h => h) (Or.inl ⟨by rfl, ?_⟩) hHeld ?_ ?_
  rotate_left
  · rintro w' ⟨s0, s1⟩
    go_simp
    with_reducible rfl
  rotate_left
  · simp only [Act.put, List.setIfInBounds_toArray, List.set_cons_zero, List.set_cons_succ]
    rfl
  refine pure_ (i := 5) (N := (some 113)) (v := ?_) (a' := ?_) #[true, true, true, true, false, true, false, false, false, false, false, false, false, false] rfl rfl (by kernel_rfl) (fun _ _ _ h => h) (Or.inl ⟨by rfl, ?_⟩) ?_ ?_
  rotate_left
  · intro w'
    go_simp
    with_reducible rfl
  rotate_left
  · simp only [Act.put, List.setIfInBounds_toArray, List.set_cons_zero, List.set_cons_succ]
    rfl
  refine pure_ (i := 6) (N := (some 114)) (v := ?_) (a' := ?_) #[true, true, true, true, false, true, true, false, false, false, false, false, false, false] rfl rfl (by kernel_rfl) (fun _ _ _ h => h) (Or.inl ⟨by rfl, ?_⟩) ?_ ?_
  rotate_left
  · intro w'
    go_simp
    with_reducible rfl
  rotate_left
  · simp only [Act.put, List.setIfInBounds_toArray, List.set_cons_zero, List.set_cons_succ]
    rfl
  refine pure_ (i := 7) (N := (some 115)) (v := ?_) (a' := ?_) #[true, true, true, true, false, true, true, true, false, false, false, false, false, false] rfl rfl (by kernel_rfl) (fun _ _ _ h => h) (Or.inl ⟨by rfl, ?_⟩) ?_ ?_
  rotate_left
  · intro w'
    go_simp
    with_reducible rfl
  rotate_left
  · simp only [Act.put, List.setIfInBounds_toArray, List.set_cons_zero, List.set_cons_succ]
    rfl
  refine join_ (σ := Option Addr × Nat × Nat × Option Addr × Nat × Nat × Nat) 1 #[true, true, true, true, true, true, true, true, true, true, true, true, true, false] (fun s_ => [(112, .slice s_.1 P1.length s_.2.1), (116, .slice (some ⟨s_.2.2.1, 0, none⟩) 1 1), (117, .slice s_.2.2.2.1 (P1.length + 1) s_.2.2.2.2.1), (118, .slice (some ⟨s_.2.2.2.2.2.1, 0, none⟩) 0 0), (14, .pointer (some ⟨s_.2.2.2.2.2.2, 0, none⟩)), (119, .agg #[.bool a, .slice s_.2.2.2.1 (P1.length + 1) s_.2.2.2.2.1, .slice (some ⟨s_.2.2.2.2.2.1, 0, none⟩) 0 0])]) (fun s_ w' => Sx wz7 w' [(.blk s_.2.2.2.2.2.2 #[.bool false, .slice none 0 0, .slice none 0 0] 28), (.blk s_.2.2.2.2.2.1 #[] 3), (.blk s_.2.2.1 #[.int .i64 z] 3), (.row (.slice s_.2.2.2.1 (P1.length + 1) s_.2.2.2.2.1) (P1 ++ [z])), (.row (.slice Qs Q1.length qc) Q1), (.row (.slice Ps P1.length pc) P1)]) ?_ ?_
  rotate_left
  · intro hJ_4_8_9_10_12
    refine join_ (σ := Option Addr × Nat × Nat × Option Addr × Nat × Nat) 2 #[true, true, true, true, true, true, true, true, true, true, true, true, false, false] (fun s_ => [(112, .slice s_.1 P1.length s_.2.1), (116, .slice (some ⟨s_.2.2.1, 0, none⟩) 1 1), (117, .slice s_.2.2.2.1 (P1.length + 1) s_.2.2.2.2.1), (118, .slice (some ⟨s_.2.2.2.2.2, 0, none⟩) 0 0), (119, .agg #[.bool a, .slice s_.2.2.2.1 (P1.length + 1) s_.2.2.2.2.1, .slice (some ⟨s_.2.2.2.2.2, 0, none⟩) 0 0])]) (fun s_ w' => Sx wz7 w' [(.blk s_.2.2.2.2.2 #[] 3), (.blk s_.2.2.1 #[.int .i64 z] 3), (.row (.slice s_.2.2.2.1 (P1.length + 1) s_.2.2.2.2.1) (P1 ++ [z])), (.row (.slice Qs Q1.length qc) Q1), (.row (.slice Ps P1.length pc) P1)]) ?_ ?_
    rotate_left
    · intro hJ_4_8_9_10
      refine join_ (σ := Option Addr × Nat × Nat × Option Addr × Nat × Nat) 3 #[true, true, true, true, true, true, true, true, true, true, false, false, true, false] (fun s_ => [(112, .slice s_.1 P1.length s_.2.1), (116, .slice (some ⟨s_.2.2.1, 0, none⟩) 1 1), (117, .slice s_.2.2.2.1 (P1.length + 1) s_.2.2.2.2.1), (14, .pointer (some ⟨s_.2.2.2.2.2, 0, none⟩))]) (fun s_ w' => Sx wz7 w' [(.blk s_.2.2.2.2.2 #[.bool false, .slice none 0 0, .slice none 0 0] 28), (.blk s_.2.2.1 #[.int .i64 z] 3), (.row (.slice s_.2.2.2.1 (P1.length + 1) s_.2.2.2.2.1) (P1 ++ [z])), (.row (.slice Qs Q1.length qc) Q1), (.row (.slice Ps P1.length pc) P1)]) ?_ ?_
      rotate_left
      · intro hJ_4_8_9_12
        refine join_ (σ := Option Addr × Nat × Nat × Nat × Nat) 3 #[true, true, true, true, true, true, true, true, true, false, true, false, true, false] (fun s_ => [(112, .slice s_.1 P1.length s_.2.1), (116, .slice (some ⟨s_.2.2.1, 0, none⟩) 1 1), (118, .slice (some ⟨s_.2.2.2.1, 0, none⟩) 0 0), (14, .pointer (some ⟨s_.2.2.2.2, 0, none⟩))]) (fun s_ w' => Sx wz7 w' [(.blk s_.2.2.2.2 #[.bool false, .slice none 0 0, .slice none 0 0] 28), (.blk s_.2.2.2.1 #[] 3), (.blk s_.2.2.1 #[.int .i64 z] 3), (.row (.slice s_.1 P1.length s_.2.1) P1), (.row (.slice Qs Q1.length qc) Q1), (.row (.slice Ps P1.length pc) P1)]) ?_ ?_
        rotate_left
        · intro hJ_4_8_10_12
          refine join_ (σ := Option Addr × Nat × Nat × Option Addr × Nat) 4 #[true, true, true, true, true, true, true, true, true, true, false, false, false, false] (fun s_ => [(112, .slice s_.1 P1.length s_.2.1), (116, .slice (some ⟨s_.2.2.1, 0, none⟩) 1 1), (117, .slice s_.2.2.2.1 (P1.length + 1) s_.2.2.2.2)]) (fun s_ w' => Sx wz7 w' [(.blk s_.2.2.1 #[.int .i64 z] 3), (.row (.slice s_.2.2.2.1 (P1.length + 1) s_.2.2.2.2) (P1 ++ [z])), (.row (.slice Qs Q1.length qc) Q1), (.row (.slice Ps P1.length pc) P1)]) ?_ ?_
          rotate_left
          · intro hJ_4_8_9
            refine join_ (σ := Option Addr × Nat × Nat × Nat) 4 #[true, true, true, true, true, true, true, true, true, false, true, false, false, false] (fun s_ => [(112, .slice s_.1 P1.length s_.2.1), (116, .slice (some ⟨s_.2.2.1, 0, none⟩) 1 1), (118, .slice (some ⟨s_.2.2.2, 0, none⟩) 0 0)]) (fun s_ w' => Sx wz7 w' [(.blk s_.2.2.2 #[] 3), (.blk s_.2.2.1 #[.int .i64 z] 3), (.row (.slice s_.1 P1.length s_.2.1) P1), (.row (.slice Qs Q1.length qc) Q1), (.row (.slice Ps P1.length pc) P1)]) ?_ ?_
            rotate_left
            · intro hJ_4_8_10
              refine join_ (σ := Option Addr × Nat × Nat × Nat) 4 #[true, true, true, true, true, true, true, true, true, false, false, false, true, false] (fun s_ => [(112, .slice s_.1 P1.length s_.2.1), (116, .slice (some ⟨s_.2.2.1, 0, none⟩) 1 1), (14, .pointer (some ⟨s_.2.2.2, 0, none⟩))]) (fun s_ w' => Sx wz7 w' [(.blk s_.2.2.2 #[.bool false, .slice none 0 0, .slice none 0 0] 28), (.blk s_.2.2.1 #[.int .i64 z] 3), (.row (.slice s_.1 P1.length s_.2.1) P1), (.row (.slice Qs Q1.length qc) Q1), (.row (.slice Ps P1.length pc) P1)]) ?_ ?_
              rotate_left
              · intro hJ_4_8_12
                refine join_ (σ := Option Addr × Nat × Nat × Nat) 4 #[true, true, true, true, true, true, true, true, false, false, true, false, true, false] (fun s_ => [(112, .slice s_.1 P1.length s_.2.1), (118, .slice (some ⟨s_.2.2.1, 0, none⟩) 0 0), (14, .pointer (some ⟨s_.2.2.2, 0, none⟩))]) (fun s_ w' => Sx wz7 w' [(.blk s_.2.2.2 #[.bool false, .slice none 0 0, .slice none 0 0] 28), (.blk s_.2.2.1 #[] 3), (.row (.slice s_.1 P1.length s_.2.1) P1), (.row (.slice Qs Q1.length qc) Q1), (.row (.slice Ps P1.length pc) P1)]) ?_ ?_
                rotate_left
                · intro hJ_4_10_12
                  refine join_ (σ := Nat × Nat × Nat) 4 #[true, true, true, true, false, true, true, true, true, false, true, false, true, false] (fun s_ => [(116, .slice (some ⟨s_.1, 0, none⟩) 1 1), (118, .slice (some ⟨s_.2.1, 0, none⟩) 0 0), (14, .pointer (some ⟨s_.2.2, 0, none⟩))]) (fun s_ w' => Sx wz7 w' [(.blk s_.2.2 #[.bool false, .slice none 0 0, .slice none 0 0] 28), (.blk s_.2.1 #[] 3), (.blk s_.1 #[.int .i64 z] 3), (.row (.slice Qs Q1.length qc) Q1), (.row (.slice Ps P1.length pc) P1)]) ?_ ?_
                  rotate_left
                  · intro hJ_8_10_12
                    refine join_ (σ := Option Addr × Nat × Nat) 5 #[true, true, true, true, true, true, true, true, true, false, false, false, false, false] (fun s_ => [(112, .slice s_.1 P1.length s_.2.1), (116, .slice (some ⟨s_.2.2, 0, none⟩) 1 1)]) (fun s_ w' => Sx wz7 w' [(.blk s_.2.2 #[.int .i64 z] 3), (.row (.slice s_.1 P1.length s_.2.1) P1), (.row (.slice Qs Q1.length qc) Q1), (.row (.slice Ps P1.length pc) P1)]) ?_ ?_
                    rotate_left
                    · intro hJ_4_8
                      refine join_ (σ := Option Addr × Nat × Nat) 5 #[true, true, true, true, true, true, true, true, false, false, true, false, false, false] (fun s_ => [(112, .slice s_.1 P1.length s_.2.1), (118, .slice (some ⟨s_.2.2, 0, none⟩) 0 0)]) (fun s_ w' => Sx wz7 w' [(.blk s_.2.2 #[] 3), (.row (.slice s_.1 P1.length s_.2.1) P1), (.row (.slice Qs Q1.length qc) Q1), (.row (.slice Ps P1.length pc) P1)]) ?_ ?_
                      rotate_left
                      · intro hJ_4_10
                        refine join_ (σ := Option Addr × Nat × Nat) 5 #[true, true, true, true, true, true, true, true, false, false, false, false, true, false] (fun s_ => [(112, .slice s_.1 P1.length s_.2.1), (14, .pointer (some ⟨s_.2.2, 0, none⟩))]) (fun s_ w' => Sx wz7 w' [(.blk s_.2.2 #[.bool false, .slice none 0 0, .slice none 0 0] 28), (.row (.slice s_.1 P1.length s_.2.1) P1), (.row (.slice Qs Q1.length qc) Q1), (.row (.slice Ps P1.length pc) P1)]) ?_ ?_
                        rotate_left
                        · intro hJ_4_12
                          refine join_ (σ := Nat × Nat) 5 #[true, true, true, true, false, true, true, true, true, false, true, false, false, false] (fun s_ => [(116, .slice (some ⟨s_.1, 0, none⟩) 1 1), (118, .slice (some ⟨s_.2, 0, none⟩) 0 0)]) (fun s_ w' => Sx wz7 w' [(.blk s_.2 #[] 3), (.blk s_.1 #[.int .i64 z] 3), (.row (.slice Qs Q1.length qc) Q1), (.row (.slice Ps P1.length pc) P1)]) ?_ ?_
                          rotate_left
                          · intro hJ_8_10
                            refine join_ (σ := Nat × Nat) 5 #[true, true, true, true, false, true, true, true, true, false, false, false, true, false] (fun s_ => [(116, .slice (some ⟨s_.1, 0, none⟩) 1 1), (14, .pointer (some ⟨s_.2, 0, none⟩))]) (fun s_ w' => Sx wz7 w' [(.blk s_.2 #[.bool false, .slice none 0 0, .slice none 0 0] 28), (.blk s_.1 #[.int .i64 z] 3), (.row (.slice Qs Q1.length qc) Q1), (.row (.slice Ps P1.length pc) P1)]) ?_ ?_
                            rotate_left
                            · intro hJ_8_12
                              refine join_ (σ := Nat × Nat) 5 #[true, true, true, true, false, true, true, true, false, false, true, false, true, false] (fun s_ => [(118, .slice (some ⟨s_.1, 0, none⟩) 0 0), (14, .pointer (some ⟨s_.2, 0, none⟩))]) (fun s_ w' => Sx wz7 w' [(.blk s_.2 #[.bool false, .slice none 0 0, .slice none 0 0] 28), (.blk s_.1 #[] 3), (.row (.slice Qs Q1.length qc) Q1), (.row (.slice Ps P1.length pc) P1)]) ?_ ?_
                              rotate_left
                              · intro hJ_10_12
                                refine join_ (σ := Option Addr × Nat) 6 #[true, true, true, true, true, true, true, true, false, false, false, false, false, false] (fun s_ => [(112, .slice s_.1 P1.length s_.2)]) (fun s_ w' => Sx wz7 w' [(.row (.slice s_.1 P1.length s_.2) P1), (.row (.slice Qs Q1.length qc) Q1), (.row (.slice Ps P1.length pc) P1)]) ?_ ?_
                                rotate_left
                                · intro hJ_4
                                  refine join_ (σ := Nat) 6 #[true, true, true, true, false, true, true, true, true, false, false, false, false, false] (fun s_ => [(116, .slice (some ⟨s_, 0, none⟩) 1 1)]) (fun s_ w' => Sx wz7 w' [(.blk s_ #[.int .i64 z] 3), (.row (.slice Qs Q1.length qc) Q1), (.row (.slice Ps P1.length pc) P1)]) ?_ ?_
                                  rotate_left
                                  · intro hJ_8
                                    refine join_ (σ := Nat) 6 #[true, true, true, true, false, true, true, true, false, false, true, false, false, false] (fun s_ => [(118, .slice (some ⟨s_, 0, none⟩) 0 0)]) (fun s_ w' => Sx wz7 w' [(.blk s_ #[] 3), (.row (.slice Qs Q1.length qc) Q1), (.row (.slice Ps P1.length pc) P1)]) ?_ ?_
                                    rotate_left
                                    · intro hJ_10
                                      refine join_ (σ := Nat) 6 #[true, true, true, true, false, true, true, true, false, false, false, false, true, false] (fun s_ => [(14, .pointer (some ⟨s_, 0, none⟩))]) (fun s_ w' => Sx wz7 w' [(.blk s_ #[.bool false, .slice none 0 0, .slice none 0 0] 28), (.row (.slice Qs Q1.length qc) Q1), (.row (.slice Ps P1.length pc) P1)]) ?_ ?_
                                      rotate_left
                                      · intro hJ_12
                                        refine four_ (i := 4) (j := 8) (k := 10) (m := 12) (Ni := (some 112)) (Nj := (some 116)) (Nk := (some 118)) (Nm := (some 14)) #[true, true, true, true, true, true, true, true, false, false, false, false, false, false] #[true, true, true, true, false, true, true, true, true, false, false, false, false, false] #[true, true, true, true, false, true, true, true, false, false, true, false, false, false] #[true, true, true, true, false, true, true, true, false, false, false, false, true, false] rfl rfl rfl rfl rfl rfl rfl rfl (by kernel_rfl) (by decide) (by decide) (by decide) (by decide) (fun K hK => ?_) (fun K hK => ?_) (fun K hK => ?_) (fun K hK => ?_)
                                        · skip
                                          refine goes_ Try.func88 (by kernel_rfl) rfl #[.slice As L1.length cs, .bool false] (by rfl) rfl rfl (by (try simp only [List.map_toArray, List.map_cons, List.map_nil]); first | done | rfl) ?_
                                          with_reducible refine (spec_l4Without.calls As cs L1 false P1 _ (Kd.C_below CA1.out HS.out.below) KA1.out HWA.out).mono ?_
                                          rintro e vo6 ⟨v_, rfl, hro6, hbo6⟩
                                          obtain ⟨Ns, nc, hv_⟩ := Kd.R_slice hro6
                                          subst hv_
                                          have nS : Aside0 (Sx wz7 vo6 [(.row (.slice Ns P1.length nc) P1), (.row (.slice Qs Q1.length qc) Q1), (.row (.slice Ps P1.length pc) P1)]) := Aside0.mk (HS.out.addRow hbo6 hro6)
                                          clear HS hbo6
                                          have HS := nS
                                          clear nS
                                          refine ⟨_, rfl, ?_⟩
                                          refine hK.out _ _ ⟨(blk_cell (blk_below HKB.out HS.out.below) 0).trans rfl, (blk_cell (blk_below HKB.out HS.out.below) 1).trans rfl⟩ (fun hHeld => ?_)
                                          clear hK K
                                          refine norm_ (a' := ?_) ?_ ?_
                                          rotate_left
                                          · show Act.put _ (some 112) _ = _
                                            simp only [Act.put, List.setIfInBounds_toArray, List.set_cons_zero, List.set_cons_succ]
                                            rfl
                                          exact norm_ (by first | (simp only [putAll, Act.put, List.setIfInBounds_toArray, List.set_cons_zero, List.set_cons_succ]; done) | (simp only [putAll, Act.put, List.setIfInBounds_toArray, List.set_cons_zero, List.set_cons_succ]; rfl)) (hJ_4 (Ns, nc) _ (HS.out.perm (List.Perm.refl _)))
                                        · skip
                                          refine lit_step (by rfl) rfl #[.int .i64 z] 3 1 (by first | (go_simp; done) | (go_simp; rfl)) ?_
                                          intro gL wL hgL hxL hbL
                                          have nS : Aside0 (Sx wz7 wL [(.blk gL #[.int .i64 z] 3), (.row (.slice Qs Q1.length qc) Q1), (.row (.slice Ps P1.length pc) P1)]) := Aside0.mk (HS.out.box hgL.symm hxL hbL)
                                          clear HS hgL hxL hbL
                                          have HS := nS
                                          clear nS
                                          refine hK.out _ _ ⟨(blk_cell (blk_below HKB.out HS.out.below) 0).trans rfl, (blk_cell (blk_below HKB.out HS.out.below) 1).trans rfl⟩ (fun hHeld => ?_)
                                          clear hK K
                                          refine norm_ (a' := ?_) ?_ ?_
                                          rotate_left
                                          · show Act.put _ (some 116) _ = _
                                            simp only [Act.put, List.setIfInBounds_toArray, List.set_cons_zero, List.set_cons_succ]
                                            rfl
                                          exact norm_ (by first | (simp only [putAll, Act.put, List.setIfInBounds_toArray, List.set_cons_zero, List.set_cons_succ]; done) | (simp only [putAll, Act.put, List.setIfInBounds_toArray, List.set_cons_zero, List.set_cons_succ]; rfl)) (hJ_8 gL _ (HS.out.perm (List.Perm.refl _)))
                                        · skip
                                          refine lit_step (by rfl) rfl #[] 3 0 (by first | (go_simp; done) | (go_simp; rfl)) ?_
                                          intro gE wE hgE hxE hbE
                                          have nS : Aside0 (Sx wz7 wE [(.blk gE #[] 3), (.row (.slice Qs Q1.length qc) Q1), (.row (.slice Ps P1.length pc) P1)]) := Aside0.mk (HS.out.box hgE.symm hxE hbE)
                                          clear HS hgE hxE hbE
                                          have HS := nS
                                          clear nS
                                          refine hK.out _ _ ⟨(blk_cell (blk_below HKB.out HS.out.below) 0).trans rfl, (blk_cell (blk_below HKB.out HS.out.below) 1).trans rfl⟩ (fun hHeld => ?_)
                                          clear hK K
                                          refine norm_ (a' := ?_) ?_ ?_
                                          rotate_left
                                          · show Act.put _ (some 118) _ = _
                                            simp only [Act.put, List.setIfInBounds_toArray, List.set_cons_zero, List.set_cons_succ]
                                            rfl
                                          exact norm_ (by first | (simp only [putAll, Act.put, List.setIfInBounds_toArray, List.set_cons_zero, List.set_cons_succ]; done) | (simp only [putAll, Act.put, List.setIfInBounds_toArray, List.set_cons_zero, List.set_cons_succ]; rfl)) (hJ_10 gE _ (HS.out.perm (List.Perm.refl _)))
                                        · skip
                                          refine box_step ?hg (N := 14) ?hd (cs := #[.bool false, .slice none 0 0, .slice none 0 0]) (t := 28) ?hr ?_; (case hd => rfl); (case hg => rfl); (case hr => first | (go_simp; done) | (go_simp; rfl))
                                          intro gO hgO wO hxO hbO
                                          have nS : Aside0 (Sx wz7 wO [(.blk gO #[.bool false, .slice none 0 0, .slice none 0 0] 28), (.row (.slice Qs Q1.length qc) Q1), (.row (.slice Ps P1.length pc) P1)]) := Aside0.mk (HS.out.box hgO hxO hbO)
                                          clear HS hgO hxO hbO
                                          have HS := nS
                                          clear nS
                                          refine hK.out _ _ ⟨(blk_cell (blk_below HKB.out HS.out.below) 0).trans rfl, (blk_cell (blk_below HKB.out HS.out.below) 1).trans rfl⟩ (fun hHeld => ?_)
                                          clear hK K
                                          refine norm_ (a' := ?_) ?_ ?_
                                          rotate_left
                                          · show Act.put _ (some 14) _ = _
                                            simp only [Act.put, List.setIfInBounds_toArray, List.set_cons_zero, List.set_cons_succ]
                                            rfl
                                          exact norm_ (by first | (simp only [putAll, Act.put, List.setIfInBounds_toArray, List.set_cons_zero, List.set_cons_succ]; done) | (simp only [putAll, Act.put, List.setIfInBounds_toArray, List.set_cons_zero, List.set_cons_succ]; rfl)) (hJ_12 gO _ (HS.out.perm (List.Perm.refl _)))
                                      · intro gO w_ hF
                                        have nS : Aside0 (Sx wz7 w_ [(.blk gO #[.bool false, .slice none 0 0, .slice none 0 0] 28), (.row (.slice Qs Q1.length qc) Q1), (.row (.slice Ps P1.length pc) P1)]) := Aside0.mk hF
                                        clear HS hF
                                        have HS := nS
                                        clear nS
                                        refine norm_ (a' := ?_) ?_ ?_
                                        rotate_left
                                        · simp only [putAll, Act.put, List.setIfInBounds_toArray, List.set_cons_zero, List.set_cons_succ]
                                          rfl
                                        refine three_ (i := 4) (j := 8) (k := 10) (Ni := (some 112)) (Nj := (some 116)) (Nk := (some 118)) #[true, true, true, true, true, true, true, true, false, false, false, false, true, false] #[true, true, true, true, false, true, true, true, true, false, false, false, true, false] #[true, true, true, true, false, true, true, true, false, false, true, false, true, false] rfl rfl rfl rfl rfl rfl (by kernel_rfl) (by decide) (by decide) (by decide) (fun K hK => ?_) (fun K hK => ?_) (fun K hK => ?_)
                                        · skip
                                          refine goes_ Try.func88 (by kernel_rfl) rfl #[.slice As L1.length cs, .bool false] (by rfl) rfl rfl (by (try simp only [List.map_toArray, List.map_cons, List.map_nil]); first | done | rfl) ?_
                                          with_reducible refine (spec_l4Without.calls As cs L1 false P1 _ (Kd.C_below CA1.out HS.out.below) KA1.out HWA.out).mono ?_
                                          rintro e vo6 ⟨v_, rfl, hro6, hbo6⟩
                                          obtain ⟨Ns, nc, hv_⟩ := Kd.R_slice hro6
                                          subst hv_
                                          have nS : Aside0 (Sx wz7 vo6 [(.row (.slice Ns P1.length nc) P1), (.blk gO #[.bool false, .slice none 0 0, .slice none 0 0] 28), (.row (.slice Qs Q1.length qc) Q1), (.row (.slice Ps P1.length pc) P1)]) := Aside0.mk (HS.out.addRow hbo6 hro6)
                                          clear HS hbo6
                                          have HS := nS
                                          clear nS
                                          refine ⟨_, rfl, ?_⟩
                                          refine hK.out _ _ ⟨(blk_cell (blk_below HKB.out HS.out.below) 0).trans rfl, (blk_cell (blk_below HKB.out HS.out.below) 1).trans rfl⟩ (fun hHeld => ?_)
                                          clear hK K
                                          refine norm_ (a' := ?_) ?_ ?_
                                          rotate_left
                                          · show Act.put _ (some 112) _ = _
                                            simp only [Act.put, List.setIfInBounds_toArray, List.set_cons_zero, List.set_cons_succ]
                                            rfl
                                          exact norm_ (by first | (simp only [putAll, Act.put, List.setIfInBounds_toArray, List.set_cons_zero, List.set_cons_succ]; done) | (simp only [putAll, Act.put, List.setIfInBounds_toArray, List.set_cons_zero, List.set_cons_succ]; rfl)) (hJ_4_12 (Ns, nc, gO) _ (HS.out.perm (List.perm_middle (a := (Th.row (.slice Ns P1.length nc) P1)) (l₁ := [(Th.blk gO #[.bool false, .slice none 0 0, .slice none 0 0] 28)]) (l₂ := [(Th.row (.slice Qs Q1.length qc) Q1), (Th.row (.slice Ps P1.length pc) P1)])).symm))
                                        · skip
                                          refine lit_step (by rfl) rfl #[.int .i64 z] 3 1 (by first | (go_simp; done) | (go_simp; rfl)) ?_
                                          intro gL wL hgL hxL hbL
                                          have nS : Aside0 (Sx wz7 wL [(.blk gL #[.int .i64 z] 3), (.blk gO #[.bool false, .slice none 0 0, .slice none 0 0] 28), (.row (.slice Qs Q1.length qc) Q1), (.row (.slice Ps P1.length pc) P1)]) := Aside0.mk (HS.out.box hgL.symm hxL hbL)
                                          clear HS hgL hxL hbL
                                          have HS := nS
                                          clear nS
                                          refine hK.out _ _ ⟨(blk_cell (blk_below HKB.out HS.out.below) 0).trans rfl, (blk_cell (blk_below HKB.out HS.out.below) 1).trans rfl⟩ (fun hHeld => ?_)
                                          clear hK K
                                          refine norm_ (a' := ?_) ?_ ?_
                                          rotate_left
                                          · show Act.put _ (some 116) _ = _
                                            simp only [Act.put, List.setIfInBounds_toArray, List.set_cons_zero, List.set_cons_succ]
                                            rfl
                                          exact norm_ (by first | (simp only [putAll, Act.put, List.setIfInBounds_toArray, List.set_cons_zero, List.set_cons_succ]; done) | (simp only [putAll, Act.put, List.setIfInBounds_toArray, List.set_cons_zero, List.set_cons_succ]; rfl)) (hJ_8_12 (gL, gO) _ (HS.out.perm (List.perm_middle (a := (Th.blk gL #[.int .i64 z] 3)) (l₁ := [(Th.blk gO #[.bool false, .slice none 0 0, .slice none 0 0] 28)]) (l₂ := [(Th.row (.slice Qs Q1.length qc) Q1), (Th.row (.slice Ps P1.length pc) P1)])).symm))
                                        · skip
                                          refine lit_step (by rfl) rfl #[] 3 0 (by first | (go_simp; done) | (go_simp; rfl)) ?_
                                          intro gE wE hgE hxE hbE
                                          have nS : Aside0 (Sx wz7 wE [(.blk gE #[] 3), (.blk gO #[.bool false, .slice none 0 0, .slice none 0 0] 28), (.row (.slice Qs Q1.length qc) Q1), (.row (.slice Ps P1.length pc) P1)]) := Aside0.mk (HS.out.box hgE.symm hxE hbE)
                                          clear HS hgE hxE hbE
                                          have HS := nS
                                          clear nS
                                          refine hK.out _ _ ⟨(blk_cell (blk_below HKB.out HS.out.below) 0).trans rfl, (blk_cell (blk_below HKB.out HS.out.below) 1).trans rfl⟩ (fun hHeld => ?_)
                                          clear hK K
                                          refine norm_ (a' := ?_) ?_ ?_
                                          rotate_left
                                          · show Act.put _ (some 118) _ = _
                                            simp only [Act.put, List.setIfInBounds_toArray, List.set_cons_zero, List.set_cons_succ]
                                            rfl
                                          exact norm_ (by first | (simp only [putAll, Act.put, List.setIfInBounds_toArray, List.set_cons_zero, List.set_cons_succ]; done) | (simp only [putAll, Act.put, List.setIfInBounds_toArray, List.set_cons_zero, List.set_cons_succ]; rfl)) (hJ_10_12 (gE, gO) _ (HS.out.perm (List.perm_middle (a := (Th.blk gE #[] 3)) (l₁ := [(Th.blk gO #[.bool false, .slice none 0 0, .slice none 0 0] 28)]) (l₂ := [(Th.row (.slice Qs Q1.length qc) Q1), (Th.row (.slice Ps P1.length pc) P1)])).symm))
                                    · intro gE w_ hF
                                      have nS : Aside0 (Sx wz7 w_ [(.blk gE #[] 3), (.row (.slice Qs Q1.length qc) Q1), (.row (.slice Ps P1.length pc) P1)]) := Aside0.mk hF
                                      clear HS hF
                                      have HS := nS
                                      clear nS
                                      refine norm_ (a' := ?_) ?_ ?_
                                      rotate_left
                                      · simp only [putAll, Act.put, List.setIfInBounds_toArray, List.set_cons_zero, List.set_cons_succ]
                                        rfl
                                      refine three_ (i := 4) (j := 8) (k := 12) (Ni := (some 112)) (Nj := (some 116)) (Nk := (some 14)) #[true, true, true, true, true, true, true, true, false, false, true, false, false, false] #[true, true, true, true, false, true, true, true, true, false, true, false, false, false] #[true, true, true, true, false, true, true, true, false, false, true, false, true, false] rfl rfl rfl rfl rfl rfl (by kernel_rfl) (by decide) (by decide) (by decide) (fun K hK => ?_) (fun K hK => ?_) (fun K hK => ?_)
                                      · skip
                                        refine goes_ Try.func88 (by kernel_rfl) rfl #[.slice As L1.length cs, .bool false] (by rfl) rfl rfl (by (try simp only [List.map_toArray, List.map_cons, List.map_nil]); first | done | rfl) ?_
                                        with_reducible refine (spec_l4Without.calls As cs L1 false P1 _ (Kd.C_below CA1.out HS.out.below) KA1.out HWA.out).mono ?_
                                        rintro e vo6 ⟨v_, rfl, hro6, hbo6⟩
                                        obtain ⟨Ns, nc, hv_⟩ := Kd.R_slice hro6
                                        subst hv_
                                        have nS : Aside0 (Sx wz7 vo6 [(.row (.slice Ns P1.length nc) P1), (.blk gE #[] 3), (.row (.slice Qs Q1.length qc) Q1), (.row (.slice Ps P1.length pc) P1)]) := Aside0.mk (HS.out.addRow hbo6 hro6)
                                        clear HS hbo6
                                        have HS := nS
                                        clear nS
                                        refine ⟨_, rfl, ?_⟩
                                        refine hK.out _ _ ⟨(blk_cell (blk_below HKB.out HS.out.below) 0).trans rfl, (blk_cell (blk_below HKB.out HS.out.below) 1).trans rfl⟩ (fun hHeld => ?_)
                                        clear hK K
                                        refine norm_ (a' := ?_) ?_ ?_
                                        rotate_left
                                        · show Act.put _ (some 112) _ = _
                                          simp only [Act.put, List.setIfInBounds_toArray, List.set_cons_zero, List.set_cons_succ]
                                          rfl
                                        exact norm_ (by first | (simp only [putAll, Act.put, List.setIfInBounds_toArray, List.set_cons_zero, List.set_cons_succ]; done) | (simp only [putAll, Act.put, List.setIfInBounds_toArray, List.set_cons_zero, List.set_cons_succ]; rfl)) (hJ_4_10 (Ns, nc, gE) _ (HS.out.perm (List.perm_middle (a := (Th.row (.slice Ns P1.length nc) P1)) (l₁ := [(Th.blk gE #[] 3)]) (l₂ := [(Th.row (.slice Qs Q1.length qc) Q1), (Th.row (.slice Ps P1.length pc) P1)])).symm))
                                      · skip
                                        refine lit_step (by rfl) rfl #[.int .i64 z] 3 1 (by first | (go_simp; done) | (go_simp; rfl)) ?_
                                        intro gL wL hgL hxL hbL
                                        have nS : Aside0 (Sx wz7 wL [(.blk gL #[.int .i64 z] 3), (.blk gE #[] 3), (.row (.slice Qs Q1.length qc) Q1), (.row (.slice Ps P1.length pc) P1)]) := Aside0.mk (HS.out.box hgL.symm hxL hbL)
                                        clear HS hgL hxL hbL
                                        have HS := nS
                                        clear nS
                                        refine hK.out _ _ ⟨(blk_cell (blk_below HKB.out HS.out.below) 0).trans rfl, (blk_cell (blk_below HKB.out HS.out.below) 1).trans rfl⟩ (fun hHeld => ?_)
                                        clear hK K
                                        refine norm_ (a' := ?_) ?_ ?_
                                        rotate_left
                                        · show Act.put _ (some 116) _ = _
                                          simp only [Act.put, List.setIfInBounds_toArray, List.set_cons_zero, List.set_cons_succ]
                                          rfl
                                        exact norm_ (by first | (simp only [putAll, Act.put, List.setIfInBounds_toArray, List.set_cons_zero, List.set_cons_succ]; done) | (simp only [putAll, Act.put, List.setIfInBounds_toArray, List.set_cons_zero, List.set_cons_succ]; rfl)) (hJ_8_10 (gL, gE) _ (HS.out.perm (List.perm_middle (a := (Th.blk gL #[.int .i64 z] 3)) (l₁ := [(Th.blk gE #[] 3)]) (l₂ := [(Th.row (.slice Qs Q1.length qc) Q1), (Th.row (.slice Ps P1.length pc) P1)])).symm))
                                      · skip
                                        refine box_step ?hg (N := 14) ?hd (cs := #[.bool false, .slice none 0 0, .slice none 0 0]) (t := 28) ?hr ?_; (case hd => rfl); (case hg => rfl); (case hr => first | (go_simp; done) | (go_simp; rfl))
                                        intro gO hgO wO hxO hbO
                                        have nS : Aside0 (Sx wz7 wO [(.blk gO #[.bool false, .slice none 0 0, .slice none 0 0] 28), (.blk gE #[] 3), (.row (.slice Qs Q1.length qc) Q1), (.row (.slice Ps P1.length pc) P1)]) := Aside0.mk (HS.out.box hgO hxO hbO)
                                        clear HS hgO hxO hbO
                                        have HS := nS
                                        clear nS
                                        refine hK.out _ _ ⟨(blk_cell (blk_below HKB.out HS.out.below) 0).trans rfl, (blk_cell (blk_below HKB.out HS.out.below) 1).trans rfl⟩ (fun hHeld => ?_)
                                        clear hK K
                                        refine norm_ (a' := ?_) ?_ ?_
                                        rotate_left
                                        · show Act.put _ (some 14) _ = _
                                          simp only [Act.put, List.setIfInBounds_toArray, List.set_cons_zero, List.set_cons_succ]
                                          rfl
                                        exact norm_ (by first | (simp only [putAll, Act.put, List.setIfInBounds_toArray, List.set_cons_zero, List.set_cons_succ]; done) | (simp only [putAll, Act.put, List.setIfInBounds_toArray, List.set_cons_zero, List.set_cons_succ]; rfl)) (hJ_10_12 (gE, gO) _ (HS.out.perm (List.Perm.refl _)))
                                  · intro gL w_ hF
                                    have nS : Aside0 (Sx wz7 w_ [(.blk gL #[.int .i64 z] 3), (.row (.slice Qs Q1.length qc) Q1), (.row (.slice Ps P1.length pc) P1)]) := Aside0.mk hF
                                    clear HS hF
                                    have HS := nS
                                    clear nS
                                    refine norm_ (a' := ?_) ?_ ?_
                                    rotate_left
                                    · simp only [putAll, Act.put, List.setIfInBounds_toArray, List.set_cons_zero, List.set_cons_succ]
                                      rfl
                                    refine three_ (i := 4) (j := 10) (k := 12) (Ni := (some 112)) (Nj := (some 118)) (Nk := (some 14)) #[true, true, true, true, true, true, true, true, true, false, false, false, false, false] #[true, true, true, true, false, true, true, true, true, false, true, false, false, false] #[true, true, true, true, false, true, true, true, true, false, false, false, true, false] rfl rfl rfl rfl rfl rfl (by kernel_rfl) (by decide) (by decide) (by decide) (fun K hK => ?_) (fun K hK => ?_) (fun K hK => ?_)
                                    · skip
                                      refine goes_ Try.func88 (by kernel_rfl) rfl #[.slice As L1.length cs, .bool false] (by rfl) rfl rfl (by (try simp only [List.map_toArray, List.map_cons, List.map_nil]); first | done | rfl) ?_
                                      with_reducible refine (spec_l4Without.calls As cs L1 false P1 _ (Kd.C_below CA1.out HS.out.below) KA1.out HWA.out).mono ?_
                                      rintro e vo6 ⟨v_, rfl, hro6, hbo6⟩
                                      obtain ⟨Ns, nc, hv_⟩ := Kd.R_slice hro6
                                      subst hv_
                                      have nS : Aside0 (Sx wz7 vo6 [(.row (.slice Ns P1.length nc) P1), (.blk gL #[.int .i64 z] 3), (.row (.slice Qs Q1.length qc) Q1), (.row (.slice Ps P1.length pc) P1)]) := Aside0.mk (HS.out.addRow hbo6 hro6)
                                      clear HS hbo6
                                      have HS := nS
                                      clear nS
                                      refine ⟨_, rfl, ?_⟩
                                      refine hK.out _ _ ⟨(blk_cell (blk_below HKB.out HS.out.below) 0).trans rfl, (blk_cell (blk_below HKB.out HS.out.below) 1).trans rfl⟩ (fun hHeld => ?_)
                                      clear hK K
                                      refine norm_ (a' := ?_) ?_ ?_
                                      rotate_left
                                      · show Act.put _ (some 112) _ = _
                                        simp only [Act.put, List.setIfInBounds_toArray, List.set_cons_zero, List.set_cons_succ]
                                        rfl
                                      exact norm_ (by first | (simp only [putAll, Act.put, List.setIfInBounds_toArray, List.set_cons_zero, List.set_cons_succ]; done) | (simp only [putAll, Act.put, List.setIfInBounds_toArray, List.set_cons_zero, List.set_cons_succ]; rfl)) (hJ_4_8 (Ns, nc, gL) _ (HS.out.perm (List.perm_middle (a := (Th.row (.slice Ns P1.length nc) P1)) (l₁ := [(Th.blk gL #[.int .i64 z] 3)]) (l₂ := [(Th.row (.slice Qs Q1.length qc) Q1), (Th.row (.slice Ps P1.length pc) P1)])).symm))
                                    · skip
                                      refine lit_step (by rfl) rfl #[] 3 0 (by first | (go_simp; done) | (go_simp; rfl)) ?_
                                      intro gE wE hgE hxE hbE
                                      have nS : Aside0 (Sx wz7 wE [(.blk gE #[] 3), (.blk gL #[.int .i64 z] 3), (.row (.slice Qs Q1.length qc) Q1), (.row (.slice Ps P1.length pc) P1)]) := Aside0.mk (HS.out.box hgE.symm hxE hbE)
                                      clear HS hgE hxE hbE
                                      have HS := nS
                                      clear nS
                                      refine hK.out _ _ ⟨(blk_cell (blk_below HKB.out HS.out.below) 0).trans rfl, (blk_cell (blk_below HKB.out HS.out.below) 1).trans rfl⟩ (fun hHeld => ?_)
                                      clear hK K
                                      refine norm_ (a' := ?_) ?_ ?_
                                      rotate_left
                                      · show Act.put _ (some 118) _ = _
                                        simp only [Act.put, List.setIfInBounds_toArray, List.set_cons_zero, List.set_cons_succ]
                                        rfl
                                      exact norm_ (by first | (simp only [putAll, Act.put, List.setIfInBounds_toArray, List.set_cons_zero, List.set_cons_succ]; done) | (simp only [putAll, Act.put, List.setIfInBounds_toArray, List.set_cons_zero, List.set_cons_succ]; rfl)) (hJ_8_10 (gL, gE) _ (HS.out.perm (List.Perm.refl _)))
                                    · skip
                                      refine box_step ?hg (N := 14) ?hd (cs := #[.bool false, .slice none 0 0, .slice none 0 0]) (t := 28) ?hr ?_; (case hd => rfl); (case hg => rfl); (case hr => first | (go_simp; done) | (go_simp; rfl))
                                      intro gO hgO wO hxO hbO
                                      have nS : Aside0 (Sx wz7 wO [(.blk gO #[.bool false, .slice none 0 0, .slice none 0 0] 28), (.blk gL #[.int .i64 z] 3), (.row (.slice Qs Q1.length qc) Q1), (.row (.slice Ps P1.length pc) P1)]) := Aside0.mk (HS.out.box hgO hxO hbO)
                                      clear HS hgO hxO hbO
                                      have HS := nS
                                      clear nS
                                      refine hK.out _ _ ⟨(blk_cell (blk_below HKB.out HS.out.below) 0).trans rfl, (blk_cell (blk_below HKB.out HS.out.below) 1).trans rfl⟩ (fun hHeld => ?_)
                                      clear hK K
                                      refine norm_ (a' := ?_) ?_ ?_
                                      rotate_left
                                      · show Act.put _ (some 14) _ = _
                                        simp only [Act.put, List.setIfInBounds_toArray, List.set_cons_zero, List.set_cons_succ]
                                        rfl
                                      exact norm_ (by first | (simp only [putAll, Act.put, List.setIfInBounds_toArray, List.set_cons_zero, List.set_cons_succ]; done) | (simp only [putAll, Act.put, List.setIfInBounds_toArray, List.set_cons_zero, List.set_cons_succ]; rfl)) (hJ_8_12 (gL, gO) _ (HS.out.perm (List.Perm.refl _)))
                                · intro s_ w_ hF
                                  obtain ⟨Ns, nc⟩ := s_
                                  have nS : Aside0 (Sx wz7 w_ [(.row (.slice Ns P1.length nc) P1), (.row (.slice Qs Q1.length qc) Q1), (.row (.slice Ps P1.length pc) P1)]) := Aside0.mk hF
                                  clear HS hF
                                  have HS := nS
                                  clear nS
                                  refine norm_ (a' := ?_) ?_ ?_
                                  rotate_left
                                  · simp only [putAll, Act.put, List.setIfInBounds_toArray, List.set_cons_zero, List.set_cons_succ]
                                    rfl
                                  refine three_ (i := 8) (j := 10) (k := 12) (Ni := (some 116)) (Nj := (some 118)) (Nk := (some 14)) #[true, true, true, true, true, true, true, true, true, false, false, false, false, false] #[true, true, true, true, true, true, true, true, false, false, true, false, false, false] #[true, true, true, true, true, true, true, true, false, false, false, false, true, false] rfl rfl rfl rfl rfl rfl (by kernel_rfl) (by decide) (by decide) (by decide) (fun K hK => ?_) (fun K hK => ?_) (fun K hK => ?_)
                                  · skip
                                    refine lit_step (by rfl) rfl #[.int .i64 z] 3 1 (by first | (go_simp; done) | (go_simp; rfl)) ?_
                                    intro gL wL hgL hxL hbL
                                    have nS : Aside0 (Sx wz7 wL [(.blk gL #[.int .i64 z] 3), (.row (.slice Ns P1.length nc) P1), (.row (.slice Qs Q1.length qc) Q1), (.row (.slice Ps P1.length pc) P1)]) := Aside0.mk (HS.out.box hgL.symm hxL hbL)
                                    clear HS hgL hxL hbL
                                    have HS := nS
                                    clear nS
                                    refine hK.out _ _ ⟨(blk_cell (blk_below HKB.out HS.out.below) 0).trans rfl, (blk_cell (blk_below HKB.out HS.out.below) 1).trans rfl⟩ (fun hHeld => ?_)
                                    clear hK K
                                    refine norm_ (a' := ?_) ?_ ?_
                                    rotate_left
                                    · show Act.put _ (some 116) _ = _
                                      simp only [Act.put, List.setIfInBounds_toArray, List.set_cons_zero, List.set_cons_succ]
                                      rfl
                                    exact norm_ (by first | (simp only [putAll, Act.put, List.setIfInBounds_toArray, List.set_cons_zero, List.set_cons_succ]; done) | (simp only [putAll, Act.put, List.setIfInBounds_toArray, List.set_cons_zero, List.set_cons_succ]; rfl)) (hJ_4_8 (Ns, nc, gL) _ (HS.out.perm (List.Perm.refl _)))
                                  · skip
                                    refine lit_step (by rfl) rfl #[] 3 0 (by first | (go_simp; done) | (go_simp; rfl)) ?_
                                    intro gE wE hgE hxE hbE
                                    have nS : Aside0 (Sx wz7 wE [(.blk gE #[] 3), (.row (.slice Ns P1.length nc) P1), (.row (.slice Qs Q1.length qc) Q1), (.row (.slice Ps P1.length pc) P1)]) := Aside0.mk (HS.out.box hgE.symm hxE hbE)
                                    clear HS hgE hxE hbE
                                    have HS := nS
                                    clear nS
                                    refine hK.out _ _ ⟨(blk_cell (blk_below HKB.out HS.out.below) 0).trans rfl, (blk_cell (blk_below HKB.out HS.out.below) 1).trans rfl⟩ (fun hHeld => ?_)
                                    clear hK K
                                    refine norm_ (a' := ?_) ?_ ?_
                                    rotate_left
                                    · show Act.put _ (some 118) _ = _
                                      simp only [Act.put, List.setIfInBounds_toArray, List.set_cons_zero, List.set_cons_succ]
                                      rfl
                                    exact norm_ (by first | (simp only [putAll, Act.put, List.setIfInBounds_toArray, List.set_cons_zero, List.set_cons_succ]; done) | (simp only [putAll, Act.put, List.setIfInBounds_toArray, List.set_cons_zero, List.set_cons_succ]; rfl)) (hJ_4_10 (Ns, nc, gE) _ (HS.out.perm (List.Perm.refl _)))
                                  · skip
                                    refine box_step ?hg (N := 14) ?hd (cs := #[.bool false, .slice none 0 0, .slice none 0 0]) (t := 28) ?hr ?_; (case hd => rfl); (case hg => rfl); (case hr => first | (go_simp; done) | (go_simp; rfl))
                                    intro gO hgO wO hxO hbO
                                    have nS : Aside0 (Sx wz7 wO [(.blk gO #[.bool false, .slice none 0 0, .slice none 0 0] 28), (.row (.slice Ns P1.length nc) P1), (.row (.slice Qs Q1.length qc) Q1), (.row (.slice Ps P1.length pc) P1)]) := Aside0.mk (HS.out.box hgO hxO hbO)
                                    clear HS hgO hxO hbO
                                    have HS := nS
                                    clear nS
                                    refine hK.out _ _ ⟨(blk_cell (blk_below HKB.out HS.out.below) 0).trans rfl, (blk_cell (blk_below HKB.out HS.out.below) 1).trans rfl⟩ (fun hHeld => ?_)
                                    clear hK K
                                    refine norm_ (a' := ?_) ?_ ?_
                                    rotate_left
                                    · show Act.put _ (some 14) _ = _
                                      simp only [Act.put, List.setIfInBounds_toArray, List.set_cons_zero, List.set_cons_succ]
                                      rfl
                                    exact norm_ (by first | (simp only [putAll, Act.put, List.setIfInBounds_toArray, List.set_cons_zero, List.set_cons_succ]; done) | (simp only [putAll, Act.put, List.setIfInBounds_toArray, List.set_cons_zero, List.set_cons_succ]; rfl)) (hJ_4_12 (Ns, nc, gO) _ (HS.out.perm (List.Perm.refl _)))
                              · intro s_ w_ hF
                                obtain ⟨gE, gO⟩ := s_
                                have nS : Aside0 (Sx wz7 w_ [(.blk gO #[.bool false, .slice none 0 0, .slice none 0 0] 28), (.blk gE #[] 3), (.row (.slice Qs Q1.length qc) Q1), (.row (.slice Ps P1.length pc) P1)]) := Aside0.mk hF
                                clear HS hF
                                have HS := nS
                                clear nS
                                refine norm_ (a' := ?_) ?_ ?_
                                rotate_left
                                · simp only [putAll, Act.put, List.setIfInBounds_toArray, List.set_cons_zero, List.set_cons_succ]
                                  rfl
                                refine two_ (i := 4) (j := 8) (Ni := (some 112)) (Nj := (some 116)) #[true, true, true, true, true, true, true, true, false, false, true, false, true, false] #[true, true, true, true, false, true, true, true, true, false, true, false, true, false] rfl rfl rfl rfl (by kernel_rfl) (by decide) (by decide) (fun K hK => ?_) (fun K hK => ?_)
                                · skip
                                  refine goes_ Try.func88 (by kernel_rfl) rfl #[.slice As L1.length cs, .bool false] (by rfl) rfl rfl (by (try simp only [List.map_toArray, List.map_cons, List.map_nil]); first | done | rfl) ?_
                                  with_reducible refine (spec_l4Without.calls As cs L1 false P1 _ (Kd.C_below CA1.out HS.out.below) KA1.out HWA.out).mono ?_
                                  rintro e vo6 ⟨v_, rfl, hro6, hbo6⟩
                                  obtain ⟨Ns, nc, hv_⟩ := Kd.R_slice hro6
                                  subst hv_
                                  have nS : Aside0 (Sx wz7 vo6 [(.row (.slice Ns P1.length nc) P1), (.blk gO #[.bool false, .slice none 0 0, .slice none 0 0] 28), (.blk gE #[] 3), (.row (.slice Qs Q1.length qc) Q1), (.row (.slice Ps P1.length pc) P1)]) := Aside0.mk (HS.out.addRow hbo6 hro6)
                                  clear HS hbo6
                                  have HS := nS
                                  clear nS
                                  refine ⟨_, rfl, ?_⟩
                                  refine hK.out _ _ ⟨(blk_cell (blk_below HKB.out HS.out.below) 0).trans rfl, (blk_cell (blk_below HKB.out HS.out.below) 1).trans rfl⟩ (fun hHeld => ?_)
                                  clear hK K
                                  refine norm_ (a' := ?_) ?_ ?_
                                  rotate_left
                                  · show Act.put _ (some 112) _ = _
                                    simp only [Act.put, List.setIfInBounds_toArray, List.set_cons_zero, List.set_cons_succ]
                                    rfl
                                  exact norm_ (by first | (simp only [putAll, Act.put, List.setIfInBounds_toArray, List.set_cons_zero, List.set_cons_succ]; done) | (simp only [putAll, Act.put, List.setIfInBounds_toArray, List.set_cons_zero, List.set_cons_succ]; rfl)) (hJ_4_10_12 (Ns, nc, gE, gO) _ (HS.out.perm (List.perm_middle (a := (Th.row (.slice Ns P1.length nc) P1)) (l₁ := [(Th.blk gO #[.bool false, .slice none 0 0, .slice none 0 0] 28), (Th.blk gE #[] 3)]) (l₂ := [(Th.row (.slice Qs Q1.length qc) Q1), (Th.row (.slice Ps P1.length pc) P1)])).symm))
                                · skip
                                  refine lit_step (by rfl) rfl #[.int .i64 z] 3 1 (by first | (go_simp; done) | (go_simp; rfl)) ?_
                                  intro gL wL hgL hxL hbL
                                  have nS : Aside0 (Sx wz7 wL [(.blk gL #[.int .i64 z] 3), (.blk gO #[.bool false, .slice none 0 0, .slice none 0 0] 28), (.blk gE #[] 3), (.row (.slice Qs Q1.length qc) Q1), (.row (.slice Ps P1.length pc) P1)]) := Aside0.mk (HS.out.box hgL.symm hxL hbL)
                                  clear HS hgL hxL hbL
                                  have HS := nS
                                  clear nS
                                  refine hK.out _ _ ⟨(blk_cell (blk_below HKB.out HS.out.below) 0).trans rfl, (blk_cell (blk_below HKB.out HS.out.below) 1).trans rfl⟩ (fun hHeld => ?_)
                                  clear hK K
                                  refine norm_ (a' := ?_) ?_ ?_
                                  rotate_left
                                  · show Act.put _ (some 116) _ = _
                                    simp only [Act.put, List.setIfInBounds_toArray, List.set_cons_zero, List.set_cons_succ]
                                    rfl
                                  exact norm_ (by first | (simp only [putAll, Act.put, List.setIfInBounds_toArray, List.set_cons_zero, List.set_cons_succ]; done) | (simp only [putAll, Act.put, List.setIfInBounds_toArray, List.set_cons_zero, List.set_cons_succ]; rfl)) (hJ_8_10_12 (gL, gE, gO) _ (HS.out.perm (List.perm_middle (a := (Th.blk gL #[.int .i64 z] 3)) (l₁ := [(Th.blk gO #[.bool false, .slice none 0 0, .slice none 0 0] 28), (Th.blk gE #[] 3)]) (l₂ := [(Th.row (.slice Qs Q1.length qc) Q1), (Th.row (.slice Ps P1.length pc) P1)])).symm))
                            · intro s_ w_ hF
                              obtain ⟨gL, gO⟩ := s_
                              have nS : Aside0 (Sx wz7 w_ [(.blk gO #[.bool false, .slice none 0 0, .slice none 0 0] 28), (.blk gL #[.int .i64 z] 3), (.row (.slice Qs Q1.length qc) Q1), (.row (.slice Ps P1.length pc) P1)]) := Aside0.mk hF
                              clear HS hF
                              have HS := nS
                              clear nS
                              refine norm_ (a' := ?_) ?_ ?_
                              rotate_left
                              · simp only [putAll, Act.put, List.setIfInBounds_toArray, List.set_cons_zero, List.set_cons_succ]
                                rfl
                              refine two_ (i := 4) (j := 10) (Ni := (some 112)) (Nj := (some 118)) #[true, true, true, true, true, true, true, true, true, false, false, false, true, false] #[true, true, true, true, false, true, true, true, true, false, true, false, true, false] rfl rfl rfl rfl (by kernel_rfl) (by decide) (by decide) (fun K hK => ?_) (fun K hK => ?_)
                              · skip
                                refine goes_ Try.func88 (by kernel_rfl) rfl #[.slice As L1.length cs, .bool false] (by rfl) rfl rfl (by (try simp only [List.map_toArray, List.map_cons, List.map_nil]); first | done | rfl) ?_
                                with_reducible refine (spec_l4Without.calls As cs L1 false P1 _ (Kd.C_below CA1.out HS.out.below) KA1.out HWA.out).mono ?_
                                rintro e vo6 ⟨v_, rfl, hro6, hbo6⟩
                                obtain ⟨Ns, nc, hv_⟩ := Kd.R_slice hro6
                                subst hv_
                                have nS : Aside0 (Sx wz7 vo6 [(.row (.slice Ns P1.length nc) P1), (.blk gO #[.bool false, .slice none 0 0, .slice none 0 0] 28), (.blk gL #[.int .i64 z] 3), (.row (.slice Qs Q1.length qc) Q1), (.row (.slice Ps P1.length pc) P1)]) := Aside0.mk (HS.out.addRow hbo6 hro6)
                                clear HS hbo6
                                have HS := nS
                                clear nS
                                refine ⟨_, rfl, ?_⟩
                                refine hK.out _ _ ⟨(blk_cell (blk_below HKB.out HS.out.below) 0).trans rfl, (blk_cell (blk_below HKB.out HS.out.below) 1).trans rfl⟩ (fun hHeld => ?_)
                                clear hK K
                                refine norm_ (a' := ?_) ?_ ?_
                                rotate_left
                                · show Act.put _ (some 112) _ = _
                                  simp only [Act.put, List.setIfInBounds_toArray, List.set_cons_zero, List.set_cons_succ]
                                  rfl
                                exact norm_ (by first | (simp only [putAll, Act.put, List.setIfInBounds_toArray, List.set_cons_zero, List.set_cons_succ]; done) | (simp only [putAll, Act.put, List.setIfInBounds_toArray, List.set_cons_zero, List.set_cons_succ]; rfl)) (hJ_4_8_12 (Ns, nc, gL, gO) _ (HS.out.perm (List.perm_middle (a := (Th.row (.slice Ns P1.length nc) P1)) (l₁ := [(Th.blk gO #[.bool false, .slice none 0 0, .slice none 0 0] 28), (Th.blk gL #[.int .i64 z] 3)]) (l₂ := [(Th.row (.slice Qs Q1.length qc) Q1), (Th.row (.slice Ps P1.length pc) P1)])).symm))
                              · skip
                                refine lit_step (by rfl) rfl #[] 3 0 (by first | (go_simp; done) | (go_simp; rfl)) ?_
                                intro gE wE hgE hxE hbE
                                have nS : Aside0 (Sx wz7 wE [(.blk gE #[] 3), (.blk gO #[.bool false, .slice none 0 0, .slice none 0 0] 28), (.blk gL #[.int .i64 z] 3), (.row (.slice Qs Q1.length qc) Q1), (.row (.slice Ps P1.length pc) P1)]) := Aside0.mk (HS.out.box hgE.symm hxE hbE)
                                clear HS hgE hxE hbE
                                have HS := nS
                                clear nS
                                refine hK.out _ _ ⟨(blk_cell (blk_below HKB.out HS.out.below) 0).trans rfl, (blk_cell (blk_below HKB.out HS.out.below) 1).trans rfl⟩ (fun hHeld => ?_)
                                clear hK K
                                refine norm_ (a' := ?_) ?_ ?_
                                rotate_left
                                · show Act.put _ (some 118) _ = _
                                  simp only [Act.put, List.setIfInBounds_toArray, List.set_cons_zero, List.set_cons_succ]
                                  rfl
                                exact norm_ (by first | (simp only [putAll, Act.put, List.setIfInBounds_toArray, List.set_cons_zero, List.set_cons_succ]; done) | (simp only [putAll, Act.put, List.setIfInBounds_toArray, List.set_cons_zero, List.set_cons_succ]; rfl)) (hJ_8_10_12 (gL, gE, gO) _ (HS.out.perm (List.perm_middle (a := (Th.blk gE #[] 3)) (l₁ := [(Th.blk gO #[.bool false, .slice none 0 0, .slice none 0 0] 28)]) (l₂ := [(Th.blk gL #[.int .i64 z] 3), (Th.row (.slice Qs Q1.length qc) Q1), (Th.row (.slice Ps P1.length pc) P1)])).symm))
                          · intro s_ w_ hF
                            obtain ⟨gL, gE⟩ := s_
                            have nS : Aside0 (Sx wz7 w_ [(.blk gE #[] 3), (.blk gL #[.int .i64 z] 3), (.row (.slice Qs Q1.length qc) Q1), (.row (.slice Ps P1.length pc) P1)]) := Aside0.mk hF
                            clear HS hF
                            have HS := nS
                            clear nS
                            refine norm_ (a' := ?_) ?_ ?_
                            rotate_left
                            · simp only [putAll, Act.put, List.setIfInBounds_toArray, List.set_cons_zero, List.set_cons_succ]
                              rfl
                            refine two_ (i := 4) (j := 12) (Ni := (some 112)) (Nj := (some 14)) #[true, true, true, true, true, true, true, true, true, false, true, false, false, false] #[true, true, true, true, false, true, true, true, true, false, true, false, true, false] rfl rfl rfl rfl (by kernel_rfl) (by decide) (by decide) (fun K hK => ?_) (fun K hK => ?_)
                            · skip
                              refine goes_ Try.func88 (by kernel_rfl) rfl #[.slice As L1.length cs, .bool false] (by rfl) rfl rfl (by (try simp only [List.map_toArray, List.map_cons, List.map_nil]); first | done | rfl) ?_
                              with_reducible refine (spec_l4Without.calls As cs L1 false P1 _ (Kd.C_below CA1.out HS.out.below) KA1.out HWA.out).mono ?_
                              rintro e vo6 ⟨v_, rfl, hro6, hbo6⟩
                              obtain ⟨Ns, nc, hv_⟩ := Kd.R_slice hro6
                              subst hv_
                              have nS : Aside0 (Sx wz7 vo6 [(.row (.slice Ns P1.length nc) P1), (.blk gE #[] 3), (.blk gL #[.int .i64 z] 3), (.row (.slice Qs Q1.length qc) Q1), (.row (.slice Ps P1.length pc) P1)]) := Aside0.mk (HS.out.addRow hbo6 hro6)
                              clear HS hbo6
                              have HS := nS
                              clear nS
                              refine ⟨_, rfl, ?_⟩
                              refine hK.out _ _ ⟨(blk_cell (blk_below HKB.out HS.out.below) 0).trans rfl, (blk_cell (blk_below HKB.out HS.out.below) 1).trans rfl⟩ (fun hHeld => ?_)
                              clear hK K
                              refine norm_ (a' := ?_) ?_ ?_
                              rotate_left
                              · show Act.put _ (some 112) _ = _
                                simp only [Act.put, List.setIfInBounds_toArray, List.set_cons_zero, List.set_cons_succ]
                                rfl
                              exact norm_ (by first | (simp only [putAll, Act.put, List.setIfInBounds_toArray, List.set_cons_zero, List.set_cons_succ]; done) | (simp only [putAll, Act.put, List.setIfInBounds_toArray, List.set_cons_zero, List.set_cons_succ]; rfl)) (hJ_4_8_10 (Ns, nc, gL, gE) _ (HS.out.perm (List.perm_middle (a := (Th.row (.slice Ns P1.length nc) P1)) (l₁ := [(Th.blk gE #[] 3), (Th.blk gL #[.int .i64 z] 3)]) (l₂ := [(Th.row (.slice Qs Q1.length qc) Q1), (Th.row (.slice Ps P1.length pc) P1)])).symm))
                            · skip
                              refine box_step ?hg (N := 14) ?hd (cs := #[.bool false, .slice none 0 0, .slice none 0 0]) (t := 28) ?hr ?_; (case hd => rfl); (case hg => rfl); (case hr => first | (go_simp; done) | (go_simp; rfl))
                              intro gO hgO wO hxO hbO
                              have nS : Aside0 (Sx wz7 wO [(.blk gO #[.bool false, .slice none 0 0, .slice none 0 0] 28), (.blk gE #[] 3), (.blk gL #[.int .i64 z] 3), (.row (.slice Qs Q1.length qc) Q1), (.row (.slice Ps P1.length pc) P1)]) := Aside0.mk (HS.out.box hgO hxO hbO)
                              clear HS hgO hxO hbO
                              have HS := nS
                              clear nS
                              refine hK.out _ _ ⟨(blk_cell (blk_below HKB.out HS.out.below) 0).trans rfl, (blk_cell (blk_below HKB.out HS.out.below) 1).trans rfl⟩ (fun hHeld => ?_)
                              clear hK K
                              refine norm_ (a' := ?_) ?_ ?_
                              rotate_left
                              · show Act.put _ (some 14) _ = _
                                simp only [Act.put, List.setIfInBounds_toArray, List.set_cons_zero, List.set_cons_succ]
                                rfl
                              exact norm_ (by first | (simp only [putAll, Act.put, List.setIfInBounds_toArray, List.set_cons_zero, List.set_cons_succ]; done) | (simp only [putAll, Act.put, List.setIfInBounds_toArray, List.set_cons_zero, List.set_cons_succ]; rfl)) (hJ_8_10_12 (gL, gE, gO) _ (HS.out.perm (List.Perm.refl _)))
                        · intro s_ w_ hF
                          obtain ⟨Ns, nc, gO⟩ := s_
                          have nS : Aside0 (Sx wz7 w_ [(.blk gO #[.bool false, .slice none 0 0, .slice none 0 0] 28), (.row (.slice Ns P1.length nc) P1), (.row (.slice Qs Q1.length qc) Q1), (.row (.slice Ps P1.length pc) P1)]) := Aside0.mk hF
                          clear HS hF
                          have HS := nS
                          clear nS
                          refine norm_ (a' := ?_) ?_ ?_
                          rotate_left
                          · simp only [putAll, Act.put, List.setIfInBounds_toArray, List.set_cons_zero, List.set_cons_succ]
                            rfl
                          refine two_ (i := 8) (j := 10) (Ni := (some 116)) (Nj := (some 118)) #[true, true, true, true, true, true, true, true, true, false, false, false, true, false] #[true, true, true, true, true, true, true, true, false, false, true, false, true, false] rfl rfl rfl rfl (by kernel_rfl) (by decide) (by decide) (fun K hK => ?_) (fun K hK => ?_)
                          · skip
                            refine lit_step (by rfl) rfl #[.int .i64 z] 3 1 (by first | (go_simp; done) | (go_simp; rfl)) ?_
                            intro gL wL hgL hxL hbL
                            have nS : Aside0 (Sx wz7 wL [(.blk gL #[.int .i64 z] 3), (.blk gO #[.bool false, .slice none 0 0, .slice none 0 0] 28), (.row (.slice Ns P1.length nc) P1), (.row (.slice Qs Q1.length qc) Q1), (.row (.slice Ps P1.length pc) P1)]) := Aside0.mk (HS.out.box hgL.symm hxL hbL)
                            clear HS hgL hxL hbL
                            have HS := nS
                            clear nS
                            refine hK.out _ _ ⟨(blk_cell (blk_below HKB.out HS.out.below) 0).trans rfl, (blk_cell (blk_below HKB.out HS.out.below) 1).trans rfl⟩ (fun hHeld => ?_)
                            clear hK K
                            refine norm_ (a' := ?_) ?_ ?_
                            rotate_left
                            · show Act.put _ (some 116) _ = _
                              simp only [Act.put, List.setIfInBounds_toArray, List.set_cons_zero, List.set_cons_succ]
                              rfl
                            exact norm_ (by first | (simp only [putAll, Act.put, List.setIfInBounds_toArray, List.set_cons_zero, List.set_cons_succ]; done) | (simp only [putAll, Act.put, List.setIfInBounds_toArray, List.set_cons_zero, List.set_cons_succ]; rfl)) (hJ_4_8_12 (Ns, nc, gL, gO) _ (HS.out.perm (List.perm_middle (a := (Th.blk gL #[.int .i64 z] 3)) (l₁ := [(Th.blk gO #[.bool false, .slice none 0 0, .slice none 0 0] 28)]) (l₂ := [(Th.row (.slice Ns P1.length nc) P1), (Th.row (.slice Qs Q1.length qc) Q1), (Th.row (.slice Ps P1.length pc) P1)])).symm))
                          · skip
                            refine lit_step (by rfl) rfl #[] 3 0 (by first | (go_simp; done) | (go_simp; rfl)) ?_
                            intro gE wE hgE hxE hbE
                            have nS : Aside0 (Sx wz7 wE [(.blk gE #[] 3), (.blk gO #[.bool false, .slice none 0 0, .slice none 0 0] 28), (.row (.slice Ns P1.length nc) P1), (.row (.slice Qs Q1.length qc) Q1), (.row (.slice Ps P1.length pc) P1)]) := Aside0.mk (HS.out.box hgE.symm hxE hbE)
                            clear HS hgE hxE hbE
                            have HS := nS
                            clear nS
                            refine hK.out _ _ ⟨(blk_cell (blk_below HKB.out HS.out.below) 0).trans rfl, (blk_cell (blk_below HKB.out HS.out.below) 1).trans rfl⟩ (fun hHeld => ?_)
                            clear hK K
                            refine norm_ (a' := ?_) ?_ ?_
                            rotate_left
                            · show Act.put _ (some 118) _ = _
                              simp only [Act.put, List.setIfInBounds_toArray, List.set_cons_zero, List.set_cons_succ]
                              rfl
                            exact norm_ (by first | (simp only [putAll, Act.put, List.setIfInBounds_toArray, List.set_cons_zero, List.set_cons_succ]; done) | (simp only [putAll, Act.put, List.setIfInBounds_toArray, List.set_cons_zero, List.set_cons_succ]; rfl)) (hJ_4_10_12 (Ns, nc, gE, gO) _ (HS.out.perm (List.perm_middle (a := (Th.blk gE #[] 3)) (l₁ := [(Th.blk gO #[.bool false, .slice none 0 0, .slice none 0 0] 28)]) (l₂ := [(Th.row (.slice Ns P1.length nc) P1), (Th.row (.slice Qs Q1.length qc) Q1), (Th.row (.slice Ps P1.length pc) P1)])).symm))
                      · intro s_ w_ hF
                        obtain ⟨Ns, nc, gE⟩ := s_
                        have nS : Aside0 (Sx wz7 w_ [(.blk gE #[] 3), (.row (.slice Ns P1.length nc) P1), (.row (.slice Qs Q1.length qc) Q1), (.row (.slice Ps P1.length pc) P1)]) := Aside0.mk hF
                        clear HS hF
                        have HS := nS
                        clear nS
                        refine norm_ (a' := ?_) ?_ ?_
                        rotate_left
                        · simp only [putAll, Act.put, List.setIfInBounds_toArray, List.set_cons_zero, List.set_cons_succ]
                          rfl
                        refine two_ (i := 8) (j := 12) (Ni := (some 116)) (Nj := (some 14)) #[true, true, true, true, true, true, true, true, true, false, true, false, false, false] #[true, true, true, true, true, true, true, true, false, false, true, false, true, false] rfl rfl rfl rfl (by kernel_rfl) (by decide) (by decide) (fun K hK => ?_) (fun K hK => ?_)
                        · skip
                          refine lit_step (by rfl) rfl #[.int .i64 z] 3 1 (by first | (go_simp; done) | (go_simp; rfl)) ?_
                          intro gL wL hgL hxL hbL
                          have nS : Aside0 (Sx wz7 wL [(.blk gL #[.int .i64 z] 3), (.blk gE #[] 3), (.row (.slice Ns P1.length nc) P1), (.row (.slice Qs Q1.length qc) Q1), (.row (.slice Ps P1.length pc) P1)]) := Aside0.mk (HS.out.box hgL.symm hxL hbL)
                          clear HS hgL hxL hbL
                          have HS := nS
                          clear nS
                          refine hK.out _ _ ⟨(blk_cell (blk_below HKB.out HS.out.below) 0).trans rfl, (blk_cell (blk_below HKB.out HS.out.below) 1).trans rfl⟩ (fun hHeld => ?_)
                          clear hK K
                          refine norm_ (a' := ?_) ?_ ?_
                          rotate_left
                          · show Act.put _ (some 116) _ = _
                            simp only [Act.put, List.setIfInBounds_toArray, List.set_cons_zero, List.set_cons_succ]
                            rfl
                          exact norm_ (by first | (simp only [putAll, Act.put, List.setIfInBounds_toArray, List.set_cons_zero, List.set_cons_succ]; done) | (simp only [putAll, Act.put, List.setIfInBounds_toArray, List.set_cons_zero, List.set_cons_succ]; rfl)) (hJ_4_8_10 (Ns, nc, gL, gE) _ (HS.out.perm (List.perm_middle (a := (Th.blk gL #[.int .i64 z] 3)) (l₁ := [(Th.blk gE #[] 3)]) (l₂ := [(Th.row (.slice Ns P1.length nc) P1), (Th.row (.slice Qs Q1.length qc) Q1), (Th.row (.slice Ps P1.length pc) P1)])).symm))
                        · skip
                          refine box_step ?hg (N := 14) ?hd (cs := #[.bool false, .slice none 0 0, .slice none 0 0]) (t := 28) ?hr ?_; (case hd => rfl); (case hg => rfl); (case hr => first | (go_simp; done) | (go_simp; rfl))
                          intro gO hgO wO hxO hbO
                          have nS : Aside0 (Sx wz7 wO [(.blk gO #[.bool false, .slice none 0 0, .slice none 0 0] 28), (.blk gE #[] 3), (.row (.slice Ns P1.length nc) P1), (.row (.slice Qs Q1.length qc) Q1), (.row (.slice Ps P1.length pc) P1)]) := Aside0.mk (HS.out.box hgO hxO hbO)
                          clear HS hgO hxO hbO
                          have HS := nS
                          clear nS
                          refine hK.out _ _ ⟨(blk_cell (blk_below HKB.out HS.out.below) 0).trans rfl, (blk_cell (blk_below HKB.out HS.out.below) 1).trans rfl⟩ (fun hHeld => ?_)
                          clear hK K
                          refine norm_ (a' := ?_) ?_ ?_
                          rotate_left
                          · show Act.put _ (some 14) _ = _
                            simp only [Act.put, List.setIfInBounds_toArray, List.set_cons_zero, List.set_cons_succ]
                            rfl
                          exact norm_ (by first | (simp only [putAll, Act.put, List.setIfInBounds_toArray, List.set_cons_zero, List.set_cons_succ]; done) | (simp only [putAll, Act.put, List.setIfInBounds_toArray, List.set_cons_zero, List.set_cons_succ]; rfl)) (hJ_4_10_12 (Ns, nc, gE, gO) _ (HS.out.perm (List.Perm.refl _)))
                    · intro s_ w_ hF
                      obtain ⟨Ns, nc, gL⟩ := s_
                      have nS : Aside0 (Sx wz7 w_ [(.blk gL #[.int .i64 z] 3), (.row (.slice Ns P1.length nc) P1), (.row (.slice Qs Q1.length qc) Q1), (.row (.slice Ps P1.length pc) P1)]) := Aside0.mk hF
                      clear HS hF
                      have HS := nS
                      clear nS
                      refine norm_ (a' := ?_) ?_ ?_
                      rotate_left
                      · simp only [putAll, Act.put, List.setIfInBounds_toArray, List.set_cons_zero, List.set_cons_succ]
                        rfl
                      refine three_ (i := 9) (j := 10) (k := 12) (Ni := (some 117)) (Nj := (some 118)) (Nk := (some 14)) #[true, true, true, true, true, true, true, true, true, true, false, false, false, false] #[true, true, true, true, true, true, true, true, true, false, true, false, false, false] #[true, true, true, true, true, true, true, true, true, false, false, false, true, false] rfl rfl rfl rfl rfl rfl (by kernel_rfl) (by decide) (by decide) (by decide) (fun K hK => ?_) (fun K hK => ?_) (fun K hK => ?_)
                      · skip
                        refine HS.out.appendRows_step 1 rfl P1.length (P1.length + 1) rfl (by rfl) (.tmp 112) (.tmp 116) rfl Try.underlying22 info3 (some ⟨gL, 0, none⟩) 1 1 [z] (P1 ++ [z]) rfl rfl rfl (rowI_C (l := [z]) (HS.out.blk 0 rfl) (by simp)) rfl rfl (by have := HP5.out; omega) ?_
                        intro Aj cj wJ nJ
                        have nS : Aside0 (Sx wz7 wJ [(.blk gL #[.int .i64 z] 3), (.row (.slice Aj (P1.length + 1) cj) (P1 ++ [z])), (.row (.slice Qs Q1.length qc) Q1), (.row (.slice Ps P1.length pc) P1)]) := Aside0.mk (nJ)
                        clear HS nJ
                        have HS := nS
                        clear nS
                        refine hK.out _ _ ⟨(blk_cell (blk_below HKB.out HS.out.below) 0).trans rfl, (blk_cell (blk_below HKB.out HS.out.below) 1).trans rfl⟩ (fun hHeld => ?_)
                        clear hK K
                        refine norm_ (a' := ?_) ?_ ?_
                        rotate_left
                        · show Act.put _ (some 117) _ = _
                          simp only [Act.put, List.setIfInBounds_toArray, List.set_cons_zero, List.set_cons_succ]
                          rfl
                        exact norm_ (by first | (simp only [putAll, Act.put, List.setIfInBounds_toArray, List.set_cons_zero, List.set_cons_succ]; done) | (simp only [putAll, Act.put, List.setIfInBounds_toArray, List.set_cons_zero, List.set_cons_succ]; rfl)) (hJ_4_8_9 (Ns, nc, gL, Aj, cj) _ (HS.out.perm (List.Perm.refl _)))
                      · skip
                        refine lit_step (by rfl) rfl #[] 3 0 (by first | (go_simp; done) | (go_simp; rfl)) ?_
                        intro gE wE hgE hxE hbE
                        have nS : Aside0 (Sx wz7 wE [(.blk gE #[] 3), (.blk gL #[.int .i64 z] 3), (.row (.slice Ns P1.length nc) P1), (.row (.slice Qs Q1.length qc) Q1), (.row (.slice Ps P1.length pc) P1)]) := Aside0.mk (HS.out.box hgE.symm hxE hbE)
                        clear HS hgE hxE hbE
                        have HS := nS
                        clear nS
                        refine hK.out _ _ ⟨(blk_cell (blk_below HKB.out HS.out.below) 0).trans rfl, (blk_cell (blk_below HKB.out HS.out.below) 1).trans rfl⟩ (fun hHeld => ?_)
                        clear hK K
                        refine norm_ (a' := ?_) ?_ ?_
                        rotate_left
                        · show Act.put _ (some 118) _ = _
                          simp only [Act.put, List.setIfInBounds_toArray, List.set_cons_zero, List.set_cons_succ]
                          rfl
                        exact norm_ (by first | (simp only [putAll, Act.put, List.setIfInBounds_toArray, List.set_cons_zero, List.set_cons_succ]; done) | (simp only [putAll, Act.put, List.setIfInBounds_toArray, List.set_cons_zero, List.set_cons_succ]; rfl)) (hJ_4_8_10 (Ns, nc, gL, gE) _ (HS.out.perm (List.Perm.refl _)))
                      · skip
                        refine box_step ?hg (N := 14) ?hd (cs := #[.bool false, .slice none 0 0, .slice none 0 0]) (t := 28) ?hr ?_; (case hd => rfl); (case hg => rfl); (case hr => first | (go_simp; done) | (go_simp; rfl))
                        intro gO hgO wO hxO hbO
                        have nS : Aside0 (Sx wz7 wO [(.blk gO #[.bool false, .slice none 0 0, .slice none 0 0] 28), (.blk gL #[.int .i64 z] 3), (.row (.slice Ns P1.length nc) P1), (.row (.slice Qs Q1.length qc) Q1), (.row (.slice Ps P1.length pc) P1)]) := Aside0.mk (HS.out.box hgO hxO hbO)
                        clear HS hgO hxO hbO
                        have HS := nS
                        clear nS
                        refine hK.out _ _ ⟨(blk_cell (blk_below HKB.out HS.out.below) 0).trans rfl, (blk_cell (blk_below HKB.out HS.out.below) 1).trans rfl⟩ (fun hHeld => ?_)
                        clear hK K
                        refine norm_ (a' := ?_) ?_ ?_
                        rotate_left
                        · show Act.put _ (some 14) _ = _
                          simp only [Act.put, List.setIfInBounds_toArray, List.set_cons_zero, List.set_cons_succ]
                          rfl
                        exact norm_ (by first | (simp only [putAll, Act.put, List.setIfInBounds_toArray, List.set_cons_zero, List.set_cons_succ]; done) | (simp only [putAll, Act.put, List.setIfInBounds_toArray, List.set_cons_zero, List.set_cons_succ]; rfl)) (hJ_4_8_12 (Ns, nc, gL, gO) _ (HS.out.perm (List.Perm.refl _)))
                  · intro s_ w_ hF
                    obtain ⟨gL, gE, gO⟩ := s_
                    have nS : Aside0 (Sx wz7 w_ [(.blk gO #[.bool false, .slice none 0 0, .slice none 0 0] 28), (.blk gE #[] 3), (.blk gL #[.int .i64 z] 3), (.row (.slice Qs Q1.length qc) Q1), (.row (.slice Ps P1.length pc) P1)]) := Aside0.mk hF
                    clear HS hF
                    have HS := nS
                    clear nS
                    refine norm_ (a' := ?_) ?_ ?_
                    rotate_left
                    · simp only [putAll, Act.put, List.setIfInBounds_toArray, List.set_cons_zero, List.set_cons_succ]
                      rfl
                    refine one_ (i := 4) (N := (some 112)) #[true, true, true, true, true, true, true, true, true, false, true, false, true, false] rfl rfl (by kernel_rfl) (by decide) (fun K hK => ?_)
                    refine goes_ Try.func88 (by kernel_rfl) rfl #[.slice As L1.length cs, .bool false] (by rfl) rfl rfl (by (try simp only [List.map_toArray, List.map_cons, List.map_nil]); first | done | rfl) ?_
                    with_reducible refine (spec_l4Without.calls As cs L1 false P1 _ (Kd.C_below CA1.out HS.out.below) KA1.out HWA.out).mono ?_
                    rintro e vo6 ⟨v_, rfl, hro6, hbo6⟩
                    obtain ⟨Ns, nc, hv_⟩ := Kd.R_slice hro6
                    subst hv_
                    have nS : Aside0 (Sx wz7 vo6 [(.row (.slice Ns P1.length nc) P1), (.blk gO #[.bool false, .slice none 0 0, .slice none 0 0] 28), (.blk gE #[] 3), (.blk gL #[.int .i64 z] 3), (.row (.slice Qs Q1.length qc) Q1), (.row (.slice Ps P1.length pc) P1)]) := Aside0.mk (HS.out.addRow hbo6 hro6)
                    clear HS hbo6
                    have HS := nS
                    clear nS
                    refine ⟨_, rfl, ?_⟩
                    refine hK.out _ _ ⟨(blk_cell (blk_below HKB.out HS.out.below) 0).trans rfl, (blk_cell (blk_below HKB.out HS.out.below) 1).trans rfl⟩ (fun hHeld => ?_)
                    clear hK K
                    refine norm_ (a' := ?_) ?_ ?_
                    rotate_left
                    · show Act.put _ (some 112) _ = _
                      simp only [Act.put, List.setIfInBounds_toArray, List.set_cons_zero, List.set_cons_succ]
                      rfl
                    exact norm_ (by first | (simp only [putAll, Act.put, List.setIfInBounds_toArray, List.set_cons_zero, List.set_cons_succ]; done) | (simp only [putAll, Act.put, List.setIfInBounds_toArray, List.set_cons_zero, List.set_cons_succ]; rfl)) (hJ_4_8_10_12 (Ns, nc, gL, gE, gO) _ (HS.out.perm (List.perm_middle (a := (Th.row (.slice Ns P1.length nc) P1)) (l₁ := [(Th.blk gO #[.bool false, .slice none 0 0, .slice none 0 0] 28), (Th.blk gE #[] 3), (Th.blk gL #[.int .i64 z] 3)]) (l₂ := [(Th.row (.slice Qs Q1.length qc) Q1), (Th.row (.slice Ps P1.length pc) P1)])).symm))
                · intro s_ w_ hF
                  obtain ⟨Ns, nc, gE, gO⟩ := s_
                  have nS : Aside0 (Sx wz7 w_ [(.blk gO #[.bool false, .slice none 0 0, .slice none 0 0] 28), (.blk gE #[] 3), (.row (.slice Ns P1.length nc) P1), (.row (.slice Qs Q1.length qc) Q1), (.row (.slice Ps P1.length pc) P1)]) := Aside0.mk hF
                  clear HS hF
                  have HS := nS
                  clear nS
                  refine norm_ (a' := ?_) ?_ ?_
                  rotate_left
                  · simp only [putAll, Act.put, List.setIfInBounds_toArray, List.set_cons_zero, List.set_cons_succ]
                    rfl
                  refine one_ (i := 8) (N := (some 116)) #[true, true, true, true, true, true, true, true, true, false, true, false, true, false] rfl rfl (by kernel_rfl) (by decide) (fun K hK => ?_)
                  refine lit_step (by rfl) rfl #[.int .i64 z] 3 1 (by first | (go_simp; done) | (go_simp; rfl)) ?_
                  intro gL wL hgL hxL hbL
                  have nS : Aside0 (Sx wz7 wL [(.blk gL #[.int .i64 z] 3), (.blk gO #[.bool false, .slice none 0 0, .slice none 0 0] 28), (.blk gE #[] 3), (.row (.slice Ns P1.length nc) P1), (.row (.slice Qs Q1.length qc) Q1), (.row (.slice Ps P1.length pc) P1)]) := Aside0.mk (HS.out.box hgL.symm hxL hbL)
                  clear HS hgL hxL hbL
                  have HS := nS
                  clear nS
                  refine hK.out _ _ ⟨(blk_cell (blk_below HKB.out HS.out.below) 0).trans rfl, (blk_cell (blk_below HKB.out HS.out.below) 1).trans rfl⟩ (fun hHeld => ?_)
                  clear hK K
                  refine norm_ (a' := ?_) ?_ ?_
                  rotate_left
                  · show Act.put _ (some 116) _ = _
                    simp only [Act.put, List.setIfInBounds_toArray, List.set_cons_zero, List.set_cons_succ]
                    rfl
                  exact norm_ (by first | (simp only [putAll, Act.put, List.setIfInBounds_toArray, List.set_cons_zero, List.set_cons_succ]; done) | (simp only [putAll, Act.put, List.setIfInBounds_toArray, List.set_cons_zero, List.set_cons_succ]; rfl)) (hJ_4_8_10_12 (Ns, nc, gL, gE, gO) _ (HS.out.perm (List.perm_middle (a := (Th.blk gL #[.int .i64 z] 3)) (l₁ := [(Th.blk gO #[.bool false, .slice none 0 0, .slice none 0 0] 28), (Th.blk gE #[] 3)]) (l₂ := [(Th.row (.slice Ns P1.length nc) P1), (Th.row (.slice Qs Q1.length qc) Q1), (Th.row (.slice Ps P1.length pc) P1)])).symm))
              · intro s_ w_ hF
                obtain ⟨Ns, nc, gL, gO⟩ := s_
                have nS : Aside0 (Sx wz7 w_ [(.blk gO #[.bool false, .slice none 0 0, .slice none 0 0] 28), (.blk gL #[.int .i64 z] 3), (.row (.slice Ns P1.length nc) P1), (.row (.slice Qs Q1.length qc) Q1), (.row (.slice Ps P1.length pc) P1)]) := Aside0.mk hF
                clear HS hF
                have HS := nS
                clear nS
                refine norm_ (a' := ?_) ?_ ?_
                rotate_left
                · simp only [putAll, Act.put, List.setIfInBounds_toArray, List.set_cons_zero, List.set_cons_succ]
                  rfl
                refine two_ (i := 9) (j := 10) (Ni := (some 117)) (Nj := (some 118)) #[true, true, true, true, true, true, true, true, true, true, false, false, true, false] #[true, true, true, true, true, true, true, true, true, false, true, false, true, false] rfl rfl rfl rfl (by kernel_rfl) (by decide) (by decide) (fun K hK => ?_) (fun K hK => ?_)
                · skip
                  refine HS.out.appendRows_step 2 rfl P1.length (P1.length + 1) rfl (by rfl) (.tmp 112) (.tmp 116) rfl Try.underlying22 info3 (some ⟨gL, 0, none⟩) 1 1 [z] (P1 ++ [z]) rfl rfl rfl (rowI_C (l := [z]) (HS.out.blk 1 rfl) (by simp)) rfl rfl (by have := HP5.out; omega) ?_
                  intro Aj cj wJ nJ
                  have nS : Aside0 (Sx wz7 wJ [(.blk gO #[.bool false, .slice none 0 0, .slice none 0 0] 28), (.blk gL #[.int .i64 z] 3), (.row (.slice Aj (P1.length + 1) cj) (P1 ++ [z])), (.row (.slice Qs Q1.length qc) Q1), (.row (.slice Ps P1.length pc) P1)]) := Aside0.mk (nJ)
                  clear HS nJ
                  have HS := nS
                  clear nS
                  refine hK.out _ _ ⟨(blk_cell (blk_below HKB.out HS.out.below) 0).trans rfl, (blk_cell (blk_below HKB.out HS.out.below) 1).trans rfl⟩ (fun hHeld => ?_)
                  clear hK K
                  refine norm_ (a' := ?_) ?_ ?_
                  rotate_left
                  · show Act.put _ (some 117) _ = _
                    simp only [Act.put, List.setIfInBounds_toArray, List.set_cons_zero, List.set_cons_succ]
                    rfl
                  exact norm_ (by first | (simp only [putAll, Act.put, List.setIfInBounds_toArray, List.set_cons_zero, List.set_cons_succ]; done) | (simp only [putAll, Act.put, List.setIfInBounds_toArray, List.set_cons_zero, List.set_cons_succ]; rfl)) (hJ_4_8_9_12 (Ns, nc, gL, Aj, cj, gO) _ (HS.out.perm (List.Perm.refl _)))
                · skip
                  refine lit_step (by rfl) rfl #[] 3 0 (by first | (go_simp; done) | (go_simp; rfl)) ?_
                  intro gE wE hgE hxE hbE
                  have nS : Aside0 (Sx wz7 wE [(.blk gE #[] 3), (.blk gO #[.bool false, .slice none 0 0, .slice none 0 0] 28), (.blk gL #[.int .i64 z] 3), (.row (.slice Ns P1.length nc) P1), (.row (.slice Qs Q1.length qc) Q1), (.row (.slice Ps P1.length pc) P1)]) := Aside0.mk (HS.out.box hgE.symm hxE hbE)
                  clear HS hgE hxE hbE
                  have HS := nS
                  clear nS
                  refine hK.out _ _ ⟨(blk_cell (blk_below HKB.out HS.out.below) 0).trans rfl, (blk_cell (blk_below HKB.out HS.out.below) 1).trans rfl⟩ (fun hHeld => ?_)
                  clear hK K
                  refine norm_ (a' := ?_) ?_ ?_
                  rotate_left
                  · show Act.put _ (some 118) _ = _
                    simp only [Act.put, List.setIfInBounds_toArray, List.set_cons_zero, List.set_cons_succ]
                    rfl
                  exact norm_ (by first | (simp only [putAll, Act.put, List.setIfInBounds_toArray, List.set_cons_zero, List.set_cons_succ]; done) | (simp only [putAll, Act.put, List.setIfInBounds_toArray, List.set_cons_zero, List.set_cons_succ]; rfl)) (hJ_4_8_10_12 (Ns, nc, gL, gE, gO) _ (HS.out.perm (List.perm_middle (a := (Th.blk gE #[] 3)) (l₁ := [(Th.blk gO #[.bool false, .slice none 0 0, .slice none 0 0] 28)]) (l₂ := [(Th.blk gL #[.int .i64 z] 3), (Th.row (.slice Ns P1.length nc) P1), (Th.row (.slice Qs Q1.length qc) Q1), (Th.row (.slice Ps P1.length pc) P1)])).symm))
            · intro s_ w_ hF
              obtain ⟨Ns, nc, gL, gE⟩ := s_
              have nS : Aside0 (Sx wz7 w_ [(.blk gE #[] 3), (.blk gL #[.int .i64 z] 3), (.row (.slice Ns P1.length nc) P1), (.row (.slice Qs Q1.length qc) Q1), (.row (.slice Ps P1.length pc) P1)]) := Aside0.mk hF
              clear HS hF
              have HS := nS
              clear nS
              refine norm_ (a' := ?_) ?_ ?_
              rotate_left
              · simp only [putAll, Act.put, List.setIfInBounds_toArray, List.set_cons_zero, List.set_cons_succ]
                rfl
              refine two_ (i := 9) (j := 12) (Ni := (some 117)) (Nj := (some 14)) #[true, true, true, true, true, true, true, true, true, true, true, false, false, false] #[true, true, true, true, true, true, true, true, true, false, true, false, true, false] rfl rfl rfl rfl (by kernel_rfl) (by decide) (by decide) (fun K hK => ?_) (fun K hK => ?_)
              · skip
                refine HS.out.appendRows_step 2 rfl P1.length (P1.length + 1) rfl (by rfl) (.tmp 112) (.tmp 116) rfl Try.underlying22 info3 (some ⟨gL, 0, none⟩) 1 1 [z] (P1 ++ [z]) rfl rfl rfl (rowI_C (l := [z]) (HS.out.blk 1 rfl) (by simp)) rfl rfl (by have := HP5.out; omega) ?_
                intro Aj cj wJ nJ
                have nS : Aside0 (Sx wz7 wJ [(.blk gE #[] 3), (.blk gL #[.int .i64 z] 3), (.row (.slice Aj (P1.length + 1) cj) (P1 ++ [z])), (.row (.slice Qs Q1.length qc) Q1), (.row (.slice Ps P1.length pc) P1)]) := Aside0.mk (nJ)
                clear HS nJ
                have HS := nS
                clear nS
                refine hK.out _ _ ⟨(blk_cell (blk_below HKB.out HS.out.below) 0).trans rfl, (blk_cell (blk_below HKB.out HS.out.below) 1).trans rfl⟩ (fun hHeld => ?_)
                clear hK K
                refine norm_ (a' := ?_) ?_ ?_
                rotate_left
                · show Act.put _ (some 117) _ = _
                  simp only [Act.put, List.setIfInBounds_toArray, List.set_cons_zero, List.set_cons_succ]
                  rfl
                refine pure_ (i := 11) (N := (some 119)) (v := ?_) (a' := ?_) #[true, true, true, true, true, true, true, true, true, true, true, true, false, false] rfl rfl (by kernel_rfl) (fun _ _ _ h => h) (Or.inl ⟨by rfl, ?_⟩) ?_ ?_
                rotate_left
                · intro w'
                  go_simp
                  with_reducible rfl
                rotate_left
                · simp only [Act.put, List.setIfInBounds_toArray, List.set_cons_zero, List.set_cons_succ]
                  rfl
                exact norm_ (by first | (simp only [putAll, Act.put, List.setIfInBounds_toArray, List.set_cons_zero, List.set_cons_succ]; done) | (simp only [putAll, Act.put, List.setIfInBounds_toArray, List.set_cons_zero, List.set_cons_succ]; rfl)) (hJ_4_8_9_10 (Ns, nc, gL, Aj, cj, gE) _ (HS.out.perm (List.Perm.refl _)))
              · skip
                refine box_step ?hg (N := 14) ?hd (cs := #[.bool false, .slice none 0 0, .slice none 0 0]) (t := 28) ?hr ?_; (case hd => rfl); (case hg => rfl); (case hr => first | (go_simp; done) | (go_simp; rfl))
                intro gO hgO wO hxO hbO
                have nS : Aside0 (Sx wz7 wO [(.blk gO #[.bool false, .slice none 0 0, .slice none 0 0] 28), (.blk gE #[] 3), (.blk gL #[.int .i64 z] 3), (.row (.slice Ns P1.length nc) P1), (.row (.slice Qs Q1.length qc) Q1), (.row (.slice Ps P1.length pc) P1)]) := Aside0.mk (HS.out.box hgO hxO hbO)
                clear HS hgO hxO hbO
                have HS := nS
                clear nS
                refine hK.out _ _ ⟨(blk_cell (blk_below HKB.out HS.out.below) 0).trans rfl, (blk_cell (blk_below HKB.out HS.out.below) 1).trans rfl⟩ (fun hHeld => ?_)
                clear hK K
                refine norm_ (a' := ?_) ?_ ?_
                rotate_left
                · show Act.put _ (some 14) _ = _
                  simp only [Act.put, List.setIfInBounds_toArray, List.set_cons_zero, List.set_cons_succ]
                  rfl
                exact norm_ (by first | (simp only [putAll, Act.put, List.setIfInBounds_toArray, List.set_cons_zero, List.set_cons_succ]; done) | (simp only [putAll, Act.put, List.setIfInBounds_toArray, List.set_cons_zero, List.set_cons_succ]; rfl)) (hJ_4_8_10_12 (Ns, nc, gL, gE, gO) _ (HS.out.perm (List.Perm.refl _)))
          · intro s_ w_ hF
            obtain ⟨Ns, nc, gL, Aj, cj⟩ := s_
            have nS : Aside0 (Sx wz7 w_ [(.blk gL #[.int .i64 z] 3), (.row (.slice Aj (P1.length + 1) cj) (P1 ++ [z])), (.row (.slice Qs Q1.length qc) Q1), (.row (.slice Ps P1.length pc) P1)]) := Aside0.mk hF
            clear HS hF
            have HS := nS
            clear nS
            refine norm_ (a' := ?_) ?_ ?_
            rotate_left
            · simp only [putAll, Act.put, List.setIfInBounds_toArray, List.set_cons_zero, List.set_cons_succ]
              rfl
            refine two_ (i := 10) (j := 12) (Ni := (some 118)) (Nj := (some 14)) #[true, true, true, true, true, true, true, true, true, true, true, false, false, false] #[true, true, true, true, true, true, true, true, true, true, false, false, true, false] rfl rfl rfl rfl (by kernel_rfl) (by decide) (by decide) (fun K hK => ?_) (fun K hK => ?_)
            · skip
              refine lit_step (by rfl) rfl #[] 3 0 (by first | (go_simp; done) | (go_simp; rfl)) ?_
              intro gE wE hgE hxE hbE
              have nS : Aside0 (Sx wz7 wE [(.blk gE #[] 3), (.blk gL #[.int .i64 z] 3), (.row (.slice Aj (P1.length + 1) cj) (P1 ++ [z])), (.row (.slice Qs Q1.length qc) Q1), (.row (.slice Ps P1.length pc) P1)]) := Aside0.mk (HS.out.box hgE.symm hxE hbE)
              clear HS hgE hxE hbE
              have HS := nS
              clear nS
              refine hK.out _ _ ⟨(blk_cell (blk_below HKB.out HS.out.below) 0).trans rfl, (blk_cell (blk_below HKB.out HS.out.below) 1).trans rfl⟩ (fun hHeld => ?_)
              clear hK K
              refine norm_ (a' := ?_) ?_ ?_
              rotate_left
              · show Act.put _ (some 118) _ = _
                simp only [Act.put, List.setIfInBounds_toArray, List.set_cons_zero, List.set_cons_succ]
                rfl
              refine pure_ (i := 11) (N := (some 119)) (v := ?_) (a' := ?_) #[true, true, true, true, true, true, true, true, true, true, true, true, false, false] rfl rfl (by kernel_rfl) (fun _ _ _ h => h) (Or.inl ⟨by rfl, ?_⟩) ?_ ?_
              rotate_left
              · intro w'
                go_simp
                with_reducible rfl
              rotate_left
              · simp only [Act.put, List.setIfInBounds_toArray, List.set_cons_zero, List.set_cons_succ]
                rfl
              exact norm_ (by first | (simp only [putAll, Act.put, List.setIfInBounds_toArray, List.set_cons_zero, List.set_cons_succ]; done) | (simp only [putAll, Act.put, List.setIfInBounds_toArray, List.set_cons_zero, List.set_cons_succ]; rfl)) (hJ_4_8_9_10 (Ns, nc, gL, Aj, cj, gE) _ (HS.out.perm (List.Perm.refl _)))
            · skip
              refine box_step ?hg (N := 14) ?hd (cs := #[.bool false, .slice none 0 0, .slice none 0 0]) (t := 28) ?hr ?_; (case hd => rfl); (case hg => rfl); (case hr => first | (go_simp; done) | (go_simp; rfl))
              intro gO hgO wO hxO hbO
              have nS : Aside0 (Sx wz7 wO [(.blk gO #[.bool false, .slice none 0 0, .slice none 0 0] 28), (.blk gL #[.int .i64 z] 3), (.row (.slice Aj (P1.length + 1) cj) (P1 ++ [z])), (.row (.slice Qs Q1.length qc) Q1), (.row (.slice Ps P1.length pc) P1)]) := Aside0.mk (HS.out.box hgO hxO hbO)
              clear HS hgO hxO hbO
              have HS := nS
              clear nS
              refine hK.out _ _ ⟨(blk_cell (blk_below HKB.out HS.out.below) 0).trans rfl, (blk_cell (blk_below HKB.out HS.out.below) 1).trans rfl⟩ (fun hHeld => ?_)
              clear hK K
              refine norm_ (a' := ?_) ?_ ?_
              rotate_left
              · show Act.put _ (some 14) _ = _
                simp only [Act.put, List.setIfInBounds_toArray, List.set_cons_zero, List.set_cons_succ]
                rfl
              exact norm_ (by first | (simp only [putAll, Act.put, List.setIfInBounds_toArray, List.set_cons_zero, List.set_cons_succ]; done) | (simp only [putAll, Act.put, List.setIfInBounds_toArray, List.set_cons_zero, List.set_cons_succ]; rfl)) (hJ_4_8_9_12 (Ns, nc, gL, Aj, cj, gO) _ (HS.out.perm (List.Perm.refl _)))
        · intro s_ w_ hF
          obtain ⟨Ns, nc, gL, gE, gO⟩ := s_
          have nS : Aside0 (Sx wz7 w_ [(.blk gO #[.bool false, .slice none 0 0, .slice none 0 0] 28), (.blk gE #[] 3), (.blk gL #[.int .i64 z] 3), (.row (.slice Ns P1.length nc) P1), (.row (.slice Qs Q1.length qc) Q1), (.row (.slice Ps P1.length pc) P1)]) := Aside0.mk hF
          clear HS hF
          have HS := nS
          clear nS
          refine norm_ (a' := ?_) ?_ ?_
          rotate_left
          · simp only [putAll, Act.put, List.setIfInBounds_toArray, List.set_cons_zero, List.set_cons_succ]
            rfl
          refine one_ (i := 9) (N := (some 117)) #[true, true, true, true, true, true, true, true, true, true, true, false, true, false] rfl rfl (by kernel_rfl) (by decide) (fun K hK => ?_)
          refine HS.out.appendRows_step 3 rfl P1.length (P1.length + 1) rfl (by rfl) (.tmp 112) (.tmp 116) rfl Try.underlying22 info3 (some ⟨gL, 0, none⟩) 1 1 [z] (P1 ++ [z]) rfl rfl rfl (rowI_C (l := [z]) (HS.out.blk 2 rfl) (by simp)) rfl rfl (by have := HP5.out; omega) ?_
          intro Aj cj wJ nJ
          have nS : Aside0 (Sx wz7 wJ [(.blk gO #[.bool false, .slice none 0 0, .slice none 0 0] 28), (.blk gE #[] 3), (.blk gL #[.int .i64 z] 3), (.row (.slice Aj (P1.length + 1) cj) (P1 ++ [z])), (.row (.slice Qs Q1.length qc) Q1), (.row (.slice Ps P1.length pc) P1)]) := Aside0.mk (nJ)
          clear HS nJ
          have HS := nS
          clear nS
          refine hK.out _ _ ⟨(blk_cell (blk_below HKB.out HS.out.below) 0).trans rfl, (blk_cell (blk_below HKB.out HS.out.below) 1).trans rfl⟩ (fun hHeld => ?_)
          clear hK K
          refine norm_ (a' := ?_) ?_ ?_
          rotate_left
          · show Act.put _ (some 117) _ = _
            simp only [Act.put, List.setIfInBounds_toArray, List.set_cons_zero, List.set_cons_succ]
            rfl
          refine pure_ (i := 11) (N := (some 119)) (v := ?_) (a' := ?_) #[true, true, true, true, true, true, true, true, true, true, true, true, true, false] rfl rfl (by kernel_rfl) (fun _ _ _ h => h) (Or.inl ⟨by rfl, ?_⟩) ?_ ?_
          rotate_left
          · intro w'
            go_simp
            with_reducible rfl
          rotate_left
          · simp only [Act.put, List.setIfInBounds_toArray, List.set_cons_zero, List.set_cons_succ]
            rfl
          exact norm_ (by first | (simp only [putAll, Act.put, List.setIfInBounds_toArray, List.set_cons_zero, List.set_cons_succ]; done) | (simp only [putAll, Act.put, List.setIfInBounds_toArray, List.set_cons_zero, List.set_cons_succ]; rfl)) (hJ_4_8_9_10_12 (Ns, nc, gL, Aj, cj, gE, gO) _ (HS.out.perm (List.Perm.refl _)))
      · intro s_ w_ hF
        obtain ⟨Ns, nc, gL, Aj, cj, gO⟩ := s_
        have nS : Aside0 (Sx wz7 w_ [(.blk gO #[.bool false, .slice none 0 0, .slice none 0 0] 28), (.blk gL #[.int .i64 z] 3), (.row (.slice Aj (P1.length + 1) cj) (P1 ++ [z])), (.row (.slice Qs Q1.length qc) Q1), (.row (.slice Ps P1.length pc) P1)]) := Aside0.mk hF
        clear HS hF
        have HS := nS
        clear nS
        refine norm_ (a' := ?_) ?_ ?_
        rotate_left
        · simp only [putAll, Act.put, List.setIfInBounds_toArray, List.set_cons_zero, List.set_cons_succ]
          rfl
        refine one_ (i := 10) (N := (some 118)) #[true, true, true, true, true, true, true, true, true, true, true, false, true, false] rfl rfl (by kernel_rfl) (by decide) (fun K hK => ?_)
        refine lit_step (by rfl) rfl #[] 3 0 (by first | (go_simp; done) | (go_simp; rfl)) ?_
        intro gE wE hgE hxE hbE
        have nS : Aside0 (Sx wz7 wE [(.blk gE #[] 3), (.blk gO #[.bool false, .slice none 0 0, .slice none 0 0] 28), (.blk gL #[.int .i64 z] 3), (.row (.slice Aj (P1.length + 1) cj) (P1 ++ [z])), (.row (.slice Qs Q1.length qc) Q1), (.row (.slice Ps P1.length pc) P1)]) := Aside0.mk (HS.out.box hgE.symm hxE hbE)
        clear HS hgE hxE hbE
        have HS := nS
        clear nS
        refine hK.out _ _ ⟨(blk_cell (blk_below HKB.out HS.out.below) 0).trans rfl, (blk_cell (blk_below HKB.out HS.out.below) 1).trans rfl⟩ (fun hHeld => ?_)
        clear hK K
        refine norm_ (a' := ?_) ?_ ?_
        rotate_left
        · show Act.put _ (some 118) _ = _
          simp only [Act.put, List.setIfInBounds_toArray, List.set_cons_zero, List.set_cons_succ]
          rfl
        refine pure_ (i := 11) (N := (some 119)) (v := ?_) (a' := ?_) #[true, true, true, true, true, true, true, true, true, true, true, true, true, false] rfl rfl (by kernel_rfl) (fun _ _ _ h => h) (Or.inl ⟨by rfl, ?_⟩) ?_ ?_
        rotate_left
        · intro w'
          go_simp
          with_reducible rfl
        rotate_left
        · simp only [Act.put, List.setIfInBounds_toArray, List.set_cons_zero, List.set_cons_succ]
          rfl
        exact norm_ (by first | (simp only [putAll, Act.put, List.setIfInBounds_toArray, List.set_cons_zero, List.set_cons_succ]; done) | (simp only [putAll, Act.put, List.setIfInBounds_toArray, List.set_cons_zero, List.set_cons_succ]; rfl)) (hJ_4_8_9_10_12 (Ns, nc, gL, Aj, cj, gE, gO) _ (HS.out.perm (List.perm_middle (a := (Th.blk gE #[] 3)) (l₁ := [(Th.blk gO #[.bool false, .slice none 0 0, .slice none 0 0] 28)]) (l₂ := [(Th.blk gL #[.int .i64 z] 3), (Th.row (.slice Aj (P1.length + 1) cj) (P1 ++ [z])), (Th.row (.slice Qs Q1.length qc) Q1), (Th.row (.slice Ps P1.length pc) P1)])).symm))
    · intro s_ w_ hF
      obtain ⟨Ns, nc, gL, Aj, cj, gE⟩ := s_
      have nS : Aside0 (Sx wz7 w_ [(.blk gE #[] 3), (.blk gL #[.int .i64 z] 3), (.row (.slice Aj (P1.length + 1) cj) (P1 ++ [z])), (.row (.slice Qs Q1.length qc) Q1), (.row (.slice Ps P1.length pc) P1)]) := Aside0.mk hF
      clear HS hF
      have HS := nS
      clear nS
      refine norm_ (a' := ?_) ?_ ?_
      rotate_left
      · simp only [putAll, Act.put, List.setIfInBounds_toArray, List.set_cons_zero, List.set_cons_succ]
        rfl
      refine one_ (i := 12) (N := (some 14)) #[true, true, true, true, true, true, true, true, true, true, true, true, true, false] rfl rfl (by kernel_rfl) (by decide) (fun K hK => ?_)
      refine box_step ?hg (N := 14) ?hd (cs := #[.bool false, .slice none 0 0, .slice none 0 0]) (t := 28) ?hr ?_; (case hd => rfl); (case hg => rfl); (case hr => first | (go_simp; done) | (go_simp; rfl))
      intro gO hgO wO hxO hbO
      have nS : Aside0 (Sx wz7 wO [(.blk gO #[.bool false, .slice none 0 0, .slice none 0 0] 28), (.blk gE #[] 3), (.blk gL #[.int .i64 z] 3), (.row (.slice Aj (P1.length + 1) cj) (P1 ++ [z])), (.row (.slice Qs Q1.length qc) Q1), (.row (.slice Ps P1.length pc) P1)]) := Aside0.mk (HS.out.box hgO hxO hbO)
      clear HS hgO hxO hbO
      have HS := nS
      clear nS
      refine hK.out _ _ ⟨(blk_cell (blk_below HKB.out HS.out.below) 0).trans rfl, (blk_cell (blk_below HKB.out HS.out.below) 1).trans rfl⟩ (fun hHeld => ?_)
      clear hK K
      refine norm_ (a' := ?_) ?_ ?_
      rotate_left
      · show Act.put _ (some 14) _ = _
        simp only [Act.put, List.setIfInBounds_toArray, List.set_cons_zero, List.set_cons_succ]
        rfl
      exact norm_ (by first | (simp only [putAll, Act.put, List.setIfInBounds_toArray, List.set_cons_zero, List.set_cons_succ]; done) | (simp only [putAll, Act.put, List.setIfInBounds_toArray, List.set_cons_zero, List.set_cons_succ]; rfl)) (hJ_4_8_9_10_12 (Ns, nc, gL, Aj, cj, gE, gO) _ (HS.out.perm (List.Perm.refl _)))
  · intro s_ w_ hF
    obtain ⟨Ns, nc, gL, Aj, cj, gE, gO⟩ := s_
    have nS : Aside0 (Sx wz7 w_ [(.blk gO #[.bool false, .slice none 0 0, .slice none 0 0] 28), (.blk gE #[] 3), (.blk gL #[.int .i64 z] 3), (.row (.slice Aj (P1.length + 1) cj) (P1 ++ [z])), (.row (.slice Qs Q1.length qc) Q1), (.row (.slice Ps P1.length pc) P1)]) := Aside0.mk hF
    clear HS hF
    have HS := nS
    clear nS
    refine norm_ (a' := ?_) ?_ ?_
    rotate_left
    · simp only [putAll, Act.put, List.setIfInBounds_toArray, List.set_cons_zero, List.set_cons_succ]
      rfl
    refine last_ (i := 13) (N := none) #[true, true, true, true, true, true, true, true, true, true, true, true, true, true] rfl rfl (by kernel_rfl) (by decide) (fun K hK => ?_)
    refine store_named_step (by rfl) 28 (.tmp 14) (.tmp 119) rfl gO #[.bool a, .slice Aj (P1.length + 1) cj, .slice (some ⟨gE, 0, none⟩) 0 0] rfl rfl 28 #[.bool false, .slice none 0 0, .slice none 0 0] (HS.out.blk 0 rfl) (by kernel_rfl) rfl (by simp [Value.oneCell']) ?_
    intro wO hxz hbz
    have nS : Aside0 (Sx wz7 wO [(.blk gO #[.bool a, .slice Aj (P1.length + 1) cj, .slice (some ⟨gE, 0, none⟩) 0 0] 28), (.blk gE #[] 3), (.blk gL #[.int .i64 z] 3), (.row (.slice Aj (P1.length + 1) cj) (P1 ++ [z])), (.row (.slice Qs Q1.length qc) Q1), (.row (.slice Ps P1.length pc) P1)]) := Aside0.mk (HS.out.put 0 rfl hxz hbz)
    clear HS hxz hbz
    have HS := nS
    clear nS
    refine hK.out _ _ ?_
    clear hK K
    refine done_ (by kernel_rfl) ?_
    go_simp
    go_upto_region 25 with fail
    go_cut [129] from 120 to 129 (fun s129 wx => s129 = .bool sw ∧ Aside0 (Sx wz7 wx [(.blk gO #[.bool a, .slice Aj (P1.length + 1) cj, .slice (some ⟨gE, 0, none⟩) 0 0] 28), (.blk gE #[] 3), (.blk gL #[.int .i64 z] 3), (.row (.slice Aj (P1.length + 1) cj) (P1 ++ [z])), (.row (.slice Qs Q1.length qc) Q1), (.row (.slice Ps P1.length pc) P1)]))
    case first =>
      have hsw := HSW.out
      clear HSW
      by_cases hl2 : L2.length = 0
      · by_cases hm2 : 0 < M2.length
        · have g0 : ((L2.length : Int) == 0) = true := beq_iff_eq.mpr (by omega)
          have g1 : (L2.length == 0) = true := beq_iff_eq.mpr hl2
          have g1d : decide (L2.length = 0) = true := decide_eq_true hl2
          have g2 : decide ((M2.length : Int) > 0) = true := decide_eq_true (by omega)
          have g3 : (0 : Int) < (M2.length : Int) := by omega
          have g4 : decide (0 < M2.length) = true := decide_eq_true hm2
          have E91 := Aside0.mk (show sw = true by rw [hsw, decide_eq_true hl2, decide_eq_true hm2]; rfl)
          clear hsw
          clear hl2 hm2
          go_wp2_with (first | ((with_reducible refine wpList_guardedB ?hw ?_); (case hw => first | rfl | (go_simp; done))) | ((with_reducible refine gate_dst (N := 121) rfl ?_); refine ev_load rfl 22 (.tmp 120) rfl ⟨gK, 2, none⟩ rfl (.slice Ad L2.length cd) ((blk_cell (blk_below HKB.out HS.out.below) 2).trans rfl) (by kernel_rfl) ?_) | ((with_reducible refine gate_dst (N := 126) rfl ?_); refine ev_load rfl 22 (.tmp 125) rfl ⟨gB, 2, none⟩ rfl (.slice Bd M2.length dd) ((blk_cell (blk_below HBB.out HS.out.below) 2).trans rfl) (by kernel_rfl) ?_))
          go_meet
          case rel => exact ⟨by first | (rw [E91.out]; done) | (rw [E91.out, g4]), HS⟩
        · have g0 : ((L2.length : Int) == 0) = true := beq_iff_eq.mpr (by omega)
          have g1 : (L2.length == 0) = true := beq_iff_eq.mpr hl2
          have g1d : decide (L2.length = 0) = true := decide_eq_true hl2
          have g2 : decide ((M2.length : Int) > 0) = false := decide_eq_false (by omega)
          have g3 : ¬ (0 : Int) < (M2.length : Int) := by omega
          have g4 : decide (0 < M2.length) = false := decide_eq_false hm2
          have E91 := Aside0.mk (show sw = false by rw [hsw, decide_eq_true hl2, decide_eq_false hm2]; rfl)
          clear hsw
          clear hl2 hm2
          go_wp2_with (first | ((with_reducible refine wpList_guardedB ?hw ?_); (case hw => first | rfl | (go_simp; done))) | ((with_reducible refine gate_dst (N := 121) rfl ?_); refine ev_load rfl 22 (.tmp 120) rfl ⟨gK, 2, none⟩ rfl (.slice Ad L2.length cd) ((blk_cell (blk_below HKB.out HS.out.below) 2).trans rfl) (by kernel_rfl) ?_) | ((with_reducible refine gate_dst (N := 126) rfl ?_); refine ev_load rfl 22 (.tmp 125) rfl ⟨gB, 2, none⟩ rfl (.slice Bd M2.length dd) ((blk_cell (blk_below HBB.out HS.out.below) 2).trans rfl) (by kernel_rfl) ?_))
          go_meet
          case rel => exact ⟨by first | (rw [E91.out]; done) | (rw [E91.out, g4]), HS⟩
      · have g0 : ((L2.length : Int) == 0) = false := beq_eq_false_iff_ne.mpr (by omega)
        have g1 : (L2.length == 0) = false := beq_eq_false_iff_ne.mpr hl2
        have g1d : decide (L2.length = 0) = false := decide_eq_false hl2
        have E91 := Aside0.mk (show sw = false by rw [hsw, decide_eq_false hl2]; rfl)
        clear hsw
        clear hl2
        go_wp2_with (first | ((with_reducible refine wpList_guardedB ?hw ?_); (case hw => first | rfl | (go_simp; done))) | ((with_reducible refine gate_dst (N := 121) rfl ?_); refine ev_load rfl 22 (.tmp 120) rfl ⟨gK, 2, none⟩ rfl (.slice Ad L2.length cd) ((blk_cell (blk_below HKB.out HS.out.below) 2).trans rfl) (by kernel_rfl) ?_) | ((with_reducible refine gate_dst (N := 126) rfl ?_); refine ev_load rfl 22 (.tmp 125) rfl ⟨gB, 2, none⟩ rfl (.slice Bd M2.length dd) ((blk_cell (blk_below HBB.out HS.out.below) 2).trans rfl) (by kernel_rfl) ?_))
        go_meet
        case rel => exact ⟨by first | (rw [E91.out]; done) | (rw [E91.out, g4]), HS⟩
    clear HS
    obtain ⟨e91, HS⟩ := hcut
    subst e91
    go_upto_if 129 with fail
    go_cut [] from 130 to 132 (fun wx => Aside0 (Sx wz7 wx [(.blk gO #[.bool kc, .slice Aj (P1.length + 1) cj, .slice (some ⟨gE, 0, none⟩) 0 0] 28), (.blk gE #[] 3), (.blk gL #[.int .i64 z] 3), (.row (.slice Aj (P1.length + 1) cj) (P1 ++ [z])), (.row (.slice Qs Q1.length qc) Q1), (.row (.slice Ps P1.length pc) P1)]))
    case first =>
      have hkc := HKC.out
      clear HKC HSW
      cases sw
      · replace hkc : kc = a := hkc
        subst kc
        go_wp2
        go_meet
        case rel => exact HS
      · replace hkc : kc = b := hkc
        subst kc
        go_wp2_with (first | ((with_reducible refine gate_dst (N := 131) rfl ?_); refine ev_load rfl 4 (.tmp 130) rfl ⟨gB, 0, none⟩ rfl (.bool b) ((blk_cell (blk_below HBB.out HS.out.below) 0).trans rfl) (by kernel_rfl) ?_) | ((with_reducible refine gate_store rfl ?_); refine ev_store rfl 4 (.tmp 132) (.tmp 131) rfl gO 0 rfl (.bool b) rfl #[.bool a, .slice Aj (P1.length + 1) cj, .slice (some ⟨gE, 0, none⟩) 0 0] 28 (HS.out.blk 0 rfl) (show 0 < 3 from by decide) rfl (by kernel_rfl) ?_; intro wk7 hxk7 hbk7; have nS : Aside0 (Sx wz7 wk7 [(.blk gO #[.bool b, .slice Aj (P1.length + 1) cj, .slice (some ⟨gE, 0, none⟩) 0 0] 28), (.blk gE #[] 3), (.blk gL #[.int .i64 z] 3), (.row (.slice Aj (P1.length + 1) cj) (P1 ++ [z])), (.row (.slice Qs Q1.length qc) Q1), (.row (.slice Ps P1.length pc) P1)]) := Aside0.mk (HS.out.put 0 rfl hxk7 hbk7); clear HS; have HS := nS; clear nS hxk7 hbk7))
        go_meet
        case rel => exact HS
    clear HS
    have HS := hcut
    clear hcut
    go_upto_if 136 with (first | ((with_reducible refine gate_dst (N := 134) rfl ?_); refine ev_load rfl 22 (.tmp 133) rfl ⟨gO, 1, none⟩ rfl (.slice Aj (P1.length + 1) cj) ((blk_cell (HS.out.blk 0 rfl) 1).trans rfl) (by kernel_rfl) ?_) | (go_at_call 72; refine (l3ShapeOk_n k1 (P1.length + 1) Aj cj (P1 ++ [z]) zok _ (HS.out.C 3 rfl) (HS.out.cap 3 rfl) HPZ.out HSH.out).mono ?_; rintro e ws7 ⟨rfl, hd_⟩; have hbs7 := Drawn0.below hd_; clear hd_; have nS : Aside0 (Sx wz7 ws7 [(.blk gO #[.bool kc, .slice Aj (P1.length + 1) cj, .slice (some ⟨gE, 0, none⟩) 0 0] 28), (.blk gE #[] 3), (.blk gL #[.int .i64 z] 3), (.row (.slice Aj (P1.length + 1) cj) (P1 ++ [z])), (.row (.slice Qs Q1.length qc) Q1), (.row (.slice Ps P1.length pc) P1)]) := Aside0.mk (HS.out.step hbs7); clear HS; have HS := nS; clear nS))
    cases zok
    · obtain ⟨e1_, e2_, e3_, e4_⟩ := H7.out (by first | trivial | rfl)
      subst e1_ e2_ e3_ e4_
      clear H7 H0
      go_wp2_with (first | (go_at_call 53; refine (spec_l4None.calls false [] [] _ rfl).mono ?_; rintro e ws8 ⟨v1s8, v2s8, rfl, hr1s8, hr2s8, hbs8⟩; obtain ⟨AS, cS, hv_⟩ := Kd.R_slice hr1s8; subst hv_; obtain ⟨AD, cD, hv_⟩ := Kd.R_slice hr2s8; subst hv_; have nS : Aside0 (Sx wz7 ws8 [(.row (.slice AS ([] : List Int).length cS) []), (.row (.slice AD ([] : List Int).length cD) []), (.blk gO #[.bool kc, .slice Aj (P1.length + 1) cj, .slice (some ⟨gE, 0, none⟩) 0 0] 28), (.blk gE #[] 3), (.blk gL #[.int .i64 z] 3), (.row (.slice Aj (P1.length + 1) cj) (P1 ++ [z])), (.row (.slice Qs Q1.length qc) Q1), (.row (.slice Ps P1.length pc) P1)]) := Aside0.mk (HS.out.addRow2 hbs8 hr1s8 hr2s8); clear HS; have HS := nS; clear nS hbs8 hr1s8 hr2s8) | ((with_reducible refine gate_store rfl ?_); refine store_named rfl 28 (.tmp 4) (.tmp 137) rfl gR #[.bool false, .slice AS ([] : List Int).length cS, .slice AD ([] : List Int).length cD] rfl rfl 28 #[.bool false, .slice none 0 0, .slice none 0 0] (blk_below HRB.out HS.out.below) (by kernel_rfl) rfl (by simp [Value.oneCell']) ?_; intro wF hxF hbF; have HXF := Aside0.mk hxF; have HBF := Aside0.mk hbF; clear hxF hbF))
      have R_ := HS.out.two_but 0 1 (by decide) rfl rfl HBF.out HGL.out w.heap.size HB0.out.size
      refine bodyPost_ret (results_ct rfl _ _ gR 28 #[.bool false, .slice AS ([] : List Int).length cS, .slice AD ([] : List Int).length cD] (0, 0) _ rfl HXF.out Try.underlying28 rfl (by kernel_rfl)) rfl ?_
      exact ⟨_, _, rfl, R_.1, R_.2, (below_step HB0.out HS.out.below).trans (HBF.out.below _ HGR.out)⟩
    · have nS : Aside0 (Sx wz7 _ [(.blk gO #[.bool kc, .slice Aj (P1.length + 1) cj, .slice (some ⟨gE, 0, none⟩) 0 0] 28), (.row (.slice (some ⟨gE, 0, none⟩) 0 0) []), (.blk gL #[.int .i64 z] 3), (.row (.slice Aj (P1.length + 1) cj) (P1 ++ [z])), (.row (.slice Qs Q1.length qc) Q1), (.row (.slice Ps P1.length pc) P1)]) := Aside0.mk (HS.out.rowed 1 (l := []) rfl (by simp))
      clear HS 
      have HS := nS
      clear nS
      go_wp2
      go_loopw [15] (fun zz wr => ∃ (r : Nat) (A : Option Addr) (n c : Nat), zz = .int .i64 (r : Int) ∧ Aside0 (r ≤ N1) ∧ Aside0 ((catRows L2 M2 ma nb r).length = n) ∧ Aside0 (Sx wz7 wr [(.blk gO #[.bool kc, .slice Aj (P1.length + 1) cj, .slice A n c] 28), (.row (.slice A n c) (catRows L2 M2 ma nb r)), (.blk gL #[.int .i64 z] 3), (.row (.slice Aj (P1.length + 1) cj) (P1 ++ [z])), (.row (.slice Qs Q1.length qc) Q1), (.row (.slice Ps P1.length pc) P1)])) (fun zz _ => N1 - (intOf zz).toNat)
      case atStart => exact ⟨0, _, 0, 0, rfl, ⟨Nat.zero_le _⟩, ⟨rfl⟩, HS⟩
      case round =>
        clear HS
        obtain ⟨r, A, n, c, rfl, hr, HN, HS⟩ := hrel
        by_cases hlt : r < N1
        · have HNB := Aside0.mk (rows_n HPA.out HPB.out HL2.out HM2.out hlt HN.out)
          obtain ⟨x0, x1, hx0, hx1, ha1, wa, wb, wc1⟩ := rows_at HPA.out HL2.out hlt
          obtain ⟨y0, y1, hy0, hy1, hb1, va, vb, vc1⟩ := rows_at HPB.out HM2.out hlt
          obtain ⟨r1, hr1⟩ : ∃ q, q = r + 1 := ⟨_, rfl⟩
          rw [← hr1] at wb vb
          have w1 : IntKind.i64.wrap ((r : Int) + 1) = (r1 : Int) := by rw [IntWalk.i64_in _ (by have := HL2.out; have := HNR.out; omega), hr1]; omega
          obtain ⟨A1_, hcu1, HCU1, HYL1⟩ := mid_ Ad cd L2 x0 x1 ma hx1 ha1 KA2.out
          obtain ⟨A2_, hcu2, HCU2, HYL2⟩ := mid_ Bd dd M2 y0 y1 nb hy1 hb1 KB2.out
          replace HCU1 := Aside0.mk HCU1
          replace HCU2 := Aside0.mk HCU2
          replace HYL1 := Aside0.mk HYL1
          replace HYL2 := Aside0.mk HYL2
          have HR1 := Aside0.mk hr1
          have HX0 := Aside0.mk hx0
          have HY0 := Aside0.mk hy0
          clear hx0 hx1 ha1 hy0 hy1 hb1 hr1
          have p1 : (r : Int) < (N1 : Int) := by omega
          go_upto_region 32 with fail
          have nS := Aside0.mk HS.out.drew
          clear HS
          have HS := nS
          clear nS
          refine start_ (n := 16) (S := (fun w' => w'.cell? ⟨gO, 2, none⟩ = some (.slice A n c) ∧ w'.cell? ⟨gK, 2, none⟩ = some (.slice Ad L2.length cd))) (ds := [15]) #[false, false, false, false, false, false, false, false, false, false, false, false, false, false, false, false] (by kernel_rfl) rfl rfl ⟨(blk_cell (HS.out.blk 0 rfl) 2).trans rfl, (blk_cell (blk_below HKB.out HS.out.below) 2).trans rfl⟩ (fun hHeld => ?_)
          refine pure_ (i := 0) (N := (some 143)) (v := ?_) (a' := ?_) #[true, false, false, false, false, false, false, false, false, false, false, false, false, false, false, false] rfl rfl (by kernel_rfl) (fun _ _ _ h => h) (Or.inl ⟨by rfl, ?_⟩) ?_ ?_
          rotate_left
          · intro w'
            go_simp
            with_reducible rfl
          rotate_left
          · simp only [Act.put, List.setIfInBounds_toArray, List.set_cons_zero, List.set_cons_succ]
            rfl
          refine take_ (i := 1) (N := (some 144)) (v := ?_) (a' := ?_) #[true, true, false, false, false, false, false, false, false, false, false, false, false, false, false, false] rfl rfl (by kernel_rfl) (fun _ _ _ h => h) (Or.inl ⟨by rfl, ?_⟩) hHeld ?_ ?_
          rotate_left
          · rintro w' ⟨s0, s1⟩
            go_simp
            with_reducible rfl
          rotate_left
          · simp only [Act.put, List.setIfInBounds_toArray, List.set_cons_zero, List.set_cons_succ]
            rfl
          refine pure_ (i := 2) (N := (some 145)) (v := ?_) (a' := ?_) #[true, true, true, false, false, false, false, false, false, false, false, false, false, false, false, false] rfl rfl (by kernel_rfl) (fun _ _ _ h => h) (Or.inl ⟨by rfl, ?_⟩) ?_ ?_
          rotate_left
          · intro w'
            go_simp
            with_reducible rfl
          rotate_left
          · simp only [Act.put, List.setIfInBounds_toArray, List.set_cons_zero, List.set_cons_succ]
            rfl
          refine take_ (i := 3) (N := (some 146)) (v := ?_) (a' := ?_) #[true, true, true, true, false, false, false, false, false, false, false, false, false, false, false, false] rfl rfl (by kernel_rfl) (fun _ _ _ h => h) (Or.inl ⟨by rfl, ?_⟩) hHeld ?_ ?_
          rotate_left
          · rintro w' ⟨s0, s1⟩
            go_simp
            with_reducible rfl
          rotate_left
          · simp only [Act.put, List.setIfInBounds_toArray, List.set_cons_zero, List.set_cons_succ]
            rfl
          refine pure_ (i := 4) (N := (some 147)) (v := ?_) (a' := ?_) #[true, true, true, true, true, false, false, false, false, false, false, false, false, false, false, false] rfl rfl (by kernel_rfl) (fun _ _ _ h => h) (Or.inl ⟨by rfl, ?_⟩) ?_ ?_
          rotate_left
          · intro w'
            go_simp
            with_reducible rfl
          rotate_left
          · simp only [Act.put, List.setIfInBounds_toArray, List.set_cons_zero, List.set_cons_succ]
            rfl
          refine pure_ (i := 5) (N := (some 148)) (v := ?_) (a' := ?_) #[true, true, true, true, true, true, false, false, false, false, false, false, false, false, false, false] rfl rfl (by kernel_rfl) (fun _ _ _ h => h) (Or.inl ⟨by rfl, ?_⟩) ?_ ?_
          rotate_left
          · intro w'
            go_simp
            with_reducible rfl
          rotate_left
          · simp only [Act.put, List.setIfInBounds_toArray, List.set_cons_zero, List.set_cons_succ]
            rfl
          refine pure_ (i := 6) (N := (some 149)) (v := ?_) (a' := ?_) #[true, true, true, true, true, true, true, false, false, false, false, false, false, false, false, false] rfl rfl (by kernel_rfl) (fun _ _ _ h => h) (Or.inl ⟨by rfl, ?_⟩) ?_ ?_
          rotate_left
          · intro w'
            go_simp
            with_reducible rfl
          rotate_left
          · simp only [Act.put, List.setIfInBounds_toArray, List.set_cons_zero, List.set_cons_succ]
            rfl
          refine pure_ (i := 7) (N := (some 150)) (v := ?_) (a' := ?_) #[true, true, true, true, true, true, true, true, false, false, false, false, false, false, false, false] rfl rfl (by kernel_rfl) (fun _ _ _ h => h) (Or.inl ⟨by rfl, ?_⟩) ?_ ?_
          rotate_left
          · intro w'
            go_simp
            with_reducible rfl
          rotate_left
          · simp only [Act.put, List.setIfInBounds_toArray, List.set_cons_zero, List.set_cons_succ]
            rfl
          refine pure_ (i := 8) (N := (some 151)) (v := ?_) (a' := ?_) #[true, true, true, true, true, true, true, true, true, false, false, false, false, false, false, false] rfl rfl (by kernel_rfl) (fun _ _ _ h => h) (Or.inl ⟨by rfl, ?_⟩) ?_ ?_
          rotate_left
          · intro w'
            go_simp
            with_reducible rfl
          rotate_left
          · simp only [Act.put, List.setIfInBounds_toArray, List.set_cons_zero, List.set_cons_succ]
            rfl
          refine pure_ (i := 9) (N := (some 152)) (v := ?_) (a' := ?_) #[true, true, true, true, true, true, true, true, true, true, false, false, false, false, false, false] rfl rfl (by kernel_rfl) (fun _ _ _ h => h) (Or.inl ⟨by rfl, ?_⟩) ?_ ?_
          rotate_left
          · intro w'
            go_simp
            with_reducible rfl
          rotate_left
          · simp only [Act.put, List.setIfInBounds_toArray, List.set_cons_zero, List.set_cons_succ]
            rfl
          refine pure_ (i := 10) (N := (some 153)) (v := ?_) (a' := ?_) #[true, true, true, true, true, true, true, true, true, true, true, false, false, false, false, false] rfl rfl (by kernel_rfl) (fun _ _ _ h => h) (Or.inl ⟨by rfl, ?_⟩) ?_ ?_
          rotate_left
          · intro w'
            go_simp
            with_reducible rfl
          rotate_left
          · simp only [Act.put, List.setIfInBounds_toArray, List.set_cons_zero, List.set_cons_succ]
            rfl
          refine pure_ (i := 11) (N := (some 154)) (v := ?_) (a' := ?_) #[true, true, true, true, true, true, true, true, true, true, true, true, false, false, false, false] rfl rfl (by kernel_rfl) (fun _ _ _ h => h) (Or.inl ⟨by rfl, ?_⟩) ?_ ?_
          rotate_left
          · intro w'
            go_simp
            with_reducible rfl
          rotate_left
          · simp only [Act.put, List.setIfInBounds_toArray, List.set_cons_zero, List.set_cons_succ]
            rfl
          refine pure_ (i := 12) (N := (some 155)) (v := ?_) (a' := ?_) #[true, true, true, true, true, true, true, true, true, true, true, true, true, false, false, false] rfl rfl (by kernel_rfl) (fun _ _ _ h => h) (Or.inl ⟨by rfl, ?_⟩) ?_ ?_
          rotate_left
          · intro w'
            go_simp
            with_reducible rfl
          rotate_left
          · simp only [Act.put, List.setIfInBounds_toArray, List.set_cons_zero, List.set_cons_succ]
            rfl
          refine one_ (i := 13) (N := (some 156)) #[true, true, true, true, true, true, true, true, true, true, true, true, true, true, false, false] rfl rfl (by kernel_rfl) (by decide) (fun K hK => ?_)
          refine HS.out.appendRows_step 1 rfl n (n + ma) HN.out (by rfl) (.tmp 144) (.tmp 155) rfl Try.underlying22 info3 A1_ ma (cd - x0) ((L2.drop x0).take ma) _ rfl rfl HYL1.out (HCU1.out _ (Kd.C_below CA2.out HS.out.below)) rfl rfl (by have := HNB.out; omega) ?_
          intro Ae ce wJ nJ
          have nS : Aside0 (Sx wz7 wJ [(.blk gO #[.bool kc, .slice Aj (P1.length + 1) cj, .slice A n c] 28), (.row (.slice Ae (n + ma) ce) ((catRows L2 M2 ma nb r) ++ ((L2.drop x0).take ma))), (.blk gL #[.int .i64 z] 3), (.row (.slice Aj (P1.length + 1) cj) (P1 ++ [z])), (.row (.slice Qs Q1.length qc) Q1), (.row (.slice Ps P1.length pc) P1)]) := Aside0.mk nJ
          clear HS nJ
          have HS := nS
          clear nS
          refine hK.out _ _ ⟨(blk_cell (HS.out.blk 0 rfl) 2).trans rfl, (blk_cell (blk_below HKB.out HS.out.below) 2).trans rfl⟩ (fun hHeld => ?_)
          clear hK K
          refine norm_ (a' := ?_) ?_ ?_
          rotate_left
          · show Act.put _ (some 156) _ = _
            simp only [Act.put, List.setIfInBounds_toArray, List.set_cons_zero, List.set_cons_succ]
            rfl
          refine pure_ (i := 14) (N := (some 157)) (v := ?_) (a' := ?_) #[true, true, true, true, true, true, true, true, true, true, true, true, true, true, true, false] rfl rfl (by kernel_rfl) (fun _ _ _ h => h) (Or.inl ⟨by rfl, ?_⟩) ?_ ?_
          rotate_left
          · intro w'
            go_simp
            with_reducible rfl
          rotate_left
          · simp only [Act.put, List.setIfInBounds_toArray, List.set_cons_zero, List.set_cons_succ]
            rfl
          refine last_ (i := 15) (N := none) #[true, true, true, true, true, true, true, true, true, true, true, true, true, true, true, true] rfl rfl (by kernel_rfl) (by decide) (fun K hK => ?_)
          refine store_cell_step (by rfl) 22 (.tmp 157) (.tmp 156) rfl gO 2 rfl (.slice Ae (n + ma) ce) rfl #[.bool kc, .slice Aj (P1.length + 1) cj, .slice A n c] 28 (HS.out.blk 0 rfl) (show 2 < 3 from by decide) rfl (by kernel_rfl) ?_
          intro wz hxz hbz
          have nS : Aside0 (Sx wz7 wz [(.blk gO #[.bool kc, .slice Aj (P1.length + 1) cj, .slice Ae (n + ma) ce] 28), (.row (.slice Ae (n + ma) ce) ((catRows L2 M2 ma nb r) ++ ((L2.drop x0).take ma))), (.blk gL #[.int .i64 z] 3), (.row (.slice Aj (P1.length + 1) cj) (P1 ++ [z])), (.row (.slice Qs Q1.length qc) Q1), (.row (.slice Ps P1.length pc) P1)]) := Aside0.mk (HS.out.put 0 rfl hxz hbz)
          clear HS hxz hbz
          have HS := nS
          clear nS
          refine hK.out _ _ ?_
          clear hK K
          refine done_ (by kernel_rfl) ?_
          go_simp
          go_upto_region 33 with fail
          have nS := Aside0.mk HS.out.drew
          clear HS
          have HS := nS
          clear nS
          refine start_ (n := 16) (S := (fun w' => w'.cell? ⟨gO, 2, none⟩ = some (.slice Ae (n + ma) ce) ∧ w'.cell? ⟨gB, 2, none⟩ = some (.slice Bd M2.length dd))) (ds := [15]) #[false, false, false, false, false, false, false, false, false, false, false, false, false, false, false, false] (by kernel_rfl) rfl rfl ⟨(blk_cell (HS.out.blk 0 rfl) 2).trans rfl, (blk_cell (blk_below HBB.out HS.out.below) 2).trans rfl⟩ (fun hHeld => ?_)
          refine pure_ (i := 0) (N := (some 158)) (v := ?_) (a' := ?_) #[true, false, false, false, false, false, false, false, false, false, false, false, false, false, false, false] rfl rfl (by kernel_rfl) (fun _ _ _ h => h) (Or.inl ⟨by rfl, ?_⟩) ?_ ?_
          rotate_left
          · intro w'
            go_simp
            with_reducible rfl
          rotate_left
          · simp only [Act.put, List.setIfInBounds_toArray, List.set_cons_zero, List.set_cons_succ]
            rfl
          refine take_ (i := 1) (N := (some 159)) (v := ?_) (a' := ?_) #[true, true, false, false, false, false, false, false, false, false, false, false, false, false, false, false] rfl rfl (by kernel_rfl) (fun _ _ _ h => h) (Or.inl ⟨by rfl, ?_⟩) hHeld ?_ ?_
          rotate_left
          · rintro w' ⟨s0, s1⟩
            go_simp
            with_reducible rfl
          rotate_left
          · simp only [Act.put, List.setIfInBounds_toArray, List.set_cons_zero, List.set_cons_succ]
            rfl
          refine pure_ (i := 2) (N := (some 160)) (v := ?_) (a' := ?_) #[true, true, true, false, false, false, false, false, false, false, false, false, false, false, false, false] rfl rfl (by kernel_rfl) (fun _ _ _ h => h) (Or.inl ⟨by rfl, ?_⟩) ?_ ?_
          rotate_left
          · intro w'
            go_simp
            with_reducible rfl
          rotate_left
          · simp only [Act.put, List.setIfInBounds_toArray, List.set_cons_zero, List.set_cons_succ]
            rfl
          refine take_ (i := 3) (N := (some 161)) (v := ?_) (a' := ?_) #[true, true, true, true, false, false, false, false, false, false, false, false, false, false, false, false] rfl rfl (by kernel_rfl) (fun _ _ _ h => h) (Or.inl ⟨by rfl, ?_⟩) hHeld ?_ ?_
          rotate_left
          · rintro w' ⟨s0, s1⟩
            go_simp
            with_reducible rfl
          rotate_left
          · simp only [Act.put, List.setIfInBounds_toArray, List.set_cons_zero, List.set_cons_succ]
            rfl
          refine pure_ (i := 4) (N := (some 162)) (v := ?_) (a' := ?_) #[true, true, true, true, true, false, false, false, false, false, false, false, false, false, false, false] rfl rfl (by kernel_rfl) (fun _ _ _ h => h) (Or.inl ⟨by rfl, ?_⟩) ?_ ?_
          rotate_left
          · intro w'
            go_simp
            with_reducible rfl
          rotate_left
          · simp only [Act.put, List.setIfInBounds_toArray, List.set_cons_zero, List.set_cons_succ]
            rfl
          refine pure_ (i := 5) (N := (some 163)) (v := ?_) (a' := ?_) #[true, true, true, true, true, true, false, false, false, false, false, false, false, false, false, false] rfl rfl (by kernel_rfl) (fun _ _ _ h => h) (Or.inl ⟨by rfl, ?_⟩) ?_ ?_
          rotate_left
          · intro w'
            go_simp
            with_reducible rfl
          rotate_left
          · simp only [Act.put, List.setIfInBounds_toArray, List.set_cons_zero, List.set_cons_succ]
            rfl
          refine pure_ (i := 6) (N := (some 164)) (v := ?_) (a' := ?_) #[true, true, true, true, true, true, true, false, false, false, false, false, false, false, false, false] rfl rfl (by kernel_rfl) (fun _ _ _ h => h) (Or.inl ⟨by rfl, ?_⟩) ?_ ?_
          rotate_left
          · intro w'
            go_simp
            with_reducible rfl
          rotate_left
          · simp only [Act.put, List.setIfInBounds_toArray, List.set_cons_zero, List.set_cons_succ]
            rfl
          refine pure_ (i := 7) (N := (some 165)) (v := ?_) (a' := ?_) #[true, true, true, true, true, true, true, true, false, false, false, false, false, false, false, false] rfl rfl (by kernel_rfl) (fun _ _ _ h => h) (Or.inl ⟨by rfl, ?_⟩) ?_ ?_
          rotate_left
          · intro w'
            go_simp
            with_reducible rfl
          rotate_left
          · simp only [Act.put, List.setIfInBounds_toArray, List.set_cons_zero, List.set_cons_succ]
            rfl
          refine pure_ (i := 8) (N := (some 166)) (v := ?_) (a' := ?_) #[true, true, true, true, true, true, true, true, true, false, false, false, false, false, false, false] rfl rfl (by kernel_rfl) (fun _ _ _ h => h) (Or.inl ⟨by rfl, ?_⟩) ?_ ?_
          rotate_left
          · intro w'
            go_simp
            with_reducible rfl
          rotate_left
          · simp only [Act.put, List.setIfInBounds_toArray, List.set_cons_zero, List.set_cons_succ]
            rfl
          refine pure_ (i := 9) (N := (some 167)) (v := ?_) (a' := ?_) #[true, true, true, true, true, true, true, true, true, true, false, false, false, false, false, false] rfl rfl (by kernel_rfl) (fun _ _ _ h => h) (Or.inl ⟨by rfl, ?_⟩) ?_ ?_
          rotate_left
          · intro w'
            go_simp
            with_reducible rfl
          rotate_left
          · simp only [Act.put, List.setIfInBounds_toArray, List.set_cons_zero, List.set_cons_succ]
            rfl
          refine pure_ (i := 10) (N := (some 168)) (v := ?_) (a' := ?_) #[true, true, true, true, true, true, true, true, true, true, true, false, false, false, false, false] rfl rfl (by kernel_rfl) (fun _ _ _ h => h) (Or.inl ⟨by rfl, ?_⟩) ?_ ?_
          rotate_left
          · intro w'
            go_simp
            with_reducible rfl
          rotate_left
          · simp only [Act.put, List.setIfInBounds_toArray, List.set_cons_zero, List.set_cons_succ]
            rfl
          refine pure_ (i := 11) (N := (some 169)) (v := ?_) (a' := ?_) #[true, true, true, true, true, true, true, true, true, true, true, true, false, false, false, false] rfl rfl (by kernel_rfl) (fun _ _ _ h => h) (Or.inl ⟨by rfl, ?_⟩) ?_ ?_
          rotate_left
          · intro w'
            go_simp
            with_reducible rfl
          rotate_left
          · simp only [Act.put, List.setIfInBounds_toArray, List.set_cons_zero, List.set_cons_succ]
            rfl
          refine pure_ (i := 12) (N := (some 170)) (v := ?_) (a' := ?_) #[true, true, true, true, true, true, true, true, true, true, true, true, true, false, false, false] rfl rfl (by kernel_rfl) (fun _ _ _ h => h) (Or.inl ⟨by rfl, ?_⟩) ?_ ?_
          rotate_left
          · intro w'
            go_simp
            with_reducible rfl
          rotate_left
          · simp only [Act.put, List.setIfInBounds_toArray, List.set_cons_zero, List.set_cons_succ]
            rfl
          refine one_ (i := 13) (N := (some 171)) #[true, true, true, true, true, true, true, true, true, true, true, true, true, true, false, false] rfl rfl (by kernel_rfl) (by decide) (fun K hK => ?_)
          refine HS.out.appendRows_step 1 rfl (n + ma) ((n + ma) + nb) (by rw [List.length_append, HN.out, HYL1.out]) (by rfl) (.tmp 159) (.tmp 170) rfl Try.underlying22 info3 A2_ nb (dd - y0) ((M2.drop y0).take nb) _ rfl rfl HYL2.out (HCU2.out _ (Kd.C_below CB2.out HS.out.below)) rfl rfl (by have := HNB.out; omega) ?_
          intro Af cf wJ nJ
          have nS : Aside0 (Sx wz7 wJ [(.blk gO #[.bool kc, .slice Aj (P1.length + 1) cj, .slice Ae (n + ma) ce] 28), (.row (.slice Af ((n + ma) + nb) cf) (((catRows L2 M2 ma nb r) ++ ((L2.drop x0).take ma)) ++ ((M2.drop y0).take nb))), (.blk gL #[.int .i64 z] 3), (.row (.slice Aj (P1.length + 1) cj) (P1 ++ [z])), (.row (.slice Qs Q1.length qc) Q1), (.row (.slice Ps P1.length pc) P1)]) := Aside0.mk nJ
          clear HS nJ
          have HS := nS
          clear nS
          refine hK.out _ _ ⟨(blk_cell (HS.out.blk 0 rfl) 2).trans rfl, (blk_cell (blk_below HBB.out HS.out.below) 2).trans rfl⟩ (fun hHeld => ?_)
          clear hK K
          refine norm_ (a' := ?_) ?_ ?_
          rotate_left
          · show Act.put _ (some 171) _ = _
            simp only [Act.put, List.setIfInBounds_toArray, List.set_cons_zero, List.set_cons_succ]
            rfl
          refine pure_ (i := 14) (N := (some 172)) (v := ?_) (a' := ?_) #[true, true, true, true, true, true, true, true, true, true, true, true, true, true, true, false] rfl rfl (by kernel_rfl) (fun _ _ _ h => h) (Or.inl ⟨by rfl, ?_⟩) ?_ ?_
          rotate_left
          · intro w'
            go_simp
            with_reducible rfl
          rotate_left
          · simp only [Act.put, List.setIfInBounds_toArray, List.set_cons_zero, List.set_cons_succ]
            rfl
          refine last_ (i := 15) (N := none) #[true, true, true, true, true, true, true, true, true, true, true, true, true, true, true, true] rfl rfl (by kernel_rfl) (by decide) (fun K hK => ?_)
          refine store_cell_step (by rfl) 22 (.tmp 172) (.tmp 171) rfl gO 2 rfl (.slice Af ((n + ma) + nb) cf) rfl #[.bool kc, .slice Aj (P1.length + 1) cj, .slice Ae (n + ma) ce] 28 (HS.out.blk 0 rfl) (show 2 < 3 from by decide) rfl (by kernel_rfl) ?_
          intro wz hxz hbz
          have nS : Aside0 (Sx wz7 wz [(.blk gO #[.bool kc, .slice Aj (P1.length + 1) cj, .slice Af ((n + ma) + nb) cf] 28), (.row (.slice Af ((n + ma) + nb) cf) (((catRows L2 M2 ma nb r) ++ ((L2.drop x0).take ma)) ++ ((M2.drop y0).take nb))), (.blk gL #[.int .i64 z] 3), (.row (.slice Aj (P1.length + 1) cj) (P1 ++ [z])), (.row (.slice Qs Q1.length qc) Q1), (.row (.slice Ps P1.length pc) P1)]) := Aside0.mk (HS.out.put 0 rfl hxz hbz)
          clear HS hxz hbz
          have HS := nS
          clear nS
          refine hK.out _ _ ?_
          clear hK K
          refine done_ (by kernel_rfl) ?_
          go_simp
          go_wp2
          go_roundw
          case rel =>
            refine ⟨r + 1, Af, n + ma + nb, cf, by rw [HR1.out], ⟨by omega⟩, ⟨by rw [catRows, List.length_append, List.length_append, HN.out, ← HX0.out, ← HY0.out, HYL1.out, HYL2.out, Nat.add_assoc]⟩, ⟨?_⟩⟩
            rw [catRows, ← List.append_assoc, ← HX0.out, ← HY0.out]
            exact HS.out
          case measure => simp [intOf, HR1.out]; omega
        · have er : r = N1 := by have := hr.out; omega
          subst er
          obtain ⟨e1_, e2_, e3_, e4_⟩ := H0.out (by first | trivial | rfl)
          subst K_
          subst e2_ e3_ e4_
          clear H7 H0
          have p1 : ¬ (r : Int) < (r : Int) := by omega
          go_wp2_with (first | ((with_reducible refine gate_dst (N := 173) rfl ?_); refine wpList_load_row rfl 28 (.tmp 14) rfl gO rfl 28 #[.bool kc, .slice Aj (P1.length + 1) cj, .slice A n c] (0, 0) _ (HS.out.blk 0 rfl) Try.underlying28 rfl (by kernel_rfl) ?_) | ((with_reducible refine gate_store rfl ?_); refine store_named rfl 28 (.tmp 4) (.tmp 173) rfl gR #[.bool kc, .slice Aj (P1.length + 1) cj, .slice A n c] rfl rfl 28 #[.bool false, .slice none 0 0, .slice none 0 0] (blk_below HRB.out HS.out.below) (by kernel_rfl) rfl (by simp [Value.oneCell']) ?_; intro wF hxF hbF; have HXF := Aside0.mk hxF; have HBF := Aside0.mk hbF; clear hxF hbF))
          have R_ := HS.out.two_but 3 1 (by decide) rfl rfl HBF.out HGL.out w.heap.size HB0.out.size
          refine bodyPost_ret (results_ct rfl _ _ gR 28 #[.bool kc, .slice Aj (P1.length + 1) cj, .slice A n c] (0, 0) _ rfl HXF.out Try.underlying28 rfl (by kernel_rfl)) rfl ?_
          exact ⟨_, _, rfl, R_.1, R_.2, (below_step HB0.out HS.out.below).trans (HBF.out.below _ HGR.out)⟩
end Go.Proofs.Ytehfcnndjhjkoaa.PA

namespace Go.Proofs.Ytehfcnndjhjkoaa.PA
open Go.RowKit Go.Proofs.YtehfcnndjhjkoaaW.PrintWords Go.Proofs.YtehfcnndjhjkoaaW.PrintLast Go.Proofs.YtehfcnndjhjkoaaW.PrintMore
set_option linter.unusedVariables false
set_option linter.unusedSimpArgs false
theorem shGo_pre : ∀ (p : List Int) (f y : Int), shGo f (p ++ [y]) = true → shGo f p = true
  | [], f, y, h => rfl
  | x :: p, f, y, h => by
    simp only [List.cons_append, shGo, Bool.and_eq_true, decide_eq_true_eq] at h ⊢
    refine ⟨h.1, ?_⟩
    have h2 := h.2
    by_cases hx : x = 0
    · rw [if_pos hx] at h2 ⊢; exact shGo_pre p f y h2
    · rw [if_neg hx] at h2 ⊢
      simp only [Bool.and_eq_true, decide_eq_true_eq] at h2 ⊢
      exact ⟨h2.1, shGo_pre p (f * x) y h2.2⟩
theorem shGo_app1 : ∀ (p : List Int) (f : Int), 0 ≤ f → f ≤ 10000 → shGo f p = true → shGo f (p ++ [1]) = true
  | [], f, h0, h1, h => by simp [shGo]; omega
  | x :: p, f, h0, h1, h => by
    simp only [List.cons_append, shGo, Bool.and_eq_true, decide_eq_true_eq] at h ⊢
    refine ⟨h.1, ?_⟩
    have h2 := h.2
    by_cases hx : x = 0
    · rw [if_pos hx] at h2 ⊢; exact shGo_app1 p f h0 h1 h2
    · rw [if_neg hx] at h2 ⊢
      simp only [Bool.and_eq_true, decide_eq_true_eq] at h2 ⊢
      exact ⟨h2.1, shGo_app1 p (f * x) (Int.mul_nonneg h0 h.1.1) h2.1 h2.2⟩
theorem catL_sh {l1 m1 : List Int} (h : shOk l1 = true) (k : shOk m1 = true) : shOk (catL1 l1 m1) = true ∧ (catL1 l1 m1).length ≠ 0 := by
  unfold catL1
  split
  · refine ⟨?_, by simp⟩
    by_cases hy : m1.length = 0
    · have e1 : m1 = [] := List.length_eq_zero_iff.1 hy
      subst e1; decide
    · exact shOk_one k hy
  · split
    · rename_i h0 h1
      have h5 := shOk_len k
      simp only [shOk, Bool.and_eq_true, decide_eq_true_eq] at h ⊢
      exact ⟨⟨by simp; omega, shGo_app1 _ _ (by omega) (by omega) h.2⟩, by simp⟩
    · rename_i h0 h1
      exact ⟨h, h0⟩
/-- A shape's last number and what stands before it. -/
theorem sh_last {L : List Int} (h : shOk L = true) (h0 : L.length ≠ 0) : ∃ (P : List Int) (m N : Nat), L = P ++ [(m : Int)] ∧ L.dropLast = P ∧ lastOf L = (m : Int) ∧ shOk P = true ∧ prod P = (N : Int) ∧ N ≤ 10000 ∧ m ≤ 10000 ∧ P.length ≤ 5 ∧ prod L = ((N * m : Nat) : Int) := by
  have hne : L ≠ [] := by intro e; subst e; simp at h0
  obtain ⟨P, y, rfl⟩ : ∃ p y, L = p ++ [y] := ⟨L.dropLast, L.getLast hne, (List.dropLast_concat_getLast hne).symm⟩
  have hr := shOk_range h y (by simp)
  have h5 := shOk_len h
  have hP : shOk P = true := by
    simp only [shOk, Bool.and_eq_true, decide_eq_true_eq] at h ⊢
    refine ⟨by have := h.1; simp at this; omega, shGo_pre P 1 y h.2⟩
  have hp := shOk_prod hP
  refine ⟨P, y.toNat, (prod P).toNat, by rw [Int.toNat_of_nonneg hr.1], by simp, ?_, hP, by omega, by omega, by omega, by simp at h5; omega, ?_⟩
  · simp only [lastOf, List.length_append, List.length_singleton]
    rw [show ((P.length + 1 : Nat) : Int) - 1 = (P.length : Int) by omega, rd_mid P [] y]; omega
  · rw [prod_app1, Int.natCast_mul, Int.toNat_of_nonneg hp.1, Int.toNat_of_nonneg hr.1]
theorem catL1_len (l1 m1 : List Int) : (catL1 l1 m1).length = if l1.length = 0 then m1.length - 1 + 1 else if l1.length + 1 = m1.length then l1.length + 1 else l1.length := by
  unfold catL1
  split
  · simp
  · split
    · simp
    · rfl
theorem cat_ranks {l1 m1 : List Int} (h : (catL1 l1 m1).length = (catL1 m1 l1).length) : l1.length = 0 ∨ m1.length = 0 ∨ l1.length + 1 = m1.length ∨ m1.length + 1 = l1.length ∨ l1.length = m1.length := by
  rw [catL1_len, catL1_len] at h
  by_cases h1 : l1.length = 0
  · omega
  · by_cases h2 : m1.length = 0
    · omega
    · by_cases h3 : l1.length + 1 = m1.length
      · omega
      · by_cases h4 : m1.length + 1 = l1.length
        · omega
        · rw [if_neg h1, if_neg h3, if_neg h2, if_neg h4] at h; omega
theorem cat_ranks' {l1 m1 : List Int} (h : ¬ (catL1 l1 m1).length = (catL1 m1 l1).length) : l1.length ≠ 0 ∧ m1.length ≠ 0 ∧ l1.length + 1 ≠ m1.length ∧ m1.length + 1 ≠ l1.length ∧ l1.length ≠ m1.length := by
  rw [catL1_len, catL1_len] at h
  refine ⟨fun e => h ?_, fun e => h ?_, fun e => h ?_, fun e => h ?_, fun e => h ?_⟩ <;> (repeat' split) <;> omega
theorem cat_both {a : Bool} {l1 l2 m1 : List Int} (oa : arrOk a l1 l2 = true) (h : l1.length = 0) (k : m1.length = 0) : catL1 l1 m1 = l1 ++ [1] ∧ catL2 l1 l2 m1 = l2 := by
  have pa := arrOk_prod oa
  have e1 : l1 = [] := List.length_eq_zero_iff.1 h
  have e2 : m1 = [] := List.length_eq_zero_iff.1 k
  subst e1 e2
  obtain ⟨x, rfl⟩ := List.length_eq_one_iff.1 (show l2.length = 1 by simp [prod] at pa; omega)
  constructor
  · rfl
  · simp [catL2, prod, rd]
theorem cat_one {a : Bool} {l1 l2 : List Int} (oa : arrOk a l1 l2 = true) (h : l1.length = 0) : l2.length = 1 := by
  have pa := arrOk_prod oa
  have e1 : l1 = [] := List.length_eq_zero_iff.1 h
  subst e1
  simp [prod] at pa; omega
theorem catRows_le (A B : List Int) (m n N : Nat) (hA : N * m = A.length) (hB : N * n = B.length) : (catRows A B m n N).length = A.length + B.length := by
  rw [catRows_len A B m n N (by omega) (by omega) N (Nat.le_refl _), Nat.mul_add, hA, hB]
theorem catV_len (a : Bool) (l1 l2 : List Int) (b : Bool) (m1 m2 : List Int) : (catV a l1 l2 b m1 m2).2.1.length ≤ 10000 ∧ (catV a l1 l2 b m1 m2).2.2.1.length ≤ 10000 := by
  unfold catV noArr
  split
  · rename_i h
    simp only [Bool.and_eq_true] at h
    split
    · rename_i hr
      split
      · rename_i hd
        split
        · simp
        · split
          · rename_i hz
            have s1 := catL_sh (arrOk_sh h.1) (arrOk_sh h.2)
            have s2 := catL_sh (arrOk_sh h.2) (arrOk_sh h.1)
            obtain ⟨P, m, N, e1, e2, e3, e4, e5, e6, e7, e8, e9⟩ := sh_last s1.1 s1.2
            obtain ⟨Q, n, K, f1, f2, f3, f4, f5, f6, f7, f8, f9⟩ := sh_last s2.1 s2.2
            have c1 := catL_prod h.1 h.2
            have c2 := catL_prod h.2 h.1
            rw [e9] at c1
            rw [f9] at c2
            have hPQ : P = Q := by rw [← e2, ← f2]; exact hd
            subst hPQ
            have hNK : N = K := by omega
            subst hNK
            have hp := shOk_prod hz
            rw [e2, prod_app1, e3, f3, e5] at hp
            have c1' : N * m = (catL2 l1 l2 m1).length := by omega
            have c2' : N * n = (catL2 m1 m2 l1).length := by omega
            have hm : ((N : Int)) * ((m : Int) + (n : Int)) = ((N * m + N * n : Nat) : Int) := by rw [← Nat.mul_add]; push_cast; rfl
            rw [hm] at hp
            refine ⟨by simp only [e2, List.length_append, List.length_singleton]; omega, ?_⟩
            simp only [e2, e3, f3, e5, Int.toNat_natCast]
            rw [catRows_le _ _ _ _ _ c1' c2']
            omega
          · simp
      · simp
    · simp
  · simp
end Go.Proofs.Ytehfcnndjhjkoaa.PA

namespace Go.Proofs.Ytehfcnndjhjkoaa.PA
open Go.RowKit Go.Proofs.YtehfcnndjhjkoaaW.PrintWords Go.Proofs.YtehfcnndjhjkoaaW.PrintLast Go.Proofs.YtehfcnndjhjkoaaW.PrintMore
set_option linter.unusedVariables false
set_option linter.unusedSimpArgs false

def impl_Catenate.f (a : Bool) (l1 l2 : List Int) (b : Bool) (m1 m2 : List Int) : Option ArrAns := if okLens l1 l2 m1 m2 then some (catV a l1 l2 b m1 m2) else none
theorem shapeOk_parts {k : Nat} {l : List Int} (h : impl_shapeOk.f k l = some (shSize l)) : impl_shapeOk.f k l = some ((shSize l).1, shOk l) := by
  rw [h]; unfold shSize; split
  · rename_i h1; rw [h1]
  · rename_i h1; simp [h1]
theorem impl_Catenate.calls (a : Bool) (Aa1 : Option Addr) (ca1 : Nat) (la1 : List Int) (Aa2 : Option Addr) (ca2 : Nat) (la2 : List Int) (b : Bool) (Ab1 : Option Addr) (cb1 : Nat) (lb1 : List Int) (Ab2 : Option Addr) (cb2 : Nat) (lb2 : List Int) (r1 : Bool) (r2 r3 : List Int) (r4 : Int) (w : World) (ha1 : Kd.C (Kd.int .i64) w Aa1 la1.length la1) (ka1 : la1.length ≤ ca1) (ha2 : Kd.C (Kd.int .i64) w Aa2 la2.length la2) (ka2 : la2.length ≤ ca2) (hb1 : Kd.C (Kd.int .i64) w Ab1 lb1.length lb1) (kb1 : lb1.length ≤ cb1) (hb2 : Kd.C (Kd.int .i64) w Ab2 lb2.length lb2) (kb2 : lb2.length ≤ cb2) (h : impl_Catenate.f a la1 la2 b lb1 lb2 = some (r1, r2, r3, r4)) :
    Calls Try.prog 38 #[.agg #[.bool a, .slice Aa1 la1.length ca1, .slice Aa2 la2.length ca2], .agg #[.bool b, .slice Ab1 lb1.length cb1, .slice Ab2 lb2.length cb2]] w fun e w' => ∃ v1_ v2_ : Value, e = .returned (.tuple #[.agg #[.bool r1, v1_, v2_], .int .i64 r4]) ∧ Kd.R (Kd.int .i64) 3 w' w.heap.size (fun k_ => some k_ ≠ (v2_ : Value).ownBlock) v1_ r2 ∧ Kd.R (Kd.int .i64) 3 w' w.heap.size (fun k_ => some k_ ≠ (v1_ : Value).ownBlock) v2_ r3 ∧ Below w.heap.size w w' := by
  unfold impl_Catenate.f at h
  split at h
  · rename_i hl
    have h := Option.some.inj h
    simp only [okLens, Bool.and_eq_true, decide_eq_true_eq] at hl
    obtain ⟨k0, hk0⟩ := (valid_ev2 a la1 la2 b lb1 lb2 (by omega) (by omega)).rounds
    unfold catV at h
    by_cases hv : (arrOk a la1 la2 && arrOk b lb1 lb2) = true
    · rw [if_pos hv] at hk0 h
      simp only [Bool.and_eq_true] at hv
      have oa := hv.1
      have ob := hv.2
      have hA := besOk a Aa1 ca1 la1 Aa2 ca2 la2 b Ab1 cb1 lb1 Ab2 cb2 lb2 w ha1 ka1 ha2 ka2 hb1 kb1 hb2 kb2 oa ob
      have hB := besOk b Ab1 cb1 lb1 Ab2 cb2 lb2 a Aa1 ca1 la1 Aa2 ca2 la2 w hb1 kb1 hb2 kb2 ha1 ka1 ha2 ka2 ob oa
      have s1 := catL_sh (arrOk_sh oa) (arrOk_sh ob)
      have s2 := catL_sh (arrOk_sh ob) (arrOk_sh oa)
      have c1 := catL_prod oa ob
      have c2 := catL_prod ob oa
      have q1 := shOk_prod s1.1
      have q2 := shOk_prod s2.1
      have n1 := shOk_len s1.1
      have n2 := shOk_len s2.1
      generalize catL1 la1 lb1 = L1 at *
      generalize catL1 lb1 la1 = M1 at *
      generalize catL2 la1 la2 lb1 = L2 at *
      generalize catL2 lb1 lb2 la1 = M2 at *
      by_cases hr : L1.length = M1.length
      · rw [if_pos hr] at h
        have hwa := without_eq a L1 L2 s1.2 n1
        have hwb := without_eq b M1 M2 s2.2 n2
        obtain ⟨k2, hk2⟩ := (slEqual_ev L1.dropLast M1.dropLast (by simp; omega)).rounds
        by_cases hd : L1.dropLast = M1.dropLast
        · rw [if_pos hd] at h
          rw [decide_eq_true hd] at hk2
          by_cases hc : a ≠ b ∧ 0 < L2.length ∧ 0 < M2.length
          · rw [if_pos hc] at h
            cases h
            exact cat_char k0 a Aa1 ca1 la1 Aa2 ca2 la2 b Ab1 cb1 lb1 Ab2 cb2 lb2 w ha1 ka1 ha2 ka2 hb1 kb1 hb2 kb2 hk0 L1 L2 M1 M2 hA hB hr _ _ hwa hwb k2 hk2 hc.1 hc.2.1 hc.2.2
          · rw [if_neg hc] at h
            obtain ⟨P, m, N, e1, e2, e3, e4, e5, e6, e7, e8, e9⟩ := sh_last s1.1 s1.2
            obtain ⟨Q, n, K, f1, f2, f3, f4, f5, f6, f7, f8, f9⟩ := sh_last s2.1 s2.2
            have hPQ : P = Q := by rw [← e2, ← f2]; exact hd
            subst hPQ
            have hNK : N = K := by omega
            subst hNK
            rw [e9] at c1
            rw [f9] at c2
            rw [e2, e3, f3, e5] at h
            rw [e2] at hwa hk2
            rw [f2] at hwb hk2
            obtain ⟨k1, hk1⟩ := (shapeOk_ev (P ++ [(m : Int) + (n : Int)])).rounds
            obtain ⟨k3, hk3⟩ := (shapeOk_ev P).rounds
            rw [shSize, if_pos e4, e5] at hk3
            have hm : rd L1 (P.length : Int) = (m : Int) := by rw [e1]; exact rd_mid P [] _
            have hn : rd M1 (P.length : Int) = (n : Int) := by rw [f1]; exact rd_mid P [] _
            have ln1 : L1.length = P.length + 1 := by rw [e1]; simp
            have ln2 : M1.length = P.length + 1 := by rw [f1]; simp
            exact cat_on k0 a Aa1 ca1 la1 Aa2 ca2 la2 b Ab1 cb1 lb1 Ab2 cb2 lb2 w ha1 ka1 ha2 ka2 hb1 kb1 hb2 kb2 hk0 L1 L2 M1 M2 hA hB hr P P hwa hwb k2 hk2
              (by
                by_cases hab : a = b
                · exact .inl hab
                · by_cases h0 : L2.length = 0
                  · exact .inr (.inl ⟨hab, h0⟩)
                  · refine .inr (.inr ⟨hab, by omega, ?_⟩)
                    by_cases h1 : M2.length = 0
                    · exact h1
                    · exact absurd ⟨hab, by omega, by omega⟩ hc)
              P.length (by omega) m n hm hn _ (IntWalk.i64_in _ (by omega)) ln1 ln2 n1 n2 _ rfl _ rfl k1 _ _ (shapeOk_parts hk1) k3 N hk3 e6 (by omega) (by omega) (by omega) (by omega) r1 r2 r3 r4
              (fun hz => by
                rw [if_neg (by rw [hz]; decide)] at h
                simp only [noArr, Prod.mk.injEq] at h
                obtain ⟨rfl, rfl, rfl, rfl⟩ := h
                exact ⟨rfl, rfl, rfl, rfl⟩)
              (fun hz => by
                rw [if_pos hz] at h
                simp only [Prod.mk.injEq, Int.toNat_natCast] at h
                obtain ⟨h1, rfl, rfl, rfl⟩ := h
                refine ⟨?_, rfl, rfl, rfl⟩
                rw [← h1]
                by_cases g1 : L2.length = 0 <;> by_cases g2 : 0 < M2.length <;> simp [g1, g2])
        · rw [if_neg hd] at h
          rw [decide_eq_false hd] at hk2
          cases h
          exact cat_len k0 a Aa1 ca1 la1 Aa2 ca2 la2 b Ab1 cb1 lb1 Ab2 cb2 lb2 w ha1 ka1 ha2 ka2 hb1 kb1 hb2 kb2 hk0 L1 L2 M1 M2 hA hB hr _ _ hwa hwb k2 hk2
      · rw [if_neg hr] at h
        cases h
        exact cat_rank k0 a Aa1 ca1 la1 Aa2 ca2 la2 b Ab1 cb1 lb1 Ab2 cb2 lb2 w ha1 ka1 ha2 ka2 hb1 kb1 hb2 kb2 hk0 L1 L2 M1 M2 hA hB hr
    · rw [if_neg hv] at hk0 h
      cases h
      exact cat_no k0 a Aa1 ca1 la1 Aa2 ca2 la2 b Ab1 cb1 lb1 Ab2 cb2 lb2 w ha1 ka1 ha2 ka2 hb1 kb1 hb2 kb2 3 hk0 (by decide)
  · cases h

def spec_Catenate.f (k : Nat) (a : Bool) (l1 l2 : List Int) (b : Bool) (m1 m2 : List Int) : Option ArrAns := if okLens l1 l2 m1 m2 then some (catV a l1 l2 b m1 m2) else none
theorem specCatenate_ev (a : Bool) (l1 l2 : List Int) (b : Bool) (m1 m2 : List Int) (h1 : l1.length ≤ 35184372088832) (h2 : l2.length ≤ 35184372088832) (h3 : m1.length ≤ 35184372088832) (h4 : m2.length ≤ 35184372088832) : Ev (fun k => spec_Catenate.f k a l1 l2 b m1 m2) (catV a l1 l2 b m1 m2) := by
  simp only [spec_Catenate.f, if_pos (okLens_of h1 h2 h3 h4)]
  exact Ev.now _
theorem spec_Catenate.calls (k : Nat) (a : Bool) (Aa1 : Option Addr) (ca1 : Nat) (la1 : List Int) (Aa2 : Option Addr) (ca2 : Nat) (la2 : List Int) (b : Bool) (Ab1 : Option Addr) (cb1 : Nat) (lb1 : List Int) (Ab2 : Option Addr) (cb2 : Nat) (lb2 : List Int) (r1 : Bool) (r2 r3 : List Int) (r4 : Int) (w : World) (ha1 : Kd.C (Kd.int .i64) w Aa1 la1.length la1) (ka1 : la1.length ≤ ca1) (ha2 : Kd.C (Kd.int .i64) w Aa2 la2.length la2) (ka2 : la2.length ≤ ca2) (hb1 : Kd.C (Kd.int .i64) w Ab1 lb1.length lb1) (kb1 : lb1.length ≤ cb1) (hb2 : Kd.C (Kd.int .i64) w Ab2 lb2.length lb2) (kb2 : lb2.length ≤ cb2) (h : spec_Catenate.f k a la1 la2 b lb1 lb2 = some (r1, r2, r3, r4)) :
    Calls Try.prog 37 #[.agg #[.bool a, .slice Aa1 la1.length ca1, .slice Aa2 la2.length ca2], .agg #[.bool b, .slice Ab1 lb1.length cb1, .slice Ab2 lb2.length cb2]] w fun e w' => ∃ v1_ v2_ : Value, e = .returned (.tuple #[.agg #[.bool r1, v1_, v2_], .int .i64 r4]) ∧ Kd.R (Kd.int .i64) 3 w' w.heap.size (fun k_ => some k_ ≠ (v2_ : Value).ownBlock) v1_ r2 ∧ Kd.R (Kd.int .i64) 3 w' w.heap.size (fun k_ => some k_ ≠ (v1_ : Value).ownBlock) v2_ r3 ∧ Below w.heap.size w w' := by
  unfold spec_Catenate.f at h
  split at h
  · rename_i hl
    have h := Option.some.inj h
    simp only [okLens, Bool.and_eq_true, decide_eq_true_eq] at hl
    obtain ⟨ka, hka⟩ := (specArrayOk_ev a la1 la2 (by omega) (by omega)).rounds
    obtain ⟨kb, hkb⟩ := (specArrayOk_ev b lb1 lb2 (by omega) (by omega)).rounds
    unfold catV at h
    cases oa : arrOk a la1 la2 with
    | false =>
      rw [oa] at hka
      rw [oa, if_neg (by simp)] at h
      cases h
      exact scat_no1 a Aa1 ca1 la1 Aa2 ca2 la2 b Ab1 cb1 lb1 Ab2 cb2 lb2 w ha1 ka1 ha2 ka2 hb1 kb1 hb2 kb2 ka hka
    | true =>
      rw [oa] at hka
      cases ob : arrOk b lb1 lb2 with
      | false =>
        rw [ob] at hkb
        rw [oa, ob, if_neg (by simp)] at h
        cases h
        exact scat_no2 a Aa1 ca1 la1 Aa2 ca2 la2 b Ab1 cb1 lb1 Ab2 cb2 lb2 w ha1 ka1 ha2 ka2 hb1 kb1 hb2 kb2 ka hka kb hkb
      | true =>
        rw [ob] at hkb
        rw [oa, ob, if_pos (by rfl)] at h
        have a5 := (arrOk_len oa).1
        have b5 := (arrOk_len ob).1
        have s1 := catL_sh (arrOk_sh oa) (arrOk_sh ob)
        have s2 := catL_sh (arrOk_sh ob) (arrOk_sh oa)
        have c1 := catL_prod oa ob
        have c2 := catL_prod ob oa
        have q1 := shOk_prod s1.1
        have q2 := shOk_prod s2.1
        have n1 := shOk_len s1.1
        have n2 := shOk_len s2.1
        have hd1 : la1.length = 0 → lb1.length = 0 → catL1 la1 lb1 = la1 ++ [1] ∧ catL2 la1 la2 lb1 = la2 ∧ catL1 lb1 la1 = lb1 ++ [1] ∧ catL2 lb1 lb2 la1 = lb2 := fun y1 y2 => ⟨(cat_both oa y1 y2).1, (cat_both oa y1 y2).2, (cat_both ob y2 y1).1, (cat_both ob y2 y1).2⟩
        have hba := fun (y1 : la1.length = 0) (y2 : lb1.length ≠ 0) => sbesOk a Aa1 ca1 la1 Aa2 ca2 la2 b Ab1 cb1 lb1 Ab2 cb2 lb2 w ha1 ka1 ha2 ka2 hb1 kb1 hb2 kb2 (cat_one oa y1) y2 (arrOk_sh ob)
        have hbb := fun (y1 : lb1.length = 0) (y2 : la1.length ≠ 0) => sbesOk b Ab1 cb1 lb1 Ab2 cb2 lb2 a Aa1 ca1 la1 Aa2 ca2 la2 w hb1 kb1 hb2 kb2 ha1 ka1 ha2 ka2 (cat_one ob y1) y2 (arrOk_sh oa)
        by_cases hr : (catL1 la1 lb1).length = (catL1 lb1 la1).length
        · rw [if_pos hr] at h
          have hr4 := cat_ranks hr
          generalize eL1 : catL1 la1 lb1 = L1 at *
          generalize eM1 : catL1 lb1 la1 = M1 at *
          generalize eL2 : catL2 la1 la2 lb1 = L2 at *
          generalize eM2 : catL2 lb1 lb2 la1 = M2 at *
          have hwa := l4Without_eq L1 s1.2 n1
          have hwb := l4Without_eq M1 s2.2 n2
          obtain ⟨k2, hk2⟩ := (l3Same_ev L1.dropLast M1.dropLast (by simp; omega)).rounds
          by_cases hd : L1.dropLast = M1.dropLast
          · rw [if_pos hd] at h
            rw [decide_eq_true hd] at hk2
            by_cases hc : a ≠ b ∧ 0 < L2.length ∧ 0 < M2.length
            · rw [if_pos hc] at h
              cases h
              exact scat_char a Aa1 ca1 la1 Aa2 ca2 la2 b Ab1 cb1 lb1 Ab2 cb2 lb2 w ha1 ka1 ha2 ka2 hb1 kb1 hb2 kb2 ka hka kb hkb a5 b5 L1 L2 M1 M2 eL1.symm eL2.symm eM1.symm eM2.symm _ rfl (by rw [eL1, eL2, eM1, eM2]; exact hd1) hba hbb hr4 _ _ hwa hwb k2 hk2 hc.1 hc.2.1 hc.2.2
            · rw [if_neg hc] at h
              obtain ⟨P, m, N, e1, e2, e3, e4, e5, e6, e7, e8, e9⟩ := sh_last s1.1 s1.2
              obtain ⟨Q, n, K, f1, f2, f3, f4, f5, f6, f7, f8, f9⟩ := sh_last s2.1 s2.2
              have hPQ : P = Q := by rw [← e2, ← f2]; exact hd
              subst hPQ
              have hNK : N = K := by omega
              subst hNK
              rw [e9] at c1
              rw [f9] at c2
              rw [e2, e3, f3, e5] at h
              rw [e2] at hwa hk2
              rw [f2] at hwb hk2
              obtain ⟨k1, hk1⟩ := (l3ShapeOk_ev (P ++ [(m : Int) + (n : Int)]) (by simp; omega)).rounds
              obtain ⟨kA, hkA⟩ := (l4Axis_last P m (e1 ▸ s1.1)).rounds
              obtain ⟨kB, hkB⟩ := (l4Axis_last P n (f1 ▸ s2.1)).rounds
              rw [← e1, e5] at hkA
              rw [← f1, e5] at hkB
              exact scat_on a Aa1 ca1 la1 Aa2 ca2 la2 b Ab1 cb1 lb1 Ab2 cb2 lb2 w ha1 ka1 ha2 ka2 hb1 kb1 hb2 kb2 ka hka kb hkb a5 b5 L1 L2 M1 M2 eL1.symm eL2.symm eM1.symm eM2.symm _ rfl (by rw [eL1, eL2, eM1, eM2]; exact hd1) hba hbb hr4 P P hwa hwb k2 hk2
                (by
                  by_cases hab : a = b
                  · exact .inl hab
                  · by_cases h0 : L2.length = 0
                    · exact .inr (.inl ⟨hab, h0⟩)
                    · refine .inr (.inr ⟨hab, by omega, ?_⟩)
                      by_cases h1 : M2.length = 0
                      · exact h1
                      · exact absurd ⟨hab, by omega, by omega⟩ hc)
                (by omega) m n _ (IntWalk.i64_in _ (by omega)) _ rfl _ rfl k1 _ hk1 kA kB N hkA hkB e6 (by omega) (by omega) (by omega) (by omega) r1 r2 r3 r4
                (fun hz => by
                  rw [if_neg (by rw [hz]; decide)] at h
                  simp only [noArr, Prod.mk.injEq] at h
                  obtain ⟨rfl, rfl, rfl, rfl⟩ := h
                  exact ⟨rfl, rfl, rfl, rfl⟩)
                (fun hz => by
                  rw [if_pos hz] at h
                  simp only [Prod.mk.injEq, Int.toNat_natCast] at h
                  obtain ⟨h1, rfl, rfl, rfl⟩ := h
                  refine ⟨?_, rfl, rfl, rfl⟩
                  rw [← h1]
                  by_cases g1 : L2.length = 0 <;> by_cases g2 : 0 < M2.length <;> simp [g1, g2])
          · rw [if_neg hd] at h
            rw [decide_eq_false hd] at hk2
            cases h
            exact scat_len a Aa1 ca1 la1 Aa2 ca2 la2 b Ab1 cb1 lb1 Ab2 cb2 lb2 w ha1 ka1 ha2 ka2 hb1 kb1 hb2 kb2 ka hka kb hkb a5 b5 L1 L2 M1 M2 eL1.symm eL2.symm eM1.symm eM2.symm _ rfl (by rw [eL1, eL2, eM1, eM2]; exact hd1) hba hbb hr4 _ _ hwa hwb k2 hk2
        · rw [if_neg hr] at h
          cases h
          obtain ⟨h1, h2, h3, h4, h5⟩ := cat_ranks' hr
          exact scat_rank a Aa1 ca1 la1 Aa2 ca2 la2 b Ab1 cb1 lb1 Ab2 cb2 lb2 w ha1 ka1 ha2 ka2 hb1 kb1 hb2 kb2 ka hka kb hkb a5 b5 h1 h2 h3 h4 h5
  · cases h
end Go.Proofs.Ytehfcnndjhjkoaa.PA

namespace Go.Proofs.Ytehfcnndjhjkoaa.PA
open Go.RowKit Go.Proofs.YtehfcnndjhjkoaaW.PrintWords Go.Proofs.YtehfcnndjhjkoaaW.PrintLast Go.Proofs.YtehfcnndjhjkoaaW.PrintMore
set_option linter.unusedVariables false
set_option linter.unusedSimpArgs false
/-- A pair of rows of numbers, made between two sizes of the heap. -/
structure PrD where
  lo : Nat
  hi : Nat
  v1 : Value
  v2 : Value
  l1 : List Int
  l2 : List Int
def Pr (W : World) (d : PrD) : Prop := Kd.R (Kd.int .i64) 3 W d.lo (fun k => k < d.hi ∧ some k ≠ d.v2.ownBlock) d.v1 d.l1 ∧ Kd.R (Kd.int .i64) 3 W d.lo (fun k => k < d.hi ∧ some k ≠ d.v1.ownBlock) d.v2 d.l2
abbrev Bk := Nat × Array Value × TypeId
structure St (w W : World) (bl : List Bk) (ps : List PrD) : Prop where
  below : Below w.heap.size w W
  blk : ∀ p ∈ bl, W.heap[p.1]? = some (.cells p.2.1 p.2.2 (0, 0)) ∧ w.heap.size ≤ p.1 ∧ p.2.2 ≠ 3
  nod : bl.Pairwise (fun p q => p.1 ≠ q.1)
  pr : ∀ d ∈ ps, Pr W d ∧ w.heap.size ≤ d.lo ∧ d.hi ≤ W.heap.size
  far : ps.Pairwise (fun d e => e.hi ≤ d.lo)
theorem St.start (w : World) : St w w [] [] := ⟨Below.refl _ _, (fun _ h => nomatch h), .nil, (fun _ h => nomatch h), .nil⟩
theorem Pr.step {W W' : World} {d : PrD} (h : Pr W d) (hb : Below W.heap.size W W') : Pr W' d := ⟨Kd.R_below h.1 hb, Kd.R_below h.2 hb⟩
theorem St.step {w W W' : World} {bl : List Bk} {ps : List PrD} (h : St w W bl ps) (hb : Below W.heap.size W W') : St w W' bl ps :=
  ⟨below_step h.below hb, fun p hp => ⟨blk_below (h.blk p hp).1 hb, (h.blk p hp).2⟩, h.nod, fun d hd => ⟨(h.pr d hd).1.step hb, (h.pr d hd).2.1, Nat.le_trans (h.pr d hd).2.2 hb.size⟩, h.far⟩
theorem St.at {w W : World} {bl : List Bk} {ps : List PrD} (h : St w W bl ps) {g : Nat} {cs : Array Value} {t : TypeId} (hm : (g, cs, t) ∈ bl) : W.heap[g]? = some (.cells cs t (0, 0)) := (h.blk _ hm).1
theorem St.box {w W W' : World} {bl : List Bk} {ps : List PrD} (h : St w W bl ps) {g : Nat} {cs : Array Value} {t : TypeId} (hg : g = W.heap.size) (hB : W'.heap[g]? = some (.cells cs t (0, 0))) (hb : Below W.heap.size W W') (ht : t ≠ 3) : St w W' ((g, cs, t) :: bl) ps := by
  have h' := h.step hb
  refine ⟨h'.below, fun p hp => ?_, .cons (fun p hp e => ?_) h.nod, h'.pr, h.far⟩
  · rcases List.mem_cons.1 hp with rfl | hp
    · exact ⟨hB, hg ▸ h.below.size, ht⟩
    · exact h'.blk p hp
  · have := blk_lt (h.blk p hp).1
    simp only at e; omega
theorem St.alloc {w W : World} {bl : List Bk} {ps : List PrD} (h : St w W bl ps) (cs : Array Value) (t : TypeId) (ht : t ≠ 3) : St w (W.alloc (.cells cs t)) ((W.heap.size, cs, t) :: bl) ps := h.box rfl (blk_new W _) (below_alloc (Below.refl _ _) _) ht
theorem St.drew {w W : World} {bl : List Bk} {ps : List PrD} (h : St w W bl ps) : St w W.drew bl ps := h.step (below_drew (Below.refl _ _))
theorem St.drewN {w W : World} {bl : List Bk} {ps : List PrD} (h : St w W bl ps) (n : Nat) : St w (W.drewN n) bl ps := h.step (pw_below_drewN (Below.refl _ _) n)
theorem St.put {w W w1 : World} {bl : List Bk} {ps : List PrD} (h : St w W bl ps) (i : Nat) {g : Nat} {cs cs1 : Array Value} {t : TypeId} (hi : bl[i]? = some (g, cs, t)) (hs : w1.heap[g]? = some (.cells cs1 t (0, 0))) (hk : But1 g W w1) : St w w1 (bl.set i (g, cs1, t)) ps := by
  obtain ⟨hlt, hie⟩ := List.getElem?_eq_some_iff.1 hi
  have hm : (g, cs, t) ∈ bl := List.mem_of_getElem? hi
  have hg := h.blk _ hm
  have hnod := List.pairwise_iff_getElem.1 h.nod
  have hoth : ∀ (j : Nat) (hj : j < bl.length), j ≠ i → (bl[j]).1 ≠ g := fun j hj hne => by
    rcases Nat.lt_or_gt_of_ne hne with hl | hl
    · have := hnod j i hj hlt hl; rw [hie] at this; exact this
    · have := hnod i j hlt hj hl; rw [hie] at this; exact fun e => this e.symm
  refine ⟨h.below.trans (hk.below _ hg.2.1), fun p hp => ?_, ?_, fun d hd => ⟨?_, (h.pr d hd).2.1, ?_⟩, h.far⟩
  · obtain ⟨j, hj, e⟩ := List.getElem_of_mem hp
    rw [List.length_set] at hj
    rw [List.getElem_set] at e
    split at e
    · subst e; exact ⟨hs, hg.2⟩
    · rename_i hne
      have hp' := h.blk p (e ▸ List.getElem_mem hj)
      exact ⟨hk.blk hp'.1 (e ▸ hoth j hj (fun e => hne e.symm)), hp'.2⟩
  · refine List.pairwise_iff_getElem.2 fun a b ha hb hab => ?_
    rw [List.length_set] at ha hb
    rw [List.getElem_set, List.getElem_set]
    split
    · rename_i e1
      split
      · rename_i e2; omega
      · rename_i e2; exact fun e => hoth b hb (fun e => e2 e.symm) e.symm
    · rename_i e1
      split
      · exact hoth a ha (fun e => e1 e.symm)
      · exact hnod a b ha hb hab
  · exact ⟨hk.row (h.pr d hd).1.1 hg.1 (fun e => hg.2.2 e.symm), hk.row (h.pr d hd).1.2 hg.1 (fun e => hg.2.2 e.symm)⟩
  · exact Nat.le_trans (h.pr d hd).2.2 (hk.below _ hg.2.1).size
theorem Pr.ne {W : World} {d : PrD} (h : Pr W d) : ∀ k, some k = d.v1.ownBlock → ¬ some k = d.v2.ownBlock := fun k hk => (h.1.1 k hk.symm).2
theorem Pr.in1 {W : World} {d : PrD} (h : Pr W d) : ∀ k, some k = d.v1.ownBlock → d.lo ≤ k ∧ k < d.hi := fun k hk => ⟨Kd.R_base h.1 k hk.symm, (h.1.1 k hk.symm).1⟩
theorem Pr.in2 {W : World} {d : PrD} (h : Pr W d) : ∀ k, some k = d.v2.ownBlock → d.lo ≤ k ∧ k < d.hi := fun k hk => ⟨Kd.R_base h.2 k hk.symm, (h.2.1 k hk.symm).1⟩
theorem St.add {w W W' : World} {bl : List Bk} {ps : List PrD} (h : St w W bl ps) (hb : Below W.heap.size W W') {B : Nat} (hle : W.heap.size ≤ B) {v1 v2 : Value} {l1 l2 : List Int} {ok2 : Nat → Prop}
    (R1 : Kd.R (Kd.int .i64) 3 W' B (fun k => some k ≠ v2.ownBlock) v1 l1) (R2 : Kd.R (Kd.int .i64) 3 W' B ok2 v2 l2) : St w W' bl (⟨W.heap.size, W'.heap.size, v1, v2, l1, l2⟩ :: ps) := by
  have h' := h.step hb
  refine ⟨h'.below, h'.blk, h'.nod, fun d hd => ?_, .cons (fun d hd => (h.pr d hd).2.2) h.far⟩
  rcases List.mem_cons.1 hd with rfl | hd
  · refine ⟨⟨Kd.R_reok rfl (Kd.R_lower R1 hle) (fun k hk => ⟨Kd.R_lt R1 k hk, R1.1 k hk⟩), Kd.R_reok rfl (Kd.R_lower R2 hle) (fun k hk => ⟨Kd.R_lt R2 k hk, fun e => R1.1 k e.symm hk.symm⟩)⟩, h.below.size, Nat.le_refl _⟩
  · exact h'.pr d hd
theorem St.prAt {w W : World} {bl : List Bk} {ps : List PrD} (h : St w W bl ps) {d : PrD} (hd : d ∈ ps) : Pr W d := (h.pr d hd).1
theorem St.idx {w W : World} {bl : List Bk} {ps : List PrD} (h : St w W bl ps) (i : Nat) {g : Nat} {cs : Array Value} {t : TypeId} (hi : bl[i]? = some (g, cs, t)) : W.heap[g]? = some (.cells cs t (0, 0)) := (h.blk _ (List.mem_of_getElem? hi)).1
theorem St.nth {w W : World} {bl : List Bk} {ps : List PrD} (h : St w W bl ps) (j : Nat) {d : PrD} (hj : ps[j]? = some d) : Pr W d := h.prAt (List.mem_of_getElem? hj)
theorem St.sub {w W : World} {bl : List Bk} {ps ps' : List PrD} (h : St w W bl ps) (hs : ps'.Sublist ps) : St w W bl ps' := ⟨h.below, h.blk, h.nod, fun d hd => h.pr d (hs.subset hd), h.far.sublist hs⟩
theorem Pr.c1 {W : World} {lo hi n c : Nat} {A : Option Addr} {v2 : Value} {l1 l2 : List Int} (h : Pr W ⟨lo, hi, .slice A n c, v2, l1, l2⟩) : n = l1.length ∧ Kd.C (Kd.int .i64) W A l1.length l1 ∧ l1.length ≤ c :=
  by obtain ⟨e, k, c⟩ := Kd.R_reads' h.1; exact ⟨e, c, e ▸ k⟩
theorem Pr.c2 {W : World} {lo hi n c : Nat} {A : Option Addr} {v1 : Value} {l1 l2 : List Int} (h : Pr W ⟨lo, hi, v1, .slice A n c, l1, l2⟩) : n = l2.length ∧ Kd.C (Kd.int .i64) W A l2.length l2 ∧ l2.length ≤ c :=
  by obtain ⟨e, k, c⟩ := Kd.R_reads' h.2; exact ⟨e, c, e ▸ k⟩
theorem St.mark {w W W' : World} {bl : List Bk} {ps : List PrD} (h : St w W bl ps) (i : Nat) {d : PrD} (hi : ps[i]? = some d) {m1 m2 : List Int} {ok1 ok2 : Nat → Prop} (hk : Kept W W' (fun k => some k = d.v1.ownBlock ∨ some k = d.v2.ownBlock))
    (R1 : Kd.R (Kd.int .i64) 3 W' w.heap.size ok1 d.v1 m1) (R2 : Kd.R (Kd.int .i64) 3 W' w.heap.size ok2 d.v2 m2) (hb : Below w.heap.size w W') : St w W' bl (ps.set i ⟨d.lo, d.hi, d.v1, d.v2, m1, m2⟩) := by
  obtain ⟨hlt, hie⟩ := List.getElem?_eq_some_iff.1 hi
  have hd : d ∈ ps := List.mem_of_getElem? hi
  have hp := h.pr d hd
  have hfar := List.pairwise_iff_getElem.1 h.far
  have hin : ∀ k, (some k = d.v1.ownBlock ∨ some k = d.v2.ownBlock) → d.lo ≤ k ∧ k < d.hi := fun k hk => by
    rcases hk with hk | hk
    · exact hp.1.in1 k hk
    · exact hp.1.in2 k hk
  refine ⟨hb, fun p hp' => ⟨?_, (h.blk p hp').2⟩, h.nod, fun e he => ?_, ?_⟩
  · refine blk_kept (h.blk p hp').1 hk fun hs => ?_
    have hb' := (h.blk p hp').1
    rcases hs with hs | hs
    · obtain ⟨cells, hc⟩ := own_typed (Kd.own_of_R hp.1.1) p.1 hs.symm
      rw [hc] at hb'; injection hb' with hb'; injection hb' with _ hb'; exact (h.blk p hp').2.2 hb'.symm
    · obtain ⟨cells, hc⟩ := own_typed (Kd.own_of_R hp.1.2) p.1 hs.symm
      rw [hc] at hb'; injection hb' with hb'; injection hb' with _ hb'; exact (h.blk p hp').2.2 hb'.symm
  · obtain ⟨j, hj, ej⟩ := List.getElem_of_mem he
    rw [List.length_set] at hj
    rw [List.getElem_set] at ej
    split at ej
    · subst ej
      refine ⟨⟨?_, ?_⟩, hp.2.1, Nat.le_trans hp.2.2 hk.1⟩
      · exact Kd.R_of_own (Kd.own_raise (Kd.own_of_R R1) (fun k hk => (hp.1.in1 k hk.symm).1)) (fun k hk => ⟨(hp.1.in1 k hk.symm).2, hp.1.ne k hk.symm⟩)
      · exact Kd.R_of_own (Kd.own_raise (Kd.own_of_R R2) (fun k hk => (hp.1.in2 k hk.symm).1)) (fun k hk => ⟨(hp.1.in2 k hk.symm).2, fun e => hp.1.ne k e hk.symm⟩)
    · rename_i hne
      have he' : e ∈ ps := ej ▸ List.getElem_mem hj
      have hq := h.pr e he'
      have hdis : ∀ k, e.lo ≤ k → k < e.hi → ¬ (some k = d.v1.ownBlock ∨ some k = d.v2.ownBlock) := fun k h1 h2 hs => by
        have h3 := hin k hs
        rcases Nat.lt_or_gt_of_ne hne with hl | hl
        · have := hfar i j hlt hj hl; rw [hie, ej] at this; omega
        · have := hfar j i hj hlt hl; rw [hie, ej] at this; omega
      refine ⟨⟨?_, ?_⟩, hq.2.1, Nat.le_trans hq.2.2 hk.1⟩
      · exact Kd.R_mono (Kd.R_step (Kd.R_bound hq.1.1) (fun k hok hlt' => hk.2 k hlt' (hdis k hok.2.1 hok.1.1))) (fun k hok => hok.1)
      · exact Kd.R_mono (Kd.R_step (Kd.R_bound hq.1.2) (fun k hok hlt' => hk.2 k hlt' (hdis k hok.2.1 hok.1.1))) (fun k hok => hok.1)
  · refine List.pairwise_iff_getElem.2 fun a b ha hb' hab => ?_
    rw [List.length_set] at ha hb'
    have hab' := hfar a b ha hb' hab
    have ea : ((ps.set i ⟨d.lo, d.hi, d.v1, d.v2, m1, m2⟩)[a]'(by rw [List.length_set]; exact ha)).lo = (ps[a]).lo := by
      rw [List.getElem_set]; split
      · rename_i e; subst e; rw [hie]
      · rfl
    have eb : ((ps.set i ⟨d.lo, d.hi, d.v1, d.v2, m1, m2⟩)[b]'(by rw [List.length_set]; exact hb')).hi = (ps[b]).hi := by
      rw [List.getElem_set]; split
      · rename_i e; subst e; rw [hie]
      · rfl
    rw [ea, eb]; exact hab'
theorem cells3 {W : World} {g : Nat} {t : TypeId} {x y z : Value} (h : W.heap[g]? = some (.cells #[x, y, z] t (0, 0))) : W.cell? ⟨g, 0, none⟩ = some x ∧ W.cell? ⟨g, 1, none⟩ = some y ∧ W.cell? ⟨g, 2, none⟩ = some z :=
  ⟨(blk_cell h 0).trans rfl, (blk_cell h 1).trans rfl, (blk_cell h 2).trans rfl⟩
theorem St.cells2 {w W : World} {bl : List Bk} {ps : List PrD} {g1 g2 : Nat} {x1 y1 z1 x2 y2 z2 : Value} {t1 t2 : TypeId} (h : St w W bl ps) (m1 : (g1, #[x1, y1, z1], t1) ∈ bl) (m2 : (g2, #[x2, y2, z2], t2) ∈ bl) :
    W.cell? ⟨g1, 0, none⟩ = some x1 ∧ W.cell? ⟨g1, 1, none⟩ = some y1 ∧ W.cell? ⟨g1, 2, none⟩ = some z1 ∧ W.cell? ⟨g2, 0, none⟩ = some x2 ∧ W.cell? ⟨g2, 1, none⟩ = some y2 ∧ W.cell? ⟨g2, 2, none⟩ = some z2 :=
  ⟨(cells3 (h.at m1)).1, (cells3 (h.at m1)).2.1, (cells3 (h.at m1)).2.2, cells3 (h.at m2)⟩
theorem But1.set3 {W : World} {g : Nat} (x y z : Value) : But1 g W (((W.setCell ⟨g, 0, none⟩ x).setCell ⟨g, 1, none⟩ y).setCell ⟨g, 2, none⟩ z) :=
  ⟨fun k hk => (Below.heap_setCell _ _ _ k hk).trans ((Below.heap_setCell _ _ _ k hk).trans (Below.heap_setCell _ _ _ k hk)), fun B hB => (((Below.refl B W).setCell (p := ⟨g, 0, none⟩) hB x).setCell (p := ⟨g, 1, none⟩) hB y).setCell (p := ⟨g, 2, none⟩) hB z⟩
theorem St.set3 {w W : World} {bl : List Bk} {ps : List PrD} {g : Nat} {a b c : Value} {t : TypeId} (h : St w W ((g, #[a, b, c], t) :: bl) ps) (x y z : Value) :
    St w (((W.setCell ⟨g, 0, none⟩ x).setCell ⟨g, 1, none⟩ y).setCell ⟨g, 2, none⟩ z) ((g, #[x, y, z], t) :: bl) ps := by
  have s := blk_set (blk_set (blk_set (h.at (g := g) (cs := #[a, b, c]) (t := t) List.mem_cons_self) 0 x) 1 y) 2 z
  exact h.put 0 rfl (by simpa using s) (But1.set3 x y z)
/-- What a call that gives an array and a code leaves, its answer laid in a box. -/
def Got (w : World) (bl : List Bk) (ps : List PrD) (t : TypeId) (b : Bool) (l1 l2 : List Int) (cd : Int) (v6 v7 : Value) (W : World) : Prop :=
  ∃ g A1 c1 A2 c2 lo hi, v6 = .pointer (some ⟨g, 0, none⟩) ∧ v7 = .int .i64 cd ∧ St w W ((g, #[.bool b, .slice A1 l1.length c1, .slice A2 l2.length c2], t) :: bl) (⟨lo, hi, .slice A1 l1.length c1, .slice A2 l2.length c2, l1, l2⟩ :: ps)
theorem gotA {w W : World} {bl : List Bk} {ps ps' : List PrD} {t : TypeId} {b : Bool} {l1 l2 : List Int} {cd : Int} {A1 A2 : Option Addr} {c1 c2 lo hi : Nat} (h : St w W bl (⟨lo, hi, .slice A1 l1.length c1, .slice A2 l2.length c2, l1, l2⟩ :: ps')) (hs : ps.Sublist ps') (ht : t ≠ 3) :
    Got w bl ps t b l1 l2 cd (.pointer (some ⟨W.heap.size, 0, none⟩)) (.int .i64 cd) (W.alloc (.cells #[.bool b, .slice A1 l1.length c1, .slice A2 l2.length c2] t)) :=
  ⟨_, A1, c1, A2, c2, lo, hi, rfl, rfl, (h.alloc _ t ht).sub (hs.cons_cons _)⟩
theorem gotB {w W : World} {bl : List Bk} {ps ps' : List PrD} {t : TypeId} {b : Bool} {l1 l2 : List Int} {cd : Int} {A1 A2 : Option Addr} {c1 c2 lo hi g : Nat} {x y z : Value} (h : St w W ((g, #[x, y, z], t) :: bl) (⟨lo, hi, .slice A1 l1.length c1, .slice A2 l2.length c2, l1, l2⟩ :: ps')) (hs : ps.Sublist ps') :
    Got w bl ps t b l1 l2 cd (.pointer (some ⟨g, 0, none⟩)) (.int .i64 cd) (((W.setCell ⟨g, 0, none⟩ (.bool b)).setCell ⟨g, 1, none⟩ (.slice A1 l1.length c1)).setCell ⟨g, 2, none⟩ (.slice A2 l2.length c2)) :=
  ⟨g, A1, c1, A2, c2, lo, hi, rfl, rfl, (h.set3 _ _ _).sub (hs.cons_cons _)⟩
theorem Got.drew {w W : World} {bl : List Bk} {ps : List PrD} {t : TypeId} {b : Bool} {l1 l2 : List Int} {cd : Int} {v6 v7 : Value} (h : Got w bl ps t b l1 l2 cd v6 v7 W) : Got w bl ps t b l1 l2 cd v6 v7 W.drew := by
  obtain ⟨g, A1, c1, A2, c2, lo, hi, e1, e2, hs⟩ := h
  exact ⟨g, A1, c1, A2, c2, lo, hi, e1, e2, hs.drew⟩
/-- A pair that is marked: what the law's function asks. -/
theorem St.ready {w W : World} {bl : List Bk} {ps : List PrD} (h : St w W bl ps) {d : PrD} (hd : d ∈ ps) :
    Kd.R (Kd.int .i64) 3 W w.heap.size (fun k => some k = d.v1.ownBlock) d.v1 d.l1 ∧ (∀ k, some k = d.v1.ownBlock → ¬ some k = d.v2.ownBlock) ∧ Kd.R (Kd.int .i64) 3 W w.heap.size (fun k => some k = d.v2.ownBlock) d.v2 d.l2 ∧ (∀ k, some k = d.v2.ownBlock → ¬ some k = d.v1.ownBlock) :=
  ⟨Kd.R_tight rfl (Kd.R_lower (h.prAt hd).1 (h.pr d hd).2.1), (h.prAt hd).ne, Kd.R_tight rfl (Kd.R_lower (h.prAt hd).2 (h.pr d hd).2.1), fun k h2 h1 => (h.prAt hd).ne k h1 h2⟩
theorem St.ready' {w W : World} {bl : List Bk} {ps : List PrD} (h : St w W bl ps) (j : Nat) {d : PrD} (hj : ps[j]? = some d) :
    Kd.R (Kd.int .i64) 3 W w.heap.size (fun k => some k = d.v1.ownBlock) d.v1 d.l1 ∧ (∀ k, some k = d.v1.ownBlock → ¬ some k = d.v2.ownBlock) ∧ Kd.R (Kd.int .i64) 3 W w.heap.size (fun k => some k = d.v2.ownBlock) d.v2 d.l2 ∧ (∀ k, some k = d.v2.ownBlock → ¬ some k = d.v1.ownBlock) := h.ready (List.mem_of_getElem? hj)
/-- 'held' at rows whose lengths are written another way. -/
theorem held_n (k : Nat) (b : Bool) (A1 A2 : Option Addr) (n1 n2 c1 c2 : Nat) (l1 l2 : List Int) (a r : Int) (w : World) (e1 : n1 = l1.length) (e2 : n2 = l2.length) (h1 : Kd.C (Kd.int .i64) w A1 l1.length l1) (k1 : l1.length ≤ c1) (h2 : Kd.C (Kd.int .i64) w A2 l2.length l2) (k2 : l2.length ≤ c2)
    (h : laws_heldArray.f k b l1 l2 a = some r) : Calls Try.prog 25 #[.agg #[.bool b, .slice A1 n1 c1, .slice A2 n2 c2], .int .i64 a] w fun e w' => e = .returned (.int .i64 r) ∧ Below w.heap.size w w' := by
  subst e1 e2
  exact laws_heldArray.calls k b A1 c1 l1 A2 c2 l2 a r w h1 k1 h2 k2 h
end Go.Proofs.Ytehfcnndjhjkoaa.PA

namespace Go.Proofs.Ytehfcnndjhjkoaa.PA
open Go.RowKit Go.Proofs.YtehfcnndjhjkoaaW.PrintWords Go.Proofs.YtehfcnndjhjkoaaW.PrintLast Go.Proofs.YtehfcnndjhjkoaaW.PrintMore
set_option linter.unusedVariables false
set_option linter.unusedSimpArgs false
set_option maxHeartbeats 8000000 in
set_option maxRecDepth 100000 in
theorem lawCatenate_y (kta ktb kea keb ks kev kh kk1 kk2 kk3 : Nat) (a : Bool) (Aa1 : Option Addr) (ca1 : Nat) (la1 : List Int) (Aa2 : Option Addr) (ca2 : Nat) (la2 : List Int) (b : Bool) (Ab1 : Option Addr) (cb1 : Nat) (lb1 : List Int) (Ab2 : Option Addr) (cb2 : Nat) (lb2 : List Int) (v1 : Bool) (v2 v3 : List Int) (v4 : Int) (s1 : Int) (s2 : Int) (k1 : Int) (m11 m12 : List Int) (k2 : Int) (m21 m22 : List Int) (k3 : Int) (m31 m32 : List Int) (w : World) (ha1 : Kd.C (Kd.int .i64) w Aa1 la1.length la1) (ka1 : la1.length ≤ ca1) (ha2 : Kd.C (Kd.int .i64) w Aa2 la2.length la2) (ka2 : la2.length ≤ ca2) (hb1 : Kd.C (Kd.int .i64) w Ab1 lb1.length lb1) (kb1 : lb1.length ≤ cb1) (hb2 : Kd.C (Kd.int .i64) w Ab2 lb2.length lb2) (kb2 : lb2.length ≤ cb2)
    (hta : laws_toArray.f kta a la1 la2 = some (a, la1, la2))
    (hea : laws_eqArray.f kea a la1 la2 a la1 la2 = some true)
    (htb : laws_toArray.f ktb b lb1 lb2 = some (b, lb1, lb2))
    (heb : laws_eqArray.f keb b lb1 lb2 b lb1 lb2 = some true)
    (hsp : spec_Catenate.f ks a la1 la2 b lb1 lb2 = some (v1, v2, v3, v4))
    (him : impl_Catenate.f a la1 la2 b lb1 lb2 = some (v1, v2, v3, v4))
    (hev : laws_eqArray.f kev v1 v2 v3 v1 v2 v3 = some true)
    (hz1 : laws_szArray.f a la1 la2 1048576 = some s1)
    (pz1 : 0 ≤ s1)
    (hz2 : laws_szArray.f b lb1 lb2 s1 = some s2)
    (pz2 : 0 ≤ s2)
    (hm1 : laws_markArray.f kk1 a la1 la2 1 = some (k1, m11, m12))
    (pm1 : 0 ≤ k1)
    (lm11 : la1.length = m11.length)
    (lm12 : la2.length = m12.length)
    (hm2 : laws_markArray.f kk2 b lb1 lb2 k1 = some (k2, m21, m22))
    (pm2 : 0 ≤ k2)
    (lm21 : lb1.length = m21.length)
    (lm22 : lb2.length = m22.length)
    (hm3 : laws_markArray.f kk3 v1 v2 v3 1 = some (k3, m31, m32))
    (pm3 : 0 ≤ k3)
    (lm31 : v2.length = m31.length)
    (lm32 : v3.length = m32.length)
    (hhG : laws_heldArray.f kh v1 m31 m32 1 = some k3) :
    Calls Try.prog 8 #[.agg #[.bool a, .slice Aa1 la1.length ca1, .slice Aa2 la2.length ca2], .agg #[.bool b, .slice Ab1 lb1.length cb1, .slice Ab2 lb2.length cb2]] w fun e w' => e = .returned (.bool true) ∧ Below w.heap.size w w' := by
  have Ha1 := Aside0.mk ha1
  have Ka1 := Aside0.mk ka1
  have Ha2 := Aside0.mk ha2
  have Ka2 := Aside0.mk ka2
  have Hb1 := Aside0.mk hb1
  have Kb1 := Aside0.mk kb1
  have Hb2 := Aside0.mk hb2
  have Kb2 := Aside0.mk kb2
  replace hta := Aside0.mk hta
  replace hea := Aside0.mk hea
  replace htb := Aside0.mk htb
  replace heb := Aside0.mk heb
  replace hsp := Aside0.mk hsp
  replace him := Aside0.mk him
  replace hev := Aside0.mk hev
  replace hz1 := Aside0.mk hz1
  replace hz2 := Aside0.mk hz2
  replace hm1 := Aside0.mk hm1
  replace lm11 := Aside0.mk lm11
  replace lm12 := Aside0.mk lm12
  replace hm2 := Aside0.mk hm2
  replace lm21 := Aside0.mk lm21
  replace lm22 := Aside0.mk lm22
  replace hm3 := Aside0.mk hm3
  replace lm31 := Aside0.mk lm31
  replace lm32 := Aside0.mk lm32
  replace hhG := Aside0.mk hhG
  clear ha1 ka1 ha2 ka2 hb1 kb1 hb2 kb2
  have qpz1 : decide (s1 < 0) = false := decide_eq_false (by omega)
  have qpz2 : decide (s2 < 0) = false := decide_eq_false (by omega)
  have qpm1 : decide (k1 < 0) = false := decide_eq_false (by omega)
  have qpm2 : decide (k2 < 0) = false := decide_eq_false (by omega)
  have qpm3 : decide (k3 < 0) = false := decide_eq_false (by omega)
  have HS := Aside0.mk (St.start w)
  go_enter Try.func8, Try.ntmps8
  go_upto_region 1 with (first | ((with_reducible refine gate_dst (N := 2) rfl ?_); refine box_event ?hg (N := 2) ?hd (cs := #[.bool a, .slice Aa1 la1.length ca1, .slice Aa2 la2.length ca2]) (t := 24) ?hr ?_; (case hd => rfl); (case hg => rfl); (case hr => first | (go_simp; done) | (go_simp; rfl)); intro g1 hg1 w1 hx1 hb1; have nS := Aside0.mk (HS.out.box hg1 hx1 hb1 (by decide)); clear HS; have HS := nS; clear nS hg1 hx1 hb1) | ((with_reducible refine gate_dst (N := 3) rfl ?_); refine box_event ?hg (N := 3) ?hd (cs := #[.bool b, .slice Ab1 lb1.length cb1, .slice Ab2 lb2.length cb2]) (t := 24) ?hr ?_; (case hd => rfl); (case hg => rfl); (case hr => first | (go_simp; done) | (go_simp; rfl)); intro g2 hg2 w2 hx2 hb2; have nS := Aside0.mk (HS.out.box hg2 hx2 hb2 (by decide)); clear HS; have HS := nS; clear nS hg2 hx2 hb2))
  go_upto_region 2 with (fail)
  go_upto_region 3 with (first | ((with_reducible refine gate_dst (N := 17) rfl ?_); refine wpList_load_row rfl 24 (.tmp 2) rfl g1 rfl 24 #[.bool a, .slice Aa1 la1.length ca1, .slice Aa2 la2.length ca2] (0, 0) _ (HS.out.idx 1 rfl) Try.underlying24 rfl (by kernel_rfl) ?_) | (go_at_call 15; refine (laws_szArray.calls a _ _ la1 _ _ la2 1048576 s1 _ (by (with_reducible repeat (first | refine Kd.C_drew ?_ | refine Kd.C_drewN ?_ _ | refine Kd.C_alloc ?_ _)); exact (Kd.C_below Ha1.out HS.out.below)) Ka1.out (by (with_reducible repeat (first | refine Kd.C_drew ?_ | refine Kd.C_drewN ?_ _ | refine Kd.C_alloc ?_ _)); exact (Kd.C_below Ha2.out HS.out.below)) Ka2.out hz1.out).mono ?_; rintro e w3 ⟨rfl, hb3⟩; have nS := Aside0.mk (St.step (by repeat (first | (with_reducible exact HS.out) | (with_reducible apply St.drew) | (with_reducible apply St.drewN) | (with_reducible apply St.alloc) | decide)) hb3); clear HS; have HS := nS; clear nS hb3))
  go_upto_region 5 with (fail)
  go_upto_region 6 with (first | ((with_reducible refine gate_dst (N := 22) rfl ?_); refine wpList_load_row rfl 24 (.tmp 3) rfl g2 rfl 24 #[.bool b, .slice Ab1 lb1.length cb1, .slice Ab2 lb2.length cb2] (0, 0) _ (HS.out.idx 0 rfl) Try.underlying24 rfl (by kernel_rfl) ?_) | (go_at_call 15; refine (laws_szArray.calls b _ _ lb1 _ _ lb2 s1 s2 _ (by (with_reducible repeat (first | refine Kd.C_drew ?_ | refine Kd.C_drewN ?_ _ | refine Kd.C_alloc ?_ _)); exact (Kd.C_below Hb1.out HS.out.below)) Kb1.out (by (with_reducible repeat (first | refine Kd.C_drew ?_ | refine Kd.C_drewN ?_ _ | refine Kd.C_alloc ?_ _)); exact (Kd.C_below Hb2.out HS.out.below)) Kb2.out hz2.out).mono ?_; rintro e w4 ⟨rfl, hb4⟩; have nS := Aside0.mk (St.step (by repeat (first | (with_reducible exact HS.out) | (with_reducible apply St.drew) | (with_reducible apply St.drewN) | (with_reducible apply St.alloc) | decide)) hb4); clear HS; have HS := nS; clear nS hb4))
  go_upto_region 8 with (fail)
  go_cut [6, 7] (fun v6 v7 wc => Got w [(g2, #[.bool b, .slice Ab1 lb1.length cb1, .slice Ab2 lb2.length cb2], 24), (g1, #[.bool a, .slice Aa1 la1.length ca1, .slice Aa2 la2.length ca2], 24)] ([] : List PrD) 28 v1 v2 v3 v4 v6 v7 wc)
  case first =>
    go_region_held3 (fun w' => w'.cell? ⟨g1, 0, none⟩ = some (.bool a) ∧ w'.cell? ⟨g1, 1, none⟩ = some (.slice Aa1 la1.length ca1) ∧ w'.cell? ⟨g1, 2, none⟩ = some (.slice Aa2 la2.length ca2) ∧ w'.cell? ⟨g2, 0, none⟩ = some (.bool b) ∧ w'.cell? ⟨g2, 1, none⟩ = some (.slice Ab1 lb1.length cb1) ∧ w'.cell? ⟨g2, 2, none⟩ = some (.slice Ab2 lb2.length cb2)) ((apply St.cells2 (w := w) (t1 := 24) (t2 := 24); (repeat (first | (with_reducible exact HS.out) | (with_reducible apply St.drew) | (with_reducible apply St.drewN) | (with_reducible apply St.alloc) | (with_reducible apply St.set3) | decide)); all_goals simp)) (first | (go_at_call_of 18 (Value.agg #[Value.bool a, Value.slice Aa1 la1.length ca1, Value.slice Aa2 la2.length ca2]); refine (laws_toArray.calls kta a _ _ la1 _ _ la2 a la1 la2 _ (by (with_reducible repeat (first | refine Kd.C_drew ?_ | refine Kd.C_drewN ?_ _ | refine Kd.C_alloc ?_ _)); exact (Kd.C_below Ha1.out HS.out.below)) Ka1.out (by (with_reducible repeat (first | refine Kd.C_drew ?_ | refine Kd.C_drewN ?_ _ | refine Kd.C_alloc ?_ _)); exact (Kd.C_below Ha2.out HS.out.below)) Ka2.out hta.out).mono ?_; rintro e w5 ⟨x5, y5, rfl, hx5, hy5, hb5⟩; obtain ⟨Ax5, cx5, rfl⟩ := Kd.R_slice hx5; obtain ⟨Ay5, cy5, rfl⟩ := Kd.R_slice hy5; have nS := Aside0.mk (St.add (by repeat (first | (with_reducible exact HS.out) | (with_reducible apply St.drew) | (with_reducible apply St.drewN) | (with_reducible apply St.alloc) | decide)) hb5 (Nat.le_refl _) hx5 hy5); clear HS; have HS := nS; clear nS hb5 hx5 hy5) | (go_at_call_of 18 (Value.agg #[Value.bool b, Value.slice Ab1 lb1.length cb1, Value.slice Ab2 lb2.length cb2]); refine (laws_toArray.calls ktb b _ _ lb1 _ _ lb2 b lb1 lb2 _ (by (with_reducible repeat (first | refine Kd.C_drew ?_ | refine Kd.C_drewN ?_ _ | refine Kd.C_alloc ?_ _)); exact (Kd.C_below Hb1.out HS.out.below)) Kb1.out (by (with_reducible repeat (first | refine Kd.C_drew ?_ | refine Kd.C_drewN ?_ _ | refine Kd.C_alloc ?_ _)); exact (Kd.C_below Hb2.out HS.out.below)) Kb2.out htb.out).mono ?_; rintro e w6 ⟨x6, y6, rfl, hx6, hy6, hb6⟩; obtain ⟨Ax6, cx6, rfl⟩ := Kd.R_slice hx6; obtain ⟨Ay6, cy6, rfl⟩ := Kd.R_slice hy6; have nS := Aside0.mk (St.add (by repeat (first | (with_reducible exact HS.out) | (with_reducible apply St.drew) | (with_reducible apply St.drewN) | (with_reducible apply St.alloc) | decide)) hb6 (Nat.le_refl _) hx6 hy6); clear HS; have HS := nS; clear nS hb6 hx6 hy6) | (go_at_call 37; refine (spec_Catenate.calls ks a Ax5 cx5 la1 Ay5 cy5 la2 b Ax6 cx6 lb1 Ay6 cy6 lb2 v1 v2 v3 v4 _ (by (with_reducible repeat (first | refine Kd.C_drew ?_ | refine Kd.C_drewN ?_ _ | refine Kd.C_alloc ?_ _)); exact (HS.out.nth 1 rfl).c1.2.1) (HS.out.nth 1 rfl).c1.2.2 (by (with_reducible repeat (first | refine Kd.C_drew ?_ | refine Kd.C_drewN ?_ _ | refine Kd.C_alloc ?_ _)); exact (HS.out.nth 1 rfl).c2.2.1) (HS.out.nth 1 rfl).c2.2.2 (by (with_reducible repeat (first | refine Kd.C_drew ?_ | refine Kd.C_drewN ?_ _ | refine Kd.C_alloc ?_ _)); exact (HS.out.nth 0 rfl).c1.2.1) (HS.out.nth 0 rfl).c1.2.2 (by (with_reducible repeat (first | refine Kd.C_drew ?_ | refine Kd.C_drewN ?_ _ | refine Kd.C_alloc ?_ _)); exact (HS.out.nth 0 rfl).c2.2.1) (HS.out.nth 0 rfl).c2.2.2 hsp.out).mono ?_; rintro e w7 ⟨x7, y7, rfl, hx7, hy7, hb7⟩; obtain ⟨Ax7, cx7, rfl⟩ := Kd.R_slice hx7; obtain ⟨Ay7, cy7, rfl⟩ := Kd.R_slice hy7; have nS := Aside0.mk (St.add (by repeat (first | (with_reducible exact HS.out) | (with_reducible apply St.drew) | (with_reducible apply St.drewN) | (with_reducible apply St.alloc) | decide)) hb7 (Nat.le_refl _) hx7 hy7); clear HS; have HS := nS; clear nS hb7 hx7 hy7; have hz_ := Aside0.mk (HS.out.idx 0 rfl); have hx0_ := (cells3 hz_.out).1; have hx1_ := (cells3 hz_.out).2.1; have hx2_ := (cells3 hz_.out).2.2; have hy0_ := blk_frozen hz_.out 0; have hy1_ := blk_frozen hz_.out 1; have hy2_ := blk_frozen hz_.out 2))
    all_goals
      go_wp2_with fail
      go_meet
      case rel =>
        (try (with_reducible refine Got.drew ?_))
        first | (with_reducible refine gotB HS.out ?_) | (with_reducible refine gotA HS.out ?_ (show 28 ≠ 3 by decide))
        repeat (first | (with_reducible exact List.Sublist.refl _) | (with_reducible exact List.nil_sublist _) | (with_reducible apply List.Sublist.cons_cons) | (with_reducible apply List.Sublist.cons))
  case rest =>
    obtain ⟨g8, Az8, cz8, Bz8, dz8, lo8, hi8, rfl, rfl, hs8⟩ := hcut; have HS := Aside0.mk hs8; clear hs8
    go_upto_region 10 with (first | ((with_reducible refine gate_dst (N := 35) rfl ?_); refine wpList_load_row rfl 24 (.tmp 2) rfl g1 rfl 24 #[.bool a, .slice Aa1 la1.length ca1, .slice Aa2 la2.length ca2] (0, 0) _ (HS.out.idx 2 rfl) Try.underlying24 rfl (by kernel_rfl) ?_) | (go_at_call_of 18 (Value.agg #[Value.bool a, Value.slice Aa1 la1.length ca1, Value.slice Aa2 la2.length ca2]); refine (laws_toArray.calls kta a _ _ la1 _ _ la2 a la1 la2 _ (by (with_reducible repeat (first | refine Kd.C_drew ?_ | refine Kd.C_drewN ?_ _ | refine Kd.C_alloc ?_ _)); exact (Kd.C_below Ha1.out HS.out.below)) Ka1.out (by (with_reducible repeat (first | refine Kd.C_drew ?_ | refine Kd.C_drewN ?_ _ | refine Kd.C_alloc ?_ _)); exact (Kd.C_below Ha2.out HS.out.below)) Ka2.out hta.out).mono ?_; rintro e w9 ⟨x9, y9, rfl, hx9, hy9, hb9⟩; obtain ⟨Ax9, cx9, rfl⟩ := Kd.R_slice hx9; obtain ⟨Ay9, cy9, rfl⟩ := Kd.R_slice hy9; have nS := Aside0.mk (St.add (by repeat (first | (with_reducible exact HS.out) | (with_reducible apply St.drew) | (with_reducible apply St.drewN) | (with_reducible apply St.alloc) | decide)) hb9 (Nat.le_refl _) hx9 hy9); clear HS; have HS := nS; clear nS hb9 hx9 hy9) | ((with_reducible refine gate_dst (N := 8) rfl ?_); refine box_event ?hg (N := 8) ?hd (cs := #[.bool false, .slice none 0 0, .slice none 0 0]) (t := 28) ?hr ?_; (case hd => rfl); (case hg => rfl); (case hr => first | (go_simp; done) | (go_simp; rfl)); intro g10 hg10 w10 hx10 hb10; have nS := Aside0.mk (HS.out.box hg10 hx10 hb10 (by decide)); clear HS; have HS := nS; clear nS hg10 hx10 hb10) | ((with_reducible refine gate_store rfl ?_); refine store_named rfl 28 (.tmp 8) (.tmp 36) rfl g10 #[.bool a, .slice Ax9 la1.length cx9, .slice Ay9 la2.length cy9] rfl rfl 28 #[.bool false, .slice none 0 0, .slice none 0 0] (HS.out.idx 0 rfl) (by kernel_rfl) rfl (by simp [Value.oneCell']) ?_; intro w11 hx11 hb11; have nS := Aside0.mk (HS.out.put 0 rfl hx11 hb11); simp only [List.set_cons_zero, List.set_cons_succ] at nS; clear HS; have HS := nS; clear nS hx11 hb11))
    go_upto_region 11 with (first | ((with_reducible refine gate_dst (N := 37) rfl ?_); refine wpList_load_row rfl 24 (.tmp 3) rfl g2 rfl 24 #[.bool b, .slice Ab1 lb1.length cb1, .slice Ab2 lb2.length cb2] (0, 0) _ (HS.out.idx 2 rfl) Try.underlying24 rfl (by kernel_rfl) ?_) | (go_at_call_of 18 (Value.agg #[Value.bool b, Value.slice Ab1 lb1.length cb1, Value.slice Ab2 lb2.length cb2]); refine (laws_toArray.calls ktb b _ _ lb1 _ _ lb2 b lb1 lb2 _ (by (with_reducible repeat (first | refine Kd.C_drew ?_ | refine Kd.C_drewN ?_ _ | refine Kd.C_alloc ?_ _)); exact (Kd.C_below Hb1.out HS.out.below)) Kb1.out (by (with_reducible repeat (first | refine Kd.C_drew ?_ | refine Kd.C_drewN ?_ _ | refine Kd.C_alloc ?_ _)); exact (Kd.C_below Hb2.out HS.out.below)) Kb2.out htb.out).mono ?_; rintro e w12 ⟨x12, y12, rfl, hx12, hy12, hb12⟩; obtain ⟨Ax12, cx12, rfl⟩ := Kd.R_slice hx12; obtain ⟨Ay12, cy12, rfl⟩ := Kd.R_slice hy12; have nS := Aside0.mk (St.add (by repeat (first | (with_reducible exact HS.out) | (with_reducible apply St.drew) | (with_reducible apply St.drewN) | (with_reducible apply St.alloc) | decide)) hb12 (Nat.le_refl _) hx12 hy12); clear HS; have HS := nS; clear nS hb12 hx12 hy12) | ((with_reducible refine gate_dst (N := 9) rfl ?_); refine box_event ?hg (N := 9) ?hd (cs := #[.bool false, .slice none 0 0, .slice none 0 0]) (t := 28) ?hr ?_; (case hd => rfl); (case hg => rfl); (case hr => first | (go_simp; done) | (go_simp; rfl)); intro g13 hg13 w13 hx13 hb13; have nS := Aside0.mk (HS.out.box hg13 hx13 hb13 (by decide)); clear HS; have HS := nS; clear nS hg13 hx13 hb13) | ((with_reducible refine gate_store rfl ?_); refine store_named rfl 28 (.tmp 9) (.tmp 38) rfl g13 #[.bool b, .slice Ax12 lb1.length cx12, .slice Ay12 lb2.length cy12] rfl rfl 28 #[.bool false, .slice none 0 0, .slice none 0 0] (HS.out.idx 0 rfl) (by kernel_rfl) rfl (by simp [Value.oneCell']) ?_; intro w14 hx14 hb14; have nS := Aside0.mk (HS.out.put 0 rfl hx14 hb14); simp only [List.set_cons_zero, List.set_cons_succ] at nS; clear HS; have HS := nS; clear nS hx14 hb14))
    go_upto_region 12 with (first | ((with_reducible refine gate_dst (N := 40) rfl ?_); refine wpList_load_row rfl 28 (.tmp 8) rfl g10 rfl 28 #[.bool a, .slice Ax9 la1.length cx9, .slice Ay9 la2.length cy9] (0, 0) _ (HS.out.idx 1 rfl) Try.underlying28 rfl (by kernel_rfl) ?_) | ((with_reducible refine gate_dst (N := 41) rfl ?_); refine wpList_load_row rfl 28 (.tmp 9) rfl g13 rfl 28 #[.bool b, .slice Ax12 lb1.length cx12, .slice Ay12 lb2.length cy12] (0, 0) _ (HS.out.idx 0 rfl) Try.underlying28 rfl (by kernel_rfl) ?_) | (go_at_call 38; refine (impl_Catenate.calls a Ax9 cx9 la1 Ay9 cy9 la2 b Ax12 cx12 lb1 Ay12 cy12 lb2 v1 v2 v3 v4 _ (by (with_reducible repeat (first | refine Kd.C_drew ?_ | refine Kd.C_drewN ?_ _ | refine Kd.C_alloc ?_ _)); exact (HS.out.nth 1 rfl).c1.2.1) (HS.out.nth 1 rfl).c1.2.2 (by (with_reducible repeat (first | refine Kd.C_drew ?_ | refine Kd.C_drewN ?_ _ | refine Kd.C_alloc ?_ _)); exact (HS.out.nth 1 rfl).c2.2.1) (HS.out.nth 1 rfl).c2.2.2 (by (with_reducible repeat (first | refine Kd.C_drew ?_ | refine Kd.C_drewN ?_ _ | refine Kd.C_alloc ?_ _)); exact (HS.out.nth 0 rfl).c1.2.1) (HS.out.nth 0 rfl).c1.2.2 (by (with_reducible repeat (first | refine Kd.C_drew ?_ | refine Kd.C_drewN ?_ _ | refine Kd.C_alloc ?_ _)); exact (HS.out.nth 0 rfl).c2.2.1) (HS.out.nth 0 rfl).c2.2.2 him.out).mono ?_; rintro e w15 ⟨x15, y15, rfl, hx15, hy15, hb15⟩; obtain ⟨Ax15, cx15, rfl⟩ := Kd.R_slice hx15; obtain ⟨Ay15, cy15, rfl⟩ := Kd.R_slice hy15; have nS := Aside0.mk (St.add (by repeat (first | (with_reducible exact HS.out) | (with_reducible apply St.drew) | (with_reducible apply St.drewN) | (with_reducible apply St.alloc) | decide)) hb15 (Nat.le_refl _) hx15 hy15); clear HS; have HS := nS; clear nS hb15 hx15 hy15) | ((with_reducible refine gate_dst (N := 10) rfl ?_); refine box_event ?hg (N := 10) ?hd (cs := #[.bool false, .slice none 0 0, .slice none 0 0]) (t := 28) ?hr ?_; (case hd => rfl); (case hg => rfl); (case hr => first | (go_simp; done) | (go_simp; rfl)); intro g16 hg16 w16 hx16 hb16; have nS := Aside0.mk (HS.out.box hg16 hx16 hb16 (by decide)); clear HS; have HS := nS; clear nS hg16 hx16 hb16) | ((with_reducible refine gate_store rfl ?_); refine store_named rfl 28 (.tmp 10) (.tmp 43) rfl g16 #[.bool v1, .slice Ax15 v2.length cx15, .slice Ay15 v3.length cy15] rfl rfl 28 #[.bool false, .slice none 0 0, .slice none 0 0] (HS.out.idx 0 rfl) (by kernel_rfl) rfl (by simp [Value.oneCell']) ?_; intro w17 hx17 hb17; have nS := Aside0.mk (HS.out.put 0 rfl hx17 hb17); simp only [List.set_cons_zero, List.set_cons_succ] at nS; clear HS; have HS := nS; clear nS hx17 hb17))
    go_upto_region 14 with (first | ((with_reducible refine gate_dst (N := 45) rfl ?_); refine wpList_load_row rfl 28 (.tmp 10) rfl g16 rfl 28 #[.bool v1, .slice Ax15 v2.length cx15, .slice Ay15 v3.length cy15] (0, 0) _ (HS.out.idx 0 rfl) Try.underlying28 rfl (by kernel_rfl) ?_) | ((with_reducible refine gate_dst (N := 46) rfl ?_); refine wpList_load_row rfl 28 (.tmp 6) rfl g8 rfl 28 #[.bool v1, .slice Az8 v2.length cz8, .slice Bz8 v3.length dz8] (0, 0) _ (HS.out.idx 3 rfl) Try.underlying28 rfl (by kernel_rfl) ?_) | (go_at_call 21; refine (laws_eqArray.calls kev v1 Ax15 cx15 v2 Ay15 cy15 v3 v1 Az8 cz8 v2 Bz8 dz8 v3 true _ (by (with_reducible repeat (first | refine Kd.C_drew ?_ | refine Kd.C_drewN ?_ _ | refine Kd.C_alloc ?_ _)); exact (HS.out.nth 0 rfl).c1.2.1) (HS.out.nth 0 rfl).c1.2.2 (by (with_reducible repeat (first | refine Kd.C_drew ?_ | refine Kd.C_drewN ?_ _ | refine Kd.C_alloc ?_ _)); exact (HS.out.nth 0 rfl).c2.2.1) (HS.out.nth 0 rfl).c2.2.2 (by (with_reducible repeat (first | refine Kd.C_drew ?_ | refine Kd.C_drewN ?_ _ | refine Kd.C_alloc ?_ _)); exact (HS.out.nth 3 rfl).c1.2.1) (HS.out.nth 3 rfl).c1.2.2 (by (with_reducible repeat (first | refine Kd.C_drew ?_ | refine Kd.C_drewN ?_ _ | refine Kd.C_alloc ?_ _)); exact (HS.out.nth 3 rfl).c2.2.1) (HS.out.nth 3 rfl).c2.2.2 hev.out).mono ?_; rintro e w18 ⟨rfl, hb18⟩; have nS := Aside0.mk (St.step (by repeat (first | (with_reducible exact HS.out) | (with_reducible apply St.drew) | (with_reducible apply St.drewN) | (with_reducible apply St.alloc) | decide)) hb18); clear HS; have HS := nS; clear nS hb18))
    go_region_held3 (fun w' => w'.cell? ⟨g10, 0, none⟩ = some (.bool a) ∧ w'.cell? ⟨g10, 1, none⟩ = some (.slice Ax9 la1.length cx9) ∧ w'.cell? ⟨g10, 2, none⟩ = some (.slice Ay9 la2.length cy9) ∧ w'.cell? ⟨g1, 0, none⟩ = some (.bool a) ∧ w'.cell? ⟨g1, 1, none⟩ = some (.slice Aa1 la1.length ca1) ∧ w'.cell? ⟨g1, 2, none⟩ = some (.slice Aa2 la2.length ca2)) ((apply St.cells2 (w := w) (t1 := 28) (t2 := 24); (repeat (first | (with_reducible exact HS.out) | (with_reducible apply St.drew) | (with_reducible apply St.drewN) | (with_reducible apply St.alloc) | (with_reducible apply St.set3) | decide)); all_goals simp)) (first | (go_at_call_of 18 (Value.agg #[Value.bool a, Value.slice Aa1 la1.length ca1, Value.slice Aa2 la2.length ca2]); refine (laws_toArray.calls kta a _ _ la1 _ _ la2 a la1 la2 _ (by (with_reducible repeat (first | refine Kd.C_drew ?_ | refine Kd.C_drewN ?_ _ | refine Kd.C_alloc ?_ _)); exact (Kd.C_below Ha1.out HS.out.below)) Ka1.out (by (with_reducible repeat (first | refine Kd.C_drew ?_ | refine Kd.C_drewN ?_ _ | refine Kd.C_alloc ?_ _)); exact (Kd.C_below Ha2.out HS.out.below)) Ka2.out hta.out).mono ?_; rintro e w19 ⟨x19, y19, rfl, hx19, hy19, hb19⟩; obtain ⟨Ax19, cx19, rfl⟩ := Kd.R_slice hx19; obtain ⟨Ay19, cy19, rfl⟩ := Kd.R_slice hy19; have nS := Aside0.mk (St.add (by repeat (first | (with_reducible exact HS.out) | (with_reducible apply St.drew) | (with_reducible apply St.drewN) | (with_reducible apply St.alloc) | decide)) hb19 (Nat.le_refl _) hx19 hy19); clear HS; have HS := nS; clear nS hb19 hx19 hy19) | (go_at_call 21; refine (laws_eqArray.calls kea a Ax9 cx9 la1 Ay9 cy9 la2 a Ax19 cx19 la1 Ay19 cy19 la2 true _ (by (with_reducible repeat (first | refine Kd.C_drew ?_ | refine Kd.C_drewN ?_ _ | refine Kd.C_alloc ?_ _)); exact (HS.out.nth 3 rfl).c1.2.1) (HS.out.nth 3 rfl).c1.2.2 (by (with_reducible repeat (first | refine Kd.C_drew ?_ | refine Kd.C_drewN ?_ _ | refine Kd.C_alloc ?_ _)); exact (HS.out.nth 3 rfl).c2.2.1) (HS.out.nth 3 rfl).c2.2.2 (by (with_reducible repeat (first | refine Kd.C_drew ?_ | refine Kd.C_drewN ?_ _ | refine Kd.C_alloc ?_ _)); exact (HS.out.nth 0 rfl).c1.2.1) (HS.out.nth 0 rfl).c1.2.2 (by (with_reducible repeat (first | refine Kd.C_drew ?_ | refine Kd.C_drewN ?_ _ | refine Kd.C_alloc ?_ _)); exact (HS.out.nth 0 rfl).c2.2.1) (HS.out.nth 0 rfl).c2.2.2 hea.out).mono ?_; rintro e w20 ⟨rfl, hb20⟩; have nS := Aside0.mk (St.step (by repeat (first | (with_reducible exact HS.out) | (with_reducible apply St.drew) | (with_reducible apply St.drewN) | (with_reducible apply St.alloc) | decide)) hb20); clear HS; have HS := nS; clear nS hb20))
    go_upto_region 16 with (fail)
    go_region_held3 (fun w' => w'.cell? ⟨g13, 0, none⟩ = some (.bool b) ∧ w'.cell? ⟨g13, 1, none⟩ = some (.slice Ax12 lb1.length cx12) ∧ w'.cell? ⟨g13, 2, none⟩ = some (.slice Ay12 lb2.length cy12) ∧ w'.cell? ⟨g2, 0, none⟩ = some (.bool b) ∧ w'.cell? ⟨g2, 1, none⟩ = some (.slice Ab1 lb1.length cb1) ∧ w'.cell? ⟨g2, 2, none⟩ = some (.slice Ab2 lb2.length cb2)) ((apply St.cells2 (w := w) (t1 := 28) (t2 := 24); (repeat (first | (with_reducible exact HS.out) | (with_reducible apply St.drew) | (with_reducible apply St.drewN) | (with_reducible apply St.alloc) | (with_reducible apply St.set3) | decide)); all_goals simp)) (first | (go_at_call_of 18 (Value.agg #[Value.bool b, Value.slice Ab1 lb1.length cb1, Value.slice Ab2 lb2.length cb2]); refine (laws_toArray.calls ktb b _ _ lb1 _ _ lb2 b lb1 lb2 _ (by (with_reducible repeat (first | refine Kd.C_drew ?_ | refine Kd.C_drewN ?_ _ | refine Kd.C_alloc ?_ _)); exact (Kd.C_below Hb1.out HS.out.below)) Kb1.out (by (with_reducible repeat (first | refine Kd.C_drew ?_ | refine Kd.C_drewN ?_ _ | refine Kd.C_alloc ?_ _)); exact (Kd.C_below Hb2.out HS.out.below)) Kb2.out htb.out).mono ?_; rintro e w21 ⟨x21, y21, rfl, hx21, hy21, hb21⟩; obtain ⟨Ax21, cx21, rfl⟩ := Kd.R_slice hx21; obtain ⟨Ay21, cy21, rfl⟩ := Kd.R_slice hy21; have nS := Aside0.mk (St.add (by repeat (first | (with_reducible exact HS.out) | (with_reducible apply St.drew) | (with_reducible apply St.drewN) | (with_reducible apply St.alloc) | decide)) hb21 (Nat.le_refl _) hx21 hy21); clear HS; have HS := nS; clear nS hb21 hx21 hy21) | (go_at_call 21; refine (laws_eqArray.calls keb b Ax12 cx12 lb1 Ay12 cy12 lb2 b Ax21 cx21 lb1 Ay21 cy21 lb2 true _ (by (with_reducible repeat (first | refine Kd.C_drew ?_ | refine Kd.C_drewN ?_ _ | refine Kd.C_alloc ?_ _)); exact (HS.out.nth 3 rfl).c1.2.1) (HS.out.nth 3 rfl).c1.2.2 (by (with_reducible repeat (first | refine Kd.C_drew ?_ | refine Kd.C_drewN ?_ _ | refine Kd.C_alloc ?_ _)); exact (HS.out.nth 3 rfl).c2.2.1) (HS.out.nth 3 rfl).c2.2.2 (by (with_reducible repeat (first | refine Kd.C_drew ?_ | refine Kd.C_drewN ?_ _ | refine Kd.C_alloc ?_ _)); exact (HS.out.nth 0 rfl).c1.2.1) (HS.out.nth 0 rfl).c1.2.2 (by (with_reducible repeat (first | refine Kd.C_drew ?_ | refine Kd.C_drewN ?_ _ | refine Kd.C_alloc ?_ _)); exact (HS.out.nth 0 rfl).c2.2.1) (HS.out.nth 0 rfl).c2.2.2 heb.out).mono ?_; rintro e w22 ⟨rfl, hb22⟩; have nS := Aside0.mk (St.step (by repeat (first | (with_reducible exact HS.out) | (with_reducible apply St.drew) | (with_reducible apply St.drewN) | (with_reducible apply St.alloc) | decide)) hb22); clear HS; have HS := nS; clear nS hb22))
    go_upto_region 18 with (fail)
    go_upto_region 19 with (fail)
    go_upto_region 20 with (first | ((with_reducible refine gate_dst (N := 64) rfl ?_); refine wpList_load_row rfl 28 (.tmp 8) rfl g10 rfl 28 #[.bool a, .slice Ax9 la1.length cx9, .slice Ay9 la2.length cy9] (0, 0) _ (HS.out.idx 2 rfl) Try.underlying28 rfl (by kernel_rfl) ?_) | (go_at_call 23; have hr_ := HS.out.ready' 4 rfl; refine (laws_markArray.calls kk1 a (fun k => some k = ((.slice Ax9 la1.length cx9) : Value).ownBlock) (.slice Ax9 la1.length cx9) la1 (fun k => some k = ((.slice Ay9 la2.length cy9) : Value).ownBlock) (.slice Ay9 la2.length cy9) la2 1 k1 m11 m12 w w22 HS.out.below hr_.1 hr_.2.1 hr_.2.2.1 hr_.2.2.2 hm1.out).mono ?_; clear hr_; rintro e w23 ⟨rfl, hx23, hy23, hb23, hk23⟩; have nS := Aside0.mk (HS.out.mark 4 rfl hk23 hx23 hy23 hb23); simp only [List.set_cons_zero, List.set_cons_succ] at nS; clear HS; have HS := nS; clear nS hk23 hx23 hy23 hb23))
    go_upto_region 21 with (first | ((with_reducible refine gate_dst (N := 67) rfl ?_); refine wpList_load_row rfl 28 (.tmp 9) rfl g13 rfl 28 #[.bool b, .slice Ax12 lb1.length cx12, .slice Ay12 lb2.length cy12] (0, 0) _ (HS.out.idx 1 rfl) Try.underlying28 rfl (by kernel_rfl) ?_) | (go_at_call 23; have hr_ := HS.out.ready' 3 rfl; refine (laws_markArray.calls kk2 b (fun k => some k = ((.slice Ax12 lb1.length cx12) : Value).ownBlock) (.slice Ax12 lb1.length cx12) lb1 (fun k => some k = ((.slice Ay12 lb2.length cy12) : Value).ownBlock) (.slice Ay12 lb2.length cy12) lb2 k1 k2 m21 m22 w w23 HS.out.below hr_.1 hr_.2.1 hr_.2.2.1 hr_.2.2.2 hm2.out).mono ?_; clear hr_; rintro e w24 ⟨rfl, hx24, hy24, hb24, hk24⟩; have nS := Aside0.mk (HS.out.mark 3 rfl hk24 hx24 hy24 hb24); simp only [List.set_cons_zero, List.set_cons_succ] at nS; clear HS; have HS := nS; clear nS hk24 hx24 hy24 hb24))
    have gc0_ := cells3 (HS.out.idx 0 rfl); have gd0_ := gc0_.2; replace gc0_ := gc0_.1; have ge0_ := gd0_.2; replace gd0_ := gd0_.1
    have gc1_ := cells3 (HS.out.idx 3 rfl); have gd1_ := gc1_.2; replace gc1_ := gc1_.1; have ge1_ := gd1_.2; replace gd1_ := gd1_.1
    go_upto_region 23 with (first | (go_at_call 21; refine (laws_eqArray.calls kev v1 Ax15 cx15 v2 Ay15 cy15 v3 v1 Az8 cz8 v2 Bz8 dz8 v3 true _ (by (with_reducible repeat (first | refine Kd.C_drew ?_ | refine Kd.C_drewN ?_ _ | refine Kd.C_alloc ?_ _)); exact (HS.out.nth 2 rfl).c1.2.1) (HS.out.nth 2 rfl).c1.2.2 (by (with_reducible repeat (first | refine Kd.C_drew ?_ | refine Kd.C_drewN ?_ _ | refine Kd.C_alloc ?_ _)); exact (HS.out.nth 2 rfl).c2.2.1) (HS.out.nth 2 rfl).c2.2.2 (by (with_reducible repeat (first | refine Kd.C_drew ?_ | refine Kd.C_drewN ?_ _ | refine Kd.C_alloc ?_ _)); exact (HS.out.nth 5 rfl).c1.2.1) (HS.out.nth 5 rfl).c1.2.2 (by (with_reducible repeat (first | refine Kd.C_drew ?_ | refine Kd.C_drewN ?_ _ | refine Kd.C_alloc ?_ _)); exact (HS.out.nth 5 rfl).c2.2.1) (HS.out.nth 5 rfl).c2.2.2 hev.out).mono ?_; rintro e w25 ⟨rfl, hb25⟩; have nS := Aside0.mk (St.step (by repeat (first | (with_reducible exact HS.out) | (with_reducible apply St.drew) | (with_reducible apply St.drewN) | (with_reducible apply St.alloc) | decide)) hb25); clear HS; have HS := nS; clear nS hb25))
    clear gc0_ gd0_ ge0_ gc1_ gd1_ ge1_
    go_upto_region 24 with (fail)
    go_upto_region 25 with (first | ((with_reducible refine gate_dst (N := 83) rfl ?_); refine wpList_load_row rfl 28 (.tmp 10) rfl g16 rfl 28 #[.bool v1, .slice Ax15 v2.length cx15, .slice Ay15 v3.length cy15] (0, 0) _ (HS.out.idx 0 rfl) Try.underlying28 rfl (by kernel_rfl) ?_) | (go_at_call 23; have hr_ := HS.out.ready' 2 rfl; refine (laws_markArray.calls kk3 v1 (fun k => some k = ((.slice Ax15 v2.length cx15) : Value).ownBlock) (.slice Ax15 v2.length cx15) v2 (fun k => some k = ((.slice Ay15 v3.length cy15) : Value).ownBlock) (.slice Ay15 v3.length cy15) v3 1 k3 m31 m32 w w25 HS.out.below hr_.1 hr_.2.1 hr_.2.2.1 hr_.2.2.2 hm3.out).mono ?_; clear hr_; rintro e w26 ⟨rfl, hx26, hy26, hb26, hk26⟩; have nS := Aside0.mk (HS.out.mark 2 rfl hk26 hx26 hy26 hb26); simp only [List.set_cons_zero, List.set_cons_succ] at nS; clear HS; have HS := nS; clear nS hk26 hx26 hy26 hb26))
    go_upto_region 26 with (fail)
    go_upto_region 27 with (first | ((with_reducible refine gate_dst (N := 86) rfl ?_); refine wpList_load_row rfl 28 (.tmp 10) rfl g16 rfl 28 #[.bool v1, .slice Ax15 v2.length cx15, .slice Ay15 v3.length cy15] (0, 0) _ (HS.out.idx 0 rfl) Try.underlying28 rfl (by kernel_rfl) ?_) | (go_at_call 25; refine (held_n kh v1 Ax15 Ay15 _ _ cx15 cy15 m31 m32 1 k3 _ lm31.out lm32.out (by (with_reducible repeat (first | refine Kd.C_drew ?_ | refine Kd.C_drewN ?_ _ | refine Kd.C_alloc ?_ _)); exact (HS.out.nth 2 rfl).c1.2.1) (HS.out.nth 2 rfl).c1.2.2 (by (with_reducible repeat (first | refine Kd.C_drew ?_ | refine Kd.C_drewN ?_ _ | refine Kd.C_alloc ?_ _)); exact (HS.out.nth 2 rfl).c2.2.1) (HS.out.nth 2 rfl).c2.2.2 hhG.out).mono ?_; rintro e w27 ⟨rfl, hb27⟩; have nS := Aside0.mk (St.step (by repeat (first | (with_reducible exact HS.out) | (with_reducible apply St.drew) | (with_reducible apply St.drewN) | (with_reducible apply St.alloc) | decide)) hb27); clear HS; have HS := nS; clear nS hb27))
    go_upto_region 29 with (fail)
    go_upto_region 31 with (fail)
    go_cut [15, 16] (fun v6 v7 wc => Got w [(g16, #[.bool v1, .slice Ax15 v2.length cx15, .slice Ay15 v3.length cy15], 28), (g13, #[.bool b, .slice Ax12 lb1.length cx12, .slice Ay12 lb2.length cy12], 28), (g10, #[.bool a, .slice Ax9 la1.length cx9, .slice Ay9 la2.length cy9], 28), (g8, #[.bool v1, .slice Az8 v2.length cz8, .slice Bz8 v3.length dz8], 28), (g2, #[.bool b, .slice Ab1 lb1.length cb1, .slice Ab2 lb2.length cb2], 24), (g1, #[.bool a, .slice Aa1 la1.length ca1, .slice Aa2 la2.length ca2], 24)] ([⟨w14.heap.size, w15.heap.size, .slice Ax15 v2.length cx15, .slice Ay15 v3.length cy15, m31, m32⟩, ⟨lo8, hi8, .slice Az8 v2.length cz8, .slice Bz8 v3.length dz8, v2, v3⟩] : List PrD) 28 v1 v2 v3 v4 v6 v7 wc)
    case first =>
      go_region_held3 (fun w' => w'.cell? ⟨g1, 0, none⟩ = some (.bool a) ∧ w'.cell? ⟨g1, 1, none⟩ = some (.slice Aa1 la1.length ca1) ∧ w'.cell? ⟨g1, 2, none⟩ = some (.slice Aa2 la2.length ca2) ∧ w'.cell? ⟨g2, 0, none⟩ = some (.bool b) ∧ w'.cell? ⟨g2, 1, none⟩ = some (.slice Ab1 lb1.length cb1) ∧ w'.cell? ⟨g2, 2, none⟩ = some (.slice Ab2 lb2.length cb2)) ((apply St.cells2 (w := w) (t1 := 24) (t2 := 24); (repeat (first | (with_reducible exact HS.out) | (with_reducible apply St.drew) | (with_reducible apply St.drewN) | (with_reducible apply St.alloc) | (with_reducible apply St.set3) | decide)); all_goals simp)) (first | (go_at_call_of 18 (Value.agg #[Value.bool a, Value.slice Aa1 la1.length ca1, Value.slice Aa2 la2.length ca2]); refine (laws_toArray.calls kta a _ _ la1 _ _ la2 a la1 la2 _ (by (with_reducible repeat (first | refine Kd.C_drew ?_ | refine Kd.C_drewN ?_ _ | refine Kd.C_alloc ?_ _)); exact (Kd.C_below Ha1.out HS.out.below)) Ka1.out (by (with_reducible repeat (first | refine Kd.C_drew ?_ | refine Kd.C_drewN ?_ _ | refine Kd.C_alloc ?_ _)); exact (Kd.C_below Ha2.out HS.out.below)) Ka2.out hta.out).mono ?_; rintro e w28 ⟨x28, y28, rfl, hx28, hy28, hb28⟩; obtain ⟨Ax28, cx28, rfl⟩ := Kd.R_slice hx28; obtain ⟨Ay28, cy28, rfl⟩ := Kd.R_slice hy28; have nS := Aside0.mk (St.add (by repeat (first | (with_reducible exact HS.out) | (with_reducible apply St.drew) | (with_reducible apply St.drewN) | (with_reducible apply St.alloc) | decide)) hb28 (Nat.le_refl _) hx28 hy28); clear HS; have HS := nS; clear nS hb28 hx28 hy28) | (go_at_call_of 18 (Value.agg #[Value.bool b, Value.slice Ab1 lb1.length cb1, Value.slice Ab2 lb2.length cb2]); refine (laws_toArray.calls ktb b _ _ lb1 _ _ lb2 b lb1 lb2 _ (by (with_reducible repeat (first | refine Kd.C_drew ?_ | refine Kd.C_drewN ?_ _ | refine Kd.C_alloc ?_ _)); exact (Kd.C_below Hb1.out HS.out.below)) Kb1.out (by (with_reducible repeat (first | refine Kd.C_drew ?_ | refine Kd.C_drewN ?_ _ | refine Kd.C_alloc ?_ _)); exact (Kd.C_below Hb2.out HS.out.below)) Kb2.out htb.out).mono ?_; rintro e w29 ⟨x29, y29, rfl, hx29, hy29, hb29⟩; obtain ⟨Ax29, cx29, rfl⟩ := Kd.R_slice hx29; obtain ⟨Ay29, cy29, rfl⟩ := Kd.R_slice hy29; have nS := Aside0.mk (St.add (by repeat (first | (with_reducible exact HS.out) | (with_reducible apply St.drew) | (with_reducible apply St.drewN) | (with_reducible apply St.alloc) | decide)) hb29 (Nat.le_refl _) hx29 hy29); clear HS; have HS := nS; clear nS hb29 hx29 hy29) | (go_at_call 38; refine (impl_Catenate.calls a Ax28 cx28 la1 Ay28 cy28 la2 b Ax29 cx29 lb1 Ay29 cy29 lb2 v1 v2 v3 v4 _ (by (with_reducible repeat (first | refine Kd.C_drew ?_ | refine Kd.C_drewN ?_ _ | refine Kd.C_alloc ?_ _)); exact (HS.out.nth 1 rfl).c1.2.1) (HS.out.nth 1 rfl).c1.2.2 (by (with_reducible repeat (first | refine Kd.C_drew ?_ | refine Kd.C_drewN ?_ _ | refine Kd.C_alloc ?_ _)); exact (HS.out.nth 1 rfl).c2.2.1) (HS.out.nth 1 rfl).c2.2.2 (by (with_reducible repeat (first | refine Kd.C_drew ?_ | refine Kd.C_drewN ?_ _ | refine Kd.C_alloc ?_ _)); exact (HS.out.nth 0 rfl).c1.2.1) (HS.out.nth 0 rfl).c1.2.2 (by (with_reducible repeat (first | refine Kd.C_drew ?_ | refine Kd.C_drewN ?_ _ | refine Kd.C_alloc ?_ _)); exact (HS.out.nth 0 rfl).c2.2.1) (HS.out.nth 0 rfl).c2.2.2 him.out).mono ?_; rintro e w30 ⟨x30, y30, rfl, hx30, hy30, hb30⟩; obtain ⟨Ax30, cx30, rfl⟩ := Kd.R_slice hx30; obtain ⟨Ay30, cy30, rfl⟩ := Kd.R_slice hy30; have nS := Aside0.mk (St.add (by repeat (first | (with_reducible exact HS.out) | (with_reducible apply St.drew) | (with_reducible apply St.drewN) | (with_reducible apply St.alloc) | decide)) hb30 (Nat.le_refl _) hx30 hy30); clear HS; have HS := nS; clear nS hb30 hx30 hy30; have hz_ := Aside0.mk (HS.out.idx 0 rfl); have hx0_ := (cells3 hz_.out).1; have hx1_ := (cells3 hz_.out).2.1; have hx2_ := (cells3 hz_.out).2.2; have hy0_ := blk_frozen hz_.out 0; have hy1_ := blk_frozen hz_.out 1; have hy2_ := blk_frozen hz_.out 2))
      all_goals
        go_wp2_with fail
        go_meet
        case rel =>
          (try (with_reducible refine Got.drew ?_))
          first | (with_reducible refine gotB HS.out ?_) | (with_reducible refine gotA HS.out ?_ (show 28 ≠ 3 by decide))
          repeat (first | (with_reducible exact List.Sublist.refl _) | (with_reducible exact List.nil_sublist _) | (with_reducible apply List.Sublist.cons_cons) | (with_reducible apply List.Sublist.cons))
    case rest =>
      obtain ⟨g31, Az31, cz31, Bz31, dz31, lo31, hi31, rfl, rfl, hs31⟩ := hcut; have HS := Aside0.mk hs31; clear hs31
      go_upto_region 34 with (first | ((with_reducible refine gate_dst (N := 102) rfl ?_); refine wpList_load_row rfl 28 (.tmp 15) rfl g31 rfl 28 #[.bool v1, .slice Az31 v2.length cz31, .slice Bz31 v3.length dz31] (0, 0) _ (HS.out.idx 0 rfl) Try.underlying28 rfl (by kernel_rfl) ?_) | ((with_reducible refine gate_dst (N := 103) rfl ?_); refine wpList_load_row rfl 28 (.tmp 6) rfl g8 rfl 28 #[.bool v1, .slice Az8 v2.length cz8, .slice Bz8 v3.length dz8] (0, 0) _ (HS.out.idx 4 rfl) Try.underlying28 rfl (by kernel_rfl) ?_) | (go_at_call 21; refine (laws_eqArray.calls kev v1 Az31 cz31 v2 Bz31 dz31 v3 v1 Az8 cz8 v2 Bz8 dz8 v3 true _ (by (with_reducible repeat (first | refine Kd.C_drew ?_ | refine Kd.C_drewN ?_ _ | refine Kd.C_alloc ?_ _)); exact (HS.out.nth 0 rfl).c1.2.1) (HS.out.nth 0 rfl).c1.2.2 (by (with_reducible repeat (first | refine Kd.C_drew ?_ | refine Kd.C_drewN ?_ _ | refine Kd.C_alloc ?_ _)); exact (HS.out.nth 0 rfl).c2.2.1) (HS.out.nth 0 rfl).c2.2.2 (by (with_reducible repeat (first | refine Kd.C_drew ?_ | refine Kd.C_drewN ?_ _ | refine Kd.C_alloc ?_ _)); exact (HS.out.nth 2 rfl).c1.2.1) (HS.out.nth 2 rfl).c1.2.2 (by (with_reducible repeat (first | refine Kd.C_drew ?_ | refine Kd.C_drewN ?_ _ | refine Kd.C_alloc ?_ _)); exact (HS.out.nth 2 rfl).c2.2.1) (HS.out.nth 2 rfl).c2.2.2 hev.out).mono ?_; rintro e w32 ⟨rfl, hb32⟩; have nS := Aside0.mk (St.step (by repeat (first | (with_reducible exact HS.out) | (with_reducible apply St.drew) | (with_reducible apply St.drewN) | (with_reducible apply St.alloc) | decide)) hb32); clear HS; have HS := nS; clear nS hb32))
      go_upto_region 35 with (fail)
      go_upto_region 36 with (first | ((with_reducible refine gate_dst (N := 111) rfl ?_); refine wpList_load_row rfl 28 (.tmp 10) rfl g16 rfl 28 #[.bool v1, .slice Ax15 v2.length cx15, .slice Ay15 v3.length cy15] (0, 0) _ (HS.out.idx 1 rfl) Try.underlying28 rfl (by kernel_rfl) ?_) | (go_at_call 25; refine (held_n kh v1 Ax15 Ay15 _ _ cx15 cy15 m31 m32 1 k3 _ lm31.out lm32.out (by (with_reducible repeat (first | refine Kd.C_drew ?_ | refine Kd.C_drewN ?_ _ | refine Kd.C_alloc ?_ _)); exact (HS.out.nth 1 rfl).c1.2.1) (HS.out.nth 1 rfl).c1.2.2 (by (with_reducible repeat (first | refine Kd.C_drew ?_ | refine Kd.C_drewN ?_ _ | refine Kd.C_alloc ?_ _)); exact (HS.out.nth 1 rfl).c2.2.1) (HS.out.nth 1 rfl).c2.2.2 hhG.out).mono ?_; rintro e w33 ⟨rfl, hb33⟩; have nS := Aside0.mk (St.step (by repeat (first | (with_reducible exact HS.out) | (with_reducible apply St.drew) | (with_reducible apply St.drewN) | (with_reducible apply St.alloc) | decide)) hb33); clear HS; have HS := nS; clear nS hb33))
      go_upto_region 38 with (fail)
      go_upto_region 40 with (fail)
      go_wp2_with fail
      go_ret
      exact ⟨rfl, HS.out.below⟩
set_option maxHeartbeats 8000000 in
set_option maxRecDepth 100000 in
theorem lawCatenate_n1 (a : Bool) (Aa1 : Option Addr) (ca1 : Nat) (la1 : List Int) (Aa2 : Option Addr) (ca2 : Nat) (la2 : List Int) (b : Bool) (Ab1 : Option Addr) (cb1 : Nat) (lb1 : List Int) (Ab2 : Option Addr) (cb2 : Nat) (lb2 : List Int)  (w : World) (ha1 : Kd.C (Kd.int .i64) w Aa1 la1.length la1) (ka1 : la1.length ≤ ca1) (ha2 : Kd.C (Kd.int .i64) w Aa2 la2.length la2) (ka2 : la2.length ≤ ca2) (hb1 : Kd.C (Kd.int .i64) w Ab1 lb1.length lb1) (kb1 : lb1.length ≤ cb1) (hb2 : Kd.C (Kd.int .i64) w Ab2 lb2.length lb2) (kb2 : lb2.length ≤ cb2)
    (hz1 : laws_szArray.f a la1 la2 1048576 = some (-1)) :
    Calls Try.prog 8 #[.agg #[.bool a, .slice Aa1 la1.length ca1, .slice Aa2 la2.length ca2], .agg #[.bool b, .slice Ab1 lb1.length cb1, .slice Ab2 lb2.length cb2]] w fun e w' => e = .returned (.bool true) ∧ Below w.heap.size w w' := by
  have Ha1 := Aside0.mk ha1
  have Ka1 := Aside0.mk ka1
  have Ha2 := Aside0.mk ha2
  have Ka2 := Aside0.mk ka2
  have Hb1 := Aside0.mk hb1
  have Kb1 := Aside0.mk kb1
  have Hb2 := Aside0.mk hb2
  have Kb2 := Aside0.mk kb2
  replace hz1 := Aside0.mk hz1
  clear ha1 ka1 ha2 ka2 hb1 kb1 hb2 kb2
  have HS := Aside0.mk (St.start w)
  go_enter Try.func8, Try.ntmps8
  go_upto_region 1 with (first | ((with_reducible refine gate_dst (N := 2) rfl ?_); refine box_event ?hg (N := 2) ?hd (cs := #[.bool a, .slice Aa1 la1.length ca1, .slice Aa2 la2.length ca2]) (t := 24) ?hr ?_; (case hd => rfl); (case hg => rfl); (case hr => first | (go_simp; done) | (go_simp; rfl)); intro g1 hg1 w1 hx1 hb1; have nS := Aside0.mk (HS.out.box hg1 hx1 hb1 (by decide)); clear HS; have HS := nS; clear nS hg1 hx1 hb1) | ((with_reducible refine gate_dst (N := 3) rfl ?_); refine box_event ?hg (N := 3) ?hd (cs := #[.bool b, .slice Ab1 lb1.length cb1, .slice Ab2 lb2.length cb2]) (t := 24) ?hr ?_; (case hd => rfl); (case hg => rfl); (case hr => first | (go_simp; done) | (go_simp; rfl)); intro g2 hg2 w2 hx2 hb2; have nS := Aside0.mk (HS.out.box hg2 hx2 hb2 (by decide)); clear HS; have HS := nS; clear nS hg2 hx2 hb2))
  go_upto_region 2 with (fail)
  go_wp2_with (first | ((with_reducible refine gate_dst (N := 17) rfl ?_); refine wpList_load_row rfl 24 (.tmp 2) rfl g1 rfl 24 #[.bool a, .slice Aa1 la1.length ca1, .slice Aa2 la2.length ca2] (0, 0) _ (HS.out.idx 1 rfl) Try.underlying24 rfl (by kernel_rfl) ?_) | (go_at_call 15; refine (laws_szArray.calls a _ _ la1 _ _ la2 1048576 (-1) _ (by (with_reducible repeat (first | refine Kd.C_drew ?_ | refine Kd.C_drewN ?_ _ | refine Kd.C_alloc ?_ _)); exact (Kd.C_below Ha1.out HS.out.below)) Ka1.out (by (with_reducible repeat (first | refine Kd.C_drew ?_ | refine Kd.C_drewN ?_ _ | refine Kd.C_alloc ?_ _)); exact (Kd.C_below Ha2.out HS.out.below)) Ka2.out hz1.out).mono ?_; rintro e w3 ⟨rfl, hb3⟩; have nS := Aside0.mk (St.step (by repeat (first | (with_reducible exact HS.out) | (with_reducible apply St.drew) | (with_reducible apply St.drewN) | (with_reducible apply St.alloc) | decide)) hb3); clear HS; have HS := nS; clear nS hb3))
  go_ret
  exact ⟨rfl, HS.out.below⟩
set_option maxHeartbeats 8000000 in
set_option maxRecDepth 100000 in
theorem lawCatenate_n2 (a : Bool) (Aa1 : Option Addr) (ca1 : Nat) (la1 : List Int) (Aa2 : Option Addr) (ca2 : Nat) (la2 : List Int) (b : Bool) (Ab1 : Option Addr) (cb1 : Nat) (lb1 : List Int) (Ab2 : Option Addr) (cb2 : Nat) (lb2 : List Int) (s1 : Int) (w : World) (ha1 : Kd.C (Kd.int .i64) w Aa1 la1.length la1) (ka1 : la1.length ≤ ca1) (ha2 : Kd.C (Kd.int .i64) w Aa2 la2.length la2) (ka2 : la2.length ≤ ca2) (hb1 : Kd.C (Kd.int .i64) w Ab1 lb1.length lb1) (kb1 : lb1.length ≤ cb1) (hb2 : Kd.C (Kd.int .i64) w Ab2 lb2.length lb2) (kb2 : lb2.length ≤ cb2)
    (hz1 : laws_szArray.f a la1 la2 1048576 = some s1) (pz1 : 0 ≤ s1) (hz2 : laws_szArray.f b lb1 lb2 s1 = some (-1)) :
    Calls Try.prog 8 #[.agg #[.bool a, .slice Aa1 la1.length ca1, .slice Aa2 la2.length ca2], .agg #[.bool b, .slice Ab1 lb1.length cb1, .slice Ab2 lb2.length cb2]] w fun e w' => e = .returned (.bool true) ∧ Below w.heap.size w w' := by
  have Ha1 := Aside0.mk ha1
  have Ka1 := Aside0.mk ka1
  have Ha2 := Aside0.mk ha2
  have Ka2 := Aside0.mk ka2
  have Hb1 := Aside0.mk hb1
  have Kb1 := Aside0.mk kb1
  have Hb2 := Aside0.mk hb2
  have Kb2 := Aside0.mk kb2
  replace hz1 := Aside0.mk hz1
  replace hz2 := Aside0.mk hz2
  clear ha1 ka1 ha2 ka2 hb1 kb1 hb2 kb2
  have qpz1 : decide (s1 < 0) = false := decide_eq_false (by omega)
  have HS := Aside0.mk (St.start w)
  go_enter Try.func8, Try.ntmps8
  go_upto_region 1 with (first | ((with_reducible refine gate_dst (N := 2) rfl ?_); refine box_event ?hg (N := 2) ?hd (cs := #[.bool a, .slice Aa1 la1.length ca1, .slice Aa2 la2.length ca2]) (t := 24) ?hr ?_; (case hd => rfl); (case hg => rfl); (case hr => first | (go_simp; done) | (go_simp; rfl)); intro g1 hg1 w1 hx1 hb1; have nS := Aside0.mk (HS.out.box hg1 hx1 hb1 (by decide)); clear HS; have HS := nS; clear nS hg1 hx1 hb1) | ((with_reducible refine gate_dst (N := 3) rfl ?_); refine box_event ?hg (N := 3) ?hd (cs := #[.bool b, .slice Ab1 lb1.length cb1, .slice Ab2 lb2.length cb2]) (t := 24) ?hr ?_; (case hd => rfl); (case hg => rfl); (case hr => first | (go_simp; done) | (go_simp; rfl)); intro g2 hg2 w2 hx2 hb2; have nS := Aside0.mk (HS.out.box hg2 hx2 hb2 (by decide)); clear HS; have HS := nS; clear nS hg2 hx2 hb2))
  go_upto_region 2 with (fail)
  go_upto_region 3 with (first | ((with_reducible refine gate_dst (N := 17) rfl ?_); refine wpList_load_row rfl 24 (.tmp 2) rfl g1 rfl 24 #[.bool a, .slice Aa1 la1.length ca1, .slice Aa2 la2.length ca2] (0, 0) _ (HS.out.idx 1 rfl) Try.underlying24 rfl (by kernel_rfl) ?_) | (go_at_call 15; refine (laws_szArray.calls a _ _ la1 _ _ la2 1048576 s1 _ (by (with_reducible repeat (first | refine Kd.C_drew ?_ | refine Kd.C_drewN ?_ _ | refine Kd.C_alloc ?_ _)); exact (Kd.C_below Ha1.out HS.out.below)) Ka1.out (by (with_reducible repeat (first | refine Kd.C_drew ?_ | refine Kd.C_drewN ?_ _ | refine Kd.C_alloc ?_ _)); exact (Kd.C_below Ha2.out HS.out.below)) Ka2.out hz1.out).mono ?_; rintro e w3 ⟨rfl, hb3⟩; have nS := Aside0.mk (St.step (by repeat (first | (with_reducible exact HS.out) | (with_reducible apply St.drew) | (with_reducible apply St.drewN) | (with_reducible apply St.alloc) | decide)) hb3); clear HS; have HS := nS; clear nS hb3))
  go_upto_region 5 with (fail)
  go_wp2_with (first | ((with_reducible refine gate_dst (N := 22) rfl ?_); refine wpList_load_row rfl 24 (.tmp 3) rfl g2 rfl 24 #[.bool b, .slice Ab1 lb1.length cb1, .slice Ab2 lb2.length cb2] (0, 0) _ (HS.out.idx 0 rfl) Try.underlying24 rfl (by kernel_rfl) ?_) | (go_at_call 15; refine (laws_szArray.calls b _ _ lb1 _ _ lb2 s1 (-1) _ (by (with_reducible repeat (first | refine Kd.C_drew ?_ | refine Kd.C_drewN ?_ _ | refine Kd.C_alloc ?_ _)); exact (Kd.C_below Hb1.out HS.out.below)) Kb1.out (by (with_reducible repeat (first | refine Kd.C_drew ?_ | refine Kd.C_drewN ?_ _ | refine Kd.C_alloc ?_ _)); exact (Kd.C_below Hb2.out HS.out.below)) Kb2.out hz2.out).mono ?_; rintro e w4 ⟨rfl, hb4⟩; have nS := Aside0.mk (St.step (by repeat (first | (with_reducible exact HS.out) | (with_reducible apply St.drew) | (with_reducible apply St.drewN) | (with_reducible apply St.alloc) | decide)) hb4); clear HS; have HS := nS; clear nS hb4))
  go_ret
  exact ⟨rfl, HS.out.below⟩
theorem lawCatenate (a : Bool) (Aa1 : Option Addr) (ca1 : Nat) (la1 : List Int) (Aa2 : Option Addr) (ca2 : Nat) (la2 : List Int) (b : Bool) (Ab1 : Option Addr) (cb1 : Nat) (lb1 : List Int) (Ab2 : Option Addr) (cb2 : Nat) (lb2 : List Int) (w : World) (ha1 : Kd.C (Kd.int .i64) w Aa1 la1.length la1) (ka1 : la1.length ≤ ca1) (ha2 : Kd.C (Kd.int .i64) w Aa2 la2.length la2) (ka2 : la2.length ≤ ca2) (hb1 : Kd.C (Kd.int .i64) w Ab1 lb1.length lb1) (kb1 : lb1.length ≤ cb1) (hb2 : Kd.C (Kd.int .i64) w Ab2 lb2.length lb2) (kb2 : lb2.length ≤ cb2) (na1 : la1.length ≤ maxLen) (na2 : la2.length ≤ maxLen) (nb1 : lb1.length ≤ maxLen) (nb2 : lb2.length ≤ maxLen) :
    Calls Try.prog 8 #[.agg #[.bool a, .slice Aa1 la1.length ca1, .slice Aa2 la2.length ca2], .agg #[.bool b, .slice Ab1 lb1.length cb1, .slice Ab2 lb2.length cb2]] w fun e w' => e = .returned (.bool true) ∧ Below w.heap.size w w' := by
  by_cases z1 : (la1.length : Int) + la2.length ≤ (1048576 : Int)
  · have f1 : laws_szArray.f a la1 la2 ((1048576 : Int)) = some ((1048576 : Int) - la1.length - la2.length) := (szArray_eq a la1 la2 _ (by omega) (by omega) na1 na2).trans (by rw [if_pos z1])
    by_cases z2 : (lb1.length : Int) + lb2.length ≤ (1048576 : Int) - la1.length - la2.length
    · have f2 : laws_szArray.f b lb1 lb2 ((1048576 : Int) - la1.length - la2.length) = some ((1048576 : Int) - la1.length - la2.length - lb1.length - lb2.length) := (szArray_eq b lb1 lb2 _ (by omega) (by omega) nb1 nb2).trans (by rw [if_pos z2])
      obtain ⟨v1, v2, v3, v4, hv⟩ : ∃ v1 v2 v3 v4, catV a la1 la2 b lb1 lb2 = (v1, v2, v3, v4) := ⟨_, _, _, _, rfl⟩
      have hs := specCatenate_ev a la1 la2 b lb1 lb2 (by omega) (by omega) (by omega) (by omega)
      have him : impl_Catenate.f a la1 la2 b lb1 lb2 = some (catV a la1 la2 b lb1 lb2) := by unfold impl_Catenate.f; rw [if_pos (okLens_of (by omega) (by omega) (by omega) (by omega))]
      have hn := catV_len a la1 la2 b lb1 lb2
      rw [hv] at hs him hn
      simp only at hn
      obtain ⟨ks, hsp⟩ := hs.rounds
      obtain ⟨kta, hta⟩ := (toArray_ev a la1 la2 (by omega) (by omega)).rounds
      obtain ⟨kea, hea⟩ := (eqArray_self a la1 la2 (by omega) (by omega)).rounds
      obtain ⟨ktb, htb⟩ := (toArray_ev b lb1 lb2 (by omega) (by omega)).rounds
      obtain ⟨keb, heb⟩ := (eqArray_self b lb1 lb2 (by omega) (by omega)).rounds
      obtain ⟨kev, hev⟩ := (eqArray_self v1 v2 v3 (by omega) (by omega)).rounds
      obtain ⟨kk1, hm1⟩ := (markArray_ev a la1 la2 (1) (by omega) (by omega) (by omega) (by omega)).rounds
      obtain ⟨kk2, hm2⟩ := (markArray_ev b lb1 lb2 ((1 : Int) + la1.length + la2.length) (by omega) (by omega) (by omega) (by omega)).rounds
      obtain ⟨kk3, hm3⟩ := (markArray_ev v1 v2 v3 1 (by omega) (by omega) (by omega) (by omega)).rounds
      obtain ⟨kh, hh⟩ := (heldArray_ev v1 v2.length v3.length 1 (by omega) (by omega) (by omega) (by omega)).rounds
      exact lawCatenate_y kta ktb kea keb ks kev kh kk1 kk2 kk3 a Aa1 ca1 la1 Aa2 ca2 la2 b Ab1 cb1 lb1 Ab2 cb2 lb2 v1 v2 v3 v4 _ _ _ _ _ _ _ _ _ _ _ w ha1 ka1 ha2 ka2 hb1 kb1 hb2 kb2 hta hea htb heb hsp him hev f1 (by omega) f2 (by omega) hm1 (by omega) (upFrom_len _ _).symm (upFrom_len _ _).symm hm2 (by omega) (upFrom_len _ _).symm (upFrom_len _ _).symm hm3 (by omega) (upFrom_len _ _).symm (upFrom_len _ _).symm hh
    · exact lawCatenate_n2 a Aa1 ca1 la1 Aa2 ca2 la2 b Ab1 cb1 lb1 Ab2 cb2 lb2 _ w ha1 ka1 ha2 ka2 hb1 kb1 hb2 kb2 f1 (by omega) ((szArray_eq b lb1 lb2 _ (by omega) (by omega) nb1 nb2).trans (by rw [if_neg z2]))
  · exact lawCatenate_n1 a Aa1 ca1 la1 Aa2 ca2 la2 b Ab1 cb1 lb1 Ab2 cb2 lb2  w ha1 ka1 ha2 ka2 hb1 kb1 hb2 kb2 ((szArray_eq a la1 la2 _ (by omega) (by omega) na1 na2).trans (by rw [if_neg z1]))
end Go.Proofs.Ytehfcnndjhjkoaa.PA

namespace Go.Proofs.Ytehfcnndjhjkoaa.PA
open Go.ChangeShapes Go.WideShapes Go.ChangeAt Go.RowKit Go.Deep Go.Proofs.YtehfcnndjhjkoaaW.PrintWords Go.Proofs.YtehfcnndjhjkoaaW.PrintLast Go.Proofs.YtehfcnndjhjkoaaW.PrintMore

/-- A slice of whole numbers that came in: what it reads as. -/
structure Sl (W : World) (A : Option Addr) (l : List Int) (c : Nat) : Prop where
  reads : ReadsInt W .i64 A l.length l
  max : l.length ≤ maxLen
  wf : ∀ x ∈ l, (Lit.int .i64 x).wf = true
  cap : l.length ≤ c

theorem slice_cell {H : Type} {enc : TypeId × Value → H} {P : Program} {W : World} {fuel : Nat} {t e : TypeId} {cs : List Value} {x : DataW H × List MemPlace}
    (ht : P.underlying t = some (.slice e)) (he : P.underlying e = some (.int .i64)) (hc : P.cellsOf e = 1)
    (hf : DataW.trod enc P W 0 (fun _ => true) true fuel t cs = some x) : ∃ A l c, cs = [.slice A l.length c] ∧ Sl W A l c := by
  rcases open_ints ht he hc hf with ⟨hcs, _⟩ | ⟨a, n, c, zs, hcs, _, hl, hm, hz, _, hcell, hwz⟩
  · obtain ⟨l, e1, h1, h2, h3, h4⟩ := ReadsInt.ofRowC (k := .i64) (w := W) (a := none) (len := 0) (cap := 0) (zs := []) (.inl ⟨rfl, rfl, rfl, rfl⟩)
    refine ⟨none, l, 0, ?_, h1, h2, h3, h4⟩
    rw [← e1]; exact hcs
  · obtain ⟨l, e1, h1, h2, h3, h4⟩ := ReadsInt.ofRowC (k := .i64) (w := W) (a := some a) (len := n) (cap := c) (zs := zs) (.inr ⟨a, rfl, hl, hm, by simpa using hz, hcell, hwz⟩)
    refine ⟨some a, l, c, ?_, h1, h2, h3, h4⟩
    rw [← e1]; exact hcs


theorem open_bss {H : Type} {enc : TypeId × Value → H} {P : Program} {W : World} {t e : TypeId} {f0 f1 f2 : Field} {v : Value} {d : DataW H} {p : List MemPlace} {r : Reach} {b0 : Nat}
    (hs : P.underlying t = some (.struct #[f0, f1, f2])) (hone : oneCellFields P #[f0, f1, f2] = true) (hC : P.cellsOf t = 3)
    (h0 : P.underlying f0.type = some .bool) (h1 : P.underlying f1.type = some (.slice e)) (h2 : P.underlying f2.type = some (.slice e)) (he : P.underlying e = some (.int .i64)) (hc : P.cellsOf e = 1)
    (hv : Value.okWide P W r b0 t v) (h : DataW.Trod enc P W 0 (fun _ => true) true t v d p) :
    ∃ (a : Bool) (A1 : Option Addr) (l1 : List Int) (c1 : Nat) (A2 : Option Addr) (l2 : List Int) (c2 : Nat), v = .agg #[.bool a, .slice A1 l1.length c1, .slice A2 l2.length c2] ∧ Sl W A1 l1 c1 ∧ Sl W A2 l2 c2 := by
  obtain ⟨v0, v1, v2, y0, y1, y2, n, rfl, _, _, k0, k1, k2⟩ := Go.Joins.open_agg3 hs hone hC hv h
  obtain ⟨A1, l1, c1, e1, s1⟩ := slice_cell h1 he hc k1
  obtain ⟨A2, l2, c2, e2, s2⟩ := slice_cell h2 he hc k2
  obtain ⟨a, e0, _⟩ := DataW.trod_bool h0 k0
  simp only [List.cons.injEq, and_true] at e0 e1 e2
  subst e0 e1 e2
  exact ⟨a, A1, l1, c1, A2, l2, c2, rfl, s1, s2⟩

end Go.Proofs.Ytehfcnndjhjkoaa.PA
