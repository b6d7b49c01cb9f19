import Derived.Test.YtehfcnndjhjkoaaKFnCut2
import Derived.Deep.CutRange
import Derived.IntWalk
import Derived.StillTailTactics
import Derived.Deep.QuietTactic
import Derived.BigQuiet

namespace Go.Proofs.Ytehfcnndjhjkoaa.PA
open Go.RowKit Go.Proofs.YtehfcnndjhjkoaaW.PrintWords Go.Proofs.YtehfcnndjhjkoaaW.PrintLast Go.Proofs.YtehfcnndjhjkoaaW.PrintMore
set_option linter.unusedVariables false
set_option linter.unusedSimpArgs false
theorem Sx.perm {w W : World} {Ts Us : List Th} (h : Sx w W Ts) (p : Ts.Perm Us) : Sx w W Us :=
  ⟨h.below, fun T hT => h.ok T (p.mem_iff.2 hT), (p.pairwise_iff (fun h k hb ha => h k ha hb)).1 h.nod⟩

set_option maxRecDepth 100000 in
theorem mid_ (A : Option Addr) (c : Nat) (l : List Int) (x0 x1 k : Nat) (h : x0 + k = x1) (h1 : x1 ≤ l.length) (hc : l.length ≤ c) :
    ∃ A', (∀ W : World, (Instr.slice 22 (.slice A l.length c) (some (.int .i64 (x0 : Int))) (some (.int .i64 (x1 : Int))) none).run Try.prog W = .ok (.slice A' k (c - x0)) W) ∧ (∀ w, Kd.C (Kd.int .i64) w A l.length l → Kd.C (Kd.int .i64) w A' ((l.drop x0).take k).length ((l.drop x0).take k)) ∧ ((l.drop x0).take k).length = k := by
  obtain ⟨i0, hi0, _, hsz, _⟩ := info_parts info3
  obtain ⟨A', h2, h3, h4⟩ := print_mid_of (P := Try.prog) (Value.int .i64) 0 22 3 .i64 .i64 Try.underlying22 hi0 hsz A c l (x0 : Int) (x1 : Int) (by omega) (by omega) (by omega) hc
  have e : (l.take ((x1 : Int)).toNat).drop ((x0 : Int)).toNat = (l.drop x0).take k := by
    rw [Int.toNat_natCast, Int.toNat_natCast, List.drop_take]; congr; omega
  rw [e] at h2 h3
  have hk : ((l.drop x0).take k).length = k := by simp; omega
  exact ⟨A', fun W => by have := h2 W; rw [hk, Int.toNat_natCast] at this; exact this, fun w hw => Kd.C_of_reads (h1 := fun _ => rfl) (h3 w (Kd.reads_of_C hw)), hk⟩
theorem store_cell_step {P : Program} {ops : Array Oper} {o : Oper} {a : Act} {Q : Exit → Act → World → Prop} {Kc : Act → World → Prop} {W : World} (hw : Region.wanted o (yielded ops a.tmps) = true) (ty : TypeId) (x y : Operand) (ho : o.op = .store ty x y) (g j : Nat) (hx : a.eval x = .pointer (some ⟨g, j, none⟩)) (v : Value) (hy : a.eval y = v)
    (cs : Array Value) (t : TypeId) (hg : W.heap[g]? = some (.cells cs t (0, 0))) (hj : j < cs.size) (h1 : v.oneCell' = true) (hi : (P.info? ty).map (·.size) = some 1)
    (h : ∀ w1, w1.heap[g]? = some (.cells (cs.setIfInBounds j v) t (0, 0)) → But1 g W w1 → Kc (a.put o.dst undef) w1) : if Region.wanted o (yielded ops a.tmps) = true then Oper.wp P o a W Kc Q else Kc (a.put o.dst undef) W := by
  rw [if_pos hw]
  unfold Oper.wp execOp
  simp only [ho, hx, hy, Instr.storeAt, Instr.sureAddr, Sem.run_bind, Sem.run_pure, Result.andThen_ok, run_store_cell hg hj h1 hi]
  exact h _ (blk_set hg j v) ⟨fun k hk => Below.heap_setCell W _ v k hk, fun B hB => (Below.refl B W).setCell (p := ⟨g, j, none⟩) hB v⟩
/-- Two rows stand behind a store into a block of before. -/
theorem Sx.two_but {w W W' : World} {Ts : List Th} (h : Sx w W Ts) (i j : Nat) (hne : i ≠ j) {v1 v2 : Value} {l1 l2 : List Int} (hi : Ts[i]? = some (.row v1 l1)) (hj : Ts[j]? = some (.row v2 l2)) {g : Nat} (hb : But1 g W W') (hg : g < w.heap.size) (B : Nat) (hB : B ≤ w.heap.size) :
    Kd.R (Kd.int .i64) 3 W' B (fun k => some k ≠ v2.ownBlock) v1 l1 ∧ Kd.R (Kd.int .i64) 3 W' B (fun k => some k ≠ v1.ownBlock) v2 l2 := by
  have hi' : Th.ok w.heap.size W' (.row v1 l1) := Th.keep (h.get i hi) fun k hk _ => hb.same k (by have := (Th.lt (h.get i hi) k hk).1; omega)
  have hj' : Th.ok w.heap.size W' (.row v2 l2) := Th.keep (h.get j hj) fun k hk _ => hb.same k (by have := (Th.lt (h.get j hj) k hk).1; omega)
  obtain ⟨hil, hie⟩ := List.getElem?_eq_some_iff.1 hi
  obtain ⟨hjl, hje⟩ := List.getElem?_eq_some_iff.1 hj
  have hnod := List.pairwise_iff_getElem.1 h.nod
  have hd : ∀ k, v1.ownBlock = some k → ¬ v2.ownBlock = some k := fun k h1 h2 => by
    rcases Nat.lt_or_gt_of_ne hne with hl | hl
    · have := hnod i j hil hjl hl; rw [hie, hje] at this; exact this k h1 h2
    · have := hnod j i hjl hil hl; rw [hie, hje] at this; exact this k h2 h1
  exact ⟨Kd.R_lower (Kd.R_reok rfl hi' fun k hk e => hd k hk e.symm) hB, Kd.R_lower (Kd.R_reok rfl hj' fun k hk e => hd k e.symm hk) hB⟩
theorem catRows_len (A B : List Int) (m n N : Nat) (hA : N * m ≤ A.length) (hB : N * n ≤ B.length) : ∀ r, r ≤ N → (catRows A B m n r).length = r * (m + n)
  | 0, _ => by simp [catRows]
  | r + 1, h => by
    have h1 : (r + 1) * m ≤ N * m := Nat.mul_le_mul_right m h
    have h2 : (r + 1) * n ≤ N * n := Nat.mul_le_mul_right n h
    rw [Nat.succ_mul] at h1 h2
    simp only [catRows, List.length_append, List.length_take, List.length_drop]
    rw [catRows_len A B m n N hA hB r (by omega), Nat.min_eq_left (by omega), Nat.min_eq_left (by omega), Nat.succ_mul]

theorem rows_n {r N1 ma nb n : Nat} {L2 M2 : List Int} (ha : N1 * ma = L2.length) (hb : N1 * nb = M2.length) (hl : L2.length ≤ 10000) (hm : M2.length ≤ 10000) (hlt : r < N1) (hn : (catRows L2 M2 ma nb r).length = n) : n + ma + nb ≤ 20000 := by
  rw [catRows_len L2 M2 ma nb N1 (by omega) (by omega) r (by omega)] at hn
  have h : (r + 1) * (ma + nb) ≤ N1 * (ma + nb) := Nat.mul_le_mul_right _ hlt
  rw [Nat.succ_mul, Nat.mul_add N1, hn] at h
  omega
theorem rows_at {r N1 ma : Nat} {L2 : List Int} (ha : N1 * ma = L2.length) (hl : L2.length ≤ 10000) (hlt : r < N1) : ∃ x0 x1 : Nat, x0 = r * ma ∧ x0 + ma = x1 ∧ x1 ≤ L2.length ∧ IntKind.i64.wrap ((r : Int) * (ma : Int)) = (x0 : Int) ∧ IntKind.i64.wrap (((r + 1 : Nat) : Int) * (ma : Int)) = (x1 : Int) ∧ IntKind.i64.wrap ((x0 : Int) + (ma : Int)) = (x1 : Int) := by
  have h : (r + 1) * ma ≤ N1 * ma := Nat.mul_le_mul_right ma hlt
  have e : (r + 1) * ma = r * ma + ma := Nat.succ_mul r ma
  refine ⟨r * ma, (r + 1) * ma, rfl, e.symm, by omega, ?_, ?_, ?_⟩
  · rw [← Int.natCast_mul, IntWalk.i64_in _ (by omega)]
  · rw [← Int.natCast_mul, IntWalk.i64_in _ (by omega)]
  · rw [IntWalk.i64_in _ (by omega)]; omega
set_option maxHeartbeats 2000000 in
set_option maxRecDepth 100000 in
theorem cat_on (k0 : Nat) (a : Bool) (Aa1 : Option Addr) (ca1 : Nat) (la1 : List Int) (Aa2 : Option Addr) (ca2 : Nat) (la2 : List Int) (b : Bool) (Ab1 : Option Addr) (cb1 : Nat) (lb1 : List Int) (Ab2 : Option Addr) (cb2 : Nat) (lb2 : List Int) (w : World) (ha1 : Kd.C (Kd.int .i64) w Aa1 la1.length la1) (ka1 : la1.length ≤ ca1) (ha2 : Kd.C (Kd.int .i64) w Aa2 la2.length la2) (ka2 : la2.length ≤ ca2) (hb1 : Kd.C (Kd.int .i64) w Ab1 lb1.length lb1) (kb1 : lb1.length ≤ cb1) (hb2 : Kd.C (Kd.int .i64) w Ab2 lb2.length lb2) (kb2 : lb2.length ≤ cb2) (hv : impl_valid.f k0 [⟨a, la1, la2⟩, ⟨b, lb1, lb2⟩] = some 0) (L1 L2 M1 M2 : List Int) (hA : BesOk #[.agg #[.bool a, .slice Aa1 la1.length ca1, .slice Aa2 la2.length ca2], .agg #[.bool b, .slice Ab1 lb1.length cb1, .slice Ab2 lb2.length cb2]] a L1 L2 w) (hB : BesOk #[.agg #[.bool b, .slice Ab1 lb1.length cb1, .slice Ab2 lb2.length cb2], .agg #[.bool a, .slice Aa1 la1.length ca1, .slice Aa2 la2.length ca2]] b M1 M2 w) (heq : L1.length = M1.length) (P1 Q1 : List Int) (hwa : impl_Array_without.f a L1 L2 false = some P1) (hwb : impl_Array_without.f b M1 M2 false = some Q1) (k2 : Nat) (hq : slices_Equal_int_int.f k2 P1 Q1 = some true) (hway : a = b ∨ (a ≠ b ∧ L2.length = 0) ∨ (a ≠ b ∧ 0 < L2.length ∧ M2.length = 0)) (m : Nat) (hp5 : P1.length ≤ 5) (ma nb : Nat) (hma : rd L1 (m : Int) = (ma : Int)) (hnb : rd M1 (m : Int) = (nb : Int)) (z : Int) (hz : IntKind.i64.wrap ((ma : Int) + (nb : Int)) = z) (hl1m : L1.length = m + 1) (hm1m : M1.length = m + 1) (hl15 : L1.length ≤ 5) (hm15 : M1.length ≤ 5) (sw : Bool) (hsw : sw = (decide (L2.length = 0) && decide (0 < M2.length))) (kc : Bool) (hkc : kc = if sw then b else a) (k1 : Nat) (zN : Int) (zok : Bool) (hsh : impl_shapeOk.f k1 (P1 ++ [z]) = some (zN, zok)) (k3 N1 : Nat) (hsh1 : impl_shapeOk.f k3 P1 = some ((N1 : Int), true)) (hnr : N1 ≤ 10000) (hpa : N1 * ma = L2.length) (hpb : N1 * nb = M2.length) (hl2_ : L2.length ≤ 10000) (hm2_ : M2.length ≤ 10000) (K_ : Bool) (S1_ S2_ : List Int) (cd_ : Int) (h7 : zok = false → K_ = false ∧ S1_ = [] ∧ S2_ = [] ∧ cd_ = 7) (h0 : zok = true → K_ = kc ∧ S1_ = P1 ++ [z] ∧ S2_ = catRows L2 M2 ma nb N1 ∧ cd_ = 0) :
    Calls Try.prog 38 #[.agg #[.bool a, .slice Aa1 la1.length ca1, .slice Aa2 la2.length ca2], .agg #[.bool b, .slice Ab1 lb1.length cb1, .slice Ab2 lb2.length cb2]] w fun e w' => ∃ v1_ v2_ : Value, e = .returned (.tuple #[.agg #[.bool K_, v1_, v2_], .int .i64 cd_]) ∧ Kd.R (Kd.int .i64) 3 w' w.heap.size (fun k_ => some k_ ≠ (v2_ : Value).ownBlock) v1_ S1_ ∧ Kd.R (Kd.int .i64) 3 w' w.heap.size (fun k_ => some k_ ≠ (v1_ : Value).ownBlock) v2_ S2_ ∧ Below w.heap.size w w' := by
  have Ha1 := Aside0.mk ha1
  have Ka1 := Aside0.mk ka1
  clear ha1 ka1
  have Ha2 := Aside0.mk ha2
  have Ka2 := Aside0.mk ka2
  clear ha2 ka2
  have Hb1 := Aside0.mk hb1
  have Kb1 := Aside0.mk kb1
  clear hb1 kb1
  have Hb2 := Aside0.mk hb2
  have Kb2 := Aside0.mk kb2
  clear hb2 kb2
  have HV := Aside0.mk hv
  clear hv
  have HA := Aside0.mk hA
  have HB := Aside0.mk hB
  clear hA hB
  have d0 : ((L1.length : Int) == (M1.length : Int)) = true := beq_iff_eq.mpr (by omega)
  have d1 : ((L1.length : Int) != (M1.length : Int)) = false := by rw [bne, d0]; rfl
  have HLM := Aside0.mk heq
  have HWA := Aside0.mk hwa
  have HWB := Aside0.mk hwb
  clear heq hwa hwb
  have HEQ := Aside0.mk hq
  clear hq
  have HP5 := Aside0.mk hp5
  clear hp5
  have HL1M := Aside0.mk hl1m
  clear hl1m
  have HM1M := Aside0.mk hm1m
  clear hm1m
  have HL15 := Aside0.mk hl15
  clear hl15
  have HM15 := Aside0.mk hm15
  clear hm15
  have HSW := Aside0.mk hsw
  clear hsw
  have HKC := Aside0.mk hkc
  clear hkc
  have HSH := Aside0.mk hsh
  clear hsh
  have HSH1 := Aside0.mk hsh1
  clear hsh1
  have HNR := Aside0.mk hnr
  clear hnr
  have HPA := Aside0.mk hpa
  clear hpa
  have HPB := Aside0.mk hpb
  clear hpb
  have HL2 := Aside0.mk hl2_
  clear hl2_
  have HM2 := Aside0.mk hm2_
  clear hm2_
  have H7 := Aside0.mk h7
  clear h7
  have H0 := Aside0.mk h0
  clear h0
  have HWAY := Aside0.mk hway
  clear hway
  have HPZ := Aside0.mk (show (P1 ++ [z]).length = P1.length + 1 by simp)
  have HS := Aside0.mk (Sx.start w)
  go_enter Try.func38, Try.ntmps38
  go_upto_region 4 with (first | ((with_reducible refine gate_dst (N := 2) rfl ?_); refine box_event ?hg (N := 2) ?hd (cs := #[.bool a, .slice Aa1 la1.length ca1, .slice Aa2 la2.length ca2]) (t := 28) ?hr ?_; (case hd => rfl); (case hg => rfl); (case hr => first | (go_simp; done) | (go_simp; rfl)); intro gK hg1 w1 hx1 hb1; have nS : Aside0 (Sx w w1 [(.blk gK #[.bool a, .slice Aa1 la1.length ca1, .slice Aa2 la2.length ca2] 28)]) := Aside0.mk (HS.out.box hg1 hx1 hb1); clear HS; have HS := nS; clear nS hg1 hx1 hb1) | ((with_reducible refine gate_dst (N := 3) rfl ?_); refine box_event ?hg (N := 3) ?hd (cs := #[.bool b, .slice Ab1 lb1.length cb1, .slice Ab2 lb2.length cb2]) (t := 28) ?hr ?_; (case hd => rfl); (case hg => rfl); (case hr => first | (go_simp; done) | (go_simp; rfl)); intro gB hg2 w2 hx2 hb2; have nS : Aside0 (Sx w w2 [(.blk gB #[.bool b, .slice Ab1 lb1.length cb1, .slice Ab2 lb2.length cb2] 28), (.blk gK #[.bool a, .slice Aa1 la1.length ca1, .slice Aa2 la2.length ca2] 28)]) := Aside0.mk (HS.out.box hg2 hx2 hb2); clear HS; have HS := nS; clear nS hg2 hx2 hb2) | ((with_reducible refine gate_dst (N := 4) rfl ?_); refine box_event ?hg (N := 4) ?hd (cs := #[.bool false, .slice none 0 0, .slice none 0 0]) (t := 28) ?hr ?_; (case hd => rfl); (case hg => rfl); (case hr => first | (go_simp; done) | (go_simp; rfl)); intro gR hg3 w3 hx3 hb3; have nS : Aside0 (Sx w w3 [(.blk gR #[.bool false, .slice none 0 0, .slice none 0 0] 28), (.blk gB #[.bool b, .slice Ab1 lb1.length cb1, .slice Ab2 lb2.length cb2] 28), (.blk gK #[.bool a, .slice Aa1 la1.length ca1, .slice Aa2 la2.length ca2] 28)]) := Aside0.mk (HS.out.box hg3 hx3 hb3); clear HS; have HS := nS; clear nS hg3 hx3 hb3) | ((with_reducible refine gate_dst (N := 17) rfl ?_); refine wpList_load_row rfl 28 (.tmp 2) rfl gK rfl 28 #[.bool a, .slice Aa1 la1.length ca1, .slice Aa2 la2.length ca2] (0, 0) _ (HS.out.blk 2 rfl) Try.underlying28 rfl (by kernel_rfl) ?_) | ((with_reducible refine gate_dst (N := 18) rfl ?_); refine wpList_load_row rfl 28 (.tmp 3) rfl gB rfl 28 #[.bool b, .slice Ab1 lb1.length cb1, .slice Ab2 lb2.length cb2] (0, 0) _ (HS.out.blk 1 rfl) Try.underlying28 rfl (by kernel_rfl) ?_) | ((with_reducible refine gate_dst (N := 19) rfl ?_); refine lit_event ?hg (N := 19) ?hd (cs := #[.bool a, .slice Aa1 la1.length ca1, .slice Aa2 la2.length ca2, .bool b, .slice Ab1 lb1.length cb1, .slice Ab2 lb2.length cb2]) (t := 28) (n := 2) ?hr ?_; (case hd => rfl); (case hg => rfl); (case hr => first | (go_simp; done) | (go_simp; rfl)); intro gV hg4 w4 hx4 hb4; have nS : Aside0 (Sx w w4 [(.blk gV #[.bool a, .slice Aa1 la1.length ca1, .slice Aa2 la2.length ca2, .bool b, .slice Ab1 lb1.length cb1, .slice Ab2 lb2.length cb2] 28), (.blk gR #[.bool false, .slice none 0 0, .slice none 0 0] 28), (.blk gB #[.bool b, .slice Ab1 lb1.length cb1, .slice Ab2 lb2.length cb2] 28), (.blk gK #[.bool a, .slice Aa1 la1.length ca1, .slice Aa2 la2.length ca2] 28)]) := Aside0.mk (HS.out.box hg4 hx4 hb4); clear HS; have HS := nS; clear nS hg4 hx4 hb4) | (go_at_call 58; refine (impl_valid.calls k0 _ 2 [⟨a, la1, la2⟩, ⟨b, lb1, lb2⟩] 0 _ (pair_C (HS.out.blk 0 rfl) (Kd.C_below Ha1.out HS.out.below) Ka1.out (Kd.C_below Ha2.out HS.out.below) Ka2.out (Kd.C_below Hb1.out HS.out.below) Kb1.out (Kd.C_below Hb2.out HS.out.below) Kb2.out) (Nat.le_refl _) HV.out).mono ?_; rintro e w5 ⟨rfl, hb5⟩; have nS : Aside0 (Sx w w5 [(.blk gV #[.bool a, .slice Aa1 la1.length ca1, .slice Aa2 la2.length ca2, .bool b, .slice Ab1 lb1.length cb1, .slice Ab2 lb2.length cb2] 28), (.blk gR #[.bool false, .slice none 0 0, .slice none 0 0] 28), (.blk gB #[.bool b, .slice Ab1 lb1.length cb1, .slice Ab2 lb2.length cb2] 28), (.blk gK #[.bool a, .slice Aa1 la1.length ca1, .slice Aa2 la2.length ca2] 28)]) := Aside0.mk (HS.out.step hb5); clear HS; have HS := nS; clear nS hb5))
  have nS := Aside0.mk HS.out.drew
  clear HS
  have HS := nS
  clear nS
  refine start_ (n := 8) (S := (fun w' => w'.cell? ⟨gK, 0, none⟩ = some (.bool a) ∧ w'.cell? ⟨gK, 1, none⟩ = some (.slice Aa1 la1.length ca1) ∧ w'.cell? ⟨gK, 2, none⟩ = some (.slice Aa2 la2.length ca2) ∧ w'.cell? ⟨gB, 0, none⟩ = some (.bool b) ∧ w'.cell? ⟨gB, 1, none⟩ = some (.slice Ab1 lb1.length cb1) ∧ w'.cell? ⟨gB, 2, none⟩ = some (.slice Ab2 lb2.length cb2))) (ds := [6, 7]) #[false, false, false, false, false, false, false, false] (by kernel_rfl) rfl rfl ⟨(blk_cell (HS.out.blk 3 rfl) 0).trans rfl, (blk_cell (HS.out.blk 3 rfl) 1).trans rfl, (blk_cell (HS.out.blk 3 rfl) 2).trans rfl, (blk_cell (HS.out.blk 2 rfl) 0).trans rfl, (blk_cell (HS.out.blk 2 rfl) 1).trans rfl, (blk_cell (HS.out.blk 2 rfl) 2).trans rfl⟩ (fun hHeld => ?_)
  refine take_ (i := 0) (N := (some 25)) (v := ?_) (a' := ?_) #[true, false, false, false, false, false, false, false] rfl rfl (by kernel_rfl) (fun _ _ _ h => h) (Or.inl ⟨by rfl, ?_⟩) hHeld ?_ ?_
  rotate_left
  · rintro w' ⟨s0, s1, s2, s3, s4, s5⟩
    go_simp
    with_reducible rfl
  rotate_left
  · simp only [Act.put, List.setIfInBounds_toArray, List.set_cons_zero, List.set_cons_succ]
    rfl
  refine take_ (i := 1) (N := (some 26)) (v := ?_) (a' := ?_) #[true, true, false, false, false, false, false, false] rfl rfl (by kernel_rfl) (fun _ _ _ h => h) (Or.inl ⟨by rfl, ?_⟩) hHeld ?_ ?_
  rotate_left
  · rintro w' ⟨s0, s1, s2, s3, s4, s5⟩
    go_simp
    with_reducible rfl
  rotate_left
  · simp only [Act.put, List.setIfInBounds_toArray, List.set_cons_zero, List.set_cons_succ]
    rfl
  refine take_ (i := 3) (N := (some 28)) (v := ?_) (a' := ?_) #[true, true, false, true, false, false, false, false] rfl rfl (by kernel_rfl) (fun _ _ _ h => h) (Or.inl ⟨by rfl, ?_⟩) hHeld ?_ ?_
  rotate_left
  · rintro w' ⟨s0, s1, s2, s3, s4, s5⟩
    go_simp
    with_reducible rfl
  rotate_left
  · simp only [Act.put, List.setIfInBounds_toArray, List.set_cons_zero, List.set_cons_succ]
    rfl
  refine take_ (i := 4) (N := (some 29)) (v := ?_) (a' := ?_) #[true, true, false, true, true, false, false, false] rfl rfl (by kernel_rfl) (fun _ _ _ h => h) (Or.inl ⟨by rfl, ?_⟩) hHeld ?_ ?_
  rotate_left
  · rintro w' ⟨s0, s1, s2, s3, s4, s5⟩
    go_simp
    with_reducible rfl
  rotate_left
  · simp only [Act.put, List.setIfInBounds_toArray, List.set_cons_zero, List.set_cons_succ]
    rfl
  refine one_ (i := 2) (N := (some 27)) #[true, true, true, true, true, false, false, false] rfl rfl (by kernel_rfl) (by decide) (fun K hK => ?_)
  refine goes_ Try.func89 (by kernel_rfl) rfl #[.agg #[.bool a, .slice Aa1 la1.length ca1, .slice Aa2 la2.length ca2], .agg #[.bool b, .slice Ab1 lb1.length cb1, .slice Ab2 lb2.length cb2]] (by rfl) rfl rfl (by (try simp only [List.map_toArray, List.map_cons, List.map_nil]); first | done | rfl) ?_
  with_reducible refine (HA.out.go _ HS.out.below).mono ?_
  rintro e w6 ⟨As, cs, Ad, cd, rfl, hCA1, hKA1, hCA2, hKA2, hb6⟩
  have CA1 := Aside0.mk hCA1
  have KA1 := Aside0.mk hKA1
  have CA2 := Aside0.mk hCA2
  have KA2 := Aside0.mk hKA2
  clear hCA1 hKA1 hCA2 hKA2
  have nS : Aside0 (Sx w w6 [(.blk gV #[.bool a, .slice Aa1 la1.length ca1, .slice Aa2 la2.length ca2, .bool b, .slice Ab1 lb1.length cb1, .slice Ab2 lb2.length cb2] 28), (.blk gR #[.bool false, .slice none 0 0, .slice none 0 0] 28), (.blk gB #[.bool b, .slice Ab1 lb1.length cb1, .slice Ab2 lb2.length cb2] 28), (.blk gK #[.bool a, .slice Aa1 la1.length ca1, .slice Aa2 la2.length ca2] 28)]) := Aside0.mk (HS.out.step hb6)
  clear HS hb6
  have HS := nS
  clear nS
  refine ⟨_, rfl, ?_⟩
  refine hK.out _ _ ⟨(blk_cell (HS.out.blk 3 rfl) 0).trans rfl, (blk_cell (HS.out.blk 3 rfl) 1).trans rfl, (blk_cell (HS.out.blk 3 rfl) 2).trans rfl, (blk_cell (HS.out.blk 2 rfl) 0).trans rfl, (blk_cell (HS.out.blk 2 rfl) 1).trans rfl, (blk_cell (HS.out.blk 2 rfl) 2).trans rfl⟩ (fun hHeld => ?_)
  clear hK K
  refine norm_ (a' := ?_) ?_ ?_
  rotate_left
  · show Act.put _ (some 27) _ = _
    simp only [Act.put, List.setIfInBounds_toArray, List.set_cons_zero, List.set_cons_succ]
    rfl
  refine one_ (i := 5) (N := (some 30)) #[true, true, true, true, true, true, false, false] rfl rfl (by kernel_rfl) (by decide) (fun K hK => ?_)
  refine goes_ Try.func89 (by kernel_rfl) rfl #[.agg #[.bool b, .slice Ab1 lb1.length cb1, .slice Ab2 lb2.length cb2], .agg #[.bool a, .slice Aa1 la1.length ca1, .slice Aa2 la2.length ca2]] (by rfl) rfl rfl (by (try simp only [List.map_toArray, List.map_cons, List.map_nil]); first | done | rfl) ?_
  with_reducible refine (HB.out.go _ HS.out.below).mono ?_
  rintro e w7 ⟨Bs, ds, Bd, dd, rfl, hCB1, hKB1, hCB2, hKB2, hb7⟩
  have CB1 := Aside0.mk hCB1
  have KB1 := Aside0.mk hKB1
  have CB2 := Aside0.mk hCB2
  have KB2 := Aside0.mk hKB2
  clear hCB1 hKB1 hCB2 hKB2
  have nCA1 := Aside0.mk (Kd.C_below CA1.out hb7)
  clear CA1
  have CA1 := nCA1
  clear nCA1
  have nCA2 := Aside0.mk (Kd.C_below CA2.out hb7)
  clear CA2
  have CA2 := nCA2
  clear nCA2
  have nS : Aside0 (Sx w w7 [(.blk gV #[.bool a, .slice Aa1 la1.length ca1, .slice Aa2 la2.length ca2, .bool b, .slice Ab1 lb1.length cb1, .slice Ab2 lb2.length cb2] 28), (.blk gR #[.bool false, .slice none 0 0, .slice none 0 0] 28), (.blk gB #[.bool b, .slice Ab1 lb1.length cb1, .slice Ab2 lb2.length cb2] 28), (.blk gK #[.bool a, .slice Aa1 la1.length ca1, .slice Aa2 la2.length ca2] 28)]) := Aside0.mk (HS.out.step hb7)
  clear HS hb7
  have HS := nS
  clear nS
  refine ⟨_, rfl, ?_⟩
  refine hK.out _ _ ⟨(blk_cell (HS.out.blk 3 rfl) 0).trans rfl, (blk_cell (HS.out.blk 3 rfl) 1).trans rfl, (blk_cell (HS.out.blk 3 rfl) 2).trans rfl, (blk_cell (HS.out.blk 2 rfl) 0).trans rfl, (blk_cell (HS.out.blk 2 rfl) 1).trans rfl, (blk_cell (HS.out.blk 2 rfl) 2).trans rfl⟩ (fun hHeld => ?_)
  clear hK K
  refine norm_ (a' := ?_) ?_ ?_
  rotate_left
  · show Act.put _ (some 30) _ = _
    simp only [Act.put, List.setIfInBounds_toArray, List.set_cons_zero, List.set_cons_succ]
    rfl
  refine last_ (i := 6) (N := none) #[true, true, true, true, true, true, true, false] rfl rfl (by kernel_rfl) (by decide) (fun K hK => ?_)
  refine store_named_step (by rfl) 28 (.tmp 2) (.tmp 27) rfl gK #[.bool a, .slice As L1.length cs, .slice Ad L2.length cd] rfl rfl 28 #[.bool a, .slice Aa1 la1.length ca1, .slice Aa2 la2.length ca2] (HS.out.blk 3 rfl) (by kernel_rfl) rfl (by simp [Value.oneCell']) ?_
  intro wz6 hxz hbz
  have nCA1 := Aside0.mk (C_but1 CA1.out hbz (HS.out.blk 3 rfl) (noInt_A _ _ _ _ _ _ _))
  clear CA1
  have CA1 := nCA1
  clear nCA1
  have nCA2 := Aside0.mk (C_but1 CA2.out hbz (HS.out.blk 3 rfl) (noInt_A _ _ _ _ _ _ _))
  clear CA2
  have CA2 := nCA2
  clear nCA2
  have nCB1 := Aside0.mk (C_but1 CB1.out hbz (HS.out.blk 3 rfl) (noInt_A _ _ _ _ _ _ _))
  clear CB1
  have CB1 := nCB1
  clear nCB1
  have nCB2 := Aside0.mk (C_but1 CB2.out hbz (HS.out.blk 3 rfl) (noInt_A _ _ _ _ _ _ _))
  clear CB2
  have CB2 := nCB2
  clear nCB2
  have nS : Aside0 (Sx w wz6 [(.blk gV #[.bool a, .slice Aa1 la1.length ca1, .slice Aa2 la2.length ca2, .bool b, .slice Ab1 lb1.length cb1, .slice Ab2 lb2.length cb2] 28), (.blk gR #[.bool false, .slice none 0 0, .slice none 0 0] 28), (.blk gB #[.bool b, .slice Ab1 lb1.length cb1, .slice Ab2 lb2.length cb2] 28), (.blk gK #[.bool a, .slice As L1.length cs, .slice Ad L2.length cd] 28)]) := Aside0.mk (HS.out.put 3 rfl hxz hbz)
  clear HS hxz hbz
  have HS := nS
  clear nS
  refine hK.out _ _ ?_
  clear hK K
  refine norm_ (a' := ?_) ?_ ?_
  rotate_left
  · show Act.put _ none _ = _
    simp only [Act.put, List.setIfInBounds_toArray, List.set_cons_zero, List.set_cons_succ]
    rfl
  refine last_ (i := 7) (N := none) #[true, true, true, true, true, true, true, true] rfl rfl (by kernel_rfl) (by decide) (fun K hK => ?_)
  refine store_named_step (by rfl) 28 (.tmp 3) (.tmp 30) rfl gB #[.bool b, .slice Bs M1.length ds, .slice Bd M2.length dd] rfl rfl 28 #[.bool b, .slice Ab1 lb1.length cb1, .slice Ab2 lb2.length cb2] (HS.out.blk 2 rfl) (by kernel_rfl) rfl (by simp [Value.oneCell']) ?_
  intro wz7 hxz hbz
  have nCA1 := Aside0.mk (C_but1 CA1.out hbz (HS.out.blk 2 rfl) (noInt_A _ _ _ _ _ _ _))
  clear CA1
  have CA1 := nCA1
  clear nCA1
  have nCA2 := Aside0.mk (C_but1 CA2.out hbz (HS.out.blk 2 rfl) (noInt_A _ _ _ _ _ _ _))
  clear CA2
  have CA2 := nCA2
  clear nCA2
  have nCB1 := Aside0.mk (C_but1 CB1.out hbz (HS.out.blk 2 rfl) (noInt_A _ _ _ _ _ _ _))
  clear CB1
  have CB1 := nCB1
  clear nCB1
  have nCB2 := Aside0.mk (C_but1 CB2.out hbz (HS.out.blk 2 rfl) (noInt_A _ _ _ _ _ _ _))
  clear CB2
  have CB2 := nCB2
  clear nCB2
  have nS : Aside0 (Sx w wz7 [(.blk gV #[.bool a, .slice Aa1 la1.length ca1, .slice Aa2 la2.length ca2, .bool b, .slice Ab1 lb1.length cb1, .slice Ab2 lb2.length cb2] 28), (.blk gR #[.bool false, .slice none 0 0, .slice none 0 0] 28), (.blk gB #[.bool b, .slice Bs M1.length ds, .slice Bd M2.length dd] 28), (.blk gK #[.bool a, .slice As L1.length cs, .slice Ad L2.length cd] 28)]) := Aside0.mk (HS.out.put 2 rfl hxz hbz)
  clear HS hxz hbz
  have HS := nS
  clear nS
  refine hK.out _ _ ?_
  clear hK K
  refine done_ (by kernel_rfl) ?_
  have HB0 := Aside0.mk HS.out.below
  have HGR := Aside0.mk (HS.out.get 1 rfl).2
  have HKB := Aside0.mk (HS.out.blk 3 rfl)
  have HBB := Aside0.mk (HS.out.blk 2 rfl)
  have HRB := Aside0.mk (HS.out.blk 1 rfl)
  have HGL := Aside0.mk (blk_lt HRB.out)
  clear HS HA HB
  have HS := Aside0.mk (Sx.start wz7)
  go_simp
  go_upto_region 5 with fail
  have nS := Aside0.mk HS.out.drew
  clear HS
  have HS := nS
  clear nS
  refine start_ (n := 5) (S := (fun w' => w'.cell? ⟨gK, 0, none⟩ = some (.bool a) ∧ w'.cell? ⟨gK, 1, none⟩ = some (.slice As L1.length cs) ∧ w'.cell? ⟨gK, 2, none⟩ = some (.slice Ad L2.length cd) ∧ w'.cell? ⟨gB, 0, none⟩ = some (.bool b) ∧ w'.cell? ⟨gB, 1, none⟩ = some (.slice Bs M1.length ds) ∧ w'.cell? ⟨gB, 2, none⟩ = some (.slice Bd M2.length dd))) (ds := []) #[false, false, false, false, false] (by kernel_rfl) rfl rfl ⟨(blk_cell (blk_below HKB.out HS.out.below) 0).trans rfl, (blk_cell (blk_below HKB.out HS.out.below) 1).trans rfl, (blk_cell (blk_below HKB.out HS.out.below) 2).trans rfl, (blk_cell (blk_below HBB.out HS.out.below) 0).trans rfl, (blk_cell (blk_below HBB.out HS.out.below) 1).trans rfl, (blk_cell (blk_below HBB.out HS.out.below) 2).trans rfl⟩ (fun hHeld => ?_)
  refine take_ (i := 0) (N := (some 31)) (v := ?_) (a' := ?_) #[true, false, false, false, false] rfl rfl (by kernel_rfl) (fun _ _ _ h => h) (Or.inl ⟨by rfl, ?_⟩) hHeld ?_ ?_
  rotate_left
  · rintro w' ⟨s0, s1, s2, s3, s4, s5⟩
    go_simp
    with_reducible rfl
  rotate_left
  · simp only [Act.put, List.setIfInBounds_toArray, List.set_cons_zero, List.set_cons_succ]
    rfl
  refine take_ (i := 2) (N := (some 33)) (v := ?_) (a' := ?_) #[true, false, true, false, false] rfl rfl (by kernel_rfl) (fun _ _ _ h => h) (Or.inl ⟨by rfl, ?_⟩) hHeld ?_ ?_
  rotate_left
  · rintro w' ⟨s0, s1, s2, s3, s4, s5⟩
    go_simp
    with_reducible rfl
  rotate_left
  · simp only [Act.put, List.setIfInBounds_toArray, List.set_cons_zero, List.set_cons_succ]
    rfl
  refine one_ (i := 1) (N := (some 32)) #[true, true, true, false, false] rfl rfl (by kernel_rfl) (by decide) (fun K hK => ?_)
  refine goes_ Try.func90 (by kernel_rfl) rfl #[.agg #[.bool a, .slice As L1.length cs, .slice Ad L2.length cd]] (by rfl) rfl rfl (by (try simp only [List.map_toArray, List.map_cons, List.map_nil]); first | done | rfl) ?_
  with_reducible refine (impl_Array_rank.calls a As cs L1 Ad cd L2 (L1.length : Int) _ (Kd.C_below CA1.out HS.out.below) KA1.out (Kd.C_below CA2.out HS.out.below) KA2.out rfl).mono ?_
  rintro e v1 ⟨rfl, hb1⟩
  have nS : Aside0 (Sx wz7 v1 []) := Aside0.mk (HS.out.step hb1)
  clear HS hb1
  have HS := nS
  clear nS
  refine ⟨_, rfl, ?_⟩
  refine hK.out _ _ ⟨(blk_cell (blk_below HKB.out HS.out.below) 0).trans rfl, (blk_cell (blk_below HKB.out HS.out.below) 1).trans rfl, (blk_cell (blk_below HKB.out HS.out.below) 2).trans rfl, (blk_cell (blk_below HBB.out HS.out.below) 0).trans rfl, (blk_cell (blk_below HBB.out HS.out.below) 1).trans rfl, (blk_cell (blk_below HBB.out HS.out.below) 2).trans rfl⟩ (fun hHeld => ?_)
  clear hK K
  refine norm_ (a' := ?_) ?_ ?_
  rotate_left
  · show Act.put _ (some 32) _ = _
    simp only [Act.put, List.setIfInBounds_toArray, List.set_cons_zero, List.set_cons_succ]
    rfl
  refine one_ (i := 3) (N := (some 34)) #[true, true, true, true, false] rfl rfl (by kernel_rfl) (by decide) (fun K hK => ?_)
  refine goes_ Try.func90 (by kernel_rfl) rfl #[.agg #[.bool b, .slice Bs M1.length ds, .slice Bd M2.length dd]] (by rfl) rfl rfl (by (try simp only [List.map_toArray, List.map_cons, List.map_nil]); first | done | rfl) ?_
  with_reducible refine (impl_Array_rank.calls b Bs ds M1 Bd dd M2 (M1.length : Int) _ (Kd.C_below CB1.out HS.out.below) KB1.out (Kd.C_below CB2.out HS.out.below) KB2.out rfl).mono ?_
  rintro e v2 ⟨rfl, hb2⟩
  have nS : Aside0 (Sx wz7 v2 []) := Aside0.mk (HS.out.step hb2)
  clear HS hb2
  have HS := nS
  clear nS
  refine ⟨_, rfl, ?_⟩
  refine hK.out _ _ ⟨(blk_cell (blk_below HKB.out HS.out.below) 0).trans rfl, (blk_cell (blk_below HKB.out HS.out.below) 1).trans rfl, (blk_cell (blk_below HKB.out HS.out.below) 2).trans rfl, (blk_cell (blk_below HBB.out HS.out.below) 0).trans rfl, (blk_cell (blk_below HBB.out HS.out.below) 1).trans rfl, (blk_cell (blk_below HBB.out HS.out.below) 2).trans rfl⟩ (fun hHeld => ?_)
  clear hK K
  refine norm_ (a' := ?_) ?_ ?_
  rotate_left
  · show Act.put _ (some 34) _ = _
    simp only [Act.put, List.setIfInBounds_toArray, List.set_cons_zero, List.set_cons_succ]
    rfl
  refine pure_ (i := 4) (N := (some 35)) (v := ?_) (a' := ?_) #[true, true, true, true, true] rfl rfl (by kernel_rfl) (fun _ _ _ h => h) (Or.inl ⟨by rfl, ?_⟩) ?_ ?_
  rotate_left
  · intro w'
    go_simp
    with_reducible rfl
  rotate_left
  · simp only [Act.put, List.setIfInBounds_toArray, List.set_cons_zero, List.set_cons_succ]
    rfl
  refine done_ (by kernel_rfl) ?_
  go_upto_region 7 with fail
  have nS := Aside0.mk HS.out.drew
  clear HS
  have HS := nS
  clear nS
  refine start_ (n := 6) (S := (fun w' => w'.cell? ⟨gK, 0, none⟩ = some (.bool a) ∧ w'.cell? ⟨gK, 1, none⟩ = some (.slice As L1.length cs) ∧ w'.cell? ⟨gK, 2, none⟩ = some (.slice Ad L2.length cd) ∧ w'.cell? ⟨gB, 0, none⟩ = some (.bool b) ∧ w'.cell? ⟨gB, 1, none⟩ = some (.slice Bs M1.length ds) ∧ w'.cell? ⟨gB, 2, none⟩ = some (.slice Bd M2.length dd))) (ds := []) #[false, false, false, false, false, false] (by kernel_rfl) rfl rfl ⟨(blk_cell (blk_below HKB.out HS.out.below) 0).trans rfl, (blk_cell (blk_below HKB.out HS.out.below) 1).trans rfl, (blk_cell (blk_below HKB.out HS.out.below) 2).trans rfl, (blk_cell (blk_below HBB.out HS.out.below) 0).trans rfl, (blk_cell (blk_below HBB.out HS.out.below) 1).trans rfl, (blk_cell (blk_below HBB.out HS.out.below) 2).trans rfl⟩ (fun hHeld => ?_)
  refine take_ (i := 0) (N := (some 37)) (v := ?_) (a' := ?_) #[true, false, false, false, false, false] rfl rfl (by kernel_rfl) (fun _ _ _ h => h) (Or.inl ⟨by rfl, ?_⟩) hHeld ?_ ?_
  rotate_left
  · rintro w' ⟨s0, s1, s2, s3, s4, s5⟩
    go_simp
    with_reducible rfl
  rotate_left
  · simp only [Act.put, List.setIfInBounds_toArray, List.set_cons_zero, List.set_cons_succ]
    rfl
  refine take_ (i := 2) (N := (some 39)) (v := ?_) (a' := ?_) #[true, false, true, false, false, false] rfl rfl (by kernel_rfl) (fun _ _ _ h => h) (Or.inl ⟨by rfl, ?_⟩) hHeld ?_ ?_
  rotate_left
  · rintro w' ⟨s0, s1, s2, s3, s4, s5⟩
    go_simp
    with_reducible rfl
  rotate_left
  · simp only [Act.put, List.setIfInBounds_toArray, List.set_cons_zero, List.set_cons_succ]
    rfl
  refine one_ (i := 1) (N := (some 38)) #[true, true, true, false, false, false] rfl rfl (by kernel_rfl) (by decide) (fun K hK => ?_)
  refine goes_ Try.func92 (by kernel_rfl) rfl #[.agg #[.bool a, .slice As L1.length cs, .slice Ad L2.length cd], .bool false] (by rfl) rfl rfl (by (try simp only [List.map_toArray, List.map_cons, List.map_nil]); first | done | rfl) ?_
  with_reducible refine (impl_Array_without.calls a As cs L1 Ad cd L2 false P1 _ (Kd.C_below CA1.out HS.out.below) KA1.out (Kd.C_below CA2.out HS.out.below) KA2.out HWA.out).mono ?_
  rintro e v3 ⟨v_, rfl, hr3, hb3⟩
  obtain ⟨Ps, pc, hv_⟩ := Kd.R_slice hr3
  subst hv_
  have nS : Aside0 (Sx wz7 v3 [(.row (.slice Ps P1.length pc) P1)]) := Aside0.mk (HS.out.addRow hb3 hr3)
  clear HS hb3
  have HS := nS
  clear nS
  refine ⟨_, rfl, ?_⟩
  refine hK.out _ _ ⟨(blk_cell (blk_below HKB.out HS.out.below) 0).trans rfl, (blk_cell (blk_below HKB.out HS.out.below) 1).trans rfl, (blk_cell (blk_below HKB.out HS.out.below) 2).trans rfl, (blk_cell (blk_below HBB.out HS.out.below) 0).trans rfl, (blk_cell (blk_below HBB.out HS.out.below) 1).trans rfl, (blk_cell (blk_below HBB.out HS.out.below) 2).trans rfl⟩ (fun hHeld => ?_)
  clear hK K
  refine norm_ (a' := ?_) ?_ ?_
  rotate_left
  · show Act.put _ (some 38) _ = _
    simp only [Act.put, List.setIfInBounds_toArray, List.set_cons_zero, List.set_cons_succ]
    rfl
  refine one_ (i := 3) (N := (some 40)) #[true, true, true, true, false, false] rfl rfl (by kernel_rfl) (by decide) (fun K hK => ?_)
  refine goes_ Try.func92 (by kernel_rfl) rfl #[.agg #[.bool b, .slice Bs M1.length ds, .slice Bd M2.length dd], .bool false] (by rfl) rfl rfl (by (try simp only [List.map_toArray, List.map_cons, List.map_nil]); first | done | rfl) ?_
  with_reducible refine (impl_Array_without.calls b Bs ds M1 Bd dd M2 false Q1 _ (Kd.C_below CB1.out HS.out.below) KB1.out (Kd.C_below CB2.out HS.out.below) KB2.out HWB.out).mono ?_
  rintro e v4 ⟨v_, rfl, hr4, hb4⟩
  obtain ⟨Qs, qc, hv_⟩ := Kd.R_slice hr4
  subst hv_
  have nS : Aside0 (Sx wz7 v4 [(.row (.slice Qs Q1.length qc) Q1), (.row (.slice Ps P1.length pc) P1)]) := Aside0.mk (HS.out.addRow hb4 hr4)
  clear HS hb4
  have HS := nS
  clear nS
  refine ⟨_, rfl, ?_⟩
  refine hK.out _ _ ⟨(blk_cell (blk_below HKB.out HS.out.below) 0).trans rfl, (blk_cell (blk_below HKB.out HS.out.below) 1).trans rfl, (blk_cell (blk_below HKB.out HS.out.below) 2).trans rfl, (blk_cell (blk_below HBB.out HS.out.below) 0).trans rfl, (blk_cell (blk_below HBB.out HS.out.below) 1).trans rfl, (blk_cell (blk_below HBB.out HS.out.below) 2).trans rfl⟩ (fun hHeld => ?_)
  clear hK K
  refine norm_ (a' := ?_) ?_ ?_
  rotate_left
  · show Act.put _ (some 40) _ = _
    simp only [Act.put, List.setIfInBounds_toArray, List.set_cons_zero, List.set_cons_succ]
    rfl
  refine one_ (i := 4) (N := (some 41)) #[true, true, true, true, true, false] rfl rfl (by kernel_rfl) (by decide) (fun K hK => ?_)
  refine goes_ Try.func91 (by kernel_rfl) rfl #[.slice Ps P1.length pc, .slice Qs Q1.length qc] (by rfl) rfl rfl (by (try simp only [List.map_toArray, List.map_cons, List.map_nil]); first | done | rfl) ?_
  with_reducible refine (slices_Equal_int_int.calls k2 Ps pc P1 Qs qc Q1 true _ (HS.out.C 1 rfl) (HS.out.cap 1 rfl) (HS.out.C 0 rfl) (HS.out.cap 0 rfl) HEQ.out).mono ?_
  rintro e v5 ⟨rfl, hd_⟩
  have hb5 := Drawn0.below hd_
  clear hd_
  have nS : Aside0 (Sx wz7 v5 [(.row (.slice Qs Q1.length qc) Q1), (.row (.slice Ps P1.length pc) P1)]) := Aside0.mk (HS.out.step hb5)
  clear HS hb5
  have HS := nS
  clear nS
  refine ⟨_, rfl, ?_⟩
  refine hK.out _ _ ⟨(blk_cell (blk_below HKB.out HS.out.below) 0).trans rfl, (blk_cell (blk_below HKB.out HS.out.below) 1).trans rfl, (blk_cell (blk_below HKB.out HS.out.below) 2).trans rfl, (blk_cell (blk_below HBB.out HS.out.below) 0).trans rfl, (blk_cell (blk_below HBB.out HS.out.below) 1).trans rfl, (blk_cell (blk_below HBB.out HS.out.below) 2).trans rfl⟩ (fun hHeld => ?_)
  clear hK K
  refine norm_ (a' := ?_) ?_ ?_
  rotate_left
  · show Act.put _ (some 41) _ = _
    simp only [Act.put, List.setIfInBounds_toArray, List.set_cons_zero, List.set_cons_succ]
    rfl
  refine pure_ (i := 5) (N := (some 42)) (v := ?_) (a' := ?_) #[true, true, true, true, true, true] rfl rfl (by kernel_rfl) (fun _ _ _ h => h) (Or.inl ⟨by rfl, ?_⟩) ?_ ?_
  rotate_left
  · intro w'
    go_simp
    with_reducible rfl
  rotate_left
  · simp only [Act.put, List.setIfInBounds_toArray, List.set_cons_zero, List.set_cons_succ]
    rfl
  refine done_ (by kernel_rfl) ?_
  go_upto_region 9 with fail
  go_cut [60] from 44 to 60 (fun s60 wx => s60 = .bool false ∧ Aside0 (Sx wz7 wx [(.row (.slice Qs Q1.length qc) Q1), (.row (.slice Ps P1.length pc) P1)]))
  case first =>
    have hway := HWAY.out
    clear HWAY
    rcases hway with hab | ⟨hab, hl2⟩ | ⟨hab, hl2, hm2⟩
    · have e0 : (a == b) = true := beq_iff_eq.mpr hab
      have e1 : (a != b) = false := by rw [bne, e0]; rfl
      clear hab
      go_wp2_with (first | ((with_reducible refine wpList_guardedB ?hw ?_); (case hw => first | rfl | (go_simp; done))) | ((with_reducible refine gate_dst (N := 45) rfl ?_); refine ev_load rfl 4 (.tmp 44) rfl ⟨gK, 0, none⟩ rfl (.bool a) ((blk_cell (blk_below HKB.out HS.out.below) 0).trans rfl) (by kernel_rfl) ?_) | ((with_reducible refine gate_dst (N := 47) rfl ?_); refine ev_load rfl 4 (.tmp 46) rfl ⟨gB, 0, none⟩ rfl (.bool b) ((blk_cell (blk_below HBB.out HS.out.below) 0).trans rfl) (by kernel_rfl) ?_) | ((with_reducible refine gate_dst (N := 51) rfl ?_); refine ev_load rfl 22 (.tmp 50) rfl ⟨gK, 2, none⟩ rfl (.slice Ad L2.length cd) ((blk_cell (blk_below HKB.out HS.out.below) 2).trans rfl) (by kernel_rfl) ?_) | ((with_reducible refine gate_dst (N := 57) rfl ?_); refine ev_load rfl 22 (.tmp 56) rfl ⟨gB, 2, none⟩ rfl (.slice Bd M2.length dd) ((blk_cell (blk_below HBB.out HS.out.below) 2).trans rfl) (by kernel_rfl) ?_))
      go_meet
      case rel => exact ⟨by first | rfl | rw [e6], HS⟩
    · have e0 : (a == b) = false := beq_eq_false_iff_ne.mpr hab
      have e1 : (a != b) = true := bne_iff_ne.mpr hab
      have e2 : decide ((L2.length : Int) > 0) = false := decide_eq_false (by omega)
      have e4 : ¬ (0 : Int) < (L2.length : Int) := by omega
      clear hl2 hab
      go_wp2_with (first | ((with_reducible refine wpList_guardedB ?hw ?_); (case hw => first | rfl | (go_simp; done))) | ((with_reducible refine gate_dst (N := 45) rfl ?_); refine ev_load rfl 4 (.tmp 44) rfl ⟨gK, 0, none⟩ rfl (.bool a) ((blk_cell (blk_below HKB.out HS.out.below) 0).trans rfl) (by kernel_rfl) ?_) | ((with_reducible refine gate_dst (N := 47) rfl ?_); refine ev_load rfl 4 (.tmp 46) rfl ⟨gB, 0, none⟩ rfl (.bool b) ((blk_cell (blk_below HBB.out HS.out.below) 0).trans rfl) (by kernel_rfl) ?_) | ((with_reducible refine gate_dst (N := 51) rfl ?_); refine ev_load rfl 22 (.tmp 50) rfl ⟨gK, 2, none⟩ rfl (.slice Ad L2.length cd) ((blk_cell (blk_below HKB.out HS.out.below) 2).trans rfl) (by kernel_rfl) ?_) | ((with_reducible refine gate_dst (N := 57) rfl ?_); refine ev_load rfl 22 (.tmp 56) rfl ⟨gB, 2, none⟩ rfl (.slice Bd M2.length dd) ((blk_cell (blk_below HBB.out HS.out.below) 2).trans rfl) (by kernel_rfl) ?_))
      go_meet
      case rel => exact ⟨by first | rfl | rw [e6], HS⟩
    · have e0 : (a == b) = false := beq_eq_false_iff_ne.mpr hab
      have e1 : (a != b) = true := bne_iff_ne.mpr hab
      have e2 : decide ((L2.length : Int) > 0) = true := decide_eq_true (by omega)
      have e3 : decide ((M2.length : Int) > 0) = false := decide_eq_false (by omega)
      have e4 : (0 : Int) < (L2.length : Int) := by omega
      have e5 : ¬ (0 : Int) < (M2.length : Int) := by omega
      have e6 : decide (0 < M2.length) = false := decide_eq_false (by omega)
      clear hl2 hm2 hab
      go_wp2_with (first | ((with_reducible refine wpList_guardedB ?hw ?_); (case hw => first | rfl | (go_simp; done))) | ((with_reducible refine gate_dst (N := 45) rfl ?_); refine ev_load rfl 4 (.tmp 44) rfl ⟨gK, 0, none⟩ rfl (.bool a) ((blk_cell (blk_below HKB.out HS.out.below) 0).trans rfl) (by kernel_rfl) ?_) | ((with_reducible refine gate_dst (N := 47) rfl ?_); refine ev_load rfl 4 (.tmp 46) rfl ⟨gB, 0, none⟩ rfl (.bool b) ((blk_cell (blk_below HBB.out HS.out.below) 0).trans rfl) (by kernel_rfl) ?_) | ((with_reducible refine gate_dst (N := 51) rfl ?_); refine ev_load rfl 22 (.tmp 50) rfl ⟨gK, 2, none⟩ rfl (.slice Ad L2.length cd) ((blk_cell (blk_below HKB.out HS.out.below) 2).trans rfl) (by kernel_rfl) ?_) | ((with_reducible refine gate_dst (N := 57) rfl ?_); refine ev_load rfl 22 (.tmp 56) rfl ⟨gB, 2, none⟩ rfl (.slice Bd M2.length dd) ((blk_cell (blk_below HBB.out HS.out.below) 2).trans rfl) (by kernel_rfl) ?_))
      go_meet
      case rel => exact ⟨by first | rfl | rw [e6], HS⟩
  clear HS
  obtain ⟨e60, HS⟩ := hcut
  subst e60
  go_upto_region 13 with (first | ((with_reducible refine gate_dst (N := 63) rfl ?_); refine wpList_load_row rfl 28 (.tmp 2) rfl gK rfl 28 #[.bool a, .slice As L1.length cs, .slice Ad L2.length cd] (0, 0) _ (blk_below HKB.out HS.out.below) Try.underlying28 rfl (by kernel_rfl) ?_) | (go_at_call_of 93 (Value.agg #[.bool a, .slice As L1.length cs, .slice Ad L2.length cd]); refine (axisOf_last a As cs L1 Ad cd L2 m _ (Kd.C_below CA1.out HS.out.below) KA1.out (Kd.C_below CA2.out HS.out.below) KA2.out HL1M.out HL15.out).mono ?_; rintro e wo6 ⟨rfl, hbo6⟩; have nS : Aside0 (Sx wz7 wo6 [(.row (.slice Qs Q1.length qc) Q1), (.row (.slice Ps P1.length pc) P1)]) := Aside0.mk (HS.out.step hbo6); clear HS; have HS := nS; clear nS hbo6) | ((with_reducible refine gate_dst (N := 68) rfl ?_); refine wpList_load_row rfl 28 (.tmp 3) rfl gB rfl 28 #[.bool b, .slice Bs M1.length ds, .slice Bd M2.length dd] (0, 0) _ (blk_below HBB.out HS.out.below) Try.underlying28 rfl (by kernel_rfl) ?_) | (go_at_call_of 93 (Value.agg #[.bool b, .slice Bs M1.length ds, .slice Bd M2.length dd]); refine (axisOf_last b Bs ds M1 Bd dd M2 m _ (Kd.C_below CB1.out HS.out.below) KB1.out (Kd.C_below CB2.out HS.out.below) KB2.out HM1M.out HM15.out).mono ?_; rintro e wo7 ⟨rfl, hbo7⟩; have nS : Aside0 (Sx wz7 wo7 [(.row (.slice Qs Q1.length qc) Q1), (.row (.slice Ps P1.length pc) P1)]) := Aside0.mk (HS.out.step hbo7); clear HS; have HS := nS; clear nS hbo7))
  have nS := Aside0.mk HS.out.drew
  clear HS
  have HS := nS
  clear nS
  refine start_ (n := 12) (S := (fun w' => w'.cell? ⟨gK, 0, none⟩ = some (.bool a) ∧ w'.cell? ⟨gK, 1, none⟩ = some (.slice As L1.length cs) ∧ w'.cell? ⟨gK, 2, none⟩ = some (.slice Ad L2.length cd))) (ds := [11]) #[false, false, false, false, false, false, false, false, false, false, false, false] (by kernel_rfl) rfl rfl ⟨(blk_cell (blk_below HKB.out HS.out.below) 0).trans rfl, (blk_cell (blk_below HKB.out HS.out.below) 1).trans rfl, (blk_cell (blk_below HKB.out HS.out.below) 2).trans rfl⟩ (fun hHeld => ?_)
  refine pure_ (i := 0) (N := (some 72)) (v := ?_) (a' := ?_) #[true, false, false, false, false, false, false, false, false, false, false, false] rfl rfl (by kernel_rfl) (fun _ _ _ h => h) (Or.inl ⟨by rfl, ?_⟩) ?_ ?_
  rotate_left
  · intro w'
    go_simp
    with_reducible rfl
  rotate_left
  · simp only [Act.put, List.setIfInBounds_toArray, List.set_cons_zero, List.set_cons_succ]
    rfl
  refine take_ (i := 1) (N := (some 73)) (v := ?_) (a' := ?_) #[true, true, false, false, false, false, false, false, false, false, false, false] rfl rfl (by kernel_rfl) (fun _ _ _ h => h) (Or.inl ⟨by rfl, ?_⟩) hHeld ?_ ?_
  rotate_left
  · rintro w' ⟨s0, s1, s2⟩
    go_simp
    with_reducible rfl
  rotate_left
  · simp only [Act.put, List.setIfInBounds_toArray, List.set_cons_zero, List.set_cons_succ]
    rfl
  refine take_ (i := 2) (N := (some 74)) (v := ?_) (a' := ?_) #[true, true, true, false, false, false, false, false, false, false, false, false] rfl rfl (by kernel_rfl) (fun _ _ _ h => h) (Or.inl ⟨by rfl, ?_⟩) hHeld ?_ ?_
  rotate_left
  · rintro w' ⟨s0, s1, s2⟩
    go_simp
    with_reducible rfl
  rotate_left
  · simp only [Act.put, List.setIfInBounds_toArray, List.set_cons_zero, List.set_cons_succ]
    rfl
  refine pure_ (i := 4) (N := (some 76)) (v := ?_) (a' := ?_) #[true, true, true, false, true, false, false, false, false, false, false, false] rfl rfl (by kernel_rfl) (fun _ _ _ h => h) (Or.inl ⟨by rfl, ?_⟩) ?_ ?_
  rotate_left
  · intro w'
    go_simp
    with_reducible rfl
  rotate_left
  · simp only [Act.put, List.setIfInBounds_toArray, List.set_cons_zero, List.set_cons_succ]
    rfl
  refine pure_ (i := 5) (N := (some 77)) (v := ?_) (a' := ?_) #[true, true, true, false, true, true, false, false, false, false, false, false] rfl rfl (by kernel_rfl) (fun _ _ _ h => h) (Or.inl ⟨by rfl, ?_⟩) ?_ ?_
  rotate_left
  · intro w'
    go_simp
    with_reducible rfl
  rotate_left
  · simp only [Act.put, List.setIfInBounds_toArray, List.set_cons_zero, List.set_cons_succ]
    rfl
  refine pure_ (i := 6) (N := (some 78)) (v := ?_) (a' := ?_) #[true, true, true, false, true, true, true, false, false, false, false, false] rfl rfl (by kernel_rfl) (fun _ _ _ h => h) (Or.inl ⟨by rfl, ?_⟩) ?_ ?_
  rotate_left
  · intro w'
    go_simp
    with_reducible rfl
  rotate_left
  · simp only [Act.put, List.setIfInBounds_toArray, List.set_cons_zero, List.set_cons_succ]
    rfl
  refine join_ (σ := Nat × Nat × Option Addr × Nat × Option Addr × Nat) 1 #[true, true, true, true, true, true, true, true, true, true, true, false] (fun s_ => [(75, .slice s_.2.2.2.2.1 P1.length s_.2.2.2.2.2), (79, .slice (some ⟨s_.2.1, 0, none⟩) 1 1), (80, .slice s_.2.2.1 (P1.length + 1) s_.2.2.2.1), (81, .agg #[.bool a, .slice s_.2.2.1 (P1.length + 1) s_.2.2.2.1, .slice none 0 0]), (11, .pointer (some ⟨s_.1, 0, none⟩))]) (fun s_ w' => Sx wz7 w' [(.blk s_.1 #[.bool false, .slice none 0 0, .slice none 0 0] 28), (.row (.slice s_.2.2.1 (P1.length + 1) s_.2.2.2.1) (P1 ++ [z])), (.blk s_.2.1 #[.int .i64 z] 3), (.row (.slice Qs Q1.length qc) Q1), (.row (.slice Ps P1.length pc) P1)]) ?_ ?_
  rotate_left
  · intro hJ
    refine three_ (i := 3) (j := 7) (k := 10) (Ni := (some 75)) (Nj := (some 79)) (Nk := (some 11)) #[true, true, true, true, true, true, true, false, false, false, false, false] #[true, true, true, false, true, true, true, true, false, false, false, false] #[true, true, true, false, true, true, true, false, false, false, true, false] rfl rfl rfl rfl rfl rfl (by kernel_rfl) (by decide) (by decide) (by decide) (fun K hK => ?_) (fun K hK => ?_) (fun K hK => ?_)
    · skip
      refine goes_ Try.func92 (by kernel_rfl) rfl #[.agg #[.bool a, .slice As L1.length cs, .slice Ad L2.length cd], .bool false] (by rfl) rfl rfl (by (try simp only [List.map_toArray, List.map_cons, List.map_nil]); first | done | rfl) ?_
      with_reducible refine (impl_Array_without.calls a As cs L1 Ad cd L2 false P1 _ (Kd.C_below CA1.out HS.out.below) KA1.out (Kd.C_below CA2.out HS.out.below) KA2.out HWA.out).mono ?_
      rintro e vo8 ⟨v_, rfl, hro8, hbo8⟩
      obtain ⟨Ns, nc, hv_⟩ := Kd.R_slice hro8
      subst hv_
      have nS : Aside0 (Sx wz7 vo8 [(.row (.slice Ns P1.length nc) P1), (.row (.slice Qs Q1.length qc) Q1), (.row (.slice Ps P1.length pc) P1)]) := Aside0.mk (HS.out.addRow hbo8 hro8)
      clear HS hbo8
      have HS := nS
      clear nS
      refine ⟨_, rfl, ?_⟩
      refine hK.out _ _ ⟨(blk_cell (blk_below HKB.out HS.out.below) 0).trans rfl, (blk_cell (blk_below HKB.out HS.out.below) 1).trans rfl, (blk_cell (blk_below HKB.out HS.out.below) 2).trans rfl⟩ (fun hHeld => ?_)
      clear hK K
      refine norm_ (a' := ?_) ?_ ?_
      rotate_left
      · show Act.put _ (some 75) _ = _
        simp only [Act.put, List.setIfInBounds_toArray, List.set_cons_zero, List.set_cons_succ]
        rfl
      refine two_ (i := 7) (j := 10) (Ni := (some 79)) (Nj := (some 11)) #[true, true, true, true, true, true, true, true, false, false, false, false] #[true, true, true, true, true, true, true, false, false, false, true, false] rfl rfl rfl rfl (by kernel_rfl) (by decide) (by decide) (fun K hK => ?_) (fun K hK => ?_)
      · skip
        refine lit_step (by rfl) rfl #[.int .i64 z] 3 1 (by first | (go_simp; done) | (go_simp; rfl)) ?_
        intro gL wL hgL hxL hbL
        have nS : Aside0 (Sx wz7 wL [(.blk gL #[.int .i64 z] 3), (.row (.slice Ns P1.length nc) P1), (.row (.slice Qs Q1.length qc) Q1), (.row (.slice Ps P1.length pc) P1)]) := Aside0.mk (HS.out.box hgL.symm hxL hbL)
        clear HS hgL hxL hbL
        have HS := nS
        clear nS
        refine hK.out _ _ ⟨(blk_cell (blk_below HKB.out HS.out.below) 0).trans rfl, (blk_cell (blk_below HKB.out HS.out.below) 1).trans rfl, (blk_cell (blk_below HKB.out HS.out.below) 2).trans rfl⟩ (fun hHeld => ?_)
        clear hK K
        refine norm_ (a' := ?_) ?_ ?_
        rotate_left
        · show Act.put _ (some 79) _ = _
          simp only [Act.put, List.setIfInBounds_toArray, List.set_cons_zero, List.set_cons_succ]
          rfl
        refine two_ (i := 8) (j := 10) (Ni := (some 80)) (Nj := (some 11)) #[true, true, true, true, true, true, true, true, true, false, false, false] #[true, true, true, true, true, true, true, true, false, false, true, false] rfl rfl rfl rfl (by kernel_rfl) (by decide) (by decide) (fun K hK => ?_) (fun K hK => ?_)
        · skip
          refine HS.out.appendRows_step 1 rfl P1.length (P1.length + 1) rfl (by rfl) (.tmp 75) (.tmp 79) rfl Try.underlying22 info3 (some ⟨gL, 0, none⟩) 1 1 [z] (P1 ++ [z]) rfl rfl rfl (rowI_C (l := [z]) (HS.out.blk 0 rfl) (by simp)) rfl rfl (by have := HP5.out; omega) ?_
          intro Aj cj wJ nJ
          have nS : Aside0 (Sx wz7 wJ [(.blk gL #[.int .i64 z] 3), (.row (.slice Aj (P1.length + 1) cj) (P1 ++ [z])), (.row (.slice Qs Q1.length qc) Q1), (.row (.slice Ps P1.length pc) P1)]) := Aside0.mk (nJ)
          clear HS nJ
          have HS := nS
          clear nS
          refine hK.out _ _ ⟨(blk_cell (blk_below HKB.out HS.out.below) 0).trans rfl, (blk_cell (blk_below HKB.out HS.out.below) 1).trans rfl, (blk_cell (blk_below HKB.out HS.out.below) 2).trans rfl⟩ (fun hHeld => ?_)
          clear hK K
          refine norm_ (a' := ?_) ?_ ?_
          rotate_left
          · show Act.put _ (some 80) _ = _
            simp only [Act.put, List.setIfInBounds_toArray, List.set_cons_zero, List.set_cons_succ]
            rfl
          refine pure_ (i := 9) (N := (some 81)) (v := ?_) (a' := ?_) #[true, true, true, true, true, true, true, true, true, true, false, false] rfl rfl (by kernel_rfl) (fun _ _ _ h => h) (Or.inl ⟨by rfl, ?_⟩) ?_ ?_
          rotate_left
          · intro w'
            go_simp
            with_reducible rfl
          rotate_left
          · simp only [Act.put, List.setIfInBounds_toArray, List.set_cons_zero, List.set_cons_succ]
            rfl
          refine one_ (i := 10) (N := (some 11)) #[true, true, true, true, true, true, true, true, true, true, true, false] rfl rfl (by kernel_rfl) (by decide) (fun K hK => ?_)
          refine box_step ?hg (N := 11) ?hd (cs := #[.bool false, .slice none 0 0, .slice none 0 0]) (t := 28) ?hr ?_; (case hd => rfl); (case hg => rfl); (case hr => first | (go_simp; done) | (go_simp; rfl))
          intro gO hgO wO hxO hbO
          have nS : Aside0 (Sx wz7 wO [(.blk gO #[.bool false, .slice none 0 0, .slice none 0 0] 28), (.blk gL #[.int .i64 z] 3), (.row (.slice Aj (P1.length + 1) cj) (P1 ++ [z])), (.row (.slice Qs Q1.length qc) Q1), (.row (.slice Ps P1.length pc) P1)]) := Aside0.mk (HS.out.box hgO hxO hbO)
          clear HS hgO hxO hbO
          have HS := nS
          clear nS
          refine hK.out _ _ ⟨(blk_cell (blk_below HKB.out HS.out.below) 0).trans rfl, (blk_cell (blk_below HKB.out HS.out.below) 1).trans rfl, (blk_cell (blk_below HKB.out HS.out.below) 2).trans rfl⟩ (fun hHeld => ?_)
          clear hK K
          refine norm_ (a' := ?_) ?_ ?_
          rotate_left
          · show Act.put _ (some 11) _ = _
            simp only [Act.put, List.setIfInBounds_toArray, List.set_cons_zero, List.set_cons_succ]
            rfl
          exact norm_ (by first | (simp only [putAll, Act.put, List.setIfInBounds_toArray, List.set_cons_zero, List.set_cons_succ]; done) | (simp only [putAll, Act.put, List.setIfInBounds_toArray, List.set_cons_zero, List.set_cons_succ]; rfl)) (hJ (gO, gL, Aj, cj, Ns, nc) _ (HS.out.perm (by first | exact List.Perm.refl _ | exact List.Perm.swap _ _ _ | exact (List.Perm.swap _ _ _).cons _ | exact (List.Perm.swap _ _ _).trans ((List.Perm.swap _ _ _).cons _) | exact ((List.Perm.swap _ _ _).cons _).trans (List.Perm.swap _ _ _) | exact (List.Perm.swap _ _ _).trans (((List.Perm.swap _ _ _).cons _).trans (List.Perm.swap _ _ _)))))
        · skip
          refine box_step ?hg (N := 11) ?hd (cs := #[.bool false, .slice none 0 0, .slice none 0 0]) (t := 28) ?hr ?_; (case hd => rfl); (case hg => rfl); (case hr => first | (go_simp; done) | (go_simp; rfl))
          intro gO hgO wO hxO hbO
          have nS : Aside0 (Sx wz7 wO [(.blk gO #[.bool false, .slice none 0 0, .slice none 0 0] 28), (.blk gL #[.int .i64 z] 3), (.row (.slice Ns P1.length nc) P1), (.row (.slice Qs Q1.length qc) Q1), (.row (.slice Ps P1.length pc) P1)]) := Aside0.mk (HS.out.box hgO hxO hbO)
          clear HS hgO hxO hbO
          have HS := nS
          clear nS
          refine hK.out _ _ ⟨(blk_cell (blk_below HKB.out HS.out.below) 0).trans rfl, (blk_cell (blk_below HKB.out HS.out.below) 1).trans rfl, (blk_cell (blk_below HKB.out HS.out.below) 2).trans rfl⟩ (fun hHeld => ?_)
          clear hK K
          refine norm_ (a' := ?_) ?_ ?_
          rotate_left
          · show Act.put _ (some 11) _ = _
            simp only [Act.put, List.setIfInBounds_toArray, List.set_cons_zero, List.set_cons_succ]
            rfl
          refine one_ (i := 8) (N := (some 80)) #[true, true, true, true, true, true, true, true, true, false, true, false] rfl rfl (by kernel_rfl) (by decide) (fun K hK => ?_)
          refine HS.out.appendRows_step 2 rfl P1.length (P1.length + 1) rfl (by rfl) (.tmp 75) (.tmp 79) rfl Try.underlying22 info3 (some ⟨gL, 0, none⟩) 1 1 [z] (P1 ++ [z]) rfl rfl rfl (rowI_C (l := [z]) (HS.out.blk 1 rfl) (by simp)) rfl rfl (by have := HP5.out; omega) ?_
          intro Aj cj wJ nJ
          have nS : Aside0 (Sx wz7 wJ [(.blk gO #[.bool false, .slice none 0 0, .slice none 0 0] 28), (.blk gL #[.int .i64 z] 3), (.row (.slice Aj (P1.length + 1) cj) (P1 ++ [z])), (.row (.slice Qs Q1.length qc) Q1), (.row (.slice Ps P1.length pc) P1)]) := Aside0.mk (nJ)
          clear HS nJ
          have HS := nS
          clear nS
          refine hK.out _ _ ⟨(blk_cell (blk_below HKB.out HS.out.below) 0).trans rfl, (blk_cell (blk_below HKB.out HS.out.below) 1).trans rfl, (blk_cell (blk_below HKB.out HS.out.below) 2).trans rfl⟩ (fun hHeld => ?_)
          clear hK K
          refine norm_ (a' := ?_) ?_ ?_
          rotate_left
          · show Act.put _ (some 80) _ = _
            simp only [Act.put, List.setIfInBounds_toArray, List.set_cons_zero, List.set_cons_succ]
            rfl
          refine pure_ (i := 9) (N := (some 81)) (v := ?_) (a' := ?_) #[true, true, true, true, true, true, true, true, true, true, true, false] rfl rfl (by kernel_rfl) (fun _ _ _ h => h) (Or.inl ⟨by rfl, ?_⟩) ?_ ?_
          rotate_left
          · intro w'
            go_simp
            with_reducible rfl
          rotate_left
          · simp only [Act.put, List.setIfInBounds_toArray, List.set_cons_zero, List.set_cons_succ]
            rfl
          exact norm_ (by first | (simp only [putAll, Act.put, List.setIfInBounds_toArray, List.set_cons_zero, List.set_cons_succ]; done) | (simp only [putAll, Act.put, List.setIfInBounds_toArray, List.set_cons_zero, List.set_cons_succ]; rfl)) (hJ (gO, gL, Aj, cj, Ns, nc) _ (HS.out.perm (by first | exact List.Perm.refl _ | exact List.Perm.swap _ _ _ | exact (List.Perm.swap _ _ _).cons _ | exact (List.Perm.swap _ _ _).trans ((List.Perm.swap _ _ _).cons _) | exact ((List.Perm.swap _ _ _).cons _).trans (List.Perm.swap _ _ _) | exact (List.Perm.swap _ _ _).trans (((List.Perm.swap _ _ _).cons _).trans (List.Perm.swap _ _ _)))))
      · skip
        refine box_step ?hg (N := 11) ?hd (cs := #[.bool false, .slice none 0 0, .slice none 0 0]) (t := 28) ?hr ?_; (case hd => rfl); (case hg => rfl); (case hr => first | (go_simp; done) | (go_simp; rfl))
        intro gO hgO wO hxO hbO
        have nS : Aside0 (Sx wz7 wO [(.blk gO #[.bool false, .slice none 0 0, .slice none 0 0] 28), (.row (.slice Ns P1.length nc) P1), (.row (.slice Qs Q1.length qc) Q1), (.row (.slice Ps P1.length pc) P1)]) := Aside0.mk (HS.out.box hgO hxO hbO)
        clear HS hgO hxO hbO
        have HS := nS
        clear nS
        refine hK.out _ _ ⟨(blk_cell (blk_below HKB.out HS.out.below) 0).trans rfl, (blk_cell (blk_below HKB.out HS.out.below) 1).trans rfl, (blk_cell (blk_below HKB.out HS.out.below) 2).trans rfl⟩ (fun hHeld => ?_)
        clear hK K
        refine norm_ (a' := ?_) ?_ ?_
        rotate_left
        · show Act.put _ (some 11) _ = _
          simp only [Act.put, List.setIfInBounds_toArray, List.set_cons_zero, List.set_cons_succ]
          rfl
        refine one_ (i := 7) (N := (some 79)) #[true, true, true, true, true, true, true, true, false, false, true, false] rfl rfl (by kernel_rfl) (by decide) (fun K hK => ?_)
        refine lit_step (by rfl) rfl #[.int .i64 z] 3 1 (by first | (go_simp; done) | (go_simp; rfl)) ?_
        intro gL wL hgL hxL hbL
        have nS : Aside0 (Sx wz7 wL [(.blk gL #[.int .i64 z] 3), (.blk gO #[.bool false, .slice none 0 0, .slice none 0 0] 28), (.row (.slice Ns P1.length nc) P1), (.row (.slice Qs Q1.length qc) Q1), (.row (.slice Ps P1.length pc) P1)]) := Aside0.mk (HS.out.box hgL.symm hxL hbL)
        clear HS hgL hxL hbL
        have HS := nS
        clear nS
        refine hK.out _ _ ⟨(blk_cell (blk_below HKB.out HS.out.below) 0).trans rfl, (blk_cell (blk_below HKB.out HS.out.below) 1).trans rfl, (blk_cell (blk_below HKB.out HS.out.below) 2).trans rfl⟩ (fun hHeld => ?_)
        clear hK K
        refine norm_ (a' := ?_) ?_ ?_
        rotate_left
        · show Act.put _ (some 79) _ = _
          simp only [Act.put, List.setIfInBounds_toArray, List.set_cons_zero, List.set_cons_succ]
          rfl
        refine one_ (i := 8) (N := (some 80)) #[true, true, true, true, true, true, true, true, true, false, true, false] rfl rfl (by kernel_rfl) (by decide) (fun K hK => ?_)
        refine HS.out.appendRows_step 2 rfl P1.length (P1.length + 1) rfl (by rfl) (.tmp 75) (.tmp 79) rfl Try.underlying22 info3 (some ⟨gL, 0, none⟩) 1 1 [z] (P1 ++ [z]) rfl rfl rfl (rowI_C (l := [z]) (HS.out.blk 0 rfl) (by simp)) rfl rfl (by have := HP5.out; omega) ?_
        intro Aj cj wJ nJ
        have nS : Aside0 (Sx wz7 wJ [(.blk gL #[.int .i64 z] 3), (.blk gO #[.bool false, .slice none 0 0, .slice none 0 0] 28), (.row (.slice Aj (P1.length + 1) cj) (P1 ++ [z])), (.row (.slice Qs Q1.length qc) Q1), (.row (.slice Ps P1.length pc) P1)]) := Aside0.mk (nJ)
        clear HS nJ
        have HS := nS
        clear nS
        refine hK.out _ _ ⟨(blk_cell (blk_below HKB.out HS.out.below) 0).trans rfl, (blk_cell (blk_below HKB.out HS.out.below) 1).trans rfl, (blk_cell (blk_below HKB.out HS.out.below) 2).trans rfl⟩ (fun hHeld => ?_)
        clear hK K
        refine norm_ (a' := ?_) ?_ ?_
        rotate_left
        · show Act.put _ (some 80) _ = _
          simp only [Act.put, List.setIfInBounds_toArray, List.set_cons_zero, List.set_cons_succ]
          rfl
        refine pure_ (i := 9) (N := (some 81)) (v := ?_) (a' := ?_) #[true, true, true, true, true, true, true, true, true, true, true, false] rfl rfl (by kernel_rfl) (fun _ _ _ h => h) (Or.inl ⟨by rfl, ?_⟩) ?_ ?_
        rotate_left
        · intro w'
          go_simp
          with_reducible rfl
        rotate_left
        · simp only [Act.put, List.setIfInBounds_toArray, List.set_cons_zero, List.set_cons_succ]
          rfl
        exact norm_ (by first | (simp only [putAll, Act.put, List.setIfInBounds_toArray, List.set_cons_zero, List.set_cons_succ]; done) | (simp only [putAll, Act.put, List.setIfInBounds_toArray, List.set_cons_zero, List.set_cons_succ]; rfl)) (hJ (gO, gL, Aj, cj, Ns, nc) _ (HS.out.perm (by first | exact List.Perm.refl _ | exact List.Perm.swap _ _ _ | exact (List.Perm.swap _ _ _).cons _ | exact (List.Perm.swap _ _ _).trans ((List.Perm.swap _ _ _).cons _) | exact ((List.Perm.swap _ _ _).cons _).trans (List.Perm.swap _ _ _) | exact (List.Perm.swap _ _ _).trans (((List.Perm.swap _ _ _).cons _).trans (List.Perm.swap _ _ _)))))
    · skip
      refine lit_step (by rfl) rfl #[.int .i64 z] 3 1 (by first | (go_simp; done) | (go_simp; rfl)) ?_
      intro gL wL hgL hxL hbL
      have nS : Aside0 (Sx wz7 wL [(.blk gL #[.int .i64 z] 3), (.row (.slice Qs Q1.length qc) Q1), (.row (.slice Ps P1.length pc) P1)]) := Aside0.mk (HS.out.box hgL.symm hxL hbL)
      clear HS hgL hxL hbL
      have HS := nS
      clear nS
      refine hK.out _ _ ⟨(blk_cell (blk_below HKB.out HS.out.below) 0).trans rfl, (blk_cell (blk_below HKB.out HS.out.below) 1).trans rfl, (blk_cell (blk_below HKB.out HS.out.below) 2).trans rfl⟩ (fun hHeld => ?_)
      clear hK K
      refine norm_ (a' := ?_) ?_ ?_
      rotate_left
      · show Act.put _ (some 79) _ = _
        simp only [Act.put, List.setIfInBounds_toArray, List.set_cons_zero, List.set_cons_succ]
        rfl
      refine two_ (i := 3) (j := 10) (Ni := (some 75)) (Nj := (some 11)) #[true, true, true, true, true, true, true, true, false, false, false, false] #[true, true, true, false, true, true, true, true, false, false, true, false] rfl rfl rfl rfl (by kernel_rfl) (by decide) (by decide) (fun K hK => ?_) (fun K hK => ?_)
      · skip
        refine goes_ Try.func92 (by kernel_rfl) rfl #[.agg #[.bool a, .slice As L1.length cs, .slice Ad L2.length cd], .bool false] (by rfl) rfl rfl (by (try simp only [List.map_toArray, List.map_cons, List.map_nil]); first | done | rfl) ?_
        with_reducible refine (impl_Array_without.calls a As cs L1 Ad cd L2 false P1 _ (Kd.C_below CA1.out HS.out.below) KA1.out (Kd.C_below CA2.out HS.out.below) KA2.out HWA.out).mono ?_
        rintro e vo8 ⟨v_, rfl, hro8, hbo8⟩
        obtain ⟨Ns, nc, hv_⟩ := Kd.R_slice hro8
        subst hv_
        have nS : Aside0 (Sx wz7 vo8 [(.row (.slice Ns P1.length nc) P1), (.blk gL #[.int .i64 z] 3), (.row (.slice Qs Q1.length qc) Q1), (.row (.slice Ps P1.length pc) P1)]) := Aside0.mk (HS.out.addRow hbo8 hro8)
        clear HS hbo8
        have HS := nS
        clear nS
        refine ⟨_, rfl, ?_⟩
        refine hK.out _ _ ⟨(blk_cell (blk_below HKB.out HS.out.below) 0).trans rfl, (blk_cell (blk_below HKB.out HS.out.below) 1).trans rfl, (blk_cell (blk_below HKB.out HS.out.below) 2).trans rfl⟩ (fun hHeld => ?_)
        clear hK K
        refine norm_ (a' := ?_) ?_ ?_
        rotate_left
        · show Act.put _ (some 75) _ = _
          simp only [Act.put, List.setIfInBounds_toArray, List.set_cons_zero, List.set_cons_succ]
          rfl
        refine two_ (i := 8) (j := 10) (Ni := (some 80)) (Nj := (some 11)) #[true, true, true, true, true, true, true, true, true, false, false, false] #[true, true, true, true, true, true, true, true, false, false, true, false] rfl rfl rfl rfl (by kernel_rfl) (by decide) (by decide) (fun K hK => ?_) (fun K hK => ?_)
        · skip
          refine HS.out.appendRows_step 0 rfl P1.length (P1.length + 1) rfl (by rfl) (.tmp 75) (.tmp 79) rfl Try.underlying22 info3 (some ⟨gL, 0, none⟩) 1 1 [z] (P1 ++ [z]) rfl rfl rfl (rowI_C (l := [z]) (HS.out.blk 1 rfl) (by simp)) rfl rfl (by have := HP5.out; omega) ?_
          intro Aj cj wJ nJ
          have nS : Aside0 (Sx wz7 wJ [(.row (.slice Aj (P1.length + 1) cj) (P1 ++ [z])), (.blk gL #[.int .i64 z] 3), (.row (.slice Qs Q1.length qc) Q1), (.row (.slice Ps P1.length pc) P1)]) := Aside0.mk (nJ)
          clear HS nJ
          have HS := nS
          clear nS
          refine hK.out _ _ ⟨(blk_cell (blk_below HKB.out HS.out.below) 0).trans rfl, (blk_cell (blk_below HKB.out HS.out.below) 1).trans rfl, (blk_cell (blk_below HKB.out HS.out.below) 2).trans rfl⟩ (fun hHeld => ?_)
          clear hK K
          refine norm_ (a' := ?_) ?_ ?_
          rotate_left
          · show Act.put _ (some 80) _ = _
            simp only [Act.put, List.setIfInBounds_toArray, List.set_cons_zero, List.set_cons_succ]
            rfl
          refine pure_ (i := 9) (N := (some 81)) (v := ?_) (a' := ?_) #[true, true, true, true, true, true, true, true, true, true, false, false] rfl rfl (by kernel_rfl) (fun _ _ _ h => h) (Or.inl ⟨by rfl, ?_⟩) ?_ ?_
          rotate_left
          · intro w'
            go_simp
            with_reducible rfl
          rotate_left
          · simp only [Act.put, List.setIfInBounds_toArray, List.set_cons_zero, List.set_cons_succ]
            rfl
          refine one_ (i := 10) (N := (some 11)) #[true, true, true, true, true, true, true, true, true, true, true, false] rfl rfl (by kernel_rfl) (by decide) (fun K hK => ?_)
          refine box_step ?hg (N := 11) ?hd (cs := #[.bool false, .slice none 0 0, .slice none 0 0]) (t := 28) ?hr ?_; (case hd => rfl); (case hg => rfl); (case hr => first | (go_simp; done) | (go_simp; rfl))
          intro gO hgO wO hxO hbO
          have nS : Aside0 (Sx wz7 wO [(.blk gO #[.bool false, .slice none 0 0, .slice none 0 0] 28), (.row (.slice Aj (P1.length + 1) cj) (P1 ++ [z])), (.blk gL #[.int .i64 z] 3), (.row (.slice Qs Q1.length qc) Q1), (.row (.slice Ps P1.length pc) P1)]) := Aside0.mk (HS.out.box hgO hxO hbO)
          clear HS hgO hxO hbO
          have HS := nS
          clear nS
          refine hK.out _ _ ⟨(blk_cell (blk_below HKB.out HS.out.below) 0).trans rfl, (blk_cell (blk_below HKB.out HS.out.below) 1).trans rfl, (blk_cell (blk_below HKB.out HS.out.below) 2).trans rfl⟩ (fun hHeld => ?_)
          clear hK K
          refine norm_ (a' := ?_) ?_ ?_
          rotate_left
          · show Act.put _ (some 11) _ = _
            simp only [Act.put, List.setIfInBounds_toArray, List.set_cons_zero, List.set_cons_succ]
            rfl
          exact norm_ (by first | (simp only [putAll, Act.put, List.setIfInBounds_toArray, List.set_cons_zero, List.set_cons_succ]; done) | (simp only [putAll, Act.put, List.setIfInBounds_toArray, List.set_cons_zero, List.set_cons_succ]; rfl)) (hJ (gO, gL, Aj, cj, Ns, nc) _ (HS.out.perm (by first | exact List.Perm.refl _ | exact List.Perm.swap _ _ _ | exact (List.Perm.swap _ _ _).cons _ | exact (List.Perm.swap _ _ _).trans ((List.Perm.swap _ _ _).cons _) | exact ((List.Perm.swap _ _ _).cons _).trans (List.Perm.swap _ _ _) | exact (List.Perm.swap _ _ _).trans (((List.Perm.swap _ _ _).cons _).trans (List.Perm.swap _ _ _)))))
        · skip
          refine box_step ?hg (N := 11) ?hd (cs := #[.bool false, .slice none 0 0, .slice none 0 0]) (t := 28) ?hr ?_; (case hd => rfl); (case hg => rfl); (case hr => first | (go_simp; done) | (go_simp; rfl))
          intro gO hgO wO hxO hbO
          have nS : Aside0 (Sx wz7 wO [(.blk gO #[.bool false, .slice none 0 0, .slice none 0 0] 28), (.row (.slice Ns P1.length nc) P1), (.blk gL #[.int .i64 z] 3), (.row (.slice Qs Q1.length qc) Q1), (.row (.slice Ps P1.length pc) P1)]) := Aside0.mk (HS.out.box hgO hxO hbO)
          clear HS hgO hxO hbO
          have HS := nS
          clear nS
          refine hK.out _ _ ⟨(blk_cell (blk_below HKB.out HS.out.below) 0).trans rfl, (blk_cell (blk_below HKB.out HS.out.below) 1).trans rfl, (blk_cell (blk_below HKB.out HS.out.below) 2).trans rfl⟩ (fun hHeld => ?_)
          clear hK K
          refine norm_ (a' := ?_) ?_ ?_
          rotate_left
          · show Act.put _ (some 11) _ = _
            simp only [Act.put, List.setIfInBounds_toArray, List.set_cons_zero, List.set_cons_succ]
            rfl
          refine one_ (i := 8) (N := (some 80)) #[true, true, true, true, true, true, true, true, true, false, true, false] rfl rfl (by kernel_rfl) (by decide) (fun K hK => ?_)
          refine HS.out.appendRows_step 1 rfl P1.length (P1.length + 1) rfl (by rfl) (.tmp 75) (.tmp 79) rfl Try.underlying22 info3 (some ⟨gL, 0, none⟩) 1 1 [z] (P1 ++ [z]) rfl rfl rfl (rowI_C (l := [z]) (HS.out.blk 2 rfl) (by simp)) rfl rfl (by have := HP5.out; omega) ?_
          intro Aj cj wJ nJ
          have nS : Aside0 (Sx wz7 wJ [(.blk gO #[.bool false, .slice none 0 0, .slice none 0 0] 28), (.row (.slice Aj (P1.length + 1) cj) (P1 ++ [z])), (.blk gL #[.int .i64 z] 3), (.row (.slice Qs Q1.length qc) Q1), (.row (.slice Ps P1.length pc) P1)]) := Aside0.mk (nJ)
          clear HS nJ
          have HS := nS
          clear nS
          refine hK.out _ _ ⟨(blk_cell (blk_below HKB.out HS.out.below) 0).trans rfl, (blk_cell (blk_below HKB.out HS.out.below) 1).trans rfl, (blk_cell (blk_below HKB.out HS.out.below) 2).trans rfl⟩ (fun hHeld => ?_)
          clear hK K
          refine norm_ (a' := ?_) ?_ ?_
          rotate_left
          · show Act.put _ (some 80) _ = _
            simp only [Act.put, List.setIfInBounds_toArray, List.set_cons_zero, List.set_cons_succ]
            rfl
          refine pure_ (i := 9) (N := (some 81)) (v := ?_) (a' := ?_) #[true, true, true, true, true, true, true, true, true, true, true, false] rfl rfl (by kernel_rfl) (fun _ _ _ h => h) (Or.inl ⟨by rfl, ?_⟩) ?_ ?_
          rotate_left
          · intro w'
            go_simp
            with_reducible rfl
          rotate_left
          · simp only [Act.put, List.setIfInBounds_toArray, List.set_cons_zero, List.set_cons_succ]
            rfl
          exact norm_ (by first | (simp only [putAll, Act.put, List.setIfInBounds_toArray, List.set_cons_zero, List.set_cons_succ]; done) | (simp only [putAll, Act.put, List.setIfInBounds_toArray, List.set_cons_zero, List.set_cons_succ]; rfl)) (hJ (gO, gL, Aj, cj, Ns, nc) _ (HS.out.perm (by first | exact List.Perm.refl _ | exact List.Perm.swap _ _ _ | exact (List.Perm.swap _ _ _).cons _ | exact (List.Perm.swap _ _ _).trans ((List.Perm.swap _ _ _).cons _) | exact ((List.Perm.swap _ _ _).cons _).trans (List.Perm.swap _ _ _) | exact (List.Perm.swap _ _ _).trans (((List.Perm.swap _ _ _).cons _).trans (List.Perm.swap _ _ _)))))
      · skip
        refine box_step ?hg (N := 11) ?hd (cs := #[.bool false, .slice none 0 0, .slice none 0 0]) (t := 28) ?hr ?_; (case hd => rfl); (case hg => rfl); (case hr => first | (go_simp; done) | (go_simp; rfl))
        intro gO hgO wO hxO hbO
        have nS : Aside0 (Sx wz7 wO [(.blk gO #[.bool false, .slice none 0 0, .slice none 0 0] 28), (.blk gL #[.int .i64 z] 3), (.row (.slice Qs Q1.length qc) Q1), (.row (.slice Ps P1.length pc) P1)]) := Aside0.mk (HS.out.box hgO hxO hbO)
        clear HS hgO hxO hbO
        have HS := nS
        clear nS
        refine hK.out _ _ ⟨(blk_cell (blk_below HKB.out HS.out.below) 0).trans rfl, (blk_cell (blk_below HKB.out HS.out.below) 1).trans rfl, (blk_cell (blk_below HKB.out HS.out.below) 2).trans rfl⟩ (fun hHeld => ?_)
        clear hK K
        refine norm_ (a' := ?_) ?_ ?_
        rotate_left
        · show Act.put _ (some 11) _ = _
          simp only [Act.put, List.setIfInBounds_toArray, List.set_cons_zero, List.set_cons_succ]
          rfl
        refine one_ (i := 3) (N := (some 75)) #[true, true, true, true, true, true, true, true, false, false, true, false] rfl rfl (by kernel_rfl) (by decide) (fun K hK => ?_)
        refine goes_ Try.func92 (by kernel_rfl) rfl #[.agg #[.bool a, .slice As L1.length cs, .slice Ad L2.length cd], .bool false] (by rfl) rfl rfl (by (try simp only [List.map_toArray, List.map_cons, List.map_nil]); first | done | rfl) ?_
        with_reducible refine (impl_Array_without.calls a As cs L1 Ad cd L2 false P1 _ (Kd.C_below CA1.out HS.out.below) KA1.out (Kd.C_below CA2.out HS.out.below) KA2.out HWA.out).mono ?_
        rintro e vo8 ⟨v_, rfl, hro8, hbo8⟩
        obtain ⟨Ns, nc, hv_⟩ := Kd.R_slice hro8
        subst hv_
        have nS : Aside0 (Sx wz7 vo8 [(.row (.slice Ns P1.length nc) P1), (.blk gO #[.bool false, .slice none 0 0, .slice none 0 0] 28), (.blk gL #[.int .i64 z] 3), (.row (.slice Qs Q1.length qc) Q1), (.row (.slice Ps P1.length pc) P1)]) := Aside0.mk (HS.out.addRow hbo8 hro8)
        clear HS hbo8
        have HS := nS
        clear nS
        refine ⟨_, rfl, ?_⟩
        refine hK.out _ _ ⟨(blk_cell (blk_below HKB.out HS.out.below) 0).trans rfl, (blk_cell (blk_below HKB.out HS.out.below) 1).trans rfl, (blk_cell (blk_below HKB.out HS.out.below) 2).trans rfl⟩ (fun hHeld => ?_)
        clear hK K
        refine norm_ (a' := ?_) ?_ ?_
        rotate_left
        · show Act.put _ (some 75) _ = _
          simp only [Act.put, List.setIfInBounds_toArray, List.set_cons_zero, List.set_cons_succ]
          rfl
        refine one_ (i := 8) (N := (some 80)) #[true, true, true, true, true, true, true, true, true, false, true, false] rfl rfl (by kernel_rfl) (by decide) (fun K hK => ?_)
        refine HS.out.appendRows_step 0 rfl P1.length (P1.length + 1) rfl (by rfl) (.tmp 75) (.tmp 79) rfl Try.underlying22 info3 (some ⟨gL, 0, none⟩) 1 1 [z] (P1 ++ [z]) rfl rfl rfl (rowI_C (l := [z]) (HS.out.blk 2 rfl) (by simp)) rfl rfl (by have := HP5.out; omega) ?_
        intro Aj cj wJ nJ
        have nS : Aside0 (Sx wz7 wJ [(.row (.slice Aj (P1.length + 1) cj) (P1 ++ [z])), (.blk gO #[.bool false, .slice none 0 0, .slice none 0 0] 28), (.blk gL #[.int .i64 z] 3), (.row (.slice Qs Q1.length qc) Q1), (.row (.slice Ps P1.length pc) P1)]) := Aside0.mk (nJ)
        clear HS nJ
        have HS := nS
        clear nS
        refine hK.out _ _ ⟨(blk_cell (blk_below HKB.out HS.out.below) 0).trans rfl, (blk_cell (blk_below HKB.out HS.out.below) 1).trans rfl, (blk_cell (blk_below HKB.out HS.out.below) 2).trans rfl⟩ (fun hHeld => ?_)
        clear hK K
        refine norm_ (a' := ?_) ?_ ?_
        rotate_left
        · show Act.put _ (some 80) _ = _
          simp only [Act.put, List.setIfInBounds_toArray, List.set_cons_zero, List.set_cons_succ]
          rfl
        refine pure_ (i := 9) (N := (some 81)) (v := ?_) (a' := ?_) #[true, true, true, true, true, true, true, true, true, true, true, false] rfl rfl (by kernel_rfl) (fun _ _ _ h => h) (Or.inl ⟨by rfl, ?_⟩) ?_ ?_
        rotate_left
        · intro w'
          go_simp
          with_reducible rfl
        rotate_left
        · simp only [Act.put, List.setIfInBounds_toArray, List.set_cons_zero, List.set_cons_succ]
          rfl
        exact norm_ (by first | (simp only [putAll, Act.put, List.setIfInBounds_toArray, List.set_cons_zero, List.set_cons_succ]; done) | (simp only [putAll, Act.put, List.setIfInBounds_toArray, List.set_cons_zero, List.set_cons_succ]; rfl)) (hJ (gO, gL, Aj, cj, Ns, nc) _ (HS.out.perm (by first | exact List.Perm.refl _ | exact List.Perm.swap _ _ _ | exact (List.Perm.swap _ _ _).cons _ | exact (List.Perm.swap _ _ _).trans ((List.Perm.swap _ _ _).cons _) | exact ((List.Perm.swap _ _ _).cons _).trans (List.Perm.swap _ _ _) | exact (List.Perm.swap _ _ _).trans (((List.Perm.swap _ _ _).cons _).trans (List.Perm.swap _ _ _)))))
    · skip
      refine box_step ?hg (N := 11) ?hd (cs := #[.bool false, .slice none 0 0, .slice none 0 0]) (t := 28) ?hr ?_; (case hd => rfl); (case hg => rfl); (case hr => first | (go_simp; done) | (go_simp; rfl))
      intro gO hgO wO hxO hbO
      have nS : Aside0 (Sx wz7 wO [(.blk gO #[.bool false, .slice none 0 0, .slice none 0 0] 28), (.row (.slice Qs Q1.length qc) Q1), (.row (.slice Ps P1.length pc) P1)]) := Aside0.mk (HS.out.box hgO hxO hbO)
      clear HS hgO hxO hbO
      have HS := nS
      clear nS
      refine hK.out _ _ ⟨(blk_cell (blk_below HKB.out HS.out.below) 0).trans rfl, (blk_cell (blk_below HKB.out HS.out.below) 1).trans rfl, (blk_cell (blk_below HKB.out HS.out.below) 2).trans rfl⟩ (fun hHeld => ?_)
      clear hK K
      refine norm_ (a' := ?_) ?_ ?_
      rotate_left
      · show Act.put _ (some 11) _ = _
        simp only [Act.put, List.setIfInBounds_toArray, List.set_cons_zero, List.set_cons_succ]
        rfl
      refine two_ (i := 3) (j := 7) (Ni := (some 75)) (Nj := (some 79)) #[true, true, true, true, true, true, true, false, false, false, true, false] #[true, true, true, false, true, true, true, true, false, false, true, false] rfl rfl rfl rfl (by kernel_rfl) (by decide) (by decide) (fun K hK => ?_) (fun K hK => ?_)
      · skip
        refine goes_ Try.func92 (by kernel_rfl) rfl #[.agg #[.bool a, .slice As L1.length cs, .slice Ad L2.length cd], .bool false] (by rfl) rfl rfl (by (try simp only [List.map_toArray, List.map_cons, List.map_nil]); first | done | rfl) ?_
        with_reducible refine (impl_Array_without.calls a As cs L1 Ad cd L2 false P1 _ (Kd.C_below CA1.out HS.out.below) KA1.out (Kd.C_below CA2.out HS.out.below) KA2.out HWA.out).mono ?_
        rintro e vo8 ⟨v_, rfl, hro8, hbo8⟩
        obtain ⟨Ns, nc, hv_⟩ := Kd.R_slice hro8
        subst hv_
        have nS : Aside0 (Sx wz7 vo8 [(.row (.slice Ns P1.length nc) P1), (.blk gO #[.bool false, .slice none 0 0, .slice none 0 0] 28), (.row (.slice Qs Q1.length qc) Q1), (.row (.slice Ps P1.length pc) P1)]) := Aside0.mk (HS.out.addRow hbo8 hro8)
        clear HS hbo8
        have HS := nS
        clear nS
        refine ⟨_, rfl, ?_⟩
        refine hK.out _ _ ⟨(blk_cell (blk_below HKB.out HS.out.below) 0).trans rfl, (blk_cell (blk_below HKB.out HS.out.below) 1).trans rfl, (blk_cell (blk_below HKB.out HS.out.below) 2).trans rfl⟩ (fun hHeld => ?_)
        clear hK K
        refine norm_ (a' := ?_) ?_ ?_
        rotate_left
        · show Act.put _ (some 75) _ = _
          simp only [Act.put, List.setIfInBounds_toArray, List.set_cons_zero, List.set_cons_succ]
          rfl
        refine one_ (i := 7) (N := (some 79)) #[true, true, true, true, true, true, true, true, false, false, true, false] rfl rfl (by kernel_rfl) (by decide) (fun K hK => ?_)
        refine lit_step (by rfl) rfl #[.int .i64 z] 3 1 (by first | (go_simp; done) | (go_simp; rfl)) ?_
        intro gL wL hgL hxL hbL
        have nS : Aside0 (Sx wz7 wL [(.blk gL #[.int .i64 z] 3), (.row (.slice Ns P1.length nc) P1), (.blk gO #[.bool false, .slice none 0 0, .slice none 0 0] 28), (.row (.slice Qs Q1.length qc) Q1), (.row (.slice Ps P1.length pc) P1)]) := Aside0.mk (HS.out.box hgL.symm hxL hbL)
        clear HS hgL hxL hbL
        have HS := nS
        clear nS
        refine hK.out _ _ ⟨(blk_cell (blk_below HKB.out HS.out.below) 0).trans rfl, (blk_cell (blk_below HKB.out HS.out.below) 1).trans rfl, (blk_cell (blk_below HKB.out HS.out.below) 2).trans rfl⟩ (fun hHeld => ?_)
        clear hK K
        refine norm_ (a' := ?_) ?_ ?_
        rotate_left
        · show Act.put _ (some 79) _ = _
          simp only [Act.put, List.setIfInBounds_toArray, List.set_cons_zero, List.set_cons_succ]
          rfl
        refine one_ (i := 8) (N := (some 80)) #[true, true, true, true, true, true, true, true, true, false, true, false] rfl rfl (by kernel_rfl) (by decide) (fun K hK => ?_)
        refine HS.out.appendRows_step 1 rfl P1.length (P1.length + 1) rfl (by rfl) (.tmp 75) (.tmp 79) rfl Try.underlying22 info3 (some ⟨gL, 0, none⟩) 1 1 [z] (P1 ++ [z]) rfl rfl rfl (rowI_C (l := [z]) (HS.out.blk 0 rfl) (by simp)) rfl rfl (by have := HP5.out; omega) ?_
        intro Aj cj wJ nJ
        have nS : Aside0 (Sx wz7 wJ [(.blk gL #[.int .i64 z] 3), (.row (.slice Aj (P1.length + 1) cj) (P1 ++ [z])), (.blk gO #[.bool false, .slice none 0 0, .slice none 0 0] 28), (.row (.slice Qs Q1.length qc) Q1), (.row (.slice Ps P1.length pc) P1)]) := Aside0.mk (nJ)
        clear HS nJ
        have HS := nS
        clear nS
        refine hK.out _ _ ⟨(blk_cell (blk_below HKB.out HS.out.below) 0).trans rfl, (blk_cell (blk_below HKB.out HS.out.below) 1).trans rfl, (blk_cell (blk_below HKB.out HS.out.below) 2).trans rfl⟩ (fun hHeld => ?_)
        clear hK K
        refine norm_ (a' := ?_) ?_ ?_
        rotate_left
        · show Act.put _ (some 80) _ = _
          simp only [Act.put, List.setIfInBounds_toArray, List.set_cons_zero, List.set_cons_succ]
          rfl
        refine pure_ (i := 9) (N := (some 81)) (v := ?_) (a' := ?_) #[true, true, true, true, true, true, true, true, true, true, true, false] rfl rfl (by kernel_rfl) (fun _ _ _ h => h) (Or.inl ⟨by rfl, ?_⟩) ?_ ?_
        rotate_left
        · intro w'
          go_simp
          with_reducible rfl
        rotate_left
        · simp only [Act.put, List.setIfInBounds_toArray, List.set_cons_zero, List.set_cons_succ]
          rfl
        exact norm_ (by first | (simp only [putAll, Act.put, List.setIfInBounds_toArray, List.set_cons_zero, List.set_cons_succ]; done) | (simp only [putAll, Act.put, List.setIfInBounds_toArray, List.set_cons_zero, List.set_cons_succ]; rfl)) (hJ (gO, gL, Aj, cj, Ns, nc) _ (HS.out.perm (by first | exact List.Perm.refl _ | exact List.Perm.swap _ _ _ | exact (List.Perm.swap _ _ _).cons _ | exact (List.Perm.swap _ _ _).trans ((List.Perm.swap _ _ _).cons _) | exact ((List.Perm.swap _ _ _).cons _).trans (List.Perm.swap _ _ _) | exact (List.Perm.swap _ _ _).trans (((List.Perm.swap _ _ _).cons _).trans (List.Perm.swap _ _ _)))))
      · skip
        refine lit_step (by rfl) rfl #[.int .i64 z] 3 1 (by first | (go_simp; done) | (go_simp; rfl)) ?_
        intro gL wL hgL hxL hbL
        have nS : Aside0 (Sx wz7 wL [(.blk gL #[.int .i64 z] 3), (.blk gO #[.bool false, .slice none 0 0, .slice none 0 0] 28), (.row (.slice Qs Q1.length qc) Q1), (.row (.slice Ps P1.length pc) P1)]) := Aside0.mk (HS.out.box hgL.symm hxL hbL)
        clear HS hgL hxL hbL
        have HS := nS
        clear nS
        refine hK.out _ _ ⟨(blk_cell (blk_below HKB.out HS.out.below) 0).trans rfl, (blk_cell (blk_below HKB.out HS.out.below) 1).trans rfl, (blk_cell (blk_below HKB.out HS.out.below) 2).trans rfl⟩ (fun hHeld => ?_)
        clear hK K
        refine norm_ (a' := ?_) ?_ ?_
        rotate_left
        · show Act.put _ (some 79) _ = _
          simp only [Act.put, List.setIfInBounds_toArray, List.set_cons_zero, List.set_cons_succ]
          rfl
        refine one_ (i := 3) (N := (some 75)) #[true, true, true, true, true, true, true, true, false, false, true, false] rfl rfl (by kernel_rfl) (by decide) (fun K hK => ?_)
        refine goes_ Try.func92 (by kernel_rfl) rfl #[.agg #[.bool a, .slice As L1.length cs, .slice Ad L2.length cd], .bool false] (by rfl) rfl rfl (by (try simp only [List.map_toArray, List.map_cons, List.map_nil]); first | done | rfl) ?_
        with_reducible refine (impl_Array_without.calls a As cs L1 Ad cd L2 false P1 _ (Kd.C_below CA1.out HS.out.below) KA1.out (Kd.C_below CA2.out HS.out.below) KA2.out HWA.out).mono ?_
        rintro e vo8 ⟨v_, rfl, hro8, hbo8⟩
        obtain ⟨Ns, nc, hv_⟩ := Kd.R_slice hro8
        subst hv_
        have nS : Aside0 (Sx wz7 vo8 [(.row (.slice Ns P1.length nc) P1), (.blk gL #[.int .i64 z] 3), (.blk gO #[.bool false, .slice none 0 0, .slice none 0 0] 28), (.row (.slice Qs Q1.length qc) Q1), (.row (.slice Ps P1.length pc) P1)]) := Aside0.mk (HS.out.addRow hbo8 hro8)
        clear HS hbo8
        have HS := nS
        clear nS
        refine ⟨_, rfl, ?_⟩
        refine hK.out _ _ ⟨(blk_cell (blk_below HKB.out HS.out.below) 0).trans rfl, (blk_cell (blk_below HKB.out HS.out.below) 1).trans rfl, (blk_cell (blk_below HKB.out HS.out.below) 2).trans rfl⟩ (fun hHeld => ?_)
        clear hK K
        refine norm_ (a' := ?_) ?_ ?_
        rotate_left
        · show Act.put _ (some 75) _ = _
          simp only [Act.put, List.setIfInBounds_toArray, List.set_cons_zero, List.set_cons_succ]
          rfl
        refine one_ (i := 8) (N := (some 80)) #[true, true, true, true, true, true, true, true, true, false, true, false] rfl rfl (by kernel_rfl) (by decide) (fun K hK => ?_)
        refine HS.out.appendRows_step 0 rfl P1.length (P1.length + 1) rfl (by rfl) (.tmp 75) (.tmp 79) rfl Try.underlying22 info3 (some ⟨gL, 0, none⟩) 1 1 [z] (P1 ++ [z]) rfl rfl rfl (rowI_C (l := [z]) (HS.out.blk 1 rfl) (by simp)) rfl rfl (by have := HP5.out; omega) ?_
        intro Aj cj wJ nJ
        have nS : Aside0 (Sx wz7 wJ [(.row (.slice Aj (P1.length + 1) cj) (P1 ++ [z])), (.blk gL #[.int .i64 z] 3), (.blk gO #[.bool false, .slice none 0 0, .slice none 0 0] 28), (.row (.slice Qs Q1.length qc) Q1), (.row (.slice Ps P1.length pc) P1)]) := Aside0.mk (nJ)
        clear HS nJ
        have HS := nS
        clear nS
        refine hK.out _ _ ⟨(blk_cell (blk_below HKB.out HS.out.below) 0).trans rfl, (blk_cell (blk_below HKB.out HS.out.below) 1).trans rfl, (blk_cell (blk_below HKB.out HS.out.below) 2).trans rfl⟩ (fun hHeld => ?_)
        clear hK K
        refine norm_ (a' := ?_) ?_ ?_
        rotate_left
        · show Act.put _ (some 80) _ = _
          simp only [Act.put, List.setIfInBounds_toArray, List.set_cons_zero, List.set_cons_succ]
          rfl
        refine pure_ (i := 9) (N := (some 81)) (v := ?_) (a' := ?_) #[true, true, true, true, true, true, true, true, true, true, true, false] rfl rfl (by kernel_rfl) (fun _ _ _ h => h) (Or.inl ⟨by rfl, ?_⟩) ?_ ?_
        rotate_left
        · intro w'
          go_simp
          with_reducible rfl
        rotate_left
        · simp only [Act.put, List.setIfInBounds_toArray, List.set_cons_zero, List.set_cons_succ]
          rfl
        exact norm_ (by first | (simp only [putAll, Act.put, List.setIfInBounds_toArray, List.set_cons_zero, List.set_cons_succ]; done) | (simp only [putAll, Act.put, List.setIfInBounds_toArray, List.set_cons_zero, List.set_cons_succ]; rfl)) (hJ (gO, gL, Aj, cj, Ns, nc) _ (HS.out.perm (by first | exact List.Perm.refl _ | exact List.Perm.swap _ _ _ | exact (List.Perm.swap _ _ _).cons _ | exact (List.Perm.swap _ _ _).trans ((List.Perm.swap _ _ _).cons _) | exact ((List.Perm.swap _ _ _).cons _).trans (List.Perm.swap _ _ _) | exact (List.Perm.swap _ _ _).trans (((List.Perm.swap _ _ _).cons _).trans (List.Perm.swap _ _ _)))))
  · skip
    intro s_ w_ hF
    obtain ⟨gO, gL, Aj, cj, Ns, nc⟩ := s_
    have nS : Aside0 (Sx wz7 w_ [(.blk gO #[.bool false, .slice none 0 0, .slice none 0 0] 28), (.row (.slice Aj (P1.length + 1) cj) (P1 ++ [z])), (.blk gL #[.int .i64 z] 3), (.row (.slice Qs Q1.length qc) Q1), (.row (.slice Ps P1.length pc) P1)]) := Aside0.mk hF
    clear HS hF
    have HS := nS
    clear nS
    refine norm_ (a' := ?_) ?_ ?_
    rotate_left
    · simp only [putAll, Act.put, List.setIfInBounds_toArray, List.set_cons_zero, List.set_cons_succ]
      rfl
    refine last_ (i := 11) (N := none) #[true, true, true, true, true, true, true, true, true, true, true, true] rfl rfl (by kernel_rfl) (by decide) (fun K hK => ?_)
    refine store_named_step (by rfl) 28 (.tmp 11) (.tmp 81) rfl gO #[.bool a, .slice Aj (P1.length + 1) cj, .slice none 0 0] rfl rfl 28 #[.bool false, .slice none 0 0, .slice none 0 0] (HS.out.blk 0 rfl) (by kernel_rfl) rfl (by simp [Value.oneCell']) ?_
    intro wO hxz hbz
    have nS : Aside0 (Sx wz7 wO [(.blk gO #[.bool a, .slice Aj (P1.length + 1) cj, .slice none 0 0] 28), (.row (.slice Aj (P1.length + 1) cj) (P1 ++ [z])), (.blk gL #[.int .i64 z] 3), (.row (.slice Qs Q1.length qc) Q1), (.row (.slice Ps P1.length pc) P1)]) := Aside0.mk (HS.out.put 0 rfl hxz hbz)
    clear HS hxz hbz
    have HS := nS
    clear nS
    refine hK.out _ _ ?_
    clear hK K
    refine done_ (by kernel_rfl) ?_
    go_simp
    go_upto_region 14 with fail
    go_cut [91] from 82 to 91 (fun s91 wx => s91 = .bool sw ∧ Aside0 (Sx wz7 wx [(.blk gO #[.bool a, .slice Aj (P1.length + 1) cj, .slice none 0 0] 28), (.row (.slice Aj (P1.length + 1) cj) (P1 ++ [z])), (.blk gL #[.int .i64 z] 3), (.row (.slice Qs Q1.length qc) Q1), (.row (.slice Ps P1.length pc) P1)]))
    case first =>
      have hsw := HSW.out
      clear HSW
      by_cases hl2 : L2.length = 0
      · by_cases hm2 : 0 < M2.length
        · have g0 : ((L2.length : Int) == 0) = true := beq_iff_eq.mpr (by omega)
          have g1 : (L2.length == 0) = true := beq_iff_eq.mpr hl2
          have g1d : decide (L2.length = 0) = true := decide_eq_true hl2
          have g2 : decide ((M2.length : Int) > 0) = true := decide_eq_true (by omega)
          have g3 : (0 : Int) < (M2.length : Int) := by omega
          have g4 : decide (0 < M2.length) = true := decide_eq_true hm2
          have E91 := Aside0.mk (show sw = true by rw [hsw, decide_eq_true hl2, decide_eq_true hm2]; rfl)
          clear hsw
          clear hl2 hm2
          go_wp2_with (first | ((with_reducible refine wpList_guardedB ?hw ?_); (case hw => first | rfl | (go_simp; done))) | ((with_reducible refine gate_dst (N := 83) rfl ?_); refine ev_load rfl 22 (.tmp 82) rfl ⟨gK, 2, none⟩ rfl (.slice Ad L2.length cd) ((blk_cell (blk_below HKB.out HS.out.below) 2).trans rfl) (by kernel_rfl) ?_) | ((with_reducible refine gate_dst (N := 88) rfl ?_); refine ev_load rfl 22 (.tmp 87) rfl ⟨gB, 2, none⟩ rfl (.slice Bd M2.length dd) ((blk_cell (blk_below HBB.out HS.out.below) 2).trans rfl) (by kernel_rfl) ?_))
          go_meet
          case rel => exact ⟨by first | (rw [E91.out]; done) | (rw [E91.out, g4]), HS⟩
        · have g0 : ((L2.length : Int) == 0) = true := beq_iff_eq.mpr (by omega)
          have g1 : (L2.length == 0) = true := beq_iff_eq.mpr hl2
          have g1d : decide (L2.length = 0) = true := decide_eq_true hl2
          have g2 : decide ((M2.length : Int) > 0) = false := decide_eq_false (by omega)
          have g3 : ¬ (0 : Int) < (M2.length : Int) := by omega
          have g4 : decide (0 < M2.length) = false := decide_eq_false hm2
          have E91 := Aside0.mk (show sw = false by rw [hsw, decide_eq_true hl2, decide_eq_false hm2]; rfl)
          clear hsw
          clear hl2 hm2
          go_wp2_with (first | ((with_reducible refine wpList_guardedB ?hw ?_); (case hw => first | rfl | (go_simp; done))) | ((with_reducible refine gate_dst (N := 83) rfl ?_); refine ev_load rfl 22 (.tmp 82) rfl ⟨gK, 2, none⟩ rfl (.slice Ad L2.length cd) ((blk_cell (blk_below HKB.out HS.out.below) 2).trans rfl) (by kernel_rfl) ?_) | ((with_reducible refine gate_dst (N := 88) rfl ?_); refine ev_load rfl 22 (.tmp 87) rfl ⟨gB, 2, none⟩ rfl (.slice Bd M2.length dd) ((blk_cell (blk_below HBB.out HS.out.below) 2).trans rfl) (by kernel_rfl) ?_))
          go_meet
          case rel => exact ⟨by first | (rw [E91.out]; done) | (rw [E91.out, g4]), HS⟩
      · have g0 : ((L2.length : Int) == 0) = false := beq_eq_false_iff_ne.mpr (by omega)
        have g1 : (L2.length == 0) = false := beq_eq_false_iff_ne.mpr hl2
        have g1d : decide (L2.length = 0) = false := decide_eq_false hl2
        have E91 := Aside0.mk (show sw = false by rw [hsw, decide_eq_false hl2]; rfl)
        clear hsw
        clear hl2
        go_wp2_with (first | ((with_reducible refine wpList_guardedB ?hw ?_); (case hw => first | rfl | (go_simp; done))) | ((with_reducible refine gate_dst (N := 83) rfl ?_); refine ev_load rfl 22 (.tmp 82) rfl ⟨gK, 2, none⟩ rfl (.slice Ad L2.length cd) ((blk_cell (blk_below HKB.out HS.out.below) 2).trans rfl) (by kernel_rfl) ?_) | ((with_reducible refine gate_dst (N := 88) rfl ?_); refine ev_load rfl 22 (.tmp 87) rfl ⟨gB, 2, none⟩ rfl (.slice Bd M2.length dd) ((blk_cell (blk_below HBB.out HS.out.below) 2).trans rfl) (by kernel_rfl) ?_))
        go_meet
        case rel => exact ⟨by first | (rw [E91.out]; done) | (rw [E91.out, g4]), HS⟩
    clear HS
    obtain ⟨e91, HS⟩ := hcut
    subst e91
    go_upto_if 91 with fail
    go_cut [] from 92 to 94 (fun wx => Aside0 (Sx wz7 wx [(.blk gO #[.bool kc, .slice Aj (P1.length + 1) cj, .slice none 0 0] 28), (.row (.slice Aj (P1.length + 1) cj) (P1 ++ [z])), (.blk gL #[.int .i64 z] 3), (.row (.slice Qs Q1.length qc) Q1), (.row (.slice Ps P1.length pc) P1)]))
    case first =>
      have hkc := HKC.out
      clear HKC HSW
      cases sw
      · replace hkc : kc = a := hkc
        subst kc
        go_wp2
        go_meet
        case rel => exact HS
      · replace hkc : kc = b := hkc
        subst kc
        go_wp2_with (first | ((with_reducible refine gate_dst (N := 93) rfl ?_); refine ev_load rfl 4 (.tmp 92) rfl ⟨gB, 0, none⟩ rfl (.bool b) ((blk_cell (blk_below HBB.out HS.out.below) 0).trans rfl) (by kernel_rfl) ?_) | ((with_reducible refine gate_store rfl ?_); refine ev_store rfl 4 (.tmp 94) (.tmp 93) rfl gO 0 rfl (.bool b) rfl #[.bool a, .slice Aj (P1.length + 1) cj, .slice none 0 0] 28 (HS.out.blk 0 rfl) (show 0 < 3 from by decide) rfl (by kernel_rfl) ?_; intro wk8 hxk8 hbk8; have nS : Aside0 (Sx wz7 wk8 [(.blk gO #[.bool b, .slice Aj (P1.length + 1) cj, .slice none 0 0] 28), (.row (.slice Aj (P1.length + 1) cj) (P1 ++ [z])), (.blk gL #[.int .i64 z] 3), (.row (.slice Qs Q1.length qc) Q1), (.row (.slice Ps P1.length pc) P1)]) := Aside0.mk (HS.out.put 0 rfl hxk8 hbk8); clear HS; have HS := nS; clear nS hxk8 hbk8))
        go_meet
        case rel => exact HS
    clear HS
    have HS := hcut
    clear hcut
    go_upto_region 17 with (first | ((with_reducible refine gate_dst (N := 97) rfl ?_); refine ev_load rfl 22 (.tmp 96) rfl ⟨gO, 1, none⟩ rfl (.slice Aj (P1.length + 1) cj) ((blk_cell (HS.out.blk 0 rfl) 1).trans rfl) (by kernel_rfl) ?_) | (go_at_call 94; refine (shapeOk_len k1 (P1.length + 1) Aj cj (P1 ++ [z]) (zN, zok) _ (HS.out.C 1 rfl) (HS.out.cap 1 rfl) HPZ.out HSH.out).mono ?_; rintro e ws8 ⟨rfl, hbs8⟩; have nS : Aside0 (Sx wz7 ws8 [(.blk gO #[.bool kc, .slice Aj (P1.length + 1) cj, .slice none 0 0] 28), (.row (.slice Aj (P1.length + 1) cj) (P1 ++ [z])), (.blk gL #[.int .i64 z] 3), (.row (.slice Qs Q1.length qc) Q1), (.row (.slice Ps P1.length pc) P1)]) := Aside0.mk (HS.out.step hbs8); clear HS; have HS := nS; clear nS hbs8))
    cases zok
    · obtain ⟨e1_, e2_, e3_, e4_⟩ := H7.out (by first | trivial | rfl)
      subst e1_ e2_ e3_ e4_
      clear H7 H0
      go_wp2_with (first | ((with_reducible refine gate_store rfl ?_); refine store_named rfl 28 (.tmp 4) (.tmp 103) rfl gR #[.bool false, .slice none 0 0, .slice none 0 0] rfl rfl 28 #[.bool false, .slice none 0 0, .slice none 0 0] (blk_below HRB.out HS.out.below) (by kernel_rfl) rfl (by simp [Value.oneCell']) ?_; intro wF hxF hbF; have HXF := Aside0.mk hxF; have HBF := Aside0.mk hbF; clear hxF hbF))
      refine bodyPost_ret (results_ct rfl _ _ gR 28 #[.bool false, .slice none 0 0, .slice none 0 0] (0, 0) _ rfl HXF.out Try.underlying28 rfl (by kernel_rfl)) rfl ?_
      exact ⟨_, _, rfl, Kd.R_nil _ _ _ _ _, Kd.R_nil _ _ _ _ _, (below_step HB0.out HS.out.below).trans (HBF.out.below _ HGR.out)⟩
    · go_wp2_with (first | ((with_reducible refine gate_dst (N := 105) rfl ?_); refine wpList_load_row rfl 28 (.tmp 2) rfl gK rfl 28 #[.bool a, .slice As L1.length cs, .slice Ad L2.length cd] (0, 0) _ (blk_below HKB.out HS.out.below) Try.underlying28 rfl (by kernel_rfl) ?_) | (go_at_call_of 92 (Value.agg #[.bool a, .slice As L1.length cs, .slice Ad L2.length cd]); refine (impl_Array_without.calls a As cs L1 Ad cd L2 false P1 _ (Kd.C_below CA1.out HS.out.below) KA1.out (Kd.C_below CA2.out HS.out.below) KA2.out HWA.out).mono ?_; rintro e ws9 ⟨v_, rfl, hrs9, hbs9⟩; obtain ⟨Ws, wc_, hv_⟩ := Kd.R_slice hrs9; subst hv_; have nS : Aside0 (Sx wz7 ws9 [(.row (.slice Ws P1.length wc_) P1), (.blk gO #[.bool kc, .slice Aj (P1.length + 1) cj, .slice none 0 0] 28), (.row (.slice Aj (P1.length + 1) cj) (P1 ++ [z])), (.blk gL #[.int .i64 z] 3), (.row (.slice Qs Q1.length qc) Q1), (.row (.slice Ps P1.length pc) P1)]) := Aside0.mk (HS.out.addRow hbs9 hrs9); clear HS; have HS := nS; clear nS hbs9) | (go_at_call 94; refine (shapeOk_len k3 P1.length Ws wc_ P1 ((N1 : Int), true) _ (HS.out.C 0 rfl) (HS.out.cap 0 rfl) rfl HSH1.out).mono ?_; rintro e ws10 ⟨rfl, hbs10⟩; have nS : Aside0 (Sx wz7 ws10 [(.row (.slice Ws P1.length wc_) P1), (.blk gO #[.bool kc, .slice Aj (P1.length + 1) cj, .slice none 0 0] 28), (.row (.slice Aj (P1.length + 1) cj) (P1 ++ [z])), (.blk gL #[.int .i64 z] 3), (.row (.slice Qs Q1.length qc) Q1), (.row (.slice Ps P1.length pc) P1)]) := Aside0.mk (HS.out.step hbs10); clear HS; have HS := nS; clear nS hbs10))
      have nS : Aside0 (Sx wz7 _ [(.row (.slice none 0 0) []), (.row (.slice Ws P1.length wc_) P1), (.blk gO #[.bool kc, .slice Aj (P1.length + 1) cj, .slice none 0 0] 28), (.row (.slice Aj (P1.length + 1) cj) (P1 ++ [z])), (.blk gL #[.int .i64 z] 3), (.row (.slice Qs Q1.length qc) Q1), (.row (.slice Ps P1.length pc) P1)]) := Aside0.mk (HS.out.nilRow 0 (Nat.zero_le _))
      clear HS 
      have HS := nS
      clear nS
      go_loopw [16, 111] (fun _ zz wr => ∃ (r : Nat) (A : Option Addr) (n c : Nat), zz = .int .i64 (r : Int) ∧ Aside0 (r ≤ N1) ∧ Aside0 ((catRows L2 M2 ma nb r).length = n) ∧ Aside0 (Sx wz7 wr [(.row (.slice A n c) (catRows L2 M2 ma nb r)), (.row (.slice Ws P1.length wc_) P1), (.blk gO #[.bool kc, .slice Aj (P1.length + 1) cj, .slice A n c] 28), (.row (.slice Aj (P1.length + 1) cj) (P1 ++ [z])), (.blk gL #[.int .i64 z] 3), (.row (.slice Qs Q1.length qc) Q1), (.row (.slice Ps P1.length pc) P1)])) (fun _ zz _ => N1 - (intOf zz).toNat)
      case atStart => exact ⟨0, none, 0, 0, rfl, ⟨Nat.zero_le _⟩, ⟨rfl⟩, HS⟩
      case round =>
        clear HS
        obtain ⟨r, A, n, c, rfl, hr, HN, HS⟩ := hrel
        by_cases hlt : r < N1
        · have HNB := Aside0.mk (rows_n HPA.out HPB.out HL2.out HM2.out hlt HN.out)
          obtain ⟨x0, x1, hx0, hx1, ha1, wa, wb, wc1⟩ := rows_at HPA.out HL2.out hlt
          obtain ⟨y0, y1, hy0, hy1, hb1, va, vb, vc1⟩ := rows_at HPB.out HM2.out hlt
          obtain ⟨r1, hr1⟩ : ∃ q, q = r + 1 := ⟨_, rfl⟩
          rw [← hr1] at wb vb
          have w1 : IntKind.i64.wrap ((r : Int) + 1) = (r1 : Int) := by rw [IntWalk.i64_in _ (by have := HL2.out; have := HNR.out; omega), hr1]; omega
          obtain ⟨A1_, hcu1, HCU1, HYL1⟩ := mid_ Ad cd L2 x0 x1 ma hx1 ha1 KA2.out
          obtain ⟨A2_, hcu2, HCU2, HYL2⟩ := mid_ Bd dd M2 y0 y1 nb hy1 hb1 KB2.out
          replace HCU1 := Aside0.mk HCU1
          replace HCU2 := Aside0.mk HCU2
          replace HYL1 := Aside0.mk HYL1
          replace HYL2 := Aside0.mk HYL2
          have HR1 := Aside0.mk hr1
          have HX0 := Aside0.mk hx0
          have HY0 := Aside0.mk hy0
          clear hx0 hx1 ha1 wc1 hy0 hy1 hb1 vc1 hr1
          have p1 : (r : Int) < (N1 : Int) := by omega
          go_upto_region 23 with fail
          have nS := Aside0.mk HS.out.drew
          clear HS
          have HS := nS
          clear nS
          refine start_ (n := 15) (S := (fun w' => w'.cell? ⟨gO, 2, none⟩ = some (.slice A n c) ∧ w'.cell? ⟨gK, 2, none⟩ = some (.slice Ad L2.length cd))) (ds := [14]) #[false, false, false, false, false, false, false, false, false, false, false, false, false, false, false] (by kernel_rfl) rfl rfl ⟨(blk_cell (HS.out.blk 2 rfl) 2).trans rfl, (blk_cell (blk_below HKB.out HS.out.below) 2).trans rfl⟩ (fun hHeld => ?_)
          refine pure_ (i := 0) (N := (some 114)) (v := ?_) (a' := ?_) #[true, false, false, false, false, false, false, false, false, false, false, false, false, false, false] rfl rfl (by kernel_rfl) (fun _ _ _ h => h) (Or.inl ⟨by rfl, ?_⟩) ?_ ?_
          rotate_left
          · intro w'
            go_simp
            with_reducible rfl
          rotate_left
          · simp only [Act.put, List.setIfInBounds_toArray, List.set_cons_zero, List.set_cons_succ]
            rfl
          refine take_ (i := 1) (N := (some 115)) (v := ?_) (a' := ?_) #[true, true, false, false, false, false, false, false, false, false, false, false, false, false, false] rfl rfl (by kernel_rfl) (fun _ _ _ h => h) (Or.inl ⟨by rfl, ?_⟩) hHeld ?_ ?_
          rotate_left
          · rintro w' ⟨s0, s1⟩
            go_simp
            with_reducible rfl
          rotate_left
          · simp only [Act.put, List.setIfInBounds_toArray, List.set_cons_zero, List.set_cons_succ]
            rfl
          refine pure_ (i := 2) (N := (some 116)) (v := ?_) (a' := ?_) #[true, true, true, false, false, false, false, false, false, false, false, false, false, false, false] rfl rfl (by kernel_rfl) (fun _ _ _ h => h) (Or.inl ⟨by rfl, ?_⟩) ?_ ?_
          rotate_left
          · intro w'
            go_simp
            with_reducible rfl
          rotate_left
          · simp only [Act.put, List.setIfInBounds_toArray, List.set_cons_zero, List.set_cons_succ]
            rfl
          refine take_ (i := 3) (N := (some 117)) (v := ?_) (a' := ?_) #[true, true, true, true, false, false, false, false, false, false, false, false, false, false, false] rfl rfl (by kernel_rfl) (fun _ _ _ h => h) (Or.inl ⟨by rfl, ?_⟩) hHeld ?_ ?_
          rotate_left
          · rintro w' ⟨s0, s1⟩
            go_simp
            with_reducible rfl
          rotate_left
          · simp only [Act.put, List.setIfInBounds_toArray, List.set_cons_zero, List.set_cons_succ]
            rfl
          refine pure_ (i := 4) (N := (some 118)) (v := ?_) (a' := ?_) #[true, true, true, true, true, false, false, false, false, false, false, false, false, false, false] rfl rfl (by kernel_rfl) (fun _ _ _ h => h) (Or.inl ⟨by rfl, ?_⟩) ?_ ?_
          rotate_left
          · intro w'
            go_simp
            with_reducible rfl
          rotate_left
          · simp only [Act.put, List.setIfInBounds_toArray, List.set_cons_zero, List.set_cons_succ]
            rfl
          refine pure_ (i := 5) (N := (some 119)) (v := ?_) (a' := ?_) #[true, true, true, true, true, true, false, false, false, false, false, false, false, false, false] rfl rfl (by kernel_rfl) (fun _ _ _ h => h) (Or.inl ⟨by rfl, ?_⟩) ?_ ?_
          rotate_left
          · intro w'
            go_simp
            with_reducible rfl
          rotate_left
          · simp only [Act.put, List.setIfInBounds_toArray, List.set_cons_zero, List.set_cons_succ]
            rfl
          refine pure_ (i := 6) (N := (some 120)) (v := ?_) (a' := ?_) #[true, true, true, true, true, true, true, false, false, false, false, false, false, false, false] rfl rfl (by kernel_rfl) (fun _ _ _ h => h) (Or.inl ⟨by rfl, ?_⟩) ?_ ?_
          rotate_left
          · intro w'
            go_simp
            with_reducible rfl
          rotate_left
          · simp only [Act.put, List.setIfInBounds_toArray, List.set_cons_zero, List.set_cons_succ]
            rfl
          refine pure_ (i := 7) (N := (some 121)) (v := ?_) (a' := ?_) #[true, true, true, true, true, true, true, true, false, false, false, false, false, false, false] rfl rfl (by kernel_rfl) (fun _ _ _ h => h) (Or.inl ⟨by rfl, ?_⟩) ?_ ?_
          rotate_left
          · intro w'
            go_simp
            with_reducible rfl
          rotate_left
          · simp only [Act.put, List.setIfInBounds_toArray, List.set_cons_zero, List.set_cons_succ]
            rfl
          refine pure_ (i := 8) (N := (some 122)) (v := ?_) (a' := ?_) #[true, true, true, true, true, true, true, true, true, false, false, false, false, false, false] rfl rfl (by kernel_rfl) (fun _ _ _ h => h) (Or.inl ⟨by rfl, ?_⟩) ?_ ?_
          rotate_left
          · intro w'
            go_simp
            with_reducible rfl
          rotate_left
          · simp only [Act.put, List.setIfInBounds_toArray, List.set_cons_zero, List.set_cons_succ]
            rfl
          refine pure_ (i := 9) (N := (some 123)) (v := ?_) (a' := ?_) #[true, true, true, true, true, true, true, true, true, true, false, false, false, false, false] rfl rfl (by kernel_rfl) (fun _ _ _ h => h) (Or.inl ⟨by rfl, ?_⟩) ?_ ?_
          rotate_left
          · intro w'
            go_simp
            with_reducible rfl
          rotate_left
          · simp only [Act.put, List.setIfInBounds_toArray, List.set_cons_zero, List.set_cons_succ]
            rfl
          refine pure_ (i := 10) (N := (some 124)) (v := ?_) (a' := ?_) #[true, true, true, true, true, true, true, true, true, true, true, false, false, false, false] rfl rfl (by kernel_rfl) (fun _ _ _ h => h) (Or.inl ⟨by rfl, ?_⟩) ?_ ?_
          rotate_left
          · intro w'
            go_simp
            with_reducible rfl
          rotate_left
          · simp only [Act.put, List.setIfInBounds_toArray, List.set_cons_zero, List.set_cons_succ]
            rfl
          refine pure_ (i := 11) (N := (some 125)) (v := ?_) (a' := ?_) #[true, true, true, true, true, true, true, true, true, true, true, true, false, false, false] rfl rfl (by kernel_rfl) (fun _ _ _ h => h) (Or.inl ⟨by rfl, ?_⟩) ?_ ?_
          rotate_left
          · intro w'
            go_simp
            with_reducible rfl
          rotate_left
          · simp only [Act.put, List.setIfInBounds_toArray, List.set_cons_zero, List.set_cons_succ]
            rfl
          refine one_ (i := 12) (N := (some 126)) #[true, true, true, true, true, true, true, true, true, true, true, true, true, false, false] rfl rfl (by kernel_rfl) (by decide) (fun K hK => ?_)
          refine HS.out.appendRows_step 0 rfl n (n + ma) HN.out (by rfl) (.tmp 115) (.tmp 125) rfl Try.underlying22 info3 A1_ ma (cd - x0) ((L2.drop x0).take ma) _ rfl rfl HYL1.out (HCU1.out _ (Kd.C_below CA2.out HS.out.below)) rfl rfl (by have := HNB.out; omega) ?_
          intro Ae ce wJ nJ
          have nS : Aside0 (Sx wz7 wJ [(.row (.slice Ae (n + ma) ce) ((catRows L2 M2 ma nb r) ++ ((L2.drop x0).take ma))), (.row (.slice Ws P1.length wc_) P1), (.blk gO #[.bool kc, .slice Aj (P1.length + 1) cj, .slice A n c] 28), (.row (.slice Aj (P1.length + 1) cj) (P1 ++ [z])), (.blk gL #[.int .i64 z] 3), (.row (.slice Qs Q1.length qc) Q1), (.row (.slice Ps P1.length pc) P1)]) := Aside0.mk nJ
          clear HS nJ
          have HS := nS
          clear nS
          refine hK.out _ _ ⟨(blk_cell (HS.out.blk 2 rfl) 2).trans rfl, (blk_cell (blk_below HKB.out HS.out.below) 2).trans rfl⟩ (fun hHeld => ?_)
          clear hK K
          refine norm_ (a' := ?_) ?_ ?_
          rotate_left
          · show Act.put _ (some 126) _ = _
            simp only [Act.put, List.setIfInBounds_toArray, List.set_cons_zero, List.set_cons_succ]
            rfl
          refine pure_ (i := 13) (N := (some 127)) (v := ?_) (a' := ?_) #[true, true, true, true, true, true, true, true, true, true, true, true, true, true, false] rfl rfl (by kernel_rfl) (fun _ _ _ h => h) (Or.inl ⟨by rfl, ?_⟩) ?_ ?_
          rotate_left
          · intro w'
            go_simp
            with_reducible rfl
          rotate_left
          · simp only [Act.put, List.setIfInBounds_toArray, List.set_cons_zero, List.set_cons_succ]
            rfl
          refine last_ (i := 14) (N := none) #[true, true, true, true, true, true, true, true, true, true, true, true, true, true, true] rfl rfl (by kernel_rfl) (by decide) (fun K hK => ?_)
          refine store_cell_step (by rfl) 22 (.tmp 127) (.tmp 126) rfl gO 2 rfl (.slice Ae (n + ma) ce) rfl #[.bool kc, .slice Aj (P1.length + 1) cj, .slice A n c] 28 (HS.out.blk 2 rfl) (show 2 < 3 from by decide) rfl (by kernel_rfl) ?_
          intro wz hxz hbz
          have nS : Aside0 (Sx wz7 wz [(.row (.slice Ae (n + ma) ce) ((catRows L2 M2 ma nb r) ++ ((L2.drop x0).take ma))), (.row (.slice Ws P1.length wc_) P1), (.blk gO #[.bool kc, .slice Aj (P1.length + 1) cj, .slice Ae (n + ma) ce] 28), (.row (.slice Aj (P1.length + 1) cj) (P1 ++ [z])), (.blk gL #[.int .i64 z] 3), (.row (.slice Qs Q1.length qc) Q1), (.row (.slice Ps P1.length pc) P1)]) := Aside0.mk (HS.out.put 2 rfl hxz hbz)
          clear HS hxz hbz
          have HS := nS
          clear nS
          refine hK.out _ _ ?_
          clear hK K
          refine done_ (by kernel_rfl) ?_
          go_simp
          go_upto_region 24 with fail
          have nS := Aside0.mk HS.out.drew
          clear HS
          have HS := nS
          clear nS
          refine start_ (n := 15) (S := (fun w' => w'.cell? ⟨gO, 2, none⟩ = some (.slice Ae (n + ma) ce) ∧ w'.cell? ⟨gB, 2, none⟩ = some (.slice Bd M2.length dd))) (ds := [14]) #[false, false, false, false, false, false, false, false, false, false, false, false, false, false, false] (by kernel_rfl) rfl rfl ⟨(blk_cell (HS.out.blk 2 rfl) 2).trans rfl, (blk_cell (blk_below HBB.out HS.out.below) 2).trans rfl⟩ (fun hHeld => ?_)
          refine pure_ (i := 0) (N := (some 128)) (v := ?_) (a' := ?_) #[true, false, false, false, false, false, false, false, false, false, false, false, false, false, false] rfl rfl (by kernel_rfl) (fun _ _ _ h => h) (Or.inl ⟨by rfl, ?_⟩) ?_ ?_
          rotate_left
          · intro w'
            go_simp
            with_reducible rfl
          rotate_left
          · simp only [Act.put, List.setIfInBounds_toArray, List.set_cons_zero, List.set_cons_succ]
            rfl
          refine take_ (i := 1) (N := (some 129)) (v := ?_) (a' := ?_) #[true, true, false, false, false, false, false, false, false, false, false, false, false, false, false] rfl rfl (by kernel_rfl) (fun _ _ _ h => h) (Or.inl ⟨by rfl, ?_⟩) hHeld ?_ ?_
          rotate_left
          · rintro w' ⟨s0, s1⟩
            go_simp
            with_reducible rfl
          rotate_left
          · simp only [Act.put, List.setIfInBounds_toArray, List.set_cons_zero, List.set_cons_succ]
            rfl
          refine pure_ (i := 2) (N := (some 130)) (v := ?_) (a' := ?_) #[true, true, true, false, false, false, false, false, false, false, false, false, false, false, false] rfl rfl (by kernel_rfl) (fun _ _ _ h => h) (Or.inl ⟨by rfl, ?_⟩) ?_ ?_
          rotate_left
          · intro w'
            go_simp
            with_reducible rfl
          rotate_left
          · simp only [Act.put, List.setIfInBounds_toArray, List.set_cons_zero, List.set_cons_succ]
            rfl
          refine take_ (i := 3) (N := (some 131)) (v := ?_) (a' := ?_) #[true, true, true, true, false, false, false, false, false, false, false, false, false, false, false] rfl rfl (by kernel_rfl) (fun _ _ _ h => h) (Or.inl ⟨by rfl, ?_⟩) hHeld ?_ ?_
          rotate_left
          · rintro w' ⟨s0, s1⟩
            go_simp
            with_reducible rfl
          rotate_left
          · simp only [Act.put, List.setIfInBounds_toArray, List.set_cons_zero, List.set_cons_succ]
            rfl
          refine pure_ (i := 4) (N := (some 132)) (v := ?_) (a' := ?_) #[true, true, true, true, true, false, false, false, false, false, false, false, false, false, false] rfl rfl (by kernel_rfl) (fun _ _ _ h => h) (Or.inl ⟨by rfl, ?_⟩) ?_ ?_
          rotate_left
          · intro w'
            go_simp
            with_reducible rfl
          rotate_left
          · simp only [Act.put, List.setIfInBounds_toArray, List.set_cons_zero, List.set_cons_succ]
            rfl
          refine pure_ (i := 5) (N := (some 133)) (v := ?_) (a' := ?_) #[true, true, true, true, true, true, false, false, false, false, false, false, false, false, false] rfl rfl (by kernel_rfl) (fun _ _ _ h => h) (Or.inl ⟨by rfl, ?_⟩) ?_ ?_
          rotate_left
          · intro w'
            go_simp
            with_reducible rfl
          rotate_left
          · simp only [Act.put, List.setIfInBounds_toArray, List.set_cons_zero, List.set_cons_succ]
            rfl
          refine pure_ (i := 6) (N := (some 134)) (v := ?_) (a' := ?_) #[true, true, true, true, true, true, true, false, false, false, false, false, false, false, false] rfl rfl (by kernel_rfl) (fun _ _ _ h => h) (Or.inl ⟨by rfl, ?_⟩) ?_ ?_
          rotate_left
          · intro w'
            go_simp
            with_reducible rfl
          rotate_left
          · simp only [Act.put, List.setIfInBounds_toArray, List.set_cons_zero, List.set_cons_succ]
            rfl
          refine pure_ (i := 7) (N := (some 135)) (v := ?_) (a' := ?_) #[true, true, true, true, true, true, true, true, false, false, false, false, false, false, false] rfl rfl (by kernel_rfl) (fun _ _ _ h => h) (Or.inl ⟨by rfl, ?_⟩) ?_ ?_
          rotate_left
          · intro w'
            go_simp
            with_reducible rfl
          rotate_left
          · simp only [Act.put, List.setIfInBounds_toArray, List.set_cons_zero, List.set_cons_succ]
            rfl
          refine pure_ (i := 8) (N := (some 136)) (v := ?_) (a' := ?_) #[true, true, true, true, true, true, true, true, true, false, false, false, false, false, false] rfl rfl (by kernel_rfl) (fun _ _ _ h => h) (Or.inl ⟨by rfl, ?_⟩) ?_ ?_
          rotate_left
          · intro w'
            go_simp
            with_reducible rfl
          rotate_left
          · simp only [Act.put, List.setIfInBounds_toArray, List.set_cons_zero, List.set_cons_succ]
            rfl
          refine pure_ (i := 9) (N := (some 137)) (v := ?_) (a' := ?_) #[true, true, true, true, true, true, true, true, true, true, false, false, false, false, false] rfl rfl (by kernel_rfl) (fun _ _ _ h => h) (Or.inl ⟨by rfl, ?_⟩) ?_ ?_
          rotate_left
          · intro w'
            go_simp
            with_reducible rfl
          rotate_left
          · simp only [Act.put, List.setIfInBounds_toArray, List.set_cons_zero, List.set_cons_succ]
            rfl
          refine pure_ (i := 10) (N := (some 138)) (v := ?_) (a' := ?_) #[true, true, true, true, true, true, true, true, true, true, true, false, false, false, false] rfl rfl (by kernel_rfl) (fun _ _ _ h => h) (Or.inl ⟨by rfl, ?_⟩) ?_ ?_
          rotate_left
          · intro w'
            go_simp
            with_reducible rfl
          rotate_left
          · simp only [Act.put, List.setIfInBounds_toArray, List.set_cons_zero, List.set_cons_succ]
            rfl
          refine pure_ (i := 11) (N := (some 139)) (v := ?_) (a' := ?_) #[true, true, true, true, true, true, true, true, true, true, true, true, false, false, false] rfl rfl (by kernel_rfl) (fun _ _ _ h => h) (Or.inl ⟨by rfl, ?_⟩) ?_ ?_
          rotate_left
          · intro w'
            go_simp
            with_reducible rfl
          rotate_left
          · simp only [Act.put, List.setIfInBounds_toArray, List.set_cons_zero, List.set_cons_succ]
            rfl
          refine one_ (i := 12) (N := (some 140)) #[true, true, true, true, true, true, true, true, true, true, true, true, true, false, false] rfl rfl (by kernel_rfl) (by decide) (fun K hK => ?_)
          refine HS.out.appendRows_step 0 rfl (n + ma) ((n + ma) + nb) (by rw [List.length_append, HN.out, HYL1.out]) (by rfl) (.tmp 129) (.tmp 139) rfl Try.underlying22 info3 A2_ nb (dd - y0) ((M2.drop y0).take nb) _ rfl rfl HYL2.out (HCU2.out _ (Kd.C_below CB2.out HS.out.below)) rfl rfl (by have := HNB.out; omega) ?_
          intro Af cf wJ nJ
          have nS : Aside0 (Sx wz7 wJ [(.row (.slice Af ((n + ma) + nb) cf) (((catRows L2 M2 ma nb r) ++ ((L2.drop x0).take ma)) ++ ((M2.drop y0).take nb))), (.row (.slice Ws P1.length wc_) P1), (.blk gO #[.bool kc, .slice Aj (P1.length + 1) cj, .slice Ae (n + ma) ce] 28), (.row (.slice Aj (P1.length + 1) cj) (P1 ++ [z])), (.blk gL #[.int .i64 z] 3), (.row (.slice Qs Q1.length qc) Q1), (.row (.slice Ps P1.length pc) P1)]) := Aside0.mk nJ
          clear HS nJ
          have HS := nS
          clear nS
          refine hK.out _ _ ⟨(blk_cell (HS.out.blk 2 rfl) 2).trans rfl, (blk_cell (blk_below HBB.out HS.out.below) 2).trans rfl⟩ (fun hHeld => ?_)
          clear hK K
          refine norm_ (a' := ?_) ?_ ?_
          rotate_left
          · show Act.put _ (some 140) _ = _
            simp only [Act.put, List.setIfInBounds_toArray, List.set_cons_zero, List.set_cons_succ]
            rfl
          refine pure_ (i := 13) (N := (some 141)) (v := ?_) (a' := ?_) #[true, true, true, true, true, true, true, true, true, true, true, true, true, true, false] rfl rfl (by kernel_rfl) (fun _ _ _ h => h) (Or.inl ⟨by rfl, ?_⟩) ?_ ?_
          rotate_left
          · intro w'
            go_simp
            with_reducible rfl
          rotate_left
          · simp only [Act.put, List.setIfInBounds_toArray, List.set_cons_zero, List.set_cons_succ]
            rfl
          refine last_ (i := 14) (N := none) #[true, true, true, true, true, true, true, true, true, true, true, true, true, true, true] rfl rfl (by kernel_rfl) (by decide) (fun K hK => ?_)
          refine store_cell_step (by rfl) 22 (.tmp 141) (.tmp 140) rfl gO 2 rfl (.slice Af ((n + ma) + nb) cf) rfl #[.bool kc, .slice Aj (P1.length + 1) cj, .slice Ae (n + ma) ce] 28 (HS.out.blk 2 rfl) (show 2 < 3 from by decide) rfl (by kernel_rfl) ?_
          intro wz hxz hbz
          have nS : Aside0 (Sx wz7 wz [(.row (.slice Af ((n + ma) + nb) cf) (((catRows L2 M2 ma nb r) ++ ((L2.drop x0).take ma)) ++ ((M2.drop y0).take nb))), (.row (.slice Ws P1.length wc_) P1), (.blk gO #[.bool kc, .slice Aj (P1.length + 1) cj, .slice Af ((n + ma) + nb) cf] 28), (.row (.slice Aj (P1.length + 1) cj) (P1 ++ [z])), (.blk gL #[.int .i64 z] 3), (.row (.slice Qs Q1.length qc) Q1), (.row (.slice Ps P1.length pc) P1)]) := Aside0.mk (HS.out.put 2 rfl hxz hbz)
          clear HS hxz hbz
          have HS := nS
          clear nS
          refine hK.out _ _ ?_
          clear hK K
          refine done_ (by kernel_rfl) ?_
          go_simp
          go_wp2
          go_roundw
          case rel =>
            refine ⟨r + 1, Af, n + ma + nb, cf, by rw [HR1.out], ⟨by omega⟩, ⟨by rw [catRows, List.length_append, List.length_append, HN.out, ← HX0.out, ← HY0.out, HYL1.out, HYL2.out, Nat.add_assoc]⟩, ⟨?_⟩⟩
            rw [catRows, ← List.append_assoc, ← HX0.out, ← HY0.out]
            exact HS.out
          case measure => simp [intOf, HR1.out]; omega
        · have er : r = N1 := by have := hr.out; omega
          subst er
          obtain ⟨e1_, e2_, e3_, e4_⟩ := H0.out (by first | trivial | rfl)
          subst K_
          subst e2_ e3_ e4_
          clear H7 H0
          have p1 : ¬ (r : Int) < (r : Int) := by omega
          go_wp2_with (first | ((with_reducible refine gate_dst (N := 143) rfl ?_); refine wpList_load_row rfl 28 (.tmp 11) rfl gO rfl 28 #[.bool kc, .slice Aj (P1.length + 1) cj, .slice A n c] (0, 0) _ (HS.out.blk 2 rfl) Try.underlying28 rfl (by kernel_rfl) ?_) | ((with_reducible refine gate_store rfl ?_); refine store_named rfl 28 (.tmp 4) (.tmp 143) rfl gR #[.bool kc, .slice Aj (P1.length + 1) cj, .slice A n c] rfl rfl 28 #[.bool false, .slice none 0 0, .slice none 0 0] (blk_below HRB.out HS.out.below) (by kernel_rfl) rfl (by simp [Value.oneCell']) ?_; intro wF hxF hbF; have HXF := Aside0.mk hxF; have HBF := Aside0.mk hbF; clear hxF hbF))
          have R_ := HS.out.two_but 3 0 (by decide) rfl rfl HBF.out HGL.out w.heap.size HB0.out.size
          refine bodyPost_ret (results_ct rfl _ _ gR 28 #[.bool kc, .slice Aj (P1.length + 1) cj, .slice A n c] (0, 0) _ rfl HXF.out Try.underlying28 rfl (by kernel_rfl)) rfl ?_
          exact ⟨_, _, rfl, R_.1, R_.2, (below_step HB0.out HS.out.below).trans (HBF.out.below _ HGR.out)⟩
end Go.Proofs.Ytehfcnndjhjkoaa.PA

namespace Go.Proofs.Ytehfcnndjhjkoaa.PA
open Go.RowKit Go.Proofs.YtehfcnndjhjkoaaW.PrintWords Go.Proofs.YtehfcnndjhjkoaaW.PrintLast Go.Proofs.YtehfcnndjhjkoaaW.PrintMore
set_option linter.unusedVariables false
set_option linter.unusedSimpArgs false

/-- The reader's block behind a call that reads on. -/
theorem Sx.reader {w0 W w' : World} {Ts : List Th} (h : Sx w0 W Ts) (i : Nat) {g : Nat} {cs : Array Value} {code : List Int} {p : Int} (hi : Ts[i]? = some (.blk g cs 127)) (hI : IsS127 w0 w' g code p) (hb : Below w0.heap.size w0 w') (hk : KeepBut W w' g none) :
    ∃ A0 c0, Kd.C (Kd.int .u8) w0 A0 code.length code ∧ Sx w0 w' (Ts.set i (.blk g #[.slice A0 code.length c0, .int .i64 p] 127)) := by
  obtain ⟨A0, c0, h1, h2, h3⟩ := hI
  exact ⟨A0, c0, h3, h.repl i hi ⟨h1, h2⟩ (fun k hk' hlt => hk.2 k hlt hk' (by simp)) (fun k hk' => .inl hk') hb⟩
def OfPost (ch : Bool) (Ts : List Th) (g : Nat) (code : List Int) (A1 : Option Addr) (c1 : Nat) (S : List Int) (w0 : World) (e : Ending) (w' : World) : Prop := ∃ (A : Option Addr) (r c : Nat) (D : List Int) (A0 : Option Addr) (c0 : Nat) (p : Int), e = .returned (.agg #[.bool ch, .slice A1 S.length c1, .slice A r c]) ∧ D.length = r ∧ r ≤ 10000 ∧ RdOk code p ∧ Kd.C (Kd.int .u8) w0 A0 code.length code ∧ Sx w0 w' (.row (.slice A r c) D :: .row (.slice A1 S.length c1) S :: .blk g #[.slice A0 code.length c0, .int .i64 p] 127 :: Ts)
set_option maxHeartbeats 2000000 in
set_option maxRecDepth 100000 in
theorem l3Of_any (ch : Bool) (k1 : Nat) (N : Int) (Ts : List Th) (g : Nat) (A0 : Option Addr) (c0 : Nat) (code : List Int) (p : Int) (A1 : Option Addr) (c1 : Nat) (S : List Int) (w0 w : World) (hS : Sx w0 w ((.row (.slice A1 S.length c1) S) :: (.blk g #[.slice A0 code.length c0, .int .i64 p] 127) :: Ts)) (hC : Kd.C (Kd.int .u8) w0 A0 code.length code) (hp : RdOk code p) (hN : spec_l3Count.f k1 S = some N) (hNB : N ≤ 10000) :
    Calls Try.prog 69 #[.pointer (some ⟨g, 0, none⟩), .slice A1 S.length c1, .bool ch] w fun e w' => OfPost ch Ts g code A1 c1 S w0 e w' := by
  have HS := Aside0.mk hS
  have HC := Aside0.mk hC
  have HP := Aside0.mk hp
  have HN := Aside0.mk hN
  have HNB := Aside0.mk hNB
  clear hS hC hp hN hNB
  go_enter Try.func69, Try.ntmps69
  go_wp2_with (first | ((with_reducible refine gate_dst (N := 6) rfl ?_); refine box_event ?hg (N := 6) ?hd (cs := #[.bool false, .slice none 0 0, .slice none 0 0]) (t := 28) ?hr ?_; (case hd => rfl); (case hg => rfl); (case hr => first | (go_simp; done) | (go_simp; rfl)); intro gR hg1 w1 hx1 hb1; have nS : Aside0 (Sx w0 w1 ((.blk gR #[.bool false, .slice none 0 0, .slice none 0 0] 28) :: (.row (.slice A1 S.length c1) S) :: (.blk g #[.slice A0 code.length c0, .int .i64 p] 127) :: Ts)) := Aside0.mk (HS.out.box hg1 hx1 hb1); clear HS; have HS := nS; clear nS hg1 hx1 hb1) | ((with_reducible refine gate_dst (N := 13) rfl ?_); refine ev_nolit HS.out rfl (N := 13) rfl ?hr ?_; (case hr => first | (go_simp; done) | (go_simp; rfl)); intro AE wE nE; have nS : Aside0 (Sx w0 wE ((.row (.slice AE 0 0) []) :: (.blk gR #[.bool false, .slice none 0 0, .slice none 0 0] 28) :: (.row (.slice A1 S.length c1) S) :: (.blk g #[.slice A0 code.length c0, .int .i64 p] 127) :: Ts)) := Aside0.mk nE; clear HS nE; have HS := nS; clear nS) | ((with_reducible refine gate_dst (N := 7) rfl ?_); refine box_event ?hg (N := 7) ?hd (cs := #[.bool false, .slice none 0 0, .slice none 0 0]) (t := 28) ?hr ?_; (case hd => rfl); (case hg => rfl); (case hr => first | (go_simp; done) | (go_simp; rfl)); intro gO hg2 w2 hx2 hb2; have nS : Aside0 (Sx w0 w2 ((.blk gO #[.bool false, .slice none 0 0, .slice none 0 0] 28) :: (.row (.slice AE 0 0) []) :: (.blk gR #[.bool false, .slice none 0 0, .slice none 0 0] 28) :: (.row (.slice A1 S.length c1) S) :: (.blk g #[.slice A0 code.length c0, .int .i64 p] 127) :: Ts)) := Aside0.mk (HS.out.box hg2 hx2 hb2); clear HS; have HS := nS; clear nS hg2 hx2 hb2) | ((with_reducible refine gate_store rfl ?_); refine store_named rfl 28 (.tmp 7) (.tmp 14) rfl gO #[.bool ch, .slice A1 S.length c1, .slice AE 0 0] rfl rfl 28 #[.bool false, .slice none 0 0, .slice none 0 0] (HS.out.blk 0 rfl) (by kernel_rfl) rfl (by simp [Value.oneCell']) ?_; intro w3 hx3 hb3; have nS : Aside0 (Sx w0 w3 ((.blk gO #[.bool ch, .slice A1 S.length c1, .slice AE 0 0] 28) :: (.row (.slice AE 0 0) []) :: (.blk gR #[.bool false, .slice none 0 0, .slice none 0 0] 28) :: (.row (.slice A1 S.length c1) S) :: (.blk g #[.slice A0 code.length c0, .int .i64 p] 127) :: Ts)) := Aside0.mk (HS.out.put 0 rfl hx3 hb3); clear HS; have HS := nS; clear nS hx3 hb3) | (go_at_call 74; refine (spec_l3Count.calls k1 A1 c1 S N _ (HS.out.C 3 rfl) (HS.out.cap 3 rfl) HN.out).mono ?_; rintro e w4 ⟨rfl, hd_⟩; have hb4 := Drawn0.below hd_; clear hd_; have nS : Aside0 (Sx w0 w4 ((.blk gO #[.bool ch, .slice A1 S.length c1, .slice AE 0 0] 28) :: (.row (.slice AE 0 0) []) :: (.blk gR #[.bool false, .slice none 0 0, .slice none 0 0] 28) :: (.row (.slice A1 S.length c1) S) :: (.blk g #[.slice A0 code.length c0, .int .i64 p] 127) :: Ts)) := Aside0.mk (HS.out.step hb4); clear HS; have HS := nS; clear nS))
  go_loopw [9, 10] (fun zz _ wr => ∃ (r : Nat) (A : Option Addr) (c : Nat) (D : List Int) (A0 : Option Addr) (c0 : Nat) (p : Int), zz = .int .i64 (r : Int) ∧ Aside0 ((r : Int) ≤ mx 0 N) ∧ Aside0 (D.length = r) ∧ Aside0 (RdOk code p) ∧ Aside0 (Kd.C (Kd.int .u8) w0 A0 code.length code) ∧ Aside0 (Sx w0 wr ((.blk gO #[.bool ch, .slice A1 S.length c1, .slice A r c] 28) :: (.row (.slice A r c) D) :: (.blk gR #[.bool false, .slice none 0 0, .slice none 0 0] 28) :: (.row (.slice A1 S.length c1) S) :: (.blk g #[.slice A0 code.length c0, .int .i64 p] 127) :: Ts))) (fun zz _ _ => (mx 0 N).toNat - (intOf zz).toNat)
  case atStart => exact ⟨0, AE, 0, [], _, _, _, rfl, ⟨by unfold mx; split <;> omega⟩, ⟨rfl⟩, HP, HC, HS⟩
  case round =>
    clear HS HP HC
    obtain ⟨r, A, c, D, A0, c0, p, rfl, hr, HD, HP, HC, HS⟩ := hrel
    by_cases hlt : (r : Int) < N
    · have hN_ := HNB.out
      have w1 : IntKind.i64.wrap ((r : Int) + 1) = ((r + 1 : Nat) : Int) := by rw [IntWalk.i64_in _ (by omega)]; omega
      obtain ⟨v_, p1, hnum, v0, v1, hp1⟩ := num_ok HP.out
      have HNUM := Aside0.mk hnum
      have HP1 := Aside0.mk hp1
      have HVB := Aside0.mk (And.intro v0 v1)
      clear hnum hp1 v0 v1 HP
      have HLT := Aside0.mk hlt
      have p5 : (r : Int) < N := hlt
      clear hlt hN_
      cases ch
      · go_wp2_with (first | (go_at_call 123; go_loud (refine (spec_l3Num.calls g code p v_ p1 w0 _ ⟨_, _, HS.out.blk 4 rfl, (HS.out.get 4 rfl).2, HC.out⟩ HS.out.below HNUM.out).mono ?_; rintro e wif5 ⟨rfl, hI_, hb_, hk_⟩; obtain ⟨A0if5, c0if5, hC_, hn_⟩ := HS.out.reader 4 rfl hI_ hb_ hk_; have nS : Aside0 (Sx w0 wif5 ((.blk gO #[.bool false, .slice A1 S.length c1, .slice A r c] 28) :: (.row (.slice A r c) D) :: (.blk gR #[.bool false, .slice none 0 0, .slice none 0 0] 28) :: (.row (.slice A1 S.length c1) S) :: (.blk g #[.slice A0if5 code.length c0if5, .int .i64 p1] 127) :: Ts)) := Aside0.mk hn_; clear HS HC hn_ hI_ hb_ hk_; have HS := nS; have HC := Aside0.mk hC_; clear nS hC_)) | ((with_reducible refine gate_dst (N := 32) rfl ?_); refine ev_load rfl 22 (.tmp 31) rfl ⟨gO, 2, none⟩ rfl (.slice A r c) ((blk_cell (HS.out.blk 0 rfl) 2).trans rfl) (by kernel_rfl) ?_) | ((with_reducible refine gate_dst (N := 34) rfl ?_); refine lit_event ?hg (N := 34) ?hd (cs := #[.int .i64 v_]) (t := 3) (n := 1) ?hr ?_; (case hd => rfl); (case hg => rfl); (case hr => first | (go_simp; done) | (go_simp; rfl)); intro gM hgif6 wif6 hxif6 hbif6; have nS : Aside0 (Sx w0 wif6 ((.blk gM #[.int .i64 v_] 3) :: (.blk gO #[.bool false, .slice A1 S.length c1, .slice A r c] 28) :: (.row (.slice A r c) D) :: (.blk gR #[.bool false, .slice none 0 0, .slice none 0 0] 28) :: (.row (.slice A1 S.length c1) S) :: (.blk g #[.slice A0if5 code.length c0if5, .int .i64 p1] 127) :: Ts)) := Aside0.mk (HS.out.box hgif6 hxif6 hbif6); clear HS; have HS := nS; clear nS hgif6 hxif6 hbif6) | ((with_reducible refine gate_dst (N := 35) rfl ?_); refine HS.out.appendRows 2 rfl r (r + 1) HD.out rfl (.tmp 32) (.tmp 34) rfl Try.underlying22 info3 (some ⟨gM, 0, none⟩) 1 1 [v_] _ rfl rfl rfl (rowI_C (l := [v_]) (HS.out.blk 0 rfl) (by simp)) rfl rfl (by have := HNB.out; have := HLT.out; omega) ?_; intro A2 c2 wJ nJ; have nS : Aside0 (Sx w0 wJ ((.blk gM #[.int .i64 v_] 3) :: (.blk gO #[.bool false, .slice A1 S.length c1, .slice A r c] 28) :: (.row (.slice A2 (r + 1) c2) (D ++ [v_])) :: (.blk gR #[.bool false, .slice none 0 0, .slice none 0 0] 28) :: (.row (.slice A1 S.length c1) S) :: (.blk g #[.slice A0if5 code.length c0if5, .int .i64 p1] 127) :: Ts)) := Aside0.mk nJ; clear HS nJ; have HS := nS; clear nS) | ((with_reducible refine gate_store rfl ?_); refine ev_store rfl 22 (.tmp 36) (.tmp 35) rfl gO 2 rfl (.slice A2 (r + 1) c2) rfl #[.bool false, .slice A1 S.length c1, .slice A r c] 28 (HS.out.blk 1 rfl) (show 2 < 3 from by decide) rfl (by kernel_rfl) ?_; intro wif7 hxif7 hbif7; have nS : Aside0 (Sx w0 wif7 ((.blk gM #[.int .i64 v_] 3) :: (.blk gO #[.bool false, .slice A1 S.length c1, .slice A2 (r + 1) c2] 28) :: (.row (.slice A2 (r + 1) c2) (D ++ [v_])) :: (.blk gR #[.bool false, .slice none 0 0, .slice none 0 0] 28) :: (.row (.slice A1 S.length c1) S) :: (.blk g #[.slice A0if5 code.length c0if5, .int .i64 p1] 127) :: Ts)) := Aside0.mk (HS.out.put 1 rfl hxif7 hbif7); clear HS; have HS := nS; clear nS hxif7 hbif7))
        go_roundw
        case rel => exact ⟨r + 1, A2, c2, D ++ [v_], A0if5, c0if5, p1, by first | rfl | (push_cast; rfl), ⟨by have := HLT.out; unfold mx at *; split <;> omega⟩, ⟨by rw [List.length_append, HD.out]; rfl⟩, HP1, HC, ⟨HS.out.sub (by first | exact List.sublist_cons_self _ _ | exact (List.sublist_cons_self _ _).trans (List.sublist_cons_self _ _))⟩⟩
        case measure => have := HLT.out; simp [intOf, mx]; split <;> omega
      · obtain ⟨u_, hu⟩ : ∃ u : Nat, v_ + 1000000000000000 = (u : Int) := ⟨(v_ + 1000000000000000).toNat, by have := HVB.out; omega⟩
        have wu : IntKind.i64.wrap (v_ + 1000000000000000) = (u_ : Int) := by rw [hu, IntWalk.i64_in _ (by have := HVB.out; omega)]
        obtain ⟨q_, hq⟩ : ∃ q, u_ % 8 = q := ⟨_, rfl⟩
        have hq8 : q_ < 8 := by omega
        have r1 : Int.tmod (u_ : Int) 8 = (q_ : Int) := by rw [Int.tmod_eq_emod_of_nonneg (by omega)]; omega
        have r2 : (u_ : Int) % 8 = (q_ : Int) := by omega
        have q0 : 0 ≤ (q_ : Int) := by omega
        have q1 : (q_ : Int) < 8 := by omega
        obtain ⟨y_, hy⟩ : ∃ y : Int, (#[.int .i64 97, .int .i64 98, .int .i64 99, .int .i64 32, .int .i64 9077, .int .i64 120, .int .i64 128512, .int .i64 233] : Array Value)[q_]? = some (.int .i64 y) := by
            match q_, hq8 with
            | 0, _ => exact ⟨_, rfl⟩
            | 1, _ => exact ⟨_, rfl⟩
            | 2, _ => exact ⟨_, rfl⟩
            | 3, _ => exact ⟨_, rfl⟩
            | 4, _ => exact ⟨_, rfl⟩
            | 5, _ => exact ⟨_, rfl⟩
            | 6, _ => exact ⟨_, rfl⟩
            | 7, _ => exact ⟨_, rfl⟩
        have HY := Aside0.mk hy
        clear hy hu hq hq8
        go_wp2_with (first | (go_at_call 123; go_loud (refine (spec_l3Num.calls g code p v_ p1 w0 _ ⟨_, _, HS.out.blk 4 rfl, (HS.out.get 4 rfl).2, HC.out⟩ HS.out.below HNUM.out).mono ?_; rintro e wit5 ⟨rfl, hI_, hb_, hk_⟩; obtain ⟨A0it5, c0it5, hC_, hn_⟩ := HS.out.reader 4 rfl hI_ hb_ hk_; have nS : Aside0 (Sx w0 wit5 ((.blk gO #[.bool true, .slice A1 S.length c1, .slice A r c] 28) :: (.row (.slice A r c) D) :: (.blk gR #[.bool false, .slice none 0 0, .slice none 0 0] 28) :: (.row (.slice A1 S.length c1) S) :: (.blk g #[.slice A0it5 code.length c0it5, .int .i64 p1] 127) :: Ts)) := Aside0.mk hn_; clear HS HC hn_ hI_ hb_ hk_; have HS := nS; have HC := Aside0.mk hC_; clear nS hC_)) | ((with_reducible refine gate_dst (N := 25) rfl ?_); refine lit_event ?hg (N := 25) ?hd (cs := #[.int .i64 97, .int .i64 98, .int .i64 99, .int .i64 32, .int .i64 9077, .int .i64 120, .int .i64 128512, .int .i64 233]) (t := 3) (n := 8) ?hr ?_; (case hd => rfl); (case hg => rfl); (case hr => first | (go_simp; done) | (go_simp; rfl)); intro gC hgit6 wit6 hxit6 hbit6; have nS : Aside0 (Sx w0 wit6 ((.blk gC #[.int .i64 97, .int .i64 98, .int .i64 99, .int .i64 32, .int .i64 9077, .int .i64 120, .int .i64 128512, .int .i64 233] 3) :: (.blk gO #[.bool true, .slice A1 S.length c1, .slice A r c] 28) :: (.row (.slice A r c) D) :: (.blk gR #[.bool false, .slice none 0 0, .slice none 0 0] 28) :: (.row (.slice A1 S.length c1) S) :: (.blk g #[.slice A0it5 code.length c0it5, .int .i64 p1] 127) :: Ts)) := Aside0.mk (HS.out.box hgit6 hxit6 hbit6); clear HS; have HS := nS; clear nS hgit6 hxit6 hbit6) | ((with_reducible refine gate_dst (N := 30) rfl ?_); refine ev_load rfl 3 (.tmp 29) rfl ⟨gC, q_, none⟩ rfl (.int .i64 y_) ((blk_cell (HS.out.blk 0 rfl) q_).trans HY.out) (by kernel_rfl) ?_) | ((with_reducible refine gate_dst (N := 32) rfl ?_); refine ev_load rfl 22 (.tmp 31) rfl ⟨gO, 2, none⟩ rfl (.slice A r c) ((blk_cell (HS.out.blk 1 rfl) 2).trans rfl) (by kernel_rfl) ?_) | ((with_reducible refine gate_dst (N := 34) rfl ?_); refine lit_event ?hg (N := 34) ?hd (cs := #[.int .i64 y_]) (t := 3) (n := 1) ?hr ?_; (case hd => rfl); (case hg => rfl); (case hr => first | (go_simp; done) | (go_simp; rfl)); intro gM hgit7 wit7 hxit7 hbit7; have nS : Aside0 (Sx w0 wit7 ((.blk gM #[.int .i64 y_] 3) :: (.blk gC #[.int .i64 97, .int .i64 98, .int .i64 99, .int .i64 32, .int .i64 9077, .int .i64 120, .int .i64 128512, .int .i64 233] 3) :: (.blk gO #[.bool true, .slice A1 S.length c1, .slice A r c] 28) :: (.row (.slice A r c) D) :: (.blk gR #[.bool false, .slice none 0 0, .slice none 0 0] 28) :: (.row (.slice A1 S.length c1) S) :: (.blk g #[.slice A0it5 code.length c0it5, .int .i64 p1] 127) :: Ts)) := Aside0.mk (HS.out.box hgit7 hxit7 hbit7); clear HS; have HS := nS; clear nS hgit7 hxit7 hbit7) | ((with_reducible refine gate_dst (N := 35) rfl ?_); refine HS.out.appendRows 3 rfl r (r + 1) HD.out rfl (.tmp 32) (.tmp 34) rfl Try.underlying22 info3 (some ⟨gM, 0, none⟩) 1 1 [y_] _ rfl rfl rfl (rowI_C (l := [y_]) (HS.out.blk 0 rfl) (by simp)) rfl rfl (by have := HNB.out; have := HLT.out; omega) ?_; intro A2 c2 wJ nJ; have nS : Aside0 (Sx w0 wJ ((.blk gM #[.int .i64 y_] 3) :: (.blk gC #[.int .i64 97, .int .i64 98, .int .i64 99, .int .i64 32, .int .i64 9077, .int .i64 120, .int .i64 128512, .int .i64 233] 3) :: (.blk gO #[.bool true, .slice A1 S.length c1, .slice A r c] 28) :: (.row (.slice A2 (r + 1) c2) (D ++ [y_])) :: (.blk gR #[.bool false, .slice none 0 0, .slice none 0 0] 28) :: (.row (.slice A1 S.length c1) S) :: (.blk g #[.slice A0it5 code.length c0it5, .int .i64 p1] 127) :: Ts)) := Aside0.mk nJ; clear HS nJ; have HS := nS; clear nS) | ((with_reducible refine gate_store rfl ?_); refine ev_store rfl 22 (.tmp 36) (.tmp 35) rfl gO 2 rfl (.slice A2 (r + 1) c2) rfl #[.bool true, .slice A1 S.length c1, .slice A r c] 28 (HS.out.blk 2 rfl) (show 2 < 3 from by decide) rfl (by kernel_rfl) ?_; intro wit8 hxit8 hbit8; have nS : Aside0 (Sx w0 wit8 ((.blk gM #[.int .i64 y_] 3) :: (.blk gC #[.int .i64 97, .int .i64 98, .int .i64 99, .int .i64 32, .int .i64 9077, .int .i64 120, .int .i64 128512, .int .i64 233] 3) :: (.blk gO #[.bool true, .slice A1 S.length c1, .slice A2 (r + 1) c2] 28) :: (.row (.slice A2 (r + 1) c2) (D ++ [y_])) :: (.blk gR #[.bool false, .slice none 0 0, .slice none 0 0] 28) :: (.row (.slice A1 S.length c1) S) :: (.blk g #[.slice A0it5 code.length c0it5, .int .i64 p1] 127) :: Ts)) := Aside0.mk (HS.out.put 2 rfl hxit8 hbit8); clear HS; have HS := nS; clear nS hxit8 hbit8))
        go_roundw
        case rel => exact ⟨r + 1, A2, c2, D ++ [y_], A0it5, c0it5, p1, by first | rfl | (push_cast; rfl), ⟨by have := HLT.out; unfold mx at *; split <;> omega⟩, ⟨by rw [List.length_append, HD.out]; rfl⟩, HP1, HC, ⟨HS.out.sub (by first | exact List.sublist_cons_self _ _ | exact (List.sublist_cons_self _ _).trans (List.sublist_cons_self _ _))⟩⟩
        case measure => have := HLT.out; simp [intOf, mx]; split <;> omega
    · have p5 : ¬ (r : Int) < N := hlt
      go_wp2_with (first | ((with_reducible refine gate_dst (N := 37) rfl ?_); refine wpList_load_row rfl 28 (.tmp 7) rfl gO rfl 28 #[.bool ch, .slice A1 S.length c1, .slice A r c] (0, 0) _ (HS.out.blk 0 rfl) Try.underlying28 rfl (by kernel_rfl) ?_) | ((with_reducible refine gate_store rfl ?_); refine store_named rfl 28 (.tmp 6) (.tmp 37) rfl gR #[.bool ch, .slice A1 S.length c1, .slice A r c] rfl rfl 28 #[.bool false, .slice none 0 0, .slice none 0 0] (HS.out.blk 2 rfl) (by kernel_rfl) rfl (by simp [Value.oneCell']) ?_; intro wf5 hxf5 hbf5; have nS : Aside0 (Sx w0 wf5 ((.blk gO #[.bool ch, .slice A1 S.length c1, .slice A r c] 28) :: (.row (.slice A r c) D) :: (.blk gR #[.bool ch, .slice A1 S.length c1, .slice A r c] 28) :: (.row (.slice A1 S.length c1) S) :: (.blk g #[.slice A0 code.length c0, .int .i64 p] 127) :: Ts)) := Aside0.mk (HS.out.put 2 rfl hxf5 hbf5); clear HS; have HS := nS; clear nS hxf5 hbf5))
      refine bodyPost_ret (results_cell_row rfl _ _ gR 28 #[.bool ch, .slice A1 S.length c1, .slice A r c] (0, 0) _ rfl (HS.out.blk 2 rfl) Try.underlying28 rfl (by kernel_rfl)) rfl ?_
      unfold OfPost
      exact ⟨A, r, c, D, A0, c0, p, rfl, by rw [HD.out], by have := hr.out; have := HNB.out; have := HD.out; unfold mx at *; split at * <;> omega, HP.out, HC.out, HS.out.sub (.cons _ (.cons_cons _ (.cons _ (.cons_cons _ (.cons_cons _ (List.Sublist.refl _))))))⟩
theorem Sx.permD {w W : World} {Ts Us : List Th} (h : Sx w W Ts) (p : Ts.Perm Us) : Sx w W Us :=
  ⟨h.below, fun T hT => h.ok T (p.mem_iff.2 hT), (p.pairwise_iff (fun h k hb ha => h k ha hb)).1 h.nod⟩
theorem Sx.readerRow {w0 W w' : World} {Ts : List Th} (h : Sx w0 W Ts) (i : Nat) {g : Nat} {cs : Array Value} {code : List Int} {p : Int} (hi : Ts[i]? = some (.blk g cs 127)) (hI : IsS127 w0 w' g code p) (hb : Below w0.heap.size w0 w') (hk : KeepBut W w' g none) {ok : Nat → Prop} {v : Value} {xs : List Int} (hr : Kd.R (Kd.int .i64) 3 w' W.heap.size ok v xs) :
    ∃ A0 c0, Kd.C (Kd.int .u8) w0 A0 code.length code ∧ Sx w0 w' (.row v xs :: Ts.set i (.blk g #[.slice A0 code.length c0, .int .i64 p] 127)) := by
  obtain ⟨A0, c0, hC, hn⟩ := h.reader i hi hI hb hk
  refine ⟨A0, c0, hC, hn.below, fun T hT => ?_, .cons (fun U hU k hk1 hk2 => ?_) hn.nod⟩
  · rcases List.mem_cons.1 hT with rfl | hT
    · exact Kd.R_mono (Kd.R_lower hr h.below.size) (fun _ _ => trivial)
    · exact hn.ok T hT
  · have h1 := Kd.R_base hr k hk1
    have h2 : k < W.heap.size := by
      rcases List.mem_or_eq_of_mem_set hU with hU | rfl
      · exact (Th.lt (h.ok U hU) k hk2).2
      · have : k = g := hk2
        subst this
        exact blk_lt (h.blk i hi)
    omega
theorem Sx.rowed {w W : World} {Ts : List Th} (h : Sx w W Ts) (i : Nat) {g : Nat} {l : List Int} (hi : Ts[i]? = some (.blk g (rowI l) 3)) (hm : l.length ≤ 1000000) : Sx w W (Ts.set i (.row (.slice (some ⟨g, 0, none⟩) l.length l.length) l)) :=
  h.repl i hi (R_of_blk (h.blk i hi) (h.get i hi).2 hm) (fun _ _ _ => rfl) (fun k hk => .inl (by simp only [Th.on, Value.ownBlock] at hk ⊢; injection hk with e; exact e.symm)) h.below
theorem Sx.takeRow {w W : World} {Ts : List Th} (h : Sx w W Ts) (i : Nat) {A : Option Addr} {n c : Nat} {xs : List Int} (hi : Ts[i]? = some (.row (.slice A n c) xs)) (m : Nat) (hm : m ≤ xs.length) : Sx w W (Ts.set i (.row (.slice A m c) (xs.take m))) :=
  h.repl i hi (Kd.R_take (h.row i hi) hm) (fun _ _ _ => rfl) (fun k hk => .inl (by cases A <;> exact hk)) h.below
set_option maxRecDepth 100000 in
theorem load_step {P : Program} {ops : Array Oper} {o : Oper} {a : Act} {Q : Exit → Act → World → Prop} {K : Act → World → Prop} {W : World} {N : Option Tmp} (hw : Region.wanted o (yielded ops a.tmps) = true) (hN : o.dst = N) (ty : TypeId) (x : Operand) (ho : o.op = .load ty x) (ad : Addr) (hx : a.eval x = .pointer (some ad)) (v : Value) (hc : W.cell? ad = some v) (hty : plainTy P ty = true) (h : K (a.put N v) W) : if Region.wanted o (yielded ops a.tmps) = true then Oper.wp P o a W K Q else K (a.put N undef) W :=
  value_ hw hN (by
    unfold execOp
    simp only [ho, hx, Instr.loadAt, Instr.sureAddr, Sem.run_bind, Sem.run_pure, Result.andThen_ok, run_load_cell hc hty]) h
set_option maxRecDepth 100000 in
theorem take_six (m : Nat) (h : m ≤ 6) : ∀ (g : Nat) (W : World), (Instr.slice 22 (.slice (some ⟨g, 0, none⟩) 6 6) none (some (.int .i64 (m : Int))) none).run Try.prog W = .ok (.slice (some ⟨g, 0, none⟩) m 6) W := by
  intro g W
  obtain ⟨i0, hi0, _, hsz, _⟩ := info_parts info3
  have h2 := (print_take_of (P := Try.prog) (Value.int .i64) 0 22 3 .i64 Try.underlying22 hi0 hsz (some ⟨g, 0, none⟩) 6 ([1, 1, 1, 1, 1, 1] : List Int) (m : Int) (by omega) (by simp; omega) (by simp)).1 W
  have hl : (([1, 1, 1, 1, 1, 1] : List Int).take m).length = m := by simp; omega
  rw [Int.toNat_natCast, hl] at h2
  exact h2
theorem cnt_le (l : List Int) (h5 : l.length ≤ 5) : cnt l ≤ 10000 := by
  unfold cnt
  split
  · rename_i h
    exact (shOk_prod (l := l) (by simp [shOk, h, h5])).2
  · omega
def ArrPost (Ts : List Th) (w0 : World) (e : Ending) (w' : World) : Prop := ∃ (b : Bool) (A1 : Option Addr) (n1 c1 : Nat) (S : List Int) (A2 : Option Addr) (n2 c2 : Nat) (D : List Int), e = .returned (.agg #[.bool b, .slice A1 n1 c1, .slice A2 n2 c2]) ∧ S.length = n1 ∧ n1 ≤ 6 ∧ D.length = n2 ∧ n2 ≤ 10001 ∧ Sx w0 w' (.row (.slice A2 n2 c2) D :: .row (.slice A1 n1 c1) S :: Ts)
set_option maxHeartbeats 2000000 in
set_option maxRecDepth 100000 in
theorem l3Array_any (Ts : List Th) (g : Nat) (A0 : Option Addr) (c0 : Nat) (code : List Int) (p : Int) (w0 w : World) (hS : Sx w0 w ((.blk g #[.slice A0 code.length c0, .int .i64 p] 127) :: Ts)) (hC : Kd.C (Kd.int .u8) w0 A0 code.length code) (hp : RdOk code p) :
    Calls Try.prog 67 #[.pointer (some ⟨g, 0, none⟩)] w fun e w' => ArrPost Ts w0 e w' := by
  obtain ⟨k_, p1, hnx, k0, k1, hp1⟩ := next_ok hp
  obtain ⟨kn, rfl⟩ := Int.eq_ofNat_of_zero_le k0
  obtain ⟨ks, S, p2, hsh, hS5, hSr, hp2⟩ := shape_ok hp1
  obtain ⟨kc, hkc⟩ := (l3Count_ev S (by omega)).rounds
  obtain ⟨q5, hq5⟩ : ∃ q, kn % 5 = q := ⟨_, rfl⟩
  have r1 : Int.tmod (kn : Int) 5 = (q5 : Int) := by rw [Int.tmod_eq_emod_of_nonneg (by omega)]; omega
  have r2 : (kn : Int) % 5 = (q5 : Int) := by omega
  obtain ⟨ch_, hch⟩ : ∃ c : Bool, ((q5 : Int) == 4) = c := ⟨_, rfl⟩
  have HCB := Aside0.mk (cnt_le S hS5)
  have HS := Aside0.mk hS
  have HC := Aside0.mk hC
  have HP := Aside0.mk hp
  have HNX := Aside0.mk hnx
  have HSHP := Aside0.mk hsh
  have HP2 := Aside0.mk hp2
  have HCN := Aside0.mk hkc
  have HS5 := Aside0.mk hS5
  have HP1 := Aside0.mk hp1
  have HKB := Aside0.mk k1
  clear hS hC hp hnx hsh hp2 hkc hS5 hp1 hSr hq5 k0 k1
  go_enter Try.func67, Try.ntmps67
  go_upto_region 3 with (first | ((with_reducible refine gate_dst (N := 2) rfl ?_); refine box_event ?hg (N := 2) ?hd (cs := #[.bool false, .slice none 0 0, .slice none 0 0]) (t := 28) ?hr ?_; (case hd => rfl); (case hg => rfl); (case hr => first | (go_simp; done) | (go_simp; rfl)); intro gR hg1 w1 hx1 hb1; have nS : Aside0 (Sx w0 w1 ((.blk gR #[.bool false, .slice none 0 0, .slice none 0 0] 28) :: (.blk g #[.slice A0 code.length c0, .int .i64 p] 127) :: Ts)) := Aside0.mk (HS.out.box hg1 hx1 hb1); clear HS; have HS := nS; clear nS hg1 hx1 hb1) | (go_at_call 66; go_loud (refine (spec_l1Rd_next.calls g code p (kn : Int) p1 w0 _ ⟨_, _, HS.out.blk 1 rfl, (HS.out.get 1 rfl).2, HC.out⟩ HS.out.below HNX.out).mono ?_; rintro e w2 ⟨rfl, hI_, hb_, hk_⟩; obtain ⟨A02, c02, hC_, hn_⟩ := HS.out.reader 1 rfl hI_ hb_ hk_; have nS : Aside0 (Sx w0 w2 ((.blk gR #[.bool false, .slice none 0 0, .slice none 0 0] 28) :: (.blk g #[.slice A02 code.length c02, .int .i64 p1] 127) :: Ts)) := Aside0.mk hn_; clear HS HC hn_ hI_ hb_ hk_; have HS := nS; have HC := Aside0.mk hC_; clear nS hC_)) | (go_at_call 122; refine (spec_l3Shape.calls ks g code p1 S p2 w0 _ ⟨_, _, HS.out.blk 1 rfl, (HS.out.get 1 rfl).2, HC.out⟩ HS.out.below HSHP.out).mono ?_; rintro e w3 ⟨vr_, rfl, hr_, hI_, hb_, hk_⟩; obtain ⟨A03, c03, hC_, hn_⟩ := HS.out.readerRow 1 rfl hI_ hb_ hk_ hr_; obtain ⟨As, cs, hv_⟩ := Kd.R_slice hr_; subst hv_; have nS : Aside0 (Sx w0 w3 ((.row (.slice As S.length cs) S) :: (.blk gR #[.bool false, .slice none 0 0, .slice none 0 0] 28) :: (.blk g #[.slice A03 code.length c03, .int .i64 p2] 127) :: Ts)) := Aside0.mk hn_; clear HS HC hn_ hI_ hb_ hk_ hr_; have HS := nS; have HC := Aside0.mk hC_; clear nS hC_) | (go_at_call 69; refine (l3Of_any ch_ kc (cnt S) (.blk gR #[.bool false, .slice none 0 0, .slice none 0 0] 28 :: Ts) g A03 c03 code p2 As cs S w0 _ (HS.out.permD (.cons _ (.swap _ _ _))) HC.out HP2.out HCN.out HCB.out).mono ?_; rintro e w9 h_; unfold OfPost at h_; obtain ⟨Ad, r, cd, D, A09, c09, p3, rfl, hD_, hr_, hp_, hC_, hn_⟩ := h_; subst hD_; have nS : Aside0 (Sx w0 w9 (.row (.slice Ad D.length cd) D :: .row (.slice As S.length cs) S :: .blk g #[.slice A09 code.length c09, .int .i64 p3] 127 :: .blk gR #[.bool false, .slice none 0 0, .slice none 0 0] 28 :: Ts)) := Aside0.mk hn_; have HR_ := Aside0.mk hr_; have HP3 := Aside0.mk hp_; clear HS HC hn_ hr_ hp_; have HS := nS; have HC := Aside0.mk hC_; clear nS hC_) | ((with_reducible refine gate_dst (N := 4) rfl ?_); refine box_event ?hg (N := 4) ?hd (cs := #[.bool false, .slice none 0 0, .slice none 0 0]) (t := 28) ?hr ?_; (case hd => rfl); (case hg => rfl); (case hr => first | (go_simp; done) | (go_simp; rfl)); intro gO hg4 w4 hx4 hb4; have nS : Aside0 (Sx w0 w4 ((.blk gO #[.bool false, .slice none 0 0, .slice none 0 0] 28) :: (.row (.slice Ad D.length cd) D) :: (.row (.slice As S.length cs) S) :: (.blk g #[.slice A09 code.length c09, .int .i64 p3] 127) :: (.blk gR #[.bool false, .slice none 0 0, .slice none 0 0] 28) :: Ts)) := Aside0.mk (HS.out.box hg4 hx4 hb4); clear HS; have HS := nS; clear nS hg4 hx4 hb4) | ((with_reducible refine gate_store rfl ?_); refine store_named rfl 28 (.tmp 4) (.tmp 15) rfl gO #[.bool ch_, .slice As S.length cs, .slice Ad D.length cd] rfl rfl 28 #[.bool false, .slice none 0 0, .slice none 0 0] (HS.out.blk 0 rfl) (by kernel_rfl) rfl (by simp [Value.oneCell']) ?_; intro w5 hx5 hb5; have nS : Aside0 (Sx w0 w5 ((.blk gO #[.bool ch_, .slice As S.length cs, .slice Ad D.length cd] 28) :: (.row (.slice Ad D.length cd) D) :: (.row (.slice As S.length cs) S) :: (.blk g #[.slice A09 code.length c09, .int .i64 p3] 127) :: (.blk gR #[.bool false, .slice none 0 0, .slice none 0 0] 28) :: Ts)) := Aside0.mk (HS.out.put 0 rfl hx5 hb5); clear HS; have HS := nS; clear nS hx5 hb5))
  by_cases hk : kn < 246
  · have b1 : decide ((kn : Int) ≥ 246) = false := decide_eq_false (by omega)
    have b2 : ¬ 246 ≤ (kn : Int) := by omega
    have b3 : ¬ 246 ≤ kn := by omega
    clear hk
    go_wp2_with (first | ((with_reducible refine gate_dst (N := 79) rfl ?_); refine wpList_load_row rfl 28 (.tmp 4) rfl gO rfl 28 #[.bool ch_, .slice As S.length cs, .slice Ad D.length cd] (0, 0) _ (HS.out.blk 0 rfl) Try.underlying28 rfl (by kernel_rfl) ?_) | ((with_reducible refine gate_store rfl ?_); refine store_named rfl 28 (.tmp 2) (.tmp 79) rfl gR #[.bool ch_, .slice As S.length cs, .slice Ad D.length cd] rfl rfl 28 #[.bool false, .slice none 0 0, .slice none 0 0] (HS.out.blk 4 rfl) (by kernel_rfl) rfl (by simp [Value.oneCell']) ?_; intro wza6 hxza6 hbza6; have nS : Aside0 (Sx w0 wza6 ((.blk gO #[.bool ch_, .slice As S.length cs, .slice Ad D.length cd] 28) :: (.row (.slice Ad D.length cd) D) :: (.row (.slice As S.length cs) S) :: (.blk g #[.slice A09 code.length c09, .int .i64 p3] 127) :: (.blk gR #[.bool ch_, .slice As S.length cs, .slice Ad D.length cd] 28) :: Ts)) := Aside0.mk (HS.out.put 4 rfl hxza6 hbza6); clear HS; have HS := nS; clear nS hxza6 hbza6))
    refine bodyPost_ret (results_cell_row rfl _ _ gR 28 #[.bool ch_, .slice As S.length cs, .slice Ad D.length cd] (0, 0) _ rfl (HS.out.blk 4 rfl) Try.underlying28 rfl (by kernel_rfl)) rfl ?_
    have hs_ : Sx w0 _ ((.row (.slice Ad D.length cd) D) :: (.row (.slice As S.length cs) S) :: Ts) := HS.out.sub ((.cons _ (.cons_cons _ (.cons_cons _ (.cons _ (.cons _ (List.Sublist.refl _)))))))
    unfold ArrPost
    exact ⟨_, _, _, _, _, _, _, _, _, rfl, rfl, by have := HS5.out; omega, rfl, by have := HR_.out; omega, hs_⟩
  · have b1 : decide ((kn : Int) ≥ 246) = true := decide_eq_true (by omega)
    have b2 : 246 ≤ (kn : Int) := by omega
    have b3 : 246 ≤ kn := by omega
    clear hk
    obtain ⟨v_, p4, hny, v0, v1, hp4⟩ := next_ok HP3.out
    obtain ⟨vn, rfl⟩ := Int.eq_ofNat_of_zero_le v0
    have HNY := Aside0.mk hny
    have HVB := Aside0.mk v1
    clear hny v0 v1 hp4
    obtain ⟨j6, hj6⟩ : ∃ q, vn % 6 = q := ⟨_, rfl⟩
    have s1 : Int.tmod (vn : Int) 6 = (j6 : Int) := by rw [Int.tmod_eq_emod_of_nonneg (by omega)]; omega
    have s2 : (vn : Int) % 6 = (j6 : Int) := by omega
    obtain ⟨d6, hd6⟩ : ∃ q, vn / 6 = q := ⟨_, rfl⟩
    have s3 : Int.tdiv (vn : Int) 6 = (d6 : Int) := by rw [Int.tdiv_eq_ediv_of_nonneg (by omega)]; omega
    have s4 : (vn : Int) / 6 = (d6 : Int) := by omega
    have HJ6 := Aside0.mk (show j6 < 6 by omega)
    have d6b : d6 ≤ 1000000000000000000 := by have := HVB.out; omega
    have HD6 := Aside0.mk d6b
    clear hj6 hd6 d6b
    go_upto_region 6 with (first | (go_at_call 66; go_loud (refine (spec_l1Rd_next.calls g code p3 (vn : Int) p4 w0 _ ⟨_, _, HS.out.blk 3 rfl, (HS.out.get 3 rfl).2, HC.out⟩ HS.out.below HNY.out).mono ?_; rintro e wn6 ⟨rfl, hI_, hb_, hk_⟩; obtain ⟨A0n6, c0n6, hC_, hn_⟩ := HS.out.reader 3 rfl hI_ hb_ hk_; have nS : Aside0 (Sx w0 wn6 ((.blk gO #[.bool ch_, .slice As S.length cs, .slice Ad D.length cd] 28) :: (.row (.slice Ad D.length cd) D) :: (.row (.slice As S.length cs) S) :: (.blk g #[.slice A0n6 code.length c0n6, .int .i64 p4] 127) :: (.blk gR #[.bool false, .slice none 0 0, .slice none 0 0] 28) :: Ts)) := Aside0.mk hn_; clear HS HC hn_ hI_ hb_ hk_; have HS := nS; have HC := Aside0.mk hC_; clear nS hC_)))
    have h6 : j6 = 0 ∨ j6 = 1 ∨ j6 = 2 ∨ j6 = 3 ∨ 4 ≤ j6 := by omega
    rcases h6 with h | h | h | h | h
    · have t0a : ((j6 : Int) == 0) = true := beq_iff_eq.mpr (by omega)
      have t0b : decide ((j6 : Int) = 0) = true := decide_eq_true (by omega)
      have t0d : decide (j6 = 0) = true := decide_eq_true (by omega)
      have t0e : (j6 == 0) = true := beq_iff_eq.mpr (by omega)
      clear h
      go_wp2_with (first | ((with_reducible refine gate_dst (N := 25) rfl ?_); refine ev_load rfl 22 (.tmp 24) rfl ⟨gO, 2, none⟩ rfl (.slice Ad D.length cd) ((blk_cell (HS.out.blk 0 rfl) 2).trans rfl) (by kernel_rfl) ?_) | ((with_reducible refine gate_dst (N := 26) rfl ?_); refine lit_event ?hg (N := 26) ?hd (cs := #[.int .i64 1]) (t := 3) (n := 1) ?hr ?_; (case hd => rfl); (case hg => rfl); (case hr => first | (go_simp; done) | (go_simp; rfl)); intro gM hgw07 ww07 hxw07 hbw07; have nS : Aside0 (Sx w0 ww07 ((.blk gM #[.int .i64 1] 3) :: (.blk gO #[.bool ch_, .slice As S.length cs, .slice Ad D.length cd] 28) :: (.row (.slice Ad D.length cd) D) :: (.row (.slice As S.length cs) S) :: (.blk g #[.slice A0n6 code.length c0n6, .int .i64 p4] 127) :: (.blk gR #[.bool false, .slice none 0 0, .slice none 0 0] 28) :: Ts)) := Aside0.mk (HS.out.box hgw07 hxw07 hbw07); clear HS; have HS := nS; clear nS hgw07 hxw07 hbw07) | ((with_reducible refine gate_dst (N := 27) rfl ?_); refine HS.out.appendRows 2 rfl D.length (D.length + 1) rfl rfl (.tmp 25) (.tmp 26) rfl Try.underlying22 info3 (some ⟨gM, 0, none⟩) 1 1 [1] _ rfl rfl rfl (rowI_C (l := [1]) (HS.out.blk 0 rfl) (by simp)) rfl rfl (by have := HR_.out; omega) ?_; intro A2 c2 wJ nJ; have nS : Aside0 (Sx w0 wJ ((.blk gM #[.int .i64 1] 3) :: (.blk gO #[.bool ch_, .slice As S.length cs, .slice Ad D.length cd] 28) :: (.row (.slice A2 (D.length + 1) c2) (D ++ [1])) :: (.row (.slice As S.length cs) S) :: (.blk g #[.slice A0n6 code.length c0n6, .int .i64 p4] 127) :: (.blk gR #[.bool false, .slice none 0 0, .slice none 0 0] 28) :: Ts)) := Aside0.mk nJ; clear HS nJ; have HS := nS; clear nS) | ((with_reducible refine gate_store rfl ?_); refine ev_store rfl 22 (.tmp 28) (.tmp 27) rfl gO 2 rfl (.slice A2 (D.length + 1) c2) rfl #[.bool ch_, .slice As S.length cs, .slice Ad D.length cd] 28 (HS.out.blk 1 rfl) (show 2 < 3 from by decide) rfl (by kernel_rfl) ?_; intro ww08 hxw08 hbw08; have nS : Aside0 (Sx w0 ww08 ((.blk gM #[.int .i64 1] 3) :: (.blk gO #[.bool ch_, .slice As S.length cs, .slice A2 (D.length + 1) c2] 28) :: (.row (.slice A2 (D.length + 1) c2) (D ++ [1])) :: (.row (.slice As S.length cs) S) :: (.blk g #[.slice A0n6 code.length c0n6, .int .i64 p4] 127) :: (.blk gR #[.bool false, .slice none 0 0, .slice none 0 0] 28) :: Ts)) := Aside0.mk (HS.out.put 1 rfl hxw08 hbw08); clear HS; have HS := nS; clear nS hxw08 hbw08) | ((with_reducible refine gate_dst (N := 79) rfl ?_); refine wpList_load_row rfl 28 (.tmp 4) rfl gO rfl 28 #[.bool ch_, .slice As S.length cs, .slice A2 (D.length + 1) c2] (0, 0) _ (HS.out.blk 1 rfl) Try.underlying28 rfl (by kernel_rfl) ?_) | ((with_reducible refine gate_store rfl ?_); refine store_named rfl 28 (.tmp 2) (.tmp 79) rfl gR #[.bool ch_, .slice As S.length cs, .slice A2 (D.length + 1) c2] rfl rfl 28 #[.bool false, .slice none 0 0, .slice none 0 0] (HS.out.blk 5 rfl) (by kernel_rfl) rfl (by simp [Value.oneCell']) ?_; intro wzw09 hxzw09 hbzw09; have nS : Aside0 (Sx w0 wzw09 ((.blk gM #[.int .i64 1] 3) :: (.blk gO #[.bool ch_, .slice As S.length cs, .slice A2 (D.length + 1) c2] 28) :: (.row (.slice A2 (D.length + 1) c2) (D ++ [1])) :: (.row (.slice As S.length cs) S) :: (.blk g #[.slice A0n6 code.length c0n6, .int .i64 p4] 127) :: (.blk gR #[.bool ch_, .slice As S.length cs, .slice A2 (D.length + 1) c2] 28) :: Ts)) := Aside0.mk (HS.out.put 5 rfl hxzw09 hbzw09); clear HS; have HS := nS; clear nS hxzw09 hbzw09))
      refine bodyPost_ret (results_cell_row rfl _ _ gR 28 #[.bool ch_, .slice As S.length cs, .slice A2 (D.length + 1) c2] (0, 0) _ rfl (HS.out.blk 5 rfl) Try.underlying28 rfl (by kernel_rfl)) rfl ?_
      have hs_ : Sx w0 _ ((.row (.slice A2 (D.length + 1) c2) (D ++ [1])) :: (.row (.slice As S.length cs) S) :: Ts) := HS.out.sub ((.cons _ (.cons _ (.cons_cons _ (.cons_cons _ (.cons _ (.cons _ (List.Sublist.refl _))))))))
      unfold ArrPost
      exact ⟨_, _, _, _, _, _, _, _, _, rfl, rfl, by have := HS5.out; omega, by simp, by have := HR_.out; omega, hs_⟩
    · have t0a : ((j6 : Int) == 0) = false := beq_eq_false_iff_ne.mpr (by omega)
      have t0b : decide ((j6 : Int) = 0) = false := decide_eq_false (by omega)
      have t0d : decide (j6 = 0) = false := decide_eq_false (by omega)
      have t0e : (j6 == 0) = false := beq_eq_false_iff_ne.mpr (by omega)
      have t0c : ¬ (j6 : Int) = 0 := by omega
      have t0f : ¬ j6 = 0 := by omega
      have t1a : ((j6 : Int) == 1) = true := beq_iff_eq.mpr (by omega)
      have t1b : decide ((j6 : Int) = 1) = true := decide_eq_true (by omega)
      have t1d : decide (j6 = 1) = true := decide_eq_true (by omega)
      have t1e : (j6 == 1) = true := beq_iff_eq.mpr (by omega)
      obtain ⟨q4, hq4⟩ : ∃ q, d6 % 4 = q := ⟨_, rfl⟩
      have q41 : Int.tmod (d6 : Int) 4 = (q4 : Int) := by rw [Int.tmod_eq_emod_of_nonneg (by omega)]; omega
      have q42 : (d6 : Int) % 4 = (q4 : Int) := by omega
      have Hq4 := Aside0.mk (show q4 < 4 by omega)
      clear hq4
      obtain ⟨y_, hy⟩ : ∃ y : Int, (#[.int .i64 1, .int .i64 0, .int .i64 (-1), .int .i64 10001] : Array Value)[q4]? = some (.int .i64 y) := by
          have hq_ := Hq4.out
          match q4, hq_ with
          | 0, _ => exact ⟨_, rfl⟩
          | 1, _ => exact ⟨_, rfl⟩
          | 2, _ => exact ⟨_, rfl⟩
          | 3, _ => exact ⟨_, rfl⟩
      have HY := Aside0.mk hy
      clear hy
      have q0 : 0 ≤ (q4 : Int) := by omega
      have q1 : (q4 : Int) < 4 := by have := Hq4.out; omega
      clear h
      have s5 : IntKind.i64.wrap (d6 : Int) = (d6 : Int) := IntWalk.i64_in _ (by have := HD6.out; omega)
      have s6 : RowKit.wrap64 (d6 : Int) = (d6 : Int) := IntWalk.wrap64_in _ (by have := HD6.out; clear s5; omega)
      go_upto_region 9 with fail
      have nS := Aside0.mk HS.out.drew
      clear HS
      have HS := nS
      clear nS
      refine start_ (n := 12) (S := (fun w' => w'.cell? ⟨gO, 1, none⟩ = some (.slice As S.length cs))) (ds := [11]) #[false, false, false, false, false, false, false, false, false, false, false, false] (by kernel_rfl) rfl rfl ((blk_cell (HS.out.blk 0 rfl) 1).trans rfl) (fun hHeld => ?_)
      refine pure_ (i := 0) (N := (some 31)) (v := ?_) (a' := ?_) #[true, false, false, false, false, false, false, false, false, false, false, false] rfl rfl (by kernel_rfl) (fun _ _ _ h => h) (Or.inl ⟨by rfl, ?_⟩) ?_ ?_
      rotate_left
      · intro w'
        go_simp
        with_reducible rfl
      rotate_left
      · simp only [Act.put, List.setIfInBounds_toArray, List.set_cons_zero, List.set_cons_succ]
        rfl
      refine take_ (i := 1) (N := (some 32)) (v := ?_) (a' := ?_) #[true, true, false, false, false, false, false, false, false, false, false, false] rfl rfl (by kernel_rfl) (fun _ _ _ h => h) (Or.inl ⟨by rfl, ?_⟩) hHeld ?_ ?_
      rotate_left
      · rintro w' s0
        go_simp
        with_reducible rfl
      rotate_left
      · simp only [Act.put, List.setIfInBounds_toArray, List.set_cons_zero, List.set_cons_succ]
        rfl
      refine pure_ (i := 3) (N := (some 34)) (v := ?_) (a' := ?_) #[true, true, false, true, false, false, false, false, false, false, false, false] rfl rfl (by kernel_rfl) (fun _ _ _ h => h) (Or.inl ⟨by rfl, ?_⟩) ?_ ?_
      rotate_left
      · intro w'
        go_simp
        with_reducible rfl
      rotate_left
      · simp only [Act.put, List.setIfInBounds_toArray, List.set_cons_zero, List.set_cons_succ]
        rfl
      refine pure_ (i := 4) (N := (some 35)) (v := ?_) (a' := ?_) #[true, true, false, true, true, false, false, false, false, false, false, false] rfl rfl (by kernel_rfl) (fun _ _ _ h => h) (Or.inl ⟨by rfl, ?_⟩) ?_ ?_
      rotate_left
      · intro w'
        go_simp
        with_reducible rfl
      rotate_left
      · simp only [Act.put, List.setIfInBounds_toArray, List.set_cons_zero, List.set_cons_succ]
        rfl
      refine pure_ (i := 5) (N := (some 36)) (v := ?_) (a' := ?_) #[true, true, false, true, true, true, false, false, false, false, false, false] rfl rfl (by kernel_rfl) (fun _ _ _ h => h) (Or.inl ⟨by rfl, ?_⟩) ?_ ?_
      rotate_left
      · intro w'
        go_simp
        with_reducible rfl
      rotate_left
      · simp only [Act.put, List.setIfInBounds_toArray, List.set_cons_zero, List.set_cons_succ]
        rfl
      refine one_ (i := 2) (N := (some 33)) #[true, true, true, true, true, true, false, false, false, false, false, false] rfl rfl (by kernel_rfl) (by decide) (fun K hK => ?_)
      refine lit_step (by rfl) rfl #[.int .i64 1, .int .i64 0, .int .i64 (-1), .int .i64 10001] 3 4 (by first | (go_simp; done) | (go_simp; rfl)) ?_
      intro gC wC hgC hxC hbC
      have nS : Aside0 (Sx w0 wC ((.blk gC #[.int .i64 1, .int .i64 0, .int .i64 (-1), .int .i64 10001] 3) :: (.blk gO #[.bool ch_, .slice As S.length cs, .slice Ad D.length cd] 28) :: (.row (.slice Ad D.length cd) D) :: (.row (.slice As S.length cs) S) :: (.blk g #[.slice A0n6 code.length c0n6, .int .i64 p4] 127) :: (.blk gR #[.bool false, .slice none 0 0, .slice none 0 0] 28) :: Ts)) := Aside0.mk (HS.out.box hgC.symm hxC hbC)
      clear HS hgC hxC hbC
      have HS := nS
      clear nS
      refine hK.out _ _ ((blk_cell (HS.out.blk 1 rfl) 1).trans rfl) (fun hHeld => ?_)
      clear hK K
      refine norm_ (a' := ?_) ?_ ?_
      rotate_left
      · show Act.put _ (some 33) _ = _
        simp only [Act.put, List.setIfInBounds_toArray, List.set_cons_zero, List.set_cons_succ]
        rfl
      refine pure_ (i := 6) (N := (some 37)) (v := ?_) (a' := ?_) #[true, true, true, true, true, true, true, false, false, false, false, false] rfl rfl (by kernel_rfl) (fun _ _ _ h => h) (Or.inl ⟨by rfl, ?_⟩) ?_ ?_
      rotate_left
      · intro w'
        go_simp
        with_reducible rfl
      rotate_left
      · simp only [Act.put, List.setIfInBounds_toArray, List.set_cons_zero, List.set_cons_succ]
        rfl
      refine one_ (i := 7) (N := (some 38)) #[true, true, true, true, true, true, true, true, false, false, false, false] rfl rfl (by kernel_rfl) (by decide) (fun K hK => ?_)
      refine load_step (by rfl) rfl 3 (.tmp 37) rfl ⟨gC, q4, none⟩ rfl (.int .i64 y_) ((blk_cell (HS.out.blk 0 rfl) q4).trans HY.out) (by kernel_rfl) ?_
      refine hK.out _ _ ((blk_cell (HS.out.blk 1 rfl) 1).trans rfl) (fun hHeld => ?_)
      clear hK K
      refine norm_ (a' := ?_) ?_ ?_
      rotate_left
      · show Act.put _ (some 38) _ = _
        simp only [Act.put, List.setIfInBounds_toArray, List.set_cons_zero, List.set_cons_succ]
        rfl
      refine one_ (i := 8) (N := (some 39)) #[true, true, true, true, true, true, true, true, true, false, false, false] rfl rfl (by kernel_rfl) (by decide) (fun K hK => ?_)
      refine lit_step (by rfl) rfl #[.int .i64 y_] 3 1 (by first | (go_simp; done) | (go_simp; rfl)) ?_
      intro gM wM hgM hxM hbM
      have nS : Aside0 (Sx w0 wM ((.blk gM #[.int .i64 y_] 3) :: (.blk gC #[.int .i64 1, .int .i64 0, .int .i64 (-1), .int .i64 10001] 3) :: (.blk gO #[.bool ch_, .slice As S.length cs, .slice Ad D.length cd] 28) :: (.row (.slice Ad D.length cd) D) :: (.row (.slice As S.length cs) S) :: (.blk g #[.slice A0n6 code.length c0n6, .int .i64 p4] 127) :: (.blk gR #[.bool false, .slice none 0 0, .slice none 0 0] 28) :: Ts)) := Aside0.mk (HS.out.box hgM.symm hxM hbM)
      clear HS hgM hxM hbM
      have HS := nS
      clear nS
      refine hK.out _ _ ((blk_cell (HS.out.blk 2 rfl) 1).trans rfl) (fun hHeld => ?_)
      clear hK K
      refine norm_ (a' := ?_) ?_ ?_
      rotate_left
      · show Act.put _ (some 39) _ = _
        simp only [Act.put, List.setIfInBounds_toArray, List.set_cons_zero, List.set_cons_succ]
        rfl
      refine one_ (i := 9) (N := (some 40)) #[true, true, true, true, true, true, true, true, true, true, false, false] rfl rfl (by kernel_rfl) (by decide) (fun K hK => ?_)
      refine HS.out.appendRows_step 4 rfl S.length (S.length + 1) rfl (by rfl) (.tmp 32) (.tmp 39) rfl Try.underlying22 info3 (some ⟨gM, 0, none⟩) 1 1 [y_] _ rfl rfl rfl (rowI_C (l := [y_]) (HS.out.blk 0 rfl) (by simp)) rfl rfl (by have := HS5.out; omega) ?_
      intro A2 c2 wJ nJ
      have nS : Aside0 (Sx w0 wJ ((.blk gM #[.int .i64 y_] 3) :: (.blk gC #[.int .i64 1, .int .i64 0, .int .i64 (-1), .int .i64 10001] 3) :: (.blk gO #[.bool ch_, .slice As S.length cs, .slice Ad D.length cd] 28) :: (.row (.slice Ad D.length cd) D) :: (.row (.slice A2 (S.length + 1) c2) (S ++ [y_])) :: (.blk g #[.slice A0n6 code.length c0n6, .int .i64 p4] 127) :: (.blk gR #[.bool false, .slice none 0 0, .slice none 0 0] 28) :: Ts)) := Aside0.mk (nJ)
      clear HS nJ
      have HS := nS
      clear nS
      refine hK.out _ _ ((blk_cell (HS.out.blk 2 rfl) 1).trans rfl) (fun hHeld => ?_)
      clear hK K
      refine norm_ (a' := ?_) ?_ ?_
      rotate_left
      · show Act.put _ (some 40) _ = _
        simp only [Act.put, List.setIfInBounds_toArray, List.set_cons_zero, List.set_cons_succ]
        rfl
      refine pure_ (i := 10) (N := (some 41)) (v := ?_) (a' := ?_) #[true, true, true, true, true, true, true, true, true, true, true, false] rfl rfl (by kernel_rfl) (fun _ _ _ h => h) (Or.inl ⟨by rfl, ?_⟩) ?_ ?_
      rotate_left
      · intro w'
        go_simp
        with_reducible rfl
      rotate_left
      · simp only [Act.put, List.setIfInBounds_toArray, List.set_cons_zero, List.set_cons_succ]
        rfl
      refine last_ (i := 11) (N := none) #[true, true, true, true, true, true, true, true, true, true, true, true] rfl rfl (by kernel_rfl) (by decide) (fun K hK => ?_)
      refine store_cell_step (by rfl) 22 (.tmp 41) (.tmp 40) rfl gO 1 rfl (.slice A2 (S.length + 1) c2) rfl #[.bool ch_, .slice As S.length cs, .slice Ad D.length cd] 28 (HS.out.blk 2 rfl) (show 1 < 3 from by decide) rfl (by kernel_rfl) ?_
      intro wz hxz hbz
      have nS : Aside0 (Sx w0 wz ((.blk gM #[.int .i64 y_] 3) :: (.blk gC #[.int .i64 1, .int .i64 0, .int .i64 (-1), .int .i64 10001] 3) :: (.blk gO #[.bool ch_, .slice A2 (S.length + 1) c2, .slice Ad D.length cd] 28) :: (.row (.slice Ad D.length cd) D) :: (.row (.slice A2 (S.length + 1) c2) (S ++ [y_])) :: (.blk g #[.slice A0n6 code.length c0n6, .int .i64 p4] 127) :: (.blk gR #[.bool false, .slice none 0 0, .slice none 0 0] 28) :: Ts)) := Aside0.mk (HS.out.put 2 rfl hxz hbz)
      clear HS hxz hbz
      have HS := nS
      clear nS
      refine hK.out _ _ ?_
      clear hK K
      refine done_ (by kernel_rfl) ?_
      go_simp
      clear s5 s6
      go_wp2_with (first | ((with_reducible refine gate_dst (N := 79) rfl ?_); refine wpList_load_row rfl 28 (.tmp 4) rfl gO rfl 28 #[.bool ch_, .slice A2 (S.length + 1) c2, .slice Ad D.length cd] (0, 0) _ (HS.out.blk 2 rfl) Try.underlying28 rfl (by kernel_rfl) ?_) | ((with_reducible refine gate_store rfl ?_); refine store_named rfl 28 (.tmp 2) (.tmp 79) rfl gR #[.bool ch_, .slice A2 (S.length + 1) c2, .slice Ad D.length cd] rfl rfl 28 #[.bool false, .slice none 0 0, .slice none 0 0] (HS.out.blk 6 rfl) (by kernel_rfl) rfl (by simp [Value.oneCell']) ?_; intro wzw17 hxzw17 hbzw17; have nS : Aside0 (Sx w0 wzw17 ((.blk gM #[.int .i64 y_] 3) :: (.blk gC #[.int .i64 1, .int .i64 0, .int .i64 (-1), .int .i64 10001] 3) :: (.blk gO #[.bool ch_, .slice A2 (S.length + 1) c2, .slice Ad D.length cd] 28) :: (.row (.slice Ad D.length cd) D) :: (.row (.slice A2 (S.length + 1) c2) (S ++ [y_])) :: (.blk g #[.slice A0n6 code.length c0n6, .int .i64 p4] 127) :: (.blk gR #[.bool ch_, .slice A2 (S.length + 1) c2, .slice Ad D.length cd] 28) :: Ts)) := Aside0.mk (HS.out.put 6 rfl hxzw17 hbzw17); clear HS; have HS := nS; clear nS hxzw17 hbzw17))
      refine bodyPost_ret (results_cell_row rfl _ _ gR 28 #[.bool ch_, .slice A2 (S.length + 1) c2, .slice Ad D.length cd] (0, 0) _ rfl (HS.out.blk 6 rfl) Try.underlying28 rfl (by kernel_rfl)) rfl ?_
      have hs_ : Sx w0 _ ((.row (.slice Ad D.length cd) D) :: (.row (.slice A2 (S.length + 1) c2) (S ++ [y_])) :: Ts) := HS.out.sub ((.cons _ (.cons _ (.cons _ (.cons_cons _ (.cons_cons _ (.cons _ (.cons _ (List.Sublist.refl _)))))))))
      unfold ArrPost
      exact ⟨_, _, _, _, _, _, _, _, _, rfl, by simp, by have := HS5.out; omega, rfl, by have := HR_.out; omega, hs_⟩
    · have t0a : ((j6 : Int) == 0) = false := beq_eq_false_iff_ne.mpr (by omega)
      have t0b : decide ((j6 : Int) = 0) = false := decide_eq_false (by omega)
      have t0d : decide (j6 = 0) = false := decide_eq_false (by omega)
      have t0e : (j6 == 0) = false := beq_eq_false_iff_ne.mpr (by omega)
      have t0c : ¬ (j6 : Int) = 0 := by omega
      have t0f : ¬ j6 = 0 := by omega
      have t1a : ((j6 : Int) == 1) = false := beq_eq_false_iff_ne.mpr (by omega)
      have t1b : decide ((j6 : Int) = 1) = false := decide_eq_false (by omega)
      have t1d : decide (j6 = 1) = false := decide_eq_false (by omega)
      have t1e : (j6 == 1) = false := beq_eq_false_iff_ne.mpr (by omega)
      have t1c : ¬ (j6 : Int) = 1 := by omega
      have t1f : ¬ j6 = 1 := by omega
      have t2a : ((j6 : Int) == 2) = true := beq_iff_eq.mpr (by omega)
      have t2b : decide ((j6 : Int) = 2) = true := decide_eq_true (by omega)
      have t2d : decide (j6 = 2) = true := decide_eq_true (by omega)
      have t2e : (j6 == 2) = true := beq_iff_eq.mpr (by omega)
      obtain ⟨q2, hq2⟩ : ∃ q, d6 % 2 = q := ⟨_, rfl⟩
      have q21 : Int.tmod (d6 : Int) 2 = (q2 : Int) := by rw [Int.tmod_eq_emod_of_nonneg (by omega)]; omega
      have q22 : (d6 : Int) % 2 = (q2 : Int) := by omega
      have Hq2 := Aside0.mk (show q2 < 2 by omega)
      clear hq2
      obtain ⟨nn, hnn⟩ : ∃ q, 10000 + q2 = q := ⟨_, rfl⟩
      have HNN := Aside0.mk (show nn ≤ 10001 by have := Hq2.out; omega)
      have hmk := make_rowN nn (by have := HNN.out; omega)
      have e_ : (10000 : Int) + (q2 : Int) = (nn : Int) := by omega
      have wn : IntKind.i64.wrap ((10000 : Int) + (q2 : Int)) = (nn : Int) := by rw [e_]; exact IntWalk.i64_in _ (by have := HNN.out; clear e_; omega)
      have wn2 : RowKit.wrap64 ((10000 : Int) + (q2 : Int)) = (nn : Int) := by rw [e_]; exact IntWalk.wrap64_in _ (by have := HNN.out; clear e_ wn; omega)
      clear h hnn e_
      have s5 : IntKind.i64.wrap (d6 : Int) = (d6 : Int) := IntWalk.i64_in _ (by have := HD6.out; omega)
      have s6 : RowKit.wrap64 (d6 : Int) = (d6 : Int) := IntWalk.wrap64_in _ (by have := HD6.out; clear s5; omega)
      go_wp2_with (first | ((with_reducible refine gate_dst (N := 48) rfl ?_); refine lit_event ?hg (N := 48) ?hd (cs := #[.int .i64 (nn : Int)]) (t := 3) (n := 1) ?hr ?_; (case hd => rfl); (case hg => rfl); (case hr => first | (go_simp; done) | (go_simp; rfl)); intro gS hgw27 ww27 hxw27 hbw27; have nS : Aside0 (Sx w0 ww27 ((.blk gS #[.int .i64 (nn : Int)] 3) :: (.blk gO #[.bool ch_, .slice As S.length cs, .slice Ad D.length cd] 28) :: (.row (.slice Ad D.length cd) D) :: (.row (.slice As S.length cs) S) :: (.blk g #[.slice A0n6 code.length c0n6, .int .i64 p4] 127) :: (.blk gR #[.bool false, .slice none 0 0, .slice none 0 0] 28) :: Ts)) := Aside0.mk (HS.out.box hgw27 hxw27 hbw27); clear HS; have HS := nS; clear nS hgw27 hxw27 hbw27) | ((with_reducible refine gate_dst (N := 53) rfl ?_); refine lit_event ?hg (N := 53) ?hd (cs := (rowI (List.replicate nn 0))) (t := 3) (n := nn) ?hr ?_; (case hd => rfl); (case hg => rfl); (case hr => first | (go_simp; done) | (go_simp; rfl)); intro gE hgw28 ww28 hxw28 hbw28; have nS : Aside0 (Sx w0 ww28 ((.blk gE (rowI (List.replicate nn 0)) 3) :: (.blk gS #[.int .i64 (nn : Int)] 3) :: (.blk gO #[.bool ch_, .slice As S.length cs, .slice Ad D.length cd] 28) :: (.row (.slice Ad D.length cd) D) :: (.row (.slice As S.length cs) S) :: (.blk g #[.slice A0n6 code.length c0n6, .int .i64 p4] 127) :: (.blk gR #[.bool false, .slice none 0 0, .slice none 0 0] 28) :: Ts)) := Aside0.mk (HS.out.box hgw28 hxw28 hbw28); clear HS; have HS := nS; clear nS hgw28 hxw28 hbw28) | ((with_reducible refine gate_store rfl ?_); refine store_named rfl 28 (.tmp 4) (.tmp 54) rfl gO #[.bool false, .slice (some ⟨gS, 0, none⟩) 1 1, .slice (some ⟨gE, 0, none⟩) nn nn] rfl rfl 28 #[.bool ch_, .slice As S.length cs, .slice Ad D.length cd] (HS.out.blk 2 rfl) (by kernel_rfl) rfl (by simp [Value.oneCell']) ?_; intro ww29 hxw29 hbw29; have nS : Aside0 (Sx w0 ww29 ((.blk gE (rowI (List.replicate nn 0)) 3) :: (.blk gS #[.int .i64 (nn : Int)] 3) :: (.blk gO #[.bool false, .slice (some ⟨gS, 0, none⟩) 1 1, .slice (some ⟨gE, 0, none⟩) nn nn] 28) :: (.row (.slice Ad D.length cd) D) :: (.row (.slice As S.length cs) S) :: (.blk g #[.slice A0n6 code.length c0n6, .int .i64 p4] 127) :: (.blk gR #[.bool false, .slice none 0 0, .slice none 0 0] 28) :: Ts)) := Aside0.mk (HS.out.put 2 rfl hxw29 hbw29); clear HS; have HS := nS; clear nS hxw29 hbw29) | ((with_reducible refine gate_dst (N := 79) rfl ?_); refine wpList_load_row rfl 28 (.tmp 4) rfl gO rfl 28 #[.bool false, .slice (some ⟨gS, 0, none⟩) 1 1, .slice (some ⟨gE, 0, none⟩) nn nn] (0, 0) _ (HS.out.blk 2 rfl) Try.underlying28 rfl (by kernel_rfl) ?_) | ((with_reducible refine gate_store rfl ?_); refine store_named rfl 28 (.tmp 2) (.tmp 79) rfl gR #[.bool false, .slice (some ⟨gS, 0, none⟩) 1 1, .slice (some ⟨gE, 0, none⟩) nn nn] rfl rfl 28 #[.bool false, .slice none 0 0, .slice none 0 0] (HS.out.blk 6 rfl) (by kernel_rfl) rfl (by simp [Value.oneCell']) ?_; intro wzw210 hxzw210 hbzw210; have nS : Aside0 (Sx w0 wzw210 ((.blk gE (rowI (List.replicate nn 0)) 3) :: (.blk gS #[.int .i64 (nn : Int)] 3) :: (.blk gO #[.bool false, .slice (some ⟨gS, 0, none⟩) 1 1, .slice (some ⟨gE, 0, none⟩) nn nn] 28) :: (.row (.slice Ad D.length cd) D) :: (.row (.slice As S.length cs) S) :: (.blk g #[.slice A0n6 code.length c0n6, .int .i64 p4] 127) :: (.blk gR #[.bool false, .slice (some ⟨gS, 0, none⟩) 1 1, .slice (some ⟨gE, 0, none⟩) nn nn] 28) :: Ts)) := Aside0.mk (HS.out.put 6 rfl hxzw210 hbzw210); clear HS; have HS := nS; clear nS hxzw210 hbzw210))
      clear s5 s6 wn wn2
      refine bodyPost_ret (results_cell_row rfl _ _ gR 28 #[.bool false, .slice (some ⟨gS, 0, none⟩) 1 1, .slice (some ⟨gE, 0, none⟩) nn nn] (0, 0) _ rfl (HS.out.blk 6 rfl) Try.underlying28 rfl (by kernel_rfl)) rfl ?_
      have hs_ : Sx w0 _ ((.row (.slice (some ⟨gE, 0, none⟩) (List.replicate nn (0 : Int)).length (List.replicate nn (0 : Int)).length) (List.replicate nn 0)) :: (.row (.slice (some ⟨gS, 0, none⟩) 1 1) [(nn : Int)]) :: Ts) := ((HS.out.rowed 1 (l := [(nn : Int)]) rfl (by simp)).rowed 0 (l := List.replicate nn 0) rfl (by simp; have := HNN.out; omega)).sub ((.cons_cons _ (.cons_cons _ (.cons _ (.cons _ (.cons _ (.cons _ (.cons _ (List.Sublist.refl _)))))))))
      rw [List.length_replicate] at hs_
      unfold ArrPost
      exact ⟨_, _, _, _, _, _, _, _, _, rfl, rfl, by simp, by simp, HNN.out, hs_⟩
    · have t0a : ((j6 : Int) == 0) = false := beq_eq_false_iff_ne.mpr (by omega)
      have t0b : decide ((j6 : Int) = 0) = false := decide_eq_false (by omega)
      have t0d : decide (j6 = 0) = false := decide_eq_false (by omega)
      have t0e : (j6 == 0) = false := beq_eq_false_iff_ne.mpr (by omega)
      have t0c : ¬ (j6 : Int) = 0 := by omega
      have t0f : ¬ j6 = 0 := by omega
      have t1a : ((j6 : Int) == 1) = false := beq_eq_false_iff_ne.mpr (by omega)
      have t1b : decide ((j6 : Int) = 1) = false := decide_eq_false (by omega)
      have t1d : decide (j6 = 1) = false := decide_eq_false (by omega)
      have t1e : (j6 == 1) = false := beq_eq_false_iff_ne.mpr (by omega)
      have t1c : ¬ (j6 : Int) = 1 := by omega
      have t1f : ¬ j6 = 1 := by omega
      have t2a : ((j6 : Int) == 2) = false := beq_eq_false_iff_ne.mpr (by omega)
      have t2b : decide ((j6 : Int) = 2) = false := decide_eq_false (by omega)
      have t2d : decide (j6 = 2) = false := decide_eq_false (by omega)
      have t2e : (j6 == 2) = false := beq_eq_false_iff_ne.mpr (by omega)
      have t2c : ¬ (j6 : Int) = 2 := by omega
      have t2f : ¬ j6 = 2 := by omega
      have t3a : ((j6 : Int) == 3) = true := beq_iff_eq.mpr (by omega)
      have t3b : decide ((j6 : Int) = 3) = true := decide_eq_true (by omega)
      have t3d : decide (j6 = 3) = true := decide_eq_true (by omega)
      have t3e : (j6 == 3) = true := beq_iff_eq.mpr (by omega)
      obtain ⟨q2, hq2⟩ : ∃ q, d6 % 2 = q := ⟨_, rfl⟩
      have q21 : Int.tmod (d6 : Int) 2 = (q2 : Int) := by rw [Int.tmod_eq_emod_of_nonneg (by omega)]; omega
      have q22 : (d6 : Int) % 2 = (q2 : Int) := by omega
      have Hq2 := Aside0.mk (show q2 < 2 by omega)
      clear hq2
      obtain ⟨m5, hm5⟩ : ∃ q, 5 + q2 = q := ⟨_, rfl⟩
      have HM5 := Aside0.mk (show m5 ≤ 6 by have := Hq2.out; omega)
      have hcut := take_six m5 HM5.out
      have e_ : (5 : Int) + (q2 : Int) = (m5 : Int) := by omega
      have wn : IntKind.i64.wrap ((5 : Int) + (q2 : Int)) = (m5 : Int) := by rw [e_]; exact IntWalk.i64_in _ (by have := HM5.out; clear e_; omega)
      have wn2 : RowKit.wrap64 ((5 : Int) + (q2 : Int)) = (m5 : Int) := by rw [e_]; exact IntWalk.wrap64_in _ (by have := HM5.out; clear e_ wn; omega)
      clear h hm5 e_
      have s5 : IntKind.i64.wrap (d6 : Int) = (d6 : Int) := IntWalk.i64_in _ (by have := HD6.out; omega)
      have s6 : RowKit.wrap64 (d6 : Int) = (d6 : Int) := IntWalk.wrap64_in _ (by have := HD6.out; clear s5; omega)
      go_wp2_with (first | ((with_reducible refine gate_dst (N := 57) rfl ?_); refine lit_event ?hg (N := 57) ?hd (cs := #[.int .i64 1, .int .i64 1, .int .i64 1, .int .i64 1, .int .i64 1, .int .i64 1]) (t := 3) (n := 6) ?hr ?_; (case hd => rfl); (case hg => rfl); (case hr => first | (go_simp; done) | (go_simp; rfl)); intro gS hgw37 ww37 hxw37 hbw37; have nS : Aside0 (Sx w0 ww37 ((.blk gS #[.int .i64 1, .int .i64 1, .int .i64 1, .int .i64 1, .int .i64 1, .int .i64 1] 3) :: (.blk gO #[.bool ch_, .slice As S.length cs, .slice Ad D.length cd] 28) :: (.row (.slice Ad D.length cd) D) :: (.row (.slice As S.length cs) S) :: (.blk g #[.slice A0n6 code.length c0n6, .int .i64 p4] 127) :: (.blk gR #[.bool false, .slice none 0 0, .slice none 0 0] 28) :: Ts)) := Aside0.mk (HS.out.box hgw37 hxw37 hbw37); clear HS; have HS := nS; clear nS hgw37 hxw37 hbw37) | ((with_reducible refine gate_store rfl ?_); refine ev_store rfl 22 (.tmp 63) (.tmp 62) rfl gO 1 rfl (.slice (some ⟨gS, 0, none⟩) m5 6) rfl #[.bool ch_, .slice As S.length cs, .slice Ad D.length cd] 28 (HS.out.blk 1 rfl) (show 1 < 3 from by decide) rfl (by kernel_rfl) ?_; intro ww38 hxw38 hbw38; have nS : Aside0 (Sx w0 ww38 ((.blk gS #[.int .i64 1, .int .i64 1, .int .i64 1, .int .i64 1, .int .i64 1, .int .i64 1] 3) :: (.blk gO #[.bool ch_, .slice (some ⟨gS, 0, none⟩) m5 6, .slice Ad D.length cd] 28) :: (.row (.slice Ad D.length cd) D) :: (.row (.slice As S.length cs) S) :: (.blk g #[.slice A0n6 code.length c0n6, .int .i64 p4] 127) :: (.blk gR #[.bool false, .slice none 0 0, .slice none 0 0] 28) :: Ts)) := Aside0.mk (HS.out.put 1 rfl hxw38 hbw38); clear HS; have HS := nS; clear nS hxw38 hbw38) | ((with_reducible refine gate_dst (N := 64) rfl ?_); refine lit_event ?hg (N := 64) ?hd (cs := #[.int .i64 1]) (t := 3) (n := 1) ?hr ?_; (case hd => rfl); (case hg => rfl); (case hr => first | (go_simp; done) | (go_simp; rfl)); intro gE hgw39 ww39 hxw39 hbw39; have nS : Aside0 (Sx w0 ww39 ((.blk gE #[.int .i64 1] 3) :: (.blk gS #[.int .i64 1, .int .i64 1, .int .i64 1, .int .i64 1, .int .i64 1, .int .i64 1] 3) :: (.blk gO #[.bool ch_, .slice (some ⟨gS, 0, none⟩) m5 6, .slice Ad D.length cd] 28) :: (.row (.slice Ad D.length cd) D) :: (.row (.slice As S.length cs) S) :: (.blk g #[.slice A0n6 code.length c0n6, .int .i64 p4] 127) :: (.blk gR #[.bool false, .slice none 0 0, .slice none 0 0] 28) :: Ts)) := Aside0.mk (HS.out.box hgw39 hxw39 hbw39); clear HS; have HS := nS; clear nS hgw39 hxw39 hbw39) | ((with_reducible refine gate_store rfl ?_); refine ev_store rfl 22 (.tmp 65) (.tmp 64) rfl gO 2 rfl (.slice (some ⟨gE, 0, none⟩) 1 1) rfl #[.bool ch_, .slice (some ⟨gS, 0, none⟩) m5 6, .slice Ad D.length cd] 28 (HS.out.blk 2 rfl) (show 2 < 3 from by decide) rfl (by kernel_rfl) ?_; intro ww310 hxw310 hbw310; have nS : Aside0 (Sx w0 ww310 ((.blk gE #[.int .i64 1] 3) :: (.blk gS #[.int .i64 1, .int .i64 1, .int .i64 1, .int .i64 1, .int .i64 1, .int .i64 1] 3) :: (.blk gO #[.bool ch_, .slice (some ⟨gS, 0, none⟩) m5 6, .slice (some ⟨gE, 0, none⟩) 1 1] 28) :: (.row (.slice Ad D.length cd) D) :: (.row (.slice As S.length cs) S) :: (.blk g #[.slice A0n6 code.length c0n6, .int .i64 p4] 127) :: (.blk gR #[.bool false, .slice none 0 0, .slice none 0 0] 28) :: Ts)) := Aside0.mk (HS.out.put 2 rfl hxw310 hbw310); clear HS; have HS := nS; clear nS hxw310 hbw310) | ((with_reducible refine gate_dst (N := 79) rfl ?_); refine wpList_load_row rfl 28 (.tmp 4) rfl gO rfl 28 #[.bool ch_, .slice (some ⟨gS, 0, none⟩) m5 6, .slice (some ⟨gE, 0, none⟩) 1 1] (0, 0) _ (HS.out.blk 2 rfl) Try.underlying28 rfl (by kernel_rfl) ?_) | ((with_reducible refine gate_store rfl ?_); refine store_named rfl 28 (.tmp 2) (.tmp 79) rfl gR #[.bool ch_, .slice (some ⟨gS, 0, none⟩) m5 6, .slice (some ⟨gE, 0, none⟩) 1 1] rfl rfl 28 #[.bool false, .slice none 0 0, .slice none 0 0] (HS.out.blk 6 rfl) (by kernel_rfl) rfl (by simp [Value.oneCell']) ?_; intro wzw311 hxzw311 hbzw311; have nS : Aside0 (Sx w0 wzw311 ((.blk gE #[.int .i64 1] 3) :: (.blk gS #[.int .i64 1, .int .i64 1, .int .i64 1, .int .i64 1, .int .i64 1, .int .i64 1] 3) :: (.blk gO #[.bool ch_, .slice (some ⟨gS, 0, none⟩) m5 6, .slice (some ⟨gE, 0, none⟩) 1 1] 28) :: (.row (.slice Ad D.length cd) D) :: (.row (.slice As S.length cs) S) :: (.blk g #[.slice A0n6 code.length c0n6, .int .i64 p4] 127) :: (.blk gR #[.bool ch_, .slice (some ⟨gS, 0, none⟩) m5 6, .slice (some ⟨gE, 0, none⟩) 1 1] 28) :: Ts)) := Aside0.mk (HS.out.put 6 rfl hxzw311 hbzw311); clear HS; have HS := nS; clear nS hxzw311 hbzw311))
      clear s5 s6 wn wn2
      refine bodyPost_ret (results_cell_row rfl _ _ gR 28 #[.bool ch_, .slice (some ⟨gS, 0, none⟩) m5 6, .slice (some ⟨gE, 0, none⟩) 1 1] (0, 0) _ rfl (HS.out.blk 6 rfl) Try.underlying28 rfl (by kernel_rfl)) rfl ?_
      have hs_ : Sx w0 _ ((.row (.slice (some ⟨gE, 0, none⟩) 1 1) [1]) :: (.row (.slice (some ⟨gS, 0, none⟩) m5 6) (([1, 1, 1, 1, 1, 1] : List Int).take m5)) :: Ts) := (((HS.out.rowed 1 (l := [1, 1, 1, 1, 1, 1]) rfl (by simp)).takeRow 1 rfl m5 HM5.out).rowed 0 (l := [1]) rfl (by simp)).sub ((.cons_cons _ (.cons_cons _ (.cons _ (.cons _ (.cons _ (.cons _ (.cons _ (List.Sublist.refl _)))))))))
      unfold ArrPost
      exact ⟨_, _, _, _, _, _, _, _, _, rfl, by simp [HM5.out], HM5.out, rfl, by omega, hs_⟩
    · have t0a : ((j6 : Int) == 0) = false := beq_eq_false_iff_ne.mpr (by omega)
      have t0b : decide ((j6 : Int) = 0) = false := decide_eq_false (by omega)
      have t0d : decide (j6 = 0) = false := decide_eq_false (by omega)
      have t0e : (j6 == 0) = false := beq_eq_false_iff_ne.mpr (by omega)
      have t0c : ¬ (j6 : Int) = 0 := by omega
      have t0f : ¬ j6 = 0 := by omega
      have t1a : ((j6 : Int) == 1) = false := beq_eq_false_iff_ne.mpr (by omega)
      have t1b : decide ((j6 : Int) = 1) = false := decide_eq_false (by omega)
      have t1d : decide (j6 = 1) = false := decide_eq_false (by omega)
      have t1e : (j6 == 1) = false := beq_eq_false_iff_ne.mpr (by omega)
      have t1c : ¬ (j6 : Int) = 1 := by omega
      have t1f : ¬ j6 = 1 := by omega
      have t2a : ((j6 : Int) == 2) = false := beq_eq_false_iff_ne.mpr (by omega)
      have t2b : decide ((j6 : Int) = 2) = false := decide_eq_false (by omega)
      have t2d : decide (j6 = 2) = false := decide_eq_false (by omega)
      have t2e : (j6 == 2) = false := beq_eq_false_iff_ne.mpr (by omega)
      have t2c : ¬ (j6 : Int) = 2 := by omega
      have t2f : ¬ j6 = 2 := by omega
      have t3a : ((j6 : Int) == 3) = false := beq_eq_false_iff_ne.mpr (by omega)
      have t3b : decide ((j6 : Int) = 3) = false := decide_eq_false (by omega)
      have t3d : decide (j6 = 3) = false := decide_eq_false (by omega)
      have t3e : (j6 == 3) = false := beq_eq_false_iff_ne.mpr (by omega)
      have t3c : ¬ (j6 : Int) = 3 := by omega
      have t3f : ¬ j6 = 3 := by omega
      clear h
      by_cases hlen : 0 < D.length
      · have hl0 : 0 < D.length := hlen
        have HL0 := Aside0.mk hl0
        have b5 : decide ((D.length : Int) > 0) = true := decide_eq_true (by omega)
        have b6 : (0 : Int) < (D.length : Int) := by omega
        have b7 : decide (0 < D.length) = true := decide_eq_true hlen
        obtain ⟨gD, hgD, _, _⟩ := HS.out.cellOf 1 rfl 0 hl0
        subst hgD
        obtain ⟨q5b, hq5b⟩ : ∃ q, d6 % 5 = q := ⟨_, rfl⟩
        have q5b1 : Int.tmod (d6 : Int) 5 = (q5b : Int) := by rw [Int.tmod_eq_emod_of_nonneg (by omega)]; omega
        have q5b2 : (d6 : Int) % 5 = (q5b : Int) := by omega
        have Hq5b := Aside0.mk (show q5b < 5 by omega)
        clear hq5b
        obtain ⟨y_, hy⟩ : ∃ y : Int, (#[.int .i64 1000000000000001, .int .i64 (-1000000000000001), .int .i64 55296, .int .i64 1114112, .int .i64 (-1)] : Array Value)[q5b]? = some (.int .i64 y) := by
          have hq_ := Hq5b.out
          match q5b, hq_ with
          | 0, _ => exact ⟨_, rfl⟩
          | 1, _ => exact ⟨_, rfl⟩
          | 2, _ => exact ⟨_, rfl⟩
          | 3, _ => exact ⟨_, rfl⟩
          | 4, _ => exact ⟨_, rfl⟩
        have HY := Aside0.mk hy
        clear hy
        have q0 : 0 ≤ (q5b : Int) := by omega
        have q1 : (q5b : Int) < 5 := by have := Hq5b.out; omega
        have s5 : IntKind.i64.wrap (d6 : Int) = (d6 : Int) := IntWalk.i64_in _ (by have := HD6.out; omega)
        have s6 : RowKit.wrap64 (d6 : Int) = (d6 : Int) := IntWalk.wrap64_in _ (by have := HD6.out; clear s5; omega)
        go_upto_region 16 with (first | ((with_reducible refine gate_dst (N := 67) rfl ?_); refine ev_load rfl 22 (.tmp 66) rfl ⟨gO, 2, none⟩ rfl (.slice (some ⟨gD, 0, none⟩) D.length cd) ((blk_cell (HS.out.blk 0 rfl) 2).trans rfl) (by kernel_rfl) ?_))
        have nS := Aside0.mk HS.out.drew
        clear HS
        have HS := nS
        clear nS
        refine start_ (n := 10) (S := (fun w' => w'.cell? ⟨gO, 2, none⟩ = some (.slice (some ⟨gD, 0, none⟩) D.length cd))) (ds := [9]) #[false, false, false, false, false, false, false, false, false, false] (by kernel_rfl) rfl rfl ((blk_cell (HS.out.blk 0 rfl) 2).trans rfl) (fun hHeld => ?_)
        refine pure_ (i := 0) (N := (some 70)) (v := ?_) (a' := ?_) #[true, false, false, false, false, false, false, false, false, false] rfl rfl (by kernel_rfl) (fun _ _ _ h => h) (Or.inl ⟨by rfl, ?_⟩) ?_ ?_
        rotate_left
        · intro w'
          go_simp
          with_reducible rfl
        rotate_left
        · simp only [Act.put, List.setIfInBounds_toArray, List.set_cons_zero, List.set_cons_succ]
          rfl
        refine take_ (i := 1) (N := (some 71)) (v := ?_) (a' := ?_) #[true, true, false, false, false, false, false, false, false, false] rfl rfl (by kernel_rfl) (fun _ _ _ h => h) (Or.inl ⟨by rfl, ?_⟩) hHeld ?_ ?_
        rotate_left
        · rintro w' s0
          go_simp
          with_reducible rfl
        rotate_left
        · simp only [Act.put, List.setIfInBounds_toArray, List.set_cons_zero, List.set_cons_succ]
          rfl
        refine pure_ (i := 3) (N := (some 73)) (v := ?_) (a' := ?_) #[true, true, false, true, false, false, false, false, false, false] rfl rfl (by kernel_rfl) (fun _ _ _ h => h) (Or.inl ⟨by rfl, ?_⟩) ?_ ?_
        rotate_left
        · intro w'
          go_simp
          with_reducible rfl
        rotate_left
        · simp only [Act.put, List.setIfInBounds_toArray, List.set_cons_zero, List.set_cons_succ]
          rfl
        refine pure_ (i := 4) (N := (some 74)) (v := ?_) (a' := ?_) #[true, true, false, true, true, false, false, false, false, false] rfl rfl (by kernel_rfl) (fun _ _ _ h => h) (Or.inl ⟨by rfl, ?_⟩) ?_ ?_
        rotate_left
        · intro w'
          go_simp
          with_reducible rfl
        rotate_left
        · simp only [Act.put, List.setIfInBounds_toArray, List.set_cons_zero, List.set_cons_succ]
          rfl
        refine pure_ (i := 5) (N := (some 75)) (v := ?_) (a' := ?_) #[true, true, false, true, true, true, false, false, false, false] rfl rfl (by kernel_rfl) (fun _ _ _ h => h) (Or.inl ⟨by rfl, ?_⟩) ?_ ?_
        rotate_left
        · intro w'
          go_simp
          with_reducible rfl
        rotate_left
        · simp only [Act.put, List.setIfInBounds_toArray, List.set_cons_zero, List.set_cons_succ]
          rfl
        refine one_ (i := 2) (N := (some 72)) #[true, true, true, true, true, true, false, false, false, false] rfl rfl (by kernel_rfl) (by decide) (fun K hK => ?_)
        refine lit_step (by rfl) rfl #[.int .i64 1000000000000001, .int .i64 (-1000000000000001), .int .i64 55296, .int .i64 1114112, .int .i64 (-1)] 3 5 (by first | (go_simp; done) | (go_simp; rfl)) ?_
        intro gC wC hgC hxC hbC
        have nS : Aside0 (Sx w0 wC ((.blk gC #[.int .i64 1000000000000001, .int .i64 (-1000000000000001), .int .i64 55296, .int .i64 1114112, .int .i64 (-1)] 3) :: (.blk gO #[.bool ch_, .slice As S.length cs, .slice (some ⟨gD, 0, none⟩) D.length cd] 28) :: (.row (.slice (some ⟨gD, 0, none⟩) D.length cd) D) :: (.row (.slice As S.length cs) S) :: (.blk g #[.slice A0n6 code.length c0n6, .int .i64 p4] 127) :: (.blk gR #[.bool false, .slice none 0 0, .slice none 0 0] 28) :: Ts)) := Aside0.mk (HS.out.box hgC.symm hxC hbC)
        clear HS hgC hxC hbC
        have HS := nS
        clear nS
        refine hK.out _ _ ((blk_cell (HS.out.blk 1 rfl) 2).trans rfl) (fun hHeld => ?_)
        clear hK K
        refine norm_ (a' := ?_) ?_ ?_
        rotate_left
        · show Act.put _ (some 72) _ = _
          simp only [Act.put, List.setIfInBounds_toArray, List.set_cons_zero, List.set_cons_succ]
          rfl
        refine pure_ (i := 6) (N := (some 76)) (v := ?_) (a' := ?_) #[true, true, true, true, true, true, true, false, false, false] rfl rfl (by kernel_rfl) (fun _ _ _ h => h) (Or.inl ⟨by rfl, ?_⟩) ?_ ?_
        rotate_left
        · intro w'
          go_simp
          with_reducible rfl
        rotate_left
        · simp only [Act.put, List.setIfInBounds_toArray, List.set_cons_zero, List.set_cons_succ]
          rfl
        refine one_ (i := 7) (N := (some 77)) #[true, true, true, true, true, true, true, true, false, false] rfl rfl (by kernel_rfl) (by decide) (fun K hK => ?_)
        refine load_step (by rfl) rfl 3 (.tmp 76) rfl ⟨gC, q5b, none⟩ rfl (.int .i64 y_) ((blk_cell (HS.out.blk 0 rfl) q5b).trans HY.out) (by kernel_rfl) ?_
        refine hK.out _ _ ((blk_cell (HS.out.blk 1 rfl) 2).trans rfl) (fun hHeld => ?_)
        clear hK K
        refine norm_ (a' := ?_) ?_ ?_
        rotate_left
        · show Act.put _ (some 77) _ = _
          simp only [Act.put, List.setIfInBounds_toArray, List.set_cons_zero, List.set_cons_succ]
          rfl
        refine pure_ (i := 8) (N := (some 78)) (v := ?_) (a' := ?_) #[true, true, true, true, true, true, true, true, true, false] rfl rfl (by kernel_rfl) (fun _ _ _ h => h) (Or.inl ⟨by rfl, ?_⟩) ?_ ?_
        rotate_left
        · intro w'
          go_simp
          with_reducible rfl
        rotate_left
        · simp only [Act.put, List.setIfInBounds_toArray, List.set_cons_zero, List.set_cons_succ]
          rfl
        refine last_ (i := 9) (N := none) #[true, true, true, true, true, true, true, true, true, true] rfl rfl (by kernel_rfl) (by decide) (fun K hK => ?_)
        refine HS.out.store_step 2 rfl (by rfl) 3 (.tmp 78) (.tmp 77) rfl 0 HL0.out rfl y_ rfl (by kernel_rfl) ?_
        intro wz nz hbz
        have nS : Aside0 (Sx w0 wz ((.blk gC #[.int .i64 1000000000000001, .int .i64 (-1000000000000001), .int .i64 55296, .int .i64 1114112, .int .i64 (-1)] 3) :: (.blk gO #[.bool ch_, .slice As S.length cs, .slice (some ⟨gD, 0, none⟩) D.length cd] 28) :: (.row (.slice (some ⟨gD, 0, none⟩) D.length cd) (D.set 0 y_)) :: (.row (.slice As S.length cs) S) :: (.blk g #[.slice A0n6 code.length c0n6, .int .i64 p4] 127) :: (.blk gR #[.bool false, .slice none 0 0, .slice none 0 0] 28) :: Ts)) := Aside0.mk nz
        clear HS nz hbz
        have HS := nS
        clear nS
        refine hK.out _ _ ?_
        clear hK K
        refine done_ (by kernel_rfl) ?_
        go_simp
        clear s5 s6
        go_wp2_with (first | ((with_reducible refine gate_dst (N := 79) rfl ?_); refine wpList_load_row rfl 28 (.tmp 4) rfl gO rfl 28 #[.bool ch_, .slice As S.length cs, .slice (some ⟨gD, 0, none⟩) D.length cd] (0, 0) _ (HS.out.blk 1 rfl) Try.underlying28 rfl (by kernel_rfl) ?_) | ((with_reducible refine gate_store rfl ?_); refine store_named rfl 28 (.tmp 2) (.tmp 79) rfl gR #[.bool ch_, .slice As S.length cs, .slice (some ⟨gD, 0, none⟩) D.length cd] rfl rfl 28 #[.bool false, .slice none 0 0, .slice none 0 0] (HS.out.blk 5 rfl) (by kernel_rfl) rfl (by simp [Value.oneCell']) ?_; intro wzy47 hxzy47 hbzy47; have nS : Aside0 (Sx w0 wzy47 ((.blk gC #[.int .i64 1000000000000001, .int .i64 (-1000000000000001), .int .i64 55296, .int .i64 1114112, .int .i64 (-1)] 3) :: (.blk gO #[.bool ch_, .slice As S.length cs, .slice (some ⟨gD, 0, none⟩) D.length cd] 28) :: (.row (.slice (some ⟨gD, 0, none⟩) D.length cd) (D.set 0 y_)) :: (.row (.slice As S.length cs) S) :: (.blk g #[.slice A0n6 code.length c0n6, .int .i64 p4] 127) :: (.blk gR #[.bool ch_, .slice As S.length cs, .slice (some ⟨gD, 0, none⟩) D.length cd] 28) :: Ts)) := Aside0.mk (HS.out.put 5 rfl hxzy47 hbzy47); clear HS; have HS := nS; clear nS hxzy47 hbzy47))
        refine bodyPost_ret (results_cell_row rfl _ _ gR 28 #[.bool ch_, .slice As S.length cs, .slice (some ⟨gD, 0, none⟩) D.length cd] (0, 0) _ rfl (HS.out.blk 5 rfl) Try.underlying28 rfl (by kernel_rfl)) rfl ?_
        have hs_ : Sx w0 _ ((.row (.slice (some ⟨gD, 0, none⟩) D.length cd) (D.set 0 y_)) :: (.row (.slice As S.length cs) S) :: Ts) := HS.out.sub ((.cons _ (.cons _ (.cons_cons _ (.cons_cons _ (.cons _ (.cons _ (List.Sublist.refl _))))))))
        unfold ArrPost
        exact ⟨_, _, _, _, _, _, _, _, _, rfl, rfl, by have := HS5.out; omega, by simp, by have := HR_.out; omega, hs_⟩
      · have b5 : decide ((D.length : Int) > 0) = false := decide_eq_false (by omega)
        have b6 : ¬ (0 : Int) < (D.length : Int) := by omega
        have b7 : decide (0 < D.length) = false := decide_eq_false hlen
        clear hlen
        go_wp2_with (first | ((with_reducible refine gate_dst (N := 67) rfl ?_); refine ev_load rfl 22 (.tmp 66) rfl ⟨gO, 2, none⟩ rfl (.slice Ad D.length cd) ((blk_cell (HS.out.blk 0 rfl) 2).trans rfl) (by kernel_rfl) ?_) | ((with_reducible refine gate_dst (N := 79) rfl ?_); refine wpList_load_row rfl 28 (.tmp 4) rfl gO rfl 28 #[.bool ch_, .slice As S.length cs, .slice Ad D.length cd] (0, 0) _ (HS.out.blk 0 rfl) Try.underlying28 rfl (by kernel_rfl) ?_) | ((with_reducible refine gate_store rfl ?_); refine store_named rfl 28 (.tmp 2) (.tmp 79) rfl gR #[.bool ch_, .slice As S.length cs, .slice Ad D.length cd] rfl rfl 28 #[.bool false, .slice none 0 0, .slice none 0 0] (HS.out.blk 4 rfl) (by kernel_rfl) rfl (by simp [Value.oneCell']) ?_; intro wzz47 hxzz47 hbzz47; have nS : Aside0 (Sx w0 wzz47 ((.blk gO #[.bool ch_, .slice As S.length cs, .slice Ad D.length cd] 28) :: (.row (.slice Ad D.length cd) D) :: (.row (.slice As S.length cs) S) :: (.blk g #[.slice A0n6 code.length c0n6, .int .i64 p4] 127) :: (.blk gR #[.bool ch_, .slice As S.length cs, .slice Ad D.length cd] 28) :: Ts)) := Aside0.mk (HS.out.put 4 rfl hxzz47 hbzz47); clear HS; have HS := nS; clear nS hxzz47 hbzz47))
        refine bodyPost_ret (results_cell_row rfl _ _ gR 28 #[.bool ch_, .slice As S.length cs, .slice Ad D.length cd] (0, 0) _ rfl (HS.out.blk 4 rfl) Try.underlying28 rfl (by kernel_rfl)) rfl ?_
        have hs_ : Sx w0 _ ((.row (.slice Ad D.length cd) D) :: (.row (.slice As S.length cs) S) :: Ts) := HS.out.sub ((.cons _ (.cons_cons _ (.cons_cons _ (.cons _ (.cons _ (List.Sublist.refl _)))))))
        unfold ArrPost
        exact ⟨_, _, _, _, _, _, _, _, _, rfl, rfl, by have := HS5.out; omega, rfl, by have := HR_.out; omega, hs_⟩
end Go.Proofs.Ytehfcnndjhjkoaa.PA

namespace Go.Proofs.Ytehfcnndjhjkoaa.PA
open Go.RowKit Go.Proofs.YtehfcnndjhjkoaaW.PrintWords Go.Proofs.YtehfcnndjhjkoaaW.PrintLast Go.Proofs.YtehfcnndjhjkoaaW.PrintMore
set_option linter.unusedVariables false
set_option linter.unusedSimpArgs false
theorem Sx.addN {w W W' : World} {Ts : List Th} (h : Sx w W Ts) (hb : Below W.heap.size W W') {T : Th} (hT : T.ok w.heap.size W') (hne : ∀ U ∈ Ts, ∀ k, T.on k → ¬ U.on k) : Sx w W' (T :: Ts) := by
  have h' := h.step hb
  refine ⟨h'.below, fun U hU => ?_, .cons hne h'.nod⟩
  rcases List.mem_cons.1 hU with rfl | hU
  · exact hT
  · exact h'.ok U hU
def DrawPost (w : World) (e : Ending) (w' : World) : Prop := ∃ (b : Bool) (S D : List Int) (v1 v2 : Value), e = .returned (.agg #[.bool b, v1, v2]) ∧ S.length ≤ 6 ∧ D.length ≤ 10001 ∧ Kd.R (Kd.int .i64) 3 w' w.heap.size (fun k_ => some k_ ≠ (v2 : Value).ownBlock) v1 S ∧ Kd.R (Kd.int .i64) 3 w' w.heap.size (fun k_ => some k_ ≠ (v1 : Value).ownBlock) v2 D ∧ Below w.heap.size w w'
set_option maxHeartbeats 2000000 in
set_option maxRecDepth 100000 in
theorem DrawShow_any (A0 : Option Addr) (c0 : Nat) (l0 : List Int) (w : World) (hC : Kd.C (Kd.int .u8) w A0 l0.length l0) (hk : l0.length ≤ c0) (hb : ∀ x ∈ l0, 0 ≤ x ∧ x ≤ 255) :
    Calls Try.prog 46 #[.slice A0 l0.length c0] w fun e w' => DrawPost w e w' := by
  obtain ⟨l1, ho, hp⟩ := open_ok hb
  have HC := Aside0.mk hC
  have HK := Aside0.mk hk
  have HO := Aside0.mk ho
  have HP := Aside0.mk hp
  clear hC hk ho hp hb
  have HS := Aside0.mk (Sx.start w)
  go_enter Try.func46, Try.ntmps46
  go_wp2_with (first | ((with_reducible refine gate_dst (N := 2) rfl ?_); refine box_event ?hg (N := 2) ?hd (cs := #[.bool false, .slice none 0 0, .slice none 0 0]) (t := 28) ?hr ?_; (case hd => rfl); (case hg => rfl); (case hr => first | (go_simp; done) | (go_simp; rfl)); intro gR hg1 w1 hx1 hb1; have nS : Aside0 (Sx w w1 [(.blk gR #[.bool false, .slice none 0 0, .slice none 0 0] 28)]) := Aside0.mk (HS.out.box hg1 hx1 hb1); clear HS; have HS := nS; clear nS hg1 hx1 hb1) | (go_at_call 65; refine (spec_l1Open.calls A0 c0 l0 l1 0 w _ HS.out.below (Kd.C_below HC.out (Below.refl _ _)) HK.out HO.out).mono ?_; rintro e w5 ⟨gD, rfl, hI_, hb0_, hb_⟩; have hne_ := hI_.ne_blk (blk_below (HS.out.blk 0 rfl) hb_) (by decide); obtain ⟨A9, c9, hB_, hge_, hC_⟩ := hI_; have HC9 := Aside0.mk hC_; have nS : Aside0 (Sx w w5 [.blk gD #[.slice A9 l1.length c9, .int .i64 0] 127, .blk gR #[.bool false, .slice none 0 0, .slice none 0 0] 28]) := Aside0.mk (HS.out.addN hb_ ⟨hB_, hge_⟩ (by intro U hU k hk hk2; simp only [List.mem_singleton] at hU; subst hU; exact hne_ (hk.symm.trans hk2))); clear HS hB_ hC_ hge_ hb_ hb0_ hne_; have HS := nS; clear nS) | (go_at_call 67; refine (l3Array_any [.blk gR #[.bool false, .slice none 0 0, .slice none 0 0] 28] gD A9 c9 l1 0 w _ HS.out HC9.out HP.out).mono ?_; rintro e w6 h_; unfold ArrPost at h_; obtain ⟨b, A1, n1, c1, S, A2, n2, c2, D, rfl, h1_, h2_, h3_, h4_, hn_⟩ := h_; subst h1_ h3_; have HB1 := Aside0.mk h2_; have HB2 := Aside0.mk h4_; have nS := Aside0.mk hn_; clear HS hn_ h2_ h4_; have HS := nS; clear nS) | ((with_reducible refine gate_store rfl ?_); refine store_named rfl 28 (.tmp 2) (.tmp 5) rfl gR #[.bool b, .slice A1 S.length c1, .slice A2 D.length c2] rfl rfl 28 #[.bool false, .slice none 0 0, .slice none 0 0] (HS.out.blk 2 rfl) (by kernel_rfl) rfl (by simp [Value.oneCell']) ?_; intro ws2 hxs2 hbs2; have nS : Aside0 (Sx w ws2 [(.row (.slice A2 D.length c2) D), (.row (.slice A1 S.length c1) S), (.blk gR #[.bool b, .slice A1 S.length c1, .slice A2 D.length c2] 28)]) := Aside0.mk (HS.out.put 2 rfl hxs2 hbs2); clear HS; have HS := nS; clear nS hxs2 hbs2))
  refine bodyPost_ret (results_cell_row rfl _ _ gR 28 #[.bool b, .slice A1 S.length c1, .slice A2 D.length c2] (0, 0) _ rfl (HS.out.blk 2 rfl) Try.underlying28 rfl (by kernel_rfl)) rfl ?_
  have h2 := HS.out.two 1 0 (by decide) rfl rfl
  unfold DrawPost
  exact ⟨b, S, D, _, _, rfl, HB1.out, HB2.out, h2.1, h2.2, HS.out.below⟩
end Go.Proofs.Ytehfcnndjhjkoaa.PA

-- By a program (prt.py, over the print of the kit), for this claim. Not trusted: Lean checks it.
namespace Go.Proofs.Ytehfcnndjhjkoaa.PA
open Go.RowKit Go.Proofs.YtehfcnndjhjkoaaW.PrintWords Go.Proofs.YtehfcnndjhjkoaaW.PrintLast Go.Proofs.YtehfcnndjhjkoaaW.PrintMore
attribute [local go_sem] max2_int min2_int max_two min_two max_three min_three max_four min_four   -- for this text's walks alone
set_option linter.unusedVariables false
set_option linter.unusedSimpArgs false

/-! ### spec_l5At: function 78 -/
def spec_l5At.l0 : Nat → List Int → List Int → Int → Int → Option (Int)
  | 0, _, _, _, _ => none
  | k + 1, x0, x1, x5, x6 => if x6 < (x0.length : Int) then (if 0 ≤ x6 then (if x6 < (x1.length : Int) then (spec_l5At.l0 k x0 x1 (wrap64 ((wrap64 (x5 * (rd x0 x6))) + (rd x1 x6))) (wrap64 (x6 + 1))) else (none)) else (none)) else (some x5)
def spec_l5At.f (k : Nat) (l0 : List Int) (l1 : List Int) : Option (Int) := spec_l5At.l0 k l0 l1 0 0
theorem spec_l5At.mono_l : ∀ k, (∀ y0 y1 y2 y3, LeO (spec_l5At.l0 k y0 y1 y2 y3) (spec_l5At.l0 (k + 1) y0 y1 y2 y3))
  | 0 => fun _ _ _ _ r h => by simp [spec_l5At.l0] at h
  | k + 1 => by
    have ih0 := spec_l5At.mono_l k
    · intro y0 y1 y2 y3
      unfold spec_l5At.l0
      repeat' first
      | (with_reducible exact ih0 _ _ _ _)
      | (with_reducible exact LeO.refl _)
      | (with_reducible exact LeO.none _)
      | (with_reducible refine LeO.ite ?_ ?_)
      | (with_reducible refine LeO.bind ?_ (fun _ => ?_))
      | exact ih0 _ _ _ _
      | exact LeO.none _
      | refine LeO.ite ?_ ?_
      | refine LeO.bind ?_ (fun _ => ?_)
theorem spec_l5At.mono : ∀ a0 a1 k, LeO (spec_l5At.f k a0 a1) (spec_l5At.f (k + 1) a0 a1) := by
  intro a0 a1 k
  have ih0 := spec_l5At.mono_l k
  unfold spec_l5At.f
  repeat' first
      | (with_reducible exact ih0 _ _ _ _)
      | (with_reducible exact LeO.refl _)
      | (with_reducible exact LeO.none _)
      | (with_reducible refine LeO.ite ?_ ?_)
      | (with_reducible refine LeO.bind ?_ (fun _ => ?_))
      | exact ih0 _ _ _ _
      | exact LeO.none _
      | refine LeO.ite ?_ ?_
      | refine LeO.bind ?_ (fun _ => ?_)

end Go.Proofs.Ytehfcnndjhjkoaa.PA

namespace Go.Proofs.Ytehfcnndjhjkoaa.PA
open Go.RowKit Go.Proofs.YtehfcnndjhjkoaaW.PrintWords Go.Proofs.YtehfcnndjhjkoaaW.PrintLast Go.Proofs.YtehfcnndjhjkoaaW.PrintMore
set_option linter.unusedVariables false
set_option linter.unusedSimpArgs false
/-- The number of an index in range is a place. -/
theorem num_range {sh src : List Int} (hs : ∀ a ∈ sh, 1 ≤ a) (hp : prod sh ≤ 1000000000) (hl : sh.length = src.length) (hr : ∀ k : Nat, k < src.length → 0 ≤ rd src (k : Int) ∧ rd src (k : Int) < rd sh (k : Int)) : 0 ≤ numGo sh 0 0 src ∧ numGo sh 0 0 src < prod sh := by
  have h := numGo_hor sh hs hp src [] sh 0 rfl hl (by omega) (by simp [prod]) hr
  simp only [List.length_nil] at h
  rw [h]
  have key : ∀ (s d : List Int) (n b : Int), s.length = d.length → (∀ a ∈ s, 1 ≤ a) → (∀ k : Nat, k < d.length → 0 ≤ rd d (k : Int) ∧ rd d (k : Int) < rd s (k : Int)) → 0 ≤ n → n < b → 0 ≤ hor n s d ∧ hor n s d < b * prod s := by
    intro s
    induction s with
    | nil => intro d n b hl _ _ h0 h1; obtain rfl := List.eq_nil_of_length_eq_zero hl.symm; simp [hor, prod]; omega
    | cons a s ih =>
      intro d n b hl ha hr h0 h1
      cases d with
      | nil => simp at hl
      | cons x d =>
        have hx := hr 0 (by simp)
        have e1 : rd (x :: d) ((0 : Nat) : Int) = x := by simp [rd]
        have e2 : rd (a :: s) ((0 : Nat) : Int) = a := by simp [rd]
        rw [e1, e2] at hx
        have h3 : n * a + x < b * a := by
          have h := Int.mul_le_mul_of_nonneg_right (show n + 1 ≤ b by omega) (show 0 ≤ a by omega)
          rw [Int.add_mul] at h; omega
        have h4 : 0 ≤ n * a := Int.mul_nonneg h0 (by omega)
        have := ih d (n * a + x) (b * a) (by simpa using hl) (fun y hy => ha y (by simp [hy])) (fun k hk => by
          have h := hr (k + 1) (by simp; omega)
          simp only [rd, Int.toNat_natCast, List.getD_cons_succ] at h ⊢
          exact h) (by omega) h3
        simp only [hor, prod]
        rw [← Int.mul_assoc]
        exact this
  have := key sh src 0 1 hl hs hr (by omega) (by omega)
  rwa [Int.one_mul] at this
end Go.Proofs.Ytehfcnndjhjkoaa.PA

-- By a program (prt.py, over the print of the kit), for this claim. Not trusted: Lean checks it.
namespace Go.Proofs.Ytehfcnndjhjkoaa.PA
open Go.RowKit Go.Proofs.YtehfcnndjhjkoaaW.PrintWords Go.Proofs.YtehfcnndjhjkoaaW.PrintLast Go.Proofs.YtehfcnndjhjkoaaW.PrintMore
attribute [local go_sem] max2_int min2_int max_two min_two max_three min_three max_four min_four   -- for this text's walks alone
set_option linter.unusedVariables false
set_option linter.unusedSimpArgs false

/-! ### spec_l5Index: function 77 -/
def spec_l5Index.l0 : Nat → List Int → Int → List Int → Int → Option (List Int)
  | 0, _, _, _, _ => none
  | k + 1, x0, x1, x5, x6 => if x6 ≥ 0 then (if 0 ≤ x6 then (if x6 < (x0.length : Int) then (if (rd x0 x6) = 0 then (none) else (if x6 < (x5.length : Int) then (spec_l5Index.l0 k x0 (wrap64 (Int.tdiv x1 (rd x0 x6))) (x5.set (x6 : Int).toNat (Int.tmod x1 (rd x0 x6))) (wrap64 (x6 - 1))) else (none))) else (none)) else (none)) else (some x5)
def spec_l5Index.f (k : Nat) (l0 : List Int) (a1 : Int) : Option (List Int) := if 0 ≤ (l0.length : Int) then (if ((l0.length : Int) : Int).toNat ≤ 35184372088832 then (spec_l5Index.l0 k l0 a1 (List.replicate ((l0.length : Int) : Int).toNat 0) (wrap64 ((l0.length : Int) - 1))) else (none)) else (none)
theorem spec_l5Index.mono_l : ∀ k, (∀ y0 y1 y2 y3, LeO (spec_l5Index.l0 k y0 y1 y2 y3) (spec_l5Index.l0 (k + 1) y0 y1 y2 y3))
  | 0 => fun _ _ _ _ r h => by simp [spec_l5Index.l0] at h
  | k + 1 => by
    have ih0 := spec_l5Index.mono_l k
    · intro y0 y1 y2 y3
      unfold spec_l5Index.l0
      repeat' first
      | (with_reducible exact ih0 _ _ _ _)
      | (with_reducible exact LeO.refl _)
      | (with_reducible exact LeO.none _)
      | (with_reducible refine LeO.ite ?_ ?_)
      | (with_reducible refine LeO.bind ?_ (fun _ => ?_))
      | exact ih0 _ _ _ _
      | exact LeO.none _
      | refine LeO.ite ?_ ?_
      | refine LeO.bind ?_ (fun _ => ?_)
theorem spec_l5Index.mono : ∀ a0 a1 k, LeO (spec_l5Index.f k a0 a1) (spec_l5Index.f (k + 1) a0 a1) := by
  intro a0 a1 k
  have ih0 := spec_l5Index.mono_l k
  unfold spec_l5Index.f
  repeat' first
      | (with_reducible exact ih0 _ _ _ _)
      | (with_reducible exact LeO.refl _)
      | (with_reducible exact LeO.none _)
      | (with_reducible refine LeO.ite ?_ ?_)
      | (with_reducible refine LeO.bind ?_ (fun _ => ?_))
      | exact ih0 _ _ _ _
      | exact LeO.none _
      | refine LeO.ite ?_ ?_
      | refine LeO.bind ?_ (fun _ => ?_)

end Go.Proofs.Ytehfcnndjhjkoaa.PA

namespace Go.Proofs.Ytehfcnndjhjkoaa.PA
open Go.RowKit Go.Proofs.YtehfcnndjhjkoaaW.PrintWords Go.Proofs.YtehfcnndjhjkoaaW.PrintLast Go.Proofs.YtehfcnndjhjkoaaW.PrintMore
set_option linter.unusedVariables false
set_option linter.unusedSimpArgs false
/-- The function of a window: each index moved by its start. -/
def winF (lt : List Int) (k : Nat) (i : Int) : Int := i + rd lt (k : Int)
theorem srcGo_snoc (f : Nat → Int → Int) : ∀ (p : List Int) (k : Nat) (x : Int), srcGo f k (p ++ [x]) = srcGo f k p ++ [f (k + p.length) x]
  | [], k, x => by simp [srcGo]
  | a :: p, k, x => by simp only [List.cons_append, srcGo, srcGo_snoc f p (k + 1) x, List.length_cons]; rw [show k + 1 + p.length = k + (p.length + 1) by omega]
theorem thrGo_snoc (sh : List Int) (f : Nat → Int → Int) : ∀ (p : List Int) (k : Nat) (b : Bool) (x : Int), thrGo sh f k b (p ++ [x]) = (thrGo sh f k b p && decide (0 ≤ f (k + p.length) x ∧ f (k + p.length) x ≤ wrap64 (rd sh ((k + p.length : Nat) : Int) - 1)))
  | [], k, b, x => by simp [thrGo]
  | a :: p, k, b, x => by simp only [List.cons_append, thrGo, thrGo_snoc sh f p (k + 1), List.length_cons]; rw [show k + 1 + p.length = k + (p.length + 1) by omega]
theorem srcGo_len' (f : Nat → Int → Int) : ∀ (c : List Int) (k : Nat), (srcGo f k c).length = c.length
  | [], _ => rfl
  | a :: c, k => by simp [srcGo, srcGo_len' f c]
theorem rd_memW (l : List Int) (i : Nat) (h : i < l.length) : rd l (i : Int) ∈ l := by
  simp only [rd, Int.toNat_natCast, List.getD_eq_getElem?_getD, List.getElem?_eq_getElem h, Option.getD_some]; exact List.getElem_mem h
def winL (c : Bool) (m1 m2 ls lt : List Int) (N : Nat) : List Int := ofL c m2 (fromL m1 ls (winF lt) N)
theorem thrGo_false (sh : List Int) (f : Nat → Int → Int) : ∀ (c : List Int) (k : Nat), thrGo sh f k false c = false
  | [], _ => rfl
  | a :: c, k => by simp only [thrGo, Bool.false_and]; exact thrGo_false sh f c (k + 1)
theorem thrGo_only (sh : List Int) (f : Nat → Int → Int) : ∀ (c : List Int) (k : Nat), thrGo sh f k true c = true → ∀ j : Nat, j < c.length → 0 ≤ f (k + j) (rd c (j : Int)) ∧ f (k + j) (rd c (j : Int)) ≤ wrap64 (rd sh ((k + j : Nat) : Int) - 1)
  | [], _, _, j, hj => by simp at hj
  | a :: c, k, h, j, hj => by
    simp only [thrGo, Bool.true_and] at h
    by_cases hd : 0 ≤ f k a ∧ f k a ≤ wrap64 (rd sh (k : Int) - 1)
    · rw [decide_eq_true hd] at h
      cases j with
      | zero => simpa [rd] using hd
      | succ j =>
        have := thrGo_only sh f c (k + 1) h j (by simpa using hj)
        rw [show k + 1 + j = k + (j + 1) by omega] at this
        rw [show rd (a :: c) ((j + 1 : Nat) : Int) = rd c (j : Int) from by simp only [rd, Int.toNat_natCast, List.getD_cons_succ]]
        exact this
    · rw [decide_eq_false hd, thrGo_false] at h; cases h
theorem one_range (sh cur : List Int) (f : Nat → Int → Int) (hl : sh.length = cur.length) (hs : ∀ x ∈ sh, 0 ≤ x ∧ x ≤ 10000) (hp : prod sh ≤ 10000) (h : thrGo sh f 0 true cur = true) : 0 ≤ numGo sh 0 0 (srcGo f 0 cur) ∧ numGo sh 0 0 (srcGo f 0 cur) < prod sh := by
  have hr := thrGo_only sh f cur 0 h
  have hw : ∀ k : Nat, k < cur.length → wrap64 (rd sh ((0 + k : Nat) : Int) - 1) = rd sh (k : Int) - 1 := fun k hk => by
    have := hs _ (rd_memW sh k (by omega)); rw [Nat.zero_add]; exact w64 (by omega) (by omega)
  refine num_range (fun a ha => ?_) (by omega) (by rw [srcGo_len', hl]) (fun k hk => ?_)
  · obtain ⟨k, hk, rfl⟩ := List.mem_iff_getElem.mp ha
    have := hr k (by omega)
    rw [hw k (by omega)] at this
    have e : rd sh (k : Int) = sh[k] := by simp [rd, List.getD_eq_getElem?_getD, hk]
    omega
  · rw [srcGo_len'] at hk
    rw [srcGo_rd f cur 0 k hk]
    have := hr k hk
    rw [hw k hk] at this
    omega
theorem winL_succ (c : Bool) (m1 m2 ls lt : List Int) (N : Nat) : winL c m1 m2 ls lt (N + 1) = winL c m1 m2 ls lt N ++ [ofV c m2 (fromOne m1 (winF lt) (idxL ls N))] := by simp [winL, fromL, ofL]
end Go.Proofs.Ytehfcnndjhjkoaa.PA

namespace Go.Proofs.Ytehfcnndjhjkoaa.PA
open Go.RowKit Go.Shelf Go.Proofs.YtehfcnndjhjkoaaW.PrintWords Go.Proofs.YtehfcnndjhjkoaaW.PrintLast Go.Proofs.YtehfcnndjhjkoaaW.PrintMore
attribute [local go_sem] Oper.semAt_some
set_option linter.unusedVariables false
set_option linter.unusedSimpArgs false
set_option maxRecDepth 100000 in
set_option maxHeartbeats 4000000 in
theorem axis_in (b : Bool) (A1 : Option Addr) (c1 : Nat) (l1 : List Int) (A2 : Option Addr) (c2 : Nat) (l2 : List Int) (As : Option Addr) (cs : Nat) (s : List Int) (g : Nat) (lb : Array Value) (f : Nat → Int → Int) (eg : ∀ args w, (callFunc g args).run Try.prog w = .ok (.enter g args) w) (w : World)
    (h1 : Kd.C (Kd.int .i64) w A1 l1.length l1) (k1 : l1.length ≤ c1) (hs : Kd.C (Kd.int .i64) w As s.length s) (ks : s.length ≤ cs) (hl : l1.length = s.length) (h5 : s.length ≤ 5) (hp : 0 ≤ prod s ∧ prod s ≤ 10000) (k : Nat) (hk : impl_shapeOk.f k s = some (prod s, true)) (hf : Gives2 g lb f s w) (hrg : ∀ (t : Nat), t < (prod s).toNat → ∀ k : Nat, k < s.length → 0 ≤ rd (idxL s t) (k : Int) ∧ rd (idxL s t) (k : Int) < rd s (k : Int)) :
    CallsIn Fence.wide 9 Try.prog 105 #[.agg #[.bool b, .slice A1 l1.length c1, .slice A2 l2.length c2], .slice As s.length cs, .func (.func g) #[] lb] w fun e w' => ∃ v, e = .returned (.agg #[.slice As s.length cs, v]) ∧ Kd.R (Kd.int .i64) 3 w' w.heap.size (fun _ => True) v (fromL l1 s f (prod s).toNat) ∧ Below w.heap.size w w' := by
  have H1 := Aside0.mk h1
  have HS := Aside0.mk hs
  have HL := Aside0.mk hl
  have HF := Aside0.mk hf
  have HK := Aside0.mk hk
  have HRG := Aside0.mk hrg
  clear hrg
  clear h1 hs hl hf hk
  have hmk := make_row s.length (by omega)
  refine callsIn_of_wp_marks Try.func105 rfl trivial ?_ rfl
  simp only [Try.ntmps105, List.size_toArray, List.length_cons, List.length_nil, Nat.reduceAdd, Nat.reduceSub, Array.replicate_succ, Array.replicate_zero, List.push_toArray, List.append_toArray, List.nil_append, List.cons_append]
  gi_wp2_with (first | (refine ⟨trivial, ?_⟩; gi_at_call 119; refine (indexes_in _ _ _ _ _).mono ?_; rintro e w' ⟨rfl, rfl⟩))
  obtain ⟨W0, hW0⟩ : ∃ W0, ((((((w.alloc (.cells #[.bool b, .slice A1 l1.length c1, .slice A2 l2.length c2] 28)).alloc (.cells #[.func (.func g) #[] lb] 93)).alloc (.cells #[.slice none 0 0, .slice none 0 0] 70)).alloc (.cells #[.slice As s.length cs, .slice none 0 0] 70)).alloc (.cells (rowI (List.replicate s.length 0)) 3)).alloc (.cells #[.slice (some ⟨w.heap.size + 1 + 1 + 1 + 1, 0, none⟩) s.length s.length] 22)).alloc (.cells #[.slice As s.length cs] 22) = W0 := ⟨_, rfl⟩
  obtain ⟨FA, FP, FR, FM, FS, FB, FX, hsz, hB0⟩ : (_ ∧ _ ∧ _ ∧ _ ∧ _ ∧ _ ∧ _ ∧ _ ∧ Below w.heap.size w W0) := hW0 ▸ alloc7 w _ _ _ _ _ _ _
  rw [hW0]
  have HSZ := Aside0.mk hsz
  clear hW0 hsz
  obtain ⟨gX, hgX⟩ : ∃ gX, gX = w.heap.size + 1 + 1 + 1 + 1 + 1 + 1 := ⟨_, rfl⟩
  rw [← hgX] at FX ⊢
  obtain ⟨gB, hgB⟩ : ∃ gB, gB = w.heap.size + 1 + 1 + 1 + 1 + 1 := ⟨_, rfl⟩
  rw [← hgB] at FB ⊢
  obtain ⟨gS, hgS⟩ : ∃ gS, gS = w.heap.size + 1 + 1 + 1 + 1 := ⟨_, rfl⟩
  rw [← hgS] at FS FB ⊢
  obtain ⟨gM, hgM⟩ : ∃ gM, gM = w.heap.size + 1 + 1 + 1 := ⟨_, rfl⟩
  rw [← hgM] at FM ⊢
  obtain ⟨gR, hgR⟩ : ∃ gR, gR = w.heap.size + 1 + 1 := ⟨_, rfl⟩
  rw [← hgR] at FR ⊢
  obtain ⟨gP, hgP⟩ : ∃ gP, gP = w.heap.size + 1 := ⟨_, rfl⟩
  rw [← hgP] at FP ⊢
  have HGX := Aside0.mk hgX
  have HGB := Aside0.mk hgB
  have HGS := Aside0.mk hgS
  have HGM := Aside0.mk hgM
  have HGR := Aside0.mk hgR
  have HGP := Aside0.mk hgP
  clear hgX hgB hgS hgM hgR hgP
  have gs : gX = w.heap.size + 6 ∧ gB = w.heap.size + 5 ∧ gS = w.heap.size + 4 ∧ gM = w.heap.size + 3 ∧ gR = w.heap.size + 2 ∧ gP = w.heap.size + 1 := by
    have := HGX.out; have := HGB.out; have := HGS.out; have := HGM.out; have := HGR.out; have := HGP.out; omega
  have GS := Aside0.mk gs
  clear gs HGX HGB HGS HGM HGR HGP
  obtain ⟨i0, hi, hz0, hz1, hz2⟩ := info_parts info3
  refine wpIn_rounds rfl (by omega) (gf := 137) (lb := #[.pointer (some ⟨gX, 0, none⟩)]) rfl trivial (enters_of Try.func137 (by kernel_rfl) rfl)
    (idx_rounds 8 (by omega) gX As cs s h5 hp.2 k HK.out W0 ((blk_cell FX 0).trans rfl) (Kd.C_below HS.out hB0) ks (fun ad e e0 => ?addr))
    (Below.refl _ _) ?mlt (fun G t A B h e => by unfold AtI at *; rw [e]; exact h) rfl
    (fun t W => W.heap[w.heap.size]? = some (.cells #[.bool b, .slice A1 l1.length c1, .slice A2 l2.length c2] 28 (0, 0)) ∧ W.heap[gP]? = some (.cells #[.func (.func g) #[] lb] 93 (0, 0)) ∧ W.heap[gR]? = some (.cells #[.slice none 0 0, .slice none 0 0] 70 (0, 0)) ∧
      W.heap[gB]? = some (.cells #[.slice (some ⟨gS, 0, none⟩) s.length s.length] 22 (0, 0)) ∧ (∃ src : List Int, src.length = s.length ∧ W.heap[gS]? = some (.cells (rowI src) 3 (0, 0))) ∧
      (∃ v, W.heap[gM]? = some (.cells #[.slice As s.length cs, v] 70 (0, 0)) ∧ W.ownsRow (w.heap.size + 10) 3 1 v t ((fromL l1 s f t).map (Value.int .i64))) ∧ Below w.heap.size w W)
    (fun _ _ _ => False)
    (fun t A B hI hS => ?inv)
    (fun _ _ _ _ h _ => h)
    ⟨FA, FP, FR, FB, ⟨_, by simp, FS⟩, ⟨_, FM, World.ownsRow_nil _ _ _ _⟩, hB0⟩
    ?a1 ?assign ?body ?done ?stop
  case addr =>
    obtain ⟨ad', e', hx⟩ := Kd.at_int (Kd.C_below HS.out hB0) 0 (by omega) (by omega)
    rw [e] at e'; cases e'
    have := World.block_lt_of_cell? W0 _ hx
    rwa [show (ad.add (0 : Int).toNat).block = ad.block by unfold Addr.add; split <;> rfl] at this
  case mlt =>
    intro k hk
    rcases hk with rfl | ⟨e0, hk⟩
    · exact blk_lt FX
    · obtain ⟨ad, hx, -⟩ := Kd.at_int (Kd.C_below HS.out hB0) 0 (by omega) (by omega)
      obtain ⟨ad', e', hx⟩ := Kd.at_int (Kd.C_below HS.out hB0) 0 (by omega) (by omega)
      rw [e'] at hk
      cases Option.some.inj hk
      have := World.block_lt_of_cell? W0 _ hx
      rwa [show (ad'.add (0 : Int).toNat).block = ad'.block by unfold Addr.add; split <;> rfl] at this
  case inv =>
    obtain ⟨q1, q2, q3, q4, ⟨src, q5, q6⟩, ⟨v, q7, q8⟩, q9⟩ := hI
    have := HSZ.out
    have := GS.out
    exact ⟨hS.blk q1 (by omega), hS.blk q2 (by omega), hS.blk q3 (by omega), hS.blk q4 (by omega), ⟨src, q5, hS.blk q6 (by omega)⟩, ⟨v, hS.blk q7 (by omega), hS.own q8 (fun k hk => by omega)⟩, q9.trans (hS.below (fun k hk => by omega) q9.size)⟩
  case assign =>
    intro lo W K hK
    gi_wp2
    exact hK
  case body =>
    rintro lo t W ⟨q1, q2, q3, q4, ⟨src, q5, q6⟩, ⟨v, q7, q8⟩, q9⟩ hlt hat hge
    have hlt' := Aside0.mk hlt
    have HAT := Aside0.mk hat
    have HGE := Aside0.mk hge
    have Q1 := Aside0.mk q1
    have Q2 := Aside0.mk q2
    have Q3 := Aside0.mk q3
    have Q4 := Aside0.mk q4
    have Q5 := Aside0.mk q5
    have Q6 := Aside0.mk q6
    have Q7 := Aside0.mk q7
    have HCI := Aside0.mk (idxL_len s t)
    have hrng : ∀ (t : Nat), t < (prod s).toNat → ∀ k : Nat, k < s.length → 0 ≤ rd (idxL s t) (k : Int) ∧ rd (idxL s t) (k : Int) < rd s (k : Int) := HRG.out
    clear hlt hat hge q1 q2 q3 q4 q5 q6 q7
    gi_wp2
    gi_loopw [10, 24] (fun th kk wr => ∃ (j : Nat) (q : Bool) (sr : List Int), kk = .int .i64 (j : Int) ∧ th = .bool q ∧ Aside0 (j ≤ s.length) ∧ Aside0 (sr.length = s.length) ∧ Aside0 (wr.heap[gS]? = some (.cells (rowI sr) 3 (0, 0))) ∧
        Aside0 (sr.take j ++ srcGo f j ((idxL s t).drop j) = srcGo f 0 (idxL s t)) ∧ Aside0 (thrGo l1 f j q ((idxL s t).drop j) = thrGo l1 f 0 true (idxL s t)) ∧ Aside0 (ButS (fun k => k = gS) W wr))
      (fun _ kk _ => s.length - (intOf kk).toNat)
    case atStart => exact ⟨0, true, src, rfl, rfl, ⟨Nat.zero_le _⟩, Q5, Q6, ⟨rfl⟩, ⟨rfl⟩, ⟨⟨Nat.le_refl _, fun _ _ _ => rfl, rfl, rfl, rfl⟩⟩⟩
    case round =>
      obtain ⟨j, q, sr, rfl, rfl, hj, hsl, hsr, htk, hth, hbs⟩ := hrel
      by_cases hjl : j < s.length
      · have p0 : 0 ≤ (j : Int) := by omega
        have p1 : (j : Int) < (s.length : Int) := by omega
        have hgs := GS.out
        have hx := rowI_cell (blk_of (hbs.out.blk HAT.out (by have := HSZ.out; omega))) j (by have := HCI.out; omega)
        have hB5 := blk_cell (hbs.out.blk Q4.out (by omega)) 0
        have hP5 := blk_cell (hbs.out.blk Q2.out (by omega)) 0
        have hbel := hbs.out.below (n := w.heap.size) (by rintro k rfl; omega) (by have := HSZ.out; have := HGE.out; omega)
        have HBE := Aside0.mk (q9.trans hbel)
        clear hgs hbel
        have hcg := rowI_cell hsr.out j (by have := hsl.out; omega)
        have hfz := blk_frozen hsr.out j
        have HR := Aside0.mk (hrng t hlt'.out j hjl)
        obtain ⟨x, hxe⟩ : ∃ x, x = rd (idxL s t) (j : Int) := ⟨_, rfl⟩
        rw [← hxe] at hx HR
        have HXE := Aside0.mk hxe
        clear hxe
        have hcall : ∀ (n : Nat) (W' : World), Below w.heap.size w W' → CallsIn Fence.wide n Try.prog g (#[.int .i64 (j : Int), .int .i64 x] ++ lb) W' fun e w' => e = .returned (.int .i64 (f j x)) ∧ ∃ q, w' = W'.drewN q := fun n W' hb => callsIn_wide.2 (HF.out W' j x hb hjl HR.out.1 HR.out.2)
        gi_wp2
        refine region_round (by kernel_rfl) (by kernel_rfl) ?_
        refine wpAnyIn_take (i := 1) (v := ?_) rfl rfl (by kernel_rfl) (by kernel_rfl) (by kernel_rfl) (fun _ _ _ h => h) ⟨Or.inl ⟨by rfl, ?_⟩, fun _ => rfl⟩ ?_
        rotate_left
        · intro w'; go_simp; try with_reducible rfl
        refine wpAnyIn_take (i := 3) (v := ?_) rfl rfl (by kernel_rfl) (by kernel_rfl) (by kernel_rfl) (fun _ _ _ h => h) ⟨Or.inl ⟨by rfl, ?_⟩, fun _ => rfl⟩ ?_
        rotate_left
        · intro w'; go_simp; try with_reducible rfl
        refine wpAnyIn_take (i := 4) (v := ?_) rfl rfl (by kernel_rfl) (by kernel_rfl) (by kernel_rfl) (fun _ _ _ h => h) ⟨Or.inl ⟨by rfl, ?_⟩, fun _ => rfl⟩ ?_
        rotate_left
        · intro w'; go_simp; try with_reducible rfl
        refine wpAnyIn_ready (rs := [0, 2]) (by kernel_rfl) (by simp) ?_
        refine AllReadyIn.cons rfl (fun K hK => ?_) ?_
        · go_simp
          refine hK _ _ ?_
          clear hK K
          refine wpAnyIn_ready (rs := [2]) (by kernel_rfl) (by simp) ?_
          refine AllReadyIn.cons rfl (fun K hK => ?_) ?_
          · go_simp
            refine hK _ _ ?_
            clear hK K
            refine wpAnyIn_ready (rs := [5]) (by kernel_rfl) (by simp) ?_
            refine AllReadyIn.cons rfl (fun K hK => ?_) ?_
            · go_simp
              refine ⟨trivial, (hcall _ _ (pw_below_drewN HBE.out 1)).mono ?_⟩
              rintro e w' ⟨rfl, q', rfl⟩
              refine hK _ _ ?_
              clear hK K
              refine wpAnyIn_take (i := 6) (v := ?_) rfl rfl (by kernel_rfl) (by kernel_rfl) (by kernel_rfl) (fun _ _ _ h => h) ⟨Or.inl ⟨by rfl, ?_⟩, fun _ => rfl⟩ ?_
              rotate_left
              · intro w'; go_simp; try with_reducible rfl
              refine wpAnyIn_ready (rs := [7]) (by kernel_rfl) (by simp) ?_
              refine AllReadyIn.cons rfl (fun K hK => ?_) ?_
              · go_simp
                refine hK _ _ ?_
                clear hK K
                refine wpAnyIn_done (by kernel_rfl) ?_ _
                gi_wp2
                obtain ⟨W2, hW2⟩ : ∃ W2, (World.drewN wr (1 + q')).setCell ⟨gS, j, none⟩ (.int .i64 (f j x)) = W2 := ⟨_, rfl⟩
                rw [hW2]
                have hS2 : ButS (fun k => k = gS) W W2 := hW2 ▸ butS_set (show ButS (fun k => k = gS) W (World.drewN wr (1 + q')) from ⟨hbs.out.size, hbs.out.same, hbs.out.os, hbs.out.tape, hbs.out.output⟩) rfl j _
                have hsr2 : W2.heap[gS]? = some (.cells (rowI (sr.set j (f j x))) 3 (0, 0)) := hW2 ▸ rowI_put (show (World.drewN wr (1 + q')).heap[gS]? = _ from hsr.out) j _
                have HS2 := Aside0.mk hS2
                have HSR2 := Aside0.mk hsr2
                have hgs := GS.out
                have hu1 := blk_cell (hS2.blk Q4.out (by omega)) 0
                have hu2 := blk_cell (hS2.blk Q1.out (by omega)) 1
                have hu3 := rowI_cell hsr2 j (by have := hsl.out; rw [List.length_set]; omega)
                rw [show rd (sr.set j (f j x)) (j : Int) = f j x from rd_set _ _ _ (by have := hsl.out; omega)] at hu3
                have hb2 : Below w.heap.size w W2 := q9.trans (hS2.below (by rintro k rfl; omega) (by have := HSZ.out; have := HGE.out; omega))
                obtain ⟨ad, rfl, hu4⟩ := Kd.at_int (Kd.C_below H1.out hb2) (j : Int) p0 (by have := HL.out; omega)
                rw [Int.toNat_natCast] at hu4
                have p2 : (j : Int) < (l1.length : Int) := by have := HL.out; omega
                clear hgs hS2 hsr2 hb2 hW2
                cases q with
                | true =>
                  have hwith : ∀ (n : Nat) (W' : World), CallsIn Fence.wide n Try.prog 118 #[.int .i64 (f j x), .int .i64 0, .int .i64 (wrap64 (rd l1 (j : Int) - 1))] W' fun e w' => e = .returned (.bool (decide (0 ≤ f j x ∧ f j x ≤ wrap64 (rd l1 (j : Int) - 1)))) ∧ ∃ m, w' = W'.drewN m := fun n W' => callsIn_wide.2 ((impl_within.calls (f j x) 0 (wrap64 (rd l1 (j : Int) - 1)) (decide (0 ≤ f j x ∧ f j x ≤ wrap64 (rd l1 (j : Int) - 1))) W' (within_ev _ _)).mono (fun _ _ h => ⟨h.1, h.2.out⟩))
                  refine quiet_round rfl (by kernel_rfl) (by kernel_rfl) (by kernel_rfl) ?_
                  repeat (gi_big_quiet_step (fail))
                  refine BigFrame.wpQuietIn_want (fun _ _ _ _ => trivial) rfl (fun K hK => ?_)
                  gi_big_quiet_op
                  apply Exists.intro
                  refine ⟨fun _ => ?_, ?_⟩
                  · refine CallsIn.quiet_of (hwith _ _)
                  refine hK _ ?_
                  clear hK K
                  repeat (gi_big_quiet_step (fail))
                  refine wpQuietIn_nil ?_
                  intro _ hw'
                  obtain ⟨nq, hw''⟩ := hw'
                  subst hw''
                  gi_wp2
                  refine ⟨⟨j + 1, _, sr.set j (f j x), by push_cast; rfl, rfl, ⟨hjl⟩, ⟨by rw [List.length_set]; exact hsl.out⟩, ⟨HSR2.out⟩, ⟨?_⟩, ⟨?_⟩, ⟨HS2.out.size, HS2.out.same, HS2.out.os, HS2.out.tape, HS2.out.output⟩⟩, by simp [intOf]; omega⟩
                  · rw [← htk.out, HXE.out]; exact src_step f sr _ j (by have := hsl.out; omega) (by have := HCI.out; omega)
                  · rw [← hth.out, thr_step l1 f _ j _ (by have := HCI.out; omega), ← HXE.out]; congr 1; simp [Bool.decide_and]
                | false =>
                  refine quiet_round rfl (by kernel_rfl) (by kernel_rfl) (by kernel_rfl) ?_
                  repeat (gi_big_quiet_step (fail))
                  refine BigFrame.wpQuietIn_skip (fun _ _ _ _ => trivial) rfl ?_
                  go_simp
                  repeat (gi_big_quiet_step (fail))
                  refine wpQuietIn_nil ?_
                  intro nq
                  gi_wp2
                  refine ⟨⟨j + 1, false, sr.set j (f j x), by push_cast; rfl, rfl, ⟨hjl⟩, ⟨by rw [List.length_set]; exact hsl.out⟩, ⟨HSR2.out⟩, ⟨?_⟩, ⟨?_⟩, ⟨HS2.out.size, HS2.out.same, HS2.out.os, HS2.out.tape, HS2.out.output⟩⟩, by simp [intOf]; omega⟩
                  · rw [← htk.out, HXE.out]; exact src_step f sr _ j (by have := hsl.out; omega) (by have := HCI.out; omega)
                  · rw [← hth.out, thr_step l1 f _ j _ (by have := HCI.out; omega), ← HXE.out]; congr 1
              exact AllReadyIn.nil
            exact AllReadyIn.nil
          exact AllReadyIn.nil
        refine AllReadyIn.cons rfl (fun K hK => ?_) ?_
        · go_simp
          refine hK _ _ ?_
          clear hK K
          refine wpAnyIn_ready (rs := [0, 5]) (by kernel_rfl) (by simp) ?_
          refine AllReadyIn.cons rfl (fun K hK => ?_) ?_
          · go_simp
            refine hK _ _ ?_
            clear hK K
            refine wpAnyIn_ready (rs := [5]) (by kernel_rfl) (by simp) ?_
            refine AllReadyIn.cons rfl (fun K hK => ?_) ?_
            · go_simp
              refine ⟨trivial, (hcall _ _ (pw_below_drewN HBE.out 1)).mono ?_⟩
              rintro e w' ⟨rfl, q', rfl⟩
              refine hK _ _ ?_
              clear hK K
              refine wpAnyIn_take (i := 6) (v := ?_) rfl rfl (by kernel_rfl) (by kernel_rfl) (by kernel_rfl) (fun _ _ _ h => h) ⟨Or.inl ⟨by rfl, ?_⟩, fun _ => rfl⟩ ?_
              rotate_left
              · intro w'; go_simp; try with_reducible rfl
              refine wpAnyIn_ready (rs := [7]) (by kernel_rfl) (by simp) ?_
              refine AllReadyIn.cons rfl (fun K hK => ?_) ?_
              · go_simp
                refine hK _ _ ?_
                clear hK K
                refine wpAnyIn_done (by kernel_rfl) ?_ _
                gi_wp2
                obtain ⟨W2, hW2⟩ : ∃ W2, (World.drewN wr (1 + q')).setCell ⟨gS, j, none⟩ (.int .i64 (f j x)) = W2 := ⟨_, rfl⟩
                rw [hW2]
                have hS2 : ButS (fun k => k = gS) W W2 := hW2 ▸ butS_set (show ButS (fun k => k = gS) W (World.drewN wr (1 + q')) from ⟨hbs.out.size, hbs.out.same, hbs.out.os, hbs.out.tape, hbs.out.output⟩) rfl j _
                have hsr2 : W2.heap[gS]? = some (.cells (rowI (sr.set j (f j x))) 3 (0, 0)) := hW2 ▸ rowI_put (show (World.drewN wr (1 + q')).heap[gS]? = _ from hsr.out) j _
                have HS2 := Aside0.mk hS2
                have HSR2 := Aside0.mk hsr2
                have hgs := GS.out
                have hu1 := blk_cell (hS2.blk Q4.out (by omega)) 0
                have hu2 := blk_cell (hS2.blk Q1.out (by omega)) 1
                have hu3 := rowI_cell hsr2 j (by have := hsl.out; rw [List.length_set]; omega)
                rw [show rd (sr.set j (f j x)) (j : Int) = f j x from rd_set _ _ _ (by have := hsl.out; omega)] at hu3
                have hb2 : Below w.heap.size w W2 := q9.trans (hS2.below (by rintro k rfl; omega) (by have := HSZ.out; have := HGE.out; omega))
                obtain ⟨ad, rfl, hu4⟩ := Kd.at_int (Kd.C_below H1.out hb2) (j : Int) p0 (by have := HL.out; omega)
                rw [Int.toNat_natCast] at hu4
                have p2 : (j : Int) < (l1.length : Int) := by have := HL.out; omega
                clear hgs hS2 hsr2 hb2 hW2
                cases q with
                | true =>
                  have hwith : ∀ (n : Nat) (W' : World), CallsIn Fence.wide n Try.prog 118 #[.int .i64 (f j x), .int .i64 0, .int .i64 (wrap64 (rd l1 (j : Int) - 1))] W' fun e w' => e = .returned (.bool (decide (0 ≤ f j x ∧ f j x ≤ wrap64 (rd l1 (j : Int) - 1)))) ∧ ∃ m, w' = W'.drewN m := fun n W' => callsIn_wide.2 ((impl_within.calls (f j x) 0 (wrap64 (rd l1 (j : Int) - 1)) (decide (0 ≤ f j x ∧ f j x ≤ wrap64 (rd l1 (j : Int) - 1))) W' (within_ev _ _)).mono (fun _ _ h => ⟨h.1, h.2.out⟩))
                  refine quiet_round rfl (by kernel_rfl) (by kernel_rfl) (by kernel_rfl) ?_
                  repeat (gi_big_quiet_step (fail))
                  refine BigFrame.wpQuietIn_want (fun _ _ _ _ => trivial) rfl (fun K hK => ?_)
                  gi_big_quiet_op
                  apply Exists.intro
                  refine ⟨fun _ => ?_, ?_⟩
                  · refine CallsIn.quiet_of (hwith _ _)
                  refine hK _ ?_
                  clear hK K
                  repeat (gi_big_quiet_step (fail))
                  refine wpQuietIn_nil ?_
                  intro _ hw'
                  obtain ⟨nq, hw''⟩ := hw'
                  subst hw''
                  gi_wp2
                  refine ⟨⟨j + 1, _, sr.set j (f j x), by push_cast; rfl, rfl, ⟨hjl⟩, ⟨by rw [List.length_set]; exact hsl.out⟩, ⟨HSR2.out⟩, ⟨?_⟩, ⟨?_⟩, ⟨HS2.out.size, HS2.out.same, HS2.out.os, HS2.out.tape, HS2.out.output⟩⟩, by simp [intOf]; omega⟩
                  · rw [← htk.out, HXE.out]; exact src_step f sr _ j (by have := hsl.out; omega) (by have := HCI.out; omega)
                  · rw [← hth.out, thr_step l1 f _ j _ (by have := HCI.out; omega), ← HXE.out]; congr 1; simp [Bool.decide_and]
                | false =>
                  refine quiet_round rfl (by kernel_rfl) (by kernel_rfl) (by kernel_rfl) ?_
                  repeat (gi_big_quiet_step (fail))
                  refine BigFrame.wpQuietIn_skip (fun _ _ _ _ => trivial) rfl ?_
                  go_simp
                  repeat (gi_big_quiet_step (fail))
                  refine wpQuietIn_nil ?_
                  intro nq
                  gi_wp2
                  refine ⟨⟨j + 1, false, sr.set j (f j x), by push_cast; rfl, rfl, ⟨hjl⟩, ⟨by rw [List.length_set]; exact hsl.out⟩, ⟨HSR2.out⟩, ⟨?_⟩, ⟨?_⟩, ⟨HS2.out.size, HS2.out.same, HS2.out.os, HS2.out.tape, HS2.out.output⟩⟩, by simp [intOf]; omega⟩
                  · rw [← htk.out, HXE.out]; exact src_step f sr _ j (by have := hsl.out; omega) (by have := HCI.out; omega)
                  · rw [← hth.out, thr_step l1 f _ j _ (by have := HCI.out; omega), ← HXE.out]; congr 1
              exact AllReadyIn.nil
            exact AllReadyIn.nil
          refine AllReadyIn.cons rfl (fun K hK => ?_) ?_
          · go_simp
            refine ⟨trivial, (hcall _ _ (pw_below_drewN HBE.out 1)).mono ?_⟩
            rintro e w' ⟨rfl, q', rfl⟩
            refine hK _ _ ?_
            clear hK K
            refine wpAnyIn_ready (rs := [0]) (by kernel_rfl) (by simp) ?_
            refine AllReadyIn.cons rfl (fun K hK => ?_) ?_
            · go_simp
              refine hK _ _ ?_
              clear hK K
              refine wpAnyIn_take (i := 6) (v := ?_) rfl rfl (by kernel_rfl) (by kernel_rfl) (by kernel_rfl) (fun _ _ _ h => h) ⟨Or.inl ⟨by rfl, ?_⟩, fun _ => rfl⟩ ?_
              rotate_left
              · intro w'; go_simp; try with_reducible rfl
              refine wpAnyIn_ready (rs := [7]) (by kernel_rfl) (by simp) ?_
              refine AllReadyIn.cons rfl (fun K hK => ?_) ?_
              · go_simp
                refine hK _ _ ?_
                clear hK K
                refine wpAnyIn_done (by kernel_rfl) ?_ _
                gi_wp2
                obtain ⟨W2, hW2⟩ : ∃ W2, (World.drewN wr (1 + q')).setCell ⟨gS, j, none⟩ (.int .i64 (f j x)) = W2 := ⟨_, rfl⟩
                rw [hW2]
                have hS2 : ButS (fun k => k = gS) W W2 := hW2 ▸ butS_set (show ButS (fun k => k = gS) W (World.drewN wr (1 + q')) from ⟨hbs.out.size, hbs.out.same, hbs.out.os, hbs.out.tape, hbs.out.output⟩) rfl j _
                have hsr2 : W2.heap[gS]? = some (.cells (rowI (sr.set j (f j x))) 3 (0, 0)) := hW2 ▸ rowI_put (show (World.drewN wr (1 + q')).heap[gS]? = _ from hsr.out) j _
                have HS2 := Aside0.mk hS2
                have HSR2 := Aside0.mk hsr2
                have hgs := GS.out
                have hu1 := blk_cell (hS2.blk Q4.out (by omega)) 0
                have hu2 := blk_cell (hS2.blk Q1.out (by omega)) 1
                have hu3 := rowI_cell hsr2 j (by have := hsl.out; rw [List.length_set]; omega)
                rw [show rd (sr.set j (f j x)) (j : Int) = f j x from rd_set _ _ _ (by have := hsl.out; omega)] at hu3
                have hb2 : Below w.heap.size w W2 := q9.trans (hS2.below (by rintro k rfl; omega) (by have := HSZ.out; have := HGE.out; omega))
                obtain ⟨ad, rfl, hu4⟩ := Kd.at_int (Kd.C_below H1.out hb2) (j : Int) p0 (by have := HL.out; omega)
                rw [Int.toNat_natCast] at hu4
                have p2 : (j : Int) < (l1.length : Int) := by have := HL.out; omega
                clear hgs hS2 hsr2 hb2 hW2
                cases q with
                | true =>
                  have hwith : ∀ (n : Nat) (W' : World), CallsIn Fence.wide n Try.prog 118 #[.int .i64 (f j x), .int .i64 0, .int .i64 (wrap64 (rd l1 (j : Int) - 1))] W' fun e w' => e = .returned (.bool (decide (0 ≤ f j x ∧ f j x ≤ wrap64 (rd l1 (j : Int) - 1)))) ∧ ∃ m, w' = W'.drewN m := fun n W' => callsIn_wide.2 ((impl_within.calls (f j x) 0 (wrap64 (rd l1 (j : Int) - 1)) (decide (0 ≤ f j x ∧ f j x ≤ wrap64 (rd l1 (j : Int) - 1))) W' (within_ev _ _)).mono (fun _ _ h => ⟨h.1, h.2.out⟩))
                  refine quiet_round rfl (by kernel_rfl) (by kernel_rfl) (by kernel_rfl) ?_
                  repeat (gi_big_quiet_step (fail))
                  refine BigFrame.wpQuietIn_want (fun _ _ _ _ => trivial) rfl (fun K hK => ?_)
                  gi_big_quiet_op
                  apply Exists.intro
                  refine ⟨fun _ => ?_, ?_⟩
                  · refine CallsIn.quiet_of (hwith _ _)
                  refine hK _ ?_
                  clear hK K
                  repeat (gi_big_quiet_step (fail))
                  refine wpQuietIn_nil ?_
                  intro _ hw'
                  obtain ⟨nq, hw''⟩ := hw'
                  subst hw''
                  gi_wp2
                  refine ⟨⟨j + 1, _, sr.set j (f j x), by push_cast; rfl, rfl, ⟨hjl⟩, ⟨by rw [List.length_set]; exact hsl.out⟩, ⟨HSR2.out⟩, ⟨?_⟩, ⟨?_⟩, ⟨HS2.out.size, HS2.out.same, HS2.out.os, HS2.out.tape, HS2.out.output⟩⟩, by simp [intOf]; omega⟩
                  · rw [← htk.out, HXE.out]; exact src_step f sr _ j (by have := hsl.out; omega) (by have := HCI.out; omega)
                  · rw [← hth.out, thr_step l1 f _ j _ (by have := HCI.out; omega), ← HXE.out]; congr 1; simp [Bool.decide_and]
                | false =>
                  refine quiet_round rfl (by kernel_rfl) (by kernel_rfl) (by kernel_rfl) ?_
                  repeat (gi_big_quiet_step (fail))
                  refine BigFrame.wpQuietIn_skip (fun _ _ _ _ => trivial) rfl ?_
                  go_simp
                  repeat (gi_big_quiet_step (fail))
                  refine wpQuietIn_nil ?_
                  intro nq
                  gi_wp2
                  refine ⟨⟨j + 1, false, sr.set j (f j x), by push_cast; rfl, rfl, ⟨hjl⟩, ⟨by rw [List.length_set]; exact hsl.out⟩, ⟨HSR2.out⟩, ⟨?_⟩, ⟨?_⟩, ⟨HS2.out.size, HS2.out.same, HS2.out.os, HS2.out.tape, HS2.out.output⟩⟩, by simp [intOf]; omega⟩
                  · rw [← htk.out, HXE.out]; exact src_step f sr _ j (by have := hsl.out; omega) (by have := HCI.out; omega)
                  · rw [← hth.out, thr_step l1 f _ j _ (by have := HCI.out; omega), ← HXE.out]; congr 1
              exact AllReadyIn.nil
            exact AllReadyIn.nil
          exact AllReadyIn.nil
        exact AllReadyIn.nil
      · have hje : j = s.length := by have := hj.out; omega
        have hte : sr = srcGo f 0 (idxL s t) := by
          have h := htk.out
          rw [List.drop_eq_nil_of_le (by have := HCI.out; omega), srcGo, List.append_nil, List.take_of_length_le (by have := hsl.out; omega)] at h
          exact h
        have hqe : q = thrGo l1 f 0 true (idxL s t) := by
          have h := hth.out
          rw [List.drop_eq_nil_of_le (by have := HCI.out; omega), thrGo] at h
          exact h
        have HTE := Aside0.mk hte
        have HQE := Aside0.mk hqe
        have HJE := Aside0.mk hje
        clear hte hqe hje
        have hgs := GS.out
        have hB5 := blk_cell (hbs.out.blk Q4.out (by omega)) 0
        have hA1 := blk_cell (hbs.out.blk Q1.out (by omega)) 1
        have hM0 := blk_cell (hbs.out.blk Q7.out (by omega)) 0
        have hM1 := blk_cell (hbs.out.blk Q7.out (by omega)) 1
        have hM2 := blk_frozen (hbs.out.blk Q7.out (by omega)) 1
        clear hgs
        cases q with
        | true =>
          have hgs := GS.out
          have hbw : Below w.heap.size w wr := q9.trans (hbs.out.below (by rintro k rfl; omega) (by have := HSZ.out; have := HGE.out; omega))
          have hCS : Kd.C (Kd.int .i64) wr (some ⟨gS, 0, none⟩) sr.length sr := rowI_C hsr.out (by have := hsl.out; omega)
          have hnum : CallsIn (Fence.wide.inRound lo) 6 Try.prog 120 #[.slice A1 l1.length c1, .slice (some ⟨gS, 0, none⟩) s.length s.length] wr fun e w' => e = .returned (.int .i64 (numGo l1 0 0 sr)) ∧ ∃ m, w' = wr.drewN m := by
            have h := impl_number.calls (sr.length + 1) A1 c1 l1 (some ⟨gS, 0, none⟩) sr.length sr _ wr (Kd.C_below H1.out hbw) k1 hCS (Nat.le_refl _) (number_ev l1 sr (by have := hsl.out; have := HL.out; omega) (by have := hsl.out; omega))
            rw [hsl.out] at h
            exact CallsIn.inRound lo (callsIn_wide.2 (h.mono fun _ _ h => ⟨h.1, h.2.out⟩))
          have HN := Aside0.mk hnum
          clear hnum hCS hgs hbw
          have bd1 : t + 1 ≤ maxLen := by have := hlt'.out; unfold maxLen; omega
          have bd2 : (t + 1) * 8 ≤ 140737488355328 := by have := hlt'.out; omega
          have hgs := GS.out
          have hm7 := hbs.out.blk Q7.out (by omega)
          have hrow := hbs.out.own q8 (fun k hk => by omega)
          have HM7 := Aside0.mk hm7
          clear hgs hm7
          gi_wp2_with (first | (refine ⟨trivial, HN.out.mono ?_⟩; rintro e w' ⟨rfl, m, rfl⟩) | (gi_at_builtin; refine wpListIn_append_own _ rfl _ _ 22 rfl (w.heap.size + 10) 3 i0 (.int .i64 0) 1 8 Try.underlying22 hi hz0 hz1 hz2 rfl (by decide) _ _ _ rfl ((show (wr.drewN m).ownsRow _ _ _ _ _ _ from hrow).alloc _) ⟨wr.heap.size, 0, none⟩ 1 1 [.int .i64 (numGo l1 0 0 sr)] rfl rfl (cell_one_new _ _ _) (by simp [Value.oneCell']) bd1 bd2 (by have := HGE.out; have := HSZ.out; have := hbs.out.size; simp; omega) ?_; intro v' w1 hown' hgrow _; obtain ⟨g', cap', rfl⟩ := ownsRow_succ hown'; obtain ⟨pp1, pp2, pp3, ppk, pp4⟩ := pair_appended (W := wr.drewN m) HM7.out (by decide) hrow hown' hgrow; have hc1 := blk_cell pp1 1; have hf1 := blk_frozen pp1 1))
          have hgs := GS.out
          have hb1 : ButS (fun k => k = gS) W (wr.drewN m) := ⟨hbs.out.size, hbs.out.same, hbs.out.os, hbs.out.tape, hbs.out.output⟩
          have hba := (hb1.mono (T := fun k => k = gS ∨ k = gM ∨ w.heap.size + 10 ≤ k) (fun k h => .inl h)).trans (pp4.mono (fun k h => .inr h))
          have hz := HSZ.out
          have hge := HGE.out
          refine ⟨(keeps_butS hb1 (fun k e o ho => by cases e; rw [Q6.out] at ho; cases ho; rfl)).trans ppk, fun k hk => hba.same k ?_ ?_, ?_, hba.blk Q1.out (by omega), hba.blk Q2.out (by omega), hba.blk Q3.out (by omega), hba.blk Q4.out (by omega), ⟨sr, hsl.out, pp4.blk (show (wr.drewN m).heap[gS]? = _ from hsr.out) (by omega)⟩, ⟨_, pp2, ?_⟩, q9.trans (hba.below (fun k hk => by omega) q9.size)⟩
          · rcases hk with rfl | ⟨e0, hk⟩
            · omega
            · have := C_block HS.out e0 hk; omega
          · rcases hk with rfl | ⟨e0, hk⟩
            · omega
            · have := C_block HS.out e0 hk; omega
          · exact hba.blk (show W.heap[W0.heap.size + 2]? = _ from HAT.out) (by omega)
          · rw [show fromL l1 s f (t + 1) = fromL l1 s f t ++ [numGo l1 0 0 sr] from by rw [fromL, fromOne, ← HQE.out]; simp [HTE.out]]
            simpa using pp3
        | false =>
          have bd1 : t + 1 ≤ maxLen := by have := hlt'.out; unfold maxLen; omega
          have bd2 : (t + 1) * 8 ≤ 140737488355328 := by have := hlt'.out; omega
          have hgs := GS.out
          have hm7 := hbs.out.blk Q7.out (by omega)
          have hrow := hbs.out.own q8 (fun k hk => by omega)
          have HM7 := Aside0.mk hm7
          clear hgs hm7
          gi_wp2_with (gi_at_builtin; refine wpListIn_append_own _ rfl _ _ 22 rfl (w.heap.size + 10) 3 i0 (.int .i64 0) 1 8 Try.underlying22 hi hz0 hz1 hz2 rfl (by decide) _ _ _ rfl (hrow.alloc _) ⟨wr.heap.size, 0, none⟩ 1 1 [.int .i64 (-1)] rfl rfl (cell_one_new _ _ _) (by simp [Value.oneCell']) bd1 bd2 (by have := HGE.out; have := HSZ.out; have := hbs.out.size; simp; omega) ?_; intro v' w1 hown' hgrow _; obtain ⟨g', cap', rfl⟩ := ownsRow_succ hown'; obtain ⟨pp1, pp2, pp3, ppk, pp4⟩ := pair_appended HM7.out (by decide) hrow hown' hgrow; have hc1 := blk_cell pp1 1; have hf1 := blk_frozen pp1 1)
          have hgs := GS.out
          have hb1 : ButS (fun k => k = gS) W wr := ⟨hbs.out.size, hbs.out.same, hbs.out.os, hbs.out.tape, hbs.out.output⟩
          have hba := (hb1.mono (T := fun k => k = gS ∨ k = gM ∨ w.heap.size + 10 ≤ k) (fun k h => .inl h)).trans (pp4.mono (fun k h => .inr h))
          have hz := HSZ.out
          have hge := HGE.out
          refine ⟨(keeps_butS hb1 (fun k e o ho => by cases e; rw [Q6.out] at ho; cases ho; rfl)).trans ppk, fun k hk => hba.same k ?_ ?_, ?_, hba.blk Q1.out (by omega), hba.blk Q2.out (by omega), hba.blk Q3.out (by omega), hba.blk Q4.out (by omega), ⟨sr, hsl.out, pp4.blk (show wr.heap[gS]? = _ from hsr.out) (by omega)⟩, ⟨_, pp2, ?_⟩, q9.trans (hba.below (fun k hk => by omega) q9.size)⟩
          · rcases hk with rfl | ⟨e0, hk⟩
            · omega
            · have := C_block HS.out e0 hk; omega
          · rcases hk with rfl | ⟨e0, hk⟩
            · omega
            · have := C_block HS.out e0 hk; omega
          · exact hba.blk (show W.heap[W0.heap.size + 2]? = _ from HAT.out) (by omega)
          · rw [show fromL l1 s f (t + 1) = fromL l1 s f t ++ [-1] from by rw [fromL, fromOne, ← HQE.out]; simp [HTE.out]]
            simpa using pp3
  case done =>
    rintro W ⟨q1, q2, q3, q4, ⟨src, q5, q6⟩, ⟨v, q7, q8⟩, q9⟩ hD
    have hR : Kd.R (Kd.int .i64) 3 W (w.heap.size + 10) (fun _ => True) v (fromL l1 s f (prod s).toNat) := Kd.R_of_own (by rw [fromL_len]; exact q8) (fun _ _ => trivial)
    obtain ⟨Av, cv, rfl⟩ := Kd.R_slice hR
    gi_wp2_with (first | (refine wpListIn_load_row rfl 70 (.tmp 7) rfl gM rfl 70 #[.slice As s.length cs, .slice Av _ cv] (0, 0) _ q7 Try.underlying70 rfl (by kernel_rfl) ?_) | (refine wpListIn_store_named rfl 70 (.tmp 6) (.tmp 62) rfl gR #[.slice As s.length cs, .slice Av _ cv] rfl rfl 70 #[.slice none 0 0, .slice none 0 0] q3 (by kernel_rfl) rfl (by simp [Value.oneCell']) ?_; intro w1 hs1 hb1))
    have hz := HSZ.out
    have hgs := GS.out
    have hD1 : w1.heap[W0.heap.size]? = some (.deferred (some [])) := (hb1.same _ (by omega)).trans hD
    have hR1 := hb1.row hR q3 (by decide)
    refine ⟨by simp, .inl ⟨_, _, rfl, run_takeDeferred hD1, ?_⟩⟩
    refine ⟨_, results_cell_row rfl _ _ gR 70 #[.slice As s.length cs, .slice Av _ cv] (0, 0) _ rfl ((World.putObj_heap_other (by omega)).trans hs1) Try.underlying70 rfl (by kernel_rfl), _, rfl, Kd.R_of_own (own_weaken (base := w.heap.size + 10) (ownsRow_putObj (Kd.own_of_R hR1) _ hD1 rfl) (by omega)) (fun _ _ => trivial), (q9.trans (hb1.below _ (by omega))).trans (belowK_b (w := w) (Nat.le_refl _) w1 W0.heap.size _ _ (by omega) hD1 rfl rfl)⟩
  case stop =>
    rintro c t W _ h _
    exact h.elim
end Go.Proofs.Ytehfcnndjhjkoaa.PA

-- By a program (prt.py, over the print of the kit), for this claim. Not trusted: Lean checks it.
namespace Go.Proofs.Ytehfcnndjhjkoaa.PA
open Go.RowKit Go.Proofs.YtehfcnndjhjkoaaW.PrintWords Go.Proofs.YtehfcnndjhjkoaaW.PrintLast Go.Proofs.YtehfcnndjhjkoaaW.PrintMore
attribute [local go_sem] max2_int min2_int max_two min_two max_three min_three max_four min_four   -- for this text's walks alone
set_option linter.unusedVariables false
set_option linter.unusedSimpArgs false

/-! ### impl_absolute: function 129 -/
def impl_absolute.f (a0 : Int) : Option (Int) := some (mx a0 (wrap64 (-a0)))
set_option maxHeartbeats 8000000 in
set_option maxRecDepth 100000 in
theorem impl_absolute.calls (a0 : Int) (r : Int) (w : World) (h : impl_absolute.f a0 = some r) :
    Calls Try.prog 129 #[.int .i64 a0] w fun e w' => e = .returned (.int .i64 r) ∧ Below w.heap.size w w' := by
  have HB := Aside0.mk (Below.refl w.heap.size w)
  have H : (some (mx a0 (wrap64 (-a0)))) = some r := h
  clear h
  obtain ⟨ji2, hji2⟩ : ∃ j_ : Int, (mx a0 (wrap64 (-a0))) = j_ := ⟨_, rfl⟩
  replace H : (some ji2) = some r := by first | (rw [hji2] at H; exact H) | (simp only [hji2] at H ⊢; exact H)
  have hji2_ : (if a0 < (wrap64 (-a0)) then (wrap64 (-a0)) else a0) = ji2 := hji2
  obtain rfl := Option.some.inj H
  go_enter Try.func129, Try.ntmps129
  go_wp2
  go_ret
  exact ⟨by first | rfl | (simp [errW_none, errW_some] <;> rfl) | (simp only [← hji2]; first | rfl | (simp [errW_none, errW_some] <;> rfl)) | (simp [*, errW_none, errW_some] <;> rfl), by repeat (first | (with_reducible first | exact HB.out | apply below_alloc | apply pw_below_drewN | apply below_drew1) | exact HB.out)⟩

end Go.Proofs.Ytehfcnndjhjkoaa.PA

namespace Go.Proofs.Ytehfcnndjhjkoaa.PA
open Go.RowKit Go.Proofs.YtehfcnndjhjkoaaW.PrintWords Go.Proofs.YtehfcnndjhjkoaaW.PrintLast Go.Proofs.YtehfcnndjhjkoaaW.PrintMore
set_option linter.unusedVariables false
set_option linter.unusedSimpArgs false
/-- Where a part begins along each axis. -/
def stTake (s k : List Int) : List Int := (List.range k.length).map fun (i : Nat) => if rd k (i : Int) < 0 then rd s (i : Int) + rd k (i : Int) else 0
theorem rd_mem' (l : List Int) (i : Nat) (h : i < l.length) : rd l (i : Int) ∈ l := by
  simp only [rd, Int.toNat_natCast, List.getD_eq_getElem?_getD, List.getElem?_eq_getElem h, Option.getD_some]; exact List.getElem_mem h
theorem rd_range (f : Nat → Int) (n i : Nat) (h : i < n) : rd ((List.range n).map f) (i : Int) = f i := by
  simp [rd, List.getD_eq_getElem?_getD, h]
theorem stTake_rd (s k : List Int) (i : Nat) (h : i < k.length) : rd (stTake s k) (i : Int) = if rd k (i : Int) < 0 then rd s (i : Int) + rd k (i : Int) else 0 := rd_range _ _ _ h
theorem take_fn (k : Nat) (i : Int) (gK gB : Nat) (a : Bool) (A1 : Option Addr) (n1 c1 : Nat) (A2 : Option Addr) (c2 : Nat) (l2 : List Int) (b : Bool) (B1 : Option Addr) (d1 : Nat) (sh : List Int) (B2 : Option Addr) (n2 d2 : Nat) (W : World)
    (hK : W.heap[gK]? = some (.cells #[.bool a, .slice A1 n1 c1, .slice A2 l2.length c2] 28 (0, 0))) (hB : W.heap[gB]? = some (.cells #[.bool b, .slice B1 sh.length d1, .slice B2 n2 d2] 28 (0, 0)))
    (hc2 : Kd.C (Kd.int .i64) W A2 l2.length l2) (hc1 : Kd.C (Kd.int .i64) W B1 sh.length sh) (hk : k < l2.length) (hn : sh.length = l2.length) (i0 : 0 ≤ i) (i1 : i ≤ 10000) (s0 : 0 ≤ rd sh (k : Int) ∧ rd sh (k : Int) ≤ 10000) (r0 : -1000000000000000 ≤ rd l2 (k : Int) ∧ rd l2 (k : Int) ≤ 1000000000000000) :
    Calls Try.prog 133 #[.int .i64 (k : Int), .int .i64 i, .pointer (some ⟨gK, 0, none⟩), .pointer (some ⟨gB, 0, none⟩)] W fun e w' => e = .returned (.int .i64 (i + rd (stTake sh l2) (k : Int))) ∧ ∃ q, w' = W.drewN q := by
  rw [stTake_rd _ _ _ hk]
  have x2 : W.cell? ⟨gK, 2, none⟩ = some (.slice A2 l2.length c2) := (blk_cell hK 2).trans rfl
  have x3 : W.cell? ⟨gB, 1, none⟩ = some (.slice B1 sh.length d1) := (blk_cell hB 1).trans rfl
  obtain ⟨ad1, rfl, y1⟩ := Kd.at_int hc2 (k : Int) (by omega) (by omega)
  obtain ⟨ad2, rfl, y2⟩ := Kd.at_int hc1 (k : Int) (by omega) (by omega)
  rw [Int.toNat_natCast] at y1 y2
  have p0 : 0 ≤ (k : Int) := by omega
  have p1 : (k : Int) < (l2.length : Int) := by omega
  have p2 : (k : Int) < (sh.length : Int) := by omega
  obtain ⟨n, hne⟩ : ∃ n, rd l2 (k : Int) = n := ⟨_, rfl⟩
  obtain ⟨z, hze⟩ : ∃ z, rd sh (k : Int) = z := ⟨_, rfl⟩
  rw [hne] at y1 r0 ⊢
  rw [hze] at y2 s0 ⊢
  obtain ⟨r0, r1⟩ := r0
  obtain ⟨s0, s1⟩ := s0
  clear hK hB hc2 hc1 hne hze hn hk
  by_cases hneg : n < 0
  · rw [if_pos hneg]
    go_enter Try.func133, Try.ntmps133
    go_wp2
    go_ret
    exact ⟨(show Ending.returned (.int .i64 (i + z + n)) = _ by rw [Int.add_assoc]), 0, rfl⟩
  · rw [if_neg hneg, Int.add_zero]
    go_enter Try.func133, Try.ntmps133
    go_wp2
    go_ret
    exact ⟨rfl, 0, rfl⟩
theorem take_gives (gK gB : Nat) (a : Bool) (A1 : Option Addr) (n1 c1 : Nat) (A2 : Option Addr) (c2 : Nat) (l2 : List Int) (b : Bool) (B1 : Option Addr) (m1 d1 : Nat) (sh : List Int) (B2 : Option Addr) (n2 d2 : Nat) (s : List Int) (W : World)
    (hK : W.heap[gK]? = some (.cells #[.bool a, .slice A1 n1 c1, .slice A2 l2.length c2] 28 (0, 0))) (hB : W.heap[gB]? = some (.cells #[.bool b, .slice B1 m1 d1, .slice B2 n2 d2] 28 (0, 0))) (hm : m1 = sh.length)
    (hc2 : Kd.C (Kd.int .i64) W A2 l2.length l2) (hc1 : Kd.C (Kd.int .i64) W B1 sh.length sh) (hn : sh.length = l2.length) (hs : s.length = l2.length) (hr : ∀ x ∈ s, 0 ≤ x ∧ x ≤ 10000) (hr' : ∀ x ∈ sh, 0 ≤ x ∧ x ≤ 10000) (r0 : ∀ x ∈ l2, -1000000000000000 ≤ x ∧ x ≤ 1000000000000000) :
    Gives2 133 #[.pointer (some ⟨gK, 0, none⟩), .pointer (some ⟨gB, 0, none⟩)] (fun k i => i + rd (stTake sh l2) (k : Int)) s W := by
  subst hm
  intro W' k i hb hk i0 i1
  exact take_fn k i gK gB a A1 n1 c1 A2 c2 l2 b B1 d1 sh B2 n2 d2 W' (blk_below hK hb) (blk_below hB hb) (Kd.C_below hc2 hb) (Kd.C_below hc1 hb) (by omega) hn i0 (by have := (hr _ (rd_mem' s k hk)).2; omega) (hr' _ (rd_mem' sh k (by omega))) (r0 _ (rd_mem' l2 k (by omega)))
section
variable {P : Program} {ops : Array Oper} {rest : List Oper} {o : Oper} {a : Act} {Q : Exit → Act → World → Prop}
theorem ev_store_row {W : World} (hgd : o.guard = none) (ty : TypeId) (x y : Operand) (ho : o.op = .store ty x y) (g j : Nat) (hx : a.eval x = .pointer (some ⟨g, j, none⟩)) (z : Int) (hy : a.eval y = .int .i64 z)
    (l : List Int) (hg : W.heap[g]? = some (.cells (rowI l) 3 (0, 0))) (hj : j < l.length) (hi : (P.info? ty).map (·.size) = some 1)
    (h : ∀ w1, w1.heap[g]? = some (.cells (rowI (l.set j z)) 3 (0, 0)) → But1 g W w1 → wpList P ops Q rest (a.put o.dst undef) w1) : wpList P ops Q (o :: rest) a W := by
  refine ev_store hgd ty x y ho g j hx (.int .i64 z) hy (rowI l) 3 hg (by simpa [rowI] using hj) rfl hi ?_
  intro w1 h1 h2
  rw [rowI_set] at h1
  exact h w1 h1 h2
end
theorem shapeOk_n (k g n : Nat) (l : List Int) (r : Int × Bool) (w : World) (h : Kd.C (Kd.int .i64) w (some ⟨g, 0, none⟩) l.length l) (hn : l.length = n) (hf : impl_shapeOk.f k l = some r) :
    Calls Try.prog 94 #[.slice (some ⟨g, 0, none⟩) n n] w fun e w' => e = .returned (.tuple #[.int .i64 r.1, .bool r.2]) ∧ Below w.heap.size w w' := by
  subst hn
  exact (impl_shapeOk.calls k (some ⟨g, 0, none⟩) l.length l r.1 r.2 w h (Nat.le_refl _) hf).mono fun _ _ h => ⟨h.1, h.2.below⟩
theorem axis_n (b : Bool) (A1 : Option Addr) (n1 c1 : Nat) (l1 : List Int) (A2 : Option Addr) (c2 : Nat) (l2 : List Int) (gS n : Nat) (s : List Int) (g : Nat) (lb : Array Value) (f : Nat → Int → Int) (eg : ∀ args w, (callFunc g args).run Try.prog w = .ok (.enter g args) w) (w : World)
    (h1 : Kd.C (Kd.int .i64) w A1 l1.length l1) (k1 : l1.length ≤ c1) (hn1 : l1.length = n1) (hs : Kd.C (Kd.int .i64) w (some ⟨gS, 0, none⟩) s.length s) (hn : s.length = n) (hl : l1.length = n) (h5 : n ≤ 5) (hp : 0 ≤ prod s ∧ prod s ≤ 10000) (k : Nat) (hk : impl_shapeOk.f k s = some (prod s, true)) (hf : Gives2 g lb f s w) (hrg : ∀ (t : Nat), t < (prod s).toNat → ∀ k : Nat, k < s.length → 0 ≤ rd (idxL s t) (k : Int) ∧ rd (idxL s t) (k : Int) < rd s (k : Int)) :
    CallsIn Fence.wide 9 Try.prog 105 #[.agg #[.bool b, .slice A1 n1 c1, .slice A2 l2.length c2], .slice (some ⟨gS, 0, none⟩) n n, .func (.func g) #[] lb] w fun e w' => ∃ v, e = .returned (.agg #[.slice (some ⟨gS, 0, none⟩) n n, v]) ∧ Kd.R (Kd.int .i64) 3 w' w.heap.size (fun _ => True) v (fromL l1 s f (prod s).toNat) ∧ Below w.heap.size w w' := by
  subst hn hn1
  exact axis_in b A1 c1 l1 A2 c2 l2 (some ⟨gS, 0, none⟩) s.length s g lb f eg w h1 k1 hs (Nat.le_refl _) hl h5 hp k hk hf hrg
def absL (k : List Int) : List Int := k.map fun (n : Int) => if n < 0 then -n else n
theorem absL_len (k : List Int) : (absL k).length = k.length := by simp [absL]
theorem abs_eq (n : Int) (h0 : -1000000000000000 ≤ n) (h1 : n ≤ 1000000000000000) : impl_absolute.f n = some (if n < 0 then -n else n) := by
  unfold impl_absolute.f mx
  rw [w64 (by omega) (by omega)]
  congr 1
  split <;> split <;> omega
theorem take_snocI (p : List Int) (j : Nat) (h : j < p.length) : p.take (j + 1) = p.take j ++ [rd p (j : Int)] := by
  rw [List.take_succ_eq_append_getElem h]; simp [rd, List.getD_eq_getElem?_getD, h]
/-- The list of a loop that fills a row, a number further. -/
theorem fill_next (q : List Int) (x : Int) (N j : Nat) (hq : q.length = j) (hj : j < N) : (q ++ List.replicate (N - j) (0 : Int)).set j x = (q ++ [x]) ++ List.replicate (N - (j + 1)) 0 := by
  rw [show List.replicate (N - j) (0 : Int) = 0 :: List.replicate (N - (j + 1)) 0 by rw [show N - j = (N - (j + 1)) + 1 by omega, List.replicate_succ]]
  rw [set_last q _ 0 x j hq]; simp
set_option maxHeartbeats 2000000 in
set_option maxRecDepth 100000 in
theorem takeMove_same_no (a : Bool) (Aa1 : Option Addr) (ca1 : Nat) (la1 : List Int) (Aa2 : Option Addr) (ca2 : Nat) (la2 : List Int) (b : Bool) (Ab1 : Option Addr) (cb1 : Nat) (lb1 : List Int) (Ab2 : Option Addr) (cb2 : Nat) (lb2 : List Int) (w : World) (ha1 : Kd.C (Kd.int .i64) w Aa1 la1.length la1) (ka1 : la1.length ≤ ca1) (ha2 : Kd.C (Kd.int .i64) w Aa2 la2.length la2) (ka2 : la2.length ≤ ca2) (hb1 : Kd.C (Kd.int .i64) w Ab1 lb1.length lb1) (kb1 : lb1.length ≤ cb1) (hb2 : Kd.C (Kd.int .i64) w Ab2 lb2.length lb2) (kb2 : lb2.length ≤ cb2) (hx : ∀ W, Below w.heap.size w W → Calls Try.prog 128 #[.agg #[.bool a, .slice Aa1 la1.length ca1, .slice Aa2 la2.length ca2], .agg #[.bool b, .slice Ab1 lb1.length cb1, .slice Ab2 lb2.length cb2]] W fun e w' => e = .returned (.tuple #[.agg #[.bool b, .slice Ab1 lb1.length cb1, .slice Ab2 lb2.length cb2], .int .i64 0]) ∧ Below W.heap.size W w') (hr0 : ∀ x ∈ la2, -1000000000000000 ≤ x ∧ x ≤ 1000000000000000) (hls : la2.length ≤ 10000) (ks : Nat) (hso : impl_shapeOk.f ks (absL la2) = some (0, false)) :
    Calls Try.prog 108 #[.agg #[.bool a, .slice Aa1 la1.length ca1, .slice Aa2 la2.length ca2], .agg #[.bool b, .slice Ab1 lb1.length cb1, .slice Ab2 lb2.length cb2]] w fun e w' => ∃ A1 c1 A2 c2, e = .returned (.tuple #[.agg #[.slice A1 ([] : List Int).length c1, .slice A2 ([] : List Int).length c2], .int .i64 7]) ∧ Kd.C (Kd.int .i64) w' A1 ([] : List Int).length [] ∧ ([] : List Int).length ≤ c1 ∧ Kd.C (Kd.int .i64) w' A2 ([] : List Int).length [] ∧ ([] : List Int).length ≤ c2 ∧ Below w.heap.size w w' := by
  have Ha1 := Aside0.mk ha1
  have Ka1 := Aside0.mk ka1
  clear ha1 ka1
  have Ha2 := Aside0.mk ha2
  have Ka2 := Aside0.mk ka2
  clear ha2 ka2
  have Hb1 := Aside0.mk hb1
  have Kb1 := Aside0.mk kb1
  clear hb1 kb1
  have Hb2 := Aside0.mk hb2
  have Kb2 := Aside0.mk kb2
  clear hb2 kb2
  have HX := Aside0.mk hx
  have HR0 := Aside0.mk hr0
  have HSO := Aside0.mk hso
  have hmk := make_rowN la2.length (by omega)
  have HLS := Aside0.mk (show (absL la2).length ≤ 9223372036854775807 by rw [absL_len]; omega)
  clear hx hr0 hso
  have HS := Aside0.mk (Sx.start w)
  go_enter Try.func108, Try.ntmps108
  go_wp2_with (first | ((with_reducible refine gate_dst (N := 2) rfl ?_); refine box_event ?hg (N := 2) ?hd (cs := #[.bool a, .slice Aa1 la1.length ca1, .slice Aa2 la2.length ca2]) (t := 28) ?hr ?_; (case hd => rfl); (case hg => rfl); (case hr => first | (go_simp; done) | (go_simp; rfl)); intro gK hg1 w1 hx1 hb1; have nS : Aside0 (Sx w w1 [(.blk gK #[.bool a, .slice Aa1 la1.length ca1, .slice Aa2 la2.length ca2] 28)]) := Aside0.mk (HS.out.box hg1 hx1 hb1); clear HS; have HS := nS; clear nS hg1 hx1 hb1) | ((with_reducible refine gate_dst (N := 3) rfl ?_); refine box_event ?hg (N := 3) ?hd (cs := #[.bool b, .slice Ab1 lb1.length cb1, .slice Ab2 lb2.length cb2]) (t := 28) ?hr ?_; (case hd => rfl); (case hg => rfl); (case hr => first | (go_simp; done) | (go_simp; rfl)); intro gB hg2 w2 hx2 hb2; have nS : Aside0 (Sx w w2 [(.blk gB #[.bool b, .slice Ab1 lb1.length cb1, .slice Ab2 lb2.length cb2] 28), (.blk gK #[.bool a, .slice Aa1 la1.length ca1, .slice Aa2 la2.length ca2] 28)]) := Aside0.mk (HS.out.box hg2 hx2 hb2); clear HS; have HS := nS; clear nS hg2 hx2 hb2) | ((with_reducible refine gate_dst (N := 4) rfl ?_); refine box_event ?hg (N := 4) ?hd (cs := #[.slice none 0 0, .slice none 0 0]) (t := 70) ?hr ?_; (case hd => rfl); (case hg => rfl); (case hr => first | (go_simp; done) | (go_simp; rfl)); intro gR hg3 w3 hx3 hb3; have nS : Aside0 (Sx w w3 [(.blk gR #[.slice none 0 0, .slice none 0 0] 70), (.blk gB #[.bool b, .slice Ab1 lb1.length cb1, .slice Ab2 lb2.length cb2] 28), (.blk gK #[.bool a, .slice Aa1 la1.length ca1, .slice Aa2 la2.length ca2] 28)]) := Aside0.mk (HS.out.box hg3 hx3 hb3); clear HS; have HS := nS; clear nS hg3 hx3 hb3) | ((with_reducible refine gate_dst (N := 13) rfl ?_); refine wpList_load_row rfl 28 (.tmp 2) rfl gK rfl 28 #[.bool a, .slice Aa1 la1.length ca1, .slice Aa2 la2.length ca2] (0, 0) _ (HS.out.blk 2 rfl) Try.underlying28 rfl (by kernel_rfl) ?_) | ((with_reducible refine gate_dst (N := 14) rfl ?_); refine wpList_load_row rfl 28 (.tmp 3) rfl gB rfl 28 #[.bool b, .slice Ab1 lb1.length cb1, .slice Ab2 lb2.length cb2] (0, 0) _ (HS.out.blk 1 rfl) Try.underlying28 rfl (by kernel_rfl) ?_) | (go_at_call 128; refine (HX.out _ HS.out.below).mono ?_; rintro e w4 ⟨rfl, hb4⟩; have nS : Aside0 (Sx w w4 [(.blk gR #[.slice none 0 0, .slice none 0 0] 70), (.blk gB #[.bool b, .slice Ab1 lb1.length cb1, .slice Ab2 lb2.length cb2] 28), (.blk gK #[.bool a, .slice Aa1 la1.length ca1, .slice Aa2 la2.length ca2] 28)]) := Aside0.mk (HS.out.step hb4); clear HS; have HS := nS; clear nS hb4) | ((with_reducible refine gate_store rfl ?_); refine store_named rfl 28 (.tmp 3) (.tmp 16) rfl gB #[.bool b, .slice Ab1 lb1.length cb1, .slice Ab2 lb2.length cb2] rfl rfl 28 #[.bool b, .slice Ab1 lb1.length cb1, .slice Ab2 lb2.length cb2] (HS.out.blk 1 rfl) (by kernel_rfl) rfl (by simp [Value.oneCell']) ?_; intro w5 hx5 hb5; have nS : Aside0 (Sx w w5 [(.blk gR #[.slice none 0 0, .slice none 0 0] 70), (.blk gB #[.bool b, .slice Ab1 lb1.length cb1, .slice Ab2 lb2.length cb2] 28), (.blk gK #[.bool a, .slice Aa1 la1.length ca1, .slice Aa2 la2.length ca2] 28)]) := Aside0.mk (HS.out.put 1 rfl hx5 hb5); clear HS; have HS := nS; clear nS hx5 hb5) | ((with_reducible refine gate_dst (N := 23) rfl ?_); refine ev_load rfl 22 (.tmp 22) rfl ⟨gK, 2, none⟩ rfl (.slice Aa2 la2.length ca2) ((blk_cell (HS.out.blk 2 rfl) 2).trans rfl) (by kernel_rfl) ?_) | ((with_reducible refine gate_dst (N := 25) rfl ?_); refine lit_event ?hg (N := 25) ?hd (cs := (rowI (List.replicate la2.length 0))) (t := 3) (n := la2.length) ?hr ?_; (case hd => rfl); (case hg => rfl); (case hr => first | (go_simp; done) | (go_simp; rfl)); intro gS hg6 w6 hx6 hb6; have nS : Aside0 (Sx w w6 [(.blk gS (rowI (List.replicate la2.length 0)) 3), (.blk gR #[.slice none 0 0, .slice none 0 0] 70), (.blk gB #[.bool b, .slice Ab1 lb1.length cb1, .slice Ab2 lb2.length cb2] 28), (.blk gK #[.bool a, .slice Aa1 la1.length ca1, .slice Aa2 la2.length ca2] 28)]) := Aside0.mk (HS.out.box hg6 hx6 hb6); clear HS; have HS := nS; clear nS hg6 hx6 hb6) | ((with_reducible refine gate_dst (N := 27) rfl ?_); refine ev_load rfl 22 (.tmp 26) rfl ⟨gK, 2, none⟩ rfl (.slice Aa2 la2.length ca2) ((blk_cell (HS.out.blk 3 rfl) 2).trans rfl) (by kernel_rfl) ?_))
  go_loopw [8, 9, 29] (fun _ _ z wr => ∃ j : Nat, z = .int .i64 (j : Int) ∧ Aside0 (j ≤ la2.length) ∧ Aside0 (Sx w wr [(.blk gS (rowI (absL (la2.take j) ++ List.replicate (la2.length - j) 0)) 3), (.blk gR #[.slice none 0 0, .slice none 0 0] 70), (.blk gB #[.bool b, .slice Ab1 lb1.length cb1, .slice Ab2 lb2.length cb2] 28), (.blk gK #[.bool a, .slice Aa1 la1.length ca1, .slice Aa2 la2.length ca2] 28)])) (fun _ _ z _ => la2.length - (intOf z).toNat)
  case atStart => exact ⟨0, rfl, ⟨Nat.zero_le _⟩, ⟨by simpa [absL] using HS.out⟩⟩
  case round =>
    clear HS
    obtain ⟨j, rfl, hj, HS⟩ := hrel
    by_cases hlt : j < la2.length
    · obtain ⟨ad, rfl, y1⟩ := Kd.at_int (Kd.C_below Ha2.out HS.out.below) (j : Int) (by omega) (by omega)
      rw [Int.toNat_natCast] at y1
      have HT := Aside0.mk (take_snocI la2 j hlt)
      have hb := HR0.out _ (rd_mem' la2 j hlt)
      obtain ⟨n, hne⟩ : ∃ n, n = rd la2 (j : Int) := ⟨_, rfl⟩
      rw [← hne] at y1 HT hb
      have HABS := Aside0.mk (abs_eq n hb.1 hb.2)
      have p0 : 0 ≤ (j : Int) := by omega
      have p1 : (j : Int) < (la2.length : Int) := by omega
      have HL := Aside0.mk (show j < (absL (la2.take j) ++ List.replicate (la2.length - j) 0).length by simp [absL]; omega)
      clear hne hb
      go_wp2_with (first | (go_at_call 129; refine (impl_absolute.calls n (if n < 0 then -n else n) _ HABS.out).mono ?_; rintro e wr1 ⟨rfl, hbr1⟩; have nS : Aside0 (Sx w wr1 [(.blk gS (rowI (absL (la2.take j) ++ List.replicate (la2.length - j) 0)) 3), (.blk gR #[.slice none 0 0, .slice none 0 0] 70), (.blk gB #[.bool b, .slice Ab1 lb1.length cb1, .slice Ab2 lb2.length cb2] 28), (.blk gK #[.bool a, .slice Aa1 la1.length ca1, .slice (some ad) la2.length ca2] 28)]) := Aside0.mk (HS.out.step hbr1); clear HS; have HS := nS; clear nS hbr1) | ((with_reducible refine gate_store rfl ?_); refine ev_store_row rfl 3 (.tmp 38) (.tmp 37) rfl gS j rfl (if n < 0 then -n else n) rfl (absL (la2.take j) ++ List.replicate (la2.length - j) 0) (HS.out.blk 0 rfl) HL.out (by kernel_rfl) ?_; intro wz hxz hbz; have nS : Aside0 (Sx w wz [(.blk gS (rowI ((absL (la2.take j) ++ List.replicate (la2.length - j) 0).set j (if n < 0 then -n else n))) 3), (.blk gR #[.slice none 0 0, .slice none 0 0] 70), (.blk gB #[.bool b, .slice Ab1 lb1.length cb1, .slice Ab2 lb2.length cb2] 28), (.blk gK #[.bool a, .slice Aa1 la1.length ca1, .slice (some ad) la2.length ca2] 28)]) := Aside0.mk (HS.out.put 0 rfl hxz hbz); clear HS; have HS := nS; clear nS hxz hbz))
      go_roundw
      case rel =>
        refine ⟨j + 1, by push_cast; rfl, ⟨hlt⟩, ⟨?_⟩⟩
        have hq : absL (la2.take (j + 1)) = absL (la2.take j) ++ [if n < 0 then -n else n] := by rw [HT.out]; simp [absL]
        have h := fill_next (absL (la2.take j)) (if n < 0 then -n else n) la2.length j (by simp [absL]; omega) hlt
        rw [hq, ← h]
        exact HS.out
      case measure => simp [intOf]; omega
    · obtain rfl : j = la2.length := by have := hj.out; omega
      have HS' : Aside0 (Sx w wr [(.blk gS (rowI (absL la2)) 3), (.blk gR #[.slice none 0 0, .slice none 0 0] 70), (.blk gB #[.bool b, .slice Ab1 lb1.length cb1, .slice Ab2 lb2.length cb2] 28), (.blk gK #[.bool a, .slice Aa1 la1.length ca1, .slice Aa2 la2.length ca2] 28)]) := Aside0.mk (by have := HS.out; simpa [absL, List.take_length] using this)
      clear HS
      have HS := HS'
      clear HS'
      go_wp2_with (first | (go_at_call 94; refine (shapeOk_n ks gS la2.length (absL la2) (0, false) _ (rowI_C (HS.out.blk 0 rfl) HLS.out) (absL_len la2) HSO.out).mono ?_; rintro e wz1 ⟨rfl, hbz1⟩; have nS : Aside0 (Sx w wz1 [(.blk gS (rowI (absL la2)) 3), (.blk gR #[.slice none 0 0, .slice none 0 0] 70), (.blk gB #[.bool b, .slice Ab1 lb1.length cb1, .slice Ab2 lb2.length cb2] 28), (.blk gK #[.bool a, .slice Aa1 la1.length ca1, .slice Aa2 la2.length ca2] 28)]) := Aside0.mk (HS.out.step hbz1); clear HS; have HS := nS; clear nS hbz1) | ((with_reducible refine gate_store rfl ?_); refine store_named rfl 70 (.tmp 4) (.tmp 47) rfl gR #[.slice none 0 0, .slice none 0 0] rfl rfl 70 #[.slice none 0 0, .slice none 0 0] (HS.out.blk 1 rfl) (by kernel_rfl) rfl (by simp [Value.oneCell']) ?_; intro wz2 hxz2 hbz2; have nS : Aside0 (Sx w wz2 [(.blk gS (rowI (absL la2)) 3), (.blk gR #[.slice none 0 0, .slice none 0 0] 70), (.blk gB #[.bool b, .slice Ab1 lb1.length cb1, .slice Ab2 lb2.length cb2] 28), (.blk gK #[.bool a, .slice Aa1 la1.length ca1, .slice Aa2 la2.length ca2] 28)]) := Aside0.mk (HS.out.put 1 rfl hxz2 hbz2); clear HS; have HS := nS; clear nS hxz2 hbz2))
      refine bodyPost_ret (results_ct rfl _ _ gR 70 #[.slice none 0 0, .slice none 0 0] (0, 0) _ rfl (HS.out.blk 1 rfl) Try.underlying70 rfl (by kernel_rfl)) rfl ?_
      exact ⟨none, 0, none, 0, rfl, Kd.C_nil _ _, Nat.le_refl _, Kd.C_nil _ _, Nat.le_refl _, HS.out.below⟩
set_option maxHeartbeats 2000000 in
set_option maxRecDepth 100000 in
theorem takeMove_same_ok (a : Bool) (Aa1 : Option Addr) (ca1 : Nat) (la1 : List Int) (Aa2 : Option Addr) (ca2 : Nat) (la2 : List Int) (b : Bool) (Ab1 : Option Addr) (cb1 : Nat) (lb1 : List Int) (Ab2 : Option Addr) (cb2 : Nat) (lb2 : List Int) (w : World) (ha1 : Kd.C (Kd.int .i64) w Aa1 la1.length la1) (ka1 : la1.length ≤ ca1) (ha2 : Kd.C (Kd.int .i64) w Aa2 la2.length la2) (ka2 : la2.length ≤ ca2) (hb1 : Kd.C (Kd.int .i64) w Ab1 lb1.length lb1) (kb1 : lb1.length ≤ cb1) (hb2 : Kd.C (Kd.int .i64) w Ab2 lb2.length lb2) (kb2 : lb2.length ≤ cb2) (hx : ∀ W, Below w.heap.size w W → Calls Try.prog 128 #[.agg #[.bool a, .slice Aa1 la1.length ca1, .slice Aa2 la2.length ca2], .agg #[.bool b, .slice Ab1 lb1.length cb1, .slice Ab2 lb2.length cb2]] W fun e w' => e = .returned (.tuple #[.agg #[.bool b, .slice Ab1 lb1.length cb1, .slice Ab2 lb2.length cb2], .int .i64 0]) ∧ Below W.heap.size W w') (hr0 : ∀ x ∈ la2, -1000000000000000 ≤ x ∧ x ≤ 1000000000000000) (hls : la2.length ≤ 10000) (ks : Nat) (hso : impl_shapeOk.f ks (absL la2) = some (prod (absL la2), true)) (hsl : lb1.length = la2.length) (h5 : la2.length ≤ 5) (hp : 0 ≤ prod (absL la2) ∧ prod (absL la2) ≤ 10000) (hrs : ∀ x ∈ absL la2, 0 ≤ x ∧ x ≤ 10000) (hrb : ∀ x ∈ lb1, 0 ≤ x ∧ x ≤ 10000) (hrg : ∀ (t : Nat), t < (prod (absL la2)).toNat → ∀ k : Nat, k < (absL la2).length → 0 ≤ rd (idxL (absL la2) t) (k : Int) ∧ rd (idxL (absL la2) t) (k : Int) < rd (absL la2) (k : Int)) :
    Calls Try.prog 108 #[.agg #[.bool a, .slice Aa1 la1.length ca1, .slice Aa2 la2.length ca2], .agg #[.bool b, .slice Ab1 lb1.length cb1, .slice Ab2 lb2.length cb2]] w fun e w' => ∃ A1 c1 A2 c2, e = .returned (.tuple #[.agg #[.slice A1 ((absL la2) : List Int).length c1, .slice A2 ((fromL lb1 (absL la2) (fun k i => i + rd (stTake lb1 la2) (k : Int)) (prod (absL la2)).toNat) : List Int).length c2], .int .i64 0]) ∧ Kd.C (Kd.int .i64) w' A1 ((absL la2) : List Int).length (absL la2) ∧ ((absL la2) : List Int).length ≤ c1 ∧ Kd.C (Kd.int .i64) w' A2 ((fromL lb1 (absL la2) (fun k i => i + rd (stTake lb1 la2) (k : Int)) (prod (absL la2)).toNat) : List Int).length (fromL lb1 (absL la2) (fun k i => i + rd (stTake lb1 la2) (k : Int)) (prod (absL la2)).toNat) ∧ ((fromL lb1 (absL la2) (fun k i => i + rd (stTake lb1 la2) (k : Int)) (prod (absL la2)).toNat) : List Int).length ≤ c2 ∧ Below w.heap.size w w' := by
  have Ha1 := Aside0.mk ha1
  have Ka1 := Aside0.mk ka1
  clear ha1 ka1
  have Ha2 := Aside0.mk ha2
  have Ka2 := Aside0.mk ka2
  clear ha2 ka2
  have Hb1 := Aside0.mk hb1
  have Kb1 := Aside0.mk kb1
  clear hb1 kb1
  have Hb2 := Aside0.mk hb2
  have Kb2 := Aside0.mk kb2
  clear hb2 kb2
  have HX := Aside0.mk hx
  have HR0 := Aside0.mk hr0
  have HSO := Aside0.mk hso
  have hmk := make_rowN la2.length (by omega)
  have HLS := Aside0.mk (show (absL la2).length ≤ 9223372036854775807 by rw [absL_len]; omega)
  clear hx hr0 hso
  have HSL := Aside0.mk hsl
  have H5 := Aside0.mk h5
  have HP := Aside0.mk hp
  have HRS := Aside0.mk hrs
  have HRB := Aside0.mk hrb
  have HRG := Aside0.mk hrg
  clear hsl h5 hp hrs hrb hrg
  have HS := Aside0.mk (Sx.start w)
  go_enter Try.func108, Try.ntmps108
  go_wp2_with (first | ((with_reducible refine gate_dst (N := 2) rfl ?_); refine box_event ?hg (N := 2) ?hd (cs := #[.bool a, .slice Aa1 la1.length ca1, .slice Aa2 la2.length ca2]) (t := 28) ?hr ?_; (case hd => rfl); (case hg => rfl); (case hr => first | (go_simp; done) | (go_simp; rfl)); intro gK hg1 w1 hx1 hb1; have nS : Aside0 (Sx w w1 [(.blk gK #[.bool a, .slice Aa1 la1.length ca1, .slice Aa2 la2.length ca2] 28)]) := Aside0.mk (HS.out.box hg1 hx1 hb1); clear HS; have HS := nS; clear nS hg1 hx1 hb1) | ((with_reducible refine gate_dst (N := 3) rfl ?_); refine box_event ?hg (N := 3) ?hd (cs := #[.bool b, .slice Ab1 lb1.length cb1, .slice Ab2 lb2.length cb2]) (t := 28) ?hr ?_; (case hd => rfl); (case hg => rfl); (case hr => first | (go_simp; done) | (go_simp; rfl)); intro gB hg2 w2 hx2 hb2; have nS : Aside0 (Sx w w2 [(.blk gB #[.bool b, .slice Ab1 lb1.length cb1, .slice Ab2 lb2.length cb2] 28), (.blk gK #[.bool a, .slice Aa1 la1.length ca1, .slice Aa2 la2.length ca2] 28)]) := Aside0.mk (HS.out.box hg2 hx2 hb2); clear HS; have HS := nS; clear nS hg2 hx2 hb2) | ((with_reducible refine gate_dst (N := 4) rfl ?_); refine box_event ?hg (N := 4) ?hd (cs := #[.slice none 0 0, .slice none 0 0]) (t := 70) ?hr ?_; (case hd => rfl); (case hg => rfl); (case hr => first | (go_simp; done) | (go_simp; rfl)); intro gR hg3 w3 hx3 hb3; have nS : Aside0 (Sx w w3 [(.blk gR #[.slice none 0 0, .slice none 0 0] 70), (.blk gB #[.bool b, .slice Ab1 lb1.length cb1, .slice Ab2 lb2.length cb2] 28), (.blk gK #[.bool a, .slice Aa1 la1.length ca1, .slice Aa2 la2.length ca2] 28)]) := Aside0.mk (HS.out.box hg3 hx3 hb3); clear HS; have HS := nS; clear nS hg3 hx3 hb3) | ((with_reducible refine gate_dst (N := 13) rfl ?_); refine wpList_load_row rfl 28 (.tmp 2) rfl gK rfl 28 #[.bool a, .slice Aa1 la1.length ca1, .slice Aa2 la2.length ca2] (0, 0) _ (HS.out.blk 2 rfl) Try.underlying28 rfl (by kernel_rfl) ?_) | ((with_reducible refine gate_dst (N := 14) rfl ?_); refine wpList_load_row rfl 28 (.tmp 3) rfl gB rfl 28 #[.bool b, .slice Ab1 lb1.length cb1, .slice Ab2 lb2.length cb2] (0, 0) _ (HS.out.blk 1 rfl) Try.underlying28 rfl (by kernel_rfl) ?_) | (go_at_call 128; refine (HX.out _ HS.out.below).mono ?_; rintro e w4 ⟨rfl, hb4⟩; have nS : Aside0 (Sx w w4 [(.blk gR #[.slice none 0 0, .slice none 0 0] 70), (.blk gB #[.bool b, .slice Ab1 lb1.length cb1, .slice Ab2 lb2.length cb2] 28), (.blk gK #[.bool a, .slice Aa1 la1.length ca1, .slice Aa2 la2.length ca2] 28)]) := Aside0.mk (HS.out.step hb4); clear HS; have HS := nS; clear nS hb4) | ((with_reducible refine gate_store rfl ?_); refine store_named rfl 28 (.tmp 3) (.tmp 16) rfl gB #[.bool b, .slice Ab1 lb1.length cb1, .slice Ab2 lb2.length cb2] rfl rfl 28 #[.bool b, .slice Ab1 lb1.length cb1, .slice Ab2 lb2.length cb2] (HS.out.blk 1 rfl) (by kernel_rfl) rfl (by simp [Value.oneCell']) ?_; intro w5 hx5 hb5; have nS : Aside0 (Sx w w5 [(.blk gR #[.slice none 0 0, .slice none 0 0] 70), (.blk gB #[.bool b, .slice Ab1 lb1.length cb1, .slice Ab2 lb2.length cb2] 28), (.blk gK #[.bool a, .slice Aa1 la1.length ca1, .slice Aa2 la2.length ca2] 28)]) := Aside0.mk (HS.out.put 1 rfl hx5 hb5); clear HS; have HS := nS; clear nS hx5 hb5) | ((with_reducible refine gate_dst (N := 23) rfl ?_); refine ev_load rfl 22 (.tmp 22) rfl ⟨gK, 2, none⟩ rfl (.slice Aa2 la2.length ca2) ((blk_cell (HS.out.blk 2 rfl) 2).trans rfl) (by kernel_rfl) ?_) | ((with_reducible refine gate_dst (N := 25) rfl ?_); refine lit_event ?hg (N := 25) ?hd (cs := (rowI (List.replicate la2.length 0))) (t := 3) (n := la2.length) ?hr ?_; (case hd => rfl); (case hg => rfl); (case hr => first | (go_simp; done) | (go_simp; rfl)); intro gS hg6 w6 hx6 hb6; have nS : Aside0 (Sx w w6 [(.blk gS (rowI (List.replicate la2.length 0)) 3), (.blk gR #[.slice none 0 0, .slice none 0 0] 70), (.blk gB #[.bool b, .slice Ab1 lb1.length cb1, .slice Ab2 lb2.length cb2] 28), (.blk gK #[.bool a, .slice Aa1 la1.length ca1, .slice Aa2 la2.length ca2] 28)]) := Aside0.mk (HS.out.box hg6 hx6 hb6); clear HS; have HS := nS; clear nS hg6 hx6 hb6) | ((with_reducible refine gate_dst (N := 27) rfl ?_); refine ev_load rfl 22 (.tmp 26) rfl ⟨gK, 2, none⟩ rfl (.slice Aa2 la2.length ca2) ((blk_cell (HS.out.blk 3 rfl) 2).trans rfl) (by kernel_rfl) ?_))
  go_loopw [8, 9, 29] (fun _ _ z wr => ∃ j : Nat, z = .int .i64 (j : Int) ∧ Aside0 (j ≤ la2.length) ∧ Aside0 (Sx w wr [(.blk gS (rowI (absL (la2.take j) ++ List.replicate (la2.length - j) 0)) 3), (.blk gR #[.slice none 0 0, .slice none 0 0] 70), (.blk gB #[.bool b, .slice Ab1 lb1.length cb1, .slice Ab2 lb2.length cb2] 28), (.blk gK #[.bool a, .slice Aa1 la1.length ca1, .slice Aa2 la2.length ca2] 28)])) (fun _ _ z _ => la2.length - (intOf z).toNat)
  case atStart => exact ⟨0, rfl, ⟨Nat.zero_le _⟩, ⟨by simpa [absL] using HS.out⟩⟩
  case round =>
    clear HS
    obtain ⟨j, rfl, hj, HS⟩ := hrel
    by_cases hlt : j < la2.length
    · obtain ⟨ad, rfl, y1⟩ := Kd.at_int (Kd.C_below Ha2.out HS.out.below) (j : Int) (by omega) (by omega)
      rw [Int.toNat_natCast] at y1
      have HT := Aside0.mk (take_snocI la2 j hlt)
      have hb := HR0.out _ (rd_mem' la2 j hlt)
      obtain ⟨n, hne⟩ : ∃ n, n = rd la2 (j : Int) := ⟨_, rfl⟩
      rw [← hne] at y1 HT hb
      have HABS := Aside0.mk (abs_eq n hb.1 hb.2)
      have p0 : 0 ≤ (j : Int) := by omega
      have p1 : (j : Int) < (la2.length : Int) := by omega
      have HL := Aside0.mk (show j < (absL (la2.take j) ++ List.replicate (la2.length - j) 0).length by simp [absL]; omega)
      clear hne hb
      go_wp2_with (first | (go_at_call 129; refine (impl_absolute.calls n (if n < 0 then -n else n) _ HABS.out).mono ?_; rintro e wr1 ⟨rfl, hbr1⟩; have nS : Aside0 (Sx w wr1 [(.blk gS (rowI (absL (la2.take j) ++ List.replicate (la2.length - j) 0)) 3), (.blk gR #[.slice none 0 0, .slice none 0 0] 70), (.blk gB #[.bool b, .slice Ab1 lb1.length cb1, .slice Ab2 lb2.length cb2] 28), (.blk gK #[.bool a, .slice Aa1 la1.length ca1, .slice (some ad) la2.length ca2] 28)]) := Aside0.mk (HS.out.step hbr1); clear HS; have HS := nS; clear nS hbr1) | ((with_reducible refine gate_store rfl ?_); refine ev_store_row rfl 3 (.tmp 38) (.tmp 37) rfl gS j rfl (if n < 0 then -n else n) rfl (absL (la2.take j) ++ List.replicate (la2.length - j) 0) (HS.out.blk 0 rfl) HL.out (by kernel_rfl) ?_; intro wz hxz hbz; have nS : Aside0 (Sx w wz [(.blk gS (rowI ((absL (la2.take j) ++ List.replicate (la2.length - j) 0).set j (if n < 0 then -n else n))) 3), (.blk gR #[.slice none 0 0, .slice none 0 0] 70), (.blk gB #[.bool b, .slice Ab1 lb1.length cb1, .slice Ab2 lb2.length cb2] 28), (.blk gK #[.bool a, .slice Aa1 la1.length ca1, .slice (some ad) la2.length ca2] 28)]) := Aside0.mk (HS.out.put 0 rfl hxz hbz); clear HS; have HS := nS; clear nS hxz hbz))
      go_roundw
      case rel =>
        refine ⟨j + 1, by push_cast; rfl, ⟨hlt⟩, ⟨?_⟩⟩
        have hq : absL (la2.take (j + 1)) = absL (la2.take j) ++ [if n < 0 then -n else n] := by rw [HT.out]; simp [absL]
        have h := fill_next (absL (la2.take j)) (if n < 0 then -n else n) la2.length j (by simp [absL]; omega) hlt
        rw [hq, ← h]
        exact HS.out
      case measure => simp [intOf]; omega
    · obtain rfl : j = la2.length := by have := hj.out; omega
      have HS' : Aside0 (Sx w wr [(.blk gS (rowI (absL la2)) 3), (.blk gR #[.slice none 0 0, .slice none 0 0] 70), (.blk gB #[.bool b, .slice Ab1 lb1.length cb1, .slice Ab2 lb2.length cb2] 28), (.blk gK #[.bool a, .slice Aa1 la1.length ca1, .slice Aa2 la2.length ca2] 28)]) := Aside0.mk (by have := HS.out; simpa [absL, List.take_length] using this)
      clear HS
      have HS := HS'
      clear HS'
      go_wp2_with (first | (go_at_call 94; refine (shapeOk_n ks gS la2.length (absL la2) (prod (absL la2), true) _ (rowI_C (HS.out.blk 0 rfl) HLS.out) (absL_len la2) HSO.out).mono ?_; rintro e wz1 ⟨rfl, hbz1⟩; have nS : Aside0 (Sx w wz1 [(.blk gS (rowI (absL la2)) 3), (.blk gR #[.slice none 0 0, .slice none 0 0] 70), (.blk gB #[.bool b, .slice Ab1 lb1.length cb1, .slice Ab2 lb2.length cb2] 28), (.blk gK #[.bool a, .slice Aa1 la1.length ca1, .slice Aa2 la2.length ca2] 28)]) := Aside0.mk (HS.out.step hbz1); clear HS; have HS := nS; clear nS hbz1) | ((with_reducible refine gate_dst (N := 48) rfl ?_); refine wpList_load_row rfl 28 (.tmp 3) rfl gB rfl 28 #[.bool b, .slice Ab1 lb1.length cb1, .slice Ab2 lb2.length cb2] (0, 0) _ (HS.out.blk 2 rfl) Try.underlying28 rfl (by kernel_rfl) ?_) | (go_at_call 105; refine (callsIn_wide.1 (axis_n b Ab1 lb1.length cb1 lb1 Ab2 cb2 lb2 gS la2.length (absL la2) 133 #[.pointer (some ⟨gK, 0, none⟩), .pointer (some ⟨gB, 0, none⟩)] (fun k i => i + rd (stTake lb1 la2) (k : Int)) (enters_of Try.func133 (by kernel_rfl) rfl) _ (Kd.C_below Hb1.out HS.out.below) Kb1.out rfl (rowI_C (HS.out.blk 0 rfl) HLS.out) (absL_len la2) HSL.out H5.out HP.out ks HSO.out (take_gives gK gB a Aa1 _ ca1 Aa2 ca2 la2 b Ab1 _ cb1 lb1 Ab2 _ cb2 (absL la2) _ (HS.out.blk 3 rfl) (HS.out.blk 2 rfl) rfl (Kd.C_below Ha2.out HS.out.below) (Kd.C_below Hb1.out HS.out.below) HSL.out (absL_len la2) HRS.out HRB.out HR0.out) HRG.out)).mono ?_; rintro e wz2 ⟨v, rfl, hrz2, hbz2⟩; obtain ⟨Av, cv, rfl⟩ := Kd.R_slice hrz2; have nS : Aside0 (Sx w wz2 [(.row (.slice Av (fromL lb1 (absL la2) (fun k i => i + rd (stTake lb1 la2) (k : Int)) (prod (absL la2)).toNat).length cv) (fromL lb1 (absL la2) (fun k i => i + rd (stTake lb1 la2) (k : Int)) (prod (absL la2)).toNat)), (.blk gS (rowI (absL la2)) 3), (.blk gR #[.slice none 0 0, .slice none 0 0] 70), (.blk gB #[.bool b, .slice Ab1 lb1.length cb1, .slice Ab2 lb2.length cb2] 28), (.blk gK #[.bool a, .slice Aa1 la1.length ca1, .slice Aa2 la2.length ca2] 28)]) := Aside0.mk (HS.out.addRow hbz2 hrz2); clear HS; have HS := nS; clear nS hbz2 hrz2) | ((with_reducible refine gate_store rfl ?_); refine store_named rfl 70 (.tmp 4) (.tmp 51) rfl gR #[.slice (some ⟨gS, 0, none⟩) la2.length la2.length, .slice Av (fromL lb1 (absL la2) (fun k i => i + rd (stTake lb1 la2) (k : Int)) (prod (absL la2)).toNat).length cv] rfl rfl 70 #[.slice none 0 0, .slice none 0 0] (HS.out.blk 2 rfl) (by kernel_rfl) rfl (by simp [Value.oneCell']) ?_; intro wz3 hxz3 hbz3; have nS : Aside0 (Sx w wz3 [(.row (.slice Av (fromL lb1 (absL la2) (fun k i => i + rd (stTake lb1 la2) (k : Int)) (prod (absL la2)).toNat).length cv) (fromL lb1 (absL la2) (fun k i => i + rd (stTake lb1 la2) (k : Int)) (prod (absL la2)).toNat)), (.blk gS (rowI (absL la2)) 3), (.blk gR #[.slice (some ⟨gS, 0, none⟩) la2.length la2.length, .slice Av (fromL lb1 (absL la2) (fun k i => i + rd (stTake lb1 la2) (k : Int)) (prod (absL la2)).toNat).length cv] 70), (.blk gB #[.bool b, .slice Ab1 lb1.length cb1, .slice Ab2 lb2.length cb2] 28), (.blk gK #[.bool a, .slice Aa1 la1.length ca1, .slice Aa2 la2.length ca2] 28)]) := Aside0.mk (HS.out.put 2 rfl hxz3 hbz3); clear HS; have HS := nS; clear nS hxz3 hbz3))
      refine bodyPost_ret (results_ct rfl _ _ gR 70 #[.slice (some ⟨gS, 0, none⟩) la2.length la2.length, .slice Av (fromL lb1 (absL la2) (fun k i => i + rd (stTake lb1 la2) (k : Int)) (prod (absL la2)).toNat).length cv] (0, 0) _ rfl (HS.out.blk 2 rfl) Try.underlying70 rfl (by kernel_rfl)) rfl ?_
      exact ⟨some ⟨gS, 0, none⟩, la2.length, Av, cv, by rw [absL_len]; rfl, rowI_C (HS.out.blk 1 rfl) HLS.out, by rw [absL_len]; exact Nat.le_refl _, HS.out.C 0 rfl, HS.out.cap 0 rfl, HS.out.below⟩
end Go.Proofs.Ytehfcnndjhjkoaa.PA
