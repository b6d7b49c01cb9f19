import Derived.Test.YtipjhbngbaifeaaKFnExactCutView2
import Derived.WalkSpells
import Derived.ChangeKeysEq
import Derived.Stop.BytesEq
import Derived.Deep.RegionHeld3
import Derived.Deep.DeepCutAuto
import Derived.Deep.RegionLaw

namespace Go.Proofs.Ytipjhbngbaifeaa.PA
open Go.RowKit Go.Proofs.YtipjhbngbaifeaaW.PrintWords Go.Proofs.YtipjhbngbaifeaaW.PrintLast Go.Proofs.YtipjhbngbaifeaaW.PrintMore
set_option linter.unusedVariables false
set_option linter.unusedSimpArgs false
def slices_Clone_int_int.f (l0 : List Int) : Option (List Int) := if l0.length < 17592186044416 then some l0 else none
set_option maxHeartbeats 1000000 in
set_option maxRecDepth 100000 in
theorem slices_Clone_int_int.calls (A0 : Option Addr) (c0 : Nat) (l0 : List Int) (r : List Int) (w : World) (hr0 : Kd.C (Kd.int .i64) w A0 l0.length l0) (hc0 : l0.length ≤ c0) (h : slices_Clone_int_int.f l0 = some r) :
    Calls Try.prog 57 #[.slice A0 l0.length c0] w fun e w' => ∃ v0_ : Value, e = .returned (v0_) ∧ Kd.R (Kd.int .i64) 3 w' w.heap.size (fun _ => True) v0_ r ∧ Below w.heap.size w w' := by
  have HR0 := Aside0.mk hr0
  have HC0 := Aside0.mk hc0
  clear hr0 hc0
  have HB := Aside0.mk (Below.refl w.heap.size w)
  unfold slices_Clone_int_int.f at h
  by_cases c2 : l0.length < 17592186044416
  · rw [if_pos c2] at h
    obtain rfl := Option.some.inj h
    clear h
    have LM := Aside0.mk c2
    clear c2
    cases A0 with
    | none =>
      have hl : l0 = [] := by
        rcases Nat.eq_zero_or_pos l0.length with e | e
        · exact List.eq_nil_of_length_eq_zero e
        · obtain ⟨ad, e, _⟩ := HR0.out.2.2 e; cases e
      have hnil := fun (W : World) (n c : Nat) => Lib.run_eql_slice_nil (P := Try.prog) W 23 3 none n c 0 0 Try.underlying23
      go_enter Try.func57, Try.ntmps57
      go_wp2
      go_ret
      exact ⟨_, rfl, by rw [hl]; exact Kd.R_nil _ _ _ _ _, HB.out⟩
    | some ad =>
      have hnil := fun (W : World) (n c : Nat) => Lib.run_eql_slice_nil (P := Try.prog) W 23 3 (some ad) n c 0 0 Try.underlying23
      go_enter Try.func57, Try.ntmps57
      go_wp2_with (first | ((with_reducible refine gate_dst (N := 5) rfl ?_); refine Kd.R_lit (Kd.int .i64) _ 3 ?hg (N := 5) ?hd (xs := ([] : List Int)) (inner := []) (ok := fun _ => True) (okp := fun _ => True) ?hr ?hp (fun _ hk => hk) trivial (Below.refl _ _) (Nat.le_refl _) (by simp) ?_; (case hd => rfl); (case hg => rfl); (case hr => first | (go_simp; done) | (go_simp; rfl)); (case hp => exact (Reps.none _ _)); intro v102 w3 ho4 hb hg_ hnew_; clear hg_ hnew_; have n0_ := Aside0.mk (Kd.R_lower ho4 (below_size (by repeat (first | (with_reducible first | exact HB.out | apply below_alloc | apply pw_below_drewN | apply below_drew1) | exact HB.out)))); have n1_ := Aside0.mk (below_step (by repeat (first | (with_reducible first | exact HB.out | apply below_alloc | apply pw_below_drewN | apply below_drew1) | exact HB.out)) hb); clear HB; have HO103 := n0_; have HB := n1_; clear n0_ n1_; clear hb ho4) | ((with_reducible refine gate_builtin (b := .append) (xs := #[.tmp 5, .tmp 6]) rfl ?_); at_builtin; refine Kd.R_append_rows (Kd.int .i64) (w0 := w) w.heap.size rfl (.tmp 5) (.tmp 6) 23 3 (.int .i64 0) 8 rfl Try.underlying23 info3 rfl (by decide) (by omega) v102 ([] : List Int) l0 _ _ _ (fun _ => True) (fun _ => False) rfl rfl ?aO ?aR (fun _ _ h => h) (fun _ h => h.elim) ?aF ?aB ?aS ?aL ?_; (case aR => repeat (first | exact (Kd.C_below HR0.out HB.out) | (with_reducible refine Kd.C_alloc ?_ _) | (with_reducible refine Kd.C_drewN ?_ _) | (with_reducible refine Kd.C_drew ?_))); (case aB => exact (by repeat (first | (with_reducible first | exact HB.out | apply below_alloc | apply pw_below_drewN | apply below_drew1) | exact HB.out))); (case aF => exact (fun _ _ => trivial)); (case aO => exact (by (with_reducible repeat (first | apply Kd.R_alloc | apply Kd.R_drewN | apply Kd.R_drew)); exact HO103.out)); (case aS => exact (below_size (by repeat (first | (with_reducible first | exact HB.out | apply below_alloc | apply pw_below_drewN | apply below_drew1) | exact HB.out)))); (case aL => have := LM.out; simp only [List.length_nil]; omega); intro v105 w5 ho hb hg hat; rw [List.nil_append] at ho; have n0_ := Aside0.mk (hb); have n1_ := Aside0.mk (ho); clear HB; clear HO103; have HB := n0_; have HO106 := n1_; clear n0_ n1_; clear ho hb hg hat))
      go_ret
      exact ⟨_, rfl, HO106.out, HB.out⟩
  · rw [if_neg c2] at h; cases h
end Go.Proofs.Ytipjhbngbaifeaa.PA

namespace Go.Proofs.Ytipjhbngbaifeaa.PA
set_option linter.unusedVariables false
set_option linter.unusedSimpArgs false
open Go.RowKit Go.Proofs.YtipjhbngbaifeaaW.PrintWords Go.Proofs.YtipjhbngbaifeaaW.PrintLast Go.Proofs.YtipjhbngbaifeaaW.PrintMore
theorem eqItems_run (W : World) (d : Nat) (xs ys : List Int) (n : Nat) (hx : xs.length = n) (hy : ys.length = n) : ∀ is : List Nat, (∀ i ∈ is, i < n) →
    (Op.eqItems (d + 1) 3 1 (lay xs) (lay ys) is).run Try.prog W = .ok (is.all fun i => gi xs i == gi ys i) W
  | [], _ => by simp [Op.eqItems]
  | i :: is, h => by
    have hi : i < n := h i (by simp)
    have px : (part 3 (lay xs) (i * 1)).run Try.prog W = .ok (.int .i64 (gi xs i)) W := by
      have := lay_get xs i (by omega)
      simp [part, isAgg, run_underlying Try.underlying3, this]
    have py : (part 3 (lay ys) (i * 1)).run Try.prog W = .ok (.int .i64 (gi ys i)) W := by
      have := lay_get ys i (by omega)
      simp [part, isAgg, run_underlying Try.underlying3, this]
    have ih := eqItems_run W d xs ys n hx hy is (fun j hj => h j (by simp [hj]))
    have pe : (Op.equalIn (d + 1) 3 (.int .i64 (gi xs i)) (.int .i64 (gi ys i))).run Try.prog W = .ok (gi xs i == gi ys i) W := by
      rw [run_equalIn_int W d 3 .i64 .i64 _ _ Try.underlying3]
    simp only [Op.eqItems, Sem.run_bind, px, py, pe, Result.andThen_ok, List.all_cons]
    cases hb : (gi xs i == gi ys i)
    · simp
    · simp only [Bool.not_true, Bool.false_eq_true, if_false, Bool.true_and]; exact ih
theorem list5 (xs ys : List Int) (hx : xs.length = 5) (hy : ys.length = 5) : ((List.range 5).all fun i => gi xs i == gi ys i) = (xs == ys) := by
  match xs, hx, ys, hy with
  | [a, b, c, d, e], _, [a', b', c', d', e'], _ => simp [gi, List.range, List.range.loop]
theorem eq_arr (W : World) (d : Nat) (xs ys : List Int) (hx : xs.length = 5) (hy : ys.length = 5) : (Op.equalIn (d + 2) 65 (.agg (lay xs)) (.agg (lay ys))).run Try.prog W = .ok (xs == ys) W := by
  obtain ⟨i, hi, hz⟩ := Option.map_eq_some_iff.1 info3
  rw [run_equalIn_array W (d + 1) (lay xs) (lay ys) Try.underlying65 hi, show Try.prog.cellsOf 3 = 1 by kernel_rfl]
  rw [eqItems_run W d xs ys 5 hx hy _ (by simp), list5 xs ys hx hy]
theorem part_arr (W : World) (l : List Int) (hl : l.length = 12) (o : Nat) (ho : o + 5 ≤ 12) : (part 65 (lay l) o).run Try.prog W = .ok (.agg (lay ((l.drop o).take 5))) W := by
  have he : (lay l).extract o (o + 5) = lay ((l.drop o).take 5) := by
    apply Array.ext_getElem?; intro j
    simp [lay, List.getElem?_take, List.getElem?_drop]
  simp [part, isAgg, run_underlying Try.underlying65, he]
theorem part_int (W : World) (l : List Int) (o : Nat) (ho : o < l.length) : (part 3 (lay l) o).run Try.prog W = .ok (.int .i64 (gi l o)) W := by
  have := lay_get l o ho
  simp [part, isAgg, run_underlying Try.underlying3, this]
theorem list12 (l m : List Int) (hl : l.length = 12) (hm : m.length = 12) :
    ((gi l 0 == gi m 0) && ((gi l 1 == gi m 1) && (((l.drop 2).take 5 == (m.drop 2).take 5) && ((l.drop 7).take 5 == (m.drop 7).take 5)))) = (l == m) := by
  match l, hl, m, hm with
  | [a0, a1, a2, a3, a4, a5, a6, a7, a8, a9, a10, a11], _, [b0, b1, b2, b3, b4, b5, b6, b7, b8, b9, b10, b11], _ => simp [gi, Bool.and_assoc]
/-- Two layouts are compared number by number. -/
theorem eq_lay (l m : List Int) (hl : l.length = 12) (hm : m.length = 12) (W : World) : (Op.equalIn 10000 67 (.agg (lay l)) (.agg (lay m))).run Try.prog W = .ok (l == m) W := by
  rw [← list12 l m hl hm]
  refine eqA_of Try.underlying67 (by kernel_rfl) ?_
  refine eqf_cons (by rfl) (part_int W l 0 (by omega)) (part_int W m 0 (by omega)) (run_equalIn_int W _ 3 .i64 .i64 _ _ Try.underlying3) ?_
  refine eqf_cons (by rfl) (part_int W l 1 (by omega)) (part_int W m 1 (by omega)) (run_equalIn_int W _ 3 .i64 .i64 _ _ Try.underlying3) ?_
  refine eqf_cons (by rfl) (part_arr W l hl 2 (by omega)) (part_arr W m hm 2 (by omega)) (eq_arr W _ _ _ (by simp; omega) (by simp; omega)) ?_
  refine eqf_last (by rfl) (part_arr W l hl 7 (by omega)) (part_arr W m hm 7 (by omega)) (eq_arr W _ _ _ (by simp; omega) (by simp; omega))
end Go.Proofs.Ytipjhbngbaifeaa.PA

namespace Go.Proofs.Ytipjhbngbaifeaa.PA
open Go.RowKit Go.Proofs.YtipjhbngbaifeaaW.PrintWords Go.Proofs.YtipjhbngbaifeaaW.PrintLast Go.Proofs.YtipjhbngbaifeaaW.PrintMore
set_option linter.unusedVariables false
set_option linter.unusedSimpArgs false
theorem slice_arr (a : Addr) (r : Nat) (h : r ≤ 5) (W : World) : (Instr.sliceAt 65 (.pointer (some a)) none (some (.int .i64 (r : Int))) none).run Try.prog W = .ok (.slice (some a) r 5) W := by
  have hal : Try.prog.arrayLen 65 = 5 := by kernel_rfl
  have hel : Try.prog.elem 65 = 3 := by kernel_rfl
  have := run_sliceAt_array_h (P := Try.prog) (w := W) 65 a (by kernel_rfl) .i64 (r : Int) (by omega) (by rw [hal]; omega)
  rw [hal, hel] at this
  obtain ⟨i, hi, hz⟩ := Option.map_eq_some_iff.1 info3
  rw [this]
  simp [sizeOf, typeInfo, hi, slicedAt, Addr.add]
theorem clone_at (A0 : Option Addr) (n c0 : Nat) (l0 : List Int) (hn : l0.length = n) (w : World) (hr0 : Kd.C (Kd.int .i64) w A0 l0.length l0) (hc0 : n ≤ c0) (hb : n < 17592186044416) :
    Calls Try.prog 57 #[.slice A0 n c0] w fun e w' => ∃ v0_ : Value, e = .returned (v0_) ∧ Kd.R (Kd.int .i64) 3 w' w.heap.size (fun _ => True) v0_ l0 ∧ Below w.heap.size w w' := by
  subst hn
  exact slices_Clone_int_int.calls A0 c0 l0 l0 w hr0 hc0 (by simp [slices_Clone_int_int.f, hb])
theorem lay_reads {w : World} {g : Nat} {t : TypeId} {l : List Int} (h : w.heap[g]? = some (.cells (lay l) t (0, 0))) (o r : Nat) (hr : o + r ≤ l.length) (hm : l.length ≤ 9223372036854775807) :
    Kd.C (Kd.int .i64) w (some ⟨g, o, none⟩) ((l.drop o).take r).length ((l.drop o).take r) := by
  have hlen : ((l.drop o).take r).length = r := by simp; omega
  refine Kd.C_of_reads (d := (0 : Int)) (h1 := fun _ => rfl) ⟨rfl, by omega, fun _ => ⟨_, rfl, fun j hj => ?_⟩⟩
  have ha : (⟨g, o, none⟩ : Addr).add j = ⟨g, o + j, none⟩ := by unfold Addr.add; split <;> simp_all
  rw [ha, lay_cell h (o + j) (by omega)]
  simp only [gi, List.getD_eq_getElem?_getD, List.getElem?_take, List.getElem?_drop]
  rw [if_pos (by omega)]
/-- What the first statement of 'view' leaves: the view's block and its two rows. -/
def ViewMade (w : World) (l l2 : List Int) (r g1 g2 g3 : Nat) (v : Value) (W : World) : Prop :=
  ∃ (G : Nat) (Aa Ab : Option Addr) (ca cb : Nat), v = .pointer (some ⟨G, 0, none⟩) ∧ W.heap[G]? = some (.cells #[.int .i64 (gi l 0), .slice Aa r ca, .slice Ab r cb] 33 (0, 0)) ∧ g3 < G ∧
    W.heap[g1]? = some (.cells (lay l) 67 (0, 0)) ∧ W.heap[g2]? = some (.cells (lay l2) 67 (0, 0)) ∧ W.heap[g3]? = some (.cells #[.int .i64 0, .slice none 0 0, .slice none 0 0] 33 (0, 0)) ∧
    Kd.R (Kd.int .i64) 3 W w.heap.size (fun k_ => some k_ ≠ (Value.slice Ab r cb).ownBlock) (.slice Aa r ca) ((l.drop 2).take r) ∧ Kd.R (Kd.int .i64) 3 W w.heap.size (fun k_ => some k_ ≠ (Value.slice Aa r ca).ownBlock) (.slice Ab r cb) ((l.drop 7).take r) ∧ Below w.heap.size w W
theorem R_setV {w : World} {base g : Nat} {ok : Nat → Prop} {v : Value} {xs : List Int} {cells : Array Value} (h : (Kd.int .i64).R 3 w base ok v xs) (hb : w.heap[g]? = some (.cells cells 33 (0, 0))) (j : Nat) (u : Value) : (Kd.int .i64).R 3 (w.setCell ⟨g, j, none⟩ u) base ok v xs :=
  Kd.R_set h hb (by intro q hq; simp [Kd.int, Kd.scalar] at hq; omega) j u
theorem R_rowV {w : World} {base g : Nat} {ok : Nat → Prop} {v : Value} {xs : List Int} {cells : Array Value} (h : (Kd.int .i64).R 3 w base ok v xs) (hb : w.heap[g]? = some (.cells cells 33 (0, 0))) (cs : Array Value) : (Kd.int .i64).R 3 (w.setRow g cs) base ok v xs :=
  Kd.R_mono (Kd.R_step (Kd.R_types h hb (by intro q hq; simp [Kd.int, Kd.scalar] at hq; omega)) (fun k hk _ => setRow_other w g k cs hk.2)) (fun _ hk => hk.1)
theorem vmA {w W : World} {l l2 : List Int} {r g1 g2 g3 : Nat} {Aa Ab : Option Addr} {ca cb : Nat} (h1 : W.heap[g1]? = some (.cells (lay l) 67 (0, 0))) (h2 : W.heap[g2]? = some (.cells (lay l2) 67 (0, 0)))
    (h3 : W.heap[g3]? = some (.cells #[.int .i64 0, .slice none 0 0, .slice none 0 0] 33 (0, 0)))
    (R1 : Kd.R (Kd.int .i64) 3 W w.heap.size (fun k_ => True ∧ some k_ ≠ (Value.slice Ab r cb).ownBlock) (.slice Aa r ca) ((l.drop 2).take r)) (R2 : Kd.R (Kd.int .i64) 3 W w.heap.size (fun k_ => True ∧ some k_ ≠ (Value.slice Aa r ca).ownBlock) (.slice Ab r cb) ((l.drop 7).take r)) (hW : Below w.heap.size w W) :
    ViewMade w l l2 r g1 g2 g3 (.pointer (some ⟨W.heap.size, 0, none⟩)) (W.alloc (.cells #[.int .i64 (gi l 0), .slice Aa r ca, .slice Ab r cb] 33)) :=
  ⟨_, Aa, Ab, ca, cb, rfl, blk_new _ _, blk_lt h3, blk_alloc h1 _, blk_alloc h2 _, blk_alloc h3 _, Kd.R_mono (Kd.R_alloc R1 _) (fun _ h => h.2), Kd.R_mono (Kd.R_alloc R2 _) (fun _ h => h.2), below_alloc hW _⟩
theorem vmB {w W : World} {l l2 : List Int} {r g1 g2 g3 G : Nat} {Aa Ab : Option Addr} {ca cb : Nat} (hG : W.heap[G]? = some (.cells #[.int .i64 0, .slice none 0 0, .slice none 0 0] 33 (0, 0))) (n1 : g1 ≠ G) (n2 : g2 ≠ G) (n3 : g3 < G) (hge : w.heap.size ≤ G)
    (h1 : W.heap[g1]? = some (.cells (lay l) 67 (0, 0))) (h2 : W.heap[g2]? = some (.cells (lay l2) 67 (0, 0)))
    (h3 : W.heap[g3]? = some (.cells #[.int .i64 0, .slice none 0 0, .slice none 0 0] 33 (0, 0)))
    (R1 : Kd.R (Kd.int .i64) 3 W w.heap.size (fun k_ => True ∧ some k_ ≠ (Value.slice Ab r cb).ownBlock) (.slice Aa r ca) ((l.drop 2).take r)) (R2 : Kd.R (Kd.int .i64) 3 W w.heap.size (fun k_ => True ∧ some k_ ≠ (Value.slice Aa r ca).ownBlock) (.slice Ab r cb) ((l.drop 7).take r)) (hW : Below w.heap.size w W) :
    ViewMade w l l2 r g1 g2 g3 (.pointer (some ⟨G, 0, none⟩)) (((W.setCell ⟨G, 0, none⟩ (.int .i64 (gi l 0))).setCell ⟨G, 1, none⟩ (.slice Aa r ca)).setCell ⟨G, 2, none⟩ (.slice Ab r cb)) := by
  have s0 := blk_set hG 0 (.int .i64 (gi l 0))
  have s1 := blk_set s0 1 (.slice Aa r ca)
  have s2 := blk_set s1 2 (.slice Ab r cb)
  have n3' : g3 ≠ G := by omega
  refine ⟨G, Aa, Ab, ca, cb, rfl, by simpa using s2, n3, blk_farG (blk_farG (blk_farG h1 n1 _) n1 _) n1 _, blk_farG (blk_farG (blk_farG h2 n2 _) n2 _) n2 _, blk_farG (blk_farG (blk_farG h3 n3' _) n3' _) n3' _, Kd.R_mono (R_setV (R_setV (R_setV R1 hG 0 _) s0 1 _) s1 2 _) (fun _ h => h.2), Kd.R_mono (R_setV (R_setV (R_setV R2 hG 0 _) s0 1 _) s1 2 _) (fun _ h => h.2), below_set (below_set (below_set hW hge) hge) hge⟩
set_option maxHeartbeats 1000000 in
set_option maxRecDepth 100000 in
theorem view_same (l : List Int) (r : Nat) (hl : l.length = 12) (hr : gi l 1 = (r : Int)) (h5 : r ≤ 5) (w : World) :
    Calls Try.prog 72 #[.agg (lay l), .agg (lay l)] w fun e w' => ∃ v1_ v2_ : Value, e = .returned (.tuple #[.agg #[.int .i64 (gi l 0), v1_, v2_], .bool true]) ∧ Kd.R (Kd.int .i64) 3 w' w.heap.size (fun k_ => some k_ ≠ (v2_ : Value).ownBlock) v1_ ((l.drop 2).take r) ∧ Kd.R (Kd.int .i64) 3 w' w.heap.size (fun k_ => some k_ ≠ (v1_ : Value).ownBlock) v2_ ((l.drop 7).take r) ∧ Below w.heap.size w w' := by
  have HL := Aside0.mk hl
  have HR := Aside0.mk hr
  clear hl hr
  go_enter Try.func72, Try.ntmps72
  go_upto_region 1 with (first | ((with_reducible refine gate_dst (N := 2) rfl ?_); refine box_event ?hg (N := 2) ?hd (cs := lay l) (t := 67) ?hr ?_; (case hd => rfl); (case hg => rfl); (case hr => first | (go_simp; done) | (go_simp; rfl)); intro g1 hg1 w1 hb1 hB1; have HB1 := Aside0.mk hb1; have HW := Aside0.mk hB1; have HG1 := Aside0.mk hg1; clear hb1 hB1 hg1) | ((with_reducible refine gate_dst (N := 3) rfl ?_); refine box_event ?hg (N := 3) ?hd (cs := lay l) (t := 67) ?hr ?_; (case hd => rfl); (case hg => rfl); (case hr => first | (go_simp; done) | (go_simp; rfl)); intro g2 hg2 w2 hb2 hB2; have HB2 := Aside0.mk hb2; have nw := Aside0.mk (below_step HW.out hB2); have HG2 := Aside0.mk (show g1 < g2 by have := blk_lt HB1.out; omega); have n1 := Aside0.mk (blk_below HB1.out hB2); clear HB1 HW; have HB1 := n1; have HW := nw; clear n1 nw; clear hb2 hB2 hg2) | ((with_reducible refine gate_dst (N := 4) rfl ?_); refine box_event ?hg (N := 4) ?hd (cs := #[.int .i64 0, .slice none 0 0, .slice none 0 0]) (t := 33) ?hr ?_; (case hd => rfl); (case hg => rfl); (case hr => first | (go_simp; done) | (go_simp; rfl)); intro g3 hg3 w3 hb3 hB3; have HB3 := Aside0.mk hb3; have nw := Aside0.mk (below_step HW.out hB3); have HG3 := Aside0.mk (show g2 < g3 by have := blk_lt HB2.out; omega); have n1 := Aside0.mk (blk_below HB1.out hB3); have n2 := Aside0.mk (blk_below HB2.out hB3); clear HB1 HB2 HW; have HB1 := n1; have HB2 := n2; have HW := nw; clear n1 n2 nw; clear hb3 hB3 hg3))
  have hs1 := slice_arr ⟨g1, 2, none⟩ r h5
  have hs2 := slice_arr ⟨g1, 7, none⟩ r h5
  have hc0 := lay_cell HB1.out 0 (by have := HL.out; omega)
  have hc1 : w3.cell? ⟨g1, 1, none⟩ = some (.int .i64 (r : Int)) := by rw [← HR.out]; exact lay_cell HB1.out 1 (by have := HL.out; omega)
  have HN1_3 := Aside0.mk (Nat.ne_of_lt (blk_lt HB1.out))
  have HN2_3 := Aside0.mk (Nat.ne_of_lt (blk_lt HB2.out))
  have HN3_3 := Aside0.mk (Nat.ne_of_lt (blk_lt HB3.out))
  have HLT3 := Aside0.mk (blk_lt HB3.out)
  have HGE3 := Aside0.mk (below_size HW.out)
  go_cut [6] (fun v W => ViewMade w l l r g1 g2 g3 v W)
  case first =>
    go_region_held3 (fun w' => w'.cell? ⟨g1, 0, none⟩ = some (.int .i64 (gi l 0)) ∧ w'.cell? ⟨g1, 1, none⟩ = some (.int .i64 (r : Int))) (exact ⟨lay_cell (t := 67) (by (with_reducible repeat (first | refine blk_drew ?_ | refine blk_alloc ?_ _ | refine blk_farG ?_ HN1_5.out _ | refine blk_farG ?_ HN2_5.out _ | refine blk_farG ?_ HN3_5.out _ | refine blk_farG ?_ HN1_3.out _ | refine blk_farG ?_ HN2_3.out _ | refine blk_farG ?_ HN3_3.out _)); exact HB1.out) 0 (by have := HL.out; omega), by rw [← HR.out]; exact lay_cell (t := 67) (by (with_reducible repeat (first | refine blk_drew ?_ | refine blk_alloc ?_ _ | refine blk_farG ?_ HN1_5.out _ | refine blk_farG ?_ HN2_5.out _ | refine blk_farG ?_ HN3_5.out _ | refine blk_farG ?_ HN1_3.out _ | refine blk_farG ?_ HN2_3.out _ | refine blk_farG ?_ HN3_3.out _)); exact HB1.out) 1 (by have := HL.out; omega)⟩) (first | (go_at_call_of 57 (Value.slice (some { block := g1, off := 2 }) r 5); refine (clone_at (some ⟨g1, 2, none⟩) r 5 ((l.drop 2).take r) (by have := HL.out; simp; omega) _ (lay_reads (t := 67) (by (with_reducible repeat (first | refine blk_drew ?_ | refine blk_alloc ?_ _ | refine blk_farG ?_ HN1_5.out _ | refine blk_farG ?_ HN2_5.out _ | refine blk_farG ?_ HN3_5.out _ | refine blk_farG ?_ HN1_3.out _ | refine blk_farG ?_ HN2_3.out _ | refine blk_farG ?_ HN3_3.out _)); exact HB1.out) 2 r (by have := HL.out; omega) (by have := HL.out; omega)) h5 (by omega)).mono ?_; rintro e w5 ⟨v1, rfl, ho1, hb5⟩; (try (have hnw : Aside0 (w5.heap[w3.heap.size]? = some (.cells #[.int .i64 0, .slice none 0 0, .slice none 0 0] 33 (0, 0))) := ⟨blk_below (blk_new w3.drew (.cells #[.int .i64 0, .slice none 0 0, .slice none 0 0] 33)) hb5⟩)); obtain ⟨Aa, ca, rfl⟩ := Kd.R_slice ho1; have hla : ((l.drop 2).take r).length = r := (by have := HL.out; simp; omega); rw [hla] at ho1 ⊢; have HO1 := Aside0.mk (Kd.R_lower ho1 (below_size (by repeat (first | (with_reducible first | exact HW.out | apply below_alloc | apply below_drew1) | exact HW.out)))); clear ho1 hla; have n0 := Aside0.mk (blk_below (g := g1) (o := .cells (lay l) 67 (0, 0)) (by (with_reducible repeat (first | refine blk_drew ?_ | refine blk_alloc ?_ _ | refine blk_farG ?_ HN1_5.out _ | refine blk_farG ?_ HN2_5.out _ | refine blk_farG ?_ HN3_5.out _ | refine blk_farG ?_ HN1_3.out _ | refine blk_farG ?_ HN2_3.out _ | refine blk_farG ?_ HN3_3.out _)); exact HB1.out) hb5); have n1 := Aside0.mk (blk_below (g := g2) (o := .cells (lay l) 67 (0, 0)) (by (with_reducible repeat (first | refine blk_drew ?_ | refine blk_alloc ?_ _ | refine blk_farG ?_ HN1_5.out _ | refine blk_farG ?_ HN2_5.out _ | refine blk_farG ?_ HN3_5.out _ | refine blk_farG ?_ HN1_3.out _ | refine blk_farG ?_ HN2_3.out _ | refine blk_farG ?_ HN3_3.out _)); exact HB2.out) hb5); have n2 := Aside0.mk (blk_below (g := g3) (o := .cells #[.int .i64 0, .slice none 0 0, .slice none 0 0] 33 (0, 0)) (by (with_reducible repeat (first | refine blk_drew ?_ | refine blk_alloc ?_ _ | refine blk_farG ?_ HN1_5.out _ | refine blk_farG ?_ HN2_5.out _ | refine blk_farG ?_ HN3_5.out _ | refine blk_farG ?_ HN1_3.out _ | refine blk_farG ?_ HN2_3.out _ | refine blk_farG ?_ HN3_3.out _)); exact HB3.out) hb5); have nw := Aside0.mk (below_step (by repeat (first | (with_reducible first | exact HW.out | apply below_alloc | apply below_drew1) | exact HW.out)) hb5); clear HB1 HB2 HB3 HW; have HB1 := n0; have HB2 := n1; have HB3 := n2; have HW := nw; clear nw n0 n1 n2; have HN1_5 := Aside0.mk (Nat.ne_of_lt (blk_lt HB1.out)); have HN2_5 := Aside0.mk (Nat.ne_of_lt (blk_lt HB2.out)); have HN3_5 := Aside0.mk (Nat.ne_of_lt (blk_lt HB3.out)); have HLT5 := Aside0.mk (blk_lt HB3.out); have HGE5 := Aside0.mk (below_size HW.out); clear hb5) | (go_at_call_of 57 (Value.slice (some { block := g1, off := 7 }) r 5); refine (clone_at (some ⟨g1, 7, none⟩) r 5 ((l.drop 7).take r) (by have := HL.out; simp; omega) _ (lay_reads (t := 67) (by (with_reducible repeat (first | refine blk_drew ?_ | refine blk_alloc ?_ _ | refine blk_farG ?_ HN1_5.out _ | refine blk_farG ?_ HN2_5.out _ | refine blk_farG ?_ HN3_5.out _ | refine blk_farG ?_ HN1_3.out _ | refine blk_farG ?_ HN2_3.out _ | refine blk_farG ?_ HN3_3.out _)); exact HB1.out) 7 r (by have := HL.out; omega) (by have := HL.out; omega)) h5 (by omega)).mono ?_; rintro e w6 ⟨v2, rfl, ho2, hb6⟩; (try (have hnw : Aside0 (w6.heap[w5.heap.size]? = some (.cells #[.int .i64 0, .slice none 0 0, .slice none 0 0] 33 (0, 0))) := ⟨blk_below (blk_new w5 (.cells #[.int .i64 0, .slice none 0 0, .slice none 0 0] 33)) hb6⟩; have hx0 : _ = some (Value.int .i64 0) := (blk_cell hnw.out 0).trans rfl; have hx1 : _ = some (Value.slice none 0 0) := (blk_cell hnw.out 1).trans rfl; have hx2 : _ = some (Value.slice none 0 0) := (blk_cell hnw.out 2).trans rfl; have hy0 := blk_frozen hnw.out 0; have hy1 := blk_frozen hnw.out 1; have hy2 := blk_frozen hnw.out 2)); (try (have hnx : Aside0 (w6.heap[w3.heap.size]? = some (.cells #[.int .i64 0, .slice none 0 0, .slice none 0 0] 33 (0, 0))) := ⟨blk_below hnw.out hb6⟩; clear hnw; have hnw := hnx; clear hnx; have hx0 : _ = some (Value.int .i64 0) := (blk_cell hnw.out 0).trans rfl; have hx1 : _ = some (Value.slice none 0 0) := (blk_cell hnw.out 1).trans rfl; have hx2 : _ = some (Value.slice none 0 0) := (blk_cell hnw.out 2).trans rfl; have hy0 := blk_frozen hnw.out 0; have hy1 := blk_frozen hnw.out 1; have hy2 := blk_frozen hnw.out 2)); obtain ⟨Ab, cb, rfl⟩ := Kd.R_slice ho2; have hlb : ((l.drop 7).take r).length = r := (by have := HL.out; simp; omega); rw [hlb] at ho2 ⊢; have HO1n := Aside0.mk (Kd.R_elder' (by (with_reducible repeat (first | apply Kd.R_alloc | apply Kd.R_drewN | apply Kd.R_drew)); exact HO1.out) (Kd.R_base ho2) hb6); have HO2 := Aside0.mk (Kd.R_lower (Kd.R_new' ho2 (Kd.R_lt (by (with_reducible repeat (first | apply Kd.R_alloc | apply Kd.R_drewN | apply Kd.R_drew)); exact HO1.out))) (below_size (by repeat (first | (with_reducible first | exact HW.out | apply below_alloc | apply below_drew1) | exact HW.out)))); clear HO1; have HO1 := HO1n; clear HO1n ho2 hlb; have n0 := Aside0.mk (blk_below (g := g1) (o := .cells (lay l) 67 (0, 0)) (by (with_reducible repeat (first | refine blk_drew ?_ | refine blk_alloc ?_ _ | refine blk_farG ?_ HN1_5.out _ | refine blk_farG ?_ HN2_5.out _ | refine blk_farG ?_ HN3_5.out _ | refine blk_farG ?_ HN1_3.out _ | refine blk_farG ?_ HN2_3.out _ | refine blk_farG ?_ HN3_3.out _)); exact HB1.out) hb6); have n1 := Aside0.mk (blk_below (g := g2) (o := .cells (lay l) 67 (0, 0)) (by (with_reducible repeat (first | refine blk_drew ?_ | refine blk_alloc ?_ _ | refine blk_farG ?_ HN1_5.out _ | refine blk_farG ?_ HN2_5.out _ | refine blk_farG ?_ HN3_5.out _ | refine blk_farG ?_ HN1_3.out _ | refine blk_farG ?_ HN2_3.out _ | refine blk_farG ?_ HN3_3.out _)); exact HB2.out) hb6); have n2 := Aside0.mk (blk_below (g := g3) (o := .cells #[.int .i64 0, .slice none 0 0, .slice none 0 0] 33 (0, 0)) (by (with_reducible repeat (first | refine blk_drew ?_ | refine blk_alloc ?_ _ | refine blk_farG ?_ HN1_5.out _ | refine blk_farG ?_ HN2_5.out _ | refine blk_farG ?_ HN3_5.out _ | refine blk_farG ?_ HN1_3.out _ | refine blk_farG ?_ HN2_3.out _ | refine blk_farG ?_ HN3_3.out _)); exact HB3.out) hb6); have nw := Aside0.mk (below_step (by repeat (first | (with_reducible first | exact HW.out | apply below_alloc | apply below_drew1) | exact HW.out)) hb6); clear HB1 HB2 HB3 HW; have HB1 := n0; have HB2 := n1; have HB3 := n2; have HW := nw; clear nw n0 n1 n2; clear hb6))
    · go_wp2_with fail
      go_meet
      case rel => exact vmA HB1.out HB2.out HB3.out HO1.out HO2.out HW.out
    · go_wp2_with fail
      go_meet
      case rel => exact vmB hnw.out HN1_5.out HN2_5.out HLT5.out HGE5.out HB1.out HB2.out HB3.out HO1.out HO2.out HW.out
    · go_wp2_with fail
      go_meet
      case rel => exact vmB hnw.out HN1_3.out HN2_3.out HLT3.out HGE3.out HB1.out HB2.out HB3.out HO1.out HO2.out HW.out
  case rest =>
    obtain ⟨G, Aa, Ab, ca, cb, rfl, hG, hlt, k1, k2, k3, R1, R2, hW⟩ := hcut
    have KG := Aside0.mk hG
    have K1 := Aside0.mk k1
    have K2 := Aside0.mk k2
    have K3 := Aside0.mk k3
    have KR1 := Aside0.mk R1
    have KR2 := Aside0.mk R2
    have KW := Aside0.mk hW
    have KGE := Aside0.mk (show w.heap.size ≤ g3 by have := HG1.out; have := HG2.out; have := HG3.out; omega)
    clear hG k1 k2 k3 R1 R2 hW
    have hEq := eq_lay l l HL.out HL.out
    simp only [beq_self_eq_true] at hEq
    go_wp2_with (first | ((with_reducible refine gate_dst (N := 22) rfl ?_); refine wpList_load_row rfl 67 (.tmp 2) rfl g1 rfl 67 (lay _) (0, 0) _ K1.out Try.underlying67 rfl (info67 _ HL.out) ?_) | ((with_reducible refine gate_dst (N := 23) rfl ?_); refine wpList_load_row rfl 67 (.tmp 3) rfl g2 rfl 67 (lay _) (0, 0) _ K2.out Try.underlying67 rfl (info67 _ HL.out) ?_) | ((with_reducible refine gate_dst (N := 25) rfl ?_); refine wpList_load_row rfl 33 (.tmp 6) rfl G rfl 33 #[.int .i64 (gi l 0), .slice Aa r ca, .slice Ab r cb] (0, 0) _ KG.out Try.underlying33 rfl (by kernel_rfl) ?_) | ((with_reducible refine gate_store rfl ?_); refine wpList_store_row rfl 33 (.tmp 4) (.tmp 25) rfl g3 #[.int .i64 (gi l 0), .slice Aa r ca, .slice Ab r cb] rfl rfl 33 #[.int .i64 0, .slice none 0 0, .slice none 0 0] K3.out (by kernel_rfl) rfl (by simp [Value.oneCell']) ?_))
    refine bodyPost_ret (results_ct rfl _ _ g3 33 #[.int .i64 (gi l 0), .slice Aa r ca, .slice Ab r cb] (0, 0) _ rfl (setRow_heap _ g3 _ _ _ (0, 0) K3.out) Try.underlying33 rfl (by kernel_rfl)) rfl ?_
    exact ⟨_, _, rfl, R_rowV KR1.out K3.out _, R_rowV KR2.out K3.out _, below_setRow KW.out KGE.out _⟩
end Go.Proofs.Ytipjhbngbaifeaa.PA

-- By a program (prt.py, over the print of the kit), for this claim. Not trusted: Lean checks it.
namespace Go.Proofs.Ytipjhbngbaifeaa.PA
open Go.RowKit Go.Proofs.YtipjhbngbaifeaaW.PrintWords Go.Proofs.YtipjhbngbaifeaaW.PrintLast Go.Proofs.YtipjhbngbaifeaaW.PrintMore
attribute [local go_sem] max2_int min2_int max_two min_two max_three min_three max_four min_four   -- for this text's walks alone
set_option linter.unusedVariables false
set_option linter.unusedSimpArgs false

/-! ### laws_toArray: function 17 -/
def laws_toArray.f (k : Nat) (a0_0 : Bool) (l0_1 : List Int) (l0_2 : List Int) : Option (Bool × List Int × List Int) := (laws_toIntS.f k l0_1).bind fun t104 => ((laws_toIntS.f k l0_2).bind fun t107 => (some (a0_0, t104, t107)))
theorem laws_toArray.mono : ∀ a0 a1 a2 k, LeO (laws_toArray.f k a0 a1 a2) (laws_toArray.f (k + 1) a0 a1 a2) := by
  intro a0 a1 a2 k
  unfold laws_toArray.f
  repeat' first
      | (with_reducible exact laws_toIntS.mono _ _)
      | (with_reducible exact LeO.refl _)
      | (with_reducible exact LeO.none _)
      | (with_reducible refine LeO.ite ?_ ?_)
      | (with_reducible refine LeO.bind ?_ (fun _ => ?_))
      | exact laws_toIntS.mono _ _
      | exact LeO.none _
      | refine LeO.ite ?_ ?_
      | refine LeO.bind ?_ (fun _ => ?_)

end Go.Proofs.Ytipjhbngbaifeaa.PA

-- By a program (prt.py, over the print of the kit), for this claim. Not trusted: Lean checks it.
namespace Go.Proofs.Ytipjhbngbaifeaa.PA
open Go.RowKit Go.Proofs.YtipjhbngbaifeaaW.PrintWords Go.Proofs.YtipjhbngbaifeaaW.PrintLast Go.Proofs.YtipjhbngbaifeaaW.PrintMore
attribute [local go_sem] max2_int min2_int max_two min_two max_three min_three max_four min_four   -- for this text's walks alone
set_option linter.unusedVariables false
set_option linter.unusedSimpArgs false

/-! ### laws_eqArray: function 19 -/
def laws_eqArray.f (k : Nat) (a0_0 : Bool) (l0_1 : List Int) (l0_2 : List Int) (a1_0 : Bool) (l1_1 : List Int) (l1_2 : List Int) : Option (Bool) := if (a0_0 != a1_0) = true then (some false) else ((laws_eqIntS.f k l0_1 l1_1).bind fun t103 => (if t103 = true then ((laws_eqIntS.f k l0_2 l1_2).bind fun t104 => (if t104 = true then (some true) else (some false))) else (some false)))
theorem laws_eqArray.mono : ∀ a0 a1 a2 a3 a4 a5 k, LeO (laws_eqArray.f k a0 a1 a2 a3 a4 a5) (laws_eqArray.f (k + 1) a0 a1 a2 a3 a4 a5) := by
  intro a0 a1 a2 a3 a4 a5 k
  unfold laws_eqArray.f
  repeat' first
      | (with_reducible exact laws_eqIntS.mono _ _ _)
      | (with_reducible exact LeO.refl _)
      | (with_reducible exact LeO.none _)
      | (with_reducible refine LeO.ite ?_ ?_)
      | (with_reducible refine LeO.bind ?_ (fun _ => ?_))
      | exact laws_eqIntS.mono _ _ _
      | exact LeO.none _
      | refine LeO.ite ?_ ?_
      | refine LeO.bind ?_ (fun _ => ?_)

end Go.Proofs.Ytipjhbngbaifeaa.PA

-- By a program (prt.py, over the print of the kit), for this claim. Not trusted: Lean checks it.
namespace Go.Proofs.Ytipjhbngbaifeaa.PA
open Go.RowKit Go.Proofs.YtipjhbngbaifeaaW.PrintWords Go.Proofs.YtipjhbngbaifeaaW.PrintLast Go.Proofs.YtipjhbngbaifeaaW.PrintMore
attribute [local go_sem] max2_int min2_int max_two min_two max_three min_three max_four min_four   -- for this text's walks alone
set_option linter.unusedVariables false
set_option linter.unusedSimpArgs false

/-! ### laws_szArray: function 15 -/
def laws_szArray.f (a0_0 : Bool) (l0_1 : List Int) (l0_2 : List Int) (a1 : Int) : Option (Int) := (laws_szIntS.f l0_1 a1).bind fun t102 => (if t102 < 0 then (some (-1)) else ((laws_szIntS.f l0_2 t102).bind fun t103 => (if t103 < 0 then (some (-1)) else (some t103))))

end Go.Proofs.Ytipjhbngbaifeaa.PA

-- By a program (prt.py, over the print of the kit), for this claim. Not trusted: Lean checks it.
namespace Go.Proofs.Ytipjhbngbaifeaa.PA
open Go.RowKit Go.Proofs.YtipjhbngbaifeaaW.PrintWords Go.Proofs.YtipjhbngbaifeaaW.PrintLast Go.Proofs.YtipjhbngbaifeaaW.PrintMore
attribute [local go_sem] max2_int min2_int max_two min_two max_three min_three max_four min_four   -- for this text's walks alone
set_option linter.unusedVariables false
set_option linter.unusedSimpArgs false

/-! ### impl_within: function 54 -/
def impl_within.f (a0 : Int) (a1 : Int) (a2 : Int) : Option (Bool) := if a0 ≥ a1 then (some (decide (a0 ≤ a2))) else (some false)
set_option maxHeartbeats 8000000 in
set_option maxRecDepth 100000 in
theorem impl_within.calls (a0 : Int) (a1 : Int) (a2 : Int) (r : Bool) (w : World) (h : impl_within.f a0 a1 a2 = some r) :
    Calls Try.prog 54 #[.int .i64 a0, .int .i64 a1, .int .i64 a2] w fun e w' => e = .returned (.bool r) ∧ Drawn0 w w' := by
  have H : (if a0 ≥ a1 then (some (decide (a0 ≤ a2))) else (some false)) = some r := h
  clear h
  by_cases c4 : a0 ≥ a1
  · rw [if_pos c4] at H
    have c4b0 : decide (a1 ≤ a0) = true := decide_eq_true c4
    clear c4
    obtain rfl := Option.some.inj H
    go_enter Try.func54, Try.ntmps54
    go_wp2
    go_ret
    exact ⟨by first | rfl | (simp; done) | (simp [*]; done), by repeat (first | exact Drawn0.refl _ | apply Drawn0.step)⟩
  · rw [if_neg c4] at H
    have c4b0 : decide (a1 ≤ a0) = false := decide_eq_false c4
    clear c4
    obtain rfl := Option.some.inj H
    go_enter Try.func54, Try.ntmps54
    go_wp2
    go_ret
    exact ⟨by first | rfl | (simp; done) | (simp [*]; done), by repeat (first | exact Drawn0.refl _ | apply Drawn0.step)⟩

end Go.Proofs.Ytipjhbngbaifeaa.PA

-- By a program (prt.py, over the print of the kit), for this claim. Not trusted: Lean checks it.
namespace Go.Proofs.Ytipjhbngbaifeaa.PA
open Go.RowKit Go.Proofs.YtipjhbngbaifeaaW.PrintWords Go.Proofs.YtipjhbngbaifeaaW.PrintLast Go.Proofs.YtipjhbngbaifeaaW.PrintMore
attribute [local go_sem] max2_int min2_int max_two min_two max_three min_three max_four min_four   -- for this text's walks alone
set_option linter.unusedVariables false
set_option linter.unusedSimpArgs false

/-! ### impl_shapeOk: function 52 -/
def impl_shapeOk.l0 : Nat → Int → Int → List Int → Int → Int → Option (Int × Bool)
  | 0, _, _, _, _, _ => none
  | k + 1, x2, x4, x10, x11, x12 => if x12 < x11 then (if 0 ≤ x12 then (if x12 < (x10.length : Int) then ((impl_within.f (rd x10 x12) 0 10000).bind fun t102 => (if t102 = true then (if (rd x10 x12) > 0 then (if (wrap64 (x4 * (rd x10 x12))) > 10000 then (some (0, false)) else (impl_shapeOk.l0 k (wrap64 (x2 * (rd x10 x12))) (wrap64 (x4 * (rd x10 x12))) x10 x11 (wrap64 (x12 + 1)))) else (if x4 > 10000 then (some (0, false)) else (impl_shapeOk.l0 k (wrap64 (x2 * (rd x10 x12))) x4 x10 x11 (wrap64 (x12 + 1))))) else (some (0, false)))) else (none)) else (none)) else (some (x2, true))
def impl_shapeOk.f (k : Nat) (l0 : List Int) : Option (Int × Bool) := if (l0.length : Int) > 5 then (some (0, false)) else (impl_shapeOk.l0 k 1 1 l0 (l0.length : Int) 0)
theorem impl_shapeOk.mono_l : ∀ k, (∀ y0 y1 y2 y3 y4, LeO (impl_shapeOk.l0 k y0 y1 y2 y3 y4) (impl_shapeOk.l0 (k + 1) y0 y1 y2 y3 y4))
  | 0 => fun _ _ _ _ _ r h => by simp [impl_shapeOk.l0] at h
  | k + 1 => by
    have ih0 := impl_shapeOk.mono_l k
    · intro y0 y1 y2 y3 y4
      unfold impl_shapeOk.l0
      repeat' first
      | (with_reducible exact ih0 _ _ _ _ _)
      | (with_reducible exact LeO.refl _)
      | (with_reducible exact LeO.none _)
      | (with_reducible refine LeO.ite ?_ ?_)
      | (with_reducible refine LeO.bind ?_ (fun _ => ?_))
      | exact ih0 _ _ _ _ _
      | exact LeO.none _
      | refine LeO.ite ?_ ?_
      | refine LeO.bind ?_ (fun _ => ?_)
theorem impl_shapeOk.mono : ∀ a0 k, LeO (impl_shapeOk.f k a0) (impl_shapeOk.f (k + 1) a0) := by
  intro a0 k
  have ih0 := impl_shapeOk.mono_l k
  unfold impl_shapeOk.f
  repeat' first
      | (with_reducible exact ih0 _ _ _ _ _)
      | (with_reducible exact LeO.refl _)
      | (with_reducible exact LeO.none _)
      | (with_reducible refine LeO.ite ?_ ?_)
      | (with_reducible refine LeO.bind ?_ (fun _ => ?_))
      | exact ih0 _ _ _ _ _
      | exact LeO.none _
      | refine LeO.ite ?_ ?_
      | refine LeO.bind ?_ (fun _ => ?_)
set_option maxHeartbeats 8000000 in
set_option maxRecDepth 100000 in
theorem impl_shapeOk.calls (k : Nat) (A0 : Option Addr) (c0 : Nat) (l0 : List Int) (r1 : Int) (r2 : Bool) (w : World) (hr0 : Kd.C (Kd.int .i64) w A0 l0.length l0) (hc0 : l0.length ≤ c0) (h : impl_shapeOk.f k l0 = some (r1, r2)) :
    Calls Try.prog 52 #[.slice A0 l0.length c0] w fun e w' => e = .returned (.tuple #[.int .i64 r1, .bool r2]) ∧ Drawn0 w w' := by
  have HR0 := Aside0.mk hr0
  have HC0 := Aside0.mk hc0
  clear hr0 hc0
  have H : (if (l0.length : Int) > 5 then (some (0, false)) else (impl_shapeOk.l0 k 1 1 l0 (l0.length : Int) 0)) = some (r1, r2) := h
  clear h
  by_cases c2 : (l0.length : Int) > 5
  · rw [if_pos c2] at H
    have c2b0 : decide (5 < (l0.length : Int)) = true := decide_eq_true c2
    have c2b1 : decide (5 < l0.length) = true := decide_eq_true (by omega)
    clear c2
    simp only [Option.some.injEq, Prod.mk.injEq] at H
    obtain ⟨rfl, rfl⟩ := H
    go_enter Try.func52, Try.ntmps52
    go_wp2
    go_ret2
    exact ⟨by first | rfl | (simp; done) | (simp [*]; done), by repeat (first | exact Drawn0.refl _ | apply Drawn0.step)⟩
  · rw [if_neg c2] at H
    have c2b0 : decide (5 < (l0.length : Int)) = false := decide_eq_false c2
    have c2b1 : decide (5 < l0.length) = false := decide_eq_false (by omega)
    clear c2
    have H' := Aside0.mk H
    clear H
    go_enter Try.func52, Try.ntmps52
    go_wp2
    go_loopg [2, 4, 12] k (fun kq v2 v4 v12 w' => ∃ (x2_1 : Int) (x4_1 : Int) (x12_1 : Int), v2 = .int .i64 x2_1 ∧ v4 = .int .i64 x4_1 ∧ v12 = .int .i64 x12_1 ∧ Aside0 (impl_shapeOk.l0 kq x2_1 x4_1 l0 (l0.length : Int) x12_1 = some (r1, r2)) ∧ Aside0 (kq ≤ k) ∧ Drawn0 w w')
    case atStart => exact ⟨(1), (1), (0), (by first | rfl | (simp; done) | (simp [*]; done)), (by first | rfl | (simp; done) | (simp [*]; done)), (by first | rfl | (simp; done) | (simp [*]; done)), H', ⟨Nat.le_refl _⟩, by repeat (first | exact Drawn0.refl _ | apply Drawn0.step)⟩
    case round =>
      clear H'
      try clear c2
      try clear c2b0
      try clear c2b1
      try clear p2
      obtain ⟨x2_1, x4_1, x12_1, rfl, rfl, rfl, HA, HK1, ⟨m1, rfl⟩⟩ := hrel
      cases gk with
      | zero => exact absurd HA.out (by simp [impl_shapeOk.l0])
      | succ k1 =>
        have H := HA.out
        clear HA
        simp only [impl_shapeOk.l0] at H
        by_cases c3 : x12_1 < (l0.length : Int)
        · rw [if_pos c3] at H
          have c3b0 : decide (x12_1 < (l0.length : Int)) = true := decide_eq_true c3
          clear c3
          by_cases c4 : 0 ≤ x12_1
          · rw [if_pos c4] at H
            have c4b0 : decide (0 ≤ x12_1) = true := decide_eq_true c4
            clear c4
            by_cases c5 : x12_1 < (l0.length : Int)
            · rw [if_pos c5] at H
              have c5b0 : decide (x12_1 < (l0.length : Int)) = true := decide_eq_true c5
              clear c5
              replace H := Option.bind_eq_some_iff.mp H
              obtain ⟨t102, A60, H⟩ := H
              replace H : (if t102 = true then (if (rd l0 x12_1) > 0 then (if (wrap64 (x4_1 * (rd l0 x12_1))) > 10000 then (some (0, false)) else (impl_shapeOk.l0 k1 (wrap64 (x2_1 * (rd l0 x12_1))) (wrap64 (x4_1 * (rd l0 x12_1))) l0 (l0.length : Int) (wrap64 (x12_1 + 1)))) else (if x4_1 > 10000 then (some (0, false)) else (impl_shapeOk.l0 k1 (wrap64 (x2_1 * (rd l0 x12_1))) x4_1 l0 (l0.length : Int) (wrap64 (x12_1 + 1))))) else (some (0, false))) = some (r1, r2) := H
              have A6 := Aside0.mk A60
              clear A60
              by_cases c7 : t102 = true
              · subst c7
                have H1 : (if (rd l0 x12_1) > 0 then (if (wrap64 (x4_1 * (rd l0 x12_1))) > 10000 then (some (0, false)) else (impl_shapeOk.l0 k1 (wrap64 (x2_1 * (rd l0 x12_1))) (wrap64 (x4_1 * (rd l0 x12_1))) l0 (l0.length : Int) (wrap64 (x12_1 + 1)))) else (if x4_1 > 10000 then (some (0, false)) else (impl_shapeOk.l0 k1 (wrap64 (x2_1 * (rd l0 x12_1))) x4_1 l0 (l0.length : Int) (wrap64 (x12_1 + 1))))) = some (r1, r2) := by rw [if_pos rfl] at H; exact H
                clear H
                have H := H1
                clear H1
                by_cases c8 : (rd l0 x12_1) > 0
                · rw [if_pos c8] at H
                  have c8b0 : decide (0 < (rd l0 x12_1)) = true := decide_eq_true c8
                  clear c8
                  by_cases c9 : (wrap64 (x4_1 * (rd l0 x12_1))) > 10000
                  · rw [if_pos c9] at H
                    have c9b0 : decide (10000 < (wrap64 (x4_1 * (rd l0 x12_1)))) = true := decide_eq_true c9
                    clear c9
                    simp only [Option.some.injEq, Prod.mk.injEq] at H
                    obtain ⟨rfl, rfl⟩ := H
                    have p101 : 0 ≤ (x12_1 : Int) := of_decide_eq_true (by first | (with_reducible assumption) | assumption)
                    have q101 : x12_1 < (l0.length : Int) := of_decide_eq_true (by first | (with_reducible assumption) | assumption)
                    obtain ⟨ad101, e101, hx101_0⟩ := Kd.at_int HR0.out x12_1 p101 q101
                    cases e101
                    replace p101 := eq_true p101
                    replace q101 := eq_true q101
                    go_wp2_with (first | ((with_reducible refine gate_callee (f := 54) rfl ?_); refine goesL_ (some 17) rfl rfl Try.func54 (by kernel_rfl) rfl #[.int .i64 (rd l0 x12_1), .int .i64 0, .int .i64 10000] rfl (by (try simp only [List.map_toArray, List.map_cons, List.map_nil]); first | done | rfl | (simp only [List.length_drop, List.length_take]; rfl)) ?_; (with_reducible refine (impl_within.calls (rd l0 x12_1) 0 10000 true _ A6.out).mono ?_); rintro e w' ⟨rfl, ⟨nd, rfl⟩⟩; refine ⟨_, rfl, ?_⟩))
                    go_ret2
                    exact ⟨by first | rfl | (simp; done) | (simp [*]; done), by repeat (first | exact Drawn0.refl _ | apply Drawn0.step)⟩
                  · rw [if_neg c9] at H
                    have c9b0 : decide (10000 < (wrap64 (x4_1 * (rd l0 x12_1)))) = false := decide_eq_false c9
                    clear c9
                    have H' := Aside0.mk H
                    clear H
                    have p101 : 0 ≤ (x12_1 : Int) := of_decide_eq_true (by first | (with_reducible assumption) | assumption)
                    have q101 : x12_1 < (l0.length : Int) := of_decide_eq_true (by first | (with_reducible assumption) | assumption)
                    obtain ⟨ad101, e101, hx101_0⟩ := Kd.at_int HR0.out x12_1 p101 q101
                    cases e101
                    replace p101 := eq_true p101
                    replace q101 := eq_true q101
                    go_wp2_with (first | ((with_reducible refine gate_callee (f := 54) rfl ?_); refine goesL_ (some 17) rfl rfl Try.func54 (by kernel_rfl) rfl #[.int .i64 (rd l0 x12_1), .int .i64 0, .int .i64 10000] rfl (by (try simp only [List.map_toArray, List.map_cons, List.map_nil]); first | done | rfl | (simp only [List.length_drop, List.length_take]; rfl)) ?_; (with_reducible refine (impl_within.calls (rd l0 x12_1) 0 10000 true _ A6.out).mono ?_); rintro e w' ⟨rfl, ⟨nd, rfl⟩⟩; refine ⟨_, rfl, ?_⟩))
                    go_roundg k1
                    case measure => have := HK1.out; omega
                    case rel => exact ⟨(wrap64 (x2_1 * (rd l0 x12_1))), (wrap64 (x4_1 * (rd l0 x12_1))), (wrap64 (x12_1 + 1)), (by first | rfl | (simp; done) | (simp [*]; done)), (by first | rfl | (simp; done) | (simp [*]; done)), (by first | rfl | (simp; done) | (simp [*]; done)), H', ⟨by have := HK1.out; omega⟩, by repeat (first | exact Drawn0.refl _ | apply Drawn0.step)⟩
                · rw [if_neg c8] at H
                  have c8b0 : decide (0 < (rd l0 x12_1)) = false := decide_eq_false c8
                  clear c8
                  by_cases c10 : x4_1 > 10000
                  · rw [if_pos c10] at H
                    have c10b0 : decide (10000 < x4_1) = true := decide_eq_true c10
                    clear c10
                    simp only [Option.some.injEq, Prod.mk.injEq] at H
                    obtain ⟨rfl, rfl⟩ := H
                    have p101 : 0 ≤ (x12_1 : Int) := of_decide_eq_true (by first | (with_reducible assumption) | assumption)
                    have q101 : x12_1 < (l0.length : Int) := of_decide_eq_true (by first | (with_reducible assumption) | assumption)
                    obtain ⟨ad101, e101, hx101_0⟩ := Kd.at_int HR0.out x12_1 p101 q101
                    cases e101
                    replace p101 := eq_true p101
                    replace q101 := eq_true q101
                    go_wp2_with (first | ((with_reducible refine gate_callee (f := 54) rfl ?_); refine goesL_ (some 17) rfl rfl Try.func54 (by kernel_rfl) rfl #[.int .i64 (rd l0 x12_1), .int .i64 0, .int .i64 10000] rfl (by (try simp only [List.map_toArray, List.map_cons, List.map_nil]); first | done | rfl | (simp only [List.length_drop, List.length_take]; rfl)) ?_; (with_reducible refine (impl_within.calls (rd l0 x12_1) 0 10000 true _ A6.out).mono ?_); rintro e w' ⟨rfl, ⟨nd, rfl⟩⟩; refine ⟨_, rfl, ?_⟩))
                    go_ret2
                    exact ⟨by first | rfl | (simp; done) | (simp [*]; done), by repeat (first | exact Drawn0.refl _ | apply Drawn0.step)⟩
                  · rw [if_neg c10] at H
                    have c10b0 : decide (10000 < x4_1) = false := decide_eq_false c10
                    clear c10
                    have H' := Aside0.mk H
                    clear H
                    have p101 : 0 ≤ (x12_1 : Int) := of_decide_eq_true (by first | (with_reducible assumption) | assumption)
                    have q101 : x12_1 < (l0.length : Int) := of_decide_eq_true (by first | (with_reducible assumption) | assumption)
                    obtain ⟨ad101, e101, hx101_0⟩ := Kd.at_int HR0.out x12_1 p101 q101
                    cases e101
                    replace p101 := eq_true p101
                    replace q101 := eq_true q101
                    go_wp2_with (first | ((with_reducible refine gate_callee (f := 54) rfl ?_); refine goesL_ (some 17) rfl rfl Try.func54 (by kernel_rfl) rfl #[.int .i64 (rd l0 x12_1), .int .i64 0, .int .i64 10000] rfl (by (try simp only [List.map_toArray, List.map_cons, List.map_nil]); first | done | rfl | (simp only [List.length_drop, List.length_take]; rfl)) ?_; (with_reducible refine (impl_within.calls (rd l0 x12_1) 0 10000 true _ A6.out).mono ?_); rintro e w' ⟨rfl, ⟨nd, rfl⟩⟩; refine ⟨_, rfl, ?_⟩))
                    go_roundg k1
                    case measure => have := HK1.out; omega
                    case rel => exact ⟨(wrap64 (x2_1 * (rd l0 x12_1))), (x4_1), (wrap64 (x12_1 + 1)), (by first | rfl | (simp; done) | (simp [*]; done)), (by first | rfl | (simp; done) | (simp [*]; done)), (by first | rfl | (simp; done) | (simp [*]; done)), H', ⟨by have := HK1.out; omega⟩, by repeat (first | exact Drawn0.refl _ | apply Drawn0.step)⟩
              · replace c7 := Bool.eq_false_iff.mpr c7
                subst c7
                have H1 : (some (0, false)) = some (r1, r2) := by rw [if_neg (show ¬ (false = true) by decide)] at H; exact H
                clear H
                have H := H1
                clear H1
                simp only [Option.some.injEq, Prod.mk.injEq] at H
                obtain ⟨rfl, rfl⟩ := H
                have p101 : 0 ≤ (x12_1 : Int) := of_decide_eq_true (by first | (with_reducible assumption) | assumption)
                have q101 : x12_1 < (l0.length : Int) := of_decide_eq_true (by first | (with_reducible assumption) | assumption)
                obtain ⟨ad101, e101, hx101_0⟩ := Kd.at_int HR0.out x12_1 p101 q101
                cases e101
                replace p101 := eq_true p101
                replace q101 := eq_true q101
                go_wp2_with (first | ((with_reducible refine gate_callee (f := 54) rfl ?_); refine goesL_ (some 17) rfl rfl Try.func54 (by kernel_rfl) rfl #[.int .i64 (rd l0 x12_1), .int .i64 0, .int .i64 10000] rfl (by (try simp only [List.map_toArray, List.map_cons, List.map_nil]); first | done | rfl | (simp only [List.length_drop, List.length_take]; rfl)) ?_; (with_reducible refine (impl_within.calls (rd l0 x12_1) 0 10000 false _ A6.out).mono ?_); rintro e w' ⟨rfl, ⟨nd, rfl⟩⟩; refine ⟨_, rfl, ?_⟩))
                go_ret2
                exact ⟨by first | rfl | (simp; done) | (simp [*]; done), by repeat (first | exact Drawn0.refl _ | apply Drawn0.step)⟩
            · rw [if_neg c5] at H
              exact absurd H (by simp)
          · rw [if_neg c4] at H
            exact absurd H (by simp)
        · rw [if_neg c3] at H
          have c3b0 : decide (x12_1 < (l0.length : Int)) = false := decide_eq_false c3
          clear c3
          simp only [Option.some.injEq, Prod.mk.injEq] at H
          obtain ⟨rfl, rfl⟩ := H
          go_wp2
          go_ret2
          exact ⟨by first | rfl | (simp; done) | (simp [*]; done), by repeat (first | exact Drawn0.refl _ | apply Drawn0.step)⟩

end Go.Proofs.Ytipjhbngbaifeaa.PA

namespace Go.Proofs.Ytipjhbngbaifeaa.PA
open Go.RowKit Go.Proofs.YtipjhbngbaifeaaW.PrintWords Go.Proofs.YtipjhbngbaifeaaW.PrintLast Go.Proofs.YtipjhbngbaifeaaW.PrintMore

theorem w64 {x : Int} (h0 : -9223372036854775808 ≤ x) (h1 : x < 9223372036854775808) : wrap64 x = x := by unfold wrap64; omega
theorem rd_mid (p t : List Int) (a : Int) : rd (p ++ a :: t) (p.length : Int) = a := by simp [rd, List.getD_eq_getElem?_getD]
theorem len_lt {p t : List Int} {a : Int} : ((p.length : Nat) : Int) < (((p ++ a :: t).length : Nat) : Int) := by simp; omega
theorem len_nlt {p : List Int} : ¬ ((p.length : Nat) : Int) < (((p ++ ([] : List Int)).length : Nat) : Int) := by simp
theorem next_mid (p t : List Int) (a : Int) (h : (p ++ a :: t).length < 35184372088833) : wrap64 ((p.length : Int) + 1) = (((p ++ [a]).length : Nat) : Int) := by
  rw [w64 (by omega) (by simp at h; omega)]; simp
theorem app_mid (p t : List Int) (a : Int) : p ++ a :: t = (p ++ [a]) ++ t := by simp
theorem evVal {α : Type} {g : Nat → Option α} {r r' : α} (h : Ev g r) (e : r = r') : Ev g r' := e ▸ h
theorem evEq {α : Type} {g : Nat → Option α} {r : α} (h : ∀ k, g k = some r) : Ev g r := ⟨0, fun k _ => h k⟩
/-- One round whose test is decided: from the round's own equation. -/
theorem evRound {α : Type} {g f : Nat → Option α} {r : α} (k : Ev f r) (h : ∀ k, g (k + 1) = f k) : Ev g r := Ev.step h k

/-! ### copies -/
theorem set_mid (q t : List Int) (b a : Int) : (q ++ b :: t).set q.length a = (q ++ [a]) ++ t := by simp
theorem toIntS_loop : ∀ (t p q s : List Int), p.length = q.length → t.length = s.length → (p ++ t).length < 35184372088833 →
    Ev (fun k => laws_toIntS.l0 k (p ++ t) (q ++ s) (p.length : Int)) (q ++ t)
  | [], p, q, s, _, hs, _ => by
    obtain rfl : s = [] := List.eq_nil_of_length_eq_zero hs.symm
    refine evRound (Ev.now _) fun k => ?_
    simp only [laws_toIntS.l0]; rw [if_neg len_nlt]
  | a :: t, p, q, [], _, hs, _ => by simp at hs
  | a :: t, p, q, b :: s, hp, hs, hl => by
    have ih := toIntS_loop t (p ++ [a]) (q ++ [a]) s (by simp [hp]) (by simpa using hs) (by simpa using hl)
    rw [← app_mid, ← app_mid q t] at ih
    refine evRound ih fun k => ?_
    simp only [laws_toIntS.l0]
    rw [if_pos len_lt, if_pos (by omega), if_pos (by simp [hp]; omega), rd_mid, next_mid p t a hl, hp, Int.toNat_natCast, set_mid]
theorem toIntS_ev (l : List Int) (h : l.length ≤ 35184372088832) : Ev (fun k => laws_toIntS.f k l) l := by
  have h1 := toIntS_loop l [] [] (List.replicate l.length 0) rfl (by simp) (by simpa using (by omega : l.length < 35184372088833))
  refine Ev.congr (fun k => ?_) h1
  simp only [laws_toIntS.f]
  rw [if_pos (by omega), if_pos (by simpa using h)]
  simp

/-! ### comparisons -/
theorem eqIntS_loop : ∀ (t p q s : List Int), p.length = q.length → t.length = s.length → (p ++ t).length < 35184372088833 →
    Ev (fun k => laws_eqIntS.l0 k (p ++ t) (q ++ s) (p.length : Int)) (decide (t = s))
  | [], p, q, s, _, hs, _ => by
    obtain rfl : s = [] := List.eq_nil_of_length_eq_zero hs.symm
    refine evRound (Ev.now _) fun k => ?_
    simp only [laws_eqIntS.l0]; rw [if_neg len_nlt]; simp
  | a :: t, p, q, [], _, hs, _ => by simp at hs
  | a :: t, p, q, b :: s, hp, hs, hl => by
    by_cases e : a = b
    · subst e
      have ih := eqIntS_loop t (p ++ [a]) (q ++ [a]) s (by simp [hp]) (by simpa using hs) (by simpa using hl)
      rw [← app_mid, ← app_mid] at ih
      refine evVal (evRound ih fun k => ?_) (by simp)
      simp only [laws_eqIntS.l0]
      rw [if_pos len_lt, if_pos (by omega), if_pos (by simp [hp]; omega), rd_mid, show rd (q ++ a :: s) (p.length : Int) = a by rw [hp]; exact rd_mid _ _ _, if_pos rfl, next_mid p t a hl]
    · refine evRound (Ev.now _) fun k => ?_
      simp only [laws_eqIntS.l0]
      rw [if_pos len_lt, if_pos (by omega), if_pos (by simp [hp]; omega), rd_mid, show rd (q ++ b :: s) (p.length : Int) = b by rw [hp]; exact rd_mid _ _ _, if_neg e]; simp [e]
theorem eqIntS_ev (l m : List Int) (h : l.length ≤ 35184372088832) : Ev (fun k => laws_eqIntS.f k l m) (decide (l = m)) := by
  by_cases e : l.length = m.length
  · have h1 := eqIntS_loop l [] [] m rfl e (by simpa using (by omega : l.length < 35184372088833))
    refine Ev.congr (fun k => ?_) h1
    simp only [laws_eqIntS.f]
    rw [if_pos (by omega)]; rfl
  · refine evEq fun k => ?_
    simp only [laws_eqIntS.f]
    rw [if_neg (by omega)]
    have : l ≠ m := fun h => e (h ▸ rfl)
    simp [this]

/-! ### sizes -/
theorem szIntS_eq (l : List Int) (a : Int) (h0 : 0 ≤ a) (h1 : a ≤ 1048576) (hl : l.length ≤ maxLen) :
    laws_szIntS.f l a = some (if (l.length : Int) ≤ a then a - l.length else -1) := by
  unfold laws_szIntS.f; unfold maxLen at hl
  rw [w64 (by omega) (by omega)]
  by_cases h : (l.length : Int) ≤ a
  · rw [if_neg (by omega), if_pos h]
  · rw [if_pos (by omega), if_neg h]

/-! ### shapes -/
/-- Every number in range, and the product of those that are not 0 at most 10000: from a product on. -/
def shGo : Int → List Int → Bool
  | _, [] => true
  | f, a :: t => decide (0 ≤ a ∧ a ≤ 10000) && (if a = 0 then shGo f t else decide (f * a ≤ 10000) && shGo (f * a) t)
def prod : List Int → Int
  | [] => 1
  | a :: t => a * prod t
def shOk (l : List Int) : Bool := decide (l.length ≤ 5) && shGo 1 l
theorem shGo_range : ∀ {l : List Int} {f : Int}, shGo f l = true → ∀ a ∈ l, 0 ≤ a ∧ a ≤ 10000
  | [], _, _, a, ha => by simp at ha
  | b :: t, f, h, a, ha => by
    simp only [shGo, Bool.and_eq_true, decide_eq_true_eq] at h
    rcases List.mem_cons.1 ha with rfl | ha
    · exact h.1
    · by_cases hb : b = 0
      · rw [if_pos hb] at h; exact shGo_range h.2 a ha
      · rw [if_neg hb] at h; simp only [Bool.and_eq_true] at h; exact shGo_range h.2.2 a ha
theorem shGo_prod : ∀ {l : List Int} {f : Int}, 1 ≤ f → shGo f l = true → prod l = 0 ∨ (f * prod l ≤ 10000 ∧ 1 ≤ prod l) ∨ l = []
  | [], _, _, _ => .inr (.inr rfl)
  | b :: t, f, hf, h => by
    have hr := shGo_range h
    simp only [shGo, Bool.and_eq_true, decide_eq_true_eq] at h
    by_cases hb : b = 0
    · subst hb; left; simp [prod]
    · rw [if_neg hb] at h; simp only [Bool.and_eq_true, decide_eq_true_eq] at h
      have hb1 : 1 ≤ b := by omega
      have hf1 : 1 ≤ f * b := by have := Int.mul_le_mul hf hb1 (by omega) (by omega); simpa using this
      rcases shGo_prod hf1 h.2.2 with h0 | ⟨h0, h1⟩ | rfl
      · left; simp [prod, h0]
      · right; left; simp only [prod]; refine ⟨by rw [← Int.mul_assoc]; exact h0, ?_⟩
        have := Int.mul_le_mul hb1 h1 (by omega) (by omega); simpa using this
      · right; left; simp only [prod, Int.mul_one]; exact ⟨h.2.1, hb1⟩
theorem shGo_bound {l : List Int} (h : shGo 1 l = true) : 0 ≤ prod l ∧ prod l ≤ 10000 := by
  rcases shGo_prod (by omega) h with h0 | ⟨h0, h1⟩ | rfl
  · omega
  · omega
  · simp [prod]
theorem within_eq (a b c : Int) : impl_within.f a b c = some (decide (b ≤ a ∧ a ≤ c)) := by
  unfold impl_within.f
  by_cases h : a ≥ b
  · rw [if_pos h]; simp; omega
  · rw [if_neg h]; simp; omega
/-- The product that the program keeps: 0, or the product of those that are not 0. -/
def szGo : Int → Int → List Int → Int × Bool
  | s, _, [] => (s, true)
  | s, f, a :: t => if 0 ≤ a ∧ a ≤ 10000 then (if a > 0 then (if f * a > 10000 then (0, false) else szGo (s * a) (f * a) t) else szGo (s * a) f t) else (0, false)
theorem szGo_eq : ∀ (l : List Int) (s f : Int), szGo s f l = if shGo f l then (s * prod l, true) else (0, false)
  | [], s, f => by simp [szGo, shGo, prod]
  | a :: t, s, f => by
    simp only [szGo, shGo]
    by_cases h : 0 ≤ a ∧ a ≤ 10000
    · rw [if_pos h]
      by_cases h0 : a = 0
      · subst h0; simp [szGo_eq t, prod]
      · rw [if_pos (by omega)]
        by_cases h1 : f * a > 10000
        · rw [if_pos h1]; simp [h, h0, show ¬ f * a ≤ 10000 by omega]
        · rw [if_neg h1, szGo_eq t]; simp [h, h0, show f * a ≤ 10000 by omega, prod, Int.mul_assoc]
    · rw [if_neg h]; simp [h]
theorem mul_in {s a : Int} (h0 : 0 ≤ s) (h1 : s ≤ 10000) (h2 : 0 ≤ a) (h3 : a ≤ 10000) : 0 ≤ s * a ∧ s * a ≤ 100000000 := by
  refine ⟨Int.mul_nonneg h0 h2, ?_⟩
  have := Int.mul_le_mul h1 h3 h2 (by omega : (0 : Int) ≤ 10000); omega
theorem shapeOk_loop : ∀ (t p : List Int) (s f : Int) (n : Int), (s = 0 ∨ s = f) → 0 ≤ f → f ≤ 10000 → (p ++ t).length < 35184372088833 → n = ((p ++ t).length : Nat) →
    Ev (fun k => impl_shapeOk.l0 k s f (p ++ t) n (p.length : Int)) (szGo s f t)
  | [], p, s, f, n, _, _, _, _, hn => by
    subst hn
    refine evRound (Ev.now _) fun k => ?_
    simp only [impl_shapeOk.l0]; rw [if_neg len_nlt]; rfl
  | a :: t, p, s, f, n, hs, h0, h1, hl, hn => by
    have hn' := hn
    subst hn
    have hsb : 0 ≤ s ∧ s ≤ 10000 := by rcases hs with rfl | rfl <;> omega
    by_cases ha : 0 ≤ a ∧ a ≤ 10000
    · have hsa := mul_in hsb.1 hsb.2 ha.1 ha.2
      have hfa := mul_in h0 h1 ha.1 ha.2
      by_cases hp : a > 0
      · by_cases hb : f * a > 10000
        · refine evRound (Ev.now _) fun k => ?_
          simp only [impl_shapeOk.l0, szGo]
          rw [if_pos len_lt, if_pos (by omega), if_pos len_lt, rd_mid, within_eq]; simp only [Option.bind_some, ha.1, ha.2, and_self, decide_true, if_true]
          rw [if_pos hp, w64 (by omega) (by omega), if_pos hb, if_pos hp, if_pos hb]
        · have ih := shapeOk_loop t (p ++ [a]) (s * a) (f * a) _ (by rcases hs with rfl | rfl <;> simp) hfa.1 (by omega) (by simpa using hl) rfl
          rw [← app_mid] at ih
          refine evVal (evRound ih fun k => ?_) (by simp [szGo, ha, hp, hb])
          simp only [impl_shapeOk.l0]
          rw [if_pos len_lt, if_pos (by omega), if_pos len_lt, rd_mid, within_eq]; simp only [Option.bind_some, ha.1, ha.2, and_self, decide_true, if_true]
          rw [if_pos hp, w64 (x := f * a) (by omega) (by omega), if_neg hb, w64 (x := s * a) (by omega) (by omega), next_mid p t a hl]
      · have ih := shapeOk_loop t (p ++ [a]) (s * a) f _ (by left; have : a = 0 := by omega
                                                             simp [this]) h0 h1 (by simpa using hl) rfl
        rw [← app_mid] at ih
        refine evVal (evRound ih fun k => ?_) (by simp [szGo, ha, hp])
        simp only [impl_shapeOk.l0]
        rw [if_pos len_lt, if_pos (by omega), if_pos len_lt, rd_mid, within_eq]; simp only [Option.bind_some, ha.1, ha.2, and_self, decide_true, if_true]
        rw [if_neg hp, if_neg (by omega), w64 (x := s * a) (by omega) (by omega), next_mid p t a hl]
    · refine evRound (Ev.now _) fun k => ?_
      simp only [impl_shapeOk.l0, szGo]
      rw [if_pos len_lt, if_pos (by omega), if_pos len_lt, rd_mid, within_eq, if_neg ha]; simp only [Option.bind_some, ha, decide_false, Bool.false_eq_true, if_false]
/-- What the program's shapeOk answers. -/
def shSize (l : List Int) : Int × Bool := if shOk l then (prod l, true) else (0, false)
theorem shapeOk_ev (l : List Int) : Ev (fun k => impl_shapeOk.f k l) (shSize l) := by
  unfold shSize shOk
  by_cases h : l.length ≤ 5
  · have h1 := shapeOk_loop l [] 1 1 _ (.inr rfl) (by omega) (by omega) (by simp; omega) rfl
    refine evVal (Ev.congr (fun k => ?_) h1) ?_
    · simp only [impl_shapeOk.f]; rw [if_neg (by omega)]; rfl
    · rw [szGo_eq]; simp [h]
  · refine evEq fun k => ?_
    simp only [impl_shapeOk.f]; rw [if_pos (by omega)]; simp [h]

/-- What the reference's l3Count answers. -/
def cnGo : Int → Bool → List Int → Int
  | x, z, [] => if z then 0 else x
  | x, z, a :: t => if a = 0 then cnGo x true t else if x * a > 10000 then -1 else cnGo (x * a) z t
def cnt (l : List Int) : Int := if shGo 1 l then prod l else -1
theorem cnGo_eq : ∀ (l : List Int) (x : Int) (z : Bool), (∀ a ∈ l, 0 ≤ a ∧ a ≤ 10000) → cnGo x z l = if shGo x l then (if z then 0 else x * prod l) else -1
  | [], x, z, _ => by simp [cnGo, shGo, prod]
  | a :: t, x, z, h => by
    have ha := h a (by simp)
    have ht : ∀ b ∈ t, 0 ≤ b ∧ b ≤ 10000 := fun b hb => h b (by simp [hb])
    simp only [cnGo, shGo]
    by_cases h0 : a = 0
    · subst h0; simp [cnGo_eq t _ _ ht, prod]
    · rw [if_neg h0]
      by_cases h1 : x * a > 10000
      · rw [if_pos h1]; simp [h0, show ¬ x * a ≤ 10000 by omega]
      · rw [if_neg h1, cnGo_eq t _ _ ht]; simp [ha, h0, show x * a ≤ 10000 by omega, prod, Int.mul_assoc]
theorem l3Count_loop1 : ∀ (t p : List Int) (x : Int) (z : Bool), (∀ a ∈ t, 0 ≤ a ∧ a ≤ 10000) → 0 ≤ x → x ≤ 10000 → (p ++ t).length < 35184372088833 →
    Ev (fun k => spec_l3Count.l1 k (p ++ t) x z (p.length : Int)) (cnGo x z t)
  | [], p, x, z, _, _, _, _ => by
    refine evRound (f := fun _ => some (cnGo x z [])) (Ev.now _) fun k => ?_
    simp only [spec_l3Count.l1]; rw [if_neg len_nlt]; cases z <;> simp [cnGo]
  | a :: t, p, x, z, hr, h0, h1, hl => by
    have ha := hr a (by simp)
    have hxa := mul_in h0 h1 ha.1 ha.2
    have ht : ∀ b ∈ t, 0 ≤ b ∧ b ≤ 10000 := fun b hb => hr b (by simp [hb])
    by_cases e : a = 0
    · have ih := l3Count_loop1 t (p ++ [a]) x true ht h0 h1 (by simpa using hl)
      rw [← app_mid] at ih
      refine evVal (evRound ih fun k => ?_) (by simp [cnGo, e])
      simp only [spec_l3Count.l1]
      rw [if_pos len_lt, if_pos (by omega), rd_mid, if_pos e, next_mid p t a hl]
    · by_cases hb : x * a > 10000
      · refine evRound (f := fun _ => some (cnGo x z (a :: t))) (Ev.now _) fun k => ?_
        simp only [spec_l3Count.l1]
        rw [if_pos len_lt, if_pos (by omega), rd_mid, if_neg e, w64 (by omega) (by omega), if_pos hb]; simp [cnGo, e, hb]
      · have ih := l3Count_loop1 t (p ++ [a]) (x * a) z ht hxa.1 (by omega) (by simpa using hl)
        rw [← app_mid] at ih
        refine evVal (evRound ih fun k => ?_) (by simp [cnGo, e, hb])
        simp only [spec_l3Count.l1]
        rw [if_pos len_lt, if_pos (by omega), rd_mid, if_neg e, w64 (by omega) (by omega), if_neg hb, next_mid p t a hl]
theorem l3Count_loop0 : ∀ (t p : List Int), (∀ a ∈ p, 0 ≤ a ∧ a ≤ 10000) → (p ++ t).length < 35184372088833 →
    Ev (fun k => spec_l3Count.l0 k (p ++ t) 1 (p.length : Int)) (if ∀ a ∈ t, 0 ≤ a ∧ a ≤ 10000 then cnGo 1 false (p ++ t) else -1)
  | [], p, hp, hl => by
    have h1 := l3Count_loop1 p [] 1 false hp (by omega) (by omega) (by simpa using hl)
    refine evVal (evRound h1 fun k => ?_) (by simp)
    simp only [spec_l3Count.l0]; rw [if_neg len_nlt]; simp
  | a :: t, p, hp, hl => by
    by_cases ha : 0 ≤ a ∧ a ≤ 10000
    · have ih := l3Count_loop0 t (p ++ [a]) (fun b hb => by rcases List.mem_append.1 hb with h | h
                                                            · exact hp b h
                                                            · obtain rfl := List.mem_singleton.1 h; exact ha) (by simpa using hl)
      rw [← app_mid] at ih
      refine evVal (evRound ih fun k => ?_) (by simp [ha])
      simp only [spec_l3Count.l0]
      rw [if_pos len_lt, if_pos (by omega), rd_mid, if_neg (by omega), if_neg (by omega), next_mid p t a hl]
    · refine evRound (f := fun _ => some (-1)) (evVal (Ev.now _) (by rw [if_neg]; intro h; exact ha (h a (by simp)))) fun k => ?_
      simp only [spec_l3Count.l0]
      rw [if_pos len_lt, if_pos (by omega), rd_mid]
      by_cases h : a < 0
      · rw [if_pos h]
      · rw [if_neg h, if_pos (by omega)]
theorem l3Count_ev (l : List Int) (h : l.length ≤ 35184372088832) : Ev (fun k => spec_l3Count.f k l) (cnt l) := by
  have h1 := l3Count_loop0 l [] (by simp) (by simp; omega)
  refine evVal (Ev.congr (fun k => rfl) h1) ?_
  unfold cnt
  by_cases hr : ∀ a ∈ l, 0 ≤ a ∧ a ≤ 10000
  · rw [if_pos hr, List.nil_append, cnGo_eq l 1 false hr]; simp
  · rw [if_neg hr, if_neg]; intro hs; exact hr (shGo_range hs)
end Go.Proofs.Ytipjhbngbaifeaa.PA

-- By a program (prt.py, over the print of the kit), for this claim. Not trusted: Lean checks it.
namespace Go.Proofs.Ytipjhbngbaifeaa.PA
open Go.RowKit Go.Proofs.YtipjhbngbaifeaaW.PrintWords Go.Proofs.YtipjhbngbaifeaaW.PrintLast Go.Proofs.YtipjhbngbaifeaaW.PrintMore
attribute [local go_sem] max2_int min2_int max_two min_two max_three min_three max_four min_four   -- for this text's walks alone
set_option linter.unusedVariables false
set_option linter.unusedSimpArgs false

/-! ### spec_WholeView: function 20 -/
def spec_WholeView.l0 : Nat → List Int → Int → Int → Int → List Int → List Int → Option (Int × List Int × List Int × Bool)
  | 0, _, _, _, _, _, _ => none
  | k + 1, x0, x5, x6, x110000, x110001, x110002 => if x6 ≥ 0 then (if 0 ≤ x6 then (if x6 < (x110002.length : Int) then ((some (x110002.set (x6 : Int).toNat x5 : List Int)).bind fun y110 => (if x6 < (x0.length : Int) then (if (rd x0 x6) > 0 then (spec_WholeView.l0 k x0 (wrap64 (x5 * (rd x0 x6))) (wrap64 (x6 - 1)) x110000 x110001 y110) else (spec_WholeView.l0 k x0 x5 (wrap64 (x6 - 1)) x110000 x110001 y110)) else (none))) else (none)) else (none)) else (some (x110000, x110001, x110002, true))
def spec_WholeView.f (k : Nat) (l0 : List Int) : Option (Int × List Int × List Int × Bool) := (spec_l3ShapeOk.f k l0).bind fun t102 => (if t102 = true then ((spec_l3Ints.f l0).bind fun t103 => (if 0 ≤ (l0.length : Int) then (if ((l0.length : Int) : Int).toNat ≤ 35184372088832 then (spec_WholeView.l0 k l0 1 (wrap64 ((l0.length : Int) - 1)) 0 t103 (List.replicate ((l0.length : Int) : Int).toNat 0)) else (none)) else (none))) else (some (0, ([] : List Int), ([] : List Int), false)))
theorem spec_WholeView.mono_l : ∀ k, (∀ y0 y1 y2 y3 y4 y5, LeO (spec_WholeView.l0 k y0 y1 y2 y3 y4 y5) (spec_WholeView.l0 (k + 1) y0 y1 y2 y3 y4 y5))
  | 0 => fun _ _ _ _ _ _ r h => by simp [spec_WholeView.l0] at h
  | k + 1 => by
    have ih0 := spec_WholeView.mono_l k
    · intro y0 y1 y2 y3 y4 y5
      unfold spec_WholeView.l0
      repeat' first
      | (with_reducible exact ih0 _ _ _ _ _ _)
      | (with_reducible exact spec_l3ShapeOk.mono _ _)
      | (with_reducible exact LeO.refl _)
      | (with_reducible exact LeO.none _)
      | (with_reducible refine LeO.ite ?_ ?_)
      | (with_reducible refine LeO.bind ?_ (fun _ => ?_))
      | exact ih0 _ _ _ _ _ _
      | exact spec_l3ShapeOk.mono _ _
      | exact LeO.none _
      | refine LeO.ite ?_ ?_
      | refine LeO.bind ?_ (fun _ => ?_)
theorem spec_WholeView.mono : ∀ a0 k, LeO (spec_WholeView.f k a0) (spec_WholeView.f (k + 1) a0) := by
  intro a0 k
  have ih0 := spec_WholeView.mono_l k
  unfold spec_WholeView.f
  repeat' first
      | (with_reducible exact ih0 _ _ _ _ _ _)
      | (with_reducible exact spec_l3ShapeOk.mono _ _)
      | (with_reducible exact LeO.refl _)
      | (with_reducible exact LeO.none _)
      | (with_reducible refine LeO.ite ?_ ?_)
      | (with_reducible refine LeO.bind ?_ (fun _ => ?_))
      | exact ih0 _ _ _ _ _ _
      | exact spec_l3ShapeOk.mono _ _
      | exact LeO.none _
      | refine LeO.ite ?_ ?_
      | refine LeO.bind ?_ (fun _ => ?_)
def spec_WholeView.B3 : List Nat := [0, 1, 0, 4, 12, 31, 0, 127]

end Go.Proofs.Ytipjhbngbaifeaa.PA

-- By a program (prt.py, over the print of the kit), for this claim. Not trusted: Lean checks it.
namespace Go.Proofs.Ytipjhbngbaifeaa.PA
open Go.RowKit Go.Proofs.YtipjhbngbaifeaaW.PrintWords Go.Proofs.YtipjhbngbaifeaaW.PrintLast Go.Proofs.YtipjhbngbaifeaaW.PrintMore
attribute [local go_sem] max2_int min2_int max_two min_two max_three min_three max_four min_four   -- for this text's walks alone
set_option linter.unusedVariables false
set_option linter.unusedSimpArgs false

/-! ### impl_wholeStrides: function 58 -/
def impl_wholeStrides.l0 : Nat → List Int → List Int → Int → Int → Option (List Int)
  | 0, _, _, _, _ => none
  | k + 1, x0, x3, x4, x5 => if x5 ≥ 0 then (if 0 ≤ x5 then (if x5 < (x3.length : Int) then (if x5 < (x0.length : Int) then (impl_wholeStrides.l0 k x0 (x3.set (x5 : Int).toNat x4) (wrap64 (x4 * (mx 1 (rd x0 x5)))) (wrap64 (x5 - 1))) else (none)) else (none)) else (none)) else (some x3)
def impl_wholeStrides.f (k : Nat) (l0 : List Int) : Option (List Int) := if 0 ≤ (l0.length : Int) then (if ((l0.length : Int) : Int).toNat ≤ 35184372088832 then (impl_wholeStrides.l0 k l0 (List.replicate ((l0.length : Int) : Int).toNat 0) 1 (wrap64 ((l0.length : Int) - 1))) else (none)) else (none)
theorem impl_wholeStrides.mono_l : ∀ k, (∀ y0 y1 y2 y3, LeO (impl_wholeStrides.l0 k y0 y1 y2 y3) (impl_wholeStrides.l0 (k + 1) y0 y1 y2 y3))
  | 0 => fun _ _ _ _ r h => by simp [impl_wholeStrides.l0] at h
  | k + 1 => by
    have ih0 := impl_wholeStrides.mono_l k
    · intro y0 y1 y2 y3
      unfold impl_wholeStrides.l0
      repeat' first
      | (with_reducible exact ih0 _ _ _ _)
      | (with_reducible exact LeO.refl _)
      | (with_reducible exact LeO.none _)
      | (with_reducible refine LeO.ite ?_ ?_)
      | (with_reducible refine LeO.bind ?_ (fun _ => ?_))
      | exact ih0 _ _ _ _
      | exact LeO.none _
      | refine LeO.ite ?_ ?_
      | refine LeO.bind ?_ (fun _ => ?_)
theorem impl_wholeStrides.mono : ∀ a0 k, LeO (impl_wholeStrides.f k a0) (impl_wholeStrides.f (k + 1) a0) := by
  intro a0 k
  have ih0 := impl_wholeStrides.mono_l k
  unfold impl_wholeStrides.f
  repeat' first
      | (with_reducible exact ih0 _ _ _ _)
      | (with_reducible exact LeO.refl _)
      | (with_reducible exact LeO.none _)
      | (with_reducible refine LeO.ite ?_ ?_)
      | (with_reducible refine LeO.bind ?_ (fun _ => ?_))
      | exact ih0 _ _ _ _
      | exact LeO.none _
      | refine LeO.ite ?_ ?_
      | refine LeO.bind ?_ (fun _ => ?_)

end Go.Proofs.Ytipjhbngbaifeaa.PA

-- By a program (prt.py, over the print of the kit), for this claim. Not trusted: Lean checks it.
namespace Go.Proofs.Ytipjhbngbaifeaa.PA
open Go.RowKit Go.Proofs.YtipjhbngbaifeaaW.PrintWords Go.Proofs.YtipjhbngbaifeaaW.PrintLast Go.Proofs.YtipjhbngbaifeaaW.PrintMore
attribute [local go_sem] max2_int min2_int max_two min_two max_three min_three max_four min_four   -- for this text's walks alone
set_option linter.unusedVariables false
set_option linter.unusedSimpArgs false

/-! ### impl_WholeView: function 22 -/
def impl_WholeView.f (k : Nat) (l0 : List Int) : Option (Int × List Int × List Int × Bool) := (impl_shapeOk.f k l0).bind fun bt102 => (if bt102.2 = true then ((slices_Clone_int_int.f l0).bind fun t104 => ((impl_wholeStrides.f k l0).bind fun t107 => (some (0, t104, t107, true)))) else (some (0, ([] : List Int), ([] : List Int), false)))
theorem impl_WholeView.mono : ∀ a0 k, LeO (impl_WholeView.f k a0) (impl_WholeView.f (k + 1) a0) := by
  intro a0 k
  unfold impl_WholeView.f
  repeat' first
      | (with_reducible exact impl_shapeOk.mono _ _)
      | (with_reducible exact impl_wholeStrides.mono _ _)
      | (with_reducible exact LeO.refl _)
      | (with_reducible exact LeO.none _)
      | (with_reducible refine LeO.ite ?_ ?_)
      | (with_reducible refine LeO.bind ?_ (fun _ => ?_))
      | exact impl_shapeOk.mono _ _
      | exact impl_wholeStrides.mono _ _
      | exact LeO.none _
      | refine LeO.ite ?_ ?_
      | refine LeO.bind ?_ (fun _ => ?_)

end Go.Proofs.Ytipjhbngbaifeaa.PA

namespace Go.Proofs.Ytipjhbngbaifeaa.PA
open Go.RowKit Go.Proofs.YtipjhbngbaifeaaW.PrintWords Go.Proofs.YtipjhbngbaifeaaW.PrintLast Go.Proofs.YtipjhbngbaifeaaW.PrintMore

theorem l3Ints_eq (l : List Int) (h : l.length < 17592186044416) : spec_l3Ints.f l = some l := by
  simp [spec_l3Ints.f, h]
theorem l3ShapeOk_ev (l : List Int) (h : l.length ≤ 35184372088832) : Ev (fun k => spec_l3ShapeOk.f k l) (shOk l) := by
  simp only [spec_l3ShapeOk.f, shOk]
  by_cases h5 : (l.length : Int) ≤ 5
  · simp only [h5, if_true]
    refine Ev.bind (l3Count_ev l h) ?_
    refine evVal (Ev.now _) ?_
    unfold cnt
    by_cases hs : shGo 1 l = true
    · have := shGo_bound hs
      simp [hs, show l.length ≤ 5 by omega]; omega
    · simp [hs]
  · simp only [h5, if_false]; exact evVal (Ev.now _) (by simp [show ¬ l.length ≤ 5 by omega])

theorem toView_ev (b : Int) (l1 l2 : List Int) (h1 : l1.length ≤ 35184372088832) (h2 : l2.length ≤ 35184372088832) : Ev (fun k => laws_toView.f k b l1 l2) (b, l1, l2) := by
  simp only [laws_toView.f]
  exact Ev.bind (toIntS_ev l1 h1) (Ev.bind (toIntS_ev l2 h2) (Ev.now _))
theorem eqView_self (b : Int) (l1 l2 : List Int) (h1 : l1.length ≤ 35184372088832) (h2 : l2.length ≤ 35184372088832) : Ev (fun k => laws_eqView.f k b l1 l2 b l1 l2) true := by
  simp only [laws_eqView.f, if_true]
  refine Ev.bind (evVal (eqIntS_ev l1 l1 h1) (decide_eq_true rfl)) ?_
  simp only [if_true]
  refine Ev.bind (evVal (eqIntS_ev l2 l2 h2) (decide_eq_true rfl)) ?_
  simp only [if_true]; exact Ev.now _
theorem szView_eq (b : Int) (l1 l2 : List Int) (a : Int) (h0 : 0 ≤ a) (h1 : a ≤ 1048576) (hl1 : l1.length ≤ maxLen) (hl2 : l2.length ≤ maxLen) :
    laws_szView.f b l1 l2 a = some (if (l1.length : Int) + l2.length ≤ a then a - l1.length - l2.length else -1) := by
  unfold laws_szView.f
  rw [szIntS_eq l1 a h0 h1 hl1]; simp only [Option.bind_some]
  by_cases h : (l1.length : Int) ≤ a
  · rw [if_pos h, if_neg (by omega), szIntS_eq l2 _ (by omega) (by omega) hl2]; simp only [Option.bind_some]
    by_cases h' : (l2.length : Int) ≤ a - l1.length
    · rw [if_pos h', if_neg (by omega), if_pos (by omega)]
    · rw [if_neg h', if_pos (by omega), if_neg (by omega)]
  · rw [if_neg h, if_pos (by omega), if_neg (by omega)]

/-- The numbers from a on, n of them. -/
def upFrom : Int → Nat → List Int
  | _, 0 => []
  | a, n + 1 => a :: upFrom (a + 1) n
theorem upFrom_len : ∀ (n : Nat) (a : Int), (upFrom a n).length = n
  | 0, _ => rfl
  | n + 1, a => by simp [upFrom, upFrom_len n]
theorem markIntS_loop : ∀ (t p : List Int) (a : Int), (p ++ t).length < 35184372088833 → 0 ≤ a → a + t.length ≤ 9000000000000000000 →
    Ev (fun k => laws_markIntS.l0 k (p ++ t) a (p.length : Int)) (a + t.length, p ++ upFrom a t.length)
  | [], p, a, _, _, _ => by
    refine evVal (evRound (Ev.now _) fun k => ?_) (by simp [upFrom] : (a, p ++ []) = _)
    simp only [laws_markIntS.l0]; rw [if_neg len_nlt]
  | b :: t, p, a, hl, h0, h1 => by
    have ih := markIntS_loop t (p ++ [a]) (a + 1) (by simpa using hl) (by omega) (by simp only [List.length_cons] at h1; omega)
    refine evVal (evRound ih fun k => ?_) (by simp [upFrom]; omega)
    simp only [laws_markIntS.l0]
    rw [if_pos len_lt, if_pos (by omega), next_mid p t b hl, Int.toNat_natCast, set_mid, w64 (by omega) (by simp only [List.length_cons] at h1; omega)]
    simp
theorem markIntS_ev (l : List Int) (a : Int) (hl : l.length ≤ 35184372088832) (h0 : 0 ≤ a) (h1 : a ≤ 1000000000000000000) : Ev (fun k => laws_markIntS.f k l a) (a + l.length, upFrom a l.length) := by
  have := markIntS_loop l [] a (by simp; omega) h0 (by omega)
  simpa [laws_markIntS.f] using this
theorem heldIntS_loop : ∀ (n : Nat) (p : List Int) (a : Int), p.length + n < 35184372088833 → 0 ≤ a → a + n ≤ 9000000000000000000 →
    Ev (fun k => laws_heldIntS.l0 k (p ++ upFrom a n) a (p.length : Int)) (a + n)
  | 0, p, a, _, _, _ => by
    rw [show upFrom a 0 = [] from rfl]
    refine evVal (evRound (Ev.now a) fun k => ?_) (by simp)
    simp only [laws_heldIntS.l0]; rw [if_neg len_nlt]
  | n + 1, p, a, hl, h0, h1 => by
    have ih := heldIntS_loop n (p ++ [a]) (a + 1) (by simp; omega) (by omega) (by omega)
    rw [← app_mid] at ih
    rw [show upFrom a (n + 1) = a :: upFrom (a + 1) n from rfl]
    refine evVal (evRound ih fun k => ?_) (by omega)
    simp only [laws_heldIntS.l0]
    rw [if_pos len_lt, if_pos (by omega), rd_mid, if_pos rfl, next_mid p (upFrom (a + 1) n) a (by simp [upFrom_len]; omega), w64 (by omega) (by omega)]
theorem heldIntS_ev (n : Nat) (a : Int) (hl : n ≤ 35184372088832) (h0 : 0 ≤ a) (h1 : a ≤ 1000000000000000000) : Ev (fun k => laws_heldIntS.f k (upFrom a n) a) (a + n) := by
  have := heldIntS_loop n [] a (by simp; omega) h0 (by omega)
  simpa [laws_heldIntS.f] using this
theorem markView_ev (b : Int) (l1 l2 : List Int) (a : Int) (h1 : l1.length ≤ 35184372088832) (h2 : l2.length ≤ 35184372088832) (h0 : 0 ≤ a) (ha : a ≤ 1000000000000) :
    Ev (fun k => laws_markView.f k b l1 l2 a) (a + l1.length + l2.length, upFrom a l1.length, upFrom (a + l1.length) l2.length) := by
  simp only [laws_markView.f]
  exact Ev.bind (markIntS_ev l1 a h1 h0 (by omega)) (Ev.bind (markIntS_ev l2 (a + l1.length) h2 (by omega) (by omega)) (Ev.now _))
theorem heldView_ev (b : Int) (n m : Nat) (a : Int) (h1 : n ≤ 35184372088832) (h2 : m ≤ 35184372088832) (h0 : 0 ≤ a) (ha : a ≤ 1000000000000) :
    Ev (fun k => laws_heldView.f k b (upFrom a n) (upFrom (a + n) m) a) (a + n + m) := by
  simp only [laws_heldView.f]
  refine Ev.bind (heldIntS_ev n a h1 h0 (by omega)) ?_
  simp only [show ¬ a + (n : Int) < 0 by omega, if_false]
  refine Ev.bind (heldIntS_ev m (a + n) h2 (by omega) (by omega)) ?_
  simp only [show ¬ a + (n : Int) + (m : Int) < 0 by omega, if_false]
  exact Ev.now _

/-! ### strides -/
theorem shOk_len {l : List Int} (h : shOk l = true) : l.length ≤ 5 := by
  simp only [shOk, Bool.and_eq_true, decide_eq_true_eq] at h; exact h.1
end Go.Proofs.Ytipjhbngbaifeaa.PA

namespace Go.Proofs.Ytipjhbngbaifeaa.PA
open Go.RowKit Go.Proofs.YtipjhbngbaifeaaW.PrintWords Go.Proofs.YtipjhbngbaifeaaW.PrintLast Go.Proofs.YtipjhbngbaifeaaW.PrintMore
set_option linter.unusedVariables false
set_option linter.unusedSimpArgs false
def inR (x : Int) : Bool := decide (-10000 ≤ x ∧ x ≤ 10000)
def pad5 (l : List Int) : List Int := l ++ List.replicate (5 - l.length) 0
def zero12 : List Int := List.replicate 12 0
def formedB (off : Int) (l1 l2 : List Int) : Bool := shOk l1 && decide (l2.length = l1.length) && inR off && l2.all inR
def formedL (off : Int) (l1 l2 : List Int) : List Int := if formedB off l1 l2 then off :: (l1.length : Int) :: (pad5 l1 ++ pad5 l2) else zero12
theorem pad5_len {l : List Int} (h : l.length ≤ 5) : (pad5 l).length = 5 := by simp [pad5]; omega
theorem formedL_len {off : Int} {l1 l2 : List Int} : (formedL off l1 l2).length = 12 := by
  unfold formedL
  by_cases h : formedB off l1 l2 = true
  · rw [if_pos h]
    simp only [formedB, Bool.and_eq_true, decide_eq_true_eq] at h
    have h5 := shOk_len h.1.1.1
    simp [pad5_len h5, pad5_len (show l2.length ≤ 5 by omega)]
  · rw [if_neg h]; rfl
set_option maxHeartbeats 2000000 in
set_option maxRecDepth 100000 in
theorem formed_a (k : Nat) (off : Int) (A1 A2 : Option Addr) (c1 c2 : Nat) (l1 l2 : List Int) (w : World) (hr1 : Kd.C (Kd.int .i64) w A1 l1.length l1) (hc1 : l1.length ≤ c1) (hr2 : Kd.C (Kd.int .i64) w A2 l2.length l2) (hc2 : l2.length ≤ c2)
    (hk : impl_shapeOk.f k l1 = some (shSize l1)) (h : shOk l1 = false) :
    Calls Try.prog 63 #[.agg #[.int .i64 off, .slice A1 l1.length c1, .slice A2 l2.length c2]] w fun e w' => e = .returned (.tuple #[.agg (lay zero12), .bool false]) ∧ Below w.heap.size w w' := by
  have HR1 := Aside0.mk hr1
  have HC1 := Aside0.mk hc1
  have HR2 := Aside0.mk hr2
  have HC2 := Aside0.mk hc2
  clear hr1 hc1 hr2 hc2
  have e : shSize l1 = (0, false) := by simp [shSize, h]
  rw [e] at hk
  have HK := Aside0.mk hk
  clear hk e h
  go_enter Try.func63, Try.ntmps63
  go_wp2_with (first | ((with_reducible refine gate_dst (N := 1) rfl ?_); refine box_event ?hg (N := 1) ?hd (cs := #[.int .i64 off, .slice A1 l1.length c1, .slice A2 l2.length c2]) (t := 33) ?hr ?_; (case hd => rfl); (case hg => rfl); (case hr => first | (go_simp; done) | (go_simp; rfl)); intro g1 hg1 w1 hb1 hB1; have HB1 := Aside0.mk hb1; have HW := Aside0.mk hB1; have HG1 := Aside0.mk hg1; clear hb1 hB1 hg1) | ((with_reducible refine gate_dst (N := 2) rfl ?_); refine box_event ?hg (N := 2) ?hd (cs := lay zero12) (t := 67) ?hr ?_; (case hd => rfl); (case hg => rfl); (case hr => first | (go_simp; done) | (go_simp; rfl)); intro g2 hg2 w2 hb2 hB2; have HB2 := Aside0.mk hb2; have nw := Aside0.mk (below_step HW.out hB2); have HLT := Aside0.mk (show g1 < g2 by have := blk_lt HB1.out; omega); have HGE := Aside0.mk (show w.heap.size ≤ g2 by have h1 := blk_lt HB1.out; have h2 := HG1.out; omega); have n1 := Aside0.mk (blk_below HB1.out hB2); clear HB1 HW; have HB1 := n1; have HW := nw; clear n1 nw; clear hb2 hB2 hg2; have hv0 : w2.cell? ⟨g1, 0, none⟩ = some (.int .i64 off) := (blk_cell HB1.out 0).trans rfl; have hv1 : w2.cell? ⟨g1, 1, none⟩ = some (.slice A1 l1.length c1) := (blk_cell HB1.out 1).trans rfl; have hv2 : w2.cell? ⟨g1, 2, none⟩ = some (.slice A2 l2.length c2) := (blk_cell HB1.out 2).trans rfl) | (go_at_call 52; refine (impl_shapeOk.calls k _ _ l1 0 false _ ?s1 ?s2 HK.out).mono ?_; (case s1 => exact Kd.C_below HR1.out HW.out); (case s2 => exact HC1.out); rintro e w5 ⟨rfl, ⟨⟨n5, rfl⟩⟩⟩) | ((with_reducible refine gate_store rfl ?_); refine wpList_store_row rfl 67 (.tmp 2) (.tmp 32) rfl g2 (lay zero12) rfl rfl 67 (lay zero12) (by (with_reducible repeat (first | refine blk_drew ?_ | refine blk_drewN ?_ _ | refine blk_alloc ?_ _)); exact HB2.out) (info67 _ rfl) rfl (lay_one _) ?_))
  refine bodyPost_ret (results_ct rfl _ _ g2 67 (lay zero12) (0, 0) _ rfl (setRow_heap _ g2 _ _ _ (0, 0) (by (with_reducible repeat (first | refine blk_drew ?_ | refine blk_drewN ?_ _ | refine blk_alloc ?_ _)); exact HB2.out)) Try.underlying67 rfl (info67 _ rfl)) rfl ⟨rfl, below_setRow (by repeat (first | exact HW.out | apply below_drew1 | apply pw_below_drewN)) HGE.out _⟩
set_option maxHeartbeats 2000000 in
set_option maxRecDepth 100000 in
theorem formed_b (k : Nat) (off : Int) (A1 A2 : Option Addr) (c1 c2 : Nat) (l1 l2 : List Int) (w : World) (hr1 : Kd.C (Kd.int .i64) w A1 l1.length l1) (hc1 : l1.length ≤ c1) (hr2 : Kd.C (Kd.int .i64) w A2 l2.length l2) (hc2 : l2.length ≤ c2)
    (hk : impl_shapeOk.f k l1 = some (shSize l1)) (h : shOk l1 = true) (hne : l2.length ≠ l1.length) :
    Calls Try.prog 63 #[.agg #[.int .i64 off, .slice A1 l1.length c1, .slice A2 l2.length c2]] w fun e w' => e = .returned (.tuple #[.agg (lay zero12), .bool false]) ∧ Below w.heap.size w w' := by
  have HR1 := Aside0.mk hr1
  have HC1 := Aside0.mk hc1
  have HR2 := Aside0.mk hr2
  have HC2 := Aside0.mk hc2
  clear hr1 hc1 hr2 hc2
  have e : shSize l1 = (prod l1, true) := by simp [shSize, h]
  rw [e] at hk
  have HK := Aside0.mk hk
  clear hk e h
  have q1 : ((l2.length : Int) != (l1.length : Int)) = true := by simp; omega
  have q2 : (l2.length != l1.length) = true := by simpa using hne
  have q3 : ((l2.length : Int) == (l1.length : Int)) = false := by simp; omega
  clear hne
  go_enter Try.func63, Try.ntmps63
  go_wp2_with (first | ((with_reducible refine gate_dst (N := 1) rfl ?_); refine box_event ?hg (N := 1) ?hd (cs := #[.int .i64 off, .slice A1 l1.length c1, .slice A2 l2.length c2]) (t := 33) ?hr ?_; (case hd => rfl); (case hg => rfl); (case hr => first | (go_simp; done) | (go_simp; rfl)); intro g1 hg1 w1 hb1 hB1; have HB1 := Aside0.mk hb1; have HW := Aside0.mk hB1; have HG1 := Aside0.mk hg1; clear hb1 hB1 hg1) | ((with_reducible refine gate_dst (N := 2) rfl ?_); refine box_event ?hg (N := 2) ?hd (cs := lay zero12) (t := 67) ?hr ?_; (case hd => rfl); (case hg => rfl); (case hr => first | (go_simp; done) | (go_simp; rfl)); intro g2 hg2 w2 hb2 hB2; have HB2 := Aside0.mk hb2; have nw := Aside0.mk (below_step HW.out hB2); have HLT := Aside0.mk (show g1 < g2 by have := blk_lt HB1.out; omega); have HGE := Aside0.mk (show w.heap.size ≤ g2 by have h1 := blk_lt HB1.out; have h2 := HG1.out; omega); have n1 := Aside0.mk (blk_below HB1.out hB2); clear HB1 HW; have HB1 := n1; have HW := nw; clear n1 nw; clear hb2 hB2 hg2; have hv0 : w2.cell? ⟨g1, 0, none⟩ = some (.int .i64 off) := (blk_cell HB1.out 0).trans rfl; have hv1 : w2.cell? ⟨g1, 1, none⟩ = some (.slice A1 l1.length c1) := (blk_cell HB1.out 1).trans rfl; have hv2 : w2.cell? ⟨g1, 2, none⟩ = some (.slice A2 l2.length c2) := (blk_cell HB1.out 2).trans rfl) | (go_at_call 52; refine (impl_shapeOk.calls k _ _ l1 (prod l1) true _ ?s1 ?s2 HK.out).mono ?_; (case s1 => exact Kd.C_below HR1.out HW.out); (case s2 => exact HC1.out); rintro e w5 ⟨rfl, ⟨⟨n5, rfl⟩⟩⟩) | ((with_reducible refine gate_store rfl ?_); refine wpList_store_row rfl 67 (.tmp 2) (.tmp 32) rfl g2 (lay zero12) rfl rfl 67 (lay zero12) (by (with_reducible repeat (first | refine blk_drew ?_ | refine blk_drewN ?_ _ | refine blk_alloc ?_ _)); exact HB2.out) (info67 _ rfl) rfl (lay_one _) ?_))
  refine bodyPost_ret (results_ct rfl _ _ g2 67 (lay zero12) (0, 0) _ rfl (setRow_heap _ g2 _ _ _ (0, 0) (by (with_reducible repeat (first | refine blk_drew ?_ | refine blk_drewN ?_ _ | refine blk_alloc ?_ _)); exact HB2.out)) Try.underlying67 rfl (info67 _ rfl)) rfl ⟨rfl, below_setRow (by repeat (first | exact HW.out | apply below_drew1 | apply pw_below_drewN)) HGE.out _⟩
set_option maxHeartbeats 2000000 in
set_option maxRecDepth 100000 in
theorem formed_c (k : Nat) (off : Int) (A1 A2 : Option Addr) (c1 c2 : Nat) (l1 l2 : List Int) (w : World) (hr1 : Kd.C (Kd.int .i64) w A1 l1.length l1) (hc1 : l1.length ≤ c1) (hr2 : Kd.C (Kd.int .i64) w A2 l2.length l2) (hc2 : l2.length ≤ c2)
    (hk : impl_shapeOk.f k l1 = some (shSize l1)) (h : shOk l1 = true) (hne : l2.length = l1.length) (ho : inR off = false) :
    Calls Try.prog 63 #[.agg #[.int .i64 off, .slice A1 l1.length c1, .slice A2 l2.length c2]] w fun e w' => e = .returned (.tuple #[.agg (lay zero12), .bool false]) ∧ Below w.heap.size w w' := by
  have HR1 := Aside0.mk hr1
  have HC1 := Aside0.mk hc1
  have HR2 := Aside0.mk hr2
  have HC2 := Aside0.mk hc2
  clear hr1 hc1 hr2 hc2
  have e : shSize l1 = (prod l1, true) := by simp [shSize, h]
  rw [e] at hk
  have HK := Aside0.mk hk
  clear hk e h
  have q1 : ((l2.length : Int) != (l1.length : Int)) = false := by simp; omega
  have q2 : (l2.length != l1.length) = false := by simpa using hne
  have HI : Aside0 (impl_within.f off (-10000) 10000 = some false) := ⟨by rw [within_eq]; exact congrArg some ho⟩
  clear hne ho
  go_enter Try.func63, Try.ntmps63
  go_wp2_with (first | ((with_reducible refine gate_dst (N := 1) rfl ?_); refine box_event ?hg (N := 1) ?hd (cs := #[.int .i64 off, .slice A1 l1.length c1, .slice A2 l2.length c2]) (t := 33) ?hr ?_; (case hd => rfl); (case hg => rfl); (case hr => first | (go_simp; done) | (go_simp; rfl)); intro g1 hg1 w1 hb1 hB1; have HB1 := Aside0.mk hb1; have HW := Aside0.mk hB1; have HG1 := Aside0.mk hg1; clear hb1 hB1 hg1) | ((with_reducible refine gate_dst (N := 2) rfl ?_); refine box_event ?hg (N := 2) ?hd (cs := lay zero12) (t := 67) ?hr ?_; (case hd => rfl); (case hg => rfl); (case hr => first | (go_simp; done) | (go_simp; rfl)); intro g2 hg2 w2 hb2 hB2; have HB2 := Aside0.mk hb2; have nw := Aside0.mk (below_step HW.out hB2); have HLT := Aside0.mk (show g1 < g2 by have := blk_lt HB1.out; omega); have HGE := Aside0.mk (show w.heap.size ≤ g2 by have h1 := blk_lt HB1.out; have h2 := HG1.out; omega); have n1 := Aside0.mk (blk_below HB1.out hB2); clear HB1 HW; have HB1 := n1; have HW := nw; clear n1 nw; clear hb2 hB2 hg2; have hv0 : w2.cell? ⟨g1, 0, none⟩ = some (.int .i64 off) := (blk_cell HB1.out 0).trans rfl; have hv1 : w2.cell? ⟨g1, 1, none⟩ = some (.slice A1 l1.length c1) := (blk_cell HB1.out 1).trans rfl; have hv2 : w2.cell? ⟨g1, 2, none⟩ = some (.slice A2 l2.length c2) := (blk_cell HB1.out 2).trans rfl) | (go_at_call 52; refine (impl_shapeOk.calls k _ _ l1 (prod l1) true _ ?s1 ?s2 HK.out).mono ?_; (case s1 => exact Kd.C_below HR1.out HW.out); (case s2 => exact HC1.out); rintro e w5 ⟨rfl, ⟨⟨n5, rfl⟩⟩⟩) | (go_at_call 54; refine (impl_within.calls _ _ _ false _ HI.out).mono ?_; rintro e w6 ⟨rfl, ⟨⟨n6, rfl⟩⟩⟩) | ((with_reducible refine gate_store rfl ?_); refine wpList_store_row rfl 67 (.tmp 2) (.tmp 32) rfl g2 (lay zero12) rfl rfl 67 (lay zero12) (by (with_reducible repeat (first | refine blk_drew ?_ | refine blk_drewN ?_ _ | refine blk_alloc ?_ _)); exact HB2.out) (info67 _ rfl) rfl (lay_one _) ?_))
  refine bodyPost_ret (results_ct rfl _ _ g2 67 (lay zero12) (0, 0) _ rfl (setRow_heap _ g2 _ _ _ (0, 0) (by (with_reducible repeat (first | refine blk_drew ?_ | refine blk_drewN ?_ _ | refine blk_alloc ?_ _)); exact HB2.out)) Try.underlying67 rfl (info67 _ rfl)) rfl ⟨rfl, below_setRow (by repeat (first | exact HW.out | apply below_drew1 | apply pw_below_drewN)) HGE.out _⟩
end Go.Proofs.Ytipjhbngbaifeaa.PA

namespace Go.Proofs.Ytipjhbngbaifeaa.PA
open Go.RowKit Go.Proofs.YtipjhbngbaifeaaW.PrintWords Go.Proofs.YtipjhbngbaifeaaW.PrintLast Go.Proofs.YtipjhbngbaifeaaW.PrintMore
set_option linter.unusedVariables false
set_option linter.unusedSimpArgs false
theorem slice_all (a : Addr) (W : World) : (Instr.sliceAt 65 (.pointer (some a)) none none none).run Try.prog W = .ok (.slice (some a) 5 5) W := by
  have hal : Try.prog.arrayLen 65 = 5 := by kernel_rfl
  have hel : Try.prog.elem 65 = 3 := by kernel_rfl
  have := run_sliceAt_array_all (P := Try.prog) (w := W) 65 a (by kernel_rfl)
  rw [hal, hel] at this
  obtain ⟨i, hi, hz⟩ := Option.map_eq_some_iff.1 info3
  rw [this]
  simp [sizeOf, typeInfo, hi, slicedAt, Addr.add]
theorem lay_splice (off n : Int) (l1 : List Int) (h : l1.length ≤ 5) : (splice (nums .i64 (off :: n :: List.replicate 10 0)) 2 (nums .i64 l1)).toArray = lay (off :: n :: (pad5 l1 ++ List.replicate 5 0)) := by
  unfold splice lay pad5
  congr 1
  have e : List.replicate 10 (0 : Int) = List.replicate l1.length 0 ++ (List.replicate (5 - l1.length) 0 ++ List.replicate 5 0) := by
    rw [List.replicate_append_replicate, List.replicate_append_replicate]; congr 1; omega
  rw [e]
  simp only [nums, List.map_cons, List.map_append, List.map_replicate, List.take_succ_cons, List.take_zero, List.length_map, List.drop_succ_cons, Nat.add_comm 2, Nat.add_eq, Nat.add_zero, List.cons_append, List.nil_append, List.append_assoc]
  rw [List.drop_left' (by simp)]
theorem lay_next {off n : Int} {l1 l2 : List Int} {j : Nat} {x : Int} (h5 : l1.length ≤ 5) (hne : l2.length = l1.length) (hj : j < l2.length) (hx : x = l2[j]) :
    (off :: n :: (pad5 l1 ++ (l2.take j ++ List.replicate (5 - j) 0))).set (7 + j) x = off :: n :: (pad5 l1 ++ (l2.take (j + 1) ++ List.replicate (5 - (j + 1)) 0)) := by
  have hp := pad5_len h5
  rw [show 7 + j = (5 + j) + 1 + 1 by omega, List.set_cons_succ, List.set_cons_succ, List.set_append_right _ _ (by omega), hp, show 5 + j - 5 = j by omega, List.set_append_right _ _ (by simp; omega), List.take_succ_eq_append_getElem hj]
  rw [show 5 - j = (5 - (j + 1)) + 1 by omega, List.replicate_succ]
  have : j - (List.take j l2).length = 0 := by simp; omega
  rw [this, hx]
  simp only [List.set_cons_zero, List.append_assoc, List.cons_append, List.nil_append]
set_option maxHeartbeats 2000000 in
set_option maxRecDepth 100000 in
theorem formed_d (k : Nat) (off : Int) (A1 A2 : Option Addr) (c1 c2 : Nat) (l1 l2 : List Int) (w : World) (hr1 : Kd.C (Kd.int .i64) w A1 l1.length l1) (hc1 : l1.length ≤ c1) (hr2 : Kd.C (Kd.int .i64) w A2 l2.length l2) (hc2 : l2.length ≤ c2)
    (hk : impl_shapeOk.f k l1 = some (shSize l1)) (h : shOk l1 = true) (hne : l2.length = l1.length) (ho : inR off = true) :
    Calls Try.prog 63 #[.agg #[.int .i64 off, .slice A1 l1.length c1, .slice A2 l2.length c2]] w fun e w' => e = .returned (.tuple #[.agg (lay (formedL off l1 l2)), .bool (formedB off l1 l2)]) ∧ Below w.heap.size w w' := by
  have HR1 := Aside0.mk hr1
  have HC1 := Aside0.mk hc1
  have HR2 := Aside0.mk hr2
  have HC2 := Aside0.mk hc2
  clear hr1 hc1 hr2 hc2
  have e : shSize l1 = (prod l1, true) := by simp [shSize, h]
  rw [e] at hk
  have HK := Aside0.mk hk
  have H5 := Aside0.mk (shOk_len h)
  clear hk e
  have HOK := Aside0.mk h
  clear h
  have q1 : ((l2.length : Int) != (l1.length : Int)) = false := by simp; omega
  have q2 : (l2.length != l1.length) = false := by simpa using hne
  have HI : Aside0 (impl_within.f off (-10000) 10000 = some true) := ⟨by rw [within_eq]; exact congrArg some ho⟩
  have HNE := Aside0.mk hne
  have HO := Aside0.mk ho
  clear hne ho
  go_enter Try.func63, Try.ntmps63
  go_upto_region 5 with (first | ((with_reducible refine gate_dst (N := 1) rfl ?_); refine box_event ?hg (N := 1) ?hd (cs := #[.int .i64 off, .slice A1 l1.length c1, .slice A2 l2.length c2]) (t := 33) ?hr ?_; (case hd => rfl); (case hg => rfl); (case hr => first | (go_simp; done) | (go_simp; rfl)); intro g1 hg1 w1 hb1 hB1; have HB1 := Aside0.mk hb1; have HW := Aside0.mk hB1; have HG1 := Aside0.mk hg1; clear hb1 hB1 hg1) | ((with_reducible refine gate_dst (N := 2) rfl ?_); refine box_event ?hg (N := 2) ?hd (cs := lay zero12) (t := 67) ?hr ?_; (case hd => rfl); (case hg => rfl); (case hr => first | (go_simp; done) | (go_simp; rfl)); intro g2 hg2 w2 hb2 hB2; have HB2 := Aside0.mk hb2; have nw := Aside0.mk (below_step HW.out hB2); have HLT := Aside0.mk (show g1 < g2 by have := blk_lt HB1.out; omega); have HGE := Aside0.mk (show w.heap.size ≤ g2 by have h1 := blk_lt HB1.out; have h2 := HG1.out; omega); have n1 := Aside0.mk (blk_below HB1.out hB2); clear HB1 HW; have HB1 := n1; have HW := nw; clear n1 nw; clear hb2 hB2 hg2; have hv0 : w2.cell? ⟨g1, 0, none⟩ = some (.int .i64 off) := (blk_cell HB1.out 0).trans rfl; have hv1 : w2.cell? ⟨g1, 1, none⟩ = some (.slice A1 l1.length c1) := (blk_cell HB1.out 1).trans rfl; have hv2 : w2.cell? ⟨g1, 2, none⟩ = some (.slice A2 l2.length c2) := (blk_cell HB1.out 2).trans rfl) | (go_at_call 52; refine (impl_shapeOk.calls k _ _ l1 (prod l1) true _ ?s1 ?s2 HK.out).mono ?_; (case s1 => exact Kd.C_below HR1.out HW.out); (case s2 => exact HC1.out); rintro e w5 ⟨rfl, ⟨⟨n5, rfl⟩⟩⟩) | (go_at_call 54; refine (impl_within.calls _ _ _ true _ HI.out).mono ?_; rintro e w6 ⟨rfl, ⟨⟨n6, rfl⟩⟩⟩) | ((with_reducible refine gate_dst (N := 6) rfl ?_); refine box_event ?hg (N := 6) ?hd (cs := lay zero12) (t := 67) ?hr ?_; (case hd => rfl); (case hg => rfl); (case hr => first | (go_simp; done) | (go_simp; rfl)); intro g3 hg3 w3 hb3 hB3; have HB3 := Aside0.mk hb3; have nw := Aside0.mk (below_step (by repeat (first | exact HW.out | apply below_drew1 | apply pw_below_drewN)) hB3); have HLT2 := Aside0.mk (show g2 < g3 by have := blk_lt HB2.out; have e := hg3; simp at e; omega); have n1 := Aside0.mk (blk_below (g := g1) (o := .cells #[.int .i64 off, .slice A1 l1.length c1, .slice A2 l2.length c2] 33 (0, 0)) (by (with_reducible repeat (first | refine blk_drew ?_ | refine blk_drewN ?_ _ | refine blk_alloc ?_ _)); exact HB1.out) hB3); have n2 := Aside0.mk (blk_below (g := g2) (o := .cells (lay zero12) 67 (0, 0)) (by (with_reducible repeat (first | refine blk_drew ?_ | refine blk_drewN ?_ _ | refine blk_alloc ?_ _)); exact HB2.out) hB3); clear HB1 HB2 HW; have HB1 := n1; have HB2 := n2; have HW := nw; clear n1 n2 nw; clear hb3 hB3 hg3) | ((with_reducible refine gate_store rfl ?_); refine wpList_store_row rfl 67 (.tmp 6) (.tmp 38) rfl g3 (lay (off :: (l1.length : Int) :: List.replicate 10 0)) rfl rfl 67 (lay zero12) HB3.out (info67 _ rfl) rfl (lay_one _) ?_))
  have NE1 := Aside0.mk (show g1 ≠ g3 by have := HLT.out; have := HLT2.out; omega)
  have NE2 := Aside0.mk (show g2 ≠ g3 by have := HLT2.out; omega)
  have B1 := Aside0.mk ((setRow_other w3 g3 g1 (lay (off :: (l1.length : Int) :: List.replicate 10 0)) NE1.out).trans HB1.out)
  have B2 := Aside0.mk ((setRow_other w3 g3 g2 (lay (off :: (l1.length : Int) :: List.replicate 10 0)) NE2.out).trans HB2.out)
  have B3 := Aside0.mk (setRow_heap w3 g3 _ (lay (off :: (l1.length : Int) :: List.replicate 10 0)) _ _ HB3.out)
  have BW := Aside0.mk (below_setRow HW.out (show w.heap.size ≤ g3 by have := HGE.out; have := HLT2.out; omega) (lay (off :: (l1.length : Int) :: List.replicate 10 0)))
  obtain ⟨W4, hW4⟩ : ∃ W, w3.setRow g3 (lay (off :: (l1.length : Int) :: List.replicate 10 0)) = W := ⟨_, rfl⟩
  rw [hW4] at B1 B2 B3 BW ⊢
  clear hW4 HB1 HB2 HB3 HW hv0 hv1 hv2
  have hu1 : W4.cell? ⟨g1, 1, none⟩ = some (.slice A1 l1.length c1) := (blk_cell B1.out 1).trans rfl
  have hs := slice_all ⟨g3, 2, none⟩
  have HCR := Aside0.mk (Kd.reads_of_C (d := (0 : Int)) (Kd.C_below HR1.out BW.out))
  go_region_law (refine step_copy_splice rfl (.tmp 40) (.tmp 42) 23 23 rfl 3 Try.underlying23 (by kernel_rfl) (some ⟨g3, 2, none⟩) A1 5 5 l1.length c1 rfl rfl g3 2 (nums .i64 (off :: (l1.length : Int) :: List.replicate 10 0)) 67 B3.out (nums .i64 l1) ?hn ?hpos ?hfit ?h1 g3 W4.drew (Below.refl _ _) (Nat.le_refl _) ?_; (case hn => rw [nums_length]; exact (Nat.min_eq_left H5.out).symm); (case hpos => intro hp; rw [nums_length] at hp; obtain ⟨ad, e, hc⟩ := HCR.out.2.2 hp; refine ⟨rfl, ad, e, fun j v hv => ?_⟩; simp only [nums, List.getElem?_map, Option.map_eq_some_iff] at hv; obtain ⟨x, hx, rfl⟩ := hv; have hj := (List.getElem?_eq_some_iff.1 hx).1; rw [show W4.drew.cell? (ad.add j) = W4.cell? (ad.add j) from rfl, hc j hj]; simp [List.getD_eq_getElem?_getD, hx]); (case hfit => have := H5.out; simp [nums_length]; omega); (case h1 => intro v hv; simp only [nums, List.mem_map] at hv; obtain ⟨x, _, rfl⟩ := hv; rfl); intro W5 hcp hB5)
  have LE := Aside0.mk (show w.heap.size ≤ g3 by have := HGE.out; have := HLT2.out; omega)
  have W5B := Aside0.mk ((below_drew1 BW.out).trans (hB5.mono LE.out))
  have C2 := Aside0.mk ((hB5.block g2 HLT2.out).trans B2.out)
  have hu2 : W5.cell? ⟨g1, 2, none⟩ = some (.slice A2 l2.length c2) := (blk_cell ((hB5.block g1 (show g1 < g3 by have := HLT.out; have := HLT2.out; omega)).trans B1.out) 2).trans rfl
  have C3 := Aside0.mk (by have h0 := hcp.out; rw [lay_splice _ _ _ H5.out] at h0; exact h0 : W5.heap[g3]? = some (.cells (lay (off :: (l1.length : Int) :: (pad5 l1 ++ List.replicate 5 0))) 67 (0, 0)))
  clear hcp hB5 B1 B2 B3 hu1 hs HCR BW
  go_wp2_with fail
  go_loopg [7, 8, 47] (l2.length + 1) (fun kq v7 v8 v47 w' => ∃ j : Nat, v47 = .int .i64 (j : Int) ∧ Aside0 (j + kq = l2.length + 1 ∧ j ≤ l2.length) ∧ Aside0 ((l2.take j).all inR = true) ∧ Aside0 (w'.heap[g2]? = some (.cells (lay zero12) 67 (0, 0))) ∧ Aside0 (w'.heap[g3]? = some (.cells (lay (off :: (l1.length : Int) :: (pad5 l1 ++ (l2.take j ++ List.replicate (5 - j) 0)))) 67 (0, 0))) ∧ Aside0 (Below w.heap.size w w'))
  case atStart => exact ⟨0, rfl, ⟨by omega⟩, ⟨rfl⟩, C2, C3, W5B⟩
  case round =>
    clear C2 C3 W5B hu2
    obtain ⟨j, rfl, HJ, HA, D2, D3, HW⟩ := hrel
    have HL12 := Aside0.mk (show (off :: (l1.length : Int) :: (pad5 l1 ++ (l2.take j ++ List.replicate (5 - j) 0))).length = 12 by have := HJ.out; have := H5.out; have := HNE.out; simp [pad5_len H5.out]; omega)
    cases gk with
    | zero => exact absurd HJ.out (by omega)
    | succ k1 =>
      by_cases hj : j < l2.length
      · have p1 : 0 ≤ (j : Int) := by omega
        have p2 : (j : Int) < (l2.length : Int) := by omega
        obtain ⟨ad1, e1, hx1⟩ := Kd.at_int (Kd.C_below HR2.out HW.out) (j : Int) p1 p2
        cases e1
        rw [Int.toNat_natCast] at hx1
        have hjb := decide_eq_true p2
        have hja := decide_eq_true p1
        replace p1 := eq_true p1
        replace p2 := eq_true p2
        have HJL := Aside0.mk hj
        have HX := Aside0.mk (show rd l2 (j : Int) = l2[j]'HJL.out by simp [rd, HJL.out])
        have hm : j < 5 := by have := HNE.out; have := H5.out; omega
        clear hj
        by_cases hin : inR (rd l2 (j : Int)) = true
        · have HI2 : Aside0 (impl_within.f (rd l2 (j : Int)) (-10000) 10000 = some true) := ⟨by rw [within_eq]; exact congrArg some hin⟩
          have hcc := lay_cell D3.out (7 + j) (by have := HL12.out; omega)
          have hff := blk_frozen D3.out (7 + j)
          go_wp2_with (first | (go_at_call 54; refine (impl_within.calls _ _ _ true _ HI2.out).mono ?_; rintro e w6 ⟨rfl, ⟨⟨n6, rfl⟩⟩⟩))
          go_roundg k1
          case measure => omega
          case rel =>
            refine ⟨j + 1, rfl, ⟨by have := HJ.out; have := HJL.out; omega⟩, ⟨?_⟩, ⟨blk_farG (by (with_reducible repeat (first | refine blk_drew ?_ | refine blk_drewN ?_ _)); exact D2.out) NE2.out _⟩, ⟨?_⟩, ⟨below_set (by repeat (first | (with_reducible first | exact HW.out | apply below_drew1 | apply pw_below_drewN) | exact HW.out)) LE.out⟩⟩
            · rw [List.take_succ_eq_append_getElem HJL.out, List.all_append, HA.out]
              simp only [List.all_cons, List.all_nil, Bool.and_true, Bool.true_and]
              rw [← HX.out]; exact hin
            · have h0 := lay_put (t := 67) (by (with_reducible repeat (first | refine blk_drew ?_ | refine blk_drewN ?_ _)); exact D3.out) (7 + j) (rd l2 (j : Int))
              rw [lay_next H5.out HNE.out HJL.out HX.out] at h0
              exact h0
        · have HI2 : Aside0 (impl_within.f (rd l2 (j : Int)) (-10000) 10000 = some false) := ⟨by rw [within_eq]; exact congrArg some ((Bool.not_eq_true _).mp hin)⟩
          have HNO : Aside0 (formedB off l1 l2 = false) := ⟨by
            unfold formedB
            rw [Bool.and_eq_false_iff]; right
            rw [List.all_eq_false]
            exact ⟨l2[j]'HJL.out, List.getElem_mem _, by rw [← HX.out]; exact hin⟩⟩
          clear hin
          have HNL : Aside0 (formedL off l1 l2 = zero12) := ⟨by unfold formedL; rw [HNO.out]; rfl⟩
          go_wp2_with (first | (go_at_call 54; refine (impl_within.calls _ _ _ false _ HI2.out).mono ?_; rintro e w6 ⟨rfl, ⟨⟨n6, rfl⟩⟩⟩) | ((with_reducible refine gate_store rfl ?_); refine wpList_store_row rfl 67 (.tmp 2) (.tmp 55) rfl g2 (lay zero12) rfl rfl 67 (lay zero12) (by (with_reducible repeat (first | refine blk_drew ?_ | refine blk_drewN ?_ _ | refine blk_alloc ?_ _)); exact D2.out) (info67 _ rfl) rfl (lay_one _) ?_))
          refine bodyPost_ret (results_ct rfl _ _ g2 67 (lay zero12) (0, 0) _ rfl (setRow_heap _ g2 _ _ _ (0, 0) (by (with_reducible repeat (first | refine blk_drew ?_ | refine blk_drewN ?_ _ | refine blk_alloc ?_ _)); exact D2.out)) Try.underlying67 rfl (info67 _ rfl)) rfl ⟨by rw [HNO.out, HNL.out]; rfl, below_setRow (by repeat (first | (with_reducible first | exact HW.out | apply below_drew1 | apply pw_below_drewN) | exact HW.out)) HGE.out _⟩
      · have hjb : decide ((j : Int) < (l2.length : Int)) = false := decide_eq_false (by omega)
        have hjc : decide (j < l2.length) = false := decide_eq_false hj
        have hjd : (j < l2.length) = False := eq_false hj
        have HYES : Aside0 (formedB off l1 l2 = true) := ⟨by
          have hl := HA.out
          rw [List.take_of_length_le (by omega)] at hl
          simp [formedB, HOK.out, HNE.out, HO.out, hl]⟩
        have HYL : Aside0 ((off :: (l1.length : Int) :: (pad5 l1 ++ (l2.take j ++ List.replicate (5 - j) 0))) = formedL off l1 l2) := ⟨by
          unfold formedL
          rw [if_pos HYES.out]
          have := HJ.out
          rw [List.take_of_length_le (by omega), show j = l2.length by omega]; rfl⟩
        clear hj
        go_wp2_with (first | ((with_reducible refine gate_dst (N := 61) rfl ?_); refine wpList_load_row rfl 67 (.tmp 6) rfl g3 rfl 67 (lay _) (0, 0) _ (by (with_reducible repeat (first | refine blk_drew ?_ | refine blk_drewN ?_ _ | refine blk_alloc ?_ _)); exact D3.out) Try.underlying67 rfl (info67 _ HL12.out) ?_) | ((with_reducible refine gate_store rfl ?_); refine wpList_store_row rfl 67 (.tmp 2) (.tmp 61) rfl g2 (lay (off :: (l1.length : Int) :: (pad5 l1 ++ (l2.take j ++ List.replicate (5 - j) 0)))) rfl rfl 67 (lay zero12) (by (with_reducible repeat (first | refine blk_drew ?_ | refine blk_drewN ?_ _ | refine blk_alloc ?_ _)); exact D2.out) (info67 _ HL12.out) (by rw [lay_size, lay_size, HL12.out]; rfl) (lay_one _) ?_))
        refine bodyPost_ret (results_ct rfl _ _ g2 67 (lay (off :: (l1.length : Int) :: (pad5 l1 ++ (l2.take j ++ List.replicate (5 - j) 0)))) (0, 0) _ rfl (setRow_heap _ g2 _ _ _ (0, 0) (by (with_reducible repeat (first | refine blk_drew ?_ | refine blk_drewN ?_ _ | refine blk_alloc ?_ _)); exact D2.out)) Try.underlying67 rfl (info67 _ HL12.out)) rfl ⟨by rw [HYES.out, ← HYL.out]; rfl, below_setRow (by repeat (first | (with_reducible first | exact HW.out | apply below_drew1 | apply pw_below_drewN) | exact HW.out)) HGE.out _⟩
theorem formed_calls (off : Int) (A1 A2 : Option Addr) (c1 c2 : Nat) (l1 l2 : List Int) (w : World) (hr1 : Kd.C (Kd.int .i64) w A1 l1.length l1) (hc1 : l1.length ≤ c1) (hr2 : Kd.C (Kd.int .i64) w A2 l2.length l2) (hc2 : l2.length ≤ c2) :
    Calls Try.prog 63 #[.agg #[.int .i64 off, .slice A1 l1.length c1, .slice A2 l2.length c2]] w fun e w' => e = .returned (.tuple #[.agg (lay (formedL off l1 l2)), .bool (formedB off l1 l2)]) ∧ Below w.heap.size w w' := by
  obtain ⟨k, hk0⟩ := shapeOk_ev l1
  have hk := hk0 k (Nat.le_refl _)
  by_cases h : shOk l1 = true
  · by_cases hne : l2.length = l1.length
    · by_cases ho : inR off = true
      · exact formed_d k off A1 A2 c1 c2 l1 l2 w hr1 hc1 hr2 hc2 hk h hne ho
      · have e : formedB off l1 l2 = false := by simp [formedB, (Bool.not_eq_true _).mp ho]
        have e2 : formedL off l1 l2 = zero12 := by simp [formedL, e]
        rw [e, e2]; exact formed_c k off A1 A2 c1 c2 l1 l2 w hr1 hc1 hr2 hc2 hk h hne ((Bool.not_eq_true _).mp ho)
    · have e : formedB off l1 l2 = false := by simp [formedB, hne]
      have e2 : formedL off l1 l2 = zero12 := by simp [formedL, e]
      rw [e, e2]; exact formed_b k off A1 A2 c1 c2 l1 l2 w hr1 hc1 hr2 hc2 hk h hne
  · have e : formedB off l1 l2 = false := by simp [formedB, (Bool.not_eq_true _).mp h]
    have e2 : formedL off l1 l2 = zero12 := by simp [formedL, e]
    rw [e, e2]; exact formed_a k off A1 A2 c1 c2 l1 l2 w hr1 hc1 hr2 hc2 hk ((Bool.not_eq_true _).mp h)
end Go.Proofs.Ytipjhbngbaifeaa.PA

namespace Go.Proofs.Ytipjhbngbaifeaa.PA
open Go.RowKit Go.Proofs.YtipjhbngbaifeaaW.PrintWords Go.Proofs.YtipjhbngbaifeaaW.PrintLast Go.Proofs.YtipjhbngbaifeaaW.PrintMore
set_option linter.unusedVariables false
set_option linter.unusedSimpArgs false
theorem formed_n {r : Nat} {l1 l2 : List Int} (e1 : r = l1.length) (e2 : r = l2.length) (off : Int) (A1 A2 : Option Addr) (c1 c2 : Nat) (w : World) (hr1 : Kd.C (Kd.int .i64) w A1 l1.length l1) (hc1 : r ≤ c1) (hr2 : Kd.C (Kd.int .i64) w A2 l2.length l2) (hc2 : r ≤ c2) :
    Calls Try.prog 63 #[.agg #[.int .i64 off, .slice A1 r c1, .slice A2 r c2]] w fun e w' => e = .returned (.tuple #[.agg (lay (formedL off l1 l2)), .bool (formedB off l1 l2)]) ∧ Below w.heap.size w w' := by
  have h := formed_calls off A1 A2 c1 c2 l1 l2 w hr1 (e1 ▸ hc1) hr2 (e2 ▸ hc2)
  rw [← e1, ← e2] at h
  exact h
theorem R_row67 {w : World} {base g : Nat} {ok : Nat → Prop} {v : Value} {xs : List Int} {cells : Array Value} (h : (Kd.int .i64).R 3 w base ok v xs) (hb : w.heap[g]? = some (.cells cells 67 (0, 0))) (cs : Array Value) : (Kd.int .i64).R 3 (w.setRow g cs) base ok v xs :=
  Kd.R_mono (Kd.R_step (Kd.R_types h hb (by intro q hq; simp [Kd.int, Kd.scalar] at hq; omega)) (fun k hk _ => setRow_other w g k cs hk.2)) (fun _ hk => hk.1)
set_option maxHeartbeats 2000000 in
set_option maxRecDepth 100000 in
theorem view_diff_ok (l b : List Int) (r : Nat) (hl : l.length = 12) (hb : b.length = 12) (hr : gi l 1 = (r : Int)) (h5 : r ≤ 5) (hd : l ≠ b) (hf : formedB (gi l 0) ((l.drop 2).take r) ((l.drop 7).take r) = true) (w : World) :
    Calls Try.prog 72 #[.agg (lay l), .agg (lay b)] w fun e w' => ∃ v1_ v2_ : Value, e = .returned (.tuple #[.agg #[.int .i64 (gi l 0), v1_, v2_], .bool true]) ∧ Kd.R (Kd.int .i64) 3 w' w.heap.size (fun k_ => some k_ ≠ (v2_ : Value).ownBlock) v1_ ((l.drop 2).take r) ∧ Kd.R (Kd.int .i64) 3 w' w.heap.size (fun k_ => some k_ ≠ (v1_ : Value).ownBlock) v2_ ((l.drop 7).take r) ∧ Below w.heap.size w w' := by
  have HL := Aside0.mk hl
  have HL2 := Aside0.mk hb
  have HR := Aside0.mk hr
  have HD := Aside0.mk hd
  have HF := Aside0.mk hf
  clear hl hb hr hd hf
  go_enter Try.func72, Try.ntmps72
  go_upto_region 1 with (first | ((with_reducible refine gate_dst (N := 2) rfl ?_); refine box_event ?hg (N := 2) ?hd (cs := lay l) (t := 67) ?hr ?_; (case hd => rfl); (case hg => rfl); (case hr => first | (go_simp; done) | (go_simp; rfl)); intro g1 hg1 w1 hb1 hB1; have HB1 := Aside0.mk hb1; have HW := Aside0.mk hB1; have HG1 := Aside0.mk hg1; clear hb1 hB1 hg1) | ((with_reducible refine gate_dst (N := 3) rfl ?_); refine box_event ?hg (N := 3) ?hd (cs := lay b) (t := 67) ?hr ?_; (case hd => rfl); (case hg => rfl); (case hr => first | (go_simp; done) | (go_simp; rfl)); intro g2 hg2 w2 hb2 hB2; have HB2 := Aside0.mk hb2; have nw := Aside0.mk (below_step HW.out hB2); have HG2 := Aside0.mk (show g1 < g2 by have := blk_lt HB1.out; omega); have n1 := Aside0.mk (blk_below HB1.out hB2); clear HB1 HW; have HB1 := n1; have HW := nw; clear n1 nw; clear hb2 hB2 hg2) | ((with_reducible refine gate_dst (N := 4) rfl ?_); refine box_event ?hg (N := 4) ?hd (cs := #[.int .i64 0, .slice none 0 0, .slice none 0 0]) (t := 33) ?hr ?_; (case hd => rfl); (case hg => rfl); (case hr => first | (go_simp; done) | (go_simp; rfl)); intro g3 hg3 w3 hb3 hB3; have HB3 := Aside0.mk hb3; have nw := Aside0.mk (below_step HW.out hB3); have HG3 := Aside0.mk (show g2 < g3 by have := blk_lt HB2.out; omega); have n1 := Aside0.mk (blk_below HB1.out hB3); have n2 := Aside0.mk (blk_below HB2.out hB3); clear HB1 HB2 HW; have HB1 := n1; have HB2 := n2; have HW := nw; clear n1 n2 nw; clear hb3 hB3 hg3))
  have hs1 := slice_arr ⟨g1, 2, none⟩ r h5
  have hs2 := slice_arr ⟨g1, 7, none⟩ r h5
  have hc0 := lay_cell HB1.out 0 (by have := HL.out; omega)
  have hc1 : w3.cell? ⟨g1, 1, none⟩ = some (.int .i64 (r : Int)) := by rw [← HR.out]; exact lay_cell HB1.out 1 (by have := HL.out; omega)
  have HN1_3 := Aside0.mk (Nat.ne_of_lt (blk_lt HB1.out))
  have HN2_3 := Aside0.mk (Nat.ne_of_lt (blk_lt HB2.out))
  have HN3_3 := Aside0.mk (Nat.ne_of_lt (blk_lt HB3.out))
  have HLT3 := Aside0.mk (blk_lt HB3.out)
  have HGE3 := Aside0.mk (below_size HW.out)
  go_cut [6] (fun v W => ViewMade w l b r g1 g2 g3 v W)
  case first =>
    go_region_held3 (fun w' => w'.cell? ⟨g1, 0, none⟩ = some (.int .i64 (gi l 0)) ∧ w'.cell? ⟨g1, 1, none⟩ = some (.int .i64 (r : Int))) (exact ⟨lay_cell (t := 67) (by (with_reducible repeat (first | refine blk_drew ?_ | refine blk_alloc ?_ _ | refine blk_farG ?_ HN1_5.out _ | refine blk_farG ?_ HN2_5.out _ | refine blk_farG ?_ HN3_5.out _ | refine blk_farG ?_ HN1_3.out _ | refine blk_farG ?_ HN2_3.out _ | refine blk_farG ?_ HN3_3.out _)); exact HB1.out) 0 (by have := HL.out; omega), by rw [← HR.out]; exact lay_cell (t := 67) (by (with_reducible repeat (first | refine blk_drew ?_ | refine blk_alloc ?_ _ | refine blk_farG ?_ HN1_5.out _ | refine blk_farG ?_ HN2_5.out _ | refine blk_farG ?_ HN3_5.out _ | refine blk_farG ?_ HN1_3.out _ | refine blk_farG ?_ HN2_3.out _ | refine blk_farG ?_ HN3_3.out _)); exact HB1.out) 1 (by have := HL.out; omega)⟩) (first | (go_at_call_of 57 (Value.slice (some { block := g1, off := 2 }) r 5); refine (clone_at (some ⟨g1, 2, none⟩) r 5 ((l.drop 2).take r) (by have := HL.out; simp; omega) _ (lay_reads (t := 67) (by (with_reducible repeat (first | refine blk_drew ?_ | refine blk_alloc ?_ _ | refine blk_farG ?_ HN1_5.out _ | refine blk_farG ?_ HN2_5.out _ | refine blk_farG ?_ HN3_5.out _ | refine blk_farG ?_ HN1_3.out _ | refine blk_farG ?_ HN2_3.out _ | refine blk_farG ?_ HN3_3.out _)); exact HB1.out) 2 r (by have := HL.out; omega) (by have := HL.out; omega)) h5 (by omega)).mono ?_; rintro e w5 ⟨v1, rfl, ho1, hb5⟩; (try (have hnw : Aside0 (w5.heap[w3.heap.size]? = some (.cells #[.int .i64 0, .slice none 0 0, .slice none 0 0] 33 (0, 0))) := ⟨blk_below (blk_new w3.drew (.cells #[.int .i64 0, .slice none 0 0, .slice none 0 0] 33)) hb5⟩)); obtain ⟨Aa, ca, rfl⟩ := Kd.R_slice ho1; have hla : ((l.drop 2).take r).length = r := (by have := HL.out; simp; omega); rw [hla] at ho1 ⊢; have HO1 := Aside0.mk (Kd.R_lower ho1 (below_size (by repeat (first | (with_reducible first | exact HW.out | apply below_alloc | apply below_drew1) | exact HW.out)))); clear ho1 hla; have n0 := Aside0.mk (blk_below (g := g1) (o := .cells (lay l) 67 (0, 0)) (by (with_reducible repeat (first | refine blk_drew ?_ | refine blk_alloc ?_ _ | refine blk_farG ?_ HN1_5.out _ | refine blk_farG ?_ HN2_5.out _ | refine blk_farG ?_ HN3_5.out _ | refine blk_farG ?_ HN1_3.out _ | refine blk_farG ?_ HN2_3.out _ | refine blk_farG ?_ HN3_3.out _)); exact HB1.out) hb5); have n1 := Aside0.mk (blk_below (g := g2) (o := .cells (lay b) 67 (0, 0)) (by (with_reducible repeat (first | refine blk_drew ?_ | refine blk_alloc ?_ _ | refine blk_farG ?_ HN1_5.out _ | refine blk_farG ?_ HN2_5.out _ | refine blk_farG ?_ HN3_5.out _ | refine blk_farG ?_ HN1_3.out _ | refine blk_farG ?_ HN2_3.out _ | refine blk_farG ?_ HN3_3.out _)); exact HB2.out) hb5); have n2 := Aside0.mk (blk_below (g := g3) (o := .cells #[.int .i64 0, .slice none 0 0, .slice none 0 0] 33 (0, 0)) (by (with_reducible repeat (first | refine blk_drew ?_ | refine blk_alloc ?_ _ | refine blk_farG ?_ HN1_5.out _ | refine blk_farG ?_ HN2_5.out _ | refine blk_farG ?_ HN3_5.out _ | refine blk_farG ?_ HN1_3.out _ | refine blk_farG ?_ HN2_3.out _ | refine blk_farG ?_ HN3_3.out _)); exact HB3.out) hb5); have nw := Aside0.mk (below_step (by repeat (first | (with_reducible first | exact HW.out | apply below_alloc | apply below_drew1) | exact HW.out)) hb5); clear HB1 HB2 HB3 HW; have HB1 := n0; have HB2 := n1; have HB3 := n2; have HW := nw; clear nw n0 n1 n2; have HN1_5 := Aside0.mk (Nat.ne_of_lt (blk_lt HB1.out)); have HN2_5 := Aside0.mk (Nat.ne_of_lt (blk_lt HB2.out)); have HN3_5 := Aside0.mk (Nat.ne_of_lt (blk_lt HB3.out)); have HLT5 := Aside0.mk (blk_lt HB3.out); have HGE5 := Aside0.mk (below_size HW.out); clear hb5) | (go_at_call_of 57 (Value.slice (some { block := g1, off := 7 }) r 5); refine (clone_at (some ⟨g1, 7, none⟩) r 5 ((l.drop 7).take r) (by have := HL.out; simp; omega) _ (lay_reads (t := 67) (by (with_reducible repeat (first | refine blk_drew ?_ | refine blk_alloc ?_ _ | refine blk_farG ?_ HN1_5.out _ | refine blk_farG ?_ HN2_5.out _ | refine blk_farG ?_ HN3_5.out _ | refine blk_farG ?_ HN1_3.out _ | refine blk_farG ?_ HN2_3.out _ | refine blk_farG ?_ HN3_3.out _)); exact HB1.out) 7 r (by have := HL.out; omega) (by have := HL.out; omega)) h5 (by omega)).mono ?_; rintro e w6 ⟨v2, rfl, ho2, hb6⟩; (try (have hnw : Aside0 (w6.heap[w5.heap.size]? = some (.cells #[.int .i64 0, .slice none 0 0, .slice none 0 0] 33 (0, 0))) := ⟨blk_below (blk_new w5 (.cells #[.int .i64 0, .slice none 0 0, .slice none 0 0] 33)) hb6⟩; have hx0 : _ = some (Value.int .i64 0) := (blk_cell hnw.out 0).trans rfl; have hx1 : _ = some (Value.slice none 0 0) := (blk_cell hnw.out 1).trans rfl; have hx2 : _ = some (Value.slice none 0 0) := (blk_cell hnw.out 2).trans rfl; have hy0 := blk_frozen hnw.out 0; have hy1 := blk_frozen hnw.out 1; have hy2 := blk_frozen hnw.out 2)); (try (have hnx : Aside0 (w6.heap[w3.heap.size]? = some (.cells #[.int .i64 0, .slice none 0 0, .slice none 0 0] 33 (0, 0))) := ⟨blk_below hnw.out hb6⟩; clear hnw; have hnw := hnx; clear hnx; have hx0 : _ = some (Value.int .i64 0) := (blk_cell hnw.out 0).trans rfl; have hx1 : _ = some (Value.slice none 0 0) := (blk_cell hnw.out 1).trans rfl; have hx2 : _ = some (Value.slice none 0 0) := (blk_cell hnw.out 2).trans rfl; have hy0 := blk_frozen hnw.out 0; have hy1 := blk_frozen hnw.out 1; have hy2 := blk_frozen hnw.out 2)); obtain ⟨Ab, cb, rfl⟩ := Kd.R_slice ho2; have hlb : ((l.drop 7).take r).length = r := (by have := HL.out; simp; omega); rw [hlb] at ho2 ⊢; have HO1n := Aside0.mk (Kd.R_elder' (by (with_reducible repeat (first | apply Kd.R_alloc | apply Kd.R_drewN | apply Kd.R_drew)); exact HO1.out) (Kd.R_base ho2) hb6); have HO2 := Aside0.mk (Kd.R_lower (Kd.R_new' ho2 (Kd.R_lt (by (with_reducible repeat (first | apply Kd.R_alloc | apply Kd.R_drewN | apply Kd.R_drew)); exact HO1.out))) (below_size (by repeat (first | (with_reducible first | exact HW.out | apply below_alloc | apply below_drew1) | exact HW.out)))); clear HO1; have HO1 := HO1n; clear HO1n ho2 hlb; have n0 := Aside0.mk (blk_below (g := g1) (o := .cells (lay l) 67 (0, 0)) (by (with_reducible repeat (first | refine blk_drew ?_ | refine blk_alloc ?_ _ | refine blk_farG ?_ HN1_5.out _ | refine blk_farG ?_ HN2_5.out _ | refine blk_farG ?_ HN3_5.out _ | refine blk_farG ?_ HN1_3.out _ | refine blk_farG ?_ HN2_3.out _ | refine blk_farG ?_ HN3_3.out _)); exact HB1.out) hb6); have n1 := Aside0.mk (blk_below (g := g2) (o := .cells (lay b) 67 (0, 0)) (by (with_reducible repeat (first | refine blk_drew ?_ | refine blk_alloc ?_ _ | refine blk_farG ?_ HN1_5.out _ | refine blk_farG ?_ HN2_5.out _ | refine blk_farG ?_ HN3_5.out _ | refine blk_farG ?_ HN1_3.out _ | refine blk_farG ?_ HN2_3.out _ | refine blk_farG ?_ HN3_3.out _)); exact HB2.out) hb6); have n2 := Aside0.mk (blk_below (g := g3) (o := .cells #[.int .i64 0, .slice none 0 0, .slice none 0 0] 33 (0, 0)) (by (with_reducible repeat (first | refine blk_drew ?_ | refine blk_alloc ?_ _ | refine blk_farG ?_ HN1_5.out _ | refine blk_farG ?_ HN2_5.out _ | refine blk_farG ?_ HN3_5.out _ | refine blk_farG ?_ HN1_3.out _ | refine blk_farG ?_ HN2_3.out _ | refine blk_farG ?_ HN3_3.out _)); exact HB3.out) hb6); have nw := Aside0.mk (below_step (by repeat (first | (with_reducible first | exact HW.out | apply below_alloc | apply below_drew1) | exact HW.out)) hb6); clear HB1 HB2 HB3 HW; have HB1 := n0; have HB2 := n1; have HB3 := n2; have HW := nw; clear nw n0 n1 n2; clear hb6))
    · go_wp2_with fail
      go_meet
      case rel => exact vmA HB1.out HB2.out HB3.out HO1.out HO2.out HW.out
    · go_wp2_with fail
      go_meet
      case rel => exact vmB hnw.out HN1_5.out HN2_5.out HLT5.out HGE5.out HB1.out HB2.out HB3.out HO1.out HO2.out HW.out
    · go_wp2_with fail
      go_meet
      case rel => exact vmB hnw.out HN1_3.out HN2_3.out HLT3.out HGE3.out HB1.out HB2.out HB3.out HO1.out HO2.out HW.out
  case rest =>
    obtain ⟨G, Aa, Ab, ca, cb, rfl, hG, hlt, k1, k2, k3, R1, R2, hW⟩ := hcut
    obtain ⟨e1, hca, C1⟩ := Kd.R_reads' R1
    obtain ⟨e2, hcb, C2⟩ := Kd.R_reads' R2
    have E1 := Aside0.mk e1
    have E2 := Aside0.mk e2
    have CA := Aside0.mk hca
    have CB := Aside0.mk hcb
    have KC1 := Aside0.mk C1
    have KC2 := Aside0.mk C2
    have KG := Aside0.mk hG
    have K1 := Aside0.mk k1
    have K2 := Aside0.mk k2
    have K3 := Aside0.mk k3
    have KR1 := Aside0.mk R1
    have KR2 := Aside0.mk R2
    have KW := Aside0.mk hW
    have KL := Aside0.mk hlt
    have KGE := Aside0.mk (show w.heap.size ≤ g3 by have := HG1.out; have := HG2.out; have := HG3.out; omega)
    clear hG k1 k2 k3 R1 R2 hW e1 e2 hca hcb C1 C2 hlt
    have hEq := eq_lay l b HL.out HL2.out
    rw [beq_eq_false_iff_ne.mpr HD.out] at hEq
    go_wp2_with (first | ((with_reducible refine gate_dst (N := 22) rfl ?_); refine wpList_load_row rfl 67 (.tmp 2) rfl g1 rfl 67 (lay _) (0, 0) _ K1.out Try.underlying67 rfl (info67 _ HL.out) ?_) | ((with_reducible refine gate_dst (N := 23) rfl ?_); refine wpList_load_row rfl 67 (.tmp 3) rfl g2 rfl 67 (lay _) (0, 0) _ K2.out Try.underlying67 rfl (info67 _ HL2.out) ?_) | ((with_reducible refine gate_dst (N := 27) rfl ?_); refine wpList_load_row rfl 33 (.tmp 6) rfl G rfl 33 #[.int .i64 (gi l 0), .slice Aa r ca, .slice Ab r cb] (0, 0) _ KG.out Try.underlying33 rfl (by kernel_rfl) ?_) | (go_at_call 63; refine (formed_n E1.out E2.out (gi l 0) Aa Ab ca cb _ KC1.out CA.out KC2.out CB.out).mono ?_; rw [HF.out]; rintro e w8 ⟨rfl, hb8⟩; have HB8 := Aside0.mk hb8; clear hb8) | ((with_reducible refine gate_dst (N := 7) rfl ?_); refine box_event ?hg (N := 7) ?hd (cs := lay zero12) (t := 67) ?hr ?_; (case hd => rfl); (case hg => rfl); (case hr => first | (go_simp; done) | (go_simp; rfl)); intro g8 hg8 w9 hb9 hB9; have N8 := Aside0.mk hb9; have NG := Aside0.mk (blk_below (g := G) (o := .cells #[.int .i64 (gi l 0), .slice Aa r ca, .slice Ab r cb] 33 (0, 0)) (by (with_reducible repeat (first | refine blk_drew ?_ | refine blk_drewN ?_ _ | refine blk_alloc ?_ _)); exact (blk_below KG.out HB8.out)) hB9); have N3 := Aside0.mk (blk_below (g := g3) (o := .cells #[.int .i64 0, .slice none 0 0, .slice none 0 0] 33 (0, 0)) (by (with_reducible repeat (first | refine blk_drew ?_ | refine blk_drewN ?_ _ | refine blk_alloc ?_ _)); exact (blk_below K3.out HB8.out)) hB9); have NR1 := Aside0.mk (Kd.R_below (Kd.R_below KR1.out HB8.out) hB9); have NR2 := Aside0.mk (Kd.R_below (Kd.R_below KR2.out HB8.out) hB9); have NW := Aside0.mk (below_step (below_step KW.out HB8.out) hB9); have XG := Aside0.mk (show G ≠ g8 by have := blk_lt (blk_below KG.out HB8.out); omega); have X3 := Aside0.mk (show g3 ≠ g8 by have := blk_lt (blk_below K3.out HB8.out); omega); have X8 := Aside0.mk (show w.heap.size ≤ g8 by have := KGE.out; have := blk_lt (blk_below K3.out HB8.out); omega); clear hb9 hB9 hg8) | ((with_reducible refine gate_store rfl ?_); refine wpList_store_row rfl 67 (.tmp 7) (.tmp 29) rfl g8 (lay (formedL (gi l 0) ((l.drop 2).take r) ((l.drop 7).take r))) rfl rfl 67 (lay zero12) N8.out (info67 _ formedL_len) (by rw [lay_size, lay_size, formedL_len]; rfl) (lay_one _) ?_) | ((with_reducible refine gate_dst (N := 34) rfl ?_); refine wpList_load_row rfl 33 (.tmp 6) rfl G rfl 33 #[.int .i64 (gi l 0), .slice Aa r ca, .slice Ab r cb] (0, 0) _ ((setRow_other w9 g8 G _ XG.out).trans NG.out) Try.underlying33 rfl (by kernel_rfl) ?_) | ((with_reducible refine gate_store rfl ?_); refine wpList_store_row rfl 33 (.tmp 4) (.tmp 34) rfl g3 #[.int .i64 (gi l 0), .slice Aa r ca, .slice Ab r cb] rfl rfl 33 #[.int .i64 0, .slice none 0 0, .slice none 0 0] ((setRow_other w9 g8 g3 _ X3.out).trans N3.out) (by kernel_rfl) rfl (by simp [Value.oneCell']) ?_))
    refine bodyPost_ret (results_ct rfl _ _ g3 33 #[.int .i64 (gi l 0), .slice Aa r ca, .slice Ab r cb] (0, 0) _ rfl (setRow_heap _ g3 _ _ _ (0, 0) ((setRow_other w9 g8 g3 _ X3.out).trans N3.out)) Try.underlying33 rfl (by kernel_rfl)) rfl ?_
    exact ⟨_, _, rfl, R_rowV (R_row67 NR1.out N8.out _) ((setRow_other w9 g8 g3 _ X3.out).trans N3.out) _, R_rowV (R_row67 NR2.out N8.out _) ((setRow_other w9 g8 g3 _ X3.out).trans N3.out) _, below_setRow (below_setRow NW.out X8.out _) KGE.out _⟩
set_option maxHeartbeats 2000000 in
set_option maxRecDepth 100000 in
theorem view_diff_no (l b : List Int) (r : Nat) (hl : l.length = 12) (hb : b.length = 12) (hr : gi l 1 = (r : Int)) (h5 : r ≤ 5) (hd : l ≠ b) (hf : formedB (gi l 0) ((l.drop 2).take r) ((l.drop 7).take r) = false) (w : World) :
    Calls Try.prog 72 #[.agg (lay l), .agg (lay b)] w fun e w' => ∃ v1_ v2_ : Value, e = .returned (.tuple #[.agg #[.int .i64 0, v1_, v2_], .bool false]) ∧ Kd.R (Kd.int .i64) 3 w' w.heap.size (fun k_ => some k_ ≠ (v2_ : Value).ownBlock) v1_ [] ∧ Kd.R (Kd.int .i64) 3 w' w.heap.size (fun k_ => some k_ ≠ (v1_ : Value).ownBlock) v2_ [] ∧ Below w.heap.size w w' := by
  have HL := Aside0.mk hl
  have HL2 := Aside0.mk hb
  have HR := Aside0.mk hr
  have HD := Aside0.mk hd
  have HF := Aside0.mk hf
  clear hl hb hr hd hf
  go_enter Try.func72, Try.ntmps72
  go_upto_region 1 with (first | ((with_reducible refine gate_dst (N := 2) rfl ?_); refine box_event ?hg (N := 2) ?hd (cs := lay l) (t := 67) ?hr ?_; (case hd => rfl); (case hg => rfl); (case hr => first | (go_simp; done) | (go_simp; rfl)); intro g1 hg1 w1 hb1 hB1; have HB1 := Aside0.mk hb1; have HW := Aside0.mk hB1; have HG1 := Aside0.mk hg1; clear hb1 hB1 hg1) | ((with_reducible refine gate_dst (N := 3) rfl ?_); refine box_event ?hg (N := 3) ?hd (cs := lay b) (t := 67) ?hr ?_; (case hd => rfl); (case hg => rfl); (case hr => first | (go_simp; done) | (go_simp; rfl)); intro g2 hg2 w2 hb2 hB2; have HB2 := Aside0.mk hb2; have nw := Aside0.mk (below_step HW.out hB2); have HG2 := Aside0.mk (show g1 < g2 by have := blk_lt HB1.out; omega); have n1 := Aside0.mk (blk_below HB1.out hB2); clear HB1 HW; have HB1 := n1; have HW := nw; clear n1 nw; clear hb2 hB2 hg2) | ((with_reducible refine gate_dst (N := 4) rfl ?_); refine box_event ?hg (N := 4) ?hd (cs := #[.int .i64 0, .slice none 0 0, .slice none 0 0]) (t := 33) ?hr ?_; (case hd => rfl); (case hg => rfl); (case hr => first | (go_simp; done) | (go_simp; rfl)); intro g3 hg3 w3 hb3 hB3; have HB3 := Aside0.mk hb3; have nw := Aside0.mk (below_step HW.out hB3); have HG3 := Aside0.mk (show g2 < g3 by have := blk_lt HB2.out; omega); have n1 := Aside0.mk (blk_below HB1.out hB3); have n2 := Aside0.mk (blk_below HB2.out hB3); clear HB1 HB2 HW; have HB1 := n1; have HB2 := n2; have HW := nw; clear n1 n2 nw; clear hb3 hB3 hg3))
  have hs1 := slice_arr ⟨g1, 2, none⟩ r h5
  have hs2 := slice_arr ⟨g1, 7, none⟩ r h5
  have hc0 := lay_cell HB1.out 0 (by have := HL.out; omega)
  have hc1 : w3.cell? ⟨g1, 1, none⟩ = some (.int .i64 (r : Int)) := by rw [← HR.out]; exact lay_cell HB1.out 1 (by have := HL.out; omega)
  have HN1_3 := Aside0.mk (Nat.ne_of_lt (blk_lt HB1.out))
  have HN2_3 := Aside0.mk (Nat.ne_of_lt (blk_lt HB2.out))
  have HN3_3 := Aside0.mk (Nat.ne_of_lt (blk_lt HB3.out))
  have HLT3 := Aside0.mk (blk_lt HB3.out)
  have HGE3 := Aside0.mk (below_size HW.out)
  go_cut [6] (fun v W => ViewMade w l b r g1 g2 g3 v W)
  case first =>
    go_region_held3 (fun w' => w'.cell? ⟨g1, 0, none⟩ = some (.int .i64 (gi l 0)) ∧ w'.cell? ⟨g1, 1, none⟩ = some (.int .i64 (r : Int))) (exact ⟨lay_cell (t := 67) (by (with_reducible repeat (first | refine blk_drew ?_ | refine blk_alloc ?_ _ | refine blk_farG ?_ HN1_5.out _ | refine blk_farG ?_ HN2_5.out _ | refine blk_farG ?_ HN3_5.out _ | refine blk_farG ?_ HN1_3.out _ | refine blk_farG ?_ HN2_3.out _ | refine blk_farG ?_ HN3_3.out _)); exact HB1.out) 0 (by have := HL.out; omega), by rw [← HR.out]; exact lay_cell (t := 67) (by (with_reducible repeat (first | refine blk_drew ?_ | refine blk_alloc ?_ _ | refine blk_farG ?_ HN1_5.out _ | refine blk_farG ?_ HN2_5.out _ | refine blk_farG ?_ HN3_5.out _ | refine blk_farG ?_ HN1_3.out _ | refine blk_farG ?_ HN2_3.out _ | refine blk_farG ?_ HN3_3.out _)); exact HB1.out) 1 (by have := HL.out; omega)⟩) (first | (go_at_call_of 57 (Value.slice (some { block := g1, off := 2 }) r 5); refine (clone_at (some ⟨g1, 2, none⟩) r 5 ((l.drop 2).take r) (by have := HL.out; simp; omega) _ (lay_reads (t := 67) (by (with_reducible repeat (first | refine blk_drew ?_ | refine blk_alloc ?_ _ | refine blk_farG ?_ HN1_5.out _ | refine blk_farG ?_ HN2_5.out _ | refine blk_farG ?_ HN3_5.out _ | refine blk_farG ?_ HN1_3.out _ | refine blk_farG ?_ HN2_3.out _ | refine blk_farG ?_ HN3_3.out _)); exact HB1.out) 2 r (by have := HL.out; omega) (by have := HL.out; omega)) h5 (by omega)).mono ?_; rintro e w5 ⟨v1, rfl, ho1, hb5⟩; (try (have hnw : Aside0 (w5.heap[w3.heap.size]? = some (.cells #[.int .i64 0, .slice none 0 0, .slice none 0 0] 33 (0, 0))) := ⟨blk_below (blk_new w3.drew (.cells #[.int .i64 0, .slice none 0 0, .slice none 0 0] 33)) hb5⟩)); obtain ⟨Aa, ca, rfl⟩ := Kd.R_slice ho1; have hla : ((l.drop 2).take r).length = r := (by have := HL.out; simp; omega); rw [hla] at ho1 ⊢; have HO1 := Aside0.mk (Kd.R_lower ho1 (below_size (by repeat (first | (with_reducible first | exact HW.out | apply below_alloc | apply below_drew1) | exact HW.out)))); clear ho1 hla; have n0 := Aside0.mk (blk_below (g := g1) (o := .cells (lay l) 67 (0, 0)) (by (with_reducible repeat (first | refine blk_drew ?_ | refine blk_alloc ?_ _ | refine blk_farG ?_ HN1_5.out _ | refine blk_farG ?_ HN2_5.out _ | refine blk_farG ?_ HN3_5.out _ | refine blk_farG ?_ HN1_3.out _ | refine blk_farG ?_ HN2_3.out _ | refine blk_farG ?_ HN3_3.out _)); exact HB1.out) hb5); have n1 := Aside0.mk (blk_below (g := g2) (o := .cells (lay b) 67 (0, 0)) (by (with_reducible repeat (first | refine blk_drew ?_ | refine blk_alloc ?_ _ | refine blk_farG ?_ HN1_5.out _ | refine blk_farG ?_ HN2_5.out _ | refine blk_farG ?_ HN3_5.out _ | refine blk_farG ?_ HN1_3.out _ | refine blk_farG ?_ HN2_3.out _ | refine blk_farG ?_ HN3_3.out _)); exact HB2.out) hb5); have n2 := Aside0.mk (blk_below (g := g3) (o := .cells #[.int .i64 0, .slice none 0 0, .slice none 0 0] 33 (0, 0)) (by (with_reducible repeat (first | refine blk_drew ?_ | refine blk_alloc ?_ _ | refine blk_farG ?_ HN1_5.out _ | refine blk_farG ?_ HN2_5.out _ | refine blk_farG ?_ HN3_5.out _ | refine blk_farG ?_ HN1_3.out _ | refine blk_farG ?_ HN2_3.out _ | refine blk_farG ?_ HN3_3.out _)); exact HB3.out) hb5); have nw := Aside0.mk (below_step (by repeat (first | (with_reducible first | exact HW.out | apply below_alloc | apply below_drew1) | exact HW.out)) hb5); clear HB1 HB2 HB3 HW; have HB1 := n0; have HB2 := n1; have HB3 := n2; have HW := nw; clear nw n0 n1 n2; have HN1_5 := Aside0.mk (Nat.ne_of_lt (blk_lt HB1.out)); have HN2_5 := Aside0.mk (Nat.ne_of_lt (blk_lt HB2.out)); have HN3_5 := Aside0.mk (Nat.ne_of_lt (blk_lt HB3.out)); have HLT5 := Aside0.mk (blk_lt HB3.out); have HGE5 := Aside0.mk (below_size HW.out); clear hb5) | (go_at_call_of 57 (Value.slice (some { block := g1, off := 7 }) r 5); refine (clone_at (some ⟨g1, 7, none⟩) r 5 ((l.drop 7).take r) (by have := HL.out; simp; omega) _ (lay_reads (t := 67) (by (with_reducible repeat (first | refine blk_drew ?_ | refine blk_alloc ?_ _ | refine blk_farG ?_ HN1_5.out _ | refine blk_farG ?_ HN2_5.out _ | refine blk_farG ?_ HN3_5.out _ | refine blk_farG ?_ HN1_3.out _ | refine blk_farG ?_ HN2_3.out _ | refine blk_farG ?_ HN3_3.out _)); exact HB1.out) 7 r (by have := HL.out; omega) (by have := HL.out; omega)) h5 (by omega)).mono ?_; rintro e w6 ⟨v2, rfl, ho2, hb6⟩; (try (have hnw : Aside0 (w6.heap[w5.heap.size]? = some (.cells #[.int .i64 0, .slice none 0 0, .slice none 0 0] 33 (0, 0))) := ⟨blk_below (blk_new w5 (.cells #[.int .i64 0, .slice none 0 0, .slice none 0 0] 33)) hb6⟩; have hx0 : _ = some (Value.int .i64 0) := (blk_cell hnw.out 0).trans rfl; have hx1 : _ = some (Value.slice none 0 0) := (blk_cell hnw.out 1).trans rfl; have hx2 : _ = some (Value.slice none 0 0) := (blk_cell hnw.out 2).trans rfl; have hy0 := blk_frozen hnw.out 0; have hy1 := blk_frozen hnw.out 1; have hy2 := blk_frozen hnw.out 2)); (try (have hnx : Aside0 (w6.heap[w3.heap.size]? = some (.cells #[.int .i64 0, .slice none 0 0, .slice none 0 0] 33 (0, 0))) := ⟨blk_below hnw.out hb6⟩; clear hnw; have hnw := hnx; clear hnx; have hx0 : _ = some (Value.int .i64 0) := (blk_cell hnw.out 0).trans rfl; have hx1 : _ = some (Value.slice none 0 0) := (blk_cell hnw.out 1).trans rfl; have hx2 : _ = some (Value.slice none 0 0) := (blk_cell hnw.out 2).trans rfl; have hy0 := blk_frozen hnw.out 0; have hy1 := blk_frozen hnw.out 1; have hy2 := blk_frozen hnw.out 2)); obtain ⟨Ab, cb, rfl⟩ := Kd.R_slice ho2; have hlb : ((l.drop 7).take r).length = r := (by have := HL.out; simp; omega); rw [hlb] at ho2 ⊢; have HO1n := Aside0.mk (Kd.R_elder' (by (with_reducible repeat (first | apply Kd.R_alloc | apply Kd.R_drewN | apply Kd.R_drew)); exact HO1.out) (Kd.R_base ho2) hb6); have HO2 := Aside0.mk (Kd.R_lower (Kd.R_new' ho2 (Kd.R_lt (by (with_reducible repeat (first | apply Kd.R_alloc | apply Kd.R_drewN | apply Kd.R_drew)); exact HO1.out))) (below_size (by repeat (first | (with_reducible first | exact HW.out | apply below_alloc | apply below_drew1) | exact HW.out)))); clear HO1; have HO1 := HO1n; clear HO1n ho2 hlb; have n0 := Aside0.mk (blk_below (g := g1) (o := .cells (lay l) 67 (0, 0)) (by (with_reducible repeat (first | refine blk_drew ?_ | refine blk_alloc ?_ _ | refine blk_farG ?_ HN1_5.out _ | refine blk_farG ?_ HN2_5.out _ | refine blk_farG ?_ HN3_5.out _ | refine blk_farG ?_ HN1_3.out _ | refine blk_farG ?_ HN2_3.out _ | refine blk_farG ?_ HN3_3.out _)); exact HB1.out) hb6); have n1 := Aside0.mk (blk_below (g := g2) (o := .cells (lay b) 67 (0, 0)) (by (with_reducible repeat (first | refine blk_drew ?_ | refine blk_alloc ?_ _ | refine blk_farG ?_ HN1_5.out _ | refine blk_farG ?_ HN2_5.out _ | refine blk_farG ?_ HN3_5.out _ | refine blk_farG ?_ HN1_3.out _ | refine blk_farG ?_ HN2_3.out _ | refine blk_farG ?_ HN3_3.out _)); exact HB2.out) hb6); have n2 := Aside0.mk (blk_below (g := g3) (o := .cells #[.int .i64 0, .slice none 0 0, .slice none 0 0] 33 (0, 0)) (by (with_reducible repeat (first | refine blk_drew ?_ | refine blk_alloc ?_ _ | refine blk_farG ?_ HN1_5.out _ | refine blk_farG ?_ HN2_5.out _ | refine blk_farG ?_ HN3_5.out _ | refine blk_farG ?_ HN1_3.out _ | refine blk_farG ?_ HN2_3.out _ | refine blk_farG ?_ HN3_3.out _)); exact HB3.out) hb6); have nw := Aside0.mk (below_step (by repeat (first | (with_reducible first | exact HW.out | apply below_alloc | apply below_drew1) | exact HW.out)) hb6); clear HB1 HB2 HB3 HW; have HB1 := n0; have HB2 := n1; have HB3 := n2; have HW := nw; clear nw n0 n1 n2; clear hb6))
    · go_wp2_with fail
      go_meet
      case rel => exact vmA HB1.out HB2.out HB3.out HO1.out HO2.out HW.out
    · go_wp2_with fail
      go_meet
      case rel => exact vmB hnw.out HN1_5.out HN2_5.out HLT5.out HGE5.out HB1.out HB2.out HB3.out HO1.out HO2.out HW.out
    · go_wp2_with fail
      go_meet
      case rel => exact vmB hnw.out HN1_3.out HN2_3.out HLT3.out HGE3.out HB1.out HB2.out HB3.out HO1.out HO2.out HW.out
  case rest =>
    obtain ⟨G, Aa, Ab, ca, cb, rfl, hG, hlt, k1, k2, k3, R1, R2, hW⟩ := hcut
    obtain ⟨e1, hca, C1⟩ := Kd.R_reads' R1
    obtain ⟨e2, hcb, C2⟩ := Kd.R_reads' R2
    have E1 := Aside0.mk e1
    have E2 := Aside0.mk e2
    have CA := Aside0.mk hca
    have CB := Aside0.mk hcb
    have KC1 := Aside0.mk C1
    have KC2 := Aside0.mk C2
    have KG := Aside0.mk hG
    have K1 := Aside0.mk k1
    have K2 := Aside0.mk k2
    have K3 := Aside0.mk k3
    have KR1 := Aside0.mk R1
    have KR2 := Aside0.mk R2
    have KW := Aside0.mk hW
    have KL := Aside0.mk hlt
    have KGE := Aside0.mk (show w.heap.size ≤ g3 by have := HG1.out; have := HG2.out; have := HG3.out; omega)
    clear hG k1 k2 k3 R1 R2 hW e1 e2 hca hcb C1 C2 hlt
    have hEq := eq_lay l b HL.out HL2.out
    rw [beq_eq_false_iff_ne.mpr HD.out] at hEq
    go_wp2_with (first | ((with_reducible refine gate_dst (N := 22) rfl ?_); refine wpList_load_row rfl 67 (.tmp 2) rfl g1 rfl 67 (lay _) (0, 0) _ K1.out Try.underlying67 rfl (info67 _ HL.out) ?_) | ((with_reducible refine gate_dst (N := 23) rfl ?_); refine wpList_load_row rfl 67 (.tmp 3) rfl g2 rfl 67 (lay _) (0, 0) _ K2.out Try.underlying67 rfl (info67 _ HL2.out) ?_) | ((with_reducible refine gate_dst (N := 27) rfl ?_); refine wpList_load_row rfl 33 (.tmp 6) rfl G rfl 33 #[.int .i64 (gi l 0), .slice Aa r ca, .slice Ab r cb] (0, 0) _ KG.out Try.underlying33 rfl (by kernel_rfl) ?_) | (go_at_call 63; refine (formed_n E1.out E2.out (gi l 0) Aa Ab ca cb _ KC1.out CA.out KC2.out CB.out).mono ?_; rw [HF.out]; rintro e w8 ⟨rfl, hb8⟩; have HB8 := Aside0.mk hb8; clear hb8) | ((with_reducible refine gate_dst (N := 7) rfl ?_); refine box_event ?hg (N := 7) ?hd (cs := lay zero12) (t := 67) ?hr ?_; (case hd => rfl); (case hg => rfl); (case hr => first | (go_simp; done) | (go_simp; rfl)); intro g8 hg8 w9 hb9 hB9; have N8 := Aside0.mk hb9; have NG := Aside0.mk (blk_below (g := G) (o := .cells #[.int .i64 (gi l 0), .slice Aa r ca, .slice Ab r cb] 33 (0, 0)) (by (with_reducible repeat (first | refine blk_drew ?_ | refine blk_drewN ?_ _ | refine blk_alloc ?_ _)); exact (blk_below KG.out HB8.out)) hB9); have N3 := Aside0.mk (blk_below (g := g3) (o := .cells #[.int .i64 0, .slice none 0 0, .slice none 0 0] 33 (0, 0)) (by (with_reducible repeat (first | refine blk_drew ?_ | refine blk_drewN ?_ _ | refine blk_alloc ?_ _)); exact (blk_below K3.out HB8.out)) hB9); have NR1 := Aside0.mk (Kd.R_below (Kd.R_below KR1.out HB8.out) hB9); have NR2 := Aside0.mk (Kd.R_below (Kd.R_below KR2.out HB8.out) hB9); have NW := Aside0.mk (below_step (below_step KW.out HB8.out) hB9); have XG := Aside0.mk (show G ≠ g8 by have := blk_lt (blk_below KG.out HB8.out); omega); have X3 := Aside0.mk (show g3 ≠ g8 by have := blk_lt (blk_below K3.out HB8.out); omega); have X8 := Aside0.mk (show w.heap.size ≤ g8 by have := KGE.out; have := blk_lt (blk_below K3.out HB8.out); omega); clear hb9 hB9 hg8) | ((with_reducible refine gate_store rfl ?_); refine wpList_store_row rfl 67 (.tmp 7) (.tmp 29) rfl g8 (lay (formedL (gi l 0) ((l.drop 2).take r) ((l.drop 7).take r))) rfl rfl 67 (lay zero12) N8.out (info67 _ formedL_len) (by rw [lay_size, lay_size, formedL_len]; rfl) (lay_one _) ?_) | ((with_reducible refine gate_store rfl ?_); refine wpList_store_row rfl 33 (.tmp 4) (.tmp 33) rfl g3 #[.int .i64 0, .slice none 0 0, .slice none 0 0] rfl rfl 33 #[.int .i64 0, .slice none 0 0, .slice none 0 0] ((setRow_other w9 g8 g3 _ X3.out).trans N3.out) (by kernel_rfl) rfl (by simp [Value.oneCell']) ?_))
    refine bodyPost_ret (results_ct rfl _ _ g3 33 #[.int .i64 0, .slice none 0 0, .slice none 0 0] (0, 0) _ rfl (setRow_heap _ g3 _ _ _ (0, 0) ((setRow_other w9 g8 g3 _ X3.out).trans N3.out)) Try.underlying33 rfl (by kernel_rfl)) rfl ?_
    exact ⟨_, _, rfl, Kd.R_nil _ _ _ _ _, Kd.R_nil _ _ _ _ _, below_setRow (below_setRow NW.out X8.out _) KGE.out _⟩
/-- What 'view' of a layout answers, beside the one before. -/
def viewB (l b : List Int) (r : Nat) : Bool := decide (l = b) || formedB (gi l 0) ((l.drop 2).take r) ((l.drop 7).take r)
def viewO (l b : List Int) (r : Nat) : Int := if viewB l b r then gi l 0 else 0
def viewS (l b : List Int) (r : Nat) : List Int := if viewB l b r then (l.drop 2).take r else []
def viewT (l b : List Int) (r : Nat) : List Int := if viewB l b r then (l.drop 7).take r else []
theorem view_calls (l b : List Int) (r : Nat) (hl : l.length = 12) (hb : b.length = 12) (hr : gi l 1 = (r : Int)) (h5 : r ≤ 5) (w : World) :
    Calls Try.prog 72 #[.agg (lay l), .agg (lay b)] w fun e w' => ∃ v1_ v2_ : Value, e = .returned (.tuple #[.agg #[.int .i64 (viewO l b r), v1_, v2_], .bool (viewB l b r)]) ∧ Kd.R (Kd.int .i64) 3 w' w.heap.size (fun k_ => some k_ ≠ (v2_ : Value).ownBlock) v1_ (viewS l b r) ∧ Kd.R (Kd.int .i64) 3 w' w.heap.size (fun k_ => some k_ ≠ (v1_ : Value).ownBlock) v2_ (viewT l b r) ∧ Below w.heap.size w w' := by
  by_cases hd : l = b
  · subst hd
    have e : viewB l l r = true := by simp [viewB]
    simp only [viewO, viewS, viewT, e, if_true]
    exact view_same l r hl hr h5 w
  · by_cases hf : formedB (gi l 0) ((l.drop 2).take r) ((l.drop 7).take r) = true
    · have e : viewB l b r = true := by simp [viewB, hf]
      simp only [viewO, viewS, viewT, e, if_true]
      exact view_diff_ok l b r hl hb hr h5 hd hf w
    · rw [Bool.not_eq_true] at hf
      have e : viewB l b r = false := by simp [viewB, hf, hd]
      simp only [viewO, viewS, viewT, e, Bool.false_eq_true, if_false]
      exact view_diff_no l b r hl hb hr h5 hd hf w
end Go.Proofs.Ytipjhbngbaifeaa.PA

namespace Go.Proofs.Ytipjhbngbaifeaa.PA
open Go.RowKit Go.Proofs.YtipjhbngbaifeaaW.PrintWords Go.Proofs.YtipjhbngbaifeaaW.PrintLast Go.Proofs.YtipjhbngbaifeaaW.PrintMore
set_option linter.unusedVariables false
set_option linter.unusedSimpArgs false
theorem lay_12 (l : List Int) (hl : l.length = 12) : lay l = #[.int .i64 (gi l 0), .int .i64 (gi l 1), .int .i64 (gi l 2), .int .i64 (gi l 3), .int .i64 (gi l 4), .int .i64 (gi l 5), .int .i64 (gi l 6), .int .i64 (gi l 7), .int .i64 (gi l 8), .int .i64 (gi l 9), .int .i64 (gi l 10), .int .i64 (gi l 11)] := by
  match l, hl with
  | [a0, a1, a2, a3, a4, a5, a6, a7, a8, a9, a10, a11], _ => rfl
theorem lay_S {w : World} {g : Nat} {t : TypeId} {l : List Int} (hl : l.length = 12) (h : w.heap[g]? = some (.cells (lay l) t (0, 0))) : w.cell? ⟨g, 0, none⟩ = some (.int .i64 (gi l 0)) ∧ w.cell? ⟨g, 1, none⟩ = some (.int .i64 (gi l 1)) ∧ w.cell? ⟨g, 2, none⟩ = some (.int .i64 (gi l 2)) ∧ w.cell? ⟨g, 3, none⟩ = some (.int .i64 (gi l 3)) ∧ w.cell? ⟨g, 4, none⟩ = some (.int .i64 (gi l 4)) ∧ w.cell? ⟨g, 5, none⟩ = some (.int .i64 (gi l 5)) ∧ w.cell? ⟨g, 6, none⟩ = some (.int .i64 (gi l 6)) ∧ w.cell? ⟨g, 7, none⟩ = some (.int .i64 (gi l 7)) ∧ w.cell? ⟨g, 8, none⟩ = some (.int .i64 (gi l 8)) ∧ w.cell? ⟨g, 9, none⟩ = some (.int .i64 (gi l 9)) ∧ w.cell? ⟨g, 10, none⟩ = some (.int .i64 (gi l 10)) ∧ w.cell? ⟨g, 11, none⟩ = some (.int .i64 (gi l 11)) :=
  ⟨lay_cell h 0 (by omega), lay_cell h 1 (by omega), lay_cell h 2 (by omega), lay_cell h 3 (by omega), lay_cell h 4 (by omega), lay_cell h 5 (by omega), lay_cell h 6 (by omega), lay_cell h 7 (by omega), lay_cell h 8 (by omega), lay_cell h 9 (by omega), lay_cell h 10 (by omega), lay_cell h 11 (by omega)⟩
theorem view_calls12 (b l : List Int) (r : Nat) (hb : b.length = 12) (hl : l.length = 12) (hr : gi b 1 = (r : Int)) (h5 : r ≤ 5) (w : World) :
    Calls Try.prog 72 #[.agg (lay b), .agg #[.int .i64 (gi l 0), .int .i64 (gi l 1), .int .i64 (gi l 2), .int .i64 (gi l 3), .int .i64 (gi l 4), .int .i64 (gi l 5), .int .i64 (gi l 6), .int .i64 (gi l 7), .int .i64 (gi l 8), .int .i64 (gi l 9), .int .i64 (gi l 10), .int .i64 (gi l 11)]] w fun e w' => ∃ v1_ v2_ : Value, e = .returned (.tuple #[.agg #[.int .i64 (viewO b l r), v1_, v2_], .bool (viewB b l r)]) ∧ Kd.R (Kd.int .i64) 3 w' w.heap.size (fun k_ => some k_ ≠ (v2_ : Value).ownBlock) v1_ (viewS b l r) ∧ Kd.R (Kd.int .i64) 3 w' w.heap.size (fun k_ => some k_ ≠ (v1_ : Value).ownBlock) v2_ (viewT b l r) ∧ Below w.heap.size w w' := by
  rw [← lay_12 l hl]; exact view_calls b l r hb hl hr h5 w
theorem formedL_1 {off : Int} {l1 l2 : List Int} (h : formedB off l1 l2 = true) : gi (formedL off l1 l2) 1 = (l1.length : Int) := by unfold formedL; rw [if_pos h]; rfl
theorem formed_5 {off : Int} {l1 l2 : List Int} (h : formedB off l1 l2 = true) : l1.length ≤ 5 := by
  simp only [formedB, Bool.and_eq_true, decide_eq_true_eq] at h
  exact shOk_len h.1.1.1
def viewed (l b : List Int) (r : Nat) : Int × List Int × List Int × Bool := (viewO l b r, viewS l b r, viewT l b r, viewB l b r)
def noView : Int × List Int × List Int × Bool := (0, [], [], false)
def impl_FlipView.f (off : Int) (l1 l2 : List Int) (a : Int) : Option (Int × List Int × List Int × Bool) :=
  some (if formedB off l1 l2 = true ∧ 0 ≤ a ∧ a < (l1.length : Int) then viewed (flipL (formedL off l1 l2) a.toNat) (formedL off l1 l2) l1.length else noView)
end Go.Proofs.Ytipjhbngbaifeaa.PA

namespace Go.Proofs.Ytipjhbngbaifeaa.PA
open Go.RowKit Go.Proofs.YtipjhbngbaifeaaW.PrintWords Go.Proofs.YtipjhbngbaifeaaW.PrintLast Go.Proofs.YtipjhbngbaifeaaW.PrintMore
set_option linter.unusedVariables false
set_option linter.unusedSimpArgs false
def cutStep (cur : List Int) (i : Nat) (a b : Int) : List Int := (cur.set 0 (wrap64 (gi cur 0 + wrap64 (a * gi cur (7 + i))))).set (2 + i) b
def cutGo : List Int → Nat → List (Int × Int) → List Int
  | cur, _, [] => cur
  | cur, i, x :: t => cutGo (cutStep cur i x.1 x.2) (i + 1) t
theorem cutGo_len : ∀ (p : List (Int × Int)) (cur : List Int) (i : Nat), (cutGo cur i p).length = cur.length
  | [], _, _ => rfl
  | x :: t, cur, i => by rw [cutGo, cutGo_len t]; simp [cutStep]
theorem cutGo_snoc (x : Int × Int) : ∀ (p : List (Int × Int)) (cur : List Int) (i : Nat), cutGo cur i (p ++ [x]) = cutStep (cutGo cur i p) (i + p.length) x.1 x.2
  | [], _, _ => rfl
  | a :: t, cur, i => by rw [List.cons_append, cutGo, cutGo_snoc x t, cutGo, List.length_cons, show i + 1 + t.length = i + (t.length + 1) by omega]
theorem cutGo_1 : ∀ (p : List (Int × Int)) (cur : List Int) (i : Nat), gi (cutGo cur i p) 1 = gi cur 1
  | [], _, _ => rfl
  | x :: t, cur, i => by
    rw [cutGo, cutGo_1 t]
    simp [cutStep, gi, List.getD_eq_getElem?_getD, List.getElem?_set, show 2 + i ≠ 1 by omega]
set_option maxHeartbeats 2000000 in
set_option maxRecDepth 100000 in
theorem cut_calls (l : List Int) (A1 : Option Addr) (c1 : Nat) (fr : List Int) (A2 : Option Addr) (c2 : Nat) (sh : List Int) (hl : l.length = 12) (hp : fr.length ≤ 5) (he : sh.length = fr.length) (w : World) (hr : Kd.C (Kd.int .i64) w A1 fr.length fr) (hc : fr.length ≤ c1) (hr2 : Kd.C (Kd.int .i64) w A2 sh.length sh) (hc2 : sh.length ≤ c2) :
    Calls Try.prog 73 #[.agg (lay l), .slice A1 fr.length c1, .slice A2 sh.length c2] w fun e w' => e = .returned (.agg (lay (cutGo l 0 (fr.zip sh)))) ∧ Below w.heap.size w w' := by
  have HL := Aside0.mk hl
  have HP := Aside0.mk hp
  have HE := Aside0.mk he
  have HR := Aside0.mk hr
  have HC := Aside0.mk hc
  have HR2 := Aside0.mk hr2
  have HC2 := Aside0.mk hc2
  clear hl hp he hr hc hr2 hc2
  go_enter Try.func73, Try.ntmps73
  go_wp2_with (first | ((with_reducible refine gate_dst (N := 3) rfl ?_); refine box_event ?hg (N := 3) ?hd (cs := lay l) (t := 67) ?hr ?_; (case hd => rfl); (case hg => rfl); (case hr => first | (go_simp; done) | (go_simp; rfl)); intro g1 hg1 w1 hb1 hB1; have HB1 := Aside0.mk hb1; have HW := Aside0.mk hB1; have HG1 := Aside0.mk (show w.heap.size ≤ g1 by have e := hg1; (try simp at e); omega); clear hb1 hB1 hg1) | ((with_reducible refine gate_dst (N := 6) rfl ?_); refine box_event ?hg (N := 6) ?hd (cs := lay zero12) (t := 67) ?hr ?_; (case hd => rfl); (case hg => rfl); (case hr => first | (go_simp; done) | (go_simp; rfl)); intro g2 hg2 w2 hb2 hB2; have HB2 := Aside0.mk hb2; have nw := Aside0.mk (below_step (by repeat (first | (with_reducible first | exact HW.out | apply below_alloc | apply below_drew1 | apply pw_below_drewN) | exact HW.out)) hB2); have LT12 := Aside0.mk (show g1 < g2 by have := blk_lt HB1.out; have e := hg2; (try simp at e); omega); have n1 := Aside0.mk (blk_below (g := g1) (o := .cells (lay l) 67 (0, 0)) (by (with_reducible repeat (first | refine blk_drew ?_ | refine blk_drewN ?_ _ | refine blk_alloc ?_ _)); exact HB1.out) hB2); clear HB1 HW; have HB1 := n1; have HW := nw; clear n1 nw hb2 hB2 hg2))
  go_loopg [7, 8, 11] (fr.length + 1) (fun kq v7 v8 v11 w' => ∃ j : Nat, v11 = .int .i64 (j : Int) ∧ Aside0 (j + kq = fr.length + 1 ∧ j ≤ fr.length) ∧ Aside0 (w'.heap[g1]? = some (.cells (lay (cutGo l 0 ((fr.zip sh).take j))) 67 (0, 0))) ∧ Aside0 (w'.heap[g2]? = some (.cells (lay zero12) 67 (0, 0))) ∧ Aside0 (Below w.heap.size w w'))
  case atStart => exact ⟨0, rfl, ⟨by omega⟩, HB1, HB2, HW⟩
  case round =>
    clear HB1 HB2 HW
    obtain ⟨j, rfl, HJ, D1, D2, HW⟩ := hrel
    have HL12 := Aside0.mk (show (cutGo l 0 ((fr.zip sh).take j)).length = 12 by rw [cutGo_len]; exact HL.out)
    have HNE := Aside0.mk (show g2 ≠ g1 by have := LT12.out; omega)
    have LE := Aside0.mk HG1.out
    cases gk with
    | zero => exact absurd HJ.out (by omega)
    | succ k1 =>
      by_cases hj : j < fr.length
      · have p1 : 0 ≤ (j : Int) := by omega
        have p2 : (j : Int) < (fr.length : Int) := by omega
        have p3 : (j : Int) < (sh.length : Int) := by have := HE.out; omega
        obtain ⟨ad1, e1, hx1⟩ := Kd.at_int (Kd.C_below HR.out HW.out) (j : Int) p1 p2
        obtain ⟨ad2, e2, hx2⟩ := Kd.at_int (Kd.C_below HR2.out HW.out) (j : Int) p1 p3
        cases e1
        cases e2
        rw [Int.toNat_natCast] at hx1 hx2
        have HX2 := Aside0.mk hx2
        clear hx2
        have hjb := decide_eq_true p2
        have hja := decide_eq_true p1
        replace p1 := eq_true p1
        replace p2 := eq_true p2
        replace p3 := eq_true p3
        have HJL := Aside0.mk hj
        have HX := Aside0.mk (show rd fr (j : Int) = fr[j]'HJL.out by simp [rd, HJL.out])
        have HJS := Aside0.mk (show j < sh.length by have := HE.out; omega)
        have HY := Aside0.mk (show rd sh (j : Int) = sh[j]'HJS.out by simp [rd, HJS.out])
        have hm : j < 5 := by have := HP.out; omega
        clear hj
        have k0 := lay_cell D1.out 0 (by have := HL12.out; omega)
        have k7 := lay_cell D1.out (7 + j) (by have := HL12.out; omega)
        have f0 := blk_frozen D1.out 0
        go_upto_region 4 with fail
        go_region
        have B1 := Aside0.mk (lay_put (t := 67) D1.out 0 (wrap64 (gi (cutGo l 0 ((fr.zip sh).take j)) 0 + wrap64 (rd fr (j : Int) * gi (cutGo l 0 ((fr.zip sh).take j)) (7 + j)))))
        have B2 := Aside0.mk (blk_farG (i := 0) D2.out HNE.out (.int .i64 (wrap64 (gi (cutGo l 0 ((fr.zip sh).take j)) 0 + wrap64 (rd fr (j : Int) * gi (cutGo l 0 ((fr.zip sh).take j)) (7 + j))))))
        have BW := Aside0.mk (below_drew1 (below_set (j := 0) (v := (.int .i64 (wrap64 (gi (cutGo l 0 ((fr.zip sh).take j)) 0 + wrap64 (rd fr (j : Int) * gi (cutGo l 0 ((fr.zip sh).take j)) (7 + j)))))) HW.out LE.out))
        have RS := Aside0.mk (Kd.C_below HR2.out BW.out)
        obtain ⟨W, hW⟩ : ∃ W, (wr.setCell ⟨g1, 0, none⟩ (.int .i64 (wrap64 (gi (cutGo l 0 ((fr.zip sh).take j)) 0 + wrap64 (rd fr (j : Int) * gi (cutGo l 0 ((fr.zip sh).take j)) (7 + j)))))).drew = W := ⟨_, rfl⟩
        replace B1 : Aside0 (W.heap[g1]? = some (.cells (lay ((cutGo l 0 ((fr.zip sh).take j)).set 0 (wrap64 (gi (cutGo l 0 ((fr.zip sh).take j)) 0 + wrap64 (rd fr (j : Int) * gi (cutGo l 0 ((fr.zip sh).take j)) (7 + j)))))) 67 (0, 0))) := ⟨by rw [← hW]; exact B1.out⟩
        replace B2 : Aside0 (W.heap[g2]? = some (.cells (lay zero12) 67 (0, 0))) := ⟨by rw [← hW]; exact B2.out⟩
        rw [hW] at BW RS ⊢
        clear k0 k7 f0 hx1 HX2 D1 D2 hW HW
        obtain ⟨ad3, e3, hx3⟩ := Kd.at_int RS.out (j : Int) (of_eq_true p1) (of_eq_true p3)
        cases e3
        rw [Int.toNat_natCast] at hx3
        have k2 := lay_cell B1.out (2 + j) (by have := HL12.out; rw [List.length_set]; omega)
        have f2 := blk_frozen B1.out (2 + j)
        go_wp2_with fail
        go_roundg k1
        case measure => omega
        case rel =>
          refine ⟨j + 1, rfl, ⟨by have := HJ.out; have := HJL.out; omega⟩, ⟨?_⟩, ⟨blk_farG B2.out HNE.out _⟩, ⟨below_set BW.out LE.out⟩⟩
          have h0 := lay_put B1.out (2 + j) (rd sh (j : Int))
          have hz : j < (fr.zip sh).length := by have := HE.out; have := HJL.out; simp; omega
          have e : cutGo l 0 ((fr.zip sh).take (j + 1)) = (((cutGo l 0 ((fr.zip sh).take j)).set 0 (wrap64 (gi (cutGo l 0 ((fr.zip sh).take j)) 0 + wrap64 (rd fr (j : Int) * gi (cutGo l 0 ((fr.zip sh).take j)) (7 + j))))).set (2 + j) (rd sh (j : Int))) := by
            rw [List.take_succ_eq_append_getElem hz, cutGo_snoc, List.getElem_zip, ← HX.out, ← HY.out, List.length_take, Nat.zero_add, Nat.min_eq_left (by omega)]; rfl
          rw [e]; exact h0
      · have hjb : decide ((j : Int) < (fr.length : Int)) = false := decide_eq_false (by omega)
        have hjc : decide (j < fr.length) = false := decide_eq_false hj
        have hjd : (j < fr.length) = False := eq_false hj
        have HYL := Aside0.mk (show (cutGo l 0 ((fr.zip sh).take j)) = cutGo l 0 (fr.zip sh) by have := HJ.out; have := HE.out; rw [List.take_of_length_le (by simp; omega)])
        clear hj
        go_wp2_with (first | ((with_reducible refine gate_dst (N := 34) rfl ?_); refine wpList_load_row rfl 67 (.tmp 3) rfl g1 rfl 67 (lay _) (0, 0) _ (by (with_reducible repeat (first | refine blk_drew ?_ | refine blk_drewN ?_ _ | refine blk_alloc ?_ _)); exact D1.out) Try.underlying67 rfl (info67 _ HL12.out) ?_) | ((with_reducible refine gate_store rfl ?_); refine wpList_store_row rfl 67 (.tmp 6) (.tmp 34) rfl g2 (lay (cutGo l 0 ((fr.zip sh).take j))) rfl rfl 67 (lay zero12) (by (with_reducible repeat (first | refine blk_drew ?_ | refine blk_drewN ?_ _ | refine blk_alloc ?_ _)); exact D2.out) (info67 _ HL12.out) (by rw [lay_size, lay_size, HL12.out]; rfl) (lay_one _) ?_))
        refine bodyPost_ret (results_cell_row rfl _ _ g2 67 (lay (cutGo l 0 ((fr.zip sh).take j))) (0, 0) _ rfl (setRow_heap _ g2 _ _ _ (0, 0) D2.out) Try.underlying67 rfl (info67 _ HL12.out)) rfl ⟨by rw [HYL.out], below_setRow HW.out (show w.heap.size ≤ g2 by have := HG1.out; have := LT12.out; omega) _⟩
theorem cut12 (l : List Int) (A1 : Option Addr) (c1 : Nat) (fr : List Int) (A2 : Option Addr) (c2 : Nat) (sh : List Int) (hl : l.length = 12) (hp : fr.length ≤ 5) (he : sh.length = fr.length) (w : World) (hr : Kd.C (Kd.int .i64) w A1 fr.length fr) (hc : fr.length ≤ c1) (hr2 : Kd.C (Kd.int .i64) w A2 sh.length sh) (hc2 : sh.length ≤ c2) :
    Calls Try.prog 73 #[.agg #[.int .i64 (gi l 0), .int .i64 (gi l 1), .int .i64 (gi l 2), .int .i64 (gi l 3), .int .i64 (gi l 4), .int .i64 (gi l 5), .int .i64 (gi l 6), .int .i64 (gi l 7), .int .i64 (gi l 8), .int .i64 (gi l 9), .int .i64 (gi l 10), .int .i64 (gi l 11)], .slice A1 fr.length c1, .slice A2 sh.length c2] w fun e w' => e = .returned (.agg (lay (cutGo l 0 (fr.zip sh)))) ∧ Below w.heap.size w w' := by
  rw [← lay_12 l hl]; exact cut_calls l A1 c1 fr A2 c2 sh hl hp he w hr hc hr2 hc2
end Go.Proofs.Ytipjhbngbaifeaa.PA

namespace Go.Proofs.Ytipjhbngbaifeaa.PA
open Go.RowKit Go.Proofs.YtipjhbngbaifeaaW.PrintWords Go.Proofs.YtipjhbngbaifeaaW.PrintLast Go.Proofs.YtipjhbngbaifeaaW.PrintMore
set_option linter.unusedVariables false
set_option linter.unusedSimpArgs false
/-- The checks of 'CutView' beyond the form: each axis' start and number. -/
def cutChk (x : Int × (Int × Int)) : Bool := decide (0 ≤ x.2.1 ∧ x.2.1 ≤ x.1) && decide (0 ≤ x.2.2 ∧ x.2.2 ≤ wrap64 (x.1 - x.2.1))
def cutOk (l1 fr sh : List Int) : Bool := (l1.zip (fr.zip sh)).all cutChk
theorem formedL_2' {off : Int} {l1 l2 : List Int} {m : Nat} (h : formedB off l1 l2 = true) (hm : m < l1.length) : gi (formedL off l1 l2) (2 + m) = l1[m] := by
  unfold formedL; rw [if_pos h]
  rw [Nat.add_comm]
  simp only [gi, List.getD_cons_succ, pad5, List.append_assoc]
  rw [List.getD_eq_getElem?_getD, List.getElem?_append_left hm, List.getElem?_eq_getElem hm]; rfl
set_option maxHeartbeats 2000000 in
set_option maxRecDepth 100000 in
theorem cutView_n1 (off : Int) (A1 A2 : Option Addr) (c1 c2 : Nat) (l1 l2 : List Int) (A3 : Option Addr) (c3 : Nat) (fr : List Int) (A4 : Option Addr) (c4 : Nat) (sh : List Int) (w : World) (hr1 : Kd.C (Kd.int .i64) w A1 l1.length l1) (hc1 : l1.length ≤ c1) (hr2 : Kd.C (Kd.int .i64) w A2 l2.length l2) (hc2 : l2.length ≤ c2) (hr3 : Kd.C (Kd.int .i64) w A3 fr.length fr) (hc3 : fr.length ≤ c3) (hr4 : Kd.C (Kd.int .i64) w A4 sh.length sh) (hc4 : sh.length ≤ c4) (hf : formedB off l1 l2 = false) :
    Calls Try.prog 39 #[.agg #[.int .i64 off, .slice A1 l1.length c1, .slice A2 l2.length c2], .slice A3 fr.length c3, .slice A4 sh.length c4] w fun e w' => ∃ v1_ v2_ : Value, e = .returned (.tuple #[.agg #[.int .i64 0, v1_, v2_], .bool false]) ∧ Kd.R (Kd.int .i64) 3 w' w.heap.size (fun k_ => some k_ ≠ (v2_ : Value).ownBlock) v1_ [] ∧ Kd.R (Kd.int .i64) 3 w' w.heap.size (fun k_ => some k_ ≠ (v1_ : Value).ownBlock) v2_ [] ∧ Below w.heap.size w w' := by
  have HR1 := Aside0.mk hr1
  have HC1 := Aside0.mk hc1
  have HR2 := Aside0.mk hr2
  have HC2 := Aside0.mk hc2
  have HF := Aside0.mk hf
  clear hr1 hc1 hr2 hc2 hf
  have HR3 := Aside0.mk hr3
  have HC3 := Aside0.mk hc3
  have HR4 := Aside0.mk hr4
  have HC4 := Aside0.mk hc4
  clear hr3 hc3 hr4 hc4
  go_enter Try.func39, Try.ntmps39
  go_wp2_with (first | ((with_reducible refine gate_dst (N := 3) rfl ?_); refine box_event ?hg (N := 3) ?hd (cs := #[.int .i64 off, .slice A1 l1.length c1, .slice A2 l2.length c2]) (t := 33) ?hr ?_; (case hd => rfl); (case hg => rfl); (case hr => first | (go_simp; done) | (go_simp; rfl)); intro g1 hg1 w1 hb1 hB1; have HB1 := Aside0.mk hb1; have HW := Aside0.mk hB1; have HG1 := Aside0.mk (show w.heap.size ≤ g1 by have e := hg1; (try simp at e); omega); clear hb1 hB1 hg1) | ((with_reducible refine gate_dst (N := 6) rfl ?_); refine box_event ?hg (N := 6) ?hd (cs := #[.int .i64 0, .slice none 0 0, .slice none 0 0]) (t := 33) ?hr ?_; (case hd => rfl); (case hg => rfl); (case hr => first | (go_simp; done) | (go_simp; rfl)); intro g2 hg2 w2 hb2 hB2; have HB2 := Aside0.mk hb2; have nw := Aside0.mk (below_step (by repeat (first | (with_reducible first | exact HW.out | apply below_alloc | apply below_drew1 | apply pw_below_drewN) | exact HW.out)) hB2); have LT12 := Aside0.mk (show g1 < g2 by have := blk_lt HB1.out; have e := hg2; (try simp at e); omega); have n1 := Aside0.mk (blk_below (g := g1) (o := .cells #[.int .i64 off, .slice A1 l1.length c1, .slice A2 l2.length c2] 33 (0, 0)) (by (with_reducible repeat (first | refine blk_drew ?_ | refine blk_drewN ?_ _ | refine blk_alloc ?_ _)); exact HB1.out) hB2); clear HB1 HW; have HB1 := n1; have HW := nw; clear n1 nw hb2 hB2 hg2) | ((with_reducible refine gate_dst (N := 13) rfl ?_); refine wpList_load_row rfl 33 (.tmp 3) rfl g1 rfl 33 #[.int .i64 off, .slice A1 l1.length c1, .slice A2 l2.length c2] (0, 0) _ (by (with_reducible repeat (first | refine blk_drew ?_ | refine blk_drewN ?_ _ | refine blk_alloc ?_ _)); exact HB1.out) Try.underlying33 rfl (by kernel_rfl) ?_) | (go_at_call 63; refine (formed_calls off A1 A2 c1 c2 l1 l2 _ (Kd.C_below HR1.out (by repeat (first | (with_reducible first | exact HW.out | apply below_alloc | apply below_drew1 | apply pw_below_drewN) | exact HW.out))) HC1.out (Kd.C_below HR2.out (by repeat (first | (with_reducible first | exact HW.out | apply below_alloc | apply below_drew1 | apply pw_below_drewN) | exact HW.out))) HC2.out).mono ?_; rw [HF.out]; rintro e w8 ⟨rfl, hb8⟩; have nw := Aside0.mk (below_step (by repeat (first | (with_reducible first | exact HW.out | apply below_alloc | apply below_drew1 | apply pw_below_drewN) | exact HW.out)) hb8); have n2 := Aside0.mk (blk_below (g := g2) (o := .cells #[.int .i64 0, .slice none 0 0, .slice none 0 0] 33 (0, 0)) (by (with_reducible repeat (first | refine blk_drew ?_ | refine blk_drewN ?_ _ | refine blk_alloc ?_ _)); exact HB2.out) hb8); clear HB1 HB2 HW; have HB2 := n2; have HW := nw; clear n2 nw hb8) | ((with_reducible refine gate_dst (N := 8) rfl ?_); refine box_event ?hg (N := 8) ?hd (cs := lay zero12) (t := 67) ?hr ?_; (case hd => rfl); (case hg => rfl); (case hr => first | (go_simp; done) | (go_simp; rfl)); intro g8 hg8 w9 hb9 hB9; have HB8 := Aside0.mk hb9; have nw := Aside0.mk (below_step (by repeat (first | (with_reducible first | exact HW.out | apply below_alloc | apply below_drew1 | apply pw_below_drewN) | exact HW.out)) hB9); have LT28 := Aside0.mk (show g2 < g8 by have := blk_lt HB2.out; have e := hg8; (try simp at e); omega); have n2 := Aside0.mk (blk_below (g := g2) (o := .cells #[.int .i64 0, .slice none 0 0, .slice none 0 0] 33 (0, 0)) (by (with_reducible repeat (first | refine blk_drew ?_ | refine blk_drewN ?_ _ | refine blk_alloc ?_ _)); exact HB2.out) hB9); have n3 := Aside0.mk ((setRow_other w9 g8 g2 (lay (formedL off l1 l2)) (show g2 ≠ g8 by have := LT28.out; omega)).trans n2.out); have n4 := Aside0.mk (setRow_heap w9 g8 _ (lay (formedL off l1 l2)) _ _ HB8.out); have nw2 := Aside0.mk (below_setRow nw.out (show w.heap.size ≤ g8 by have := HG1.out; have := LT12.out; have := LT28.out; omega) (lay (formedL off l1 l2))); have hcr : (w9.setRow g8 (lay (formedL off l1 l2))).cell? ⟨g8, 1, none⟩ = some (.int .i64 (gi (formedL off l1 l2) 1)) := lay_cell n4.out 1 (by rw [formedL_len]; omega);  clear HB2 HW; have HB2 := n3; have BL := n4; have HW := nw2; clear n2 n3 n4 nw nw2 hb9 hB9 hg8) | ((with_reducible refine gate_store rfl ?_); refine wpList_store_row rfl 67 (.tmp 8) (.tmp 15) rfl g8 (lay (formedL off l1 l2)) rfl rfl 67 (lay zero12) HB8.out (info67 _ formedL_len) (by rw [lay_size, lay_size, formedL_len]; rfl) (lay_one _) ?_) | ((with_reducible refine gate_store rfl ?_); refine wpList_store_row rfl 33 (.tmp 6) (.tmp 33) rfl g2 #[.int .i64 0, .slice none 0 0, .slice none 0 0] rfl rfl 33 #[.int .i64 0, .slice none 0 0, .slice none 0 0] (by (with_reducible repeat (first | refine blk_drew ?_ | refine blk_drewN ?_ _ | refine blk_alloc ?_ _)); exact HB2.out) (by kernel_rfl) rfl (by simp [Value.oneCell']) ?_))
  refine bodyPost_ret (results_ct rfl _ _ g2 33 #[.int .i64 0, .slice none 0 0, .slice none 0 0] (0, 0) _ rfl (setRow_heap _ g2 _ _ _ (0, 0) (by (with_reducible repeat (first | refine blk_drew ?_ | refine blk_drewN ?_ _ | refine blk_alloc ?_ _)); exact HB2.out)) Try.underlying33 rfl (by kernel_rfl)) rfl ?_
  exact ⟨_, _, rfl, Kd.R_nil _ _ _ _ _, Kd.R_nil _ _ _ _ _, below_setRow (by repeat (first | (with_reducible first | exact HW.out | apply below_alloc | apply below_drew1 | apply pw_below_drewN) | exact HW.out)) (show w.heap.size ≤ g2 by have := HG1.out; have := LT12.out; omega) _⟩
set_option maxHeartbeats 2000000 in
set_option maxRecDepth 100000 in
theorem cutView_n2 (off : Int) (A1 A2 : Option Addr) (c1 c2 : Nat) (l1 l2 : List Int) (A3 : Option Addr) (c3 : Nat) (fr : List Int) (A4 : Option Addr) (c4 : Nat) (sh : List Int) (w : World) (hr1 : Kd.C (Kd.int .i64) w A1 l1.length l1) (hc1 : l1.length ≤ c1) (hr2 : Kd.C (Kd.int .i64) w A2 l2.length l2) (hc2 : l2.length ≤ c2) (hr3 : Kd.C (Kd.int .i64) w A3 fr.length fr) (hc3 : fr.length ≤ c3) (hr4 : Kd.C (Kd.int .i64) w A4 sh.length sh) (hc4 : sh.length ≤ c4) (hf : formedB off l1 l2 = true) (h1 : fr.length ≠ l1.length) :
    Calls Try.prog 39 #[.agg #[.int .i64 off, .slice A1 l1.length c1, .slice A2 l2.length c2], .slice A3 fr.length c3, .slice A4 sh.length c4] w fun e w' => ∃ v1_ v2_ : Value, e = .returned (.tuple #[.agg #[.int .i64 0, v1_, v2_], .bool false]) ∧ Kd.R (Kd.int .i64) 3 w' w.heap.size (fun k_ => some k_ ≠ (v2_ : Value).ownBlock) v1_ [] ∧ Kd.R (Kd.int .i64) 3 w' w.heap.size (fun k_ => some k_ ≠ (v1_ : Value).ownBlock) v2_ [] ∧ Below w.heap.size w w' := by
  have q1a : ((fr.length : Int) != (l1.length : Int)) = true := by simp; omega
  have q2a : (fr.length != l1.length) = true := by simp; omega
  have q3a : ((fr.length : Int) == (l1.length : Int)) = false := by simp; omega
  have q4a : (fr.length == l1.length) = false := by simp; omega
  have HE := Aside0.mk (formedL_1 hf)
  clear h1
  have HR1 := Aside0.mk hr1
  have HC1 := Aside0.mk hc1
  have HR2 := Aside0.mk hr2
  have HC2 := Aside0.mk hc2
  have HF := Aside0.mk hf
  clear hr1 hc1 hr2 hc2 hf
  have HR3 := Aside0.mk hr3
  have HC3 := Aside0.mk hc3
  have HR4 := Aside0.mk hr4
  have HC4 := Aside0.mk hc4
  clear hr3 hc3 hr4 hc4
  go_enter Try.func39, Try.ntmps39
  go_wp2_with (first | ((with_reducible refine gate_dst (N := 3) rfl ?_); refine box_event ?hg (N := 3) ?hd (cs := #[.int .i64 off, .slice A1 l1.length c1, .slice A2 l2.length c2]) (t := 33) ?hr ?_; (case hd => rfl); (case hg => rfl); (case hr => first | (go_simp; done) | (go_simp; rfl)); intro g1 hg1 w1 hb1 hB1; have HB1 := Aside0.mk hb1; have HW := Aside0.mk hB1; have HG1 := Aside0.mk (show w.heap.size ≤ g1 by have e := hg1; (try simp at e); omega); clear hb1 hB1 hg1) | ((with_reducible refine gate_dst (N := 6) rfl ?_); refine box_event ?hg (N := 6) ?hd (cs := #[.int .i64 0, .slice none 0 0, .slice none 0 0]) (t := 33) ?hr ?_; (case hd => rfl); (case hg => rfl); (case hr => first | (go_simp; done) | (go_simp; rfl)); intro g2 hg2 w2 hb2 hB2; have HB2 := Aside0.mk hb2; have nw := Aside0.mk (below_step (by repeat (first | (with_reducible first | exact HW.out | apply below_alloc | apply below_drew1 | apply pw_below_drewN) | exact HW.out)) hB2); have LT12 := Aside0.mk (show g1 < g2 by have := blk_lt HB1.out; have e := hg2; (try simp at e); omega); have n1 := Aside0.mk (blk_below (g := g1) (o := .cells #[.int .i64 off, .slice A1 l1.length c1, .slice A2 l2.length c2] 33 (0, 0)) (by (with_reducible repeat (first | refine blk_drew ?_ | refine blk_drewN ?_ _ | refine blk_alloc ?_ _)); exact HB1.out) hB2); clear HB1 HW; have HB1 := n1; have HW := nw; clear n1 nw hb2 hB2 hg2) | ((with_reducible refine gate_dst (N := 13) rfl ?_); refine wpList_load_row rfl 33 (.tmp 3) rfl g1 rfl 33 #[.int .i64 off, .slice A1 l1.length c1, .slice A2 l2.length c2] (0, 0) _ (by (with_reducible repeat (first | refine blk_drew ?_ | refine blk_drewN ?_ _ | refine blk_alloc ?_ _)); exact HB1.out) Try.underlying33 rfl (by kernel_rfl) ?_) | (go_at_call 63; refine (formed_calls off A1 A2 c1 c2 l1 l2 _ (Kd.C_below HR1.out (by repeat (first | (with_reducible first | exact HW.out | apply below_alloc | apply below_drew1 | apply pw_below_drewN) | exact HW.out))) HC1.out (Kd.C_below HR2.out (by repeat (first | (with_reducible first | exact HW.out | apply below_alloc | apply below_drew1 | apply pw_below_drewN) | exact HW.out))) HC2.out).mono ?_; rw [HF.out]; rintro e w8 ⟨rfl, hb8⟩; have nw := Aside0.mk (below_step (by repeat (first | (with_reducible first | exact HW.out | apply below_alloc | apply below_drew1 | apply pw_below_drewN) | exact HW.out)) hb8); have n2 := Aside0.mk (blk_below (g := g2) (o := .cells #[.int .i64 0, .slice none 0 0, .slice none 0 0] 33 (0, 0)) (by (with_reducible repeat (first | refine blk_drew ?_ | refine blk_drewN ?_ _ | refine blk_alloc ?_ _)); exact HB2.out) hb8); clear HB1 HB2 HW; have HB2 := n2; have HW := nw; clear n2 nw hb8) | ((with_reducible refine gate_dst (N := 8) rfl ?_); refine box_event ?hg (N := 8) ?hd (cs := lay zero12) (t := 67) ?hr ?_; (case hd => rfl); (case hg => rfl); (case hr => first | (go_simp; done) | (go_simp; rfl)); intro g8 hg8 w9 hb9 hB9; have HB8 := Aside0.mk hb9; have nw := Aside0.mk (below_step (by repeat (first | (with_reducible first | exact HW.out | apply below_alloc | apply below_drew1 | apply pw_below_drewN) | exact HW.out)) hB9); have LT28 := Aside0.mk (show g2 < g8 by have := blk_lt HB2.out; have e := hg8; (try simp at e); omega); have n2 := Aside0.mk (blk_below (g := g2) (o := .cells #[.int .i64 0, .slice none 0 0, .slice none 0 0] 33 (0, 0)) (by (with_reducible repeat (first | refine blk_drew ?_ | refine blk_drewN ?_ _ | refine blk_alloc ?_ _)); exact HB2.out) hB9); have n3 := Aside0.mk ((setRow_other w9 g8 g2 (lay (formedL off l1 l2)) (show g2 ≠ g8 by have := LT28.out; omega)).trans n2.out); have n4 := Aside0.mk (setRow_heap w9 g8 _ (lay (formedL off l1 l2)) _ _ HB8.out); have nw2 := Aside0.mk (below_setRow nw.out (show w.heap.size ≤ g8 by have := HG1.out; have := LT12.out; have := LT28.out; omega) (lay (formedL off l1 l2))); have hcr : (w9.setRow g8 (lay (formedL off l1 l2))).cell? ⟨g8, 1, none⟩ = some (.int .i64 (gi (formedL off l1 l2) 1)) := lay_cell n4.out 1 (by rw [formedL_len]; omega); rw [HE.out] at hcr; clear HB2 HW; have HB2 := n3; have BL := n4; have HW := nw2; clear n2 n3 n4 nw nw2 hb9 hB9 hg8) | ((with_reducible refine gate_store rfl ?_); refine wpList_store_row rfl 67 (.tmp 8) (.tmp 15) rfl g8 (lay (formedL off l1 l2)) rfl rfl 67 (lay zero12) HB8.out (info67 _ formedL_len) (by rw [lay_size, lay_size, formedL_len]; rfl) (lay_one _) ?_) | ((with_reducible refine gate_store rfl ?_); refine wpList_store_row rfl 33 (.tmp 6) (.tmp 33) rfl g2 #[.int .i64 0, .slice none 0 0, .slice none 0 0] rfl rfl 33 #[.int .i64 0, .slice none 0 0, .slice none 0 0] (by (with_reducible repeat (first | refine blk_drew ?_ | refine blk_drewN ?_ _ | refine blk_alloc ?_ _)); exact HB2.out) (by kernel_rfl) rfl (by simp [Value.oneCell']) ?_))
  refine bodyPost_ret (results_ct rfl _ _ g2 33 #[.int .i64 0, .slice none 0 0, .slice none 0 0] (0, 0) _ rfl (setRow_heap _ g2 _ _ _ (0, 0) (by (with_reducible repeat (first | refine blk_drew ?_ | refine blk_drewN ?_ _ | refine blk_alloc ?_ _)); exact HB2.out)) Try.underlying33 rfl (by kernel_rfl)) rfl ?_
  exact ⟨_, _, rfl, Kd.R_nil _ _ _ _ _, Kd.R_nil _ _ _ _ _, below_setRow (by repeat (first | (with_reducible first | exact HW.out | apply below_alloc | apply below_drew1 | apply pw_below_drewN) | exact HW.out)) (show w.heap.size ≤ g2 by have := HG1.out; have := LT12.out; omega) _⟩
set_option maxHeartbeats 2000000 in
set_option maxRecDepth 100000 in
theorem cutView_n3 (off : Int) (A1 A2 : Option Addr) (c1 c2 : Nat) (l1 l2 : List Int) (A3 : Option Addr) (c3 : Nat) (fr : List Int) (A4 : Option Addr) (c4 : Nat) (sh : List Int) (w : World) (hr1 : Kd.C (Kd.int .i64) w A1 l1.length l1) (hc1 : l1.length ≤ c1) (hr2 : Kd.C (Kd.int .i64) w A2 l2.length l2) (hc2 : l2.length ≤ c2) (hr3 : Kd.C (Kd.int .i64) w A3 fr.length fr) (hc3 : fr.length ≤ c3) (hr4 : Kd.C (Kd.int .i64) w A4 sh.length sh) (hc4 : sh.length ≤ c4) (hf : formedB off l1 l2 = true) (h1 : fr.length = l1.length) (h2 : sh.length ≠ l1.length) :
    Calls Try.prog 39 #[.agg #[.int .i64 off, .slice A1 l1.length c1, .slice A2 l2.length c2], .slice A3 fr.length c3, .slice A4 sh.length c4] w fun e w' => ∃ v1_ v2_ : Value, e = .returned (.tuple #[.agg #[.int .i64 0, v1_, v2_], .bool false]) ∧ Kd.R (Kd.int .i64) 3 w' w.heap.size (fun k_ => some k_ ≠ (v2_ : Value).ownBlock) v1_ [] ∧ Kd.R (Kd.int .i64) 3 w' w.heap.size (fun k_ => some k_ ≠ (v1_ : Value).ownBlock) v2_ [] ∧ Below w.heap.size w w' := by
  have q1a : ((fr.length : Int) != (l1.length : Int)) = false := by simp; omega
  have q2a : (fr.length != l1.length) = false := by simp; omega
  have q3a : ((fr.length : Int) == (l1.length : Int)) = true := by simp; omega
  have q4a : (fr.length == l1.length) = true := by simp; omega
  have q1b : ((sh.length : Int) != (l1.length : Int)) = true := by simp; omega
  have q2b : (sh.length != l1.length) = true := by simp; omega
  have q3b : ((sh.length : Int) == (l1.length : Int)) = false := by simp; omega
  have q4b : (sh.length == l1.length) = false := by simp; omega
  have HE := Aside0.mk (formedL_1 hf)
  clear h1 h2
  have HR1 := Aside0.mk hr1
  have HC1 := Aside0.mk hc1
  have HR2 := Aside0.mk hr2
  have HC2 := Aside0.mk hc2
  have HF := Aside0.mk hf
  clear hr1 hc1 hr2 hc2 hf
  have HR3 := Aside0.mk hr3
  have HC3 := Aside0.mk hc3
  have HR4 := Aside0.mk hr4
  have HC4 := Aside0.mk hc4
  clear hr3 hc3 hr4 hc4
  go_enter Try.func39, Try.ntmps39
  go_wp2_with (first | ((with_reducible refine gate_dst (N := 3) rfl ?_); refine box_event ?hg (N := 3) ?hd (cs := #[.int .i64 off, .slice A1 l1.length c1, .slice A2 l2.length c2]) (t := 33) ?hr ?_; (case hd => rfl); (case hg => rfl); (case hr => first | (go_simp; done) | (go_simp; rfl)); intro g1 hg1 w1 hb1 hB1; have HB1 := Aside0.mk hb1; have HW := Aside0.mk hB1; have HG1 := Aside0.mk (show w.heap.size ≤ g1 by have e := hg1; (try simp at e); omega); clear hb1 hB1 hg1) | ((with_reducible refine gate_dst (N := 6) rfl ?_); refine box_event ?hg (N := 6) ?hd (cs := #[.int .i64 0, .slice none 0 0, .slice none 0 0]) (t := 33) ?hr ?_; (case hd => rfl); (case hg => rfl); (case hr => first | (go_simp; done) | (go_simp; rfl)); intro g2 hg2 w2 hb2 hB2; have HB2 := Aside0.mk hb2; have nw := Aside0.mk (below_step (by repeat (first | (with_reducible first | exact HW.out | apply below_alloc | apply below_drew1 | apply pw_below_drewN) | exact HW.out)) hB2); have LT12 := Aside0.mk (show g1 < g2 by have := blk_lt HB1.out; have e := hg2; (try simp at e); omega); have n1 := Aside0.mk (blk_below (g := g1) (o := .cells #[.int .i64 off, .slice A1 l1.length c1, .slice A2 l2.length c2] 33 (0, 0)) (by (with_reducible repeat (first | refine blk_drew ?_ | refine blk_drewN ?_ _ | refine blk_alloc ?_ _)); exact HB1.out) hB2); clear HB1 HW; have HB1 := n1; have HW := nw; clear n1 nw hb2 hB2 hg2) | ((with_reducible refine gate_dst (N := 13) rfl ?_); refine wpList_load_row rfl 33 (.tmp 3) rfl g1 rfl 33 #[.int .i64 off, .slice A1 l1.length c1, .slice A2 l2.length c2] (0, 0) _ (by (with_reducible repeat (first | refine blk_drew ?_ | refine blk_drewN ?_ _ | refine blk_alloc ?_ _)); exact HB1.out) Try.underlying33 rfl (by kernel_rfl) ?_) | (go_at_call 63; refine (formed_calls off A1 A2 c1 c2 l1 l2 _ (Kd.C_below HR1.out (by repeat (first | (with_reducible first | exact HW.out | apply below_alloc | apply below_drew1 | apply pw_below_drewN) | exact HW.out))) HC1.out (Kd.C_below HR2.out (by repeat (first | (with_reducible first | exact HW.out | apply below_alloc | apply below_drew1 | apply pw_below_drewN) | exact HW.out))) HC2.out).mono ?_; rw [HF.out]; rintro e w8 ⟨rfl, hb8⟩; have nw := Aside0.mk (below_step (by repeat (first | (with_reducible first | exact HW.out | apply below_alloc | apply below_drew1 | apply pw_below_drewN) | exact HW.out)) hb8); have n2 := Aside0.mk (blk_below (g := g2) (o := .cells #[.int .i64 0, .slice none 0 0, .slice none 0 0] 33 (0, 0)) (by (with_reducible repeat (first | refine blk_drew ?_ | refine blk_drewN ?_ _ | refine blk_alloc ?_ _)); exact HB2.out) hb8); clear HB1 HB2 HW; have HB2 := n2; have HW := nw; clear n2 nw hb8) | ((with_reducible refine gate_dst (N := 8) rfl ?_); refine box_event ?hg (N := 8) ?hd (cs := lay zero12) (t := 67) ?hr ?_; (case hd => rfl); (case hg => rfl); (case hr => first | (go_simp; done) | (go_simp; rfl)); intro g8 hg8 w9 hb9 hB9; have HB8 := Aside0.mk hb9; have nw := Aside0.mk (below_step (by repeat (first | (with_reducible first | exact HW.out | apply below_alloc | apply below_drew1 | apply pw_below_drewN) | exact HW.out)) hB9); have LT28 := Aside0.mk (show g2 < g8 by have := blk_lt HB2.out; have e := hg8; (try simp at e); omega); have n2 := Aside0.mk (blk_below (g := g2) (o := .cells #[.int .i64 0, .slice none 0 0, .slice none 0 0] 33 (0, 0)) (by (with_reducible repeat (first | refine blk_drew ?_ | refine blk_drewN ?_ _ | refine blk_alloc ?_ _)); exact HB2.out) hB9); have n3 := Aside0.mk ((setRow_other w9 g8 g2 (lay (formedL off l1 l2)) (show g2 ≠ g8 by have := LT28.out; omega)).trans n2.out); have n4 := Aside0.mk (setRow_heap w9 g8 _ (lay (formedL off l1 l2)) _ _ HB8.out); have nw2 := Aside0.mk (below_setRow nw.out (show w.heap.size ≤ g8 by have := HG1.out; have := LT12.out; have := LT28.out; omega) (lay (formedL off l1 l2))); have hcr : (w9.setRow g8 (lay (formedL off l1 l2))).cell? ⟨g8, 1, none⟩ = some (.int .i64 (gi (formedL off l1 l2) 1)) := lay_cell n4.out 1 (by rw [formedL_len]; omega); rw [HE.out] at hcr; clear HB2 HW; have HB2 := n3; have BL := n4; have HW := nw2; clear n2 n3 n4 nw nw2 hb9 hB9 hg8) | ((with_reducible refine gate_store rfl ?_); refine wpList_store_row rfl 67 (.tmp 8) (.tmp 15) rfl g8 (lay (formedL off l1 l2)) rfl rfl 67 (lay zero12) HB8.out (info67 _ formedL_len) (by rw [lay_size, lay_size, formedL_len]; rfl) (lay_one _) ?_) | ((with_reducible refine gate_store rfl ?_); refine wpList_store_row rfl 33 (.tmp 6) (.tmp 33) rfl g2 #[.int .i64 0, .slice none 0 0, .slice none 0 0] rfl rfl 33 #[.int .i64 0, .slice none 0 0, .slice none 0 0] (by (with_reducible repeat (first | refine blk_drew ?_ | refine blk_drewN ?_ _ | refine blk_alloc ?_ _)); exact HB2.out) (by kernel_rfl) rfl (by simp [Value.oneCell']) ?_))
  refine bodyPost_ret (results_ct rfl _ _ g2 33 #[.int .i64 0, .slice none 0 0, .slice none 0 0] (0, 0) _ rfl (setRow_heap _ g2 _ _ _ (0, 0) (by (with_reducible repeat (first | refine blk_drew ?_ | refine blk_drewN ?_ _ | refine blk_alloc ?_ _)); exact HB2.out)) Try.underlying33 rfl (by kernel_rfl)) rfl ?_
  exact ⟨_, _, rfl, Kd.R_nil _ _ _ _ _, Kd.R_nil _ _ _ _ _, below_setRow (by repeat (first | (with_reducible first | exact HW.out | apply below_alloc | apply below_drew1 | apply pw_below_drewN) | exact HW.out)) (show w.heap.size ≤ g2 by have := HG1.out; have := LT12.out; omega) _⟩
set_option maxHeartbeats 2000000 in
set_option maxRecDepth 100000 in
theorem cutView_y (off : Int) (A1 A2 : Option Addr) (c1 c2 : Nat) (l1 l2 : List Int) (A3 : Option Addr) (c3 : Nat) (fr : List Int) (A4 : Option Addr) (c4 : Nat) (sh : List Int) (w : World) (hr1 : Kd.C (Kd.int .i64) w A1 l1.length l1) (hc1 : l1.length ≤ c1) (hr2 : Kd.C (Kd.int .i64) w A2 l2.length l2) (hc2 : l2.length ≤ c2) (hr3 : Kd.C (Kd.int .i64) w A3 fr.length fr) (hc3 : fr.length ≤ c3) (hr4 : Kd.C (Kd.int .i64) w A4 sh.length sh) (hc4 : sh.length ≤ c4) (r1 : Int) (r2 r3 : List Int) (r4 : Bool) (hf : formedB off l1 l2 = true) (h1 : fr.length = l1.length) (h2 : sh.length = l1.length) (h3 : (if cutOk l1 fr sh = true then viewed (cutGo (formedL off l1 l2) 0 (fr.zip sh)) (formedL off l1 l2) l1.length else noView) = (r1, r2, r3, r4)) :
    Calls Try.prog 39 #[.agg #[.int .i64 off, .slice A1 l1.length c1, .slice A2 l2.length c2], .slice A3 fr.length c3, .slice A4 sh.length c4] w fun e w' => ∃ v1_ v2_ : Value, e = .returned (.tuple #[.agg #[.int .i64 r1, v1_, v2_], .bool r4]) ∧ Kd.R (Kd.int .i64) 3 w' w.heap.size (fun k_ => some k_ ≠ (v2_ : Value).ownBlock) v1_ r2 ∧ Kd.R (Kd.int .i64) 3 w' w.heap.size (fun k_ => some k_ ≠ (v1_ : Value).ownBlock) v2_ r3 ∧ Below w.heap.size w w' := by
  have q1a : ((fr.length : Int) != (l1.length : Int)) = false := by simp; omega
  have q2a : (fr.length != l1.length) = false := by simp; omega
  have q3a : ((fr.length : Int) == (l1.length : Int)) = true := by simp; omega
  have q4a : (fr.length == l1.length) = true := by simp; omega
  have q1b : ((sh.length : Int) != (l1.length : Int)) = false := by simp; omega
  have q2b : (sh.length != l1.length) = false := by simp; omega
  have q3b : ((sh.length : Int) == (l1.length : Int)) = true := by simp; omega
  have q4b : (sh.length == l1.length) = true := by simp; omega
  have HE := Aside0.mk (formedL_1 hf)
  have HF1 := Aside0.mk h1
  have HF2 := Aside0.mk h2
  have HFB := Aside0.mk hf
  have HRES := Aside0.mk h3
  have HR5 := Aside0.mk (formed_5 hf)
  have HP5 := Aside0.mk (show fr.length ≤ 5 by have := formed_5 hf; omega)
  have HSH := Aside0.mk (show sh.length = fr.length by omega)
  have HCL := Aside0.mk (show (cutGo (formedL off l1 l2) 0 (fr.zip sh)).length = 12 by rw [cutGo_len, formedL_len])
  have HCR1 := Aside0.mk (show gi (cutGo (formedL off l1 l2) 0 (fr.zip sh)) 1 = (l1.length : Int) by rw [cutGo_1, formedL_1 hf])
  clear h1 h2 h3
  have HR1 := Aside0.mk hr1
  have HC1 := Aside0.mk hc1
  have HR2 := Aside0.mk hr2
  have HC2 := Aside0.mk hc2
  have HF := Aside0.mk hf
  clear hr1 hc1 hr2 hc2 hf
  have HR3 := Aside0.mk hr3
  have HC3 := Aside0.mk hc3
  have HR4 := Aside0.mk hr4
  have HC4 := Aside0.mk hc4
  clear hr3 hc3 hr4 hc4
  go_enter Try.func39, Try.ntmps39
  go_wp2_with (first | ((with_reducible refine gate_dst (N := 3) rfl ?_); refine box_event ?hg (N := 3) ?hd (cs := #[.int .i64 off, .slice A1 l1.length c1, .slice A2 l2.length c2]) (t := 33) ?hr ?_; (case hd => rfl); (case hg => rfl); (case hr => first | (go_simp; done) | (go_simp; rfl)); intro g1 hg1 w1 hb1 hB1; have HB1 := Aside0.mk hb1; have HW := Aside0.mk hB1; have HG1 := Aside0.mk (show w.heap.size ≤ g1 by have e := hg1; (try simp at e); omega); clear hb1 hB1 hg1) | ((with_reducible refine gate_dst (N := 6) rfl ?_); refine box_event ?hg (N := 6) ?hd (cs := #[.int .i64 0, .slice none 0 0, .slice none 0 0]) (t := 33) ?hr ?_; (case hd => rfl); (case hg => rfl); (case hr => first | (go_simp; done) | (go_simp; rfl)); intro g2 hg2 w2 hb2 hB2; have HB2 := Aside0.mk hb2; have nw := Aside0.mk (below_step (by repeat (first | (with_reducible first | exact HW.out | apply below_alloc | apply below_drew1 | apply pw_below_drewN) | exact HW.out)) hB2); have LT12 := Aside0.mk (show g1 < g2 by have := blk_lt HB1.out; have e := hg2; (try simp at e); omega); have n1 := Aside0.mk (blk_below (g := g1) (o := .cells #[.int .i64 off, .slice A1 l1.length c1, .slice A2 l2.length c2] 33 (0, 0)) (by (with_reducible repeat (first | refine blk_drew ?_ | refine blk_drewN ?_ _ | refine blk_alloc ?_ _)); exact HB1.out) hB2); clear HB1 HW; have HB1 := n1; have HW := nw; clear n1 nw hb2 hB2 hg2) | ((with_reducible refine gate_dst (N := 13) rfl ?_); refine wpList_load_row rfl 33 (.tmp 3) rfl g1 rfl 33 #[.int .i64 off, .slice A1 l1.length c1, .slice A2 l2.length c2] (0, 0) _ (by (with_reducible repeat (first | refine blk_drew ?_ | refine blk_drewN ?_ _ | refine blk_alloc ?_ _)); exact HB1.out) Try.underlying33 rfl (by kernel_rfl) ?_) | (go_at_call 63; refine (formed_calls off A1 A2 c1 c2 l1 l2 _ (Kd.C_below HR1.out (by repeat (first | (with_reducible first | exact HW.out | apply below_alloc | apply below_drew1 | apply pw_below_drewN) | exact HW.out))) HC1.out (Kd.C_below HR2.out (by repeat (first | (with_reducible first | exact HW.out | apply below_alloc | apply below_drew1 | apply pw_below_drewN) | exact HW.out))) HC2.out).mono ?_; rw [HF.out]; rintro e w8 ⟨rfl, hb8⟩; have nw := Aside0.mk (below_step (by repeat (first | (with_reducible first | exact HW.out | apply below_alloc | apply below_drew1 | apply pw_below_drewN) | exact HW.out)) hb8); have n2 := Aside0.mk (blk_below (g := g2) (o := .cells #[.int .i64 0, .slice none 0 0, .slice none 0 0] 33 (0, 0)) (by (with_reducible repeat (first | refine blk_drew ?_ | refine blk_drewN ?_ _ | refine blk_alloc ?_ _)); exact HB2.out) hb8); clear HB1 HB2 HW; have HB2 := n2; have HW := nw; clear n2 nw hb8) | ((with_reducible refine gate_dst (N := 8) rfl ?_); refine box_event ?hg (N := 8) ?hd (cs := lay zero12) (t := 67) ?hr ?_; (case hd => rfl); (case hg => rfl); (case hr => first | (go_simp; done) | (go_simp; rfl)); intro g8 hg8 w9 hb9 hB9; have HB8 := Aside0.mk hb9; have nw := Aside0.mk (below_step (by repeat (first | (with_reducible first | exact HW.out | apply below_alloc | apply below_drew1 | apply pw_below_drewN) | exact HW.out)) hB9); have LT28 := Aside0.mk (show g2 < g8 by have := blk_lt HB2.out; have e := hg8; (try simp at e); omega); have n2 := Aside0.mk (blk_below (g := g2) (o := .cells #[.int .i64 0, .slice none 0 0, .slice none 0 0] 33 (0, 0)) (by (with_reducible repeat (first | refine blk_drew ?_ | refine blk_drewN ?_ _ | refine blk_alloc ?_ _)); exact HB2.out) hB9); have n3 := Aside0.mk ((setRow_other w9 g8 g2 (lay (formedL off l1 l2)) (show g2 ≠ g8 by have := LT28.out; omega)).trans n2.out); have n4 := Aside0.mk (setRow_heap w9 g8 _ (lay (formedL off l1 l2)) _ _ HB8.out); have nw2 := Aside0.mk (below_setRow nw.out (show w.heap.size ≤ g8 by have := HG1.out; have := LT12.out; have := LT28.out; omega) (lay (formedL off l1 l2))); have hcr : (w9.setRow g8 (lay (formedL off l1 l2))).cell? ⟨g8, 1, none⟩ = some (.int .i64 (gi (formedL off l1 l2) 1)) := lay_cell n4.out 1 (by rw [formedL_len]; omega); rw [HE.out] at hcr; clear HB2 HW; have HB2 := n3; have BL := n4; have HW := nw2; clear n2 n3 n4 nw nw2 hb9 hB9 hg8) | ((with_reducible refine gate_store rfl ?_); refine wpList_store_row rfl 67 (.tmp 8) (.tmp 15) rfl g8 (lay (formedL off l1 l2)) rfl rfl 67 (lay zero12) HB8.out (info67 _ formedL_len) (by rw [lay_size, lay_size, formedL_len]; rfl) (lay_one _) ?_))
  go_loopg [10, 11, 36] (fr.length + 1) (fun kq v10 v11 v36 w' => ∃ j : Nat, v36 = .int .i64 (j : Int) ∧ Aside0 (j + kq = fr.length + 1 ∧ j ≤ fr.length) ∧ Aside0 (((l1.zip (fr.zip sh)).take j).all cutChk = true) ∧ Aside0 (w'.heap[g2]? = some (.cells #[.int .i64 0, .slice none 0 0, .slice none 0 0] 33 (0, 0))) ∧ Aside0 (w'.heap[g8]? = some (.cells (lay (formedL off l1 l2)) 67 (0, 0))) ∧ Aside0 (Below w.heap.size w w'))
  case atStart => exact ⟨0, rfl, ⟨by omega⟩, ⟨rfl⟩, HB2, BL, HW⟩
  case round =>
    clear HB2 BL HW hcr
    obtain ⟨j, rfl, HJ, HA, HB2, BL, HW⟩ := hrel
    cases gk with
    | zero => exact absurd HJ.out (by omega)
    | succ k1 =>
      by_cases hj : j < fr.length
      · have p1 : 0 ≤ (j : Int) := by omega
        have p2 : (j : Int) < (fr.length : Int) := by omega
        have p3 : (j : Int) < (sh.length : Int) := by have := HSH.out; omega
        obtain ⟨ad3, e3, hx3⟩ := Kd.at_int (Kd.C_below HR3.out HW.out) (j : Int) p1 p2
        obtain ⟨ad4, e4, hx4⟩ := Kd.at_int (Kd.C_below HR4.out HW.out) (j : Int) p1 p3
        cases e3
        cases e4
        rw [Int.toNat_natCast] at hx3 hx4
        have hjb := decide_eq_true p2
        have hja := decide_eq_true p1
        replace p1 := eq_true p1
        replace p2 := eq_true p2
        replace p3 := eq_true p3
        have HJL := Aside0.mk hj
        have HJS := Aside0.mk (show j < sh.length by have := HSH.out; omega)
        have HJ1 := Aside0.mk (show j < l1.length by have := HF1.out; omega)
        have HX := Aside0.mk (show rd fr (j : Int) = fr[j]'HJL.out by simp [rd, HJL.out])
        have HY := Aside0.mk (show rd sh (j : Int) = sh[j]'HJS.out by simp [rd, HJS.out])
        have HZ := Aside0.mk (formedL_2' HFB.out HJ1.out)
        have hm : j < 5 := by have := HP5.out; omega
        have hm5 : (j : Int) < 5 := by omega
        have hm0 : (0 : Int) ≤ (j : Int) := by omega
        clear hj
        have kc := lay_cell BL.out (2 + j) (by rw [formedL_len]; omega)
        have KC := Aside0.mk kc
        have KS := Aside0.mk hx4
        have HCK := Aside0.mk (show cutChk (gi (formedL off l1 l2) (2 + j), (rd fr (j : Int), rd sh (j : Int))) = (decide (0 ≤ rd fr (j : Int) ∧ rd fr (j : Int) ≤ gi (formedL off l1 l2) (2 + j)) && decide (0 ≤ rd sh (j : Int) ∧ rd sh (j : Int) ≤ wrap64 (gi (formedL off l1 l2) (2 + j) - rd fr (j : Int)))) from rfl)
        have HNX := Aside0.mk (show (l1.zip (fr.zip sh)).take (j + 1) = (l1.zip (fr.zip sh)).take j ++ [(gi (formedL off l1 l2) (2 + j), (rd fr (j : Int), rd sh (j : Int)))] by
          have hz : j < (l1.zip (fr.zip sh)).length := by have := HJL.out; have := HJS.out; have := HJ1.out; simp; omega
          rw [List.take_succ_eq_append_getElem hz, List.getElem_zip, List.getElem_zip, HX.out, HY.out, HZ.out])
        have bad : cutChk (gi (formedL off l1 l2) (2 + j), (rd fr (j : Int), rd sh (j : Int))) = false → cutOk l1 fr sh = false := fun h => by
          unfold cutOk
          rw [← List.take_append_drop (j + 1) (l1.zip (fr.zip sh)), HNX.out]
          simp [h]
        have HBAD := Aside0.mk bad
        clear bad
        by_cases h1 : 0 ≤ rd fr (j : Int) ∧ rd fr (j : Int) ≤ gi (formedL off l1 l2) (2 + j)
        · have HI1 : Aside0 (impl_within.f (rd fr (j : Int)) 0 (gi (formedL off l1 l2) (2 + j)) = some true) := ⟨by rw [within_eq]; exact congrArg some (decide_eq_true h1)⟩
          by_cases h2 : 0 ≤ rd sh (j : Int) ∧ rd sh (j : Int) ≤ wrap64 (gi (formedL off l1 l2) (2 + j) - rd fr (j : Int))
          · have HI2 : Aside0 (impl_within.f (rd sh (j : Int)) 0 (IntKind.i64.wrap (gi (formedL off l1 l2) (2 + j) - rd fr (j : Int))) = some true) := ⟨by rw [i64_w, within_eq]; exact congrArg some (decide_eq_true h2)⟩
            have HOK := Aside0.mk (show cutChk (gi (formedL off l1 l2) (2 + j), (rd fr (j : Int), rd sh (j : Int))) = true by rw [HCK.out, decide_eq_true h1, decide_eq_true h2]; rfl)
            clear h1 h2
            go_upto_region 7 with fail
            go_region_held3 (fun w' => w'.cell? ⟨g8, 2 + j, none⟩ = some (.int .i64 (gi (formedL off l1 l2) (2 + j))) ∧ w'.cell? (ad4.add j) = some (.int .i64 (rd sh (j : Int)))) (exact ⟨KC.out, KS.out⟩) (first | (go_at_call 54; (with_reducible refine (impl_within.calls _ _ _ true _ HI1.out).mono ?_); rintro e w6 ⟨rfl, ⟨⟨n6, rfl⟩⟩⟩) | (go_at_call 54; (with_reducible refine (impl_within.calls _ _ _ true _ HI2.out).mono ?_); rintro e w6 ⟨rfl, ⟨⟨n6, rfl⟩⟩⟩))
            go_wp2_with fail
            go_roundg k1
            case measure => omega
            case rel => exact ⟨j + 1, rfl, ⟨by have := HJ.out; have := HJL.out; omega⟩, ⟨by rw [HNX.out, List.all_append, HA.out, List.all_cons, HOK.out]; rfl⟩, ⟨by (with_reducible repeat (first | refine blk_drew ?_ | refine blk_drewN ?_ _)); exact HB2.out⟩, ⟨by (with_reducible repeat (first | refine blk_drew ?_ | refine blk_drewN ?_ _)); exact BL.out⟩, ⟨by repeat (first | (with_reducible first | exact HW.out | apply below_alloc | apply below_drew1 | apply pw_below_drewN) | exact HW.out)⟩⟩
          · have HI2 : Aside0 (impl_within.f (rd sh (j : Int)) 0 (IntKind.i64.wrap (gi (formedL off l1 l2) (2 + j) - rd fr (j : Int))) = some false) := ⟨by rw [i64_w, within_eq]; exact congrArg some (decide_eq_false h2)⟩
            have HNO := Aside0.mk (HBAD.out (by rw [HCK.out, decide_eq_true h1, decide_eq_false h2]; rfl))
            clear h1 h2
            go_upto_region 7 with fail
            go_region_held3 (fun w' => w'.cell? ⟨g8, 2 + j, none⟩ = some (.int .i64 (gi (formedL off l1 l2) (2 + j))) ∧ w'.cell? (ad4.add j) = some (.int .i64 (rd sh (j : Int)))) (exact ⟨KC.out, KS.out⟩) (first | (go_at_call 54; (with_reducible refine (impl_within.calls _ _ _ true _ HI1.out).mono ?_); rintro e w6 ⟨rfl, ⟨⟨n6, rfl⟩⟩⟩) | (go_at_call 54; (with_reducible refine (impl_within.calls _ _ _ false _ HI2.out).mono ?_); rintro e w6 ⟨rfl, ⟨⟨n6, rfl⟩⟩⟩))
            go_wp2_with (first | ((with_reducible refine gate_store rfl ?_); refine wpList_store_row rfl 33 (.tmp 6) (.tmp 62) rfl g2 #[.int .i64 0, .slice none 0 0, .slice none 0 0] rfl rfl 33 #[.int .i64 0, .slice none 0 0, .slice none 0 0] (by (with_reducible repeat (first | refine blk_drew ?_ | refine blk_drewN ?_ _ | refine blk_alloc ?_ _)); exact HB2.out) (by kernel_rfl) rfl (by simp [Value.oneCell']) ?_))
            refine bodyPost_ret (results_ct rfl _ _ g2 33 #[.int .i64 0, .slice none 0 0, .slice none 0 0] (0, 0) _ rfl (setRow_heap _ g2 _ _ _ (0, 0) (by (with_reducible repeat (first | refine blk_drew ?_ | refine blk_drewN ?_ _ | refine blk_alloc ?_ _)); exact HB2.out)) Try.underlying33 rfl (by kernel_rfl)) rfl ?_
            have HQ := HRES.out
            rw [HNO.out, if_neg (by decide)] at HQ
            simp only [noView, Prod.mk.injEq] at HQ
            obtain ⟨rfl, rfl, rfl, rfl⟩ := HQ
            exact ⟨_, _, rfl, Kd.R_nil _ _ _ _ _, Kd.R_nil _ _ _ _ _, below_setRow (by repeat (first | (with_reducible first | exact HW.out | apply below_alloc | apply below_drew1 | apply pw_below_drewN) | exact HW.out)) (show w.heap.size ≤ g2 by have := HG1.out; have := LT12.out; omega) _⟩
        · have HI1 : Aside0 (impl_within.f (rd fr (j : Int)) 0 (gi (formedL off l1 l2) (2 + j)) = some false) := ⟨by rw [within_eq]; exact congrArg some (decide_eq_false h1)⟩
          have HNO := Aside0.mk (HBAD.out (by rw [HCK.out, decide_eq_false h1]; rfl))
          clear h1
          go_upto_region 7 with fail
          refine start_ (n := 21) (S := (fun w' => w'.cell? ⟨g8, 2 + j, none⟩ = some (.int .i64 (gi (formedL off l1 l2) (2 + j))) ∧ w'.cell? (ad4.add j) = some (.int .i64 (rd sh (j : Int))))) (ds := []) #[false, false, false, false, false, false, false, false, false, false, false, false, false, false, false, false, false, false, false, false, false] (by kernel_rfl) rfl rfl ⟨KC.out, KS.out⟩ (fun hHeld => ?_)
          refine pure_ (i := 0) (N := some 41) (v := ?_) (a' := ?_) #[true, false, false, false, false, false, false, false, false, false, false, false, false, false, false, false, false, false, false, false, false] rfl rfl (by kernel_rfl) (fun _ _ _ h => h) (Or.inl ⟨by rfl, ?_⟩) ?_ ?_
          rotate_left
          · intro w'
            go_simp
            with_reducible rfl
          rotate_left
          · simp only [Act.put, List.setIfInBounds_toArray, List.set_cons_zero, List.set_cons_succ, i64_w, i32_w]
            rfl
          refine pure_ (i := 1) (N := some 42) (v := ?_) (a' := ?_) #[true, true, false, false, false, false, false, false, false, false, false, false, false, false, false, false, false, false, false, false, false] rfl rfl (by kernel_rfl) (fun _ _ _ h => h) (Or.inl ⟨by rfl, ?_⟩) ?_ ?_
          rotate_left
          · intro w'
            go_simp
            with_reducible rfl
          rotate_left
          · simp only [Act.put, List.setIfInBounds_toArray, List.set_cons_zero, List.set_cons_succ, i64_w, i32_w]
            rfl
          refine pure_ (i := 2) (N := some 43) (v := ?_) (a' := ?_) #[true, true, true, false, false, false, false, false, false, false, false, false, false, false, false, false, false, false, false, false, false] rfl rfl (by kernel_rfl) (fun _ _ _ h => h) (Or.inl ⟨by rfl, ?_⟩) ?_ ?_
          rotate_left
          · intro w'
            go_simp
            with_reducible rfl
          rotate_left
          · simp only [Act.put, List.setIfInBounds_toArray, List.set_cons_zero, List.set_cons_succ, i64_w, i32_w]
            rfl
          refine pure_ (i := 3) (N := some 44) (v := ?_) (a' := ?_) #[true, true, true, true, false, false, false, false, false, false, false, false, false, false, false, false, false, false, false, false, false] rfl rfl (by kernel_rfl) (fun _ _ _ h => h) (Or.inl ⟨by rfl, ?_⟩) ?_ ?_
          rotate_left
          · intro w'
            go_simp
            with_reducible rfl
          rotate_left
          · simp only [Act.put, List.setIfInBounds_toArray, List.set_cons_zero, List.set_cons_succ, i64_w, i32_w]
            rfl
          refine take_ (i := 4) (N := some 45) (v := ?_) (a' := ?_) #[true, true, true, true, true, false, false, false, false, false, false, false, false, false, false, false, false, false, false, false, false] rfl rfl (by kernel_rfl) (fun _ _ _ h => h) (Or.inl ⟨by rfl, ?_⟩) hHeld ?_ ?_
          rotate_left
          · rintro w' ⟨s0, s1⟩
            go_simp
            with_reducible rfl
          rotate_left
          · simp only [Act.put, List.setIfInBounds_toArray, List.set_cons_zero, List.set_cons_succ, i64_w, i32_w]
            rfl
          refine one_ (i := 5) (N := some 46) #[true, true, true, true, true, true, false, false, false, false, false, false, false, false, false, false, false, false, false, false, false] rfl rfl (by kernel_rfl) (by decide) (fun K hK => ?_)
          refine goes_ Try.func54 (by kernel_rfl) rfl #[.int .i64 (rd fr (j : Int)), .int .i64 0, .int .i64 (gi (formedL off l1 l2) (2 + j))] (by rfl) rfl rfl (by (try simp only [List.map_toArray, List.map_cons, List.map_nil]); first | done | rfl) ?_
          with_reducible refine (impl_within.calls _ _ _ false _ HI1.out).mono ?_
          rintro e w6 ⟨rfl, ⟨⟨n6, rfl⟩⟩⟩
          refine ⟨_, rfl, ?_⟩
          refine hK.out _ _ ⟨KC.out, KS.out⟩ (fun hHeld => ?_)
          clear hK K
          refine norm_ (a' := ?_) ?_ ?_
          rotate_left
          · show Act.put _ (some 46) _ = _
            simp only [Act.put, List.setIfInBounds_toArray, List.set_cons_zero, List.set_cons_succ, i64_w, i32_w]
            rfl
          refine pure_ (i := 6) (N := some 47) (v := ?_) (a' := ?_) #[true, true, true, true, true, true, true, false, false, false, false, false, false, false, false, false, false, false, false, false, false] rfl rfl (by kernel_rfl) (fun _ _ _ h => h) (Or.inl ⟨by rfl, ?_⟩) ?_ ?_
          rotate_left
          · intro w'
            go_simp
            with_reducible rfl
          rotate_left
          · simp only [Act.put, List.setIfInBounds_toArray, List.set_cons_zero, List.set_cons_succ, i64_w, i32_w]
            rfl
          refine pure_ (i := 7) (N := some 48) (v := ?_) (a' := ?_) #[true, true, true, true, true, true, true, true, false, false, false, false, false, false, false, false, false, false, false, false, false] rfl rfl (by kernel_rfl) (fun _ _ _ h => h) (Or.inl ⟨by rfl, ?_⟩) ?_ ?_
          rotate_left
          · intro w'
            go_simp
            with_reducible rfl
          rotate_left
          · simp only [Act.put, List.setIfInBounds_toArray, List.set_cons_zero, List.set_cons_succ, i64_w, i32_w]
            rfl
          refine pure_ (i := 8) (N := some 49) (v := undef) (a' := ?_) #[true, true, true, true, true, true, true, true, true, false, false, false, false, false, false, false, false, false, false, false, false] rfl rfl (by kernel_rfl) (fun _ _ _ h => h) (Or.inr ⟨by rfl, rfl⟩) ?_ ?_
          rotate_left
          · simp only [Act.put, List.setIfInBounds_toArray, List.set_cons_zero, List.set_cons_succ, i64_w, i32_w]
            rfl
          refine pure_ (i := 9) (N := some 50) (v := undef) (a' := ?_) #[true, true, true, true, true, true, true, true, true, true, false, false, false, false, false, false, false, false, false, false, false] rfl rfl (by kernel_rfl) (fun _ _ _ h => h) (Or.inr ⟨by rfl, rfl⟩) ?_ ?_
          rotate_left
          · simp only [Act.put, List.setIfInBounds_toArray, List.set_cons_zero, List.set_cons_succ, i64_w, i32_w]
            rfl
          refine pure_ (i := 10) (N := some 51) (v := undef) (a' := ?_) #[true, true, true, true, true, true, true, true, true, true, true, false, false, false, false, false, false, false, false, false, false] rfl rfl (by kernel_rfl) (fun _ _ _ h => h) (Or.inr ⟨by rfl, rfl⟩) ?_ ?_
          rotate_left
          · simp only [Act.put, List.setIfInBounds_toArray, List.set_cons_zero, List.set_cons_succ, i64_w, i32_w]
            rfl
          refine pure_ (i := 11) (N := some 52) (v := undef) (a' := ?_) #[true, true, true, true, true, true, true, true, true, true, true, true, false, false, false, false, false, false, false, false, false] rfl rfl (by kernel_rfl) (fun _ _ _ h => h) (Or.inr ⟨by rfl, rfl⟩) ?_ ?_
          rotate_left
          · simp only [Act.put, List.setIfInBounds_toArray, List.set_cons_zero, List.set_cons_succ, i64_w, i32_w]
            rfl
          refine pure_ (i := 12) (N := some 53) (v := undef) (a' := ?_) #[true, true, true, true, true, true, true, true, true, true, true, true, true, false, false, false, false, false, false, false, false] rfl rfl (by kernel_rfl) (fun _ _ _ h => h) (Or.inr ⟨by rfl, rfl⟩) ?_ ?_
          rotate_left
          · simp only [Act.put, List.setIfInBounds_toArray, List.set_cons_zero, List.set_cons_succ, i64_w, i32_w]
            rfl
          refine pure_ (i := 13) (N := some 54) (v := undef) (a' := ?_) #[true, true, true, true, true, true, true, true, true, true, true, true, true, true, false, false, false, false, false, false, false] rfl rfl (by kernel_rfl) (fun _ _ _ h => h) (Or.inr ⟨by rfl, rfl⟩) ?_ ?_
          rotate_left
          · simp only [Act.put, List.setIfInBounds_toArray, List.set_cons_zero, List.set_cons_succ, i64_w, i32_w]
            rfl
          refine pure_ (i := 14) (N := some 55) (v := undef) (a' := ?_) #[true, true, true, true, true, true, true, true, true, true, true, true, true, true, true, false, false, false, false, false, false] rfl rfl (by kernel_rfl) (fun _ _ _ h => h) (Or.inr ⟨by rfl, rfl⟩) ?_ ?_
          rotate_left
          · simp only [Act.put, List.setIfInBounds_toArray, List.set_cons_zero, List.set_cons_succ, i64_w, i32_w]
            rfl
          refine pure_ (i := 15) (N := some 56) (v := undef) (a' := ?_) #[true, true, true, true, true, true, true, true, true, true, true, true, true, true, true, true, false, false, false, false, false] rfl rfl (by kernel_rfl) (fun _ _ _ h => h) (Or.inr ⟨by rfl, rfl⟩) ?_ ?_
          rotate_left
          · simp only [Act.put, List.setIfInBounds_toArray, List.set_cons_zero, List.set_cons_succ, i64_w, i32_w]
            rfl
          refine pure_ (i := 16) (N := some 57) (v := undef) (a' := ?_) #[true, true, true, true, true, true, true, true, true, true, true, true, true, true, true, true, true, false, false, false, false] rfl rfl (by kernel_rfl) (fun _ _ _ h => h) (Or.inr ⟨by rfl, rfl⟩) ?_ ?_
          rotate_left
          · simp only [Act.put, List.setIfInBounds_toArray, List.set_cons_zero, List.set_cons_succ, i64_w, i32_w]
            rfl
          refine pure_ (i := 17) (N := some 58) (v := undef) (a' := ?_) #[true, true, true, true, true, true, true, true, true, true, true, true, true, true, true, true, true, true, false, false, false] rfl rfl (by kernel_rfl) (fun _ _ _ h => h) (Or.inr ⟨by rfl, rfl⟩) ?_ ?_
          rotate_left
          · simp only [Act.put, List.setIfInBounds_toArray, List.set_cons_zero, List.set_cons_succ, i64_w, i32_w]
            rfl
          refine pure_ (i := 18) (N := some 59) (v := undef) (a' := ?_) #[true, true, true, true, true, true, true, true, true, true, true, true, true, true, true, true, true, true, true, false, false] rfl rfl (by kernel_rfl) (fun _ _ _ h => h) (Or.inr ⟨by rfl, rfl⟩) ?_ ?_
          rotate_left
          · simp only [Act.put, List.setIfInBounds_toArray, List.set_cons_zero, List.set_cons_succ, i64_w, i32_w]
            rfl
          refine pure_ (i := 19) (N := some 60) (v := undef) (a' := ?_) #[true, true, true, true, true, true, true, true, true, true, true, true, true, true, true, true, true, true, true, true, false] rfl rfl (by kernel_rfl) (fun _ _ _ h => h) (Or.inr ⟨by rfl, rfl⟩) ?_ ?_
          rotate_left
          · simp only [Act.put, List.setIfInBounds_toArray, List.set_cons_zero, List.set_cons_succ, i64_w, i32_w]
            rfl
          refine pure_ (i := 20) (N := some 61) (v := ?_) (a' := ?_) #[true, true, true, true, true, true, true, true, true, true, true, true, true, true, true, true, true, true, true, true, true] rfl rfl (by kernel_rfl) (fun _ _ _ h => h) (Or.inl ⟨by rfl, ?_⟩) ?_ ?_
          rotate_left
          · intro w'
            go_simp
            with_reducible rfl
          rotate_left
          · simp only [Act.put, List.setIfInBounds_toArray, List.set_cons_zero, List.set_cons_succ, i64_w, i32_w]
            rfl
          refine done_ (by kernel_rfl) ?_
          go_wp2_with (first | ((with_reducible refine gate_store rfl ?_); refine wpList_store_row rfl 33 (.tmp 6) (.tmp 62) rfl g2 #[.int .i64 0, .slice none 0 0, .slice none 0 0] rfl rfl 33 #[.int .i64 0, .slice none 0 0, .slice none 0 0] (by (with_reducible repeat (first | refine blk_drew ?_ | refine blk_drewN ?_ _ | refine blk_alloc ?_ _)); exact HB2.out) (by kernel_rfl) rfl (by simp [Value.oneCell']) ?_))
          refine bodyPost_ret (results_ct rfl _ _ g2 33 #[.int .i64 0, .slice none 0 0, .slice none 0 0] (0, 0) _ rfl (setRow_heap _ g2 _ _ _ (0, 0) (by (with_reducible repeat (first | refine blk_drew ?_ | refine blk_drewN ?_ _ | refine blk_alloc ?_ _)); exact HB2.out)) Try.underlying33 rfl (by kernel_rfl)) rfl ?_
          have HQ := HRES.out
          rw [HNO.out, if_neg (by decide)] at HQ
          simp only [noView, Prod.mk.injEq] at HQ
          obtain ⟨rfl, rfl, rfl, rfl⟩ := HQ
          exact ⟨_, _, rfl, Kd.R_nil _ _ _ _ _, Kd.R_nil _ _ _ _ _, below_setRow (by repeat (first | (with_reducible first | exact HW.out | apply below_alloc | apply below_drew1 | apply pw_below_drewN) | exact HW.out)) (show w.heap.size ≤ g2 by have := HG1.out; have := LT12.out; omega) _⟩
      · have hjb : decide ((j : Int) < (fr.length : Int)) = false := decide_eq_false (by omega)
        have hjc : decide (j < fr.length) = false := decide_eq_false hj
        have hjd : (j < fr.length) = False := eq_false hj
        have HYES := Aside0.mk (show cutOk l1 fr sh = true by
          have h0 := HA.out
          rw [List.take_of_length_le (by have := HJ.out; have := HSH.out; have := HF1.out; simp; omega)] at h0
          exact h0)
        have HQ := HRES.out
        rw [HYES.out, if_pos rfl] at HQ
        simp only [viewed, Prod.mk.injEq] at HQ
        obtain ⟨rfl, rfl, rfl, rfl⟩ := HQ
        clear hj
        go_upto_region 10 with fail
        have HN82 := Aside0.mk (show g8 ≠ g2 by have := LT28.out; omega)
        have hrg := lay_S formedL_len BL.out
        go_region_held3 (fun w' => w'.cell? ⟨g8, 0, none⟩ = some (.int .i64 (gi (formedL off l1 l2) 0)) ∧ w'.cell? ⟨g8, 1, none⟩ = some (.int .i64 (gi (formedL off l1 l2) 1)) ∧ w'.cell? ⟨g8, 2, none⟩ = some (.int .i64 (gi (formedL off l1 l2) 2)) ∧ w'.cell? ⟨g8, 3, none⟩ = some (.int .i64 (gi (formedL off l1 l2) 3)) ∧ w'.cell? ⟨g8, 4, none⟩ = some (.int .i64 (gi (formedL off l1 l2) 4)) ∧ w'.cell? ⟨g8, 5, none⟩ = some (.int .i64 (gi (formedL off l1 l2) 5)) ∧ w'.cell? ⟨g8, 6, none⟩ = some (.int .i64 (gi (formedL off l1 l2) 6)) ∧ w'.cell? ⟨g8, 7, none⟩ = some (.int .i64 (gi (formedL off l1 l2) 7)) ∧ w'.cell? ⟨g8, 8, none⟩ = some (.int .i64 (gi (formedL off l1 l2) 8)) ∧ w'.cell? ⟨g8, 9, none⟩ = some (.int .i64 (gi (formedL off l1 l2) 9)) ∧ w'.cell? ⟨g8, 10, none⟩ = some (.int .i64 (gi (formedL off l1 l2) 10)) ∧ w'.cell? ⟨g8, 11, none⟩ = some (.int .i64 (gi (formedL off l1 l2) 11))) (exact lay_S (g := g8) (t := 67) (l := (formedL off l1 l2)) formedL_len (by (with_reducible repeat (first | refine blk_drew ?_ | refine blk_drewN ?_ _ | refine blk_alloc ?_ _ | refine blk_farG ?_ HN82.out _)); exact BL.out)) (first | (go_at_call 73; refine (cut12 (formedL off l1 l2) A3 c3 fr A4 c4 sh formedL_len HP5.out HSH.out _ (Kd.C_below HR3.out (by repeat (first | (with_reducible first | exact HW.out | apply below_alloc | apply below_drew1 | apply pw_below_drewN) | exact HW.out))) HC3.out (Kd.C_below HR4.out (by repeat (first | (with_reducible first | exact HW.out | apply below_alloc | apply below_drew1 | apply pw_below_drewN) | exact HW.out))) HC4.out).mono ?_; rintro e w5 ⟨rfl, hb5⟩; have n2 := Aside0.mk (blk_below (g := g2) (o := .cells #[.int .i64 0, .slice none 0 0, .slice none 0 0] 33 (0, 0)) (by (with_reducible repeat (first | refine blk_drew ?_ | refine blk_drewN ?_ _ | refine blk_alloc ?_ _)); exact HB2.out) hb5); have n3 := Aside0.mk (blk_below (g := g8) (o := .cells (lay (formedL off l1 l2)) 67 (0, 0)) (by (with_reducible repeat (first | refine blk_drew ?_ | refine blk_drewN ?_ _ | refine blk_alloc ?_ _)); exact BL.out) hb5); have nw := Aside0.mk (below_step (by repeat (first | (with_reducible first | exact HW.out | apply below_alloc | apply below_drew1 | apply pw_below_drewN) | exact HW.out)) hb5); clear HB2 BL HW; have HB2 := n2; have BL := n3; have HW := nw; clear n2 n3 nw hb5) | (go_at_call 72; refine (view_calls12 (cutGo (formedL off l1 l2) 0 (fr.zip sh)) (formedL off l1 l2) l1.length HCL.out formedL_len HCR1.out HR5.out _).mono ?_; rintro e w6 ⟨v1, v2, rfl, ho1, ho2, hb6⟩; obtain ⟨Aa, ca, rfl⟩ := Kd.R_slice ho1; obtain ⟨Ab, cb, rfl⟩ := Kd.R_slice ho2; have HO1 := Aside0.mk (Kd.R_lower ho1 (below_size (by repeat (first | (with_reducible first | exact HW.out | apply below_alloc | apply below_drew1 | apply pw_below_drewN) | exact HW.out)))); have HO2 := Aside0.mk (Kd.R_lower ho2 (below_size (by repeat (first | (with_reducible first | exact HW.out | apply below_alloc | apply below_drew1 | apply pw_below_drewN) | exact HW.out)))); clear ho1 ho2; have n2 := Aside0.mk (blk_below (g := g2) (o := .cells #[.int .i64 0, .slice none 0 0, .slice none 0 0] 33 (0, 0)) (by (with_reducible repeat (first | refine blk_drew ?_ | refine blk_drewN ?_ _ | refine blk_alloc ?_ _)); exact HB2.out) hb6); have n3 := Aside0.mk (blk_below (g := g8) (o := .cells (lay (formedL off l1 l2)) 67 (0, 0)) (by (with_reducible repeat (first | refine blk_drew ?_ | refine blk_drewN ?_ _ | refine blk_alloc ?_ _)); exact BL.out) hb6); have nw := Aside0.mk (below_step (by repeat (first | (with_reducible first | exact HW.out | apply below_alloc | apply below_drew1 | apply pw_below_drewN) | exact HW.out)) hb6); clear HB2 BL HW; have HB2 := n2; have BL := n3; have HW := nw; clear n2 n3 nw hb6; have hx0 : _ = some (Value.int .i64 0) := (blk_cell HB2.out 0).trans rfl; have hx1 : _ = some (Value.slice none 0 0) := (blk_cell HB2.out 1).trans rfl; have hx2 : _ = some (Value.slice none 0 0) := (blk_cell HB2.out 2).trans rfl; have hy0 := blk_frozen HB2.out 0; have hy1 := blk_frozen HB2.out 1; have hy2 := blk_frozen HB2.out 2))
        go_wp2_with fail
        have s0 := blk_set HB2.out 0 (.int .i64 (viewO (cutGo (formedL off l1 l2) 0 (fr.zip sh)) (formedL off l1 l2) l1.length))
        have s1 := blk_set s0 1 (.slice Aa (viewS (cutGo (formedL off l1 l2) 0 (fr.zip sh)) (formedL off l1 l2) l1.length).length ca)
        have s2 := blk_set s1 2 (.slice Ab (viewT (cutGo (formedL off l1 l2) 0 (fr.zip sh)) (formedL off l1 l2) l1.length).length cb)
        refine bodyPost_ret (results_ct rfl _ _ g2 33 #[.int .i64 (viewO (cutGo (formedL off l1 l2) 0 (fr.zip sh)) (formedL off l1 l2) l1.length), .slice Aa (viewS (cutGo (formedL off l1 l2) 0 (fr.zip sh)) (formedL off l1 l2) l1.length).length ca, .slice Ab (viewT (cutGo (formedL off l1 l2) 0 (fr.zip sh)) (formedL off l1 l2) l1.length).length cb] (0, 0) _ rfl (by simpa using s2) Try.underlying33 rfl (by kernel_rfl)) rfl ?_
        have LE := show w.heap.size ≤ g2 by have := HG1.out; have := LT12.out; omega
        exact ⟨_, _, rfl, R_setV (R_setV (R_setV HO1.out HB2.out 0 _) s0 1 _) s1 2 _, R_setV (R_setV (R_setV HO2.out HB2.out 0 _) s0 1 _) s1 2 _, below_set (below_set (below_set HW.out LE) LE) LE⟩
def impl_CutView.f (off : Int) (l1 l2 fr sh : List Int) : Option (Int × List Int × List Int × Bool) :=
  some (if formedB off l1 l2 = true ∧ fr.length = l1.length ∧ sh.length = l1.length ∧ cutOk l1 fr sh = true then viewed (cutGo (formedL off l1 l2) 0 (fr.zip sh)) (formedL off l1 l2) l1.length else noView)
theorem impl_CutView.calls (off : Int) (A1 : Option Addr) (c1 : Nat) (l1 : List Int) (A2 : Option Addr) (c2 : Nat) (l2 : List Int) (A3 : Option Addr) (c3 : Nat) (fr : List Int) (A4 : Option Addr) (c4 : Nat) (sh : List Int) (r1 : Int) (r2 : List Int) (r3 : List Int) (r4 : Bool) (w : World) (hr1 : Kd.C (Kd.int .i64) w A1 l1.length l1) (hc1 : l1.length ≤ c1) (hr2 : Kd.C (Kd.int .i64) w A2 l2.length l2) (hc2 : l2.length ≤ c2) (hr3 : Kd.C (Kd.int .i64) w A3 fr.length fr) (hc3 : fr.length ≤ c3) (hr4 : Kd.C (Kd.int .i64) w A4 sh.length sh) (hc4 : sh.length ≤ c4) (h : impl_CutView.f off l1 l2 fr sh = some (r1, r2, r3, r4)) :
    Calls Try.prog 39 #[.agg #[.int .i64 off, .slice A1 l1.length c1, .slice A2 l2.length c2], .slice A3 fr.length c3, .slice A4 sh.length c4] w fun e w' => ∃ v1_ v2_ : Value, e = .returned (.tuple #[.agg #[.int .i64 r1, v1_, v2_], .bool r4]) ∧ Kd.R (Kd.int .i64) 3 w' w.heap.size (fun k_ => some k_ ≠ (v2_ : Value).ownBlock) v1_ r2 ∧ Kd.R (Kd.int .i64) 3 w' w.heap.size (fun k_ => some k_ ≠ (v1_ : Value).ownBlock) v2_ r3 ∧ Below w.heap.size w w' := by
  have h := Option.some.inj h
  have no : ¬ (formedB off l1 l2 = true ∧ fr.length = l1.length ∧ sh.length = l1.length ∧ cutOk l1 fr sh = true) → r1 = 0 ∧ r2 = [] ∧ r3 = [] ∧ r4 = false := fun hh => by
    rw [if_neg hh] at h; simp only [noView, Prod.mk.injEq] at h
    exact ⟨h.1.symm, h.2.1.symm, h.2.2.1.symm, h.2.2.2.symm⟩
  by_cases hf : formedB off l1 l2 = true
  · by_cases h1 : fr.length = l1.length
    · by_cases h2 : sh.length = l1.length
      · refine cutView_y off A1 A2 c1 c2 l1 l2 A3 c3 fr A4 c4 sh w hr1 hc1 hr2 hc2 hr3 hc3 hr4 hc4 r1 r2 r3 r4 hf h1 h2 ?_
        rw [← h]
        by_cases hk : cutOk l1 fr sh = true
        · rw [if_pos hk, if_pos ⟨hf, h1, h2, hk⟩]
        · rw [if_neg hk, if_neg (fun hh => hk hh.2.2.2)]
      · obtain ⟨rfl, rfl, rfl, rfl⟩ := no fun hh => h2 hh.2.2.1
        exact cutView_n3 off A1 A2 c1 c2 l1 l2 A3 c3 fr A4 c4 sh w hr1 hc1 hr2 hc2 hr3 hc3 hr4 hc4 hf h1 h2
    · obtain ⟨rfl, rfl, rfl, rfl⟩ := no fun hh => h1 hh.2.1
      exact cutView_n2 off A1 A2 c1 c2 l1 l2 A3 c3 fr A4 c4 sh w hr1 hc1 hr2 hc2 hr3 hc3 hr4 hc4 hf h1
  · obtain ⟨rfl, rfl, rfl, rfl⟩ := no fun hh => hf hh.1
    exact cutView_n1 off A1 A2 c1 c2 l1 l2 A3 c3 fr A4 c4 sh w hr1 hc1 hr2 hc2 hr3 hc3 hr4 hc4 ((Bool.not_eq_true _).mp hf)
end Go.Proofs.Ytipjhbngbaifeaa.PA

-- By a program (prt.py, over the print of the kit), for this claim. Not trusted: Lean checks it.
namespace Go.Proofs.Ytipjhbngbaifeaa.PA
open Go.RowKit Go.Proofs.YtipjhbngbaifeaaW.PrintWords Go.Proofs.YtipjhbngbaifeaaW.PrintLast Go.Proofs.YtipjhbngbaifeaaW.PrintMore
attribute [local go_sem] max2_int min2_int max_two min_two max_three min_three max_four min_four   -- for this text's walks alone
set_option linter.unusedVariables false
set_option linter.unusedSimpArgs false

/-! ### laws_FnExactCutView: function 10 -/
mutual
def laws_FnExactCutView.j0 : Nat → List Int → List Int → Bool → List Int → List Int → Bool → Bool → Int → List Int → List Int → Int → List Int → List Int → Int → List Int → List Int → Int → List Int → List Int → Option (Bool)
  | 0, _, _, _, _, _, _, _, _, _, _, _, _, _, _, _, _, _, _, _ => none
  | k + 1, x1, x2, x9, x11, x12, x14, x62, x102000, x102001, x102002, x125000, x125001, x125002, x133000, x133001, x133002, x148000, x148001, x148002 => if x62 = true then (some false) else ((laws_toView.f k x102000 x102001 x102002).bind fun bt149 => ((laws_eqView.f k x133000 x133001 x133002 bt149.1 bt149.2.1 bt149.2.2).bind fun t156 => (if t156 = true then ((laws_toIntS.f k x1).bind fun t157 => ((laws_eqIntS.f k x11 t157).bind fun t160 => (if t160 = true then ((laws_toIntS.f k x2).bind fun t161 => ((laws_eqIntS.f k x12 t161).bind fun t164 => (if t164 = true then ((laws_markView.f k x133000 x133001 x133002 1).bind fun bt165 => ((laws_markIntS.f k x11 bt165.1).bind fun bt168 => ((laws_markIntS.f k x12 bt168.1).bind fun bt170 => (if bt170.1 < 0 then (laws_FnExactCutView.j1 k x1 x2 x9 true x102000 x102001 x102002 x125000 x125001 x125002 x148000 x148001 x148002) else ((laws_eqView.f k x148000 x148001 x148002 x125000 x125001 x125002).bind fun t172 => (if t172 = true then (laws_FnExactCutView.j1 k x1 x2 x9 (x14 != x9) x102000 x102001 x102002 x125000 x125001 x125002 x148000 x148001 x148002) else (laws_FnExactCutView.j1 k x1 x2 x9 true x102000 x102001 x102002 x125000 x125001 x125002 x148000 x148001 x148002))))))) else (some false)))) else (some false)))) else (some false))))
def laws_FnExactCutView.j1 : Nat → List Int → List Int → Bool → Bool → Int → List Int → List Int → Int → List Int → List Int → Int → List Int → List Int → Option (Bool)
  | 0, _, _, _, _, _, _, _, _, _, _, _, _, _ => none
  | k + 1, x1, x2, x9, x99, x102000, x102001, x102002, x125000, x125001, x125002, x148000, x148001, x148002 => if x99 = true then (some false) else ((laws_markView.f k x148000 x148001 x148002 1).bind fun bt173 => ((laws_heldView.f k x148000 bt173.2.1 bt173.2.2 1).bind fun t176 => (if t176 < 0 then (some false) else (if t176 = bt173.1 then ((laws_toView.f k x102000 x102001 x102002).bind fun bt177 => ((laws_toIntS.f k x1).bind fun t184 => ((laws_toIntS.f k x2).bind fun t187 => ((impl_CutView.f bt177.1 bt177.2.1 bt177.2.2 t184 t187).bind fun bt190 => ((laws_eqView.f k bt190.1 bt190.2.1 bt190.2.2.1 x125000 x125001 x125002).bind fun t199 => (if t199 = true then (laws_FnExactCutView.j2 k bt173.1 (bt190.2.2.2 != x9) x148000 bt173.2.1 bt173.2.2) else (laws_FnExactCutView.j2 k bt173.1 true x148000 bt173.2.1 bt173.2.2))))))) else (some false)))))
def laws_FnExactCutView.j2 : Nat → Int → Bool → Int → List Int → List Int → Option (Bool)
  | 0, _, _, _, _, _ => none
  | k + 1, x16, x129, x148000, x148001, x148002 => if x129 = true then (some false) else ((laws_heldView.f k x148000 x148001 x148002 1).bind fun t200 => (if t200 < 0 then (some false) else (if t200 = x16 then (some true) else (some false))))
end
def laws_FnExactCutView.f (k : Nat) (a0_0 : Int) (l0_1 : List Int) (l0_2 : List Int) (l1 : List Int) (l2 : List Int) : Option (Bool) := if (l1.length : Int) > 1048576 then (some true) else (if (l2.length : Int) > 1048576 then (some true) else ((laws_szView.f a0_0 l0_1 l0_2 1048576).bind fun t102 => (if t102 < 0 then (some true) else ((laws_toView.f k a0_0 l0_1 l0_2).bind fun bt103 => ((laws_toIntS.f k l1).bind fun t110 => ((laws_toIntS.f k l2).bind fun t113 => ((spec_CutView.f k bt103.1 bt103.2.1 bt103.2.2 t110 t113).bind fun bt116 => ((laws_toView.f k a0_0 l0_1 l0_2).bind fun bt125 => ((laws_toIntS.f k l1).bind fun t133 => ((laws_toIntS.f k l2).bind fun t136 => ((impl_CutView.f bt125.1 bt125.2.1 bt125.2.2 t133 t136).bind fun bt139 => ((laws_eqView.f k bt139.1 bt139.2.1 bt139.2.2.1 bt116.1 bt116.2.1 bt116.2.2.1).bind fun t148 => (if t148 = true then (laws_FnExactCutView.j0 k l1 l2 bt116.2.2.2 t133 t136 bt139.2.2.2 (bt139.2.2.2 != bt116.2.2.2) a0_0 l0_1 l0_2 bt116.1 bt116.2.1 bt116.2.2.1 bt125.1 bt125.2.1 bt125.2.2 bt139.1 bt139.2.1 bt139.2.2.1) else (laws_FnExactCutView.j0 k l1 l2 bt116.2.2.2 t133 t136 bt139.2.2.2 true a0_0 l0_1 l0_2 bt116.1 bt116.2.1 bt116.2.2.1 bt125.1 bt125.2.1 bt125.2.2 bt139.1 bt139.2.1 bt139.2.2.1))))))))))))))
theorem laws_FnExactCutView.mono_l : ∀ k, (∀ y0 y1 y2 y3 y4 y5 y6 y7 y8 y9 y10 y11 y12 y13 y14 y15 y16 y17 y18, LeO (laws_FnExactCutView.j0 k y0 y1 y2 y3 y4 y5 y6 y7 y8 y9 y10 y11 y12 y13 y14 y15 y16 y17 y18) (laws_FnExactCutView.j0 (k + 1) y0 y1 y2 y3 y4 y5 y6 y7 y8 y9 y10 y11 y12 y13 y14 y15 y16 y17 y18)) ∧ (∀ y0 y1 y2 y3 y4 y5 y6 y7 y8 y9 y10 y11 y12, LeO (laws_FnExactCutView.j1 k y0 y1 y2 y3 y4 y5 y6 y7 y8 y9 y10 y11 y12) (laws_FnExactCutView.j1 (k + 1) y0 y1 y2 y3 y4 y5 y6 y7 y8 y9 y10 y11 y12)) ∧ (∀ y0 y1 y2 y3 y4, LeO (laws_FnExactCutView.j2 k y0 y1 y2 y3 y4) (laws_FnExactCutView.j2 (k + 1) y0 y1 y2 y3 y4))
  | 0 => ⟨fun _ _ _ _ _ _ _ _ _ _ _ _ _ _ _ _ _ _ _ r h => by simp [laws_FnExactCutView.j0] at h, fun _ _ _ _ _ _ _ _ _ _ _ _ _ r h => by simp [laws_FnExactCutView.j1] at h, fun _ _ _ _ _ r h => by simp [laws_FnExactCutView.j2] at h⟩
  | k + 1 => by
    obtain ⟨ih0, ih1, ih2⟩ := laws_FnExactCutView.mono_l k
    refine ⟨?_, ?_, ?_⟩
    · intro y0 y1 y2 y3 y4 y5 y6 y7 y8 y9 y10 y11 y12 y13 y14 y15 y16 y17 y18
      unfold laws_FnExactCutView.j0
      repeat' first
      | (with_reducible exact ih0 _ _ _ _ _ _ _ _ _ _ _ _ _ _ _ _ _ _ _)
      | (with_reducible exact ih1 _ _ _ _ _ _ _ _ _ _ _ _ _)
      | (with_reducible exact ih2 _ _ _ _ _)
      | (with_reducible exact laws_eqIntS.mono _ _ _)
      | (with_reducible exact laws_eqView.mono _ _ _ _ _ _ _)
      | (with_reducible exact laws_heldView.mono _ _ _ _ _)
      | (with_reducible exact laws_markIntS.mono _ _ _)
      | (with_reducible exact laws_markView.mono _ _ _ _ _)
      | (with_reducible exact laws_toIntS.mono _ _)
      | (with_reducible exact laws_toView.mono _ _ _ _)
      | (with_reducible exact spec_CutView.mono _ _ _ _ _ _)
      | (with_reducible exact LeO.refl _)
      | (with_reducible exact LeO.none _)
      | (with_reducible refine LeO.ite ?_ ?_)
      | (with_reducible refine LeO.bind ?_ (fun _ => ?_))
      | exact ih0 _ _ _ _ _ _ _ _ _ _ _ _ _ _ _ _ _ _ _
      | exact ih1 _ _ _ _ _ _ _ _ _ _ _ _ _
      | exact ih2 _ _ _ _ _
      | exact laws_eqIntS.mono _ _ _
      | exact laws_eqView.mono _ _ _ _ _ _ _
      | exact laws_heldView.mono _ _ _ _ _
      | exact laws_markIntS.mono _ _ _
      | exact laws_markView.mono _ _ _ _ _
      | exact laws_toIntS.mono _ _
      | exact laws_toView.mono _ _ _ _
      | exact spec_CutView.mono _ _ _ _ _ _
      | exact LeO.none _
      | refine LeO.ite ?_ ?_
      | refine LeO.bind ?_ (fun _ => ?_)
    · intro y0 y1 y2 y3 y4 y5 y6 y7 y8 y9 y10 y11 y12
      unfold laws_FnExactCutView.j1
      repeat' first
      | (with_reducible exact ih0 _ _ _ _ _ _ _ _ _ _ _ _ _ _ _ _ _ _ _)
      | (with_reducible exact ih1 _ _ _ _ _ _ _ _ _ _ _ _ _)
      | (with_reducible exact ih2 _ _ _ _ _)
      | (with_reducible exact laws_eqIntS.mono _ _ _)
      | (with_reducible exact laws_eqView.mono _ _ _ _ _ _ _)
      | (with_reducible exact laws_heldView.mono _ _ _ _ _)
      | (with_reducible exact laws_markIntS.mono _ _ _)
      | (with_reducible exact laws_markView.mono _ _ _ _ _)
      | (with_reducible exact laws_toIntS.mono _ _)
      | (with_reducible exact laws_toView.mono _ _ _ _)
      | (with_reducible exact spec_CutView.mono _ _ _ _ _ _)
      | (with_reducible exact LeO.refl _)
      | (with_reducible exact LeO.none _)
      | (with_reducible refine LeO.ite ?_ ?_)
      | (with_reducible refine LeO.bind ?_ (fun _ => ?_))
      | exact ih0 _ _ _ _ _ _ _ _ _ _ _ _ _ _ _ _ _ _ _
      | exact ih1 _ _ _ _ _ _ _ _ _ _ _ _ _
      | exact ih2 _ _ _ _ _
      | exact laws_eqIntS.mono _ _ _
      | exact laws_eqView.mono _ _ _ _ _ _ _
      | exact laws_heldView.mono _ _ _ _ _
      | exact laws_markIntS.mono _ _ _
      | exact laws_markView.mono _ _ _ _ _
      | exact laws_toIntS.mono _ _
      | exact laws_toView.mono _ _ _ _
      | exact spec_CutView.mono _ _ _ _ _ _
      | exact LeO.none _
      | refine LeO.ite ?_ ?_
      | refine LeO.bind ?_ (fun _ => ?_)
    · intro y0 y1 y2 y3 y4
      unfold laws_FnExactCutView.j2
      repeat' first
      | (with_reducible exact ih0 _ _ _ _ _ _ _ _ _ _ _ _ _ _ _ _ _ _ _)
      | (with_reducible exact ih1 _ _ _ _ _ _ _ _ _ _ _ _ _)
      | (with_reducible exact ih2 _ _ _ _ _)
      | (with_reducible exact laws_eqIntS.mono _ _ _)
      | (with_reducible exact laws_eqView.mono _ _ _ _ _ _ _)
      | (with_reducible exact laws_heldView.mono _ _ _ _ _)
      | (with_reducible exact laws_markIntS.mono _ _ _)
      | (with_reducible exact laws_markView.mono _ _ _ _ _)
      | (with_reducible exact laws_toIntS.mono _ _)
      | (with_reducible exact laws_toView.mono _ _ _ _)
      | (with_reducible exact spec_CutView.mono _ _ _ _ _ _)
      | (with_reducible exact LeO.refl _)
      | (with_reducible exact LeO.none _)
      | (with_reducible refine LeO.ite ?_ ?_)
      | (with_reducible refine LeO.bind ?_ (fun _ => ?_))
      | exact ih0 _ _ _ _ _ _ _ _ _ _ _ _ _ _ _ _ _ _ _
      | exact ih1 _ _ _ _ _ _ _ _ _ _ _ _ _
      | exact ih2 _ _ _ _ _
      | exact laws_eqIntS.mono _ _ _
      | exact laws_eqView.mono _ _ _ _ _ _ _
      | exact laws_heldView.mono _ _ _ _ _
      | exact laws_markIntS.mono _ _ _
      | exact laws_markView.mono _ _ _ _ _
      | exact laws_toIntS.mono _ _
      | exact laws_toView.mono _ _ _ _
      | exact spec_CutView.mono _ _ _ _ _ _
      | exact LeO.none _
      | refine LeO.ite ?_ ?_
      | refine LeO.bind ?_ (fun _ => ?_)
theorem laws_FnExactCutView.mono : ∀ a0 a1 a2 a3 a4 k, LeO (laws_FnExactCutView.f k a0 a1 a2 a3 a4) (laws_FnExactCutView.f (k + 1) a0 a1 a2 a3 a4) := by
  intro a0 a1 a2 a3 a4 k
  obtain ⟨ih0, ih1, ih2⟩ := laws_FnExactCutView.mono_l k
  unfold laws_FnExactCutView.f
  repeat' first
      | (with_reducible exact ih0 _ _ _ _ _ _ _ _ _ _ _ _ _ _ _ _ _ _ _)
      | (with_reducible exact ih1 _ _ _ _ _ _ _ _ _ _ _ _ _)
      | (with_reducible exact ih2 _ _ _ _ _)
      | (with_reducible exact laws_eqIntS.mono _ _ _)
      | (with_reducible exact laws_eqView.mono _ _ _ _ _ _ _)
      | (with_reducible exact laws_heldView.mono _ _ _ _ _)
      | (with_reducible exact laws_markIntS.mono _ _ _)
      | (with_reducible exact laws_markView.mono _ _ _ _ _)
      | (with_reducible exact laws_toIntS.mono _ _)
      | (with_reducible exact laws_toView.mono _ _ _ _)
      | (with_reducible exact spec_CutView.mono _ _ _ _ _ _)
      | (with_reducible exact LeO.refl _)
      | (with_reducible exact LeO.none _)
      | (with_reducible refine LeO.ite ?_ ?_)
      | (with_reducible refine LeO.bind ?_ (fun _ => ?_))
      | exact ih0 _ _ _ _ _ _ _ _ _ _ _ _ _ _ _ _ _ _ _
      | exact ih1 _ _ _ _ _ _ _ _ _ _ _ _ _
      | exact ih2 _ _ _ _ _
      | exact laws_eqIntS.mono _ _ _
      | exact laws_eqView.mono _ _ _ _ _ _ _
      | exact laws_heldView.mono _ _ _ _ _
      | exact laws_markIntS.mono _ _ _
      | exact laws_markView.mono _ _ _ _ _
      | exact laws_toIntS.mono _ _
      | exact laws_toView.mono _ _ _ _
      | exact spec_CutView.mono _ _ _ _ _ _
      | exact LeO.none _
      | refine LeO.ite ?_ ?_
      | refine LeO.bind ?_ (fun _ => ?_)

end Go.Proofs.Ytipjhbngbaifeaa.PA
