import Derived.Test.YtehfcnndjhjkoaaKFnExactIndex2
import Derived.Deep.MidRow
import Derived.IntWalk
import Derived.RangeFuncNested
import Derived.RangeFuncBound
import Derived.RangeFuncCalls
import Derived.RangeFuncLeaves
import Derived.RangeFuncKeeps
import Derived.RangeFuncBox
import Derived.Maps.AppendAt
import Derived.Shelf.Abstract
import Derived.Shelf.RegionOpen
import Derived.WalkKit
import Derived.OwnWalkIn
import Derived.TacticsInMore
import Derived.LoopNIn
import Derived.LoopIn
import Derived.Sort.BigQuietIn
namespace Go.Proofs.Ytehfcnndjhjkoaa.PA
open Go.RowKit Go.Proofs.YtehfcnndjhjkoaaW.PrintWords Go.Proofs.YtehfcnndjhjkoaaW.PrintLast Go.Proofs.YtehfcnndjhjkoaaW.PrintMore
attribute [local go_sem] max2_int min2_int max_two min_two max_three min_three max_four min_four
set_option linter.unusedSimpArgs false
set_option linter.unusedVariables false
/-! ### spec_Index: function 39 -/
def spec_Index.l0 : Nat → List Int → Int → Bool → List Int → List Int → Bool → List Int → List Int → Option (Bool × List Int × List Int × Int)
 | 0, _, _, _, _, _, _, _, _ => none
 | k + 1, x6, x10, x102000, x102001, x102002, x129000, x129001, x129002 => if x10 < (x6.length : Int) then (if 0 ≤ x10 then (if 0 ≤ (rd x6 x10) then (if (rd x6 x10) < (x102002.length : Int) then (if x129002.length < 17592186044416 then (spec_Index.l0 k x6 (wrap64 (x10 + 1)) x102000 x102001 x102002 x129000 x129001 (x129002 ++ [rd x102002 (rd x6 x10)])) else (none)) else (none)) else (none)) else (none)) else (some (x129000, x129001, x129002, 0))
def spec_Index.f (k : Nat) (a0_0 : Bool) (l0_1 : List Int) (l0_2 : List Int) (l1 : List (S66)) : Option (Bool × List Int × List Int × Int) := (spec_ArrayOk.f k a0_0 l0_1 l0_2).bind fun t103 => (if t103 = true then ((spec_l5Where.f k a0_0 l0_1 l0_2 l1).bind fun bt111 => (if bt111.2.2 = 0 then (spec_Index.l0 k bt111.1 0 a0_0 l0_1 l0_2 a0_0 bt111.2.1 (([] : List Int))) else ((spec_l4None.f).bind fun bt118 => (some (bt118.1, bt118.2.1, bt118.2.2, bt111.2.2))))) else ((spec_l4None.f).bind fun bt104 => (some (bt104.1, bt104.2.1, bt104.2.2, 3))))
theorem spec_Index.mono_l : ∀ k, (∀ y0 y1 y2 y3 y4 y5 y6 y7, LeO (spec_Index.l0 k y0 y1 y2 y3 y4 y5 y6 y7) (spec_Index.l0 (k + 1) y0 y1 y2 y3 y4 y5 y6 y7))
 | 0 => fun _ _ _ _ _ _ _ _ r h => by simp [spec_Index.l0] at h
 | k + 1 => by
  have ih0 := spec_Index.mono_l k
  ·intro y0 y1 y2 y3 y4 y5 y6 y7
   unfold spec_Index.l0
   repeat' first
   | (with_reducible exact ih0 _ _ _ _ _ _ _ _)
   | (with_reducible exact spec_ArrayOk.mono _ _ _ _)
   | (with_reducible exact spec_l5Where.mono _ _ _ _ _)
   | (with_reducible exact LeO.refl _)
   | (with_reducible exact LeO.none _)
   | (with_reducible refine LeO.ite ?_ ?_)
   | (with_reducible refine LeO.bind ?_ (fun _ => ?_))
   | exact ih0 _ _ _ _ _ _ _ _
   | exact spec_ArrayOk.mono _ _ _ _
   | exact spec_l5Where.mono _ _ _ _ _
   | exact LeO.none _
   | refine LeO.ite ?_ ?_
   | refine LeO.bind ?_ (fun _ => ?_)
theorem spec_Index.mono : ∀ a0 a1 a2 a3 k, LeO (spec_Index.f k a0 a1 a2 a3) (spec_Index.f (k + 1) a0 a1 a2 a3) := by
 intro a0 a1 a2 a3 k
 have ih0 := spec_Index.mono_l k
 unfold spec_Index.f
 repeat' first
  | (with_reducible exact ih0 _ _ _ _ _ _ _ _)
  | (with_reducible exact spec_ArrayOk.mono _ _ _ _)
  | (with_reducible exact spec_l5Where.mono _ _ _ _ _)
  | (with_reducible exact LeO.refl _)
  | (with_reducible exact LeO.none _)
  | (with_reducible refine LeO.ite ?_ ?_)
  | (with_reducible refine LeO.bind ?_ (fun _ => ?_))
  | exact ih0 _ _ _ _ _ _ _ _
  | exact spec_ArrayOk.mono _ _ _ _
  | exact spec_l5Where.mono _ _ _ _ _
  | exact LeO.none _
  | refine LeO.ite ?_ ?_
  | refine LeO.bind ?_ (fun _ => ?_)
def spec_Index.T10 : Bool × List (List Nat × List Nat) := (true, [([], []), ([0], [0]), ([], []), ([2], [2]), ([], []), ([], []), ([4, 5], [4, 5]), ([6], [6]), ([3, 7], [3, 7]), ([8], [8]), ([9], [9]), ([1, 10], [1, 10]), ([0, 1, 2, 3, 4, 5, 6, 7, 8, 9, 10, 11], []), ([12, 11, 11, 0, 1, 2, 3, 4, 5, 6, 7, 8, 9, 10, 11], [11, 12])])
def spec_Index.B10 : List Nat := [0, 1, 0, 4, 0, 0, 48, 112, 252, 508, 1020, 2047, 4095, 8191]
theorem spec_Index.tab10 : rtab .any (opsOf Try.f39 10) = spec_Index.T10 := by kernel_rfl
theorem spec_Index.bits10 : waitsOk spec_Index.T10.2 spec_Index.B10 = true := by kernel_rfl
set_option maxHeartbeats 8000000 in
set_option maxRecDepth 100000 in
theorem spec_Index.calls (k : Nat) (a0_0 : Bool) (A0_1 : Option Addr) (c0_1 : Nat) (l0_1 : List Int) (A0_2 : Option Addr) (c0_2 : Nat) (l0_2 : List Int) (A1 : Option Addr) (c1 : Nat) (l1 : List (S66)) (r1 : Bool) (r2 : List Int) (r3 : List Int) (r4 : Int) (w : World) (hr0_1 : Kd.C (Kd.int .i64) w A0_1 l0_1.length l0_1) (hc0_1 : l0_1.length ≤ c0_1) (hr0_2 : Kd.C (Kd.int .i64) w A0_2 l0_2.length l0_2) (hc0_2 : l0_2.length ≤ c0_2) (hr1 : Kd.C k66 w A1 l1.length l1) (hc1 : l1.length ≤ c1) (h : spec_Index.f k a0_0 l0_1 l0_2 l1 = some (r1, r2, r3, r4)) :
 Calls Try.prog 39 #[.agg #[.bool a0_0, .slice A0_1 l0_1.length c0_1, .slice A0_2 l0_2.length c0_2], .slice A1 l1.length c1] w fun e w' => ∃ v1_ v2_ : Value, e = .returned (.tuple #[.agg #[.bool r1, v1_, v2_], .int .i64 r4]) ∧ Kd.R (Kd.int .i64) 3 w' w.heap.size (fun k_ => some k_ ≠ (v2_ : Value).ownBlock) v1_ r2 ∧ Kd.R (Kd.int .i64) 3 w' w.heap.size (fun k_ => some k_ ≠ (v1_ : Value).ownBlock) v2_ r3 ∧ Below w.heap.size w w' := by
 have hu28 := Try.underlying28
 have HR0_1 := Aside0.mk hr0_1
 have HC0_1 := Aside0.mk hc0_1
 clear hr0_1 hc0_1
 have HR0_2 := Aside0.mk hr0_2
 have HC0_2 := Aside0.mk hc0_2
 clear hr0_2 hc0_2
 have HR1 := Aside0.mk hr1
 have HC1 := Aside0.mk hc1
 clear hr1 hc1
 have HB := Aside0.mk (Below.refl w.heap.size w)
 have H : ((spec_ArrayOk.f k a0_0 l0_1 l0_2).bind fun t103 => (if t103 = true then ((spec_l5Where.f k a0_0 l0_1 l0_2 l1).bind fun bt111 => (if bt111.2.2 = 0 then (spec_Index.l0 k bt111.1 0 a0_0 l0_1 l0_2 a0_0 bt111.2.1 (([] : List Int))) else ((spec_l4None.f).bind fun bt118 => (some (bt118.1, bt118.2.1, bt118.2.2, bt111.2.2))))) else ((spec_l4None.f).bind fun bt104 => (some (bt104.1, bt104.2.1, bt104.2.2, 3))))) = some (r1, r2, r3, r4) := h
 clear h
 replace H := Option.bind_eq_some_iff.mp H
 obtain ⟨t103, A30, H⟩ := H
 replace H : (if t103 = true then ((spec_l5Where.f k a0_0 l0_1 l0_2 l1).bind fun bt111 => (if bt111.2.2 = 0 then (spec_Index.l0 k bt111.1 0 a0_0 l0_1 l0_2 a0_0 bt111.2.1 (([] : List Int))) else ((spec_l4None.f).bind fun bt118 => (some (bt118.1, bt118.2.1, bt118.2.2, bt111.2.2))))) else ((spec_l4None.f).bind fun bt104 => (some (bt104.1, bt104.2.1, bt104.2.2, 3)))) = some (r1, r2, r3, r4) := H
 have A3 := Aside0.mk A30
 clear A30
 by_cases c4 : t103 = true
 ·subst c4
  have H1 : ((spec_l5Where.f k a0_0 l0_1 l0_2 l1).bind fun bt111 => (if bt111.2.2 = 0 then (spec_Index.l0 k bt111.1 0 a0_0 l0_1 l0_2 a0_0 bt111.2.1 (([] : List Int))) else ((spec_l4None.f).bind fun bt118 => (some (bt118.1, bt118.2.1, bt118.2.2, bt111.2.2))))) = some (r1, r2, r3, r4) := by rw [if_pos rfl] at H; exact H
  clear H
  have H := H1
  clear H1
  replace H := Option.bind_eq_some_iff.mp H
  obtain ⟨⟨t111, t114, t117⟩, A50, H⟩ := H
  replace H : (if t117 = 0 then (spec_Index.l0 k t111 0 a0_0 l0_1 l0_2 a0_0 t114 (([] : List Int))) else ((spec_l4None.f).bind fun bt118 => (some (bt118.1, bt118.2.1, bt118.2.2, t117)))) = some (r1, r2, r3, r4) := H
  have A5 := Aside0.mk A50
  clear A50
  by_cases c6 : t117 = 0
  ·rw [if_pos c6] at H
   have c6b0 : (t117 == 0) = true := beq_iff_eq.mpr c6
   have c6b1 : (t117 != 0) = false := bne_eq_false_iff_eq.mpr c6
   clear c6
   obtain ⟨y125, hy125⟩ : ∃ y_ : List Int, y_ = (([] : List Int)) := ⟨_, rfl⟩
   replace H : (spec_Index.l0 k t111 0 a0_0 l0_1 l0_2 a0_0 t114 y125) = some (r1, r2, r3, r4) := by first | (rw [hy125]; with_reducible exact H) | (have H2_ := (Option.bind_some _ _).symm.trans H; rw [hy125]; with_reducible exact H2_) | (have H2_ := (Option.bind_some _ _).symm.trans H; with_reducible exact H2_) | with_reducible exact H | (rw [hy125]; exact H) | exact H
   have Ny125 := Aside0.mk hy125
   clear hy125
   have H' := Aside0.mk H
   clear H
   go_enter Try.func39, Try.ntmps39
   go_wp2_with (first | ((with_reducible refine gate_dst (N := 2) rfl ?_); refine box_ev (cs := #[.bool a0_0, .slice A0_1 l0_1.length c0_1, .slice A0_2 l0_2.length c0_2]) (t := 28) ?_; intro gb101 hg w7 hbox hb; have BK101 := Aside0.mk (hbox); have GW101 := Aside0.mk (Gq hg HB.out); have GE101 := Aside0.mk (Gq hg HB.out); replace HB := Aside0.mk (below_step (Vq HB.out) hb); clear hb hbox hg) | ((with_reducible refine gate_dst (N := 4) rfl ?_); refine box_ev (cs := #[.bool false, .slice none 0 0, .slice none 0 0]) (t := 28) ?_; intro gb102 hg w8 hbox hb; have BK102 := Aside0.mk (hbox); have GW102 := Aside0.mk (Gq hg HB.out); have GE102 := Aside0.mk (Gq hg HB.out); replace HB := Aside0.mk (below_step (Vq HB.out) hb); have NB101_102 := Aside0.mk ((by rw [hg]; exact Nat.ne_of_lt (blk_lt (g := gb101) (o := .cells #[.bool a0_0, .slice A0_1 l0_1.length c0_1, .slice A0_2 l0_2.length c0_2] 28 (0, 0)) (Bq BK101.out)) : gb101 ≠ gb102)); have NB102_101 := Aside0.mk ((by rw [hg]; exact Nat.ne_of_gt (blk_lt (g := gb101) (o := .cells #[.bool a0_0, .slice A0_1 l0_1.length c0_1, .slice A0_2 l0_2.length c0_2] 28 (0, 0)) (Bq BK101.out)) : gb102 ≠ gb101)); replace BK101 := Aside0.mk (blk_below (g := gb101) (o := .cells #[.bool a0_0, .slice A0_1 l0_1.length c0_1, .slice A0_2 l0_2.length c0_2] 28 (0, 0)) (Bq BK101.out) hb); clear hb hbox hg; have hnb9 := NB101_102.out; have hnc9 := NB102_101.out; obtain ⟨hcz10_0, hcz10_1, hcz10_2, hfz10_0, hfz10_1, hfz10_2⟩ := cz3 BK101.out) | ((with_reducible refine gate_callee (f := 47) rfl ?_); refine goesL_ (some 12) rfl rfl Try.func47 (by kernel_rfl) rfl #[.agg #[.bool a0_0, .slice A0_1 l0_1.length c0_1, .slice A0_2 l0_2.length c0_2]] rfl (by (try simp only [List.map_toArray, List.map_cons, List.map_nil]); first | done | rfl | (simp only [List.length_drop, List.length_take]; rfl)) ?_; (with_reducible refine (spec_ArrayOk.calls k a0_0 _ _ l0_1 _ _ l0_2 true _ ?side1 ?side2 ?side3 ?side4 A3.out).mono ?_); (case side1 => exact Cq (Kd.C_below HR0_1.out HB.out)); (case side2 => exact HC0_1.out); (case side3 => exact Cq (Kd.C_below HR0_2.out HB.out)); (case side4 => exact HC0_2.out); rintro e w11 ⟨rfl, hb⟩; refine ⟨_, rfl, ?_⟩; replace BK101 := Aside0.mk (blk_below (g := gb101) (o := .cells #[.bool a0_0, .slice A0_1 l0_1.length c0_1, .slice A0_2 l0_2.length c0_2] 28 (0, 0)) (Bq BK101.out) hb); replace BK102 := Aside0.mk (blk_below (g := gb102) (o := .cells #[.bool false, .slice none 0 0, .slice none 0 0] 28 (0, 0)) (Bq BK102.out) hb); replace HB := Aside0.mk (below_step (Vq HB.out) hb); (try clear hb); (try clear hb2); (try clear hk); (try clear hi); obtain ⟨hcz12_0, hcz12_1, hcz12_2, hfz12_0, hfz12_1, hfz12_2⟩ := cz3 BK101.out) | ((with_reducible refine gate_callee (f := 54) rfl ?_); refine goesL_ (some 18) rfl rfl Try.func54 (by kernel_rfl) rfl #[.agg #[.bool a0_0, .slice A0_1 l0_1.length c0_1, .slice A0_2 l0_2.length c0_2], .slice A1 l1.length c1] rfl (by (try simp only [List.map_toArray, List.map_cons, List.map_nil]); first | done | rfl | (simp only [List.length_drop, List.length_take]; rfl)) ?_; (with_reducible refine (spec_l5Where.calls k a0_0 _ _ l0_1 _ _ l0_2 _ _ l1 t111 t114 t117 _ ?side1 ?side2 ?side3 ?side4 ?side5 ?side6 A5.out).mono ?_); (case side1 => exact Cq (Kd.C_below HR0_1.out HB.out)); (case side2 => exact HC0_1.out); (case side3 => exact Cq (Kd.C_below HR0_2.out HB.out)); (case side4 => exact HC0_2.out); (case side5 => exact Cq (Kd.C_below HR1.out HB.out)); (case side6 => exact HC1.out); rintro e w13 ⟨v112, v115, rfl, ho0, ho1, hb⟩; refine ⟨_, rfl, ?_⟩; have HO113 := Aside0.mk (Kd.R_lower ho0 (below_size (Vq HB.out))); have HO116 := Aside0.mk (Kd.R_lower ho1 (below_size (Vq HB.out))); replace BK101 := Aside0.mk (blk_below (g := gb101) (o := .cells #[.bool a0_0, .slice A0_1 l0_1.length c0_1, .slice A0_2 l0_2.length c0_2] 28 (0, 0)) (Bq BK101.out) hb); replace BK102 := Aside0.mk (blk_below (g := gb102) (o := .cells #[.bool false, .slice none 0 0, .slice none 0 0] 28 (0, 0)) (Bq BK102.out) hb); replace HB := Aside0.mk (below_step (Vq HB.out) hb); (try clear hb); (try clear hb2); (try clear hk); (try clear hi); (try clear ho0); (try clear ho1); obtain ⟨hcz14_0, hcz14_1, hcz14_2, hfz14_0, hfz14_1, hfz14_2⟩ := cz3 BK101.out) | ((with_reducible refine gate_dst (N := 29) rfl ?_); refine Kd.R_lit (Kd.int .i64) _ 3 ?hg (N := 29) ?hd (xs := ([] : List Int)) (inner := []) (ok := fun _ => True) (okp := fun _ => True) ?hr ?hp (fun _ hk => hk) trivial (Below.refl _ _) (Nat.le_refl _) (by simp) ?_; (case hd => rfl); (case hg => rfl); (case hr => first | (go_simp; done) | (go_simp; rfl)); (case hp => exact (Reps.none _ _)); intro v126 w15 ho16 hb hg_ hnew_; clear hg_ hnew_; (first | rw [← Ny125.out] at ho16 | (simp only [Int.reduceToNat] at ho16; rw [← Ny125.out] at ho16)); have HO127 := Aside0.mk (Kd.R_lower (Kd.R_new' (Kd.R_new' ho16 (Kd.R_lt (Rq HO113.out))) (Kd.R_lt (Rq HO116.out))) (below_size (Vq HB.out))); replace HO113 := Aside0.mk (Kd.R_elder' (Rq HO113.out) (Kd.R_base ho16) hb); replace HO116 := Aside0.mk (Kd.R_elder' (Rq HO116.out) (Kd.R_base ho16) hb); replace BK101 := Aside0.mk (blk_below (g := gb101) (o := .cells #[.bool a0_0, .slice A0_1 l0_1.length c0_1, .slice A0_2 l0_2.length c0_2] 28 (0, 0)) (Bq BK101.out) hb); replace BK102 := Aside0.mk (blk_below (g := gb102) (o := .cells #[.bool false, .slice none 0 0, .slice none 0 0] 28 (0, 0)) (Bq BK102.out) hb); replace HB := Aside0.mk (below_step (Vq HB.out) hb); clear hb ho16; obtain ⟨Ao17, co17, eo17⟩ := Kd.R_slice HO127.out; subst eo17; obtain ⟨Ao18, co18, eo18⟩ := Kd.R_slice HO116.out; subst eo18) | ((with_reducible refine gate_dst (N := 9) rfl ?_); refine box_ev (cs := #[.bool false, .slice none 0 0, .slice none 0 0]) (t := 28) ?_; intro gb128 hg w19 hbox hb; replace HO113 := Aside0.mk (Kd.R_below (Rq HO113.out) hb); replace HO116 := Aside0.mk (Kd.R_below (Rq HO116.out) hb); replace HO127 := Aside0.mk (Kd.R_below (Rq HO127.out) hb); have BK128 := Aside0.mk (hbox); have GW128 := Aside0.mk (Gq hg HB.out); have GE128 := Aside0.mk (Gq hg HB.out); replace HB := Aside0.mk (below_step (Vq HB.out) hb); have NB101_128 := Aside0.mk ((by rw [hg]; exact Nat.ne_of_lt (blk_lt (g := gb101) (o := .cells #[.bool a0_0, .slice A0_1 l0_1.length c0_1, .slice A0_2 l0_2.length c0_2] 28 (0, 0)) (Bq BK101.out)) : gb101 ≠ gb128)); have NB128_101 := Aside0.mk ((by rw [hg]; exact Nat.ne_of_gt (blk_lt (g := gb101) (o := .cells #[.bool a0_0, .slice A0_1 l0_1.length c0_1, .slice A0_2 l0_2.length c0_2] 28 (0, 0)) (Bq BK101.out)) : gb128 ≠ gb101)); replace BK101 := Aside0.mk (blk_below (g := gb101) (o := .cells #[.bool a0_0, .slice A0_1 l0_1.length c0_1, .slice A0_2 l0_2.length c0_2] 28 (0, 0)) (Bq BK101.out) hb); have NB102_128 := Aside0.mk ((by rw [hg]; exact Nat.ne_of_lt (blk_lt (g := gb102) (o := .cells #[.bool false, .slice none 0 0, .slice none 0 0] 28 (0, 0)) (Bq BK102.out)) : gb102 ≠ gb128)); have NB128_102 := Aside0.mk ((by rw [hg]; exact Nat.ne_of_gt (blk_lt (g := gb102) (o := .cells #[.bool false, .slice none 0 0, .slice none 0 0] 28 (0, 0)) (Bq BK102.out)) : gb128 ≠ gb102)); replace BK102 := Aside0.mk (blk_below (g := gb102) (o := .cells #[.bool false, .slice none 0 0, .slice none 0 0] 28 (0, 0)) (Bq BK102.out) hb); clear hb hbox hg; have hnb20 := NB128_101.out; have hnc20 := NB101_128.out; have hnb21 := NB128_102.out; have hnc21 := NB102_128.out; obtain ⟨hcz22_0, hcz22_1, hcz22_2, hfz22_0, hfz22_1, hfz22_2⟩ := cz3 BK128.out))
   go_loopg [10] k (fun kq v10 w' => ∃ (x10_1 : Int) (x129002_1 : List Int) (u129002 : Value), v10 = .int .i64 x10_1 ∧ Aside0 (spec_Index.l0 kq t111 x10_1 a0_0 l0_1 l0_2 a0_0 t114 x129002_1 = some (r1, r2, r3, r4)) ∧ Aside0 (kq ≤ k) ∧ Aside0 (Kd.R (Kd.int .i64) 3 w' w.heap.size (fun k_ => some k_ ≠ ((.slice Ao18 t114.length co18) : Value).ownBlock ∧ some k_ ≠ (u129002 : Value).ownBlock) v112 t111) ∧ Aside0 (Kd.R (Kd.int .i64) 3 w' w.heap.size (fun k_ => some k_ ≠ (v112 : Value).ownBlock ∧ some k_ ≠ (u129002 : Value).ownBlock) (.slice Ao18 t114.length co18) t114) ∧ Aside0 (Kd.R (Kd.int .i64) 3 w' w.heap.size (fun k_ => some k_ ≠ (v112 : Value).ownBlock ∧ some k_ ≠ ((.slice Ao18 t114.length co18) : Value).ownBlock) u129002 x129002_1) ∧ Aside0 (w'.heap[gb101]? = some (.cells #[.bool a0_0, (.slice A0_1 l0_1.length c0_1), (.slice A0_2 l0_2.length c0_2)] 28 (0, 0))) ∧ Aside0 (w'.heap[gb102]? = some (.cells #[.bool false, (.slice none 0 0), (.slice none 0 0)] 28 (0, 0))) ∧ Aside0 (w'.heap[gb128]? = some (.cells #[.bool a0_0, (.slice Ao18 t114.length co18), u129002] 28 (0, 0))) ∧ Aside0 (Below w.heap.size w w'))
   case atStart => exact ⟨(0), (y125), (.slice Ao17 y125.length co17), (by first | rfl | (simp; done) | (simp [*]; done)), H', ⟨Nat.le_refl _⟩, ⟨by (with_reducible repeat (first | apply Kd.R_alloc | apply Kd.R_drewN | apply Kd.R_drew)); exact Kd.R_mono (Kd.R_far (p := ⟨gb128, 2, none⟩) (Kd.R_far (p := ⟨gb128, 1, none⟩) (Kd.R_far (p := ⟨gb128, 0, none⟩) (Kd.R_types HO113.out BK128.out (by decide)) (fun _ hk => hk.2) (.bool a0_0)) (fun _ hk => hk.2) (.slice Ao18 t114.length co18)) (fun _ hk => hk.2) (.slice Ao17 y125.length co17)) (fun _ hk => ⟨hk.1.1, hk.1.2⟩)⟩, ⟨by (with_reducible repeat (first | apply Kd.R_alloc | apply Kd.R_drewN | apply Kd.R_drew)); exact Kd.R_mono (Kd.R_far (p := ⟨gb128, 2, none⟩) (Kd.R_far (p := ⟨gb128, 1, none⟩) (Kd.R_far (p := ⟨gb128, 0, none⟩) (Kd.R_types HO116.out BK128.out (by decide)) (fun _ hk => hk.2) (.bool a0_0)) (fun _ hk => hk.2) (.slice Ao18 t114.length co18)) (fun _ hk => hk.2) (.slice Ao17 y125.length co17)) (fun _ hk => ⟨hk.1.1, hk.1.2⟩)⟩, ⟨by (with_reducible repeat (first | apply Kd.R_alloc | apply Kd.R_drewN | apply Kd.R_drew)); exact Kd.R_mono (Kd.R_far (p := ⟨gb128, 2, none⟩) (Kd.R_far (p := ⟨gb128, 1, none⟩) (Kd.R_far (p := ⟨gb128, 0, none⟩) (Kd.R_types HO127.out BK128.out (by decide)) (fun _ hk => hk.2) (.bool a0_0)) (fun _ hk => hk.2) (.slice Ao18 t114.length co18)) (fun _ hk => hk.2) (.slice Ao17 y125.length co17)) (fun _ hk => ⟨hk.1.1.2, hk.1.2⟩)⟩, ⟨by (with_reducible repeat (first | refine blk_drewN ?_ _ | refine blk_drew ?_ | refine blk_alloc ?_ _)); refine blk_far ?_ NB101_128.out _; (with_reducible repeat (first | refine blk_drewN ?_ _ | refine blk_drew ?_ | refine blk_alloc ?_ _)); refine blk_far ?_ NB101_128.out _; (with_reducible repeat (first | refine blk_drewN ?_ _ | refine blk_drew ?_ | refine blk_alloc ?_ _)); refine blk_far ?_ NB101_128.out _; (with_reducible repeat (first | refine blk_drewN ?_ _ | refine blk_drew ?_ | refine blk_alloc ?_ _)); exact BK101.out⟩, ⟨by (with_reducible repeat (first | refine blk_drewN ?_ _ | refine blk_drew ?_ | refine blk_alloc ?_ _)); refine blk_far ?_ NB102_128.out _; (with_reducible repeat (first | refine blk_drewN ?_ _ | refine blk_drew ?_ | refine blk_alloc ?_ _)); refine blk_far ?_ NB102_128.out _; (with_reducible repeat (first | refine blk_drewN ?_ _ | refine blk_drew ?_ | refine blk_alloc ?_ _)); refine blk_far ?_ NB102_128.out _; (with_reducible repeat (first | refine blk_drewN ?_ _ | refine blk_drew ?_ | refine blk_alloc ?_ _)); exact BK102.out⟩, ⟨by (with_reducible repeat (first | refine blk_drewN ?_ _ | refine blk_drew ?_ | refine blk_alloc ?_ _)); refine blk_put (cs := #[.bool a0_0, .slice Ao18 t114.length co18, .slice none 0 0]) ?_ 2 _ rfl; (with_reducible repeat (first | refine blk_drewN ?_ _ | refine blk_drew ?_ | refine blk_alloc ?_ _)); refine blk_put (cs := #[.bool a0_0, .slice none 0 0, .slice none 0 0]) ?_ 1 _ rfl; (with_reducible repeat (first | refine blk_drewN ?_ _ | refine blk_drew ?_ | refine blk_alloc ?_ _)); refine blk_put (cs := #[.bool false, .slice none 0 0, .slice none 0 0]) ?_ 0 _ rfl; (with_reducible repeat (first | refine blk_drewN ?_ _ | refine blk_drew ?_ | refine blk_alloc ?_ _)); exact BK128.out⟩, ⟨Vq HB.out⟩⟩
   case round =>
    clear H'
    (try clear c1); (try clear c2); (try clear p2); (try clear c3); (try clear c4); (try clear c5); (try clear c6); (try clear c6b0); (try clear c6b1); (try clear c9); (try clear c20); (try clear c21); (try clear hcz10_0 hcz10_1 hcz10_2 hfz10_0 hfz10_1 hfz10_2); (try clear hcz12_0 hcz12_1 hcz12_2 hfz12_0 hfz12_1 hfz12_2); (try clear hcz14_0 hcz14_1 hcz14_2 hfz14_0 hfz14_1 hfz14_2); (try clear hcz22_0 hcz22_1 hcz22_2 hfz22_0 hfz22_1 hfz22_2)
    obtain ⟨x10_1, x129002_1, u129002, rfl, HA, HK1, HO_6, HO_129001, HO_129002, BK101, BK102, BK128, HB⟩ := hrel
    cases gk with
    | zero => exact absurd HA.out (by simp [spec_Index.l0])
    | succ k1 =>
     have H := HA.out
     clear HA
     simp only [spec_Index.l0] at H
     by_cases c23 : x10_1 < (t111.length : Int)
     ·rw [if_pos c23] at H
      have c23b0 : decide (x10_1 < (t111.length : Int)) = true := decide_eq_true c23
      clear c23
      by_cases c24 : 0 ≤ x10_1
      ·rw [if_pos c24] at H
       have c24b0 : decide (0 ≤ x10_1) = true := decide_eq_true c24
       clear c24
       by_cases c25 : 0 ≤ (rd t111 x10_1)
       ·rw [if_pos c25] at H
        have c25b0 : decide (0 ≤ (rd t111 x10_1)) = true := decide_eq_true c25
        clear c25
        by_cases c26 : (rd t111 x10_1) < (l0_2.length : Int)
        ·rw [if_pos c26] at H
         have c26b0 : decide ((rd t111 x10_1) < (l0_2.length : Int)) = true := decide_eq_true c26
         clear c26
         by_cases c27 : x129002_1.length < 17592186044416
         ·rw [if_pos c27] at H
          have LMc27 := Aside0.mk c27
          clear c27
          obtain ⟨y131, hy131⟩ : ∃ y_ : List Int, y_ = (x129002_1 ++ [rd l0_2 (rd t111 x10_1)]) := ⟨_, rfl⟩
          replace H : (spec_Index.l0 k1 t111 (wrap64 (x10_1 + 1)) a0_0 l0_1 l0_2 a0_0 t114 y131) = some (r1, r2, r3, r4) := by first | (rw [hy131]; with_reducible exact H) | (have H2_ := (Option.bind_some _ _).symm.trans H; rw [hy131]; with_reducible exact H2_) | (have H2_ := (Option.bind_some _ _).symm.trans H; with_reducible exact H2_) | with_reducible exact H | (rw [hy131]; exact H) | exact H
          have Ny131 := Aside0.mk hy131
          clear hy131
          have H' := Aside0.mk H
          clear H
          obtain ⟨Ao28, co28, eo28⟩ := Kd.R_slice HO_6.out
          subst eo28
          try go_wp2
          have n0_ := Aside0.mk (Kd.R_drew HO_6.out)
          have n1_ := Aside0.mk (Kd.R_drew HO_129001.out)
          have n2_ := Aside0.mk (Kd.R_drew HO_129002.out)
          have n3_ := Aside0.mk (blk_drew BK101.out)
          have n4_ := Aside0.mk (blk_drew BK102.out)
          have n5_ := Aside0.mk (blk_drew BK128.out)
          have n6_ := Aside0.mk (below_drew1 HB.out)
          clear HO_6
          clear HO_129001
          clear HO_129002
          clear BK101
          clear BK102
          clear BK128
          clear HB
          have HO_6 := n0_
          have HO_129001 := n1_
          have HO_129002 := n2_
          have BK101 := n3_
          have BK102 := n4_
          have BK128 := n5_
          have HB := n6_
          clear n0_ n1_ n2_ n3_ n4_ n5_ n6_
          have p129 : 0 ≤ (x10_1 : Int) := Dq
          have q129 : x10_1 < (t111.length : Int) := Dq
          obtain ⟨ad129, e129, hx129_0⟩ := Kd.at_int (Kd.R_reads' HO_6.out).2.2 x10_1 p129 q129
          cases e129
          replace p129 := eq_true p129
          replace q129 := eq_true q129
          have p130 : 0 ≤ ((rd t111 x10_1) : Int) := Dq
          have q130 : (rd t111 x10_1) < (l0_2.length : Int) := Dq
          obtain ⟨ad130, e130, hx130_0⟩ := Kd.at_int HR0_2.out (rd t111 x10_1) p130 q130
          have hw130_0 := hx130_0
          cases e130
          replace hx130_0 := Xq HB.out hx130_0
          replace p130 := eq_true p130
          replace q130 := eq_true q130
          refine start_ (n := 14) (S := fun w' => w'.cell? ⟨gb128, 0, none⟩ = some (.bool a0_0) ∧ w'.cell? ⟨gb128, 1, none⟩ = some (.slice Ao18 t114.length co18) ∧ w'.cell? ⟨gb128, 2, none⟩ = some (u129002) ∧ w'.cell? ⟨gb101, 0, none⟩ = some (.bool a0_0) ∧ w'.cell? ⟨gb101, 1, none⟩ = some (.slice A0_1 l0_1.length c0_1) ∧ w'.cell? ⟨gb101, 2, none⟩ = some (.slice (some ad130) l0_2.length c0_2) ∧ w'.cell? (ad129.add (x10_1).toNat) = some (.int .i64 (rd t111 x10_1)) ∧ w'.cell? (ad130.add ((rd t111 x10_1)).toNat) = some (.int .i64 (rd l0_2 (rd t111 x10_1)))) (ds := [11, 13]) #[false, false, false, false, false, false, false, false, false, false, false, false, false, false] (by kernel_rfl) rfl rfl ⟨(blk_cell BK128.out 0).trans rfl, (blk_cell BK128.out 1).trans rfl, (blk_cell BK128.out 2).trans rfl, (blk_cell BK101.out 0).trans rfl, (blk_cell BK101.out 1).trans rfl, (blk_cell BK101.out 2).trans rfl, hx129_0, ((HB.out.cell (World.block_lt_of_cell? w _ hw130_0)).trans hw130_0)⟩ (fun hHeld => ?_); refine with_tabW spec_Index.tab10 spec_Index.bits10 (fun HT_ HW_ => ?_)
          generalize wr.drew = w29 at HO_6 HO_129001 HO_129002 BK101 BK102 BK128 HB hx129_0 hx130_0 hHeld ⊢
          refine pure_ (i := 0) (N := some 37) (v := ?_) (a' := ?_) #[true, false, false, false, false, false, false, false, false, false, false, false, false, false] rfl rfl (any_of HT_.out (by kernel_rfl)) (fun _ _ _ h => h) (Or.inl ⟨by rfl, ?_⟩) ?_ ?_
          rotate_left
          ·intro w'
           go_simp
           with_reducible rfl
          rotate_left
          ·simp only [Act.put, List.setIfInBounds_toArray, List.set_cons_zero, List.set_cons_succ, i64_w, i32_w]
           rfl
          refine pure_ (i := 2) (N := some 39) (v := ?_) (a' := ?_) #[true, false, true, false, false, false, false, false, false, false, false, false, false, false] rfl rfl (any_of HT_.out (by kernel_rfl)) (fun _ _ _ h => h) (Or.inl ⟨by rfl, ?_⟩) ?_ ?_
          rotate_left
          ·intro w'
           go_simp
           with_reducible rfl
          rotate_left
          ·simp only [Act.put, List.setIfInBounds_toArray, List.set_cons_zero, List.set_cons_succ, i64_w, i32_w]
           rfl
          refine pure_ (i := 4) (N := some 41) (v := ?_) (a' := ?_) #[true, false, true, false, true, false, false, false, false, false, false, false, false, false] rfl rfl (any_of HT_.out (by kernel_rfl)) (fun _ _ _ h => h) (Or.inl ⟨by rfl, ?_⟩) ?_ ?_
          rotate_left
          ·intro w'
           go_simp
           with_reducible rfl
          rotate_left
          ·simp only [Act.put, List.setIfInBounds_toArray, List.set_cons_zero, List.set_cons_succ, i64_w, i32_w]
           rfl
          refine pure_ (i := 5) (N := some 42) (v := ?_) (a' := ?_) #[true, false, true, false, true, true, false, false, false, false, false, false, false, false] rfl rfl (any_of HT_.out (by kernel_rfl)) (fun _ _ _ h => h) (Or.inl ⟨by rfl, ?_⟩) ?_ ?_
          rotate_left
          ·intro w'
           go_simp
           with_reducible rfl
          rotate_left
          ·simp only [Act.put, List.setIfInBounds_toArray, List.set_cons_zero, List.set_cons_succ, i64_w, i32_w]
           rfl
          refine pure_ (i := 6) (N := some 43) (v := ?_) (a' := ?_) #[true, false, true, false, true, true, true, false, false, false, false, false, false, false] rfl rfl (any_of HT_.out (by kernel_rfl)) (fun _ _ _ h => h) (Or.inl ⟨by rfl, ?_⟩) ?_ ?_
          rotate_left
          ·intro w'
           go_simp
           with_reducible rfl
          rotate_left
          ·simp only [Act.put, List.setIfInBounds_toArray, List.set_cons_zero, List.set_cons_succ, i64_w, i32_w]
           rfl
          refine take_ (i := 1) (N := some 38) (v := ?_) (a' := ?_) #[true, true, true, false, true, true, true, false, false, false, false, false, false, false] rfl rfl (take_ofW HT_.out HW_.out (by kernel_rfl)) (fun _ _ _ h => h) (Or.inl ⟨by rfl, ?_⟩) hHeld ?_ ?_
          rotate_left
          ·rintro w' ⟨s0, s1, s2, s3, s4, s5, s6, s7⟩
           go_simp
           with_reducible rfl
          rotate_left
          ·simp only [Act.put, List.setIfInBounds_toArray, List.set_cons_zero, List.set_cons_succ, i64_w, i32_w]
           rfl
          refine take_ (i := 3) (N := some 40) (v := ?_) (a' := ?_) #[true, true, true, true, true, true, true, false, false, false, false, false, false, false] rfl rfl (take_ofW HT_.out HW_.out (by kernel_rfl)) (fun _ _ _ h => h) (Or.inl ⟨by rfl, ?_⟩) hHeld ?_ ?_
          rotate_left
          ·rintro w' ⟨s0, s1, s2, s3, s4, s5, s6, s7⟩
           go_simp
           with_reducible rfl
          rotate_left
          ·simp only [Act.put, List.setIfInBounds_toArray, List.set_cons_zero, List.set_cons_succ, i64_w, i32_w]
           rfl
          refine take_ (i := 7) (N := some 44) (v := ?_) (a' := ?_) #[true, true, true, true, true, true, true, true, false, false, false, false, false, false] rfl rfl (take_ofW HT_.out HW_.out (by kernel_rfl)) (fun _ _ _ h => h) (Or.inl ⟨by rfl, ?_⟩) hHeld ?_ ?_
          rotate_left
          ·rintro w' ⟨s0, s1, s2, s3, s4, s5, s6, s7⟩
           go_simp
           with_reducible rfl
          rotate_left
          ·simp only [Act.put, List.setIfInBounds_toArray, List.set_cons_zero, List.set_cons_succ, i64_w, i32_w]
           rfl
          refine pure_ (i := 8) (N := some 45) (v := ?_) (a' := ?_) #[true, true, true, true, true, true, true, true, true, false, false, false, false, false] rfl rfl (any_of HT_.out (by kernel_rfl)) (fun _ _ _ h => h) (Or.inl ⟨by rfl, ?_⟩) ?_ ?_
          rotate_left
          ·intro w'
           go_simp
           with_reducible rfl
          rotate_left
          ·simp only [Act.put, List.setIfInBounds_toArray, List.set_cons_zero, List.set_cons_succ, i64_w, i32_w]
           rfl
          refine take_ (i := 9) (N := some 46) (v := ?_) (a' := ?_) #[true, true, true, true, true, true, true, true, true, true, false, false, false, false] rfl rfl (take_ofW HT_.out HW_.out (by kernel_rfl)) (fun _ _ _ h => h) (Or.inl ⟨by rfl, ?_⟩) hHeld ?_ ?_
          rotate_left
          ·rintro w' ⟨s0, s1, s2, s3, s4, s5, s6, s7⟩
           go_simp
           with_reducible rfl
          rotate_left
          ·simp only [Act.put, List.setIfInBounds_toArray, List.set_cons_zero, List.set_cons_succ, i64_w, i32_w]
           rfl
          refine one_ (i := 10) (N := some 47) #[true, true, true, true, true, true, true, true, true, true, true, false, false, false] rfl rfl (one_of HT_.out (by kernel_rfl)) (by decide) (fun K hK => ?_)
          refine value_ (w1 := ?_) (v := ?_) (by rfl) rfl ?_ ?_
          rotate_left 2
          ·go_simp
           constructor
           ·rfl
           ·rfl
          refine hK.out _ _ ⟨(blk_cell (blk_alloc BK128.out _) 0).trans rfl, (blk_cell (blk_alloc BK128.out _) 1).trans rfl, (blk_cell (blk_alloc BK128.out _) 2).trans rfl, (blk_cell (blk_alloc BK101.out _) 0).trans rfl, (blk_cell (blk_alloc BK101.out _) 1).trans rfl, (blk_cell (blk_alloc BK101.out _) 2).trans rfl, (World.cell?_alloc_lt _ _ _ (World.block_lt_of_cell? _ _ (hHeld.2.2.2.2.2.2.1))).trans (hHeld.2.2.2.2.2.2.1), (World.cell?_alloc_lt _ _ _ (World.block_lt_of_cell? _ _ (((HB.out.cell (World.block_lt_of_cell? w _ hw130_0)).trans hw130_0)))).trans (((HB.out.cell (World.block_lt_of_cell? w _ hw130_0)).trans hw130_0))⟩ (fun hHeld => ?_)
          clear hK K
          refine norm_ (a' := ?_) ?_ ?_
          rotate_left
          ·show Act.put _ (some 47) _ = _
           simp only [Act.put, List.setIfInBounds_toArray, List.set_cons_zero, List.set_cons_succ, i64_w, i32_w]
           rfl
          refine last_ (i := 11) (N := some 48) #[true, true, true, true, true, true, true, true, true, true, true, true, false, false] rfl rfl (one_of HT_.out (by kernel_rfl)) (by decide) (fun K hK => ?_)
          refine Kd.R_append_step (Kd.int .i64) (w0 := w) w.heap.size (by rfl) (.tmp 38) (.tmp 47) 22 3 (.int .i64 0) 8 rfl Try.underlying22 info3 rfl (by decide) (by omega) u129002 x129002_1 (rd l0_2 (rd t111 x10_1)) [.int .i64 (rd l0_2 (rd t111 x10_1))] (fun k_ => some k_ ≠ (.slice (some ad129) t111.length co28 : Value).ownBlock ∧ some k_ ≠ (.slice Ao18 t114.length co18 : Value).ownBlock) (fun _ => False) rfl rfl ?aP (fun _ hk => hk.elim) ?aF ?aO ?aB ?aS ?aL ?_
          (case aP => exact rfl)
          (case aB => exact (Vq HB.out))
          (case aF => exact (fun k_ hk => ⟨Kd.fresh' (Kd.R_lt (Rq HO_6.out)) k_ hk, Kd.fresh' (Kd.R_lt (Rq HO_129001.out)) k_ hk⟩))
          (case aO => exact (Rq HO_129002.out))
          (case aS => exact (below_size (Vq HB.out)))
          (case aL => have := LMc27.out; omega)
          intro v132 w30 ho hb hg hat
          rw [← Ny131.out] at ho
          have n0_ := Aside0.mk (Kd.R_after (ok := (fun k_ => some k_ ≠ (.slice Ao18 t114.length co18 : Value).ownBlock)) (Rq HO_6.out) hg hat)
          have n1_ := Aside0.mk (Kd.R_after (ok := (fun k_ => some k_ ≠ (.slice (some ad129) t111.length co28 : Value).ownBlock)) (Rq HO_129001.out) hg hat)
          have n2_ := Aside0.mk (blk_grown (g := gb101) (o := .cells #[.bool a0_0, .slice A0_1 l0_1.length c0_1, .slice (some ad130) l0_2.length c0_2] 28 (0, 0)) (Bq BK101.out) hg (Kd.R_ne HO_129002.out BK101.out (by decide)))
          have n3_ := Aside0.mk (blk_grown (g := gb102) (o := .cells #[.bool false, .slice none 0 0, .slice none 0 0] 28 (0, 0)) (Bq BK102.out) hg (Kd.R_ne HO_129002.out BK102.out (by decide)))
          have n4_ := Aside0.mk (blk_grown (g := gb128) (o := .cells #[.bool a0_0, .slice Ao18 t114.length co18, u129002] 28 (0, 0)) (Bq BK128.out) hg (Kd.R_ne HO_129002.out BK128.out (by decide)))
          have n5_ := Aside0.mk (hb)
          have n6_ := Aside0.mk (ho)
          clear HO_6
          clear HO_129001
          clear BK101
          clear BK102
          clear BK128
          clear HB
          clear HO_129002
          have HO_6 := n0_
          have HO_129001 := n1_
          have BK101 := n2_
          have BK102 := n3_
          have BK128 := n4_
          have HB := n5_
          have HO133 := n6_
          clear n0_ n1_ n2_ n3_ n4_ n5_ n6_
          clear ho hb hg hat
          obtain ⟨Ao31, co31, eo31⟩ := Kd.R_slice HO133.out
          (first | subst eo31 | (injection eo31 with f1_ f2_ f3_; have f4_ := f1_.symm; have f5_ := f3_.symm; clear f1_ f2_ f3_; subst f4_; subst f5_))
          refine hK.out _ _ ?_
          clear hK K
          refine norm_ (a' := ?_) ?_ ?_
          rotate_left
          ·show Act.put _ (some 48) _ = _
           simp only [Act.put, List.setIfInBounds_toArray, List.set_cons_zero, List.set_cons_succ, i64_w, i32_w]
           rfl
          refine pure_ (i := 12) (N := some 49) (v := ?_) (a' := ?_) #[true, true, true, true, true, true, true, true, true, true, true, true, true, false] rfl rfl (any_of HT_.out (by kernel_rfl)) (fun _ _ _ h => h) (Or.inl ⟨by rfl, ?_⟩) ?_ ?_
          rotate_left
          ·intro w'
           go_simp
           with_reducible rfl
          rotate_left
          ·simp only [Act.put, List.setIfInBounds_toArray, List.set_cons_zero, List.set_cons_succ, i64_w, i32_w]
           rfl
          refine last_ (i := 13) (N := none) #[true, true, true, true, true, true, true, true, true, true, true, true, true, true] rfl rfl (one_of HT_.out (by kernel_rfl)) (by decide) (fun K hK => ?_)
          have hs32 : w30.cell? ⟨gb128, 2, none⟩ = some (u129002) := (blk_cell BK128.out 2).trans rfl
          have hfs32 := blk_frozen BK128.out 2
          have hns32_0 := NB101_128.out
          have hns32_1 := NB102_128.out
          have hms32_0 := NB128_101.out
          have hms32_1 := NB128_102.out
          refine skip_ (w1 := ?_) (by rfl) rfl ?_ ?_
          rotate_left
          ·go_simp
           rfl
          refine hK.out _ _ ?_
          clear hK K
          refine done_ (done_of HT_.out (by kernel_rfl)) ?_
          try go_wp2
          go_roundg k1
          case measure => have := HK1.out; omega
          case rel => exact ⟨(wrap64 (x10_1 + 1)), (y131), (.slice Ao31 y131.length co31), (by first | rfl | (simp; done) | (simp [*]; done)), H', ⟨by have := HK1.out; omega⟩, ⟨by (with_reducible repeat (first | apply Kd.R_alloc | apply Kd.R_drewN | apply Kd.R_drew)); exact Kd.R_mono (Kd.R_far (p := ⟨gb128, 2, none⟩) (Kd.R_types HO_6.out BK128.out (by decide)) (fun _ hk => hk.2) (.slice Ao31 y131.length co31)) (fun _ hk => ⟨hk.1.1, hk.1.2⟩)⟩, ⟨by (with_reducible repeat (first | apply Kd.R_alloc | apply Kd.R_drewN | apply Kd.R_drew)); exact Kd.R_mono (Kd.R_far (p := ⟨gb128, 2, none⟩) (Kd.R_types HO_129001.out BK128.out (by decide)) (fun _ hk => hk.2) (.slice Ao31 y131.length co31)) (fun _ hk => ⟨hk.1.1, hk.1.2⟩)⟩, ⟨by (with_reducible repeat (first | apply Kd.R_alloc | apply Kd.R_drewN | apply Kd.R_drew)); exact Kd.R_mono (Kd.R_far (p := ⟨gb128, 2, none⟩) (Kd.R_types HO133.out BK128.out (by decide)) (fun _ hk => hk.2) (.slice Ao31 y131.length co31)) (fun _ hk => ⟨hk.1.1, hk.1.2⟩)⟩, ⟨by (with_reducible repeat (first | refine blk_drewN ?_ _ | refine blk_drew ?_ | refine blk_alloc ?_ _)); refine blk_far ?_ NB101_128.out _; (with_reducible repeat (first | refine blk_drewN ?_ _ | refine blk_drew ?_ | refine blk_alloc ?_ _)); exact BK101.out⟩, ⟨by (with_reducible repeat (first | refine blk_drewN ?_ _ | refine blk_drew ?_ | refine blk_alloc ?_ _)); refine blk_far ?_ NB102_128.out _; (with_reducible repeat (first | refine blk_drewN ?_ _ | refine blk_drew ?_ | refine blk_alloc ?_ _)); exact BK102.out⟩, ⟨by (with_reducible repeat (first | refine blk_drewN ?_ _ | refine blk_drew ?_ | refine blk_alloc ?_ _)); refine blk_put (cs := #[.bool a0_0, .slice Ao18 t114.length co18, u129002]) ?_ 2 _ rfl; (with_reducible repeat (first | refine blk_drewN ?_ _ | refine blk_drew ?_ | refine blk_alloc ?_ _)); exact BK128.out⟩, ⟨Vq HB.out⟩⟩
         ·rw [if_neg c27] at H
          exact absurd H (by simp)
        ·rw [if_neg c26] at H
         exact absurd H (by simp)
       ·rw [if_neg c25] at H
        exact absurd H (by simp)
      ·rw [if_neg c24] at H
       exact absurd H (by simp)
     ·rw [if_neg c23] at H
      have c23b0 : decide (x10_1 < (t111.length : Int)) = false := decide_eq_false c23
      clear c23
      simp only [Option.some.injEq, Prod.mk.injEq] at H
      obtain ⟨rfl, rfl, rfl, rfl⟩ := H
      obtain ⟨Ao33, co33, eo33⟩ := Kd.R_slice HO_6.out
      subst eo33
      have hnb34 := NB128_101.out
      have hnc34 := NB101_128.out
      have hnb35 := NB128_102.out
      have hnc35 := NB102_128.out
      obtain ⟨hcz36_0, hcz36_1, hcz36_2, hfz36_0, hfz36_1, hfz36_2⟩ := cz3 BK128.out
      have hnb37 := NB102_101.out
      have hnc37 := NB101_102.out
      obtain ⟨hcz38_0, hcz38_1, hcz38_2, hfz38_0, hfz38_1, hfz38_2⟩ := cz3 BK102.out
      obtain ⟨Ao39, co39, eo39⟩ := Kd.R_slice HO_129002.out
      subst eo39
      go_wp2
      refine bodyPost_ret (results_ct rfl _ _ gb102 28 #[.bool a0_0, .slice Ao18 t114.length co18, .slice Ao39 x129002_1.length co39] (0, 0) _ rfl (by (with_reducible repeat (first | refine blk_drewN ?_ _ | refine blk_drew ?_ | refine blk_alloc ?_ _)); refine blk_put (cs := #[.bool a0_0, .slice Ao18 t114.length co18, .slice none 0 0]) ?_ 2 _ rfl; (with_reducible repeat (first | refine blk_drewN ?_ _ | refine blk_drew ?_ | refine blk_alloc ?_ _)); refine blk_put (cs := #[.bool a0_0, .slice none 0 0, .slice none 0 0]) ?_ 1 _ rfl; (with_reducible repeat (first | refine blk_drewN ?_ _ | refine blk_drew ?_ | refine blk_alloc ?_ _)); refine blk_put (cs := #[.bool false, .slice none 0 0, .slice none 0 0]) ?_ 0 _ rfl; (with_reducible repeat (first | refine blk_drewN ?_ _ | refine blk_drew ?_ | refine blk_alloc ?_ _)); exact BK102.out) Try.underlying28 rfl (by kernel_rfl)) rfl ?_
      exact ⟨_, _, by first | rfl | (simp [errW_none, errW_some] <;> rfl) | (simp [*, errW_none, errW_some] <;> rfl), by (with_reducible repeat (first | apply Kd.R_alloc | apply Kd.R_drewN | apply Kd.R_drew)); exact Kd.R_mono (Kd.R_far (p := ⟨gb102, 2, none⟩) (Kd.R_far (p := ⟨gb102, 1, none⟩) (Kd.R_far (p := ⟨gb102, 0, none⟩) (Kd.R_types HO_129001.out BK102.out (by decide)) (fun _ hk => hk.2) (.bool a0_0)) (fun _ hk => hk.2) (.slice Ao18 t114.length co18)) (fun _ hk => hk.2) (.slice Ao39 x129002_1.length co39)) (fun _ hk => hk.1.2), by (with_reducible repeat (first | apply Kd.R_alloc | apply Kd.R_drewN | apply Kd.R_drew)); exact Kd.R_mono (Kd.R_far (p := ⟨gb102, 2, none⟩) (Kd.R_far (p := ⟨gb102, 1, none⟩) (Kd.R_far (p := ⟨gb102, 0, none⟩) (Kd.R_types HO_129002.out BK102.out (by decide)) (fun _ hk => hk.2) (.bool a0_0)) (fun _ hk => hk.2) (.slice Ao18 t114.length co18)) (fun _ hk => hk.2) (.slice Ao39 x129002_1.length co39)) (fun _ hk => hk.1.2), by repeat (first | (with_reducible first | exact HB.out | apply below_alloc | apply pw_below_drewN | apply below_drew1 | refine below_set ?_ GE101.out | refine below_set ?_ GE102.out | refine below_set ?_ GE128.out) | exact HB.out)⟩
  ·rw [if_neg c6] at H
   have c6b0 : (t117 == 0) = false := beq_eq_false_iff_ne.mpr c6
   have c6b1 : (t117 != 0) = true := bne_iff_ne.mpr c6
   replace H := Option.bind_eq_some_iff.mp H
   obtain ⟨⟨t118, t119, t122⟩, A400, H⟩ := H
   replace H : (some (t118, t119, t122, t117)) = some (r1, r2, r3, r4) := H
   have A40 := Aside0.mk A400
   clear A400
   simp only [Option.some.injEq, Prod.mk.injEq] at H
   obtain ⟨rfl, rfl, rfl, rfl⟩ := H
   go_enter Try.func39, Try.ntmps39
   go_wp2_with (first | ((with_reducible refine gate_dst (N := 2) rfl ?_); refine box_ev (cs := #[.bool a0_0, .slice A0_1 l0_1.length c0_1, .slice A0_2 l0_2.length c0_2]) (t := 28) ?_; intro gb101 hg w41 hbox hb; have BK101 := Aside0.mk (hbox); have GW101 := Aside0.mk (Gq hg HB.out); have GE101 := Aside0.mk (Gq hg HB.out); replace HB := Aside0.mk (below_step (Vq HB.out) hb); clear hb hbox hg) | ((with_reducible refine gate_dst (N := 4) rfl ?_); refine box_ev (cs := #[.bool false, .slice none 0 0, .slice none 0 0]) (t := 28) ?_; intro gb102 hg w42 hbox hb; have BK102 := Aside0.mk (hbox); have GW102 := Aside0.mk (Gq hg HB.out); have GE102 := Aside0.mk (Gq hg HB.out); replace HB := Aside0.mk (below_step (Vq HB.out) hb); have NB101_102 := Aside0.mk ((by rw [hg]; exact Nat.ne_of_lt (blk_lt (g := gb101) (o := .cells #[.bool a0_0, .slice A0_1 l0_1.length c0_1, .slice A0_2 l0_2.length c0_2] 28 (0, 0)) (Bq BK101.out)) : gb101 ≠ gb102)); have NB102_101 := Aside0.mk ((by rw [hg]; exact Nat.ne_of_gt (blk_lt (g := gb101) (o := .cells #[.bool a0_0, .slice A0_1 l0_1.length c0_1, .slice A0_2 l0_2.length c0_2] 28 (0, 0)) (Bq BK101.out)) : gb102 ≠ gb101)); replace BK101 := Aside0.mk (blk_below (g := gb101) (o := .cells #[.bool a0_0, .slice A0_1 l0_1.length c0_1, .slice A0_2 l0_2.length c0_2] 28 (0, 0)) (Bq BK101.out) hb); clear hb hbox hg; have hnb43 := NB101_102.out; have hnc43 := NB102_101.out; obtain ⟨hcz44_0, hcz44_1, hcz44_2, hfz44_0, hfz44_1, hfz44_2⟩ := cz3 BK101.out) | ((with_reducible refine gate_callee (f := 47) rfl ?_); refine goesL_ (some 12) rfl rfl Try.func47 (by kernel_rfl) rfl #[.agg #[.bool a0_0, .slice A0_1 l0_1.length c0_1, .slice A0_2 l0_2.length c0_2]] rfl (by (try simp only [List.map_toArray, List.map_cons, List.map_nil]); first | done | rfl | (simp only [List.length_drop, List.length_take]; rfl)) ?_; (with_reducible refine (spec_ArrayOk.calls k a0_0 _ _ l0_1 _ _ l0_2 true _ ?side1 ?side2 ?side3 ?side4 A3.out).mono ?_); (case side1 => exact Cq (Kd.C_below HR0_1.out HB.out)); (case side2 => exact HC0_1.out); (case side3 => exact Cq (Kd.C_below HR0_2.out HB.out)); (case side4 => exact HC0_2.out); rintro e w45 ⟨rfl, hb⟩; refine ⟨_, rfl, ?_⟩; replace BK101 := Aside0.mk (blk_below (g := gb101) (o := .cells #[.bool a0_0, .slice A0_1 l0_1.length c0_1, .slice A0_2 l0_2.length c0_2] 28 (0, 0)) (Bq BK101.out) hb); replace BK102 := Aside0.mk (blk_below (g := gb102) (o := .cells #[.bool false, .slice none 0 0, .slice none 0 0] 28 (0, 0)) (Bq BK102.out) hb); replace HB := Aside0.mk (below_step (Vq HB.out) hb); (try clear hb); (try clear hb2); (try clear hk); (try clear hi); obtain ⟨hcz46_0, hcz46_1, hcz46_2, hfz46_0, hfz46_1, hfz46_2⟩ := cz3 BK101.out) | ((with_reducible refine gate_callee (f := 54) rfl ?_); refine goesL_ (some 18) rfl rfl Try.func54 (by kernel_rfl) rfl #[.agg #[.bool a0_0, .slice A0_1 l0_1.length c0_1, .slice A0_2 l0_2.length c0_2], .slice A1 l1.length c1] rfl (by (try simp only [List.map_toArray, List.map_cons, List.map_nil]); first | done | rfl | (simp only [List.length_drop, List.length_take]; rfl)) ?_; (with_reducible refine (spec_l5Where.calls k a0_0 _ _ l0_1 _ _ l0_2 _ _ l1 t111 t114 t117 _ ?side1 ?side2 ?side3 ?side4 ?side5 ?side6 A5.out).mono ?_); (case side1 => exact Cq (Kd.C_below HR0_1.out HB.out)); (case side2 => exact HC0_1.out); (case side3 => exact Cq (Kd.C_below HR0_2.out HB.out)); (case side4 => exact HC0_2.out); (case side5 => exact Cq (Kd.C_below HR1.out HB.out)); (case side6 => exact HC1.out); rintro e w47 ⟨v112, v115, rfl, ho0, ho1, hb⟩; refine ⟨_, rfl, ?_⟩; have HO113 := Aside0.mk (Kd.R_lower ho0 (below_size (Vq HB.out))); have HO116 := Aside0.mk (Kd.R_lower ho1 (below_size (Vq HB.out))); replace BK101 := Aside0.mk (blk_below (g := gb101) (o := .cells #[.bool a0_0, .slice A0_1 l0_1.length c0_1, .slice A0_2 l0_2.length c0_2] 28 (0, 0)) (Bq BK101.out) hb); replace BK102 := Aside0.mk (blk_below (g := gb102) (o := .cells #[.bool false, .slice none 0 0, .slice none 0 0] 28 (0, 0)) (Bq BK102.out) hb); replace HB := Aside0.mk (below_step (Vq HB.out) hb); (try clear hb); (try clear hb2); (try clear hk); (try clear hi); (try clear ho0); (try clear ho1)) | ((with_reducible refine gate_callee (f := 53) rfl ?_); refine goesL_ (some 24) rfl rfl Try.func53 (by kernel_rfl) rfl #[] rfl (by (try simp only [List.map_toArray, List.map_cons, List.map_nil]); first | done | rfl | (simp only [List.length_drop, List.length_take]; rfl)) ?_; (with_reducible refine (spec_l4None.calls  t118 t119 t122 _ A40.out).mono ?_); rintro e w48 ⟨v120, v123, rfl, ho0, ho1, hb⟩; refine ⟨_, rfl, ?_⟩; have HO121 := Aside0.mk (Kd.R_lower (Kd.R_new' (Kd.R_new' ho0 (Kd.R_lt (Rq HO113.out))) (Kd.R_lt (Rq HO116.out))) (below_size (Vq HB.out))); have HO124 := Aside0.mk (Kd.R_lower (Kd.R_new' (Kd.R_new' ho1 (Kd.R_lt (Rq HO113.out))) (Kd.R_lt (Rq HO116.out))) (below_size (Vq HB.out))); replace HO113 := Aside0.mk (Kd.R_mono (Kd.R_told (Kd.R_told (Kd.R_old (Rq HO113.out) hb) (Kd.R_base ho0)) (Kd.R_base ho1)) (fun _ h_ => h_.1)); replace HO116 := Aside0.mk (Kd.R_mono (Kd.R_told (Kd.R_told (Kd.R_old (Rq HO116.out) hb) (Kd.R_base ho0)) (Kd.R_base ho1)) (fun _ h_ => h_.1)); replace BK101 := Aside0.mk (blk_below (g := gb101) (o := .cells #[.bool a0_0, .slice A0_1 l0_1.length c0_1, .slice A0_2 l0_2.length c0_2] 28 (0, 0)) (Bq BK101.out) hb); replace BK102 := Aside0.mk (blk_below (g := gb102) (o := .cells #[.bool false, .slice none 0 0, .slice none 0 0] 28 (0, 0)) (Bq BK102.out) hb); replace HB := Aside0.mk (below_step (Vq HB.out) hb); (try clear hb); (try clear hb2); (try clear hk); (try clear hi); (try clear ho0); (try clear ho1); obtain ⟨hcz49_0, hcz49_1, hcz49_2, hfz49_0, hfz49_1, hfz49_2⟩ := cz3 BK102.out; obtain ⟨Ao50, co50, eo50⟩ := Kd.R_slice HO121.out; subst eo50; obtain ⟨Ao51, co51, eo51⟩ := Kd.R_slice HO124.out; subst eo51))
   refine bodyPost_ret (results_ct rfl _ _ gb102 28 #[.bool t118, .slice Ao50 t119.length co50, .slice Ao51 t122.length co51] (0, 0) _ rfl (by (with_reducible repeat (first | refine blk_drewN ?_ _ | refine blk_drew ?_ | refine blk_alloc ?_ _)); refine blk_put (cs := #[.bool t118, .slice Ao50 t119.length co50, .slice none 0 0]) ?_ 2 _ rfl; (with_reducible repeat (first | refine blk_drewN ?_ _ | refine blk_drew ?_ | refine blk_alloc ?_ _)); refine blk_put (cs := #[.bool t118, .slice none 0 0, .slice none 0 0]) ?_ 1 _ rfl; (with_reducible repeat (first | refine blk_drewN ?_ _ | refine blk_drew ?_ | refine blk_alloc ?_ _)); refine blk_put (cs := #[.bool false, .slice none 0 0, .slice none 0 0]) ?_ 0 _ rfl; (with_reducible repeat (first | refine blk_drewN ?_ _ | refine blk_drew ?_ | refine blk_alloc ?_ _)); exact BK102.out) Try.underlying28 rfl (by kernel_rfl)) rfl ?_
   exact ⟨_, _, by first | rfl | (simp [errW_none, errW_some] <;> rfl) | (simp [*, errW_none, errW_some] <;> rfl), by (with_reducible repeat (first | apply Kd.R_alloc | apply Kd.R_drewN | apply Kd.R_drew)); exact Kd.R_mono (Kd.R_far (p := ⟨gb102, 2, none⟩) (Kd.R_far (p := ⟨gb102, 1, none⟩) (Kd.R_far (p := ⟨gb102, 0, none⟩) (Kd.R_types HO121.out BK102.out (by decide)) (fun _ hk => hk.2) (.bool t118)) (fun _ hk => hk.2) (.slice Ao50 t119.length co50)) (fun _ hk => hk.2) (.slice Ao51 t122.length co51)) (fun _ hk => hk.1.1.1), by (with_reducible repeat (first | apply Kd.R_alloc | apply Kd.R_drewN | apply Kd.R_drew)); exact Kd.R_mono (Kd.R_far (p := ⟨gb102, 2, none⟩) (Kd.R_far (p := ⟨gb102, 1, none⟩) (Kd.R_far (p := ⟨gb102, 0, none⟩) (Kd.R_types HO124.out BK102.out (by decide)) (fun _ hk => hk.2) (.bool t118)) (fun _ hk => hk.2) (.slice Ao50 t119.length co50)) (fun _ hk => hk.2) (.slice Ao51 t122.length co51)) (fun _ hk => hk.1.1.1), by repeat (first | (with_reducible first | exact HB.out | apply below_alloc | apply pw_below_drewN | apply below_drew1 | refine below_set ?_ GE101.out | refine below_set ?_ GE102.out) | exact HB.out)⟩
 ·replace c4 := Bool.eq_false_iff.mpr c4
  subst c4
  have H1 : ((spec_l4None.f).bind fun bt104 => (some (bt104.1, bt104.2.1, bt104.2.2, 3))) = some (r1, r2, r3, r4) := by rw [if_neg (show ¬ (false = true) by decide)] at H; exact H
  clear H
  have H := H1
  clear H1
  replace H := Option.bind_eq_some_iff.mp H
  obtain ⟨⟨t104, t105, t108⟩, A520, H⟩ := H
  replace H : (some (t104, t105, t108, 3)) = some (r1, r2, r3, r4) := H
  have A52 := Aside0.mk A520
  clear A520
  simp only [Option.some.injEq, Prod.mk.injEq] at H
  obtain ⟨rfl, rfl, rfl, rfl⟩ := H
  go_enter Try.func39, Try.ntmps39
  go_wp2_with (first | ((with_reducible refine gate_dst (N := 2) rfl ?_); refine box_ev (cs := #[.bool a0_0, .slice A0_1 l0_1.length c0_1, .slice A0_2 l0_2.length c0_2]) (t := 28) ?_; intro gb101 hg w53 hbox hb; have BK101 := Aside0.mk (hbox); have GW101 := Aside0.mk (Gq hg HB.out); have GE101 := Aside0.mk (Gq hg HB.out); replace HB := Aside0.mk (below_step (Vq HB.out) hb); clear hb hbox hg) | ((with_reducible refine gate_dst (N := 4) rfl ?_); refine box_ev (cs := #[.bool false, .slice none 0 0, .slice none 0 0]) (t := 28) ?_; intro gb102 hg w54 hbox hb; have BK102 := Aside0.mk (hbox); have GW102 := Aside0.mk (Gq hg HB.out); have GE102 := Aside0.mk (Gq hg HB.out); replace HB := Aside0.mk (below_step (Vq HB.out) hb); have NB101_102 := Aside0.mk ((by rw [hg]; exact Nat.ne_of_lt (blk_lt (g := gb101) (o := .cells #[.bool a0_0, .slice A0_1 l0_1.length c0_1, .slice A0_2 l0_2.length c0_2] 28 (0, 0)) (Bq BK101.out)) : gb101 ≠ gb102)); have NB102_101 := Aside0.mk ((by rw [hg]; exact Nat.ne_of_gt (blk_lt (g := gb101) (o := .cells #[.bool a0_0, .slice A0_1 l0_1.length c0_1, .slice A0_2 l0_2.length c0_2] 28 (0, 0)) (Bq BK101.out)) : gb102 ≠ gb101)); replace BK101 := Aside0.mk (blk_below (g := gb101) (o := .cells #[.bool a0_0, .slice A0_1 l0_1.length c0_1, .slice A0_2 l0_2.length c0_2] 28 (0, 0)) (Bq BK101.out) hb); clear hb hbox hg; have hnb55 := NB101_102.out; have hnc55 := NB102_101.out; obtain ⟨hcz56_0, hcz56_1, hcz56_2, hfz56_0, hfz56_1, hfz56_2⟩ := cz3 BK101.out) | ((with_reducible refine gate_callee (f := 47) rfl ?_); refine goesL_ (some 12) rfl rfl Try.func47 (by kernel_rfl) rfl #[.agg #[.bool a0_0, .slice A0_1 l0_1.length c0_1, .slice A0_2 l0_2.length c0_2]] rfl (by (try simp only [List.map_toArray, List.map_cons, List.map_nil]); first | done | rfl | (simp only [List.length_drop, List.length_take]; rfl)) ?_; (with_reducible refine (spec_ArrayOk.calls k a0_0 _ _ l0_1 _ _ l0_2 false _ ?side1 ?side2 ?side3 ?side4 A3.out).mono ?_); (case side1 => exact Cq (Kd.C_below HR0_1.out HB.out)); (case side2 => exact HC0_1.out); (case side3 => exact Cq (Kd.C_below HR0_2.out HB.out)); (case side4 => exact HC0_2.out); rintro e w57 ⟨rfl, hb⟩; refine ⟨_, rfl, ?_⟩; replace BK101 := Aside0.mk (blk_below (g := gb101) (o := .cells #[.bool a0_0, .slice A0_1 l0_1.length c0_1, .slice A0_2 l0_2.length c0_2] 28 (0, 0)) (Bq BK101.out) hb); replace BK102 := Aside0.mk (blk_below (g := gb102) (o := .cells #[.bool false, .slice none 0 0, .slice none 0 0] 28 (0, 0)) (Bq BK102.out) hb); replace HB := Aside0.mk (below_step (Vq HB.out) hb); (try clear hb); (try clear hb2); (try clear hk); (try clear hi)) | ((with_reducible refine gate_callee (f := 53) rfl ?_); refine goesL_ (some 14) rfl rfl Try.func53 (by kernel_rfl) rfl #[] rfl (by (try simp only [List.map_toArray, List.map_cons, List.map_nil]); first | done | rfl | (simp only [List.length_drop, List.length_take]; rfl)) ?_; (with_reducible refine (spec_l4None.calls  t104 t105 t108 _ A52.out).mono ?_); rintro e w58 ⟨v106, v109, rfl, ho0, ho1, hb⟩; refine ⟨_, rfl, ?_⟩; have HO107 := Aside0.mk (Kd.R_lower ho0 (below_size (Vq HB.out))); have HO110 := Aside0.mk (Kd.R_lower ho1 (below_size (Vq HB.out))); replace BK101 := Aside0.mk (blk_below (g := gb101) (o := .cells #[.bool a0_0, .slice A0_1 l0_1.length c0_1, .slice A0_2 l0_2.length c0_2] 28 (0, 0)) (Bq BK101.out) hb); replace BK102 := Aside0.mk (blk_below (g := gb102) (o := .cells #[.bool false, .slice none 0 0, .slice none 0 0] 28 (0, 0)) (Bq BK102.out) hb); replace HB := Aside0.mk (below_step (Vq HB.out) hb); (try clear hb); (try clear hb2); (try clear hk); (try clear hi); (try clear ho0); (try clear ho1); obtain ⟨hcz59_0, hcz59_1, hcz59_2, hfz59_0, hfz59_1, hfz59_2⟩ := cz3 BK102.out; obtain ⟨Ao60, co60, eo60⟩ := Kd.R_slice HO107.out; subst eo60; obtain ⟨Ao61, co61, eo61⟩ := Kd.R_slice HO110.out; subst eo61))
  refine bodyPost_ret (results_ct rfl _ _ gb102 28 #[.bool t104, .slice Ao60 t105.length co60, .slice Ao61 t108.length co61] (0, 0) _ rfl (by (with_reducible repeat (first | refine blk_drewN ?_ _ | refine blk_drew ?_ | refine blk_alloc ?_ _)); refine blk_put (cs := #[.bool t104, .slice Ao60 t105.length co60, .slice none 0 0]) ?_ 2 _ rfl; (with_reducible repeat (first | refine blk_drewN ?_ _ | refine blk_drew ?_ | refine blk_alloc ?_ _)); refine blk_put (cs := #[.bool t104, .slice none 0 0, .slice none 0 0]) ?_ 1 _ rfl; (with_reducible repeat (first | refine blk_drewN ?_ _ | refine blk_drew ?_ | refine blk_alloc ?_ _)); refine blk_put (cs := #[.bool false, .slice none 0 0, .slice none 0 0]) ?_ 0 _ rfl; (with_reducible repeat (first | refine blk_drewN ?_ _ | refine blk_drew ?_ | refine blk_alloc ?_ _)); exact BK102.out) Try.underlying28 rfl (by kernel_rfl)) rfl ?_
  exact ⟨_, _, by first | rfl | (simp [errW_none, errW_some] <;> rfl) | (simp [*, errW_none, errW_some] <;> rfl), by (with_reducible repeat (first | apply Kd.R_alloc | apply Kd.R_drewN | apply Kd.R_drew)); exact Kd.R_mono (Kd.R_far (p := ⟨gb102, 2, none⟩) (Kd.R_far (p := ⟨gb102, 1, none⟩) (Kd.R_far (p := ⟨gb102, 0, none⟩) (Kd.R_types HO107.out BK102.out (by decide)) (fun _ hk => hk.2) (.bool t104)) (fun _ hk => hk.2) (.slice Ao60 t105.length co60)) (fun _ hk => hk.2) (.slice Ao61 t108.length co61)) (fun _ hk => hk.1), by (with_reducible repeat (first | apply Kd.R_alloc | apply Kd.R_drewN | apply Kd.R_drew)); exact Kd.R_mono (Kd.R_far (p := ⟨gb102, 2, none⟩) (Kd.R_far (p := ⟨gb102, 1, none⟩) (Kd.R_far (p := ⟨gb102, 0, none⟩) (Kd.R_types HO110.out BK102.out (by decide)) (fun _ hk => hk.2) (.bool t104)) (fun _ hk => hk.2) (.slice Ao60 t105.length co60)) (fun _ hk => hk.2) (.slice Ao61 t108.length co61)) (fun _ hk => hk.1), by repeat (first | (with_reducible first | exact HB.out | apply below_alloc | apply pw_below_drewN | apply below_drew1 | refine below_set ?_ GE101.out | refine below_set ?_ GE102.out) | exact HB.out)⟩
/-! ### spec_l5Into: function 55 -/
mutual
def spec_l5Into.j0 : Nat → List Int → List Int → Bool → Bool → List Int → List Int → Bool → List Int → List Int → Option (Bool × List Int × List Int × Int)
 | 0, _, _, _, _, _, _, _, _, _ => none
 | k + 1, x1, x2, x23, x102000, x102001, x102002, x103000, x103001, x103002 => if x23 = true then ((spec_l4None.f).bind fun bt104 => (some (bt104.1, bt104.2.1, bt104.2.2, 4))) else (if (x103002.length : Int) = 1 then (spec_l5Into.j1 k x1 false x102000 x102001 x102002 x103000 x103001 x103002) else ((spec_l3Same.f k x103001 x2).bind fun t111 => (spec_l5Into.j1 k x1 (!t111) x102000 x102001 x102002 x103000 x103001 x103002)))
def spec_l5Into.j1 : Nat → List Int → Bool → Bool → List Int → List Int → Bool → List Int → List Int → Option (Bool × List Int × List Int × Int)
 | 0, _, _, _, _, _, _, _, _ => none
 | k + 1, x1, x35, x102000, x102001, x102002, x103000, x103001, x103002 => if x35 = true then ((spec_l4None.f).bind fun bt112 => (some (bt112.1, bt112.2.1, bt112.2.2, 5))) else (if (x102000 != x103000) = true then ((spec_l4None.f).bind fun bt119 => (some (bt119.1, bt119.2.1, bt119.2.2, 3))) else ((spec_l3Copy.f x102000 x102001 x102002).bind fun bt126 => (spec_l5Into.l0 k x1 0 x103000 x103001 x103002 bt126.1 bt126.2.1 bt126.2.2)))
def spec_l5Into.l0 : Nat → List Int → Int → Bool → List Int → List Int → Bool → List Int → List Int → Option (Bool × List Int × List Int × Int)
 | 0, _, _, _, _, _, _, _, _ => none
 | k + 1, x1, x11, x103000, x103001, x103002, x134000, x134001, x134002 => if x11 < (x1.length : Int) then (if 0 ≤ x11 then (if (x103002.length : Int) = 0 then (none) else (if 0 ≤ (Int.tmod x11 (x103002.length : Int)) then (if (Int.tmod x11 (x103002.length : Int)) < (x103002.length : Int) then (if 0 ≤ (rd x1 x11) then (if (rd x1 x11) < (x134002.length : Int) then (spec_l5Into.l0 k x1 (wrap64 (x11 + 1)) x103000 x103001 x103002 x134000 x134001 (x134002.set ((rd x1 x11) : Int).toNat (rd x103002 (Int.tmod x11 (x103002.length : Int))))) else (none)) else (none)) else (none)) else (none))) else (none)) else (some (x134000, x134001, x134002, 0))
end
def spec_l5Into.f (k : Nat) (a0_0 : Bool) (l0_1 : List Int) (l0_2 : List Int) (l1 : List Int) (l2 : List Int) (a3_0 : Bool) (l3_1 : List Int) (l3_2 : List Int) : Option (Bool × List Int × List Int × Int) := if (l3_2.length : Int) = 1 then (spec_l5Into.j0 k l1 l2 false a0_0 l0_1 l0_2 a3_0 l3_1 l3_2) else (spec_l5Into.j0 k l1 l2 ((l3_1.length : Int) != (l2.length : Int)) a0_0 l0_1 l0_2 a3_0 l3_1 l3_2)
theorem spec_l5Into.mono_l : ∀ k, (∀ y0 y1 y2 y3 y4 y5 y6 y7 y8, LeO (spec_l5Into.j0 k y0 y1 y2 y3 y4 y5 y6 y7 y8) (spec_l5Into.j0 (k + 1) y0 y1 y2 y3 y4 y5 y6 y7 y8)) ∧ (∀ y0 y1 y2 y3 y4 y5 y6 y7, LeO (spec_l5Into.j1 k y0 y1 y2 y3 y4 y5 y6 y7) (spec_l5Into.j1 (k + 1) y0 y1 y2 y3 y4 y5 y6 y7)) ∧ (∀ y0 y1 y2 y3 y4 y5 y6 y7, LeO (spec_l5Into.l0 k y0 y1 y2 y3 y4 y5 y6 y7) (spec_l5Into.l0 (k + 1) y0 y1 y2 y3 y4 y5 y6 y7))
 | 0 => ⟨fun _ _ _ _ _ _ _ _ _ r h => by simp [spec_l5Into.j0] at h, fun _ _ _ _ _ _ _ _ r h => by simp [spec_l5Into.j1] at h, fun _ _ _ _ _ _ _ _ r h => by simp [spec_l5Into.l0] at h⟩
 | k + 1 => by
  obtain ⟨ih0, ih1, ih2⟩ := spec_l5Into.mono_l k
  refine ⟨?_, ?_, ?_⟩
  case' refine_1 => (intro y0 y1 y2 y3 y4 y5 y6 y7 y8; unfold spec_l5Into.j0)
  case' refine_2 => (intro y0 y1 y2 y3 y4 y5 y6 y7; unfold spec_l5Into.j1)
  case' refine_3 => (intro y0 y1 y2 y3 y4 y5 y6 y7; unfold spec_l5Into.l0)
  all_goals
   repeat' first
   | (with_reducible exact ih0 _ _ _ _ _ _ _ _ _)
   | (with_reducible exact ih1 _ _ _ _ _ _ _ _)
   | (with_reducible exact ih2 _ _ _ _ _ _ _ _)
   | (with_reducible exact spec_l3Same.mono _ _ _)
   | (with_reducible exact LeO.refl _)
   | (with_reducible exact LeO.none _)
   | (with_reducible refine LeO.ite ?_ ?_)
   | (with_reducible refine LeO.bind ?_ (fun _ => ?_))
   | exact ih0 _ _ _ _ _ _ _ _ _
   | exact ih1 _ _ _ _ _ _ _ _
   | exact ih2 _ _ _ _ _ _ _ _
   | exact spec_l3Same.mono _ _ _
   | exact LeO.none _
   | refine LeO.ite ?_ ?_
   | refine LeO.bind ?_ (fun _ => ?_)
theorem spec_l5Into.mono : ∀ a0 a1 a2 a3 a4 a5 a6 a7 k, LeO (spec_l5Into.f k a0 a1 a2 a3 a4 a5 a6 a7) (spec_l5Into.f (k + 1) a0 a1 a2 a3 a4 a5 a6 a7) := by
 intro a0 a1 a2 a3 a4 a5 a6 a7 k
 obtain ⟨ih0, ih1, ih2⟩ := spec_l5Into.mono_l k
 unfold spec_l5Into.f
 repeat' first
  | (with_reducible exact ih0 _ _ _ _ _ _ _ _ _)
  | (with_reducible exact ih1 _ _ _ _ _ _ _ _)
  | (with_reducible exact ih2 _ _ _ _ _ _ _ _)
  | (with_reducible exact spec_l3Same.mono _ _ _)
  | (with_reducible exact LeO.refl _)
  | (with_reducible exact LeO.none _)
  | (with_reducible refine LeO.ite ?_ ?_)
  | (with_reducible refine LeO.bind ?_ (fun _ => ?_))
  | exact ih0 _ _ _ _ _ _ _ _ _
  | exact ih1 _ _ _ _ _ _ _ _
  | exact ih2 _ _ _ _ _ _ _ _
  | exact spec_l3Same.mono _ _ _
  | exact LeO.none _
  | refine LeO.ite ?_ ?_
  | refine LeO.bind ?_ (fun _ => ?_)
/-! ### spec_Replace: function 17 -/
def spec_Replace.j0 : Nat → List (S66) → Bool → Bool → List Int → List Int → Bool → List Int → List Int → Option (Bool × List Int × List Int × Int)
 | 0, _, _, _, _, _, _, _, _ => none
 | k + 1, x1, x18, x102000, x102001, x102002, x103000, x103001, x103002 => if x18 = true then ((spec_l4None.f).bind fun bt106 => (some (bt106.1, bt106.2.1, bt106.2.2, 3))) else ((spec_l5Where.f k x102000 x102001 x102002 x1).bind fun bt113 => (if bt113.2.2 = 0 then ((spec_l5Into.f k x102000 x102001 x102002 bt113.1 bt113.2.1 x103000 x103001 x103002).bind fun bt120 => (some (bt120.1, bt120.2.1, bt120.2.2.1, bt120.2.2.2))) else ((spec_l4None.f).bind fun bt128 => (some (bt128.1, bt128.2.1, bt128.2.2, bt113.2.2)))))
def spec_Replace.f (k : Nat) (a0_0 : Bool) (l0_1 : List Int) (l0_2 : List Int) (l1 : List (S66)) (a2_0 : Bool) (l2_1 : List Int) (l2_2 : List Int) : Option (Bool × List Int × List Int × Int) := (spec_ArrayOk.f k a0_0 l0_1 l0_2).bind fun t104 => (if t104 = true then ((spec_ArrayOk.f k a2_0 l2_1 l2_2).bind fun t105 => (spec_Replace.j0 k l1 (!t105) a0_0 l0_1 l0_2 a2_0 l2_1 l2_2)) else (spec_Replace.j0 k l1 true a0_0 l0_1 l0_2 a2_0 l2_1 l2_2))
theorem spec_Replace.mono_l : ∀ k, (∀ y0 y1 y2 y3 y4 y5 y6 y7, LeO (spec_Replace.j0 k y0 y1 y2 y3 y4 y5 y6 y7) (spec_Replace.j0 (k + 1) y0 y1 y2 y3 y4 y5 y6 y7))
 | 0 => fun _ _ _ _ _ _ _ _ r h => by simp [spec_Replace.j0] at h
 | k + 1 => by
  have ih0 := spec_Replace.mono_l k
  ·intro y0 y1 y2 y3 y4 y5 y6 y7
   unfold spec_Replace.j0
   repeat' first
   | (with_reducible exact ih0 _ _ _ _ _ _ _ _)
   | (with_reducible exact spec_ArrayOk.mono _ _ _ _)
   | (with_reducible exact spec_l5Into.mono _ _ _ _ _ _ _ _ _)
   | (with_reducible exact spec_l5Where.mono _ _ _ _ _)
   | (with_reducible exact LeO.refl _)
   | (with_reducible exact LeO.none _)
   | (with_reducible refine LeO.ite ?_ ?_)
   | (with_reducible refine LeO.bind ?_ (fun _ => ?_))
   | exact ih0 _ _ _ _ _ _ _ _
   | exact spec_ArrayOk.mono _ _ _ _
   | exact spec_l5Into.mono _ _ _ _ _ _ _ _ _
   | exact spec_l5Where.mono _ _ _ _ _
   | exact LeO.none _
   | refine LeO.ite ?_ ?_
   | refine LeO.bind ?_ (fun _ => ?_)
theorem spec_Replace.mono : ∀ a0 a1 a2 a3 a4 a5 a6 k, LeO (spec_Replace.f k a0 a1 a2 a3 a4 a5 a6) (spec_Replace.f (k + 1) a0 a1 a2 a3 a4 a5 a6) := by
 intro a0 a1 a2 a3 a4 a5 a6 k
 have ih0 := spec_Replace.mono_l k
 unfold spec_Replace.f
 repeat' first
  | (with_reducible exact ih0 _ _ _ _ _ _ _ _)
  | (with_reducible exact spec_ArrayOk.mono _ _ _ _)
  | (with_reducible exact spec_l5Into.mono _ _ _ _ _ _ _ _ _)
  | (with_reducible exact spec_l5Where.mono _ _ _ _ _)
  | (with_reducible exact LeO.refl _)
  | (with_reducible exact LeO.none _)
  | (with_reducible refine LeO.ite ?_ ?_)
  | (with_reducible refine LeO.bind ?_ (fun _ => ?_))
  | exact ih0 _ _ _ _ _ _ _ _
  | exact spec_ArrayOk.mono _ _ _ _
  | exact spec_l5Into.mono _ _ _ _ _ _ _ _ _
  | exact spec_l5Where.mono _ _ _ _ _
  | exact LeO.none _
  | refine LeO.ite ?_ ?_
  | refine LeO.bind ?_ (fun _ => ?_)
/-! ### impl_Array_nothing: function 117 -/
def impl_Array_nothing.f (a0_0 : Bool) (l0_1 : List Int) (l0_2 : List Int) : Option (Bool) := if a0_0 = true then (some false) else (if (l0_1.length : Int) = 0 then (some ((l0_2.length : Int) == 0)) else (some false))
set_option maxHeartbeats 8000000 in
set_option maxRecDepth 100000 in
theorem impl_Array_nothing.calls (a0_0 : Bool) (A0_1 : Option Addr) (c0_1 : Nat) (l0_1 : List Int) (A0_2 : Option Addr) (c0_2 : Nat) (l0_2 : List Int) (r : Bool) (w : World) (hr0_1 : Kd.C (Kd.int .i64) w A0_1 l0_1.length l0_1) (hc0_1 : l0_1.length ≤ c0_1) (hr0_2 : Kd.C (Kd.int .i64) w A0_2 l0_2.length l0_2) (hc0_2 : l0_2.length ≤ c0_2) (h : impl_Array_nothing.f a0_0 l0_1 l0_2 = some r) :
 Calls Try.prog 117 #[.agg #[.bool a0_0, .slice A0_1 l0_1.length c0_1, .slice A0_2 l0_2.length c0_2]] w fun e w' => e = .returned (.bool r) ∧ Below w.heap.size w w' := by
 have hu28 := Try.underlying28
 have HR0_1 := Aside0.mk hr0_1
 have HC0_1 := Aside0.mk hc0_1
 clear hr0_1 hc0_1
 have HR0_2 := Aside0.mk hr0_2
 have HC0_2 := Aside0.mk hc0_2
 clear hr0_2 hc0_2
 have HB := Aside0.mk (Below.refl w.heap.size w)
 have H : (if a0_0 = true then (some false) else (if (l0_1.length : Int) = 0 then (some ((l0_2.length : Int) == 0)) else (some false))) = some r := h
 clear h
 by_cases c2 : a0_0 = true
 ·subst c2
  have H1 : (some false) = some r := by rw [if_pos rfl] at H; exact H
  clear H
  have H := H1
  clear H1
  obtain rfl := Option.some.inj H
  go_enter Try.func117, Try.ntmps117
  go_wp2_with (first | ((with_reducible refine gate_dst (N := 1) rfl ?_); (try (refine gate_guard (by rfl) ?_; dsimp only)); refine box_ev (cs := #[.bool true, .slice A0_1 l0_1.length c0_1, .slice A0_2 l0_2.length c0_2]) (t := 28) ?_; intro gb101 hg w3 hbox hb; have BK101 := Aside0.mk (hbox); have GW101 := Aside0.mk (Gq hg HB.out); have GE101 := Aside0.mk (Gq hg HB.out); replace HB := Aside0.mk (below_step (Vq HB.out) hb); clear hb hbox hg; obtain ⟨hcz4_0, hcz4_1, hcz4_2, hfz4_0, hfz4_1, hfz4_2⟩ := cz3 BK101.out))
  go_ret
  exact ⟨by first | rfl | (simp [errW_none, errW_some] <;> rfl) | (simp [*, errW_none, errW_some] <;> rfl), by repeat (first | (with_reducible first | exact HB.out | apply below_alloc | apply pw_below_drewN | apply below_drew1 | refine below_set ?_ GE101.out) | exact HB.out)⟩
 ·replace c2 := Bool.eq_false_iff.mpr c2
  subst c2
  have H1 : (if (l0_1.length : Int) = 0 then (some ((l0_2.length : Int) == 0)) else (some false)) = some r := by rw [if_neg (show ¬ (false = true) by decide)] at H; exact H
  clear H
  have H := H1
  clear H1
  by_cases c5 : (l0_1.length : Int) = 0
  ·rw [if_pos c5] at H
   have c5b0 : ((l0_1.length : Int) == 0) = true := beq_iff_eq.mpr c5
   have c5b1 : ((l0_1.length : Int) != 0) = false := bne_eq_false_iff_eq.mpr c5
   clear c5
   obtain rfl := Option.some.inj H
   go_enter Try.func117, Try.ntmps117
   go_wp2_with (first | ((with_reducible refine gate_dst (N := 1) rfl ?_); (try (refine gate_guard (by rfl) ?_; dsimp only)); refine box_ev (cs := #[.bool false, .slice A0_1 l0_1.length c0_1, .slice A0_2 l0_2.length c0_2]) (t := 28) ?_; intro gb101 hg w6 hbox hb; have BK101 := Aside0.mk (hbox); have GW101 := Aside0.mk (Gq hg HB.out); have GE101 := Aside0.mk (Gq hg HB.out); replace HB := Aside0.mk (below_step (Vq HB.out) hb); clear hb hbox hg; obtain ⟨hcz7_0, hcz7_1, hcz7_2, hfz7_0, hfz7_1, hfz7_2⟩ := cz3 BK101.out))
   go_ret
   exact ⟨by first | rfl | (simp [errW_none, errW_some] <;> rfl) | (simp [*, errW_none, errW_some] <;> rfl), by repeat (first | (with_reducible first | exact HB.out | apply below_alloc | apply pw_below_drewN | apply below_drew1 | refine below_set ?_ GE101.out) | exact HB.out)⟩
  ·rw [if_neg c5] at H
   have c5b0 : ((l0_1.length : Int) == 0) = false := beq_eq_false_iff_ne.mpr c5
   have c5b1 : ((l0_1.length : Int) != 0) = true := bne_iff_ne.mpr c5
   have c5b2 : ¬ (l0_1 = []) := fun h_ => c5 (by rw [h_]; rfl)
   obtain rfl := Option.some.inj H
   go_enter Try.func117, Try.ntmps117
   go_wp2_with (first | ((with_reducible refine gate_dst (N := 1) rfl ?_); (try (refine gate_guard (by rfl) ?_; dsimp only)); refine box_ev (cs := #[.bool false, .slice A0_1 l0_1.length c0_1, .slice A0_2 l0_2.length c0_2]) (t := 28) ?_; intro gb101 hg w8 hbox hb; have BK101 := Aside0.mk (hbox); have GW101 := Aside0.mk (Gq hg HB.out); have GE101 := Aside0.mk (Gq hg HB.out); replace HB := Aside0.mk (below_step (Vq HB.out) hb); clear hb hbox hg; obtain ⟨hcz9_0, hcz9_1, hcz9_2, hfz9_0, hfz9_1, hfz9_2⟩ := cz3 BK101.out))
   go_ret
   exact ⟨by first | rfl | (simp [errW_none, errW_some] <;> rfl) | (simp [*, errW_none, errW_some] <;> rfl), by repeat (first | (with_reducible first | exact HB.out | apply below_alloc | apply pw_below_drewN | apply below_drew1 | refine below_set ?_ GE101.out) | exact HB.out)⟩
/-! ### laws_toPart: function 57 -/
def laws_toPart.f (k : Nat) (a0_0 : Bool) (a0_1 : Bool) (l0_2 : List Int) (l0_3 : List Int) : Option (Bool × Bool × List Int × List Int) := (laws_toArray.f k a0_1 l0_2 l0_3).bind fun bt104 => (some (a0_0, bt104.1, bt104.2.1, bt104.2.2))
theorem laws_toPart.mono : ∀ a0 a1 a2 a3 k, LeO (laws_toPart.f k a0 a1 a2 a3) (laws_toPart.f (k + 1) a0 a1 a2 a3) := by
 intro a0 a1 a2 a3 k
 unfold laws_toPart.f
 repeat' first
  | (with_reducible exact laws_toArray.mono _ _ _ _)
  | (with_reducible exact LeO.refl _)
  | (with_reducible exact LeO.none _)
  | (with_reducible refine LeO.ite ?_ ?_)
  | (with_reducible refine LeO.bind ?_ (fun _ => ?_))
  | exact laws_toArray.mono _ _ _ _
  | exact LeO.none _
  | refine LeO.ite ?_ ?_
  | refine LeO.bind ?_ (fun _ => ?_)
set_option maxHeartbeats 8000000 in
set_option maxRecDepth 100000 in
theorem laws_toPart.calls (k : Nat) (a0_0 : Bool) (a0_1 : Bool) (A0_2 : Option Addr) (c0_2 : Nat) (l0_2 : List Int) (A0_3 : Option Addr) (c0_3 : Nat) (l0_3 : List Int) (r1 : Bool) (r2 : Bool) (r3 : List Int) (r4 : List Int) (w : World) (hr0_2 : Kd.C (Kd.int .i64) w A0_2 l0_2.length l0_2) (hc0_2 : l0_2.length ≤ c0_2) (hr0_3 : Kd.C (Kd.int .i64) w A0_3 l0_3.length l0_3) (hc0_3 : l0_3.length ≤ c0_3) (h : laws_toPart.f k a0_0 a0_1 l0_2 l0_3 = some (r1, r2, r3, r4)) :
 Calls Try.prog 57 #[.agg #[.bool a0_0, .bool a0_1, .slice A0_2 l0_2.length c0_2, .slice A0_3 l0_3.length c0_3]] w fun e w' => ∃ v2_ v3_ : Value, e = .returned (.agg #[.bool r1, .bool r2, v2_, v3_]) ∧ Kd.R (Kd.int .i64) 3 w' w.heap.size (fun k_ => some k_ ≠ (v3_ : Value).ownBlock) v2_ r3 ∧ Kd.R (Kd.int .i64) 3 w' w.heap.size (fun k_ => some k_ ≠ (v2_ : Value).ownBlock) v3_ r4 ∧ Below w.heap.size w w' := by
 have hu59 := Try.underlying59
 have hu66 := Try.underlying66
 have hu24 := Try.underlying24
 have hu28 := Try.underlying28
 have HR0_2 := Aside0.mk hr0_2
 have HC0_2 := Aside0.mk hc0_2
 clear hr0_2 hc0_2
 have HR0_3 := Aside0.mk hr0_3
 have HC0_3 := Aside0.mk hc0_3
 clear hr0_3 hc0_3
 have HB := Aside0.mk (Below.refl w.heap.size w)
 have H : ((laws_toArray.f k a0_1 l0_2 l0_3).bind fun bt104 => (some (a0_0, bt104.1, bt104.2.1, bt104.2.2))) = some (r1, r2, r3, r4) := h
 clear h
 replace H := Option.bind_eq_some_iff.mp H
 obtain ⟨⟨t104, t105, t108⟩, A20, H⟩ := H
 replace H : (some (a0_0, t104, t105, t108)) = some (r1, r2, r3, r4) := H
 have A2 := Aside0.mk A20
 clear A20
 simp only [Option.some.injEq, Prod.mk.injEq] at H
 obtain ⟨rfl, rfl, rfl, rfl⟩ := H
 go_enter Try.func57, Try.ntmps57
 go_wp2_with (first | ((with_reducible refine gate_dst (N := 1) rfl ?_); refine box_ev (cs := #[.bool a0_0, .bool a0_1, .slice A0_2 l0_2.length c0_2, .slice A0_3 l0_3.length c0_3]) (t := 59) ?_; intro gb101 hg w3 hbox hb; have BK101 := Aside0.mk (hbox); have GW101 := Aside0.mk (Gq hg HB.out); have GE101 := Aside0.mk (Gq hg HB.out); replace HB := Aside0.mk (below_step (Vq HB.out) hb); clear hb hbox hg) | ((with_reducible refine gate_dst (N := 2) rfl ?_); refine box_ev (cs := #[.bool false, .bool false, .slice none 0 0, .slice none 0 0]) (t := 66) ?_; intro gb102 hg w4 hbox hb; have BK102 := Aside0.mk (hbox); have GW102 := Aside0.mk (Gq hg HB.out); have GE102 := Aside0.mk (Gq hg HB.out); replace HB := Aside0.mk (below_step (Vq HB.out) hb); have NB101_102 := Aside0.mk ((by rw [hg]; exact Nat.ne_of_lt (blk_lt (g := gb101) (o := .cells #[.bool a0_0, .bool a0_1, .slice A0_2 l0_2.length c0_2, .slice A0_3 l0_3.length c0_3] 59 (0, 0)) (Bq BK101.out)) : gb101 ≠ gb102)); have NB102_101 := Aside0.mk ((by rw [hg]; exact Nat.ne_of_gt (blk_lt (g := gb101) (o := .cells #[.bool a0_0, .bool a0_1, .slice A0_2 l0_2.length c0_2, .slice A0_3 l0_3.length c0_3] 59 (0, 0)) (Bq BK101.out)) : gb102 ≠ gb101)); replace BK101 := Aside0.mk (blk_below (g := gb101) (o := .cells #[.bool a0_0, .bool a0_1, .slice A0_2 l0_2.length c0_2, .slice A0_3 l0_3.length c0_3] 59 (0, 0)) (Bq BK101.out) hb); clear hb hbox hg) | ((with_reducible refine gate_dst (N := 3) rfl ?_); refine box_ev (cs := #[.bool false, .bool false, .slice none 0 0, .slice none 0 0]) (t := 66) ?_; intro gb103 hg w5 hbox hb; have BK103 := Aside0.mk (hbox); have GW103 := Aside0.mk (Gq hg HB.out); have GE103 := Aside0.mk (Gq hg HB.out); replace HB := Aside0.mk (below_step (Vq HB.out) hb); have NB101_103 := Aside0.mk ((by rw [hg]; exact Nat.ne_of_lt (blk_lt (g := gb101) (o := .cells #[.bool a0_0, .bool a0_1, .slice A0_2 l0_2.length c0_2, .slice A0_3 l0_3.length c0_3] 59 (0, 0)) (Bq BK101.out)) : gb101 ≠ gb103)); have NB103_101 := Aside0.mk ((by rw [hg]; exact Nat.ne_of_gt (blk_lt (g := gb101) (o := .cells #[.bool a0_0, .bool a0_1, .slice A0_2 l0_2.length c0_2, .slice A0_3 l0_3.length c0_3] 59 (0, 0)) (Bq BK101.out)) : gb103 ≠ gb101)); replace BK101 := Aside0.mk (blk_below (g := gb101) (o := .cells #[.bool a0_0, .bool a0_1, .slice A0_2 l0_2.length c0_2, .slice A0_3 l0_3.length c0_3] 59 (0, 0)) (Bq BK101.out) hb); have NB102_103 := Aside0.mk ((by rw [hg]; exact Nat.ne_of_lt (blk_lt (g := gb102) (o := .cells #[.bool false, .bool false, .slice none 0 0, .slice none 0 0] 66 (0, 0)) (Bq BK102.out)) : gb102 ≠ gb103)); have NB103_102 := Aside0.mk ((by rw [hg]; exact Nat.ne_of_gt (blk_lt (g := gb102) (o := .cells #[.bool false, .bool false, .slice none 0 0, .slice none 0 0] 66 (0, 0)) (Bq BK102.out)) : gb103 ≠ gb102)); replace BK102 := Aside0.mk (blk_below (g := gb102) (o := .cells #[.bool false, .bool false, .slice none 0 0, .slice none 0 0] 66 (0, 0)) (Bq BK102.out) hb); clear hb hbox hg; have hnb6 := NB101_102.out; have hnc6 := NB102_101.out; have hnb7 := NB101_103.out; have hnc7 := NB103_101.out; obtain ⟨hcz8_0, hcz8_1, hcz8_2, hcz8_3, hfz8_0, hfz8_1, hfz8_2, hfz8_3⟩ := cz4 BK101.out; have hnb9 := NB103_102.out; have hnc9 := NB102_103.out; obtain ⟨hcz10_0, hcz10_1, hcz10_2, hcz10_3, hfz10_0, hfz10_1, hfz10_2, hfz10_3⟩ := cz4 BK103.out) | ((with_reducible refine gate_callee (f := 18) rfl ?_); refine goesL_ (some 9) rfl rfl Try.func18 (by kernel_rfl) rfl #[.agg #[.bool a0_1, .slice A0_2 l0_2.length c0_2, .slice A0_3 l0_3.length c0_3]] rfl (by (try simp only [List.map_toArray, List.map_cons, List.map_nil]); first | done | rfl | (simp only [List.length_drop, List.length_take]; rfl)) ?_; (with_reducible refine (laws_toArray.calls k a0_1 _ _ l0_2 _ _ l0_3 t104 t105 t108 _ ?side1 ?side2 ?side3 ?side4 A2.out).mono ?_); (case side1 => exact Kd.C_below HR0_2.out (Vq HB.out)); (case side2 => exact HC0_2.out); (case side3 => exact Kd.C_below HR0_3.out (Vq HB.out)); (case side4 => exact HC0_3.out); rintro e w11 ⟨v106, v109, rfl, ho0, ho1, hb⟩; refine ⟨_, rfl, ?_⟩; have HO107 := Aside0.mk (Kd.R_lower ho0 (below_size (Vq HB.out))); have HO110 := Aside0.mk (Kd.R_lower ho1 (below_size (Vq HB.out))); replace BK101 := Aside0.mk (blk_below (g := gb101) (o := .cells #[.bool a0_0, .bool a0_1, .slice A0_2 l0_2.length c0_2, .slice A0_3 l0_3.length c0_3] 59 (0, 0)) (by (with_reducible repeat (first | refine blk_drewN ?_ _ | refine blk_drew ?_ | refine blk_alloc ?_ _)); refine blk_far ?_ NB101_103.out _; (with_reducible repeat (first | refine blk_drewN ?_ _ | refine blk_drew ?_ | refine blk_alloc ?_ _)); exact BK101.out) hb); replace BK102 := Aside0.mk (blk_below (g := gb102) (o := .cells #[.bool false, .bool false, .slice none 0 0, .slice none 0 0] 66 (0, 0)) (by (with_reducible repeat (first | refine blk_drewN ?_ _ | refine blk_drew ?_ | refine blk_alloc ?_ _)); refine blk_far ?_ NB102_103.out _; (with_reducible repeat (first | refine blk_drewN ?_ _ | refine blk_drew ?_ | refine blk_alloc ?_ _)); exact BK102.out) hb); replace BK103 := Aside0.mk (blk_below (g := gb103) (o := .cells #[.bool a0_0, .bool false, .slice none 0 0, .slice none 0 0] 66 (0, 0)) (by (with_reducible repeat (first | refine blk_drewN ?_ _ | refine blk_drew ?_ | refine blk_alloc ?_ _)); refine blk_put (cs := #[.bool false, .bool false, .slice none 0 0, .slice none 0 0]) ?_ 0 _ rfl; (with_reducible repeat (first | refine blk_drewN ?_ _ | refine blk_drew ?_ | refine blk_alloc ?_ _)); exact BK103.out) hb); replace HB := Aside0.mk (below_step (Vq HB.out) hb); (try clear hb); (try clear hb2); (try clear hk); (try clear hi); (try clear ho0); (try clear ho1); obtain ⟨hcz12_0, hcz12_1, hcz12_2, hcz12_3, hfz12_0, hfz12_1, hfz12_2, hfz12_3⟩ := cz4 BK103.out; obtain ⟨Ao13, co13, eo13⟩ := Kd.R_slice HO107.out; subst eo13; obtain ⟨Ao14, co14, eo14⟩ := Kd.R_slice HO110.out; subst eo14; obtain ⟨hcz15_0, hcz15_1, hcz15_2, hcz15_3, hfz15_0, hfz15_1, hfz15_2, hfz15_3⟩ := cz4 BK102.out))
 refine bodyPost_ret (results_cell_row rfl _ _ gb102 66 #[.bool a0_0, .bool t104, .slice Ao13 t105.length co13, .slice Ao14 t108.length co14] (0, 0) _ rfl (by (with_reducible repeat (first | refine blk_drewN ?_ _ | refine blk_drew ?_ | refine blk_alloc ?_ _)); refine blk_put (cs := #[.bool a0_0, .bool t104, .slice Ao13 t105.length co13, .slice none 0 0]) ?_ 3 _ rfl; (with_reducible repeat (first | refine blk_drewN ?_ _ | refine blk_drew ?_ | refine blk_alloc ?_ _)); refine blk_put (cs := #[.bool a0_0, .bool t104, .slice none 0 0, .slice none 0 0]) ?_ 2 _ rfl; (with_reducible repeat (first | refine blk_drewN ?_ _ | refine blk_drew ?_ | refine blk_alloc ?_ _)); refine blk_put (cs := #[.bool a0_0, .bool false, .slice none 0 0, .slice none 0 0]) ?_ 1 _ rfl; (with_reducible repeat (first | refine blk_drewN ?_ _ | refine blk_drew ?_ | refine blk_alloc ?_ _)); refine blk_put (cs := #[.bool false, .bool false, .slice none 0 0, .slice none 0 0]) ?_ 0 _ rfl; (with_reducible repeat (first | refine blk_drewN ?_ _ | refine blk_drew ?_ | refine blk_alloc ?_ _)); refine blk_far ?_ NB102_103.out _; (with_reducible repeat (first | refine blk_drewN ?_ _ | refine blk_drew ?_ | refine blk_alloc ?_ _)); refine blk_far ?_ NB102_103.out _; (with_reducible repeat (first | refine blk_drewN ?_ _ | refine blk_drew ?_ | refine blk_alloc ?_ _)); refine blk_far ?_ NB102_103.out _; (with_reducible repeat (first | refine blk_drewN ?_ _ | refine blk_drew ?_ | refine blk_alloc ?_ _)); exact BK102.out) Try.underlying66 rfl (by kernel_rfl)) rfl ?_
 exact ⟨_, _, by first | rfl | (simp [errW_none, errW_some] <;> rfl) | (simp [*, errW_none, errW_some] <;> rfl), by (with_reducible repeat (first | apply Kd.R_alloc | apply Kd.R_drewN | apply Kd.R_drew)); exact Kd.R_mono (Kd.R_far (p := ⟨gb102, 3, none⟩) (Kd.R_far (p := ⟨gb102, 2, none⟩) (Kd.R_far (p := ⟨gb102, 1, none⟩) (Kd.R_far (p := ⟨gb102, 0, none⟩) (Kd.R_far (p := ⟨gb103, 3, none⟩) (Kd.R_far (p := ⟨gb103, 2, none⟩) (Kd.R_far (p := ⟨gb103, 1, none⟩) (Kd.R_types (Kd.R_types HO107.out BK103.out (by decide)) BK102.out (by decide)) (fun _ hk => hk.1.2) (.bool t104)) (fun _ hk => hk.1.2) (.slice Ao13 t105.length co13)) (fun _ hk => hk.1.2) (.slice Ao14 t108.length co14)) (fun _ hk => hk.2) (.bool a0_0)) (fun _ hk => hk.2) (.bool t104)) (fun _ hk => hk.2) (.slice Ao13 t105.length co13)) (fun _ hk => hk.2) (.slice Ao14 t108.length co14)) (fun _ hk => hk.1.1), by (with_reducible repeat (first | apply Kd.R_alloc | apply Kd.R_drewN | apply Kd.R_drew)); exact Kd.R_mono (Kd.R_far (p := ⟨gb102, 3, none⟩) (Kd.R_far (p := ⟨gb102, 2, none⟩) (Kd.R_far (p := ⟨gb102, 1, none⟩) (Kd.R_far (p := ⟨gb102, 0, none⟩) (Kd.R_far (p := ⟨gb103, 3, none⟩) (Kd.R_far (p := ⟨gb103, 2, none⟩) (Kd.R_far (p := ⟨gb103, 1, none⟩) (Kd.R_types (Kd.R_types HO110.out BK103.out (by decide)) BK102.out (by decide)) (fun _ hk => hk.1.2) (.bool t104)) (fun _ hk => hk.1.2) (.slice Ao13 t105.length co13)) (fun _ hk => hk.1.2) (.slice Ao14 t108.length co14)) (fun _ hk => hk.2) (.bool a0_0)) (fun _ hk => hk.2) (.bool t104)) (fun _ hk => hk.2) (.slice Ao13 t105.length co13)) (fun _ hk => hk.2) (.slice Ao14 t108.length co14)) (fun _ hk => hk.1.1), by repeat (first | (with_reducible first | exact HB.out | apply below_alloc | apply pw_below_drewN | apply below_drew1 | refine below_set ?_ GE101.out | refine below_set ?_ GE102.out | refine below_set ?_ GE103.out) | exact HB.out)⟩
/-! ### laws_szPart: function 52 -/
def laws_szPart.f (a0_0 : Bool) (a0_1 : Bool) (l0_2 : List Int) (l0_3 : List Int) (a1 : Int) : Option (Int) := (laws_szArray.f a0_1 l0_2 l0_3 a1).bind fun t102 => (if t102 < 0 then (some (-1)) else (some t102))
set_option maxHeartbeats 8000000 in
set_option maxRecDepth 100000 in
theorem laws_szPart.calls (a0_0 : Bool) (a0_1 : Bool) (A0_2 : Option Addr) (c0_2 : Nat) (l0_2 : List Int) (A0_3 : Option Addr) (c0_3 : Nat) (l0_3 : List Int) (a1 : Int) (r : Int) (w : World) (hr0_2 : Kd.C (Kd.int .i64) w A0_2 l0_2.length l0_2) (hc0_2 : l0_2.length ≤ c0_2) (hr0_3 : Kd.C (Kd.int .i64) w A0_3 l0_3.length l0_3) (hc0_3 : l0_3.length ≤ c0_3) (h : laws_szPart.f a0_0 a0_1 l0_2 l0_3 a1 = some r) :
 Calls Try.prog 52 #[.agg #[.bool a0_0, .bool a0_1, .slice A0_2 l0_2.length c0_2, .slice A0_3 l0_3.length c0_3], .int .i64 a1] w fun e w' => e = .returned (.int .i64 r) ∧ Below w.heap.size w w' := by
 have hu59 := Try.underlying59
 have hu24 := Try.underlying24
 have HR0_2 := Aside0.mk hr0_2
 have HC0_2 := Aside0.mk hc0_2
 clear hr0_2 hc0_2
 have HR0_3 := Aside0.mk hr0_3
 have HC0_3 := Aside0.mk hc0_3
 clear hr0_3 hc0_3
 have HB := Aside0.mk (Below.refl w.heap.size w)
 have H : ((laws_szArray.f a0_1 l0_2 l0_3 a1).bind fun t102 => (if t102 < 0 then (some (-1)) else (some t102))) = some r := h
 clear h
 replace H := Option.bind_eq_some_iff.mp H
 obtain ⟨t102, A30, H⟩ := H
 replace H : (if t102 < 0 then (some (-1)) else (some t102)) = some r := H
 have A3 := Aside0.mk A30
 clear A30
 by_cases c4 : t102 < 0
 ·rw [if_pos c4] at H
  have c4b0 : decide (t102 < 0) = true := decide_eq_true c4
  clear c4
  obtain rfl := Option.some.inj H
  go_enter Try.func52, Try.ntmps52
  go_wp2_with (first | ((with_reducible refine gate_dst (N := 2) rfl ?_); refine box_ev (cs := #[.bool a0_0, .bool a0_1, .slice A0_2 l0_2.length c0_2, .slice A0_3 l0_3.length c0_3]) (t := 59) ?_; intro gb101 hg w5 hbox hb; have BK101 := Aside0.mk (hbox); have GW101 := Aside0.mk (Gq hg HB.out); have GE101 := Aside0.mk (Gq hg HB.out); replace HB := Aside0.mk (below_step (Vq HB.out) hb); clear hb hbox hg; obtain ⟨hcz6_0, hcz6_1, hcz6_2, hcz6_3, hfz6_0, hfz6_1, hfz6_2, hfz6_3⟩ := cz4 BK101.out) | ((with_reducible refine gate_callee (f := 15) rfl ?_); refine goesL_ (some 8) rfl rfl Try.func15 (by kernel_rfl) rfl #[.agg #[.bool a0_1, .slice A0_2 l0_2.length c0_2, .slice A0_3 l0_3.length c0_3], .int .i64 a1] rfl (by (try simp only [List.map_toArray, List.map_cons, List.map_nil]); first | done | rfl | (simp only [List.length_drop, List.length_take]; rfl)) ?_; (with_reducible refine (laws_szArray.calls a0_1 _ _ l0_2 _ _ l0_3 a1 t102 _ ?side1 ?side2 ?side3 ?side4 A3.out).mono ?_); (case side1 => exact Cq (Kd.C_below HR0_2.out HB.out)); (case side2 => exact HC0_2.out); (case side3 => exact Cq (Kd.C_below HR0_3.out HB.out)); (case side4 => exact HC0_3.out); rintro e w7 ⟨rfl, hb⟩; refine ⟨_, rfl, ?_⟩; replace BK101 := Aside0.mk (blk_below (g := gb101) (o := .cells #[.bool a0_0, .bool a0_1, .slice A0_2 l0_2.length c0_2, .slice A0_3 l0_3.length c0_3] 59 (0, 0)) (Bq BK101.out) hb); replace HB := Aside0.mk (below_step (Vq HB.out) hb); (try clear hb); (try clear hb2); (try clear hk); (try clear hi)))
  go_ret
  exact ⟨by first | rfl | (simp [errW_none, errW_some] <;> rfl) | (simp [*, errW_none, errW_some] <;> rfl), by repeat (first | (with_reducible first | exact HB.out | apply below_alloc | apply pw_below_drewN | apply below_drew1 | refine below_set ?_ GE101.out) | exact HB.out)⟩
 ·rw [if_neg c4] at H
  have c4b0 : decide (t102 < 0) = false := decide_eq_false c4
  clear c4
  obtain rfl := Option.some.inj H
  go_enter Try.func52, Try.ntmps52
  go_wp2_with (first | ((with_reducible refine gate_dst (N := 2) rfl ?_); refine box_ev (cs := #[.bool a0_0, .bool a0_1, .slice A0_2 l0_2.length c0_2, .slice A0_3 l0_3.length c0_3]) (t := 59) ?_; intro gb101 hg w8 hbox hb; have BK101 := Aside0.mk (hbox); have GW101 := Aside0.mk (Gq hg HB.out); have GE101 := Aside0.mk (Gq hg HB.out); replace HB := Aside0.mk (below_step (Vq HB.out) hb); clear hb hbox hg; obtain ⟨hcz9_0, hcz9_1, hcz9_2, hcz9_3, hfz9_0, hfz9_1, hfz9_2, hfz9_3⟩ := cz4 BK101.out) | ((with_reducible refine gate_callee (f := 15) rfl ?_); refine goesL_ (some 8) rfl rfl Try.func15 (by kernel_rfl) rfl #[.agg #[.bool a0_1, .slice A0_2 l0_2.length c0_2, .slice A0_3 l0_3.length c0_3], .int .i64 a1] rfl (by (try simp only [List.map_toArray, List.map_cons, List.map_nil]); first | done | rfl | (simp only [List.length_drop, List.length_take]; rfl)) ?_; (with_reducible refine (laws_szArray.calls a0_1 _ _ l0_2 _ _ l0_3 a1 t102 _ ?side1 ?side2 ?side3 ?side4 A3.out).mono ?_); (case side1 => exact Cq (Kd.C_below HR0_2.out HB.out)); (case side2 => exact HC0_2.out); (case side3 => exact Cq (Kd.C_below HR0_3.out HB.out)); (case side4 => exact HC0_3.out); rintro e w10 ⟨rfl, hb⟩; refine ⟨_, rfl, ?_⟩; replace BK101 := Aside0.mk (blk_below (g := gb101) (o := .cells #[.bool a0_0, .bool a0_1, .slice A0_2 l0_2.length c0_2, .slice A0_3 l0_3.length c0_3] 59 (0, 0)) (Bq BK101.out) hb); replace HB := Aside0.mk (below_step (Vq HB.out) hb); (try clear hb); (try clear hb2); (try clear hk); (try clear hi)))
  go_ret
  exact ⟨by first | rfl | (simp [errW_none, errW_some] <;> rfl) | (simp [*, errW_none, errW_some] <;> rfl), by repeat (first | (with_reducible first | exact HB.out | apply below_alloc | apply pw_below_drewN | apply below_drew1 | refine below_set ?_ GE101.out) | exact HB.out)⟩
/-! ### laws_szPartS: function 16 -/
def laws_szPartS.l0 : Nat → List (S59) → Int → Int → Option (Int)
 | 0, _, _, _ => none
 | k + 1, x0, x1, x5 => if x5 < (x0.length : Int) then (if 0 ≤ x5 then ((laws_szPart.f ((rd_T59 x0 x5).f0) ((rd_T59 x0 x5).f1.f0) ((rd_T59 x0 x5).f1.f1) ((rd_T59 x0 x5).f1.f2) x1).bind fun t102 => (if t102 < 0 then (some (-1)) else (laws_szPartS.l0 k x0 t102 (wrap64 (x5 + 1))))) else (none)) else (some x1)
def laws_szPartS.f (k : Nat) (l0 : List (S59)) (a1 : Int) : Option (Int) := if (wrap64 (a1 - (l0.length : Int))) < 0 then (some (-1)) else (laws_szPartS.l0 k l0 (wrap64 (a1 - (l0.length : Int))) 0)
theorem laws_szPartS.mono_l : ∀ k, (∀ y0 y1 y2, LeO (laws_szPartS.l0 k y0 y1 y2) (laws_szPartS.l0 (k + 1) y0 y1 y2))
 | 0 => fun _ _ _ r h => by simp [laws_szPartS.l0] at h
 | k + 1 => by
  have ih0 := laws_szPartS.mono_l k
  ·intro y0 y1 y2
   unfold laws_szPartS.l0
   repeat' first
   | (with_reducible exact ih0 _ _ _)
   | (with_reducible exact LeO.refl _)
   | (with_reducible exact LeO.none _)
   | (with_reducible refine LeO.ite ?_ ?_)
   | (with_reducible refine LeO.bind ?_ (fun _ => ?_))
   | exact ih0 _ _ _
   | exact LeO.none _
   | refine LeO.ite ?_ ?_
   | refine LeO.bind ?_ (fun _ => ?_)
theorem laws_szPartS.mono : ∀ a0 a1 k, LeO (laws_szPartS.f k a0 a1) (laws_szPartS.f (k + 1) a0 a1) := by
 intro a0 a1 k
 have ih0 := laws_szPartS.mono_l k
 unfold laws_szPartS.f
 repeat' first
  | (with_reducible exact ih0 _ _ _)
  | (with_reducible exact LeO.refl _)
  | (with_reducible exact LeO.none _)
  | (with_reducible refine LeO.ite ?_ ?_)
  | (with_reducible refine LeO.bind ?_ (fun _ => ?_))
  | exact ih0 _ _ _
  | exact LeO.none _
  | refine LeO.ite ?_ ?_
  | refine LeO.bind ?_ (fun _ => ?_)
set_option maxHeartbeats 8000000 in
set_option maxRecDepth 100000 in
theorem laws_szPartS.calls (k : Nat) (A0 : Option Addr) (c0 : Nat) (l0 : List (S59)) (a1 : Int) (r : Int) (w : World) (hr0 : Kd.C k59 w A0 l0.length l0) (hc0 : l0.length ≤ c0) (h : laws_szPartS.f k l0 a1 = some r) :
 Calls Try.prog 16 #[.slice A0 l0.length c0, .int .i64 a1] w fun e w' => e = .returned (.int .i64 r) ∧ Below w.heap.size w w' := by
 have hu59 := Try.underlying59
 have HR0 := Aside0.mk hr0
 have HC0 := Aside0.mk hc0
 clear hr0 hc0
 have HB := Aside0.mk (Below.refl w.heap.size w)
 have H : (if (wrap64 (a1 - (l0.length : Int))) < 0 then (some (-1)) else (laws_szPartS.l0 k l0 (wrap64 (a1 - (l0.length : Int))) 0)) = some r := h
 clear h
 by_cases c3 : (wrap64 (a1 - (l0.length : Int))) < 0
 ·rw [if_pos c3] at H
  have c3b0 : decide ((wrap64 (a1 - (l0.length : Int))) < 0) = true := decide_eq_true c3
  clear c3
  obtain rfl := Option.some.inj H
  go_enter Try.func16, Try.ntmps16
  go_wp2
  go_ret
  exact ⟨by first | rfl | (simp [errW_none, errW_some] <;> rfl) | (simp [*, errW_none, errW_some] <;> rfl), by repeat (first | (with_reducible first | exact HB.out | apply below_alloc | apply pw_below_drewN | apply below_drew1) | exact HB.out)⟩
 ·rw [if_neg c3] at H
  have c3b0 : decide ((wrap64 (a1 - (l0.length : Int))) < 0) = false := decide_eq_false c3
  clear c3
  have H' := Aside0.mk H
  clear H
  go_enter Try.func16, Try.ntmps16
  go_wp2
  go_loopg [1, 5] k (fun kq v1 v5 w' => ∃ (x1_1 : Int) (x5_1 : Int), v1 = .int .i64 x1_1 ∧ v5 = .int .i64 x5_1 ∧ Aside0 (laws_szPartS.l0 kq l0 x1_1 x5_1 = some r) ∧ Aside0 (kq ≤ k) ∧ Aside0 (Below w.heap.size w w'))
  case atStart => exact ⟨(wrap64 (a1 - (l0.length : Int))), (0), (by first | rfl | (simp; done) | (simp [*]; done)), (by first | rfl | (simp; done) | (simp [*]; done)), H', ⟨Nat.le_refl _⟩, ⟨Vq HB.out⟩⟩
  case round =>
   clear H'
   (try clear c1); (try clear p2); (try clear c3); (try clear c3b0)
   obtain ⟨x1_1, x5_1, rfl, rfl, HA, HK1, HB⟩ := hrel
   cases gk with
   | zero => exact absurd HA.out (by simp [laws_szPartS.l0])
   | succ k1 =>
    have H := HA.out
    clear HA
    simp only [laws_szPartS.l0] at H
    by_cases c4 : x5_1 < (l0.length : Int)
    ·rw [if_pos c4] at H
     have c4b0 : decide (x5_1 < (l0.length : Int)) = true := decide_eq_true c4
     clear c4
     by_cases c5 : 0 ≤ x5_1
     ·rw [if_pos c5] at H
      have c5b0 : decide (0 ≤ x5_1) = true := decide_eq_true c5
      clear c5
      replace H := Option.bind_eq_some_iff.mp H
      obtain ⟨t102, A60, H⟩ := H
      replace H : (if t102 < 0 then (some (-1)) else (laws_szPartS.l0 k1 l0 t102 (wrap64 (x5_1 + 1)))) = some r := H
      have A6 := Aside0.mk A60
      clear A60
      by_cases c7 : t102 < 0
      ·rw [if_pos c7] at H
       have c7b0 : decide (t102 < 0) = true := decide_eq_true c7
       clear c7
       obtain rfl := Option.some.inj H
       have p101 : 0 ≤ (x5_1 : Int) := Dq
       have q101 : x5_1 < (l0.length : Int) := Dq
       obtain ⟨ad101, A101_2, c101_2, A101_3, c101_3, e101, hx101_0, hx101_1, hx101_2, hx101_3, hl101_2, hi101_2, hl101_3, hi101_3⟩ := at_T59 HR0.out x5_1 p101 q101
       cases e101
       replace hx101_0 := Xq HB.out hx101_0
       replace hx101_1 := Xq HB.out hx101_1
       replace hx101_2 := Xq HB.out hx101_2
       replace hx101_3 := Xq HB.out hx101_3
       have HR101_2 := Aside0.mk hi101_2
       have HC101_2 := Aside0.mk hl101_2
       clear hi101_2 hl101_2
       have HR101_3 := Aside0.mk hi101_3
       have HC101_3 := Aside0.mk hl101_3
       clear hi101_3 hl101_3
       replace p101 := eq_true p101
       replace q101 := eq_true q101
       go_wp2_with (first | ((with_reducible refine gate_callee (f := 52) rfl ?_); refine goesL_ (some 23) rfl rfl Try.func52 (by kernel_rfl) rfl #[.agg #[.bool ((rd_T59 l0 x5_1).f0), .bool ((rd_T59 l0 x5_1).f1.f0), .slice A101_2 ((rd_T59 l0 x5_1).f1.f1).length c101_2, .slice A101_3 ((rd_T59 l0 x5_1).f1.f2).length c101_3], .int .i64 x1_1] rfl (by (try simp only [List.map_toArray, List.map_cons, List.map_nil]); first | done | rfl | (simp only [List.length_drop, List.length_take]; rfl)) ?_; (with_reducible refine (laws_szPart.calls ((rd_T59 l0 x5_1).f0) ((rd_T59 l0 x5_1).f1.f0) _ _ ((rd_T59 l0 x5_1).f1.f1) _ _ ((rd_T59 l0 x5_1).f1.f2) x1_1 t102 _ ?side1 ?side2 ?side3 ?side4 A6.out).mono ?_); (case side1 => exact Cq (Kd.C_below HR101_2.out HB.out)); (case side2 => exact HC101_2.out); (case side3 => exact Cq (Kd.C_below HR101_3.out HB.out)); (case side4 => exact HC101_3.out); rintro e w8 ⟨rfl, hb⟩; refine ⟨_, rfl, ?_⟩; replace HB := Aside0.mk (below_step (Vq HB.out) hb); (try clear hb); (try clear hb2); (try clear hk); (try clear hi)))
       go_ret
       exact ⟨by first | rfl | (simp [errW_none, errW_some] <;> rfl) | (simp [*, errW_none, errW_some] <;> rfl), by repeat (first | (with_reducible first | exact HB.out | apply below_alloc | apply pw_below_drewN | apply below_drew1) | exact HB.out)⟩
      ·rw [if_neg c7] at H
       have c7b0 : decide (t102 < 0) = false := decide_eq_false c7
       clear c7
       have H' := Aside0.mk H
       clear H
       have p101 : 0 ≤ (x5_1 : Int) := Dq
       have q101 : x5_1 < (l0.length : Int) := Dq
       obtain ⟨ad101, A101_2, c101_2, A101_3, c101_3, e101, hx101_0, hx101_1, hx101_2, hx101_3, hl101_2, hi101_2, hl101_3, hi101_3⟩ := at_T59 HR0.out x5_1 p101 q101
       cases e101
       replace hx101_0 := Xq HB.out hx101_0
       replace hx101_1 := Xq HB.out hx101_1
       replace hx101_2 := Xq HB.out hx101_2
       replace hx101_3 := Xq HB.out hx101_3
       have HR101_2 := Aside0.mk hi101_2
       have HC101_2 := Aside0.mk hl101_2
       clear hi101_2 hl101_2
       have HR101_3 := Aside0.mk hi101_3
       have HC101_3 := Aside0.mk hl101_3
       clear hi101_3 hl101_3
       replace p101 := eq_true p101
       replace q101 := eq_true q101
       go_wp2_with (first | ((with_reducible refine gate_callee (f := 52) rfl ?_); refine goesL_ (some 23) rfl rfl Try.func52 (by kernel_rfl) rfl #[.agg #[.bool ((rd_T59 l0 x5_1).f0), .bool ((rd_T59 l0 x5_1).f1.f0), .slice A101_2 ((rd_T59 l0 x5_1).f1.f1).length c101_2, .slice A101_3 ((rd_T59 l0 x5_1).f1.f2).length c101_3], .int .i64 x1_1] rfl (by (try simp only [List.map_toArray, List.map_cons, List.map_nil]); first | done | rfl | (simp only [List.length_drop, List.length_take]; rfl)) ?_; (with_reducible refine (laws_szPart.calls ((rd_T59 l0 x5_1).f0) ((rd_T59 l0 x5_1).f1.f0) _ _ ((rd_T59 l0 x5_1).f1.f1) _ _ ((rd_T59 l0 x5_1).f1.f2) x1_1 t102 _ ?side1 ?side2 ?side3 ?side4 A6.out).mono ?_); (case side1 => exact Cq (Kd.C_below HR101_2.out HB.out)); (case side2 => exact HC101_2.out); (case side3 => exact Cq (Kd.C_below HR101_3.out HB.out)); (case side4 => exact HC101_3.out); rintro e w9 ⟨rfl, hb⟩; refine ⟨_, rfl, ?_⟩; replace HB := Aside0.mk (below_step (Vq HB.out) hb); (try clear hb); (try clear hb2); (try clear hk); (try clear hi)))
       go_roundg k1
       case measure => have := HK1.out; omega
       case rel => exact ⟨(t102), (wrap64 (x5_1 + 1)), (by first | rfl | (simp; done) | (simp [*]; done)), (by first | rfl | (simp; done) | (simp [*]; done)), H', ⟨by have := HK1.out; omega⟩, ⟨Vq HB.out⟩⟩
     ·rw [if_neg c5] at H
      exact absurd H (by simp)
    ·rw [if_neg c4] at H
     have c4b0 : decide (x5_1 < (l0.length : Int)) = false := decide_eq_false c4
     clear c4
     obtain rfl := Option.some.inj H
     go_wp2
     go_ret
     exact ⟨by first | rfl | (simp [errW_none, errW_some] <;> rfl) | (simp [*, errW_none, errW_some] <;> rfl), by repeat (first | (with_reducible first | exact HB.out | apply below_alloc | apply pw_below_drewN | apply below_drew1) | exact HB.out)⟩
/-! ### laws_eqPart: function 62 -/
def laws_eqPart.f (k : Nat) (a0_0 : Bool) (a0_1 : Bool) (l0_2 : List Int) (l0_3 : List Int) (a1_0 : Bool) (a1_1 : Bool) (l1_2 : List Int) (l1_3 : List Int) : Option (Bool) := if (a0_0 != a1_0) = true then (some false) else ((laws_eqArray.f k a0_1 l0_2 l0_3 a1_1 l1_2 l1_3).bind fun t103 => (if t103 = true then (some true) else (some false)))
theorem laws_eqPart.mono : ∀ a0 a1 a2 a3 a4 a5 a6 a7 k, LeO (laws_eqPart.f k a0 a1 a2 a3 a4 a5 a6 a7) (laws_eqPart.f (k + 1) a0 a1 a2 a3 a4 a5 a6 a7) := by
 intro a0 a1 a2 a3 a4 a5 a6 a7 k
 unfold laws_eqPart.f
 repeat' first
  | (with_reducible exact laws_eqArray.mono _ _ _ _ _ _ _)
  | (with_reducible exact LeO.refl _)
  | (with_reducible exact LeO.none _)
  | (with_reducible refine LeO.ite ?_ ?_)
  | (with_reducible refine LeO.bind ?_ (fun _ => ?_))
  | exact laws_eqArray.mono _ _ _ _ _ _ _
  | exact LeO.none _
  | refine LeO.ite ?_ ?_
  | refine LeO.bind ?_ (fun _ => ?_)
set_option maxHeartbeats 8000000 in
set_option maxRecDepth 100000 in
theorem laws_eqPart.calls (k : Nat) (a0_0 : Bool) (a0_1 : Bool) (A0_2 : Option Addr) (c0_2 : Nat) (l0_2 : List Int) (A0_3 : Option Addr) (c0_3 : Nat) (l0_3 : List Int) (a1_0 : Bool) (a1_1 : Bool) (A1_2 : Option Addr) (c1_2 : Nat) (l1_2 : List Int) (A1_3 : Option Addr) (c1_3 : Nat) (l1_3 : List Int) (r : Bool) (w : World) (hr0_2 : Kd.C (Kd.int .i64) w A0_2 l0_2.length l0_2) (hc0_2 : l0_2.length ≤ c0_2) (hr0_3 : Kd.C (Kd.int .i64) w A0_3 l0_3.length l0_3) (hc0_3 : l0_3.length ≤ c0_3) (hr1_2 : Kd.C (Kd.int .i64) w A1_2 l1_2.length l1_2) (hc1_2 : l1_2.length ≤ c1_2) (hr1_3 : Kd.C (Kd.int .i64) w A1_3 l1_3.length l1_3) (hc1_3 : l1_3.length ≤ c1_3) (h : laws_eqPart.f k a0_0 a0_1 l0_2 l0_3 a1_0 a1_1 l1_2 l1_3 = some r) :
 Calls Try.prog 62 #[.agg #[.bool a0_0, .bool a0_1, .slice A0_2 l0_2.length c0_2, .slice A0_3 l0_3.length c0_3], .agg #[.bool a1_0, .bool a1_1, .slice A1_2 l1_2.length c1_2, .slice A1_3 l1_3.length c1_3]] w fun e w' => e = .returned (.bool r) ∧ Below w.heap.size w w' := by
 have hu66 := Try.underlying66
 have hu28 := Try.underlying28
 have HR0_2 := Aside0.mk hr0_2
 have HC0_2 := Aside0.mk hc0_2
 clear hr0_2 hc0_2
 have HR0_3 := Aside0.mk hr0_3
 have HC0_3 := Aside0.mk hc0_3
 clear hr0_3 hc0_3
 have HR1_2 := Aside0.mk hr1_2
 have HC1_2 := Aside0.mk hc1_2
 clear hr1_2 hc1_2
 have HR1_3 := Aside0.mk hr1_3
 have HC1_3 := Aside0.mk hc1_3
 clear hr1_3 hc1_3
 have HB := Aside0.mk (Below.refl w.heap.size w)
 have H : (if (a0_0 != a1_0) = true then (some false) else ((laws_eqArray.f k a0_1 l0_2 l0_3 a1_1 l1_2 l1_3).bind fun t103 => (if t103 = true then (some true) else (some false)))) = some r := h
 clear h
 by_cases c3 : (a0_0 != a1_0) = true
 ·rw [if_pos c3] at H
  have c3b0 : (a0_0 != a1_0) = true := c3
  (try (have c3b1 : decide (a0_0 = a1_0) = false := by simpa using c3))
  (try (have c3b2 : (a0_0 == a1_0) = false := by simpa using c3))
  (try (have c3b3 : ¬ (a0_0 = a1_0) := by simpa using c3))
  clear c3
  obtain rfl := Option.some.inj H
  go_enter Try.func62, Try.ntmps62
  go_wp2_with (first | ((with_reducible refine gate_dst (N := 2) rfl ?_); refine box_ev (cs := #[.bool a0_0, .bool a0_1, .slice A0_2 l0_2.length c0_2, .slice A0_3 l0_3.length c0_3]) (t := 66) ?_; intro gb101 hg w4 hbox hb; have BK101 := Aside0.mk (hbox); have GW101 := Aside0.mk (Gq hg HB.out); have GE101 := Aside0.mk (Gq hg HB.out); replace HB := Aside0.mk (below_step (Vq HB.out) hb); clear hb hbox hg) | ((with_reducible refine gate_dst (N := 3) rfl ?_); refine box_ev (cs := #[.bool a1_0, .bool a1_1, .slice A1_2 l1_2.length c1_2, .slice A1_3 l1_3.length c1_3]) (t := 66) ?_; intro gb102 hg w5 hbox hb; have BK102 := Aside0.mk (hbox); have GW102 := Aside0.mk (Gq hg HB.out); have GE102 := Aside0.mk (Gq hg HB.out); replace HB := Aside0.mk (below_step (Vq HB.out) hb); have NB101_102 := Aside0.mk ((by rw [hg]; exact Nat.ne_of_lt (blk_lt (g := gb101) (o := .cells #[.bool a0_0, .bool a0_1, .slice A0_2 l0_2.length c0_2, .slice A0_3 l0_3.length c0_3] 66 (0, 0)) (Bq BK101.out)) : gb101 ≠ gb102)); have NB102_101 := Aside0.mk ((by rw [hg]; exact Nat.ne_of_gt (blk_lt (g := gb101) (o := .cells #[.bool a0_0, .bool a0_1, .slice A0_2 l0_2.length c0_2, .slice A0_3 l0_3.length c0_3] 66 (0, 0)) (Bq BK101.out)) : gb102 ≠ gb101)); replace BK101 := Aside0.mk (blk_below (g := gb101) (o := .cells #[.bool a0_0, .bool a0_1, .slice A0_2 l0_2.length c0_2, .slice A0_3 l0_3.length c0_3] 66 (0, 0)) (Bq BK101.out) hb); clear hb hbox hg; have hnb6 := NB101_102.out; have hnc6 := NB102_101.out; obtain ⟨hcz7_0, hcz7_1, hcz7_2, hcz7_3, hfz7_0, hfz7_1, hfz7_2, hfz7_3⟩ := cz4 BK101.out; obtain ⟨hcz8_0, hcz8_1, hcz8_2, hcz8_3, hfz8_0, hfz8_1, hfz8_2, hfz8_3⟩ := cz4 BK102.out))
  go_ret
  exact ⟨by first | rfl | (simp [errW_none, errW_some] <;> rfl) | (simp [*, errW_none, errW_some] <;> rfl), by repeat (first | (with_reducible first | exact HB.out | apply below_alloc | apply pw_below_drewN | apply below_drew1 | refine below_set ?_ GE101.out | refine below_set ?_ GE102.out) | exact HB.out)⟩
 ·rw [if_neg c3] at H
  have c3b0 : (a0_0 != a1_0) = false := by simpa using c3
  (try (have c3b1 : decide (a0_0 = a1_0) = true := by simpa using c3))
  (try (have c3b2 : (a0_0 == a1_0) = true := by simpa using c3))
  clear c3
  replace H := Option.bind_eq_some_iff.mp H
  obtain ⟨t103, A90, H⟩ := H
  replace H : (if t103 = true then (some true) else (some false)) = some r := H
  have A9 := Aside0.mk A90
  clear A90
  by_cases c10 : t103 = true
  ·subst c10
   have H1 : (some true) = some r := by rw [if_pos rfl] at H; exact H
   clear H
   have H := H1
   clear H1
   obtain rfl := Option.some.inj H
   go_enter Try.func62, Try.ntmps62
   go_wp2_with (first | ((with_reducible refine gate_dst (N := 2) rfl ?_); refine box_ev (cs := #[.bool a0_0, .bool a0_1, .slice A0_2 l0_2.length c0_2, .slice A0_3 l0_3.length c0_3]) (t := 66) ?_; intro gb101 hg w11 hbox hb; have BK101 := Aside0.mk (hbox); have GW101 := Aside0.mk (Gq hg HB.out); have GE101 := Aside0.mk (Gq hg HB.out); replace HB := Aside0.mk (below_step (Vq HB.out) hb); clear hb hbox hg) | ((with_reducible refine gate_dst (N := 3) rfl ?_); refine box_ev (cs := #[.bool a1_0, .bool a1_1, .slice A1_2 l1_2.length c1_2, .slice A1_3 l1_3.length c1_3]) (t := 66) ?_; intro gb102 hg w12 hbox hb; have BK102 := Aside0.mk (hbox); have GW102 := Aside0.mk (Gq hg HB.out); have GE102 := Aside0.mk (Gq hg HB.out); replace HB := Aside0.mk (below_step (Vq HB.out) hb); have NB101_102 := Aside0.mk ((by rw [hg]; exact Nat.ne_of_lt (blk_lt (g := gb101) (o := .cells #[.bool a0_0, .bool a0_1, .slice A0_2 l0_2.length c0_2, .slice A0_3 l0_3.length c0_3] 66 (0, 0)) (Bq BK101.out)) : gb101 ≠ gb102)); have NB102_101 := Aside0.mk ((by rw [hg]; exact Nat.ne_of_gt (blk_lt (g := gb101) (o := .cells #[.bool a0_0, .bool a0_1, .slice A0_2 l0_2.length c0_2, .slice A0_3 l0_3.length c0_3] 66 (0, 0)) (Bq BK101.out)) : gb102 ≠ gb101)); replace BK101 := Aside0.mk (blk_below (g := gb101) (o := .cells #[.bool a0_0, .bool a0_1, .slice A0_2 l0_2.length c0_2, .slice A0_3 l0_3.length c0_3] 66 (0, 0)) (Bq BK101.out) hb); clear hb hbox hg; have hnb13 := NB101_102.out; have hnc13 := NB102_101.out; obtain ⟨hcz14_0, hcz14_1, hcz14_2, hcz14_3, hfz14_0, hfz14_1, hfz14_2, hfz14_3⟩ := cz4 BK101.out; obtain ⟨hcz15_0, hcz15_1, hcz15_2, hcz15_3, hfz15_0, hfz15_1, hfz15_2, hfz15_3⟩ := cz4 BK102.out) | ((with_reducible refine gate_callee (f := 21) rfl ?_); refine goesL_ (some 14) rfl rfl Try.func21 (by kernel_rfl) rfl #[.agg #[.bool a0_1, .slice A0_2 l0_2.length c0_2, .slice A0_3 l0_3.length c0_3], .agg #[.bool a1_1, .slice A1_2 l1_2.length c1_2, .slice A1_3 l1_3.length c1_3]] rfl (by (try simp only [List.map_toArray, List.map_cons, List.map_nil]); first | done | rfl | (simp only [List.length_drop, List.length_take]; rfl)) ?_; (with_reducible refine (laws_eqArray.calls k a0_1 _ _ l0_2 _ _ l0_3 a1_1 _ _ l1_2 _ _ l1_3 true _ ?side1 ?side2 ?side3 ?side4 ?side5 ?side6 ?side7 ?side8 A9.out).mono ?_); (case side1 => exact Cq (Kd.C_below HR0_2.out HB.out)); (case side2 => exact HC0_2.out); (case side3 => exact Cq (Kd.C_below HR0_3.out HB.out)); (case side4 => exact HC0_3.out); (case side5 => exact Cq (Kd.C_below HR1_2.out HB.out)); (case side6 => exact HC1_2.out); (case side7 => exact Cq (Kd.C_below HR1_3.out HB.out)); (case side8 => exact HC1_3.out); rintro e w16 ⟨rfl, hb⟩; refine ⟨_, rfl, ?_⟩; replace BK101 := Aside0.mk (blk_below (g := gb101) (o := .cells #[.bool a0_0, .bool a0_1, .slice A0_2 l0_2.length c0_2, .slice A0_3 l0_3.length c0_3] 66 (0, 0)) (Bq BK101.out) hb); replace BK102 := Aside0.mk (blk_below (g := gb102) (o := .cells #[.bool a1_0, .bool a1_1, .slice A1_2 l1_2.length c1_2, .slice A1_3 l1_3.length c1_3] 66 (0, 0)) (Bq BK102.out) hb); replace HB := Aside0.mk (below_step (Vq HB.out) hb); (try clear hb); (try clear hb2); (try clear hk); (try clear hi)))
   go_ret
   exact ⟨by first | rfl | (simp [errW_none, errW_some] <;> rfl) | (simp [*, errW_none, errW_some] <;> rfl), by repeat (first | (with_reducible first | exact HB.out | apply below_alloc | apply pw_below_drewN | apply below_drew1 | refine below_set ?_ GE101.out | refine below_set ?_ GE102.out) | exact HB.out)⟩
  ·replace c10 := Bool.eq_false_iff.mpr c10
   subst c10
   have H1 : (some false) = some r := by rw [if_neg (show ¬ (false = true) by decide)] at H; exact H
   clear H
   have H := H1
   clear H1
   obtain rfl := Option.some.inj H
   go_enter Try.func62, Try.ntmps62
   go_wp2_with (first | ((with_reducible refine gate_dst (N := 2) rfl ?_); refine box_ev (cs := #[.bool a0_0, .bool a0_1, .slice A0_2 l0_2.length c0_2, .slice A0_3 l0_3.length c0_3]) (t := 66) ?_; intro gb101 hg w17 hbox hb; have BK101 := Aside0.mk (hbox); have GW101 := Aside0.mk (Gq hg HB.out); have GE101 := Aside0.mk (Gq hg HB.out); replace HB := Aside0.mk (below_step (Vq HB.out) hb); clear hb hbox hg) | ((with_reducible refine gate_dst (N := 3) rfl ?_); refine box_ev (cs := #[.bool a1_0, .bool a1_1, .slice A1_2 l1_2.length c1_2, .slice A1_3 l1_3.length c1_3]) (t := 66) ?_; intro gb102 hg w18 hbox hb; have BK102 := Aside0.mk (hbox); have GW102 := Aside0.mk (Gq hg HB.out); have GE102 := Aside0.mk (Gq hg HB.out); replace HB := Aside0.mk (below_step (Vq HB.out) hb); have NB101_102 := Aside0.mk ((by rw [hg]; exact Nat.ne_of_lt (blk_lt (g := gb101) (o := .cells #[.bool a0_0, .bool a0_1, .slice A0_2 l0_2.length c0_2, .slice A0_3 l0_3.length c0_3] 66 (0, 0)) (Bq BK101.out)) : gb101 ≠ gb102)); have NB102_101 := Aside0.mk ((by rw [hg]; exact Nat.ne_of_gt (blk_lt (g := gb101) (o := .cells #[.bool a0_0, .bool a0_1, .slice A0_2 l0_2.length c0_2, .slice A0_3 l0_3.length c0_3] 66 (0, 0)) (Bq BK101.out)) : gb102 ≠ gb101)); replace BK101 := Aside0.mk (blk_below (g := gb101) (o := .cells #[.bool a0_0, .bool a0_1, .slice A0_2 l0_2.length c0_2, .slice A0_3 l0_3.length c0_3] 66 (0, 0)) (Bq BK101.out) hb); clear hb hbox hg; have hnb19 := NB101_102.out; have hnc19 := NB102_101.out; obtain ⟨hcz20_0, hcz20_1, hcz20_2, hcz20_3, hfz20_0, hfz20_1, hfz20_2, hfz20_3⟩ := cz4 BK101.out; obtain ⟨hcz21_0, hcz21_1, hcz21_2, hcz21_3, hfz21_0, hfz21_1, hfz21_2, hfz21_3⟩ := cz4 BK102.out) | ((with_reducible refine gate_callee (f := 21) rfl ?_); refine goesL_ (some 14) rfl rfl Try.func21 (by kernel_rfl) rfl #[.agg #[.bool a0_1, .slice A0_2 l0_2.length c0_2, .slice A0_3 l0_3.length c0_3], .agg #[.bool a1_1, .slice A1_2 l1_2.length c1_2, .slice A1_3 l1_3.length c1_3]] rfl (by (try simp only [List.map_toArray, List.map_cons, List.map_nil]); first | done | rfl | (simp only [List.length_drop, List.length_take]; rfl)) ?_; (with_reducible refine (laws_eqArray.calls k a0_1 _ _ l0_2 _ _ l0_3 a1_1 _ _ l1_2 _ _ l1_3 false _ ?side1 ?side2 ?side3 ?side4 ?side5 ?side6 ?side7 ?side8 A9.out).mono ?_); (case side1 => exact Cq (Kd.C_below HR0_2.out HB.out)); (case side2 => exact HC0_2.out); (case side3 => exact Cq (Kd.C_below HR0_3.out HB.out)); (case side4 => exact HC0_3.out); (case side5 => exact Cq (Kd.C_below HR1_2.out HB.out)); (case side6 => exact HC1_2.out); (case side7 => exact Cq (Kd.C_below HR1_3.out HB.out)); (case side8 => exact HC1_3.out); rintro e w22 ⟨rfl, hb⟩; refine ⟨_, rfl, ?_⟩; replace BK101 := Aside0.mk (blk_below (g := gb101) (o := .cells #[.bool a0_0, .bool a0_1, .slice A0_2 l0_2.length c0_2, .slice A0_3 l0_3.length c0_3] 66 (0, 0)) (Bq BK101.out) hb); replace BK102 := Aside0.mk (blk_below (g := gb102) (o := .cells #[.bool a1_0, .bool a1_1, .slice A1_2 l1_2.length c1_2, .slice A1_3 l1_3.length c1_3] 66 (0, 0)) (Bq BK102.out) hb); replace HB := Aside0.mk (below_step (Vq HB.out) hb); (try clear hb); (try clear hb2); (try clear hk); (try clear hi)))
   go_ret
   exact ⟨by first | rfl | (simp [errW_none, errW_some] <;> rfl) | (simp [*, errW_none, errW_some] <;> rfl), by repeat (first | (with_reducible first | exact HB.out | apply below_alloc | apply pw_below_drewN | apply below_drew1 | refine below_set ?_ GE101.out | refine below_set ?_ GE102.out) | exact HB.out)⟩
/-! ### laws_eqPartS: function 22 -/
def laws_eqPartS.l0 : Nat → List (S66) → List (S66) → Int → Option (Bool)
 | 0, _, _, _ => none
 | k + 1, x0, x1, x5 => if x5 < (x0.length : Int) then (if 0 ≤ x5 then (if x5 < (x1.length : Int) then ((laws_eqPart.f k ((rd_T66 x0 x5).f0) ((rd_T66 x0 x5).f1.f0) ((rd_T66 x0 x5).f1.f1) ((rd_T66 x0 x5).f1.f2) ((rd_T66 x1 x5).f0) ((rd_T66 x1 x5).f1.f0) ((rd_T66 x1 x5).f1.f1) ((rd_T66 x1 x5).f1.f2)).bind fun t103 => (if t103 = true then (laws_eqPartS.l0 k x0 x1 (wrap64 (x5 + 1))) else (some false))) else (none)) else (none)) else (some true)
def laws_eqPartS.f (k : Nat) (l0 : List (S66)) (l1 : List (S66)) : Option (Bool) := if (l0.length : Int) = (l1.length : Int) then (laws_eqPartS.l0 k l0 l1 0) else (some false)
theorem laws_eqPartS.mono_l : ∀ k, (∀ y0 y1 y2, LeO (laws_eqPartS.l0 k y0 y1 y2) (laws_eqPartS.l0 (k + 1) y0 y1 y2))
 | 0 => fun _ _ _ r h => by simp [laws_eqPartS.l0] at h
 | k + 1 => by
  have ih0 := laws_eqPartS.mono_l k
  ·intro y0 y1 y2
   unfold laws_eqPartS.l0
   repeat' first
   | (with_reducible exact ih0 _ _ _)
   | (with_reducible exact laws_eqPart.mono _ _ _ _ _ _ _ _ _)
   | (with_reducible exact LeO.refl _)
   | (with_reducible exact LeO.none _)
   | (with_reducible refine LeO.ite ?_ ?_)
   | (with_reducible refine LeO.bind ?_ (fun _ => ?_))
   | exact ih0 _ _ _
   | exact laws_eqPart.mono _ _ _ _ _ _ _ _ _
   | exact LeO.none _
   | refine LeO.ite ?_ ?_
   | refine LeO.bind ?_ (fun _ => ?_)
theorem laws_eqPartS.mono : ∀ a0 a1 k, LeO (laws_eqPartS.f k a0 a1) (laws_eqPartS.f (k + 1) a0 a1) := by
 intro a0 a1 k
 have ih0 := laws_eqPartS.mono_l k
 unfold laws_eqPartS.f
 repeat' first
  | (with_reducible exact ih0 _ _ _)
  | (with_reducible exact laws_eqPart.mono _ _ _ _ _ _ _ _ _)
  | (with_reducible exact LeO.refl _)
  | (with_reducible exact LeO.none _)
  | (with_reducible refine LeO.ite ?_ ?_)
  | (with_reducible refine LeO.bind ?_ (fun _ => ?_))
  | exact ih0 _ _ _
  | exact laws_eqPart.mono _ _ _ _ _ _ _ _ _
  | exact LeO.none _
  | refine LeO.ite ?_ ?_
  | refine LeO.bind ?_ (fun _ => ?_)
def laws_eqPartS.T6 : Bool × List (List Nat × List Nat) := (true, [([], []), ([], []), ([0, 1], [0, 1]), ([2], [2]), ([], []), ([], []), ([4, 5], [4, 5]), ([6], [6]), ([3, 7], [3, 7]), ([8], [8])])
def laws_eqPartS.B6 : List Nat := [0, 0, 3, 7, 0, 0, 48, 112, 255, 511]
theorem laws_eqPartS.tab6 : rtab .any (opsOf Try.f22 6) = laws_eqPartS.T6 := by kernel_rfl
theorem laws_eqPartS.bits6 : waitsOk laws_eqPartS.T6.2 laws_eqPartS.B6 = true := by kernel_rfl
set_option maxHeartbeats 8000000 in
set_option maxRecDepth 100000 in
theorem laws_eqPartS.calls (k : Nat) (A0 : Option Addr) (c0 : Nat) (l0 : List (S66)) (A1 : Option Addr) (c1 : Nat) (l1 : List (S66)) (r : Bool) (w : World) (hr0 : Kd.C k66 w A0 l0.length l0) (hc0 : l0.length ≤ c0) (hr1 : Kd.C k66 w A1 l1.length l1) (hc1 : l1.length ≤ c1) (h : laws_eqPartS.f k l0 l1 = some r) :
 Calls Try.prog 22 #[.slice A0 l0.length c0, .slice A1 l1.length c1] w fun e w' => e = .returned (.bool r) ∧ Below w.heap.size w w' := by
 have hu66 := Try.underlying66
 have HR0 := Aside0.mk hr0
 have HC0 := Aside0.mk hc0
 clear hr0 hc0
 have HR1 := Aside0.mk hr1
 have HC1 := Aside0.mk hc1
 clear hr1 hc1
 have HB := Aside0.mk (Below.refl w.heap.size w)
 have H : (if (l0.length : Int) = (l1.length : Int) then (laws_eqPartS.l0 k l0 l1 0) else (some false)) = some r := h
 clear h
 by_cases c3 : (l0.length : Int) = (l1.length : Int)
 ·rw [if_pos c3] at H
  have c3b0 : ((l0.length : Int) == (l1.length : Int)) = true := beq_iff_eq.mpr c3
  have c3b1 : ((l0.length : Int) != (l1.length : Int)) = false := bne_eq_false_iff_eq.mpr c3
  have c3b2 : (l0.length == l1.length) = true := by first | simpa using c3 | (simp at c3 ⊢; omega)
  clear c3
  have H' := Aside0.mk H
  clear H
  go_enter Try.func22, Try.ntmps22
  go_wp2
  go_loopg [5] k (fun kq v5 w' => ∃ (x5_1 : Int), v5 = .int .i64 x5_1 ∧ Aside0 (laws_eqPartS.l0 kq l0 l1 x5_1 = some r) ∧ Aside0 (kq ≤ k) ∧ Aside0 (Below w.heap.size w w'))
  case atStart => exact ⟨(0), (by first | rfl | (simp; done) | (simp [*]; done)), H', ⟨Nat.le_refl _⟩, ⟨Vq HB.out⟩⟩
  case round =>
   clear H'
   (try clear c1); (try clear c2); (try clear p2); (try clear c3); (try clear c3b0); (try clear c3b1); (try clear c3b2)
   obtain ⟨x5_1, rfl, HA, HK1, HB⟩ := hrel
   cases gk with
   | zero => exact absurd HA.out (by simp [laws_eqPartS.l0])
   | succ k1 =>
    have H := HA.out
    clear HA
    simp only [laws_eqPartS.l0] at H
    by_cases c4 : x5_1 < (l0.length : Int)
    ·rw [if_pos c4] at H
     have c4b0 : decide (x5_1 < (l0.length : Int)) = true := decide_eq_true c4
     clear c4
     by_cases c5 : 0 ≤ x5_1
     ·rw [if_pos c5] at H
      have c5b0 : decide (0 ≤ x5_1) = true := decide_eq_true c5
      clear c5
      by_cases c6 : x5_1 < (l1.length : Int)
      ·rw [if_pos c6] at H
       have c6b0 : decide (x5_1 < (l1.length : Int)) = true := decide_eq_true c6
       clear c6
       replace H := Option.bind_eq_some_iff.mp H
       obtain ⟨t103, A70, H⟩ := H
       replace H : (if t103 = true then (laws_eqPartS.l0 k1 l0 l1 (wrap64 (x5_1 + 1))) else (some false)) = some r := H
       have A7 := Aside0.mk A70
       clear A70
       by_cases c8 : t103 = true
       ·subst c8
        have H1 : (laws_eqPartS.l0 k1 l0 l1 (wrap64 (x5_1 + 1))) = some r := by rw [if_pos rfl] at H; exact H
        clear H
        have H := H1
        clear H1
        have H' := Aside0.mk H
        clear H
        try go_wp2
        have n0_ := Aside0.mk (below_drew1 HB.out)
        clear HB
        have HB := n0_
        clear n0_
        have p101 : 0 ≤ (x5_1 : Int) := Dq
        have q101 : x5_1 < (l0.length : Int) := Dq
        obtain ⟨ad101, A101_2, c101_2, A101_3, c101_3, e101, hx101_0, hx101_1, hx101_2, hx101_3, hl101_2, hi101_2, hl101_3, hi101_3⟩ := at_T66 HR0.out x5_1 p101 q101
        have hw101_3 := hx101_3
        have hw101_2 := hx101_2
        have hw101_1 := hx101_1
        have hw101_0 := hx101_0
        cases e101
        replace hx101_0 := Xq HB.out hx101_0
        replace hx101_1 := Xq HB.out hx101_1
        replace hx101_2 := Xq HB.out hx101_2
        replace hx101_3 := Xq HB.out hx101_3
        have HR101_2 := Aside0.mk hi101_2
        have HC101_2 := Aside0.mk hl101_2
        clear hi101_2 hl101_2
        have HR101_3 := Aside0.mk hi101_3
        have HC101_3 := Aside0.mk hl101_3
        clear hi101_3 hl101_3
        replace p101 := eq_true p101
        replace q101 := eq_true q101
        have p102 : 0 ≤ (x5_1 : Int) := Dq
        have q102 : x5_1 < (l1.length : Int) := Dq
        obtain ⟨ad102, A102_2, c102_2, A102_3, c102_3, e102, hx102_0, hx102_1, hx102_2, hx102_3, hl102_2, hi102_2, hl102_3, hi102_3⟩ := at_T66 HR1.out x5_1 p102 q102
        have hw102_3 := hx102_3
        have hw102_2 := hx102_2
        have hw102_1 := hx102_1
        have hw102_0 := hx102_0
        cases e102
        replace hx102_0 := Xq HB.out hx102_0
        replace hx102_1 := Xq HB.out hx102_1
        replace hx102_2 := Xq HB.out hx102_2
        replace hx102_3 := Xq HB.out hx102_3
        have HR102_2 := Aside0.mk hi102_2
        have HC102_2 := Aside0.mk hl102_2
        clear hi102_2 hl102_2
        have HR102_3 := Aside0.mk hi102_3
        have HC102_3 := Aside0.mk hl102_3
        clear hi102_3 hl102_3
        replace p102 := eq_true p102
        replace q102 := eq_true q102
        refine start_ (n := 10) (S := fun w' => w'.cell? (ad101.add ((x5_1).toNat * 4)) = some (.bool ((rd_T66 l0 x5_1).f0)) ∧ w'.cell? ⟨(ad101.add ((x5_1).toNat * 4)).block, (ad101.add ((x5_1).toNat * 4)).off + 1, none⟩ = some (.bool ((rd_T66 l0 x5_1).f1.f0)) ∧ w'.cell? ⟨(ad101.add ((x5_1).toNat * 4)).block, (ad101.add ((x5_1).toNat * 4)).off + 2, none⟩ = some (.slice A101_2 ((rd_T66 l0 x5_1).f1.f1).length c101_2) ∧ w'.cell? ⟨(ad101.add ((x5_1).toNat * 4)).block, (ad101.add ((x5_1).toNat * 4)).off + 3, none⟩ = some (.slice A101_3 ((rd_T66 l0 x5_1).f1.f2).length c101_3) ∧ w'.cell? (ad102.add ((x5_1).toNat * 4)) = some (.bool ((rd_T66 l1 x5_1).f0)) ∧ w'.cell? ⟨(ad102.add ((x5_1).toNat * 4)).block, (ad102.add ((x5_1).toNat * 4)).off + 1, none⟩ = some (.bool ((rd_T66 l1 x5_1).f1.f0)) ∧ w'.cell? ⟨(ad102.add ((x5_1).toNat * 4)).block, (ad102.add ((x5_1).toNat * 4)).off + 2, none⟩ = some (.slice A102_2 ((rd_T66 l1 x5_1).f1.f1).length c102_2) ∧ w'.cell? ⟨(ad102.add ((x5_1).toNat * 4)).block, (ad102.add ((x5_1).toNat * 4)).off + 3, none⟩ = some (.slice A102_3 ((rd_T66 l1 x5_1).f1.f2).length c102_3)) (ds := []) #[false, false, false, false, false, false, false, false, false, false] (by kernel_rfl) rfl rfl ⟨((HB.out.cell (World.block_lt_of_cell? w _ hw101_0)).trans hw101_0), ((HB.out.cell (World.block_lt_of_cell? w _ hw101_1)).trans hw101_1), ((HB.out.cell (World.block_lt_of_cell? w _ hw101_2)).trans hw101_2), ((HB.out.cell (World.block_lt_of_cell? w _ hw101_3)).trans hw101_3), ((HB.out.cell (World.block_lt_of_cell? w _ hw102_0)).trans hw102_0), ((HB.out.cell (World.block_lt_of_cell? w _ hw102_1)).trans hw102_1), ((HB.out.cell (World.block_lt_of_cell? w _ hw102_2)).trans hw102_2), ((HB.out.cell (World.block_lt_of_cell? w _ hw102_3)).trans hw102_3)⟩ (fun hHeld => ?_); refine with_tabW laws_eqPartS.tab6 laws_eqPartS.bits6 (fun HT_ HW_ => ?_)
        generalize wr.drew = w9 at HB HR101_2 HR101_3 HR102_2 HR102_3 hx101_0 hx101_1 hx101_2 hx101_3 hx102_0 hx102_1 hx102_2 hx102_3 hHeld ⊢
        refine pure_ (i := 0) (N := some 17) (v := ?_) (a' := ?_) #[true, false, false, false, false, false, false, false, false, false] rfl rfl (any_of HT_.out (by kernel_rfl)) (fun _ _ _ h => h) (Or.inl ⟨by rfl, ?_⟩) ?_ ?_
        rotate_left
        ·intro w'
         go_simp
         with_reducible rfl
        rotate_left
        ·simp only [Act.put, List.setIfInBounds_toArray, List.set_cons_zero, List.set_cons_succ, i64_w, i32_w]
         rfl
        refine pure_ (i := 1) (N := some 18) (v := ?_) (a' := ?_) #[true, true, false, false, false, false, false, false, false, false] rfl rfl (any_of HT_.out (by kernel_rfl)) (fun _ _ _ h => h) (Or.inl ⟨by rfl, ?_⟩) ?_ ?_
        rotate_left
        ·intro w'
         go_simp
         with_reducible rfl
        rotate_left
        ·simp only [Act.put, List.setIfInBounds_toArray, List.set_cons_zero, List.set_cons_succ, i64_w, i32_w]
         rfl
        refine pure_ (i := 2) (N := some 19) (v := ?_) (a' := ?_) #[true, true, true, false, false, false, false, false, false, false] rfl rfl (any_of HT_.out (by kernel_rfl)) (fun _ _ _ h => h) (Or.inl ⟨by rfl, ?_⟩) ?_ ?_
        rotate_left
        ·intro w'
         go_simp
         with_reducible rfl
        rotate_left
        ·simp only [Act.put, List.setIfInBounds_toArray, List.set_cons_zero, List.set_cons_succ, i64_w, i32_w]
         rfl
        refine pure_ (i := 4) (N := some 21) (v := ?_) (a' := ?_) #[true, true, true, false, true, false, false, false, false, false] rfl rfl (any_of HT_.out (by kernel_rfl)) (fun _ _ _ h => h) (Or.inl ⟨by rfl, ?_⟩) ?_ ?_
        rotate_left
        ·intro w'
         go_simp
         with_reducible rfl
        rotate_left
        ·simp only [Act.put, List.setIfInBounds_toArray, List.set_cons_zero, List.set_cons_succ, i64_w, i32_w]
         rfl
        refine pure_ (i := 5) (N := some 22) (v := ?_) (a' := ?_) #[true, true, true, false, true, true, false, false, false, false] rfl rfl (any_of HT_.out (by kernel_rfl)) (fun _ _ _ h => h) (Or.inl ⟨by rfl, ?_⟩) ?_ ?_
        rotate_left
        ·intro w'
         go_simp
         with_reducible rfl
        rotate_left
        ·simp only [Act.put, List.setIfInBounds_toArray, List.set_cons_zero, List.set_cons_succ, i64_w, i32_w]
         rfl
        refine pure_ (i := 6) (N := some 23) (v := ?_) (a' := ?_) #[true, true, true, false, true, true, true, false, false, false] rfl rfl (any_of HT_.out (by kernel_rfl)) (fun _ _ _ h => h) (Or.inl ⟨by rfl, ?_⟩) ?_ ?_
        rotate_left
        ·intro w'
         go_simp
         with_reducible rfl
        rotate_left
        ·simp only [Act.put, List.setIfInBounds_toArray, List.set_cons_zero, List.set_cons_succ, i64_w, i32_w]
         rfl
        refine take_ (i := 3) (N := some 20) (v := ?_) (a' := ?_) #[true, true, true, true, true, true, true, false, false, false] rfl rfl (take_ofW HT_.out HW_.out (by kernel_rfl)) (fun _ _ _ h => h) (Or.inl ⟨by rfl, ?_⟩) hHeld ?_ ?_
        rotate_left
        ·rintro w' ⟨s0, s1, s2, s3, s4, s5, s6, s7⟩
         go_simp
         with_reducible rfl
        rotate_left
        ·simp only [Act.put, List.setIfInBounds_toArray, List.set_cons_zero, List.set_cons_succ, i64_w, i32_w]
         rfl
        refine take_ (i := 7) (N := some 24) (v := ?_) (a' := ?_) #[true, true, true, true, true, true, true, true, false, false] rfl rfl (take_ofW HT_.out HW_.out (by kernel_rfl)) (fun _ _ _ h => h) (Or.inl ⟨by rfl, ?_⟩) hHeld ?_ ?_
        rotate_left
        ·rintro w' ⟨s0, s1, s2, s3, s4, s5, s6, s7⟩
         go_simp
         with_reducible rfl
        rotate_left
        ·simp only [Act.put, List.setIfInBounds_toArray, List.set_cons_zero, List.set_cons_succ, i64_w, i32_w]
         rfl
        refine one_ (i := 8) (N := some 25) #[true, true, true, true, true, true, true, true, true, false] rfl rfl (one_of HT_.out (by kernel_rfl)) (by decide) (fun K hK => ?_)
        refine goes_ Try.func62 (by kernel_rfl) rfl #[.agg #[.bool ((rd_T66 l0 x5_1).f0), .bool ((rd_T66 l0 x5_1).f1.f0), .slice A101_2 ((rd_T66 l0 x5_1).f1.f1).length c101_2, .slice A101_3 ((rd_T66 l0 x5_1).f1.f2).length c101_3], .agg #[.bool ((rd_T66 l1 x5_1).f0), .bool ((rd_T66 l1 x5_1).f1.f0), .slice A102_2 ((rd_T66 l1 x5_1).f1.f1).length c102_2, .slice A102_3 ((rd_T66 l1 x5_1).f1.f2).length c102_3]] (by rfl) rfl rfl (by (try simp only [List.map_toArray, List.map_cons, List.map_nil]); first | done | rfl | (simp only [List.length_drop, List.length_take]; rfl)) ?_
        with_reducible refine (laws_eqPart.calls k1 ((rd_T66 l0 x5_1).f0) ((rd_T66 l0 x5_1).f1.f0) _ _ ((rd_T66 l0 x5_1).f1.f1) _ _ ((rd_T66 l0 x5_1).f1.f2) ((rd_T66 l1 x5_1).f0) ((rd_T66 l1 x5_1).f1.f0) _ _ ((rd_T66 l1 x5_1).f1.f1) _ _ ((rd_T66 l1 x5_1).f1.f2) true _ ?side1 ?side2 ?side3 ?side4 ?side5 ?side6 ?side7 ?side8 A7.out).mono ?_
        (case side1 => exact Cq (Kd.C_below HR101_2.out HB.out))
        (case side2 => exact HC101_2.out)
        (case side3 => exact Cq (Kd.C_below HR101_3.out HB.out))
        (case side4 => exact HC101_3.out)
        (case side5 => exact Cq (Kd.C_below HR102_2.out HB.out))
        (case side6 => exact HC102_2.out)
        (case side7 => exact Cq (Kd.C_below HR102_3.out HB.out))
        (case side8 => exact HC102_3.out)
        rintro e w10 ⟨rfl, hb⟩
        refine ⟨_, rfl, ?_⟩
        have n0_ := Aside0.mk (below_step (Vq HB.out) hb)
        clear HB
        have HB := n0_
        clear n0_
        (try clear hb)
        (try clear hb2)
        (try clear hk)
        (try clear hi)
        refine hK.out _ _ ⟨((HB.out.cell (World.block_lt_of_cell? w _ hw101_0)).trans hw101_0), ((HB.out.cell (World.block_lt_of_cell? w _ hw101_1)).trans hw101_1), ((HB.out.cell (World.block_lt_of_cell? w _ hw101_2)).trans hw101_2), ((HB.out.cell (World.block_lt_of_cell? w _ hw101_3)).trans hw101_3), ((HB.out.cell (World.block_lt_of_cell? w _ hw102_0)).trans hw102_0), ((HB.out.cell (World.block_lt_of_cell? w _ hw102_1)).trans hw102_1), ((HB.out.cell (World.block_lt_of_cell? w _ hw102_2)).trans hw102_2), ((HB.out.cell (World.block_lt_of_cell? w _ hw102_3)).trans hw102_3)⟩ (fun hHeld => ?_)
        clear hK K
        refine norm_ (a' := ?_) ?_ ?_
        rotate_left
        ·show Act.put _ (some 25) _ = _
         simp only [Act.put, List.setIfInBounds_toArray, List.set_cons_zero, List.set_cons_succ, i64_w, i32_w]
         rfl
        refine pure_ (i := 9) (N := some 26) (v := ?_) (a' := ?_) #[true, true, true, true, true, true, true, true, true, true] rfl rfl (any_of HT_.out (by kernel_rfl)) (fun _ _ _ h => h) (Or.inl ⟨by rfl, ?_⟩) ?_ ?_
        rotate_left
        ·intro w'
         go_simp
         with_reducible rfl
        rotate_left
        ·simp only [Act.put, List.setIfInBounds_toArray, List.set_cons_zero, List.set_cons_succ, i64_w, i32_w]
         rfl
        refine done_ (done_of HT_.out (by kernel_rfl)) ?_
        try go_wp2
        go_roundg k1
        case measure => have := HK1.out; omega
        case rel => exact ⟨(wrap64 (x5_1 + 1)), (by first | rfl | (simp; done) | (simp [*]; done)), H', ⟨by have := HK1.out; omega⟩, ⟨Vq HB.out⟩⟩
       ·replace c8 := Bool.eq_false_iff.mpr c8
        subst c8
        have H1 : (some false) = some r := by rw [if_neg (show ¬ (false = true) by decide)] at H; exact H
        clear H
        have H := H1
        clear H1
        obtain rfl := Option.some.inj H
        try go_wp2
        have n0_ := Aside0.mk (below_drew1 HB.out)
        clear HB
        have HB := n0_
        clear n0_
        have p101 : 0 ≤ (x5_1 : Int) := Dq
        have q101 : x5_1 < (l0.length : Int) := Dq
        obtain ⟨ad101, A101_2, c101_2, A101_3, c101_3, e101, hx101_0, hx101_1, hx101_2, hx101_3, hl101_2, hi101_2, hl101_3, hi101_3⟩ := at_T66 HR0.out x5_1 p101 q101
        have hw101_3 := hx101_3
        have hw101_2 := hx101_2
        have hw101_1 := hx101_1
        have hw101_0 := hx101_0
        cases e101
        replace hx101_0 := Xq HB.out hx101_0
        replace hx101_1 := Xq HB.out hx101_1
        replace hx101_2 := Xq HB.out hx101_2
        replace hx101_3 := Xq HB.out hx101_3
        have HR101_2 := Aside0.mk hi101_2
        have HC101_2 := Aside0.mk hl101_2
        clear hi101_2 hl101_2
        have HR101_3 := Aside0.mk hi101_3
        have HC101_3 := Aside0.mk hl101_3
        clear hi101_3 hl101_3
        replace p101 := eq_true p101
        replace q101 := eq_true q101
        have p102 : 0 ≤ (x5_1 : Int) := Dq
        have q102 : x5_1 < (l1.length : Int) := Dq
        obtain ⟨ad102, A102_2, c102_2, A102_3, c102_3, e102, hx102_0, hx102_1, hx102_2, hx102_3, hl102_2, hi102_2, hl102_3, hi102_3⟩ := at_T66 HR1.out x5_1 p102 q102
        have hw102_3 := hx102_3
        have hw102_2 := hx102_2
        have hw102_1 := hx102_1
        have hw102_0 := hx102_0
        cases e102
        replace hx102_0 := Xq HB.out hx102_0
        replace hx102_1 := Xq HB.out hx102_1
        replace hx102_2 := Xq HB.out hx102_2
        replace hx102_3 := Xq HB.out hx102_3
        have HR102_2 := Aside0.mk hi102_2
        have HC102_2 := Aside0.mk hl102_2
        clear hi102_2 hl102_2
        have HR102_3 := Aside0.mk hi102_3
        have HC102_3 := Aside0.mk hl102_3
        clear hi102_3 hl102_3
        replace p102 := eq_true p102
        replace q102 := eq_true q102
        refine start_ (n := 10) (S := fun w' => w'.cell? (ad101.add ((x5_1).toNat * 4)) = some (.bool ((rd_T66 l0 x5_1).f0)) ∧ w'.cell? ⟨(ad101.add ((x5_1).toNat * 4)).block, (ad101.add ((x5_1).toNat * 4)).off + 1, none⟩ = some (.bool ((rd_T66 l0 x5_1).f1.f0)) ∧ w'.cell? ⟨(ad101.add ((x5_1).toNat * 4)).block, (ad101.add ((x5_1).toNat * 4)).off + 2, none⟩ = some (.slice A101_2 ((rd_T66 l0 x5_1).f1.f1).length c101_2) ∧ w'.cell? ⟨(ad101.add ((x5_1).toNat * 4)).block, (ad101.add ((x5_1).toNat * 4)).off + 3, none⟩ = some (.slice A101_3 ((rd_T66 l0 x5_1).f1.f2).length c101_3) ∧ w'.cell? (ad102.add ((x5_1).toNat * 4)) = some (.bool ((rd_T66 l1 x5_1).f0)) ∧ w'.cell? ⟨(ad102.add ((x5_1).toNat * 4)).block, (ad102.add ((x5_1).toNat * 4)).off + 1, none⟩ = some (.bool ((rd_T66 l1 x5_1).f1.f0)) ∧ w'.cell? ⟨(ad102.add ((x5_1).toNat * 4)).block, (ad102.add ((x5_1).toNat * 4)).off + 2, none⟩ = some (.slice A102_2 ((rd_T66 l1 x5_1).f1.f1).length c102_2) ∧ w'.cell? ⟨(ad102.add ((x5_1).toNat * 4)).block, (ad102.add ((x5_1).toNat * 4)).off + 3, none⟩ = some (.slice A102_3 ((rd_T66 l1 x5_1).f1.f2).length c102_3)) (ds := []) #[false, false, false, false, false, false, false, false, false, false] (by kernel_rfl) rfl rfl ⟨((HB.out.cell (World.block_lt_of_cell? w _ hw101_0)).trans hw101_0), ((HB.out.cell (World.block_lt_of_cell? w _ hw101_1)).trans hw101_1), ((HB.out.cell (World.block_lt_of_cell? w _ hw101_2)).trans hw101_2), ((HB.out.cell (World.block_lt_of_cell? w _ hw101_3)).trans hw101_3), ((HB.out.cell (World.block_lt_of_cell? w _ hw102_0)).trans hw102_0), ((HB.out.cell (World.block_lt_of_cell? w _ hw102_1)).trans hw102_1), ((HB.out.cell (World.block_lt_of_cell? w _ hw102_2)).trans hw102_2), ((HB.out.cell (World.block_lt_of_cell? w _ hw102_3)).trans hw102_3)⟩ (fun hHeld => ?_); refine with_tabW laws_eqPartS.tab6 laws_eqPartS.bits6 (fun HT_ HW_ => ?_)
        generalize wr.drew = w11 at HB HR101_2 HR101_3 HR102_2 HR102_3 hx101_0 hx101_1 hx101_2 hx101_3 hx102_0 hx102_1 hx102_2 hx102_3 hHeld ⊢
        refine pure_ (i := 0) (N := some 17) (v := ?_) (a' := ?_) #[true, false, false, false, false, false, false, false, false, false] rfl rfl (any_of HT_.out (by kernel_rfl)) (fun _ _ _ h => h) (Or.inl ⟨by rfl, ?_⟩) ?_ ?_
        rotate_left
        ·intro w'
         go_simp
         with_reducible rfl
        rotate_left
        ·simp only [Act.put, List.setIfInBounds_toArray, List.set_cons_zero, List.set_cons_succ, i64_w, i32_w]
         rfl
        refine pure_ (i := 1) (N := some 18) (v := ?_) (a' := ?_) #[true, true, false, false, false, false, false, false, false, false] rfl rfl (any_of HT_.out (by kernel_rfl)) (fun _ _ _ h => h) (Or.inl ⟨by rfl, ?_⟩) ?_ ?_
        rotate_left
        ·intro w'
         go_simp
         with_reducible rfl
        rotate_left
        ·simp only [Act.put, List.setIfInBounds_toArray, List.set_cons_zero, List.set_cons_succ, i64_w, i32_w]
         rfl
        refine pure_ (i := 2) (N := some 19) (v := ?_) (a' := ?_) #[true, true, true, false, false, false, false, false, false, false] rfl rfl (any_of HT_.out (by kernel_rfl)) (fun _ _ _ h => h) (Or.inl ⟨by rfl, ?_⟩) ?_ ?_
        rotate_left
        ·intro w'
         go_simp
         with_reducible rfl
        rotate_left
        ·simp only [Act.put, List.setIfInBounds_toArray, List.set_cons_zero, List.set_cons_succ, i64_w, i32_w]
         rfl
        refine pure_ (i := 4) (N := some 21) (v := ?_) (a' := ?_) #[true, true, true, false, true, false, false, false, false, false] rfl rfl (any_of HT_.out (by kernel_rfl)) (fun _ _ _ h => h) (Or.inl ⟨by rfl, ?_⟩) ?_ ?_
        rotate_left
        ·intro w'
         go_simp
         with_reducible rfl
        rotate_left
        ·simp only [Act.put, List.setIfInBounds_toArray, List.set_cons_zero, List.set_cons_succ, i64_w, i32_w]
         rfl
        refine pure_ (i := 5) (N := some 22) (v := ?_) (a' := ?_) #[true, true, true, false, true, true, false, false, false, false] rfl rfl (any_of HT_.out (by kernel_rfl)) (fun _ _ _ h => h) (Or.inl ⟨by rfl, ?_⟩) ?_ ?_
        rotate_left
        ·intro w'
         go_simp
         with_reducible rfl
        rotate_left
        ·simp only [Act.put, List.setIfInBounds_toArray, List.set_cons_zero, List.set_cons_succ, i64_w, i32_w]
         rfl
        refine pure_ (i := 6) (N := some 23) (v := ?_) (a' := ?_) #[true, true, true, false, true, true, true, false, false, false] rfl rfl (any_of HT_.out (by kernel_rfl)) (fun _ _ _ h => h) (Or.inl ⟨by rfl, ?_⟩) ?_ ?_
        rotate_left
        ·intro w'
         go_simp
         with_reducible rfl
        rotate_left
        ·simp only [Act.put, List.setIfInBounds_toArray, List.set_cons_zero, List.set_cons_succ, i64_w, i32_w]
         rfl
        refine take_ (i := 3) (N := some 20) (v := ?_) (a' := ?_) #[true, true, true, true, true, true, true, false, false, false] rfl rfl (take_ofW HT_.out HW_.out (by kernel_rfl)) (fun _ _ _ h => h) (Or.inl ⟨by rfl, ?_⟩) hHeld ?_ ?_
        rotate_left
        ·rintro w' ⟨s0, s1, s2, s3, s4, s5, s6, s7⟩
         go_simp
         with_reducible rfl
        rotate_left
        ·simp only [Act.put, List.setIfInBounds_toArray, List.set_cons_zero, List.set_cons_succ, i64_w, i32_w]
         rfl
        refine take_ (i := 7) (N := some 24) (v := ?_) (a' := ?_) #[true, true, true, true, true, true, true, true, false, false] rfl rfl (take_ofW HT_.out HW_.out (by kernel_rfl)) (fun _ _ _ h => h) (Or.inl ⟨by rfl, ?_⟩) hHeld ?_ ?_
        rotate_left
        ·rintro w' ⟨s0, s1, s2, s3, s4, s5, s6, s7⟩
         go_simp
         with_reducible rfl
        rotate_left
        ·simp only [Act.put, List.setIfInBounds_toArray, List.set_cons_zero, List.set_cons_succ, i64_w, i32_w]
         rfl
        refine one_ (i := 8) (N := some 25) #[true, true, true, true, true, true, true, true, true, false] rfl rfl (one_of HT_.out (by kernel_rfl)) (by decide) (fun K hK => ?_)
        refine goes_ Try.func62 (by kernel_rfl) rfl #[.agg #[.bool ((rd_T66 l0 x5_1).f0), .bool ((rd_T66 l0 x5_1).f1.f0), .slice A101_2 ((rd_T66 l0 x5_1).f1.f1).length c101_2, .slice A101_3 ((rd_T66 l0 x5_1).f1.f2).length c101_3], .agg #[.bool ((rd_T66 l1 x5_1).f0), .bool ((rd_T66 l1 x5_1).f1.f0), .slice A102_2 ((rd_T66 l1 x5_1).f1.f1).length c102_2, .slice A102_3 ((rd_T66 l1 x5_1).f1.f2).length c102_3]] (by rfl) rfl rfl (by (try simp only [List.map_toArray, List.map_cons, List.map_nil]); first | done | rfl | (simp only [List.length_drop, List.length_take]; rfl)) ?_
        with_reducible refine (laws_eqPart.calls k1 ((rd_T66 l0 x5_1).f0) ((rd_T66 l0 x5_1).f1.f0) _ _ ((rd_T66 l0 x5_1).f1.f1) _ _ ((rd_T66 l0 x5_1).f1.f2) ((rd_T66 l1 x5_1).f0) ((rd_T66 l1 x5_1).f1.f0) _ _ ((rd_T66 l1 x5_1).f1.f1) _ _ ((rd_T66 l1 x5_1).f1.f2) false _ ?side1 ?side2 ?side3 ?side4 ?side5 ?side6 ?side7 ?side8 A7.out).mono ?_
        (case side1 => exact Cq (Kd.C_below HR101_2.out HB.out))
        (case side2 => exact HC101_2.out)
        (case side3 => exact Cq (Kd.C_below HR101_3.out HB.out))
        (case side4 => exact HC101_3.out)
        (case side5 => exact Cq (Kd.C_below HR102_2.out HB.out))
        (case side6 => exact HC102_2.out)
        (case side7 => exact Cq (Kd.C_below HR102_3.out HB.out))
        (case side8 => exact HC102_3.out)
        rintro e w12 ⟨rfl, hb⟩
        refine ⟨_, rfl, ?_⟩
        have n0_ := Aside0.mk (below_step (Vq HB.out) hb)
        clear HB
        have HB := n0_
        clear n0_
        (try clear hb)
        (try clear hb2)
        (try clear hk)
        (try clear hi)
        refine hK.out _ _ ⟨((HB.out.cell (World.block_lt_of_cell? w _ hw101_0)).trans hw101_0), ((HB.out.cell (World.block_lt_of_cell? w _ hw101_1)).trans hw101_1), ((HB.out.cell (World.block_lt_of_cell? w _ hw101_2)).trans hw101_2), ((HB.out.cell (World.block_lt_of_cell? w _ hw101_3)).trans hw101_3), ((HB.out.cell (World.block_lt_of_cell? w _ hw102_0)).trans hw102_0), ((HB.out.cell (World.block_lt_of_cell? w _ hw102_1)).trans hw102_1), ((HB.out.cell (World.block_lt_of_cell? w _ hw102_2)).trans hw102_2), ((HB.out.cell (World.block_lt_of_cell? w _ hw102_3)).trans hw102_3)⟩ (fun hHeld => ?_)
        clear hK K
        refine norm_ (a' := ?_) ?_ ?_
        rotate_left
        ·show Act.put _ (some 25) _ = _
         simp only [Act.put, List.setIfInBounds_toArray, List.set_cons_zero, List.set_cons_succ, i64_w, i32_w]
         rfl
        refine pure_ (i := 9) (N := some 26) (v := ?_) (a' := ?_) #[true, true, true, true, true, true, true, true, true, true] rfl rfl (any_of HT_.out (by kernel_rfl)) (fun _ _ _ h => h) (Or.inl ⟨by rfl, ?_⟩) ?_ ?_
        rotate_left
        ·intro w'
         go_simp
         with_reducible rfl
        rotate_left
        ·simp only [Act.put, List.setIfInBounds_toArray, List.set_cons_zero, List.set_cons_succ, i64_w, i32_w]
         rfl
        refine done_ (done_of HT_.out (by kernel_rfl)) ?_
        try go_wp2
        go_ret
        exact ⟨by first | rfl | (simp [errW_none, errW_some] <;> rfl) | (simp [*, errW_none, errW_some] <;> rfl), by repeat (first | (with_reducible first | exact HB.out | apply below_alloc | apply pw_below_drewN | apply below_drew1) | exact HB.out)⟩
      ·rw [if_neg c6] at H
       exact absurd H (by simp)
     ·rw [if_neg c5] at H
      exact absurd H (by simp)
    ·rw [if_neg c4] at H
     have c4b0 : decide (x5_1 < (l0.length : Int)) = false := decide_eq_false c4
     clear c4
     obtain rfl := Option.some.inj H
     go_wp2
     go_ret
     exact ⟨by first | rfl | (simp [errW_none, errW_some] <;> rfl) | (simp [*, errW_none, errW_some] <;> rfl), by repeat (first | (with_reducible first | exact HB.out | apply below_alloc | apply pw_below_drewN | apply below_drew1) | exact HB.out)⟩
 ·rw [if_neg c3] at H
  have c3b0 : ((l0.length : Int) == (l1.length : Int)) = false := beq_eq_false_iff_ne.mpr c3
  have c3b1 : ((l0.length : Int) != (l1.length : Int)) = true := bne_iff_ne.mpr c3
  have c3b2 : (l0.length == l1.length) = false := by first | simpa using c3 | (simp at c3 ⊢; omega)
  obtain rfl := Option.some.inj H
  go_enter Try.func22, Try.ntmps22
  go_wp2
  go_ret
  exact ⟨by first | rfl | (simp [errW_none, errW_some] <;> rfl) | (simp [*, errW_none, errW_some] <;> rfl), by repeat (first | (with_reducible first | exact HB.out | apply below_alloc | apply pw_below_drewN | apply below_drew1) | exact HB.out)⟩
end Go.Proofs.Ytehfcnndjhjkoaa.PA
namespace Go.Proofs.Ytehfcnndjhjkoaa.PA
open Go.RowKit Go.Proofs.YtehfcnndjhjkoaaW.PrintWords Go.Proofs.YtehfcnndjhjkoaaW.PrintLast Go.Proofs.YtehfcnndjhjkoaaW.PrintMore
set_option linter.unusedSimpArgs false
set_option linter.unusedVariables false
theorem w64 {x : Int} (h0 : -9223372036854775808 ≤ x) (h1 : x < 9223372036854775808) : wrap64 x = x := by unfold wrap64; omega
theorem rd_mid (p t : List Int) (a : Int) : rd (p ++ a :: t) (p.length : Int) = a := by simp [rd, List.getD_eq_getElem?_getD]
theorem len_lt {p t : List Int} {a : Int} : ((p.length : Nat) : Int) < (((p ++ a :: t).length : Nat) : Int) := by simp; omega
theorem len_nlt {p : List Int} : ¬ ((p.length : Nat) : Int) < (((p ++ ([] : List Int)).length : Nat) : Int) := by simp
theorem next_mid (p t : List Int) (a : Int) (h : (p ++ a :: t).length < 35184372088833) : wrap64 ((p.length : Int) + 1) = (((p ++ [a]).length : Nat) : Int) := by
  rw [w64 (by omega) (by simp at h; omega)]; simp
theorem app_mid (p t : List Int) (a : Int) : p ++ a :: t = (p ++ [a]) ++ t := by simp
theorem evVal {α : Type} {g : Nat → Option α} {r r' : α} (h : Ev g r) (e : r = r') : Ev g r' := e ▸ h
theorem evEq {α : Type} {g : Nat → Option α} {r : α} (h : ∀ k, g k = some r) : Ev g r := ⟨0, fun k _ => h k⟩
/-- One round whose test is decided: from the round's own equation. -/
theorem evRound {α : Type} {g f : Nat → Option α} {r : α} (k : Ev f r) (h : ∀ k, g (k + 1) = f k) : Ev g r := Ev.step h k

/-! ### copies -/
theorem set_mid (q t : List Int) (b a : Int) : (q ++ b :: t).set q.length a = (q ++ [a]) ++ t := by simp
theorem toIntS_loop : ∀ (t p q s : List Int), p.length = q.length → t.length = s.length → (p ++ t).length < 35184372088833 →
    Ev (fun k => laws_toIntS.l0 k (p ++ t) (q ++ s) (p.length : Int)) (q ++ t)
  | [], p, q, s, _, hs, _ => by
    obtain rfl : s = [] := List.eq_nil_of_length_eq_zero hs.symm
    refine evRound (Ev.now _) fun k => ?_
    simp only [laws_toIntS.l0]; rw [if_neg len_nlt]
  | a :: t, p, q, [], _, hs, _ => by simp at hs
  | a :: t, p, q, b :: s, hp, hs, hl => by
    have ih := toIntS_loop t (p ++ [a]) (q ++ [a]) s (by simp [hp]) (by simpa using hs) (by simpa using hl)
    rw [← app_mid, ← app_mid q t] at ih
    refine evRound ih fun k => ?_
    simp only [laws_toIntS.l0]
    rw [if_pos len_lt, if_pos (by omega), if_pos (by simp [hp]; omega), rd_mid, next_mid p t a hl, hp, Int.toNat_natCast, set_mid]
theorem toIntS_ev (l : List Int) (h : l.length ≤ 35184372088832) : Ev (fun k => laws_toIntS.f k l) l := by
  have h1 := toIntS_loop l [] [] (List.replicate l.length 0) rfl (by simp) (by simpa using (by omega : l.length < 35184372088833))
  refine Ev.congr (fun k => ?_) h1
  simp only [laws_toIntS.f]
  rw [if_pos (by omega), if_pos (by simpa using h)]
  simp
theorem toArray_ev (b : Bool) (l1 l2 : List Int) (h1 : l1.length ≤ 35184372088832) (h2 : l2.length ≤ 35184372088832) : Ev (fun k => laws_toArray.f k b l1 l2) (b, l1, l2) := by
  simp only [laws_toArray.f]
  exact Ev.bind (toIntS_ev l1 h1) (Ev.bind (toIntS_ev l2 h2) (Ev.now _))

/-! ### comparisons -/
theorem eqIntS_loop : ∀ (t p q s : List Int), p.length = q.length → t.length = s.length → (p ++ t).length < 35184372088833 →
    Ev (fun k => laws_eqIntS.l0 k (p ++ t) (q ++ s) (p.length : Int)) (decide (t = s))
  | [], p, q, s, _, hs, _ => by
    obtain rfl : s = [] := List.eq_nil_of_length_eq_zero hs.symm
    refine evRound (Ev.now _) fun k => ?_
    simp only [laws_eqIntS.l0]; rw [if_neg len_nlt]; simp
  | a :: t, p, q, [], _, hs, _ => by simp at hs
  | a :: t, p, q, b :: s, hp, hs, hl => by
    by_cases e : a = b
    · subst e
      have ih := eqIntS_loop t (p ++ [a]) (q ++ [a]) s (by simp [hp]) (by simpa using hs) (by simpa using hl)
      rw [← app_mid, ← app_mid] at ih
      refine evVal (evRound ih fun k => ?_) (by simp)
      simp only [laws_eqIntS.l0]
      rw [if_pos len_lt, if_pos (by omega), if_pos (by simp [hp]; omega), rd_mid, show rd (q ++ a :: s) (p.length : Int) = a by rw [hp]; exact rd_mid _ _ _, if_pos rfl, next_mid p t a hl]
    · refine evRound (Ev.now _) fun k => ?_
      simp only [laws_eqIntS.l0]
      rw [if_pos len_lt, if_pos (by omega), if_pos (by simp [hp]; omega), rd_mid, show rd (q ++ b :: s) (p.length : Int) = b by rw [hp]; exact rd_mid _ _ _, if_neg e]; simp [e]
theorem eqIntS_ev (l m : List Int) (h : l.length ≤ 35184372088832) : Ev (fun k => laws_eqIntS.f k l m) (decide (l = m)) := by
  by_cases e : l.length = m.length
  · have h1 := eqIntS_loop l [] [] m rfl e (by simpa using (by omega : l.length < 35184372088833))
    refine Ev.congr (fun k => ?_) h1
    simp only [laws_eqIntS.f]
    rw [if_pos (by omega)]; rfl
  · refine evEq fun k => ?_
    simp only [laws_eqIntS.f]
    rw [if_neg (by omega)]
    have : l ≠ m := fun h => e (h ▸ rfl)
    simp [this]
theorem eqArray_ev (b b' : Bool) (l1 l2 m1 m2 : List Int) (h1 : l1.length ≤ 35184372088832) (h2 : l2.length ≤ 35184372088832) :
    Ev (fun k => laws_eqArray.f k b l1 l2 b' m1 m2) (decide (b = b' ∧ l1 = m1 ∧ l2 = m2)) := by
  simp only [laws_eqArray.f]
  by_cases e : b = b'
  · subst e
    simp only [bne_self_eq_false, Bool.false_eq_true, if_false]
    refine Ev.bind (eqIntS_ev l1 m1 h1) ?_
    by_cases e1 : l1 = m1
    · simp only [e1, decide_true, if_true]
      refine Ev.bind (eqIntS_ev l2 m2 h2) ?_
      by_cases e2 : l2 = m2
      · simp only [e2, decide_true, if_true]; exact evVal (Ev.now _) (by simp)
      · simp only [e2, decide_false, Bool.false_eq_true, if_false]; exact evVal (Ev.now _) (by simp)
    · simp only [e1, decide_false, Bool.false_eq_true, if_false]; exact evVal (Ev.now _) (by simp)
  · simp only [show (b != b') = true by simpa using e, if_true]; exact evVal (Ev.now _) (by simp [e])
theorem eqArray_self (b : Bool) (l1 l2 : List Int) (h1 : l1.length ≤ 35184372088832) (h2 : l2.length ≤ 35184372088832) : Ev (fun k => laws_eqArray.f k b l1 l2 b l1 l2) true :=
  evVal (eqArray_ev b b l1 l2 l1 l2 h1 h2) (by simp)

/-! ### sizes -/
theorem szIntS_eq (l : List Int) (a : Int) (h0 : 0 ≤ a) (h1 : a ≤ 1048576) (hl : l.length ≤ maxLen) :
    laws_szIntS.f l a = some (if (l.length : Int) ≤ a then a - l.length else -1) := by
  unfold laws_szIntS.f; unfold maxLen at hl
  rw [w64 (by omega) (by omega)]
  by_cases h : (l.length : Int) ≤ a
  · rw [if_neg (by omega), if_pos h]
  · rw [if_pos (by omega), if_neg h]
theorem szArray_eq (b : Bool) (l1 l2 : List Int) (a : Int) (h0 : 0 ≤ a) (h1 : a ≤ 1048576) (hl1 : l1.length ≤ maxLen) (hl2 : l2.length ≤ maxLen) :
    laws_szArray.f b l1 l2 a = some (if (l1.length : Int) + l2.length ≤ a then a - l1.length - l2.length else -1) := by
  unfold laws_szArray.f
  rw [szIntS_eq l1 a h0 h1 hl1]; simp only [Option.bind_some]
  by_cases h : (l1.length : Int) ≤ a
  · rw [if_pos h, if_neg (by omega), szIntS_eq l2 _ (by omega) (by omega) hl2]; simp only [Option.bind_some]
    by_cases h' : (l2.length : Int) ≤ a - l1.length
    · rw [if_pos h', if_neg (by omega), if_pos (by omega)]
    · rw [if_neg h', if_pos (by omega), if_neg (by omega)]
  · rw [if_neg h, if_pos (by omega), if_neg (by omega)]

/-! ### shapes -/
/-- Every number in range, and the product of those that are not 0 at most 10000: from a product on. -/
def shGo : Int → List Int → Bool
  | _, [] => true
  | f, a :: t => decide (0 ≤ a ∧ a ≤ 10000) && (if a = 0 then shGo f t else decide (f * a ≤ 10000) && shGo (f * a) t)
def prod : List Int → Int
  | [] => 1
  | a :: t => a * prod t
def shOk (l : List Int) : Bool := decide (l.length ≤ 5) && shGo 1 l
theorem shGo_range : ∀ {l : List Int} {f : Int}, shGo f l = true → ∀ a ∈ l, 0 ≤ a ∧ a ≤ 10000
  | [], _, _, a, ha => by simp at ha
  | b :: t, f, h, a, ha => by
    simp only [shGo, Bool.and_eq_true, decide_eq_true_eq] at h
    rcases List.mem_cons.1 ha with rfl | ha
    · exact h.1
    · by_cases hb : b = 0
      · rw [if_pos hb] at h; exact shGo_range h.2 a ha
      · rw [if_neg hb] at h; simp only [Bool.and_eq_true] at h; exact shGo_range h.2.2 a ha
theorem prod_nonneg : ∀ {l : List Int}, (∀ a ∈ l, 0 ≤ a) → 0 ≤ prod l
  | [], _ => by simp [prod]
  | a :: t, h => Int.mul_nonneg (h a (by simp)) (prod_nonneg fun b hb => h b (by simp [hb]))
theorem shGo_prod : ∀ {l : List Int} {f : Int}, 1 ≤ f → shGo f l = true → prod l = 0 ∨ (f * prod l ≤ 10000 ∧ 1 ≤ prod l) ∨ l = []
  | [], _, _, _ => .inr (.inr rfl)
  | b :: t, f, hf, h => by
    have hr := shGo_range h
    simp only [shGo, Bool.and_eq_true, decide_eq_true_eq] at h
    by_cases hb : b = 0
    · subst hb; left; simp [prod]
    · rw [if_neg hb] at h; simp only [Bool.and_eq_true, decide_eq_true_eq] at h
      have hb1 : 1 ≤ b := by omega
      have hf1 : 1 ≤ f * b := by have := Int.mul_le_mul hf hb1 (by omega) (by omega); simpa using this
      rcases shGo_prod hf1 h.2.2 with h0 | ⟨h0, h1⟩ | rfl
      · left; simp [prod, h0]
      · right; left; simp only [prod]; refine ⟨by rw [← Int.mul_assoc]; exact h0, ?_⟩
        have := Int.mul_le_mul hb1 h1 (by omega) (by omega); simpa using this
      · right; left; simp only [prod, Int.mul_one]; exact ⟨h.2.1, hb1⟩
theorem shGo_bound {l : List Int} (h : shGo 1 l = true) : 0 ≤ prod l ∧ prod l ≤ 10000 := by
  rcases shGo_prod (by omega) h with h0 | ⟨h0, h1⟩ | rfl
  · omega
  · omega
  · simp [prod]
theorem within_eq (a b c : Int) : impl_within.f a b c = some (decide (b ≤ a ∧ a ≤ c)) := by
  unfold impl_within.f
  by_cases h : a ≥ b
  · rw [if_pos h]; simp; omega
  · rw [if_neg h]; simp; omega
/-- The product that the program keeps: 0, or the product of those that are not 0. -/
def szGo : Int → Int → List Int → Int × Bool
  | s, _, [] => (s, true)
  | s, f, a :: t => if 0 ≤ a ∧ a ≤ 10000 then (if a > 0 then (if f * a > 10000 then (0, false) else szGo (s * a) (f * a) t) else szGo (s * a) f t) else (0, false)
theorem szGo_eq : ∀ (l : List Int) (s f : Int), szGo s f l = if shGo f l then (s * prod l, true) else (0, false)
  | [], s, f => by simp [szGo, shGo, prod]
  | a :: t, s, f => by
    simp only [szGo, shGo]
    by_cases h : 0 ≤ a ∧ a ≤ 10000
    · rw [if_pos h]
      by_cases h0 : a = 0
      · subst h0; simp [szGo_eq t, prod]
      · rw [if_pos (by omega)]
        by_cases h1 : f * a > 10000
        · rw [if_pos h1]; simp [h, h0, show ¬ f * a ≤ 10000 by omega]
        · rw [if_neg h1, szGo_eq t]; simp [h, h0, show f * a ≤ 10000 by omega, prod, Int.mul_assoc]
    · rw [if_neg h]; simp [h]
theorem mul_in {s a : Int} (h0 : 0 ≤ s) (h1 : s ≤ 10000) (h2 : 0 ≤ a) (h3 : a ≤ 10000) : 0 ≤ s * a ∧ s * a ≤ 100000000 := by
  refine ⟨Int.mul_nonneg h0 h2, ?_⟩
  have := Int.mul_le_mul h1 h3 h2 (by omega : (0 : Int) ≤ 10000); omega
theorem shapeOk_loop : ∀ (t p : List Int) (s f : Int) (n : Int), (s = 0 ∨ s = f) → 0 ≤ f → f ≤ 10000 → (p ++ t).length < 35184372088833 → n = ((p ++ t).length : Nat) →
    Ev (fun k => impl_shapeOk.l0 k s f (p ++ t) n (p.length : Int)) (szGo s f t)
  | [], p, s, f, n, _, _, _, _, hn => by
    subst hn
    refine evRound (Ev.now _) fun k => ?_
    simp only [impl_shapeOk.l0]; rw [if_neg len_nlt]; rfl
  | a :: t, p, s, f, n, hs, h0, h1, hl, hn => by
    have hn' := hn
    subst hn
    have hsb : 0 ≤ s ∧ s ≤ 10000 := by rcases hs with rfl | rfl <;> omega
    by_cases ha : 0 ≤ a ∧ a ≤ 10000
    · have hsa := mul_in hsb.1 hsb.2 ha.1 ha.2
      have hfa := mul_in h0 h1 ha.1 ha.2
      by_cases hp : a > 0
      · by_cases hb : f * a > 10000
        · refine evRound (Ev.now _) fun k => ?_
          simp only [impl_shapeOk.l0, szGo]
          rw [if_pos len_lt, if_pos (by omega), if_pos len_lt, rd_mid, within_eq]; simp only [Option.bind_some, ha.1, ha.2, and_self, decide_true, if_true]
          rw [if_pos hp, w64 (by omega) (by omega), if_pos hb, if_pos hp, if_pos hb]
        · have ih := shapeOk_loop t (p ++ [a]) (s * a) (f * a) _ (by rcases hs with rfl | rfl <;> simp) hfa.1 (by omega) (by simpa using hl) rfl
          rw [← app_mid] at ih
          refine evVal (evRound ih fun k => ?_) (by simp [szGo, ha, hp, hb])
          simp only [impl_shapeOk.l0]
          rw [if_pos len_lt, if_pos (by omega), if_pos len_lt, rd_mid, within_eq]; simp only [Option.bind_some, ha.1, ha.2, and_self, decide_true, if_true]
          rw [if_pos hp, w64 (x := f * a) (by omega) (by omega), if_neg hb, w64 (x := s * a) (by omega) (by omega), next_mid p t a hl]
      · have ih := shapeOk_loop t (p ++ [a]) (s * a) f _ (by left; have : a = 0 := by omega
                                                             simp [this]) h0 h1 (by simpa using hl) rfl
        rw [← app_mid] at ih
        refine evVal (evRound ih fun k => ?_) (by simp [szGo, ha, hp])
        simp only [impl_shapeOk.l0]
        rw [if_pos len_lt, if_pos (by omega), if_pos len_lt, rd_mid, within_eq]; simp only [Option.bind_some, ha.1, ha.2, and_self, decide_true, if_true]
        rw [if_neg hp, if_neg (by omega), w64 (x := s * a) (by omega) (by omega), next_mid p t a hl]
    · refine evRound (Ev.now _) fun k => ?_
      simp only [impl_shapeOk.l0, szGo]
      rw [if_pos len_lt, if_pos (by omega), if_pos len_lt, rd_mid, within_eq, if_neg ha]; simp only [Option.bind_some, ha, decide_false, Bool.false_eq_true, if_false]
/-- What the program's shapeOk answers. -/
def shSize (l : List Int) : Int × Bool := if shOk l then (prod l, true) else (0, false)
theorem shapeOk_ev (l : List Int) : Ev (fun k => impl_shapeOk.f k l) (shSize l) := by
  unfold shSize shOk
  by_cases h : l.length ≤ 5
  · have h1 := shapeOk_loop l [] 1 1 _ (.inr rfl) (by omega) (by omega) (by simp; omega) rfl
    refine evVal (Ev.congr (fun k => ?_) h1) ?_
    · simp only [impl_shapeOk.f]; rw [if_neg (by omega)]; rfl
    · rw [szGo_eq]; simp [h]
  · refine evEq fun k => ?_
    simp only [impl_shapeOk.f]; rw [if_pos (by omega)]; simp [h]

/-- What the reference's l3Count answers. -/
def cnGo : Int → Bool → List Int → Int
  | x, z, [] => if z then 0 else x
  | x, z, a :: t => if a = 0 then cnGo x true t else if x * a > 10000 then -1 else cnGo (x * a) z t
def cnt (l : List Int) : Int := if shGo 1 l then prod l else -1
theorem cnGo_eq : ∀ (l : List Int) (x : Int) (z : Bool), (∀ a ∈ l, 0 ≤ a ∧ a ≤ 10000) → cnGo x z l = if shGo x l then (if z then 0 else x * prod l) else -1
  | [], x, z, _ => by simp [cnGo, shGo, prod]
  | a :: t, x, z, h => by
    have ha := h a (by simp)
    have ht : ∀ b ∈ t, 0 ≤ b ∧ b ≤ 10000 := fun b hb => h b (by simp [hb])
    simp only [cnGo, shGo]
    by_cases h0 : a = 0
    · subst h0; simp [cnGo_eq t _ _ ht, prod]
    · rw [if_neg h0]
      by_cases h1 : x * a > 10000
      · rw [if_pos h1]; simp [h0, show ¬ x * a ≤ 10000 by omega]
      · rw [if_neg h1, cnGo_eq t _ _ ht]; simp [ha, h0, show x * a ≤ 10000 by omega, prod, Int.mul_assoc]
theorem l3Count_loop1 : ∀ (t p : List Int) (x : Int) (z : Bool), (∀ a ∈ t, 0 ≤ a ∧ a ≤ 10000) → 0 ≤ x → x ≤ 10000 → (p ++ t).length < 35184372088833 →
    Ev (fun k => spec_l3Count.l1 k (p ++ t) x z (p.length : Int)) (cnGo x z t)
  | [], p, x, z, _, _, _, _ => by
    refine evRound (f := fun _ => some (cnGo x z [])) (Ev.now _) fun k => ?_
    simp only [spec_l3Count.l1]; rw [if_neg len_nlt]; cases z <;> simp [cnGo]
  | a :: t, p, x, z, hr, h0, h1, hl => by
    have ha := hr a (by simp)
    have hxa := mul_in h0 h1 ha.1 ha.2
    have ht : ∀ b ∈ t, 0 ≤ b ∧ b ≤ 10000 := fun b hb => hr b (by simp [hb])
    by_cases e : a = 0
    · have ih := l3Count_loop1 t (p ++ [a]) x true ht h0 h1 (by simpa using hl)
      rw [← app_mid] at ih
      refine evVal (evRound ih fun k => ?_) (by simp [cnGo, e])
      simp only [spec_l3Count.l1]
      rw [if_pos len_lt, if_pos (by omega), rd_mid, if_pos e, next_mid p t a hl]
    · by_cases hb : x * a > 10000
      · refine evRound (f := fun _ => some (cnGo x z (a :: t))) (Ev.now _) fun k => ?_
        simp only [spec_l3Count.l1]
        rw [if_pos len_lt, if_pos (by omega), rd_mid, if_neg e, w64 (by omega) (by omega), if_pos hb]; simp [cnGo, e, hb]
      · have ih := l3Count_loop1 t (p ++ [a]) (x * a) z ht hxa.1 (by omega) (by simpa using hl)
        rw [← app_mid] at ih
        refine evVal (evRound ih fun k => ?_) (by simp [cnGo, e, hb])
        simp only [spec_l3Count.l1]
        rw [if_pos len_lt, if_pos (by omega), rd_mid, if_neg e, w64 (by omega) (by omega), if_neg hb, next_mid p t a hl]
theorem l3Count_loop0 : ∀ (t p : List Int), (∀ a ∈ p, 0 ≤ a ∧ a ≤ 10000) → (p ++ t).length < 35184372088833 →
    Ev (fun k => spec_l3Count.l0 k (p ++ t) 1 (p.length : Int)) (if ∀ a ∈ t, 0 ≤ a ∧ a ≤ 10000 then cnGo 1 false (p ++ t) else -1)
  | [], p, hp, hl => by
    have h1 := l3Count_loop1 p [] 1 false hp (by omega) (by omega) (by simpa using hl)
    refine evVal (evRound h1 fun k => ?_) (by simp)
    simp only [spec_l3Count.l0]; rw [if_neg len_nlt]; simp
  | a :: t, p, hp, hl => by
    by_cases ha : 0 ≤ a ∧ a ≤ 10000
    · have ih := l3Count_loop0 t (p ++ [a]) (fun b hb => by rcases List.mem_append.1 hb with h | h
                                                            · exact hp b h
                                                            · obtain rfl := List.mem_singleton.1 h; exact ha) (by simpa using hl)
      rw [← app_mid] at ih
      refine evVal (evRound ih fun k => ?_) (by simp [ha])
      simp only [spec_l3Count.l0]
      rw [if_pos len_lt, if_pos (by omega), rd_mid, if_neg (by omega), if_neg (by omega), next_mid p t a hl]
    · refine evRound (f := fun _ => some (-1)) (evVal (Ev.now _) (by rw [if_neg]; intro h; exact ha (h a (by simp)))) fun k => ?_
      simp only [spec_l3Count.l0]
      rw [if_pos len_lt, if_pos (by omega), rd_mid]
      by_cases h : a < 0
      · rw [if_pos h]
      · rw [if_neg h, if_pos (by omega)]
theorem l3Count_ev (l : List Int) (h : l.length ≤ 35184372088832) : Ev (fun k => spec_l3Count.f k l) (cnt l) := by
  have h1 := l3Count_loop0 l [] (by simp) (by simp; omega)
  refine evVal (Ev.congr (fun k => rfl) h1) ?_
  unfold cnt
  by_cases hr : ∀ a ∈ l, 0 ≤ a ∧ a ≤ 10000
  · rw [if_pos hr, List.nil_append, cnGo_eq l 1 false hr]; simp
  · rw [if_neg hr, if_neg]; intro hs; exact hr (shGo_range hs)
def cellOk (b : Bool) (v : Int) : Bool := if b then decide (0 ≤ v ∧ v ≤ 1114111 ∧ (v < 55296 ∨ v > 57343)) else decide (-1000000000000000 ≤ v ∧ v ≤ 1000000000000000)
def arrOk (b : Bool) (l1 l2 : List Int) : Bool := shOk l1 && decide (prod l1 = l2.length) && l2.all (cellOk b)

theorem l1RuneOk_eq (v : Int) : spec_l1RuneOk.f v = some (cellOk true v) := by
  unfold spec_l1RuneOk.f cellOk
  simp only [if_true]
  by_cases h : v ≥ 0
  · rw [if_pos h]
    by_cases h1 : v ≤ 1114111
    · rw [if_pos h1]
      by_cases h2 : v < 55296
      · rw [if_pos h2]; simp; omega
      · rw [if_neg h2, Option.some.injEq, decide_eq_decide]; omega
    · rw [if_neg h1]; simp; omega
  · rw [if_neg h]; simp; omega
theorem specArrayOk_loop (b : Bool) (l1 : List Int) : ∀ (t p : List Int), (p ++ t).length < 35184372088833 → Ev (fun k => spec_ArrayOk.l0 k (p.length : Int) b l1 (p ++ t)) (t.all (cellOk b))
  | [], p, _ => by
    refine evRound (Ev.now _) fun k => ?_
    simp only [spec_ArrayOk.l0]; rw [if_neg len_nlt]; simp
  | a :: t, p, hl => by
    by_cases hc : cellOk b a = true
    · have ih := specArrayOk_loop b l1 t (p ++ [a]) (by simpa using hl)
      rw [← app_mid] at ih
      refine evVal (evRound ih fun k => ?_) (by simp [hc])
      simp only [spec_ArrayOk.l0]
      rw [if_pos len_lt, if_pos (by omega), rd_mid, next_mid p t a hl]
      cases b with
      | true =>
        rw [if_pos rfl, l1RuneOk_eq]; simp only [Option.bind_some, hc, if_true]
        have := hc; simp only [cellOk, if_true, decide_eq_true_eq] at this
        rw [if_neg (by omega), if_neg (by omega)]
      | false =>
        have := hc; simp only [cellOk, Bool.false_eq_true, if_false, decide_eq_true_eq] at this
        rw [if_neg (by simp), if_neg (by omega), if_neg (by omega)]
    · refine evRound (Ev.now _) fun k => ?_
      simp only [spec_ArrayOk.l0]
      rw [if_pos len_lt, if_pos (by omega), rd_mid]
      simp only [Bool.not_eq_true] at hc
      cases b with
      | true => rw [if_pos rfl, l1RuneOk_eq]; simp [hc]
      | false =>
        have h' := hc; simp only [cellOk, Bool.false_eq_true, if_false, decide_eq_false_iff_not] at h'
        rw [if_neg (by simp)]
        by_cases h1 : a > 1000000000000000
        · rw [if_pos h1]; simp [hc]
        · rw [if_neg h1, if_pos (by omega)]; simp [hc]
theorem specArrayOk_ev (b : Bool) (l1 l2 : List Int) (h1 : l1.length ≤ 35184372088832) (h2 : l2.length ≤ 35184372088832) : Ev (fun k => spec_ArrayOk.f k b l1 l2) (arrOk b l1 l2) := by
  have hj : ∀ c : Bool, Ev (fun k => spec_ArrayOk.j0 k c b l1 l2) (!c && l2.all (cellOk b)) := by
    intro c
    cases c with
    | true => exact evVal (evRound (f := fun _ => some false) (Ev.now _) fun k => by simp only [spec_ArrayOk.j0, if_true]) (by simp)
    | false =>
      have := specArrayOk_loop b l1 l2 [] (by simp; omega)
      exact evVal (evRound this fun k => by simp only [spec_ArrayOk.j0, Bool.false_eq_true, if_false]; rfl) (by simp)
  simp only [spec_ArrayOk.f, arrOk, shOk]
  by_cases h : (l1.length : Int) > 5
  · simp only [h, if_true]; exact evVal (hj true) (by simp [show ¬ l1.length ≤ 5 by omega])
  · simp only [h, if_false]
    refine Ev.bind (l3Count_ev l1 h1) ?_
    refine evVal (hj _) ?_
    unfold cnt
    by_cases hs : shGo 1 l1 = true
    · simp [hs, show l1.length ≤ 5 by omega, bne, Bool.beq_eq_decide_eq]
    · simp only [hs, Bool.false_eq_true, if_false, Bool.and_false, Bool.false_and]
      simp [bne]

theorem validRune_ev (v : Int) (h0 : 0 ≤ v) (h1 : v ≤ 1114111) : Ev (fun k => utf8_ValidRune.f k v) (cellOk true v) := by
  have hj : ∀ c : Bool, Ev (fun k => utf8_ValidRune.j0 k v c) (c || decide (57343 < v)) := by
    intro c
    cases c with
    | true => exact evVal (evRound (f := fun _ => some true) (Ev.now _) fun k => by simp only [utf8_ValidRune.j0, if_true]) (by simp)
    | false =>
      refine evRound (Ev.now _) fun k => ?_
      simp only [utf8_ValidRune.j0, Bool.false_eq_true, if_false, h1, if_true]
      by_cases h : 57343 < v
      · rw [if_pos h]; simp [h]
      · rw [if_neg h]; simp [h]
  simp only [utf8_ValidRune.f, h0, if_true]
  refine evVal (hj _) ?_
  simp only [cellOk, if_true]
  rw [Bool.eq_iff_iff]; simp; omega
theorem charOk_ev (v : Int) : Ev (fun k => impl_charOk.f k v) (cellOk true v) := by
  simp only [impl_charOk.f, within_eq, Option.bind_some]
  by_cases h : 0 ≤ v ∧ v ≤ 1114111
  · simp only [h, and_self, decide_true, if_true]
    have hw : wrap32 v = v := by unfold wrap32; omega
    rw [hw]
    exact Ev.bind (validRune_ev v h.1 h.2) (Ev.now _)
  · simp only [h, decide_false, Bool.false_eq_true, if_false]
    exact evVal (Ev.now _) (by simp only [cellOk, if_true]; symm; simp; omega)
theorem implArrayOk_loop (b : Bool) (l1 l2 : List Int) : ∀ (t p : List Int) (n : Int), n = ((p ++ t).length : Nat) → (p ++ t).length < 35184372088833 → Ev (fun k => impl_ArrayOk.l0 k (p ++ t) n (p.length : Int) b l1 l2) (t.all (cellOk b))
  | [], p, n, hn, _ => by
    subst hn
    refine evRound (Ev.now _) fun k => ?_
    simp only [impl_ArrayOk.l0]; rw [if_neg len_nlt]; simp
  | a :: t, p, n, hn, hl => by
    subst hn
    cases b with
    | true =>
      refine evRound (f := fun k => (impl_charOk.f k a).bind fun t105 => if t105 = true then impl_ArrayOk.l0 k ((p ++ [a]) ++ t) ((((p ++ [a]) ++ t).length : Nat) : Int) (((p ++ [a]).length : Nat) : Int) true l1 l2 else some false) ?_ fun k => ?_
      · refine Ev.bind (charOk_ev a) ?_
        by_cases hc : cellOk true a = true
        · simp only [hc, if_true]; exact evVal (implArrayOk_loop true l1 l2 t (p ++ [a]) _ rfl (by simpa using hl)) (by simp [hc])
        · simp only [hc, Bool.false_eq_true, if_false]; exact evVal (Ev.now _) (by simp [hc])
      · simp only [impl_ArrayOk.l0]
        rw [if_pos len_lt, if_pos (by omega), if_pos len_lt, if_pos trivial, rd_mid, next_mid p t a hl, ← app_mid]
    | false =>
      by_cases hc : cellOk false a = true
      · have ih := implArrayOk_loop false l1 l2 t (p ++ [a]) _ rfl (by simpa using hl)
        rw [← app_mid] at ih
        refine evVal (evRound ih fun k => ?_) (by simp [hc])
        have h' := hc; simp only [cellOk, Bool.false_eq_true, if_false, decide_eq_true_eq] at h'
        simp only [impl_ArrayOk.l0]
        rw [if_pos len_lt, if_pos (by omega), if_pos len_lt, if_neg (by simp), rd_mid, within_eq, next_mid p t a hl]; simp only [Option.bind_some, h', and_self, decide_true, if_true]
      · refine evRound (Ev.now _) fun k => ?_
        have h' := hc; simp only [cellOk, Bool.false_eq_true, if_false, decide_eq_true_eq] at h'
        simp only [impl_ArrayOk.l0]
        rw [if_pos len_lt, if_pos (by omega), if_pos len_lt, if_neg (by simp), rd_mid, within_eq]; simp only [Option.bind_some, h', decide_false, Bool.false_eq_true, if_false]
        simp [hc]
theorem implArrayOk_ev (b : Bool) (l1 l2 : List Int) (h2 : l2.length ≤ 35184372088832) : Ev (fun k => impl_ArrayOk.f k b l1 l2) (arrOk b l1 l2) := by
  have hj : ∀ c : Bool, Ev (fun k => impl_ArrayOk.j0 k c b l1 l2) (!c && l2.all (cellOk b)) := by
    intro c
    cases c with
    | true => exact evVal (evRound (f := fun _ => some false) (Ev.now _) fun k => by simp only [impl_ArrayOk.j0, if_true]) (by simp)
    | false =>
      have := implArrayOk_loop b l1 l2 l2 [] _ rfl (by simp; omega)
      exact evVal (evRound this fun k => by simp only [impl_ArrayOk.j0, Bool.false_eq_true, if_false]; rfl) (by simp)
  simp only [impl_ArrayOk.f]
  refine Ev.bind (shapeOk_ev l1) ?_
  unfold shSize arrOk
  by_cases h : shOk l1 = true
  · simp only [h, if_true]; exact evVal (hj _) (by simp [bne, Bool.beq_eq_decide_eq])
  · simp only [h, Bool.false_eq_true, if_false]; exact evVal (hj true) (by simp)
theorem l3ShapeOk_ev (l : List Int) (h : l.length ≤ 35184372088832) : Ev (fun k => spec_l3ShapeOk.f k l) (shOk l) := by
  simp only [spec_l3ShapeOk.f, shOk]
  by_cases h5 : (l.length : Int) ≤ 5
  · simp only [h5, if_true]
    refine Ev.bind (l3Count_ev l h) ?_
    refine evVal (Ev.now _) ?_
    unfold cnt
    by_cases hs : shGo 1 l = true
    · have := shGo_bound hs
      simp [hs, show l.length ≤ 5 by omega]; omega
    · simp [hs]
  · simp only [h5, if_false]; exact evVal (Ev.now _) (by simp [show ¬ l.length ≤ 5 by omega])

/-- The numbers from a on, n of them. -/
def upFrom : Int → Nat → List Int
  | _, 0 => []
  | a, n + 1 => a :: upFrom (a + 1) n
theorem upFrom_len : ∀ (n : Nat) (a : Int), (upFrom a n).length = n
  | 0, _ => rfl
  | n + 1, a => by simp [upFrom, upFrom_len n]
theorem markIntS_loop : ∀ (t p : List Int) (a : Int), (p ++ t).length < 35184372088833 → 0 ≤ a → a + t.length ≤ 9000000000000000000 →
    Ev (fun k => laws_markIntS.l0 k (p ++ t) a (p.length : Int)) (a + t.length, p ++ upFrom a t.length)
  | [], p, a, _, _, _ => by
    refine evVal (evRound (Ev.now _) fun k => ?_) (by simp [upFrom] : (a, p ++ []) = _)
    simp only [laws_markIntS.l0]; rw [if_neg len_nlt]
  | b :: t, p, a, hl, h0, h1 => by
    have ih := markIntS_loop t (p ++ [a]) (a + 1) (by simpa using hl) (by omega) (by simp only [List.length_cons] at h1; omega)
    refine evVal (evRound ih fun k => ?_) (by simp [upFrom]; omega)
    simp only [laws_markIntS.l0]
    rw [if_pos len_lt, if_pos (by omega), next_mid p t b hl, Int.toNat_natCast, set_mid, w64 (by omega) (by simp only [List.length_cons] at h1; omega)]
    simp
theorem markIntS_ev (l : List Int) (a : Int) (hl : l.length ≤ 35184372088832) (h0 : 0 ≤ a) (h1 : a ≤ 1000000000000000000) : Ev (fun k => laws_markIntS.f k l a) (a + l.length, upFrom a l.length) := by
  have := markIntS_loop l [] a (by simp; omega) h0 (by omega)
  simpa [laws_markIntS.f] using this
theorem heldIntS_loop : ∀ (n : Nat) (p : List Int) (a : Int), p.length + n < 35184372088833 → 0 ≤ a → a + n ≤ 9000000000000000000 →
    Ev (fun k => laws_heldIntS.l0 k (p ++ upFrom a n) a (p.length : Int)) (a + n)
  | 0, p, a, _, _, _ => by
    rw [show upFrom a 0 = [] from rfl]
    refine evVal (evRound (Ev.now a) fun k => ?_) (by simp)
    simp only [laws_heldIntS.l0]; rw [if_neg len_nlt]
  | n + 1, p, a, hl, h0, h1 => by
    have ih := heldIntS_loop n (p ++ [a]) (a + 1) (by simp; omega) (by omega) (by omega)
    rw [← app_mid] at ih
    rw [show upFrom a (n + 1) = a :: upFrom (a + 1) n from rfl]
    refine evVal (evRound ih fun k => ?_) (by omega)
    simp only [laws_heldIntS.l0]
    rw [if_pos len_lt, if_pos (by omega), rd_mid, if_pos rfl, next_mid p (upFrom (a + 1) n) a (by simp [upFrom_len]; omega), w64 (by omega) (by omega)]
theorem heldIntS_ev (n : Nat) (a : Int) (hl : n ≤ 35184372088832) (h0 : 0 ≤ a) (h1 : a ≤ 1000000000000000000) : Ev (fun k => laws_heldIntS.f k (upFrom a n) a) (a + n) := by
  have := heldIntS_loop n [] a (by simp; omega) h0 (by omega)
  simpa [laws_heldIntS.f] using this
theorem shOk_len {l : List Int} (h : shOk l = true) : l.length ≤ 5 := by
  simp only [shOk, Bool.and_eq_true, decide_eq_true_eq] at h; exact h.1
theorem shOk_range {l : List Int} (h : shOk l = true) : ∀ a ∈ l, 0 ≤ a ∧ a ≤ 10000 := by
  simp only [shOk, Bool.and_eq_true, decide_eq_true_eq] at h; exact shGo_range h.2
theorem shOk_prod {l : List Int} (h : shOk l = true) : 0 ≤ prod l ∧ prod l ≤ 10000 := by
  simp only [shOk, Bool.and_eq_true, decide_eq_true_eq] at h; exact shGo_bound h.2

theorem markArray_ev (b : Bool) (l1 l2 : List Int) (a : Int) (h1 : l1.length ≤ 35184372088832) (h2 : l2.length ≤ 35184372088832) (h0 : 0 ≤ a) (ha : a ≤ 100000000000000000) :
    Ev (fun k => laws_markArray.f k b l1 l2 a) (a + l1.length + l2.length, upFrom a l1.length, upFrom (a + l1.length) l2.length) := by
  simp only [laws_markArray.f]
  exact Ev.bind (markIntS_ev l1 a h1 h0 (by omega)) (Ev.bind (markIntS_ev l2 (a + l1.length) h2 (by omega) (by omega)) (Ev.now _))
theorem heldArray_ev (b : Bool) (n m : Nat) (a : Int) (h1 : n ≤ 35184372088832) (h2 : m ≤ 35184372088832) (h0 : 0 ≤ a) (ha : a ≤ 100000000000000000) :
    Ev (fun k => laws_heldArray.f k b (upFrom a n) (upFrom (a + n) m) a) (a + n + m) := by
  simp only [laws_heldArray.f]
  refine Ev.bind (heldIntS_ev n a h1 h0 (by omega)) ?_
  simp only [show ¬ a + (n : Int) < 0 by omega, if_false]
  refine Ev.bind (heldIntS_ev m (a + n) h2 (by omega) (by omega)) ?_
  simp only [show ¬ a + (n : Int) + (m : Int) < 0 by omega, if_false]
  exact Ev.now _
theorem arrOk_sh {b : Bool} {l1 l2 : List Int} (h : arrOk b l1 l2 = true) : shOk l1 = true := by
  unfold arrOk at h; simp only [Bool.and_eq_true] at h; exact h.1.1
theorem arrOk_prod {b : Bool} {l1 l2 : List Int} (h : arrOk b l1 l2 = true) : prod l1 = l2.length := by
  unfold arrOk at h; simp only [Bool.and_eq_true, decide_eq_true_eq] at h; exact h.1.2
theorem arrOk_len {b : Bool} {l1 l2 : List Int} (h : arrOk b l1 l2 = true) : l1.length ≤ 5 ∧ l2.length ≤ 10000 := by
  have h1 := shOk_len (arrOk_sh h); have h2 := shOk_prod (arrOk_sh h); have h3 := arrOk_prod h; omega
theorem arrOk_cells {b : Bool} {l1 l2 : List Int} (h : arrOk b l1 l2 = true) : ∀ x ∈ l2, -1000000000000000 ≤ x ∧ x ≤ 1000000000000000 := fun x hx => by
  unfold arrOk at h; simp only [Bool.and_eq_true, List.all_eq_true] at h
  have := h.2 x hx
  unfold cellOk at this
  cases b
  · simp only [Bool.false_eq_true, if_false, decide_eq_true_eq] at this; exact this
  · simp only [if_true, decide_eq_true_eq] at this; omega
/-! ### valid -/
theorem valid_one (k : Nat) (t p : List S28) (a : S28) : impl_valid.l0 (k + 1) (p ++ a :: t) ((p ++ a :: t).length : Int) (p.length : Int) = (impl_ArrayOk.f k a.f0 a.f1 a.f2).bind fun r => if r = true then impl_valid.l0 k (p ++ a :: t) ((p ++ a :: t).length : Int) (wrap64 ((p.length : Int) + 1)) else some 3 := by
  simp only [impl_valid.l0]
  rw [if_pos (by simp; omega), if_pos (by omega), if_pos (by simp; omega)]
  simp [rd_T28, List.getD_eq_getElem?_getD]
theorem valid_ev1 (b : Bool) (l1 l2 : List Int) (h2 : l2.length ≤ 35184372088832) : Ev (fun k => impl_valid.f k [⟨b, l1, l2⟩]) (if arrOk b l1 l2 then 0 else 3) := by
  simp only [impl_valid.f]
  refine evRound (f := fun k => (impl_ArrayOk.f k b l1 l2).bind fun r => if r = true then impl_valid.l0 k [⟨b, l1, l2⟩] 1 1 else some 3) ?_ (fun k => ?_)
  · refine Ev.bind (implArrayOk_ev b l1 l2 h2) ?_
    by_cases h : arrOk b l1 l2 = true
    · simp only [h, if_true]; exact evRound (Ev.now _) fun k => by simp [impl_valid.l0]
    · simp only [h, if_false]; exact Ev.now _
  · have := valid_one k [] [] ⟨b, l1, l2⟩
    simp only [List.nil_append, List.length_nil, List.length_cons] at this
    exact this.trans (by rw [w64 (by omega) (by omega)]; rfl)
/-! ### of -/
def fillV (c : Bool) : Int := if c then 32 else 0
def ofV (c : Bool) (l : List Int) (i : Int) : Int := if i ≥ 0 then rd l i else fillV c
/-- The elements of which a move makes an array. -/
def ofL (c : Bool) (l fr : List Int) : List Int := fr.map (ofV c l)
theorem fill_eq (c : Bool) (l1 l2 : List Int) : impl_Array_fill.f c l1 l2 = some (fillV c) := by unfold impl_Array_fill.f fillV; cases c <;> rfl
theorem set_once (p z : List Int) (a x : Int) (n : Nat) (h : p.length = n) : (p ++ x :: z).set n a = p ++ a :: z := by subst h; simp
/-- The next index: the odometer's step over the first a axes. -/
def odo (s : List Int) : Nat → List Int → List Int
  | 0, cur => cur
  | a + 1, cur => if wrap64 (rd cur (a : Int) + 1) < rd s (a : Int) then cur.set a (wrap64 (rd cur (a : Int) + 1)) else odo s a (cur.set a 0)
def idxL (s : List Int) : Nat → List Int
  | 0 => List.replicate s.length 0
  | t + 1 => odo s s.length (idxL s t)
theorem odo_len (s : List Int) : ∀ (a : Nat) (cur : List Int), (odo s a cur).length = cur.length
  | 0, _ => rfl
  | a + 1, cur => by rw [odo]; split; simp; rw [odo_len s a]; simp
theorem idxL_len (s : List Int) : ∀ t, (idxL s t).length = s.length
  | 0 => by simp [idxL]
  | t + 1 => by rw [idxL, odo_len, idxL_len s t]

/-- The digits of a number over a shape that is read from its end. -/
def digR : List Int → Int → List Int
  | [], _ => []
  | a :: r, c => c % a :: digR r (c / a)
def digs (s : List Int) (c : Int) : List Int := (digR s.reverse c).reverse
theorem digR_len : ∀ (r : List Int) (c : Int), (digR r c).length = r.length
  | [], _ => rfl
  | a :: r, c => by simp [digR, digR_len r]
theorem digs_len (s : List Int) (c : Int) : (digs s c).length = s.length := by simp [digs, digR_len]
theorem digs_snoc (p : List Int) (a c : Int) : digs (p ++ [a]) c = digs p (c / a) ++ [c % a] := by simp [digs, digR]
theorem digs_nil (c : Int) : digs [] c = [] := rfl
theorem digR_zero : ∀ (r : List Int), digR r 0 = List.replicate r.length 0
  | [] => rfl
  | a :: r => by simp [digR, digR_zero r, List.replicate_succ]
theorem digs_zero (s : List Int) : digs s 0 = List.replicate s.length 0 := by simp [digs, digR_zero]
theorem snocI {n : Nat} {p : List Int} (h : p.length = n + 1) : ∃ q a, p = q ++ [a] ∧ q.length = n := by
  rcases List.eq_nil_or_concat p with rfl | ⟨q, a, rfl⟩
  · simp at h
  · refine ⟨q, a, by simp, ?_⟩; simpa using h
theorem step_same {c a : Int} (h0 : 0 ≤ c) (ha : 1 ≤ a) (h : c % a + 1 < a) : (c + 1) / a = c / a ∧ (c + 1) % a = c % a + 1 := by
  have e := Int.emod_add_mul_ediv c a
  have h1 := Int.emod_nonneg c (show a ≠ 0 by omega)
  have : c + 1 = (c % a + 1) + a * (c / a) := by omega
  constructor
  · rw [this, Int.add_mul_ediv_left _ _ (by omega), Int.ediv_eq_zero_of_lt (by omega) h]; omega
  · rw [this, Int.add_mul_emod_self_left, Int.emod_eq_of_lt (by omega) h]
theorem step_next {c a : Int} (h0 : 0 ≤ c) (ha : 1 ≤ a) (h : ¬ c % a + 1 < a) : (c + 1) / a = c / a + 1 ∧ (c + 1) % a = 0 := by
  have e := Int.emod_add_mul_ediv c a
  have h1 := Int.emod_lt_of_pos c (show 0 < a by omega)
  have : c + 1 = a * (c / a + 1) := by rw [Int.mul_add]; omega
  constructor
  · rw [this, Int.mul_ediv_cancel_left _ (by omega)]
  · rw [this, Int.mul_emod_right]
theorem rd_last (p z : List Int) (a : Int) (n : Nat) (h : p.length = n) : rd (p ++ a :: z) (n : Int) = a := by subst h; simp [rd, List.getD_eq_getElem?_getD]
theorem set_last (p z : List Int) (a b : Int) (n : Nat) (h : p.length = n) : (p ++ a :: z).set n b = p ++ b :: z := by subst h; simp
/-- One step of the odometer over the first axes. -/
theorem odo_step : ∀ (n : Nat) (p q z : List Int) (c : Int), p.length = n → 0 ≤ c → (∀ a ∈ p, 1 ≤ a ∧ a ≤ 1000000000) → odo (p ++ q) n (digs p c ++ z) = digs p (c + 1) ++ z
  | 0, p, q, z, c, hp, _, _ => by
    obtain rfl := List.eq_nil_of_length_eq_zero hp
    simp [digs_nil, odo]
  | n + 1, p, q, z, c, hp, hc, hr => by
    obtain ⟨p, a, rfl, hq⟩ := snocI hp
    have ha := hr a (by simp)
    have h1 := Int.emod_nonneg c (show a ≠ 0 by omega)
    have h2 := Int.emod_lt_of_pos c (show 0 < a by omega)
    have hdl : (digs p (c / a)).length = n := by rw [digs_len, hq]
    rw [digs_snoc, digs_snoc, odo, List.append_assoc, List.append_assoc, List.append_assoc]
    simp only [List.singleton_append]
    rw [rd_last _ _ _ n hdl, rd_last _ _ _ n hq, w64 (by omega) (by omega), set_last _ _ _ _ n hdl, set_last _ _ _ _ n hdl]
    by_cases h : c % a + 1 < a
    · rw [if_pos h, (step_same hc ha.1 h).1, (step_same hc ha.1 h).2]
    · rw [if_neg h, (step_next hc ha.1 h).1, (step_next hc ha.1 h).2]
      exact odo_step n p (a :: q) (0 :: z) (c / a) hq (Int.ediv_nonneg hc (by omega)) (fun x hx => hr x (by simp [hx]))
/-- The odometer's list is the list of digits. -/
theorem idxL_digs (s : List Int) (hr : ∀ a ∈ s, 1 ≤ a ∧ a ≤ 1000000000) : ∀ t : Nat, idxL s t = digs s (t : Int)
  | 0 => by rw [idxL]; exact (digs_zero s).symm
  | t + 1 => by
    have := odo_step s.length s [] [] (t : Int) rfl (by omega) hr
    simp only [List.append_nil] at this
    rw [idxL, idxL_digs s hr t, this]; rfl
theorem prod_app : ∀ (p q : List Int), prod (p ++ q) = prod p * prod q
  | [], q => by simp [prod]
  | a :: p, q => by simp only [List.cons_append, prod, prod_app p q, Int.mul_assoc]
/-- A shape with an element has no number below 1. -/
theorem pos_of_prod : ∀ {s : List Int}, (∀ a ∈ s, 0 ≤ a) → 0 < prod s → ∀ a ∈ s, 1 ≤ a
  | [], _, _, a, ha => by simp at ha
  | b :: s, h, hp, a, ha => by
    have hb := h b (by simp)
    have hs := prod_nonneg (l := s) (fun x hx => h x (by simp [hx]))
    have hb1 : 1 ≤ b := by
      rcases Int.lt_or_le 0 b with h1 | h1
      · omega
      · have : b = 0 := by omega
        simp [prod, this] at hp
    have hs1 : 0 < prod s := by
      rcases Int.lt_or_le 0 (prod s) with h1 | h1
      · exact h1
      · have : prod s = 0 := by omega
        simp [prod, this] at hp
    rcases List.mem_cons.1 ha with rfl | ha
    · exact hb1
    · exact pos_of_prod (fun x hx => h x (by simp [hx])) hs1 a ha
theorem idxL_of {s : List Int} (h0 : ∀ a ∈ s, 0 ≤ a ∧ a ≤ 10000) {t : Nat} (ht : (t : Int) < prod s) : idxL s t = digs s (t : Int) :=
  idxL_digs s (fun a ha => ⟨pos_of_prod (fun x hx => (h0 x hx).1) (by omega) a ha, by have := (h0 a ha).2; omega⟩) t
theorem set_backI (n : Nat) (ys : List Int) (x : Int) : (List.replicate (n + 1) (0 : Int) ++ ys).set n x = List.replicate n 0 ++ x :: ys := by
  rw [List.replicate_succ']; simp
theorem l5Index_loop : ∀ (n : Nat) (p q dn : List Int) (c : Int), p.length = n → (p ++ q).length ≤ 1000000 → 0 ≤ c → c ≤ 1000000000 → (∀ a ∈ p, 1 ≤ a ∧ a ≤ 1000000000) →
    Ev (fun k => spec_l5Index.l0 k (p ++ q) c (List.replicate n 0 ++ dn) ((n : Int) - 1)) (digs p c ++ dn)
  | 0, p, q, dn, c, hp, _, _, _, _ => by
    obtain rfl := List.eq_nil_of_length_eq_zero hp
    refine evVal (evRound (Ev.now _) fun k => ?_) rfl
    simp only [spec_l5Index.l0]; rw [if_neg (by omega)]; simp [digs_nil]
  | n + 1, p, q, dn, c, hp, hl, h0, h1, hr => by
    obtain ⟨p, a, rfl, hq⟩ := snocI hp
    have ha := hr a (by simp)
    have ih := l5Index_loop n p (a :: q) (c % a :: dn) (c / a) hq (by simpa using hl) (Int.ediv_nonneg h0 (by omega)) (by have := Int.ediv_le_self a h0; omega) (fun x hx => hr x (by simp [hx]))
    rw [digs_snoc]
    refine evVal (evRound ih fun k => ?_) (by simp)
    have e : p ++ [a] ++ q = p ++ a :: q := by simp
    have hn : ((n + 1 : Nat) : Int) - 1 = (n : Int) := by omega
    have hlen : (p ++ [a] ++ q).length ≤ 1000000 := hl
    rw [e, hn]
    simp only [spec_l5Index.l0]
    rw [if_pos (by omega), if_pos (by omega), if_pos (by simp; omega), rd_last p q a n hq, if_neg (by omega), if_pos (by simp; omega), Int.toNat_natCast, set_backI,
      Int.tdiv_eq_ediv_of_nonneg h0, Int.tmod_eq_emod_of_nonneg h0, w64 (x := c / a) (by have := Int.ediv_nonneg h0 (show 0 ≤ a by omega); omega) (by have := Int.ediv_le_self a h0; omega),
      w64 (by omega) (by simp at hlen; omega)]
theorem l5Index_ev (s : List Int) (c : Int) (hl : s.length ≤ 1000000) (h0 : 0 ≤ c) (h1 : c ≤ 1000000000) (hr : ∀ a ∈ s, 1 ≤ a ∧ a ≤ 1000000000) : Ev (fun k => spec_l5Index.f k s c) (digs s c) := by
  have h := l5Index_loop s.length s [] [] c rfl (by simpa using hl) h0 h1 hr
  simp only [List.append_nil] at h
  refine Ev.congr (fun k => ?_) h
  simp only [spec_l5Index.f]
  rw [if_pos (by omega), if_pos (by omega), w64 (by omega) (by omega)]
  simp
/-- The number of an element, from an axis and a number on, over the numbers that are left (as the program reckons it). -/
def numGo (sh : List Int) : Nat → Int → List Int → Int
  | _, n, [] => n
  | k, n, i :: t => numGo sh (k + 1) (wrap64 (wrap64 (n * rd sh (k : Int)) + i)) t
/-- The same without bounds. -/
def hor : Int → List Int → List Int → Int
  | n, a :: sh, d :: ds => hor (n * a + d) sh ds
  | n, _, _ => n
theorem prod_snoc (p : List Int) (a : Int) : prod (p ++ [a]) = prod p * a := by rw [prod_app]; simp [prod]
theorem prod_pos : ∀ {p : List Int}, (∀ a ∈ p, 1 ≤ a) → 1 ≤ prod p
  | [], _ => by simp [prod]
  | a :: p, h => by
    have h1 := h a (by simp)
    have h2 := prod_pos (p := p) (fun x hx => h x (by simp [hx]))
    have := Int.mul_le_mul h1 h2 (by omega) (by omega)
    simpa [prod] using this
theorem digs_range : ∀ (n : Nat) (s : List Int) (c : Int), s.length = n → (∀ a ∈ s, 1 ≤ a) → 0 ≤ c → ∀ k : Nat, k < n → 0 ≤ rd (digs s c) (k : Int) ∧ rd (digs s c) (k : Int) < rd s (k : Int)
  | 0, s, c, hn, _, _, k, hk => by omega
  | n + 1, s, c, hn, hs, h0, k, hk => by
    obtain ⟨p, a, rfl, hp⟩ := snocI hn
    have ha := hs a (by simp)
    rw [digs_snoc]
    by_cases e : k = n
    · subst e
      rw [rd_last _ [] _ k (by rw [digs_len, hp]), rd_last p [] a k hp]
      exact ⟨Int.emod_nonneg _ (by omega), Int.emod_lt_of_pos _ (by omega)⟩
    · have ih := digs_range n p (c / a) hp (fun x hx => hs x (by simp [hx])) (Int.ediv_nonneg h0 (by omega)) k (by omega)
      have e1 : rd (digs p (c / a) ++ [c % a]) (k : Int) = rd (digs p (c / a)) (k : Int) := by
        simp only [rd, Int.toNat_natCast, List.getD_eq_getElem?_getD]; rw [List.getElem?_append_left (by rw [digs_len]; omega)]
      have e2 : rd (p ++ [a]) (k : Int) = rd p (k : Int) := by
        simp only [rd, Int.toNat_natCast, List.getD_eq_getElem?_getD]; rw [List.getElem?_append_left (by omega)]
      rw [e1, e2]; exact ih
/-- The program's number is the plain one where each digit is in range. -/
theorem numGo_hor (sh : List Int) (hs : ∀ a ∈ sh, 1 ≤ a) (hp : prod sh ≤ 1000000000) : ∀ (t : List Int) (p q : List Int) (n : Int), p ++ q = sh → q.length = t.length → 0 ≤ n → n < prod p → (∀ k : Nat, k < t.length → 0 ≤ rd t (k : Int) ∧ rd t (k : Int) < rd q (k : Int)) →
    numGo sh p.length n t = hor n q t
  | [], p, q, n, e, hl, h0, h1, hr => by
    obtain rfl := List.eq_nil_of_length_eq_zero hl
    simp [numGo, hor]
  | d :: t, p, [], n, e, hl, h0, h1, hr => by simp at hl
  | d :: t, p, a :: q, n, e, hl, h0, h1, hr => by
    have ha : 1 ≤ a := hs a (by rw [← e]; simp)
    have hd := hr 0 (by simp)
    simp only [rd, Int.ofNat_zero, Int.toNat_zero, List.getD_cons_zero] at hd
    have hd : 0 ≤ d ∧ d < a := hd
    have hq1 : 1 ≤ prod q := prod_pos (fun x hx => hs x (by rw [← e]; simp [hx]))
    have hp1 : 1 ≤ prod p := prod_pos (fun x hx => hs x (by rw [← e]; simp [hx]))
    have hpp : prod p * a * prod q ≤ 1000000000 := by
      have h := hp
      rw [← e, prod_app] at h; simp only [prod] at h; rw [Int.mul_assoc]; exact h
    have hpa : prod p * a ≤ 1000000000 := by
      have h1 := Int.mul_le_mul_of_nonneg_left hq1 (show 0 ≤ prod p * a from Int.mul_nonneg (by omega) (by omega))
      omega
    have hna : n * a + d < prod p * a := by
      have h := Int.mul_le_mul_of_nonneg_right (show n + 1 ≤ prod p by omega) (show 0 ≤ a by omega)
      rw [Int.add_mul] at h; omega
    have hn0 : 0 ≤ n * a := Int.mul_nonneg h0 (by omega)
    have hrd : rd sh (p.length : Int) = a := by rw [← e]; exact rd_last p q a _ rfl
    rw [numGo, hrd, w64 (x := n * a) (by omega) (by omega), w64 (by omega) (by omega), hor]
    have := numGo_hor sh hs hp t (p ++ [a]) q (n * a + d) (by rw [← e]; simp) (by simpa using hl) (by omega) (by rw [prod_snoc]; exact hna) (fun k hk => by
      have h := hr (k + 1) (by simp; omega)
      simp only [rd, Int.toNat_natCast, List.getD_cons_succ] at h ⊢
      exact h)
    simpa using this
theorem number_go (sh src : List Int) (h : src.length ≤ sh.length) (hb : src.length ≤ 1000000) : ∀ (m j : Nat) (n : Int), j + m = src.length →
    impl_number.l0 (m + 1) sh n src (src.length : Int) (j : Int) = some (numGo sh j n (src.drop j))
  | 0, j, n, hj => by
    rw [impl_number.l0, if_neg (by omega), List.drop_eq_nil_of_le (by omega), numGo]
  | m + 1, j, n, hj => by
    have hlt : j < src.length := by omega
    rw [impl_number.l0, if_pos (by omega), if_pos (by omega), if_pos (by omega), if_pos (by omega), show wrap64 ((j : Int) + 1) = ((j + 1 : Nat) : Int) from by rw [w64 (by omega) (by omega)]; push_cast; rfl]
    rw [number_go sh src h hb m (j + 1) _ (by omega), List.drop_eq_getElem_cons hlt, numGo]
    simp [rd, List.getD_eq_getElem?_getD, hlt]
theorem number_ev (sh src : List Int) (h : src.length ≤ sh.length) (hb : src.length ≤ 1000000) : impl_number.f (src.length + 1) sh src = some (numGo sh 0 0 src) :=
  number_go sh src h hb src.length 0 0 (by omega)
abbrev ArrAns := Bool × List Int × List Int × Int
def noArr (code : Int) : ArrAns := (false, [], [], code)
theorem shapeOk_yes {l : List Int} (h : shOk l = true) : Ev (fun k => impl_shapeOk.f k l) (prod l, true) := by
  have := shapeOk_ev l; unfold shSize at this; rw [if_pos h] at this; exact this
theorem shapeOk_no {l : List Int} (h : ¬ shOk l = true) : Ev (fun k => impl_shapeOk.f k l) (0, false) := by
  have := shapeOk_ev l; unfold shSize at this; rw [if_neg h] at this; exact this
/-- A pair of rows of numbers, made between two sizes of the heap. -/
structure PrD where
  lo : Nat
  hi : Nat
  v1 : Value
  v2 : Value
  l1 : List Int
  l2 : List Int
def Pr (W : World) (d : PrD) : Prop := Kd.R (Kd.int .i64) 3 W d.lo (fun k => k < d.hi ∧ some k ≠ d.v2.ownBlock) d.v1 d.l1 ∧ Kd.R (Kd.int .i64) 3 W d.lo (fun k => k < d.hi ∧ some k ≠ d.v1.ownBlock) d.v2 d.l2
abbrev Bk := Nat × Array Value × TypeId
structure St (w W : World) (bl : List Bk) (ps : List PrD) : Prop where
  below : Below w.heap.size w W
  blk : ∀ p ∈ bl, W.heap[p.1]? = some (.cells p.2.1 p.2.2 (0, 0)) ∧ w.heap.size ≤ p.1 ∧ p.2.2 ≠ 3
  nod : bl.Pairwise (fun p q => p.1 ≠ q.1)
  pr : ∀ d ∈ ps, Pr W d ∧ w.heap.size ≤ d.lo ∧ d.hi ≤ W.heap.size
  far : ps.Pairwise (fun d e => e.hi ≤ d.lo)
theorem St.start (w : World) : St w w [] [] := ⟨Below.refl _ _, (fun _ h => nomatch h), .nil, (fun _ h => nomatch h), .nil⟩
theorem Pr.step {W W' : World} {d : PrD} (h : Pr W d) (hb : Below W.heap.size W W') : Pr W' d := ⟨Kd.R_below h.1 hb, Kd.R_below h.2 hb⟩
theorem St.step {w W W' : World} {bl : List Bk} {ps : List PrD} (h : St w W bl ps) (hb : Below W.heap.size W W') : St w W' bl ps :=
  ⟨below_step h.below hb, fun p hp => ⟨blk_below (h.blk p hp).1 hb, (h.blk p hp).2⟩, h.nod, fun d hd => ⟨(h.pr d hd).1.step hb, (h.pr d hd).2.1, Nat.le_trans (h.pr d hd).2.2 hb.size⟩, h.far⟩
theorem St.at {w W : World} {bl : List Bk} {ps : List PrD} (h : St w W bl ps) {g : Nat} {cs : Array Value} {t : TypeId} (hm : (g, cs, t) ∈ bl) : W.heap[g]? = some (.cells cs t (0, 0)) := (h.blk _ hm).1
theorem St.box {w W W' : World} {bl : List Bk} {ps : List PrD} (h : St w W bl ps) {g : Nat} {cs : Array Value} {t : TypeId} (hg : g = W.heap.size) (hB : W'.heap[g]? = some (.cells cs t (0, 0))) (hb : Below W.heap.size W W') (ht : t ≠ 3) : St w W' ((g, cs, t) :: bl) ps := by
  have h' := h.step hb
  refine ⟨h'.below, fun p hp => ?_, .cons (fun p hp e => ?_) h.nod, h'.pr, h.far⟩
  · rcases List.mem_cons.1 hp with rfl | hp
    · exact ⟨hB, hg ▸ h.below.size, ht⟩
    · exact h'.blk p hp
  · have := blk_lt (h.blk p hp).1
    simp only at e; omega
theorem St.alloc {w W : World} {bl : List Bk} {ps : List PrD} (h : St w W bl ps) (cs : Array Value) (t : TypeId) (ht : t ≠ 3) : St w (W.alloc (.cells cs t)) ((W.heap.size, cs, t) :: bl) ps := h.box rfl (blk_new W _) (below_alloc (Below.refl _ _) _) ht
theorem St.drew {w W : World} {bl : List Bk} {ps : List PrD} (h : St w W bl ps) : St w W.drew bl ps := h.step (below_drew (Below.refl _ _))
theorem St.drewN {w W : World} {bl : List Bk} {ps : List PrD} (h : St w W bl ps) (n : Nat) : St w (W.drewN n) bl ps := h.step (pw_below_drewN (Below.refl _ _) n)
theorem St.put {w W w1 : World} {bl : List Bk} {ps : List PrD} (h : St w W bl ps) (i : Nat) {g : Nat} {cs cs1 : Array Value} {t : TypeId} (hi : bl[i]? = some (g, cs, t)) (hs : w1.heap[g]? = some (.cells cs1 t (0, 0))) (hk : But1 g W w1) : St w w1 (bl.set i (g, cs1, t)) ps := by
  obtain ⟨hlt, hie⟩ := List.getElem?_eq_some_iff.1 hi
  have hm : (g, cs, t) ∈ bl := List.mem_of_getElem? hi
  have hg := h.blk _ hm
  have hnod := List.pairwise_iff_getElem.1 h.nod
  have hoth : ∀ (j : Nat) (hj : j < bl.length), j ≠ i → (bl[j]).1 ≠ g := fun j hj hne => by
    rcases Nat.lt_or_gt_of_ne hne with hl | hl
    · have := hnod j i hj hlt hl; rw [hie] at this; exact this
    · have := hnod i j hlt hj hl; rw [hie] at this; exact fun e => this e.symm
  refine ⟨h.below.trans (hk.below _ hg.2.1), fun p hp => ?_, ?_, fun d hd => ⟨?_, (h.pr d hd).2.1, ?_⟩, h.far⟩
  · obtain ⟨j, hj, e⟩ := List.getElem_of_mem hp
    rw [List.length_set] at hj
    rw [List.getElem_set] at e
    split at e
    · subst e; exact ⟨hs, hg.2⟩
    · rename_i hne
      have hp' := h.blk p (e ▸ List.getElem_mem hj)
      exact ⟨hk.blk hp'.1 (e ▸ hoth j hj (fun e => hne e.symm)), hp'.2⟩
  · refine List.pairwise_iff_getElem.2 fun a b ha hb hab => ?_
    rw [List.length_set] at ha hb
    rw [List.getElem_set, List.getElem_set]
    split
    · rename_i e1
      split
      · rename_i e2; omega
      · rename_i e2; exact fun e => hoth b hb (fun e => e2 e.symm) e.symm
    · rename_i e1
      split
      · exact hoth a ha (fun e => e1 e.symm)
      · exact hnod a b ha hb hab
  · exact ⟨hk.row (h.pr d hd).1.1 hg.1 (fun e => hg.2.2 e.symm), hk.row (h.pr d hd).1.2 hg.1 (fun e => hg.2.2 e.symm)⟩
  · exact Nat.le_trans (h.pr d hd).2.2 (hk.below _ hg.2.1).size
theorem Pr.ne {W : World} {d : PrD} (h : Pr W d) : ∀ k, some k = d.v1.ownBlock → ¬ some k = d.v2.ownBlock := fun k hk => (h.1.1 k hk.symm).2
theorem Pr.in1 {W : World} {d : PrD} (h : Pr W d) : ∀ k, some k = d.v1.ownBlock → d.lo ≤ k ∧ k < d.hi := fun k hk => ⟨Kd.R_base h.1 k hk.symm, (h.1.1 k hk.symm).1⟩
theorem Pr.in2 {W : World} {d : PrD} (h : Pr W d) : ∀ k, some k = d.v2.ownBlock → d.lo ≤ k ∧ k < d.hi := fun k hk => ⟨Kd.R_base h.2 k hk.symm, (h.2.1 k hk.symm).1⟩
theorem St.add {w W W' : World} {bl : List Bk} {ps : List PrD} (h : St w W bl ps) (hb : Below W.heap.size W W') {B : Nat} (hle : W.heap.size ≤ B) {v1 v2 : Value} {l1 l2 : List Int} {ok2 : Nat → Prop}
    (R1 : Kd.R (Kd.int .i64) 3 W' B (fun k => some k ≠ v2.ownBlock) v1 l1) (R2 : Kd.R (Kd.int .i64) 3 W' B ok2 v2 l2) : St w W' bl (⟨W.heap.size, W'.heap.size, v1, v2, l1, l2⟩ :: ps) := by
  have h' := h.step hb
  refine ⟨h'.below, h'.blk, h'.nod, fun d hd => ?_, .cons (fun d hd => (h.pr d hd).2.2) h.far⟩
  rcases List.mem_cons.1 hd with rfl | hd
  · refine ⟨⟨Kd.R_reok rfl (Kd.R_lower R1 hle) (fun k hk => ⟨Kd.R_lt R1 k hk, R1.1 k hk⟩), Kd.R_reok rfl (Kd.R_lower R2 hle) (fun k hk => ⟨Kd.R_lt R2 k hk, fun e => R1.1 k e.symm hk.symm⟩)⟩, h.below.size, Nat.le_refl _⟩
  · exact h'.pr d hd
theorem St.prAt {w W : World} {bl : List Bk} {ps : List PrD} (h : St w W bl ps) {d : PrD} (hd : d ∈ ps) : Pr W d := (h.pr d hd).1
theorem St.idx {w W : World} {bl : List Bk} {ps : List PrD} (h : St w W bl ps) (i : Nat) {g : Nat} {cs : Array Value} {t : TypeId} (hi : bl[i]? = some (g, cs, t)) : W.heap[g]? = some (.cells cs t (0, 0)) := (h.blk _ (List.mem_of_getElem? hi)).1
theorem St.nth {w W : World} {bl : List Bk} {ps : List PrD} (h : St w W bl ps) (j : Nat) {d : PrD} (hj : ps[j]? = some d) : Pr W d := h.prAt (List.mem_of_getElem? hj)
theorem Pr.c1 {W : World} {lo hi n c : Nat} {A : Option Addr} {v2 : Value} {l1 l2 : List Int} (h : Pr W ⟨lo, hi, .slice A n c, v2, l1, l2⟩) : n = l1.length ∧ Kd.C (Kd.int .i64) W A l1.length l1 ∧ l1.length ≤ c :=
  by obtain ⟨e, k, c⟩ := Kd.R_reads' h.1; exact ⟨e, c, e ▸ k⟩
theorem Pr.c2 {W : World} {lo hi n c : Nat} {A : Option Addr} {v1 : Value} {l1 l2 : List Int} (h : Pr W ⟨lo, hi, v1, .slice A n c, l1, l2⟩) : n = l2.length ∧ Kd.C (Kd.int .i64) W A l2.length l2 ∧ l2.length ≤ c :=
  by obtain ⟨e, k, c⟩ := Kd.R_reads' h.2; exact ⟨e, c, e ▸ k⟩
theorem St.mark {w W W' : World} {bl : List Bk} {ps : List PrD} (h : St w W bl ps) (i : Nat) {d : PrD} (hi : ps[i]? = some d) {m1 m2 : List Int} {ok1 ok2 : Nat → Prop} (hk : Kept W W' (fun k => some k = d.v1.ownBlock ∨ some k = d.v2.ownBlock))
    (R1 : Kd.R (Kd.int .i64) 3 W' w.heap.size ok1 d.v1 m1) (R2 : Kd.R (Kd.int .i64) 3 W' w.heap.size ok2 d.v2 m2) (hb : Below w.heap.size w W') : St w W' bl (ps.set i ⟨d.lo, d.hi, d.v1, d.v2, m1, m2⟩) := by
  obtain ⟨hlt, hie⟩ := List.getElem?_eq_some_iff.1 hi
  have hd : d ∈ ps := List.mem_of_getElem? hi
  have hp := h.pr d hd
  have hfar := List.pairwise_iff_getElem.1 h.far
  have hin : ∀ k, (some k = d.v1.ownBlock ∨ some k = d.v2.ownBlock) → d.lo ≤ k ∧ k < d.hi := fun k hk => by
    rcases hk with hk | hk
    · exact hp.1.in1 k hk
    · exact hp.1.in2 k hk
  refine ⟨hb, fun p hp' => ⟨?_, (h.blk p hp').2⟩, h.nod, fun e he => ?_, ?_⟩
  · refine blk_kept (h.blk p hp').1 hk fun hs => ?_
    have hb' := (h.blk p hp').1
    rcases hs with hs | hs
    · obtain ⟨cells, hc⟩ := own_typed (Kd.own_of_R hp.1.1) p.1 hs.symm
      rw [hc] at hb'; injection hb' with hb'; injection hb' with _ hb'; exact (h.blk p hp').2.2 hb'.symm
    · obtain ⟨cells, hc⟩ := own_typed (Kd.own_of_R hp.1.2) p.1 hs.symm
      rw [hc] at hb'; injection hb' with hb'; injection hb' with _ hb'; exact (h.blk p hp').2.2 hb'.symm
  · obtain ⟨j, hj, ej⟩ := List.getElem_of_mem he
    rw [List.length_set] at hj
    rw [List.getElem_set] at ej
    split at ej
    · subst ej
      refine ⟨⟨?_, ?_⟩, hp.2.1, Nat.le_trans hp.2.2 hk.1⟩
      · exact Kd.R_of_own (Kd.own_raise (Kd.own_of_R R1) (fun k hk => (hp.1.in1 k hk.symm).1)) (fun k hk => ⟨(hp.1.in1 k hk.symm).2, hp.1.ne k hk.symm⟩)
      · exact Kd.R_of_own (Kd.own_raise (Kd.own_of_R R2) (fun k hk => (hp.1.in2 k hk.symm).1)) (fun k hk => ⟨(hp.1.in2 k hk.symm).2, fun e => hp.1.ne k e hk.symm⟩)
    · rename_i hne
      have he' : e ∈ ps := ej ▸ List.getElem_mem hj
      have hq := h.pr e he'
      have hdis : ∀ k, e.lo ≤ k → k < e.hi → ¬ (some k = d.v1.ownBlock ∨ some k = d.v2.ownBlock) := fun k h1 h2 hs => by
        have h3 := hin k hs
        rcases Nat.lt_or_gt_of_ne hne with hl | hl
        · have := hfar i j hlt hj hl; rw [hie, ej] at this; omega
        · have := hfar j i hj hlt hl; rw [hie, ej] at this; omega
      refine ⟨⟨?_, ?_⟩, hq.2.1, Nat.le_trans hq.2.2 hk.1⟩
      · exact Kd.R_mono (Kd.R_step (Kd.R_bound hq.1.1) (fun k hok hlt' => hk.2 k hlt' (hdis k hok.2.1 hok.1.1))) (fun k hok => hok.1)
      · exact Kd.R_mono (Kd.R_step (Kd.R_bound hq.1.2) (fun k hok hlt' => hk.2 k hlt' (hdis k hok.2.1 hok.1.1))) (fun k hok => hok.1)
  · refine List.pairwise_iff_getElem.2 fun a b ha hb' hab => ?_
    rw [List.length_set] at ha hb'
    have hab' := hfar a b ha hb' hab
    have ea : ((ps.set i ⟨d.lo, d.hi, d.v1, d.v2, m1, m2⟩)[a]'(by rw [List.length_set]; exact ha)).lo = (ps[a]).lo := by
      rw [List.getElem_set]; split
      · rename_i e; subst e; rw [hie]
      · rfl
    have eb : ((ps.set i ⟨d.lo, d.hi, d.v1, d.v2, m1, m2⟩)[b]'(by rw [List.length_set]; exact hb')).hi = (ps[b]).hi := by
      rw [List.getElem_set]; split
      · rename_i e; subst e; rw [hie]
      · rfl
    rw [ea, eb]; exact hab'
theorem cells3 {W : World} {g : Nat} {t : TypeId} {x y z : Value} (h : W.heap[g]? = some (.cells #[x, y, z] t (0, 0))) : W.cell? ⟨g, 0, none⟩ = some x ∧ W.cell? ⟨g, 1, none⟩ = some y ∧ W.cell? ⟨g, 2, none⟩ = some z :=
  ⟨(blk_cell h 0).trans rfl, (blk_cell h 1).trans rfl, (blk_cell h 2).trans rfl⟩
theorem St.cells2 {w W : World} {bl : List Bk} {ps : List PrD} {g1 g2 : Nat} {x1 y1 z1 x2 y2 z2 : Value} {t1 t2 : TypeId} (h : St w W bl ps) (m1 : (g1, #[x1, y1, z1], t1) ∈ bl) (m2 : (g2, #[x2, y2, z2], t2) ∈ bl) :
    W.cell? ⟨g1, 0, none⟩ = some x1 ∧ W.cell? ⟨g1, 1, none⟩ = some y1 ∧ W.cell? ⟨g1, 2, none⟩ = some z1 ∧ W.cell? ⟨g2, 0, none⟩ = some x2 ∧ W.cell? ⟨g2, 1, none⟩ = some y2 ∧ W.cell? ⟨g2, 2, none⟩ = some z2 :=
  ⟨(cells3 (h.at m1)).1, (cells3 (h.at m1)).2.1, (cells3 (h.at m1)).2.2, cells3 (h.at m2)⟩
theorem But1.set3 {W : World} {g : Nat} (x y z : Value) : But1 g W (((W.setCell ⟨g, 0, none⟩ x).setCell ⟨g, 1, none⟩ y).setCell ⟨g, 2, none⟩ z) :=
  ⟨fun k hk => (Below.heap_setCell _ _ _ k hk).trans ((Below.heap_setCell _ _ _ k hk).trans (Below.heap_setCell _ _ _ k hk)), fun B hB => (((Below.refl B W).setCell (p := ⟨g, 0, none⟩) hB x).setCell (p := ⟨g, 1, none⟩) hB y).setCell (p := ⟨g, 2, none⟩) hB z⟩
theorem St.set3 {w W : World} {bl : List Bk} {ps : List PrD} {g : Nat} {a b c : Value} {t : TypeId} (h : St w W ((g, #[a, b, c], t) :: bl) ps) (x y z : Value) :
    St w (((W.setCell ⟨g, 0, none⟩ x).setCell ⟨g, 1, none⟩ y).setCell ⟨g, 2, none⟩ z) ((g, #[x, y, z], t) :: bl) ps := by
  have s := blk_set (blk_set (blk_set (h.at (g := g) (cs := #[a, b, c]) (t := t) List.mem_cons_self) 0 x) 1 y) 2 z
  exact h.put 0 rfl (by simpa using s) (But1.set3 x y z)
/-- A pair that is marked: what the law's function asks. -/
theorem St.ready {w W : World} {bl : List Bk} {ps : List PrD} (h : St w W bl ps) {d : PrD} (hd : d ∈ ps) :
    Kd.R (Kd.int .i64) 3 W w.heap.size (fun k => some k = d.v1.ownBlock) d.v1 d.l1 ∧ (∀ k, some k = d.v1.ownBlock → ¬ some k = d.v2.ownBlock) ∧ Kd.R (Kd.int .i64) 3 W w.heap.size (fun k => some k = d.v2.ownBlock) d.v2 d.l2 ∧ (∀ k, some k = d.v2.ownBlock → ¬ some k = d.v1.ownBlock) :=
  ⟨Kd.R_tight rfl (Kd.R_lower (h.prAt hd).1 (h.pr d hd).2.1), (h.prAt hd).ne, Kd.R_tight rfl (Kd.R_lower (h.prAt hd).2 (h.pr d hd).2.1), fun k h2 h1 => (h.prAt hd).ne k h1 h2⟩
theorem St.ready' {w W : World} {bl : List Bk} {ps : List PrD} (h : St w W bl ps) (j : Nat) {d : PrD} (hj : ps[j]? = some d) :
    Kd.R (Kd.int .i64) 3 W w.heap.size (fun k => some k = d.v1.ownBlock) d.v1 d.l1 ∧ (∀ k, some k = d.v1.ownBlock → ¬ some k = d.v2.ownBlock) ∧ Kd.R (Kd.int .i64) 3 W w.heap.size (fun k => some k = d.v2.ownBlock) d.v2 d.l2 ∧ (∀ k, some k = d.v2.ownBlock → ¬ some k = d.v1.ownBlock) := h.ready (List.mem_of_getElem? hj)
/-- 'held' at rows whose lengths are written another way. -/
theorem held_n (k : Nat) (b : Bool) (A1 A2 : Option Addr) (n1 n2 c1 c2 : Nat) (l1 l2 : List Int) (a r : Int) (w : World) (e1 : n1 = l1.length) (e2 : n2 = l2.length) (h1 : Kd.C (Kd.int .i64) w A1 l1.length l1) (k1 : l1.length ≤ c1) (h2 : Kd.C (Kd.int .i64) w A2 l2.length l2) (k2 : l2.length ≤ c2)
    (h : laws_heldArray.f k b l1 l2 a = some r) : Calls Try.prog 25 #[.agg #[.bool b, .slice A1 n1 c1, .slice A2 n2 c2], .int .i64 a] w fun e w' => e = .returned (.int .i64 r) ∧ Below w.heap.size w w' := by
  subst e1 e2
  exact laws_heldArray.calls k b A1 c1 l1 A2 c2 l2 a r w h1 k1 h2 k2 h
structure Pw where
  f0 : Bool
  f1 : Bool
  A2 : Option Addr
  n2 : Nat
  c2 : Nat
  x2 : List Int
  A3 : Option Addr
  n3 : Nat
  c3 : Nat
  x3 : List Int
def Pw.cl (p : Pw) : List Value := [.bool p.f0, .bool p.f1, .slice p.A2 p.n2 p.c2, .slice p.A3 p.n3 p.c3]
def Pw.rows (p : Pw) : List Th := [.row (.slice p.A2 p.n2 p.c2) p.x2, .row (.slice p.A3 p.n3 p.c3) p.x3]
def Pw.val (p : Pw) : S66 := ⟨p.f0, ⟨p.f1, p.x2, p.x3⟩⟩
def PL : List Pw → List Value
  | [] => []
  | p :: t => p.cl ++ PL t
def PT : List Pw → List Th
  | [] => []
  | p :: t => p.rows ++ PT t
def PA (L : List Pw) : Array Value := (PL L).toArray
def nilPw : Pw := ⟨false, false, none, 0, 0, [], none, 0, 0, []⟩
theorem PL_len : ∀ L : List Pw, (PL L).length = 4 * L.length
  | [] => rfl
  | p :: t => by simp [PL, Pw.cl, PL_len t]; omega
theorem PA_size (L : List Pw) : (PA L).size = 4 * L.length := by simp [PA, PL_len]
theorem PL_get : ∀ {L : List Pw} {j : Nat} {p : Pw}, L[j]? = some p → ∀ q, q < 4 → (PL L)[j * 4 + q]? = p.cl[q]?
  | [], _, _, h, _, _ => by simp at h
  | p :: t, 0, _, h, q, hq => by
    simp only [List.getElem?_cons_zero, Option.some.injEq] at h
    subst h
    rw [PL, List.getElem?_append_left (by simp [Pw.cl]; omega), Nat.zero_mul, Nat.zero_add]
  | p :: t, j + 1, _, h, q, hq => by
    rw [List.getElem?_cons_succ] at h
    rw [PL, List.getElem?_append_right (by simp [Pw.cl]; omega), show (j + 1) * 4 + q - p.cl.length = j * 4 + q by simp [Pw.cl]; omega]
    exact PL_get h q hq
theorem PL_set : ∀ (L : List Pw) (j : Nat) (p : Pw), j < L.length → ((((PL L).set (j * 4) (.bool p.f0)).set (j * 4 + 1) (.bool p.f1)).set (j * 4 + 2) (.slice p.A2 p.n2 p.c2)).set (j * 4 + 3) (.slice p.A3 p.n3 p.c3) = PL (L.set j p)
  | [], _, _, h => by simp at h
  | q :: t, 0, p, _ => by simp [PL, Pw.cl]
  | q :: t, j + 1, p, h => by
    have ih := PL_set t j p (by simpa using h)
    have hl : q.cl.length = 4 := rfl
    rw [List.set_cons_succ, PL, PL, List.set_append_right _ _ (by omega), List.set_append_right _ _ (by omega), List.set_append_right _ _ (by omega), List.set_append_right _ _ (by omega), hl,
      show (j + 1) * 4 - 4 = j * 4 by omega, show (j + 1) * 4 + 1 - 4 = j * 4 + 1 by omega, show (j + 1) * 4 + 2 - 4 = j * 4 + 2 by omega, show (j + 1) * 4 + 3 - 4 = j * 4 + 3 by omega, ih]
theorem PA_cell {W : World} {g : Nat} {L : List Pw} (h : W.heap[g]? = some (.cells (PA L) 66 (0, 0))) {j : Nat} {p : Pw} (hj : L[j]? = some p) (q : Nat) (hq : q < 4) : W.cell? ⟨g, j * 4 + q, none⟩ = p.cl[q]? := by
  rw [blk_cell h]
  have : (PA L)[j * 4 + q]? = (PL L)[j * 4 + q]? := by simp [PA]
  rw [this]
  exact PL_get hj q hq
theorem PA_put {W : World} {g : Nat} {L : List Pw} (h : W.heap[g]? = some (.cells (PA L) 66 (0, 0))) (j : Nat) (p : Pw) (hj : j < L.length) : (W.setCells g (j * 4) p.cl).heap[g]? = some (.cells (PA (L.set j p)) 66 (0, 0)) := by
  have h4 := blk_set (blk_set (blk_set (blk_set h (j * 4) (.bool p.f0)) (j * 4 + 1) (.bool p.f1)) (j * 4 + 2) (.slice p.A2 p.n2 p.c2)) (j * 4 + 3) (.slice p.A3 p.n3 p.c3)
  have e : ((((PA L).setIfInBounds (j * 4) (.bool p.f0)).setIfInBounds (j * 4 + 1) (.bool p.f1)).setIfInBounds (j * 4 + 2) (.slice p.A2 p.n2 p.c2)).setIfInBounds (j * 4 + 3) (.slice p.A3 p.n3 p.c3) = PA (L.set j p) := by
    simp only [PA, List.setIfInBounds_toArray, PL_set L j p hj]
  rw [e] at h4
  exact h4
theorem But1.trans {g : Nat} {A B C : World} (h : But1 g A B) (k : But1 g B C) : But1 g A C := ⟨fun i hi => (k.same i hi).trans (h.same i hi), fun B' hB => (h.below B' hB).trans (k.below B' hB)⟩
theorem But1.cells (g : Nat) : ∀ (cs : List Value) (o : Nat) (W : World), But1 g W (W.setCells g o cs)
  | [], _, W => ⟨fun _ _ => rfl, fun B hB => Below.refl B W⟩
  | v :: t, o, W => (But1.set1 g o W v).trans (But1.cells g t (o + 1) _)
theorem PA_there {W : World} {g : Nat} {L : List Pw} (h : W.heap[g]? = some (.cells (PA L) 66 (0, 0))) (j : Nat) (hj : j < L.length) : W.there g (j * 4) 4 := by
  intro q hq
  refine ⟨?_, blk_frozen h _⟩
  rw [PA_cell h (List.getElem?_eq_getElem hj) q hq]
  match q, hq with
  | 0, _ => rfl
  | 1, _ => rfl
  | 2, _ => rfl
  | 3, _ => rfl
theorem PT_get2 : ∀ {L : List Pw} {j : Nat} {p : Pw}, L[j]? = some p → (PT L)[2 * j]? = some (.row (.slice p.A2 p.n2 p.c2) p.x2)
  | [], _, _, h => by simp at h
  | p :: t, 0, _, h => by simp only [List.getElem?_cons_zero, Option.some.injEq] at h; subst h; rfl
  | p :: t, j + 1, _, h => by
    rw [List.getElem?_cons_succ] at h
    have := PT_get2 h
    rw [show 2 * (j + 1) = 2 * j + 2 by omega]; exact this
theorem PT_get3 : ∀ {L : List Pw} {j : Nat} {p : Pw}, L[j]? = some p → (PT L)[2 * j + 1]? = some (.row (.slice p.A3 p.n3 p.c3) p.x3)
  | [], _, _, h => by simp at h
  | p :: t, 0, _, h => by simp only [List.getElem?_cons_zero, Option.some.injEq] at h; subst h; rfl
  | p :: t, j + 1, _, h => by
    rw [List.getElem?_cons_succ] at h
    have := PT_get3 h
    rw [show 2 * (j + 1) + 1 = 2 * j + 1 + 2 by omega]; exact this
theorem PT_set2 : ∀ (L : List Pw) (j : Nat) (p : Pw) (x : List Int), L[j]? = some p → (PT L).set (2 * j) (.row (.slice p.A2 p.n2 p.c2) x) = PT (L.set j { p with x2 := x })
  | [], _, _, _, h => by simp at h
  | q :: t, 0, p, x, h => by simp only [List.getElem?_cons_zero, Option.some.injEq] at h; subst h; rfl
  | q :: t, j + 1, p, x, h => by
    rw [List.getElem?_cons_succ] at h
    have := PT_set2 t j p x h
    rw [show 2 * (j + 1) = 2 * j + 2 by omega]
    exact congrArg (fun z => q.rows ++ z) this
theorem PT_set3 : ∀ (L : List Pw) (j : Nat) (p : Pw) (x : List Int), L[j]? = some p → (PT L).set (2 * j + 1) (.row (.slice p.A3 p.n3 p.c3) x) = PT (L.set j { p with x3 := x })
  | [], _, _, _, h => by simp at h
  | q :: t, 0, p, x, h => by simp only [List.getElem?_cons_zero, Option.some.injEq] at h; subst h; rfl
  | q :: t, j + 1, p, x, h => by
    rw [List.getElem?_cons_succ] at h
    have := PT_set3 t j p x h
    rw [show 2 * (j + 1) + 1 = 2 * j + 1 + 2 by omega]
    exact congrArg (fun z => q.rows ++ z) this
theorem PT_app : ∀ (D : List Pw) (p : Pw), PT (D ++ [p]) = PT D ++ p.rows
  | [], p => by simp [PT]
  | q :: t, p => by simp [PT, PT_app t p]
theorem PT_same : ∀ (L : List Pw) (j : Nat) (p p' : Pw), L[j]? = some p → p'.rows = p.rows → PT (L.set j p') = PT L
  | [], _, _, _, h, _ => by simp at h
  | q :: t, 0, p, p', h, e => by simp only [List.getElem?_cons_zero, Option.some.injEq] at h; subst h; simp [PT, e]
  | q :: t, j + 1, p, p', h, e => by
    rw [List.getElem?_cons_succ] at h
    simp [PT, PT_same t j p p' h e]
theorem PL_same : ∀ (L : List Pw) (j : Nat) (p p' : Pw), L[j]? = some p → p'.cl = p.cl → PL (L.set j p') = PL L
  | [], _, _, _, h, _ => by simp at h
  | q :: t, 0, p, p', h, e => by simp only [List.getElem?_cons_zero, Option.some.injEq] at h; subst h; simp [PL, e]
  | q :: t, j + 1, p, p', h, e => by
    rw [List.getElem?_cons_succ] at h
    simp [PL, PL_same t j p p' h e]
/-- The state of a row of parts: its block and all rows, each in memory of its own. -/
abbrev PSt (g : Nat) (L : List Pw) : List Th := .blk g (PA L) 66 :: PT L
theorem PSt.C {w W : World} {g : Nat} {L : List Pw} (h : Sx w W (PSt g L)) (hl : L.length ≤ 1000000000) : Kd.C k66 W (some ⟨g, 0, none⟩) L.length (L.map Pw.val) := by
  have hb := h.blk 0 rfl
  refine ⟨by simp, by omega, fun _ => ⟨_, rfl, fun j p hj => ?_⟩⟩
  rw [List.getElem?_map] at hj
  obtain ⟨q, hq, rfl⟩ := Option.map_eq_some_iff.1 hj
  have r2 := h.row (2 * j + 1) (PT_get2 hq)
  have r3 := h.row (2 * j + 2) (PT_get3 hq)
  have e2 := Kd.R_reads' r2
  have e3 := Kd.R_reads' r3
  refine ⟨q.cl, rfl, ?_, fun i u hu => ?_⟩
  · have := k66_mk W q.val (c2 := q.c2) (c3 := q.c3) (by have := e2.2.1; have := e2.1; exact this ▸ e2.2.1) e2.2.2 (by have := e3.1; exact this ▸ e3.2.1) e3.2.2
    unfold Pw.cl
    rw [e2.1, e3.1]
    exact this
  · have hi : i < 4 := by obtain ⟨h1, _⟩ := List.getElem?_eq_some_iff.1 hu; exact h1
    rw [add_plain]
    show W.cell? ⟨g, j * 4 + i, none⟩ = some u
    rw [PA_cell hb hq i hi]
    exact hu
theorem make_PA (n : Nat) (hn : n ≤ 2000000) (w : World) : (Instr.makeSlice 32 (.int .i64 (n : Int)) (.int .i64 (n : Int))).run Try.prog w = .ok (.slice (some ⟨w.heap.size, 0, none⟩) n n) (w.alloc (.cells (PA (List.replicate n nilPw)) 66)) := by
  obtain ⟨i, hi, hz⟩ := Option.map_eq_some_iff.1 info66
  simp only [Prod.mk.injEq] at hz
  have h := run_make (P := Try.prog) w 32 66 i (.agg #[(.bool false), (.bool false), (.slice none 0 0), (.slice none 0 0)]) Try.underlying32 hi hz.1 .i64 .i64 (n : Int) (n : Int) (by omega) (by omega) (by rw [hz.2.2]; omega) (by omega)
  rw [h, hz.2.1]
  have e : madeCells (Value.agg #[(.bool false), (.bool false), (.slice none 0 0), (.slice none 0 0)]).cells ((n : Int).toNat * 4) = PA (List.replicate n nilPw) := by
    apply Array.ext
    · rw [PA_size]; simp [madeCells]; omega
    · intro j h1 h2
      have hj : j < 4 * n := by rw [PA_size, List.length_replicate] at h2; exact h2
      have hq : (List.replicate n nilPw)[j / 4]? = some nilPw := by rw [List.getElem?_replicate, if_pos (by omega)]
      have h3 := PL_get hq (j % 4) (Nat.mod_lt _ (by omega))
      rw [show (j / 4) * 4 + j % 4 = j by omega] at h3
      have h4 : (PA (List.replicate n nilPw))[j]? = (PL (List.replicate n nilPw))[j]? := by simp [PA]
      rw [h3, Array.getElem?_eq_getElem h2] at h4
      have h5 : (madeCells (Value.agg #[(.bool false), (.bool false), (.slice none 0 0), (.slice none 0 0)]).cells ((n : Int).toNat * 4))[j]? = nilPw.cl[j % 4]? := by
        rw [Array.getElem?_eq_getElem h1]
        have hm : j % 4 = 0 ∨ j % 4 = 1 ∨ j % 4 = 2 ∨ j % 4 = 3 := by omega
        rcases hm with hm | hm | hm | hm <;> simp [madeCells, Value.cells, hm, nilPw, Pw.cl]
      rw [Array.getElem?_eq_getElem h1, ← h4] at h5
      exact Option.some.inj h5
  rw [e]
  simp
theorem Sx.permP {w W : World} {Ts Us : List Th} (h : Sx w W Ts) (p : Ts.Perm Us) : Sx w W Us :=
  ⟨h.below, fun T hT => h.ok T (p.mem_iff.2 hT), (p.pairwise_iff (fun h k hb ha => h k ha hb)).1 h.nod⟩
def cvP (p : S59) : S66 := ⟨p.f0, ⟨p.f1.f0, p.f1.f1, p.f1.f2⟩⟩
theorem toPart_ev (f0 f1 : Bool) (l2 l3 : List Int) (h2 : l2.length ≤ 35184372088832) (h3 : l3.length ≤ 35184372088832) : Ev (fun k => laws_toPart.f k f0 f1 l2 l3) (f0, f1, l2, l3) := by
  simp only [laws_toPart.f]
  exact Ev.bind (toArray_ev f1 l2 l3 h2 h3) (Ev.now _)
theorem rdP_mem {ps : List S59} {j : Nat} (h : j < ps.length) : rd_T59 ps (j : Int) ∈ ps := by
  simp only [rd_T59, Int.toNat_natCast, List.getD_eq_getElem?_getD, List.getElem?_eq_getElem h, Option.getD_some]; exact List.getElem_mem h
theorem take_P (l : List S59) (j : Nat) (h : j < l.length) : l.take (j + 1) = l.take j ++ [rd_T59 l (j : Int)] := by
  rw [List.take_succ_eq_append_getElem h]; simp [rd_T59, h]
theorem fill_P (D : List Pw) (p : Pw) (n i : Nat) (hd : D.length = i) (hi : i < n) : (D ++ List.replicate (n - i) nilPw).set i p = (D ++ [p]) ++ List.replicate (n - (i + 1)) nilPw := by
  obtain ⟨m, hm⟩ : ∃ m, n - i = m + 1 := ⟨n - i - 1, by omega⟩
  rw [hm, show n - (i + 1) = m by omega, List.replicate_succ, List.set_append_right _ _ (by omega), hd, Nat.sub_self, List.set_cons_zero]
  simp
theorem fill_lt {D : List Pw} {n i : Nat} (hd : D.length = i) (hi : i < n) : i < (D ++ List.replicate (n - i) nilPw).length := by simp; omega
set_option maxHeartbeats 2000000 in
set_option maxRecDepth 100000 in
theorem toPartS_any (A0 : Option Addr) (c0 : Nat) (l0 : List S59) (w : World) (hC : Kd.C k59 w A0 l0.length l0) (hk : l0.length ≤ c0) (hn : l0.length ≤ 1048576) (hpl : ∀ p ∈ l0, p.f1.f1.length ≤ 35184372088832 ∧ p.f1.f2.length ≤ 35184372088832) :
    Calls Try.prog 19 #[.slice A0 l0.length c0] w fun e w' => ∃ (g : Nat) (L : List Pw), e = .returned (.slice (some ⟨g, 0, none⟩) l0.length l0.length) ∧ L.map Pw.val = l0.map cvP ∧ Sx w w' (PSt g L) := by
  have HC := Aside0.mk hC
  have HK := Aside0.mk hk
  have HN := Aside0.mk hn
  have HPL := Aside0.mk hpl
  have hmk := make_PA l0.length (by omega)
  clear hC hk hn hpl
  have HS := Aside0.mk (Sx.start w)
  go_enter Try.func19, Try.ntmps19
  go_wp2_with (first | ((with_reducible refine gate_dst (N := 7) rfl ?_); refine lit_event ?hg (N := 7) ?hd (cs := (PA (List.replicate l0.length nilPw))) (t := 66) (n := l0.length) ?hr ?_; (case hd => rfl); (case hg => rfl); (case hr => first | (go_simp; done) | (go_simp; rfl)); intro gO hg1 w1 hx1 hb1; have nS : Aside0 (Sx w w1 [(.blk gO (PA (List.replicate l0.length nilPw)) 66)]) := Aside0.mk (HS.out.box hg1 hx1 hb1); clear HS; have HS := nS; clear nS hg1 hx1 hb1))
  have HS0 : Aside0 (Sx w _ (.blk gO (PA (([] : List Pw) ++ List.replicate (l0.length - 0) nilPw)) 66 :: PT ([] : List Pw))) := Aside0.mk (by simpa [PT] using HS.out)
  clear HS
  go_loopw [4] (fun z wr => ∃ (i : Nat) (D : List Pw), z = .int .i64 (i : Int) ∧ Aside0 (i ≤ l0.length) ∧ Aside0 (D.length = i) ∧ Aside0 (D.map Pw.val = (l0.take i).map cvP) ∧ Aside0 (Sx w wr (.blk gO (PA (D ++ List.replicate (l0.length - i) nilPw)) 66 :: PT D))) (fun z _ => l0.length - (intOf z).toNat)
  case atStart => exact ⟨0, [], rfl, ⟨Nat.zero_le _⟩, ⟨rfl⟩, ⟨by simp⟩, HS0⟩
  case round =>
    clear HS0
    obtain ⟨i, D, rfl, hi, HD, HV, HS⟩ := hrel
    by_cases hlt : i < l0.length
    · have hnn := HN.out
      obtain ⟨ad, Q2, d2, Q3, d3, eA, x0, x1, x2, x3, l2_, i2_, l3_, i3_⟩ := at_T59 HC.out (i : Int) (by omega) (by omega)
      subst eA
      rw [Int.toNat_natCast] at x0 x1 x2 x3
      obtain ⟨p_, hp_⟩ : ∃ p, rd_T59 l0 (i : Int) = p := ⟨_, rfl⟩
      have hpl := HPL.out p_ (by rw [← hp_]; exact rdP_mem hlt)
      rw [hp_] at x0 x1 x2 x3 l2_ i2_ l3_ i3_
      obtain ⟨pa, pb, psh, pdt⟩ := p_
      simp only at x0 x1 x2 x3 l2_ i2_ l3_ i3_ hpl
      obtain ⟨kt, hkt⟩ := (toPart_ev pa pb psh pdt hpl.1 hpl.2).rounds
      have HKT := Aside0.mk hkt
      have HPJ := Aside0.mk hp_
      have HL2 := Aside0.mk l2_
      have HC2 := Aside0.mk i2_
      have HL3 := Aside0.mk l3_
      have HC3 := Aside0.mk i3_
      clear hkt hp_ l2_ i2_ l3_ i3_ hpl
      have y0 := (HS.out.below.cell (World.block_lt_of_cell? w _ x0)).trans x0
      have y1 := (HS.out.below.cell (World.block_lt_of_cell? w _ x1)).trans x1
      have y2 := (HS.out.below.cell (World.block_lt_of_cell? w _ x2)).trans x2
      have y3 := (HS.out.below.cell (World.block_lt_of_cell? w _ x3)).trans x3
      clear x0 x1 x2 x3
      have w1 : IntKind.i64.wrap ((i : Int) + 1) = ((i + 1 : Nat) : Int) := by rw [IntWalk.i64_in _ (by omega)]; omega
      have p0 : (i : Int) < (l0.length : Int) := by omega
      have p1 : 0 ≤ (i : Int) := by omega
      clear hnn
      go_wp2_with (first | (go_at_call 57; refine (laws_toPart.calls kt pa pb Q2 d2 psh Q3 d3 pdt pa pb psh pdt _ (Kd.C_below HC2.out HS.out.below) HL2.out (Kd.C_below HC3.out HS.out.below) HL3.out HKT.out).mono ?_; rintro e w1 ⟨v2, v3, rfl, hr2, hr3, hb⟩; obtain ⟨B2, e2, rfl⟩ := Kd.R_slice hr2; obtain ⟨B3, e3, rfl⟩ := Kd.R_slice hr3; have nS := Aside0.mk (HS.out.addRow2 hb hr2 hr3); clear HS hr2 hr3 hb; have HS := nS; clear nS) | ((with_reducible refine gate_store rfl ?_); refine wpList_store_mid rfl 66 (.tmp 21) (.tmp 20) rfl gO (i * 4) #[.bool pa, .bool pb, .slice B2 psh.length e2, .slice B3 pdt.length e3] rfl rfl (PA_there (HS.out.blk 2 rfl) i (fill_lt HD.out hlt)) (by kernel_rfl) (by simp [Value.oneCell']) ?_; have nS := Aside0.mk (HS.out.put 2 rfl (PA_put (HS.out.blk 2 rfl) i (⟨pa, pb, B2, psh.length, e2, psh, B3, pdt.length, e3, pdt⟩ : Pw) (fill_lt HD.out hlt)) (But1.cells gO _ _ _)); clear HS; have HS := nS; clear nS))
      clear y0 y1 y2 y3
      go_roundw
      case rel =>
        refine ⟨i + 1, D ++ [(⟨pa, pb, B2, psh.length, e2, psh, B3, pdt.length, e3, pdt⟩ : Pw)], by first | rfl | (push_cast; rfl), ⟨hlt⟩, ⟨by rw [List.length_append, HD.out]; rfl⟩, ⟨?_⟩, ⟨?_⟩⟩
        · rw [List.map_append, HV.out, take_P l0 i hlt, HPJ.out, List.map_append]; rfl
        · have h_ := HS.out
          rw [← fill_P D (⟨pa, pb, B2, psh.length, e2, psh, B3, pdt.length, e3, pdt⟩ : Pw) l0.length i HD.out hlt, PT_app]
          exact h_.permP (List.perm_append_comm (l₁ := [Th.row (.slice B2 psh.length e2) psh, Th.row (.slice B3 pdt.length e3) pdt]))
      case measure => simp [intOf]; omega
    · obtain rfl : i = l0.length := by have := hi.out; omega
      have p0 : ¬ (l0.length : Int) < (l0.length : Int) := by omega
      go_wp2
      go_ret
      have h_ := HS.out
      rw [Nat.sub_self, List.replicate_zero, List.append_nil] at h_
      have hv_ := HV.out
      rw [List.take_length] at hv_
      first | exact ⟨gO, D, rfl, hv_, h_⟩ | exact ⟨gO, rfl, D, hv_, h_⟩
theorem Sx.marked {w W W' : World} {Ts : List Th} (h : Sx w W Ts) (i : Nat) {v : Value} {xs xs' : List Int} (hi : Ts[i]? = some (.row v xs)) {ok : Nat → Prop} (hr : Kd.R (Kd.int .i64) 3 W' w.heap.size ok v xs') (hk : Kept W W' (fun k => some k = v.ownBlock)) (hb : Below w.heap.size w W') : Sx w W' (Ts.set i (.row v xs')) :=
  h.repl i hi (Kd.R_mono hr (fun _ _ => trivial)) (fun k hk' hlt => hk.2 k hlt (fun e => hk' e.symm)) (fun k hk' => .inl hk') hb
theorem kept_but {S : Nat → Prop} {W A B : World} {g : Nat} (hk : Kept W A S) (hb : But1 g A B) (hg : S g) : Kept W B S :=
  ⟨Nat.le_trans hk.1 (hb.below 0 (Nat.zero_le _)).size, fun k hk1 hn => (hb.same k (fun e => hn (e ▸ hg))).trans (hk.2 k hk1 hn)⟩
theorem kept_kept {S P : Nat → Prop} {W A B : World} (hk : Kept W A S) (h2 : Kept A B P) (hP : ∀ k, P k → S k) : Kept W B S :=
  ⟨Nat.le_trans hk.1 h2.1, fun k hk1 hn => (h2.2 k (Nat.lt_of_lt_of_le hk1 hk.1) (fun h => hn (hP k h))).trans (hk.2 k hk1 hn)⟩
theorem kept_refl (S : Nat → Prop) (W : World) : Kept W W S := ⟨Nat.le_refl _, fun _ _ _ => rfl⟩
theorem PL_one0 : ∀ (L : List Pw) (j : Nat) (p : Pw) (b : Bool), L[j]? = some p → (PL L).set (j * 4) (.bool b) = PL (L.set j { p with f0 := b })
  | [], _, _, _, h => by simp at h
  | q :: t, 0, p, b, h => by simp only [List.getElem?_cons_zero, Option.some.injEq] at h; subst h; rfl
  | q :: t, j + 1, p, b, h => by
    rw [List.getElem?_cons_succ] at h
    have := PL_one0 t j p b h
    rw [show (j + 1) * 4 = j * 4 + 4 by omega]
    exact congrArg (fun z => q.cl ++ z) this
theorem PL_one1 : ∀ (L : List Pw) (j : Nat) (p : Pw) (b : Bool), L[j]? = some p → (PL L).set (j * 4 + 1) (.bool b) = PL (L.set j { p with f1 := b })
  | [], _, _, _, h => by simp at h
  | q :: t, 0, p, b, h => by simp only [List.getElem?_cons_zero, Option.some.injEq] at h; subst h; rfl
  | q :: t, j + 1, p, b, h => by
    rw [List.getElem?_cons_succ] at h
    have := PL_one1 t j p b h
    rw [show (j + 1) * 4 + 1 = j * 4 + 1 + 4 by omega]
    exact congrArg (fun z => q.cl ++ z) this
theorem PA_set0 {L : List Pw} {j : Nat} {p : Pw} (h : L[j]? = some p) (b : Bool) : (PA L).setIfInBounds (j * 4) (.bool b) = PA (L.set j { p with f0 := b }) := by
  simp only [PA, List.setIfInBounds_toArray]; congr 1
  exact PL_one0 L j p b h
theorem PA_set1 {L : List Pw} {j : Nat} {p : Pw} (h : L[j]? = some p) (b : Bool) : (PA L).setIfInBounds (j * 4 + 1) (.bool b) = PA (L.set j { p with f1 := b }) := by
  simp only [PA, List.setIfInBounds_toArray]; congr 1
  exact PL_one1 L j p b h
theorem PSt.one0 {w W W' : World} {g : Nat} {L : List Pw} (h : Sx w W (PSt g L)) {j : Nat} {p : Pw} (hj : L[j]? = some p) {b : Bool} (hs : W'.heap[g]? = some (.cells ((PA L).setIfInBounds (j * 4) (.bool b)) 66 (0, 0))) (hk : But1 g W W') : Sx w W' (PSt g (L.set j { p with f0 := b })) := by
  rw [PA_set0 hj] at hs
  have := h.put 0 rfl hs hk
  show Sx w W' (.blk g (PA (L.set j { p with f0 := b })) 66 :: PT (L.set j { p with f0 := b }))
  rw [PT_same L j p { p with f0 := b } hj rfl]
  exact this
theorem PSt.one1 {w W W' : World} {g : Nat} {L : List Pw} (h : Sx w W (PSt g L)) {j : Nat} {p : Pw} (hj : L[j]? = some p) {b : Bool} (hs : W'.heap[g]? = some (.cells ((PA L).setIfInBounds (j * 4 + 1) (.bool b)) 66 (0, 0))) (hk : But1 g W W') : Sx w W' (PSt g (L.set j { p with f1 := b })) := by
  rw [PA_set1 hj] at hs
  have := h.put 0 rfl hs hk
  show Sx w W' (.blk g (PA (L.set j { p with f1 := b })) 66 :: PT (L.set j { p with f1 := b }))
  rw [PT_same L j p { p with f1 := b } hj rfl]
  exact this
theorem PSt.mark2 {w W W' : World} {g : Nat} {L : List Pw} (h : Sx w W (PSt g L)) {j : Nat} {p : Pw} (hj : L[j]? = some p) {x : List Int} {ok : Nat → Prop} (hr : Kd.R (Kd.int .i64) 3 W' w.heap.size ok (.slice p.A2 p.n2 p.c2) x) (hk : Kept W W' (fun k => some k = (Value.slice p.A2 p.n2 p.c2).ownBlock)) (hb : Below w.heap.size w W') : Sx w W' (PSt g (L.set j { p with x2 := x })) := by
  have := h.marked (2 * j + 1) (PT_get2 hj) hr hk hb
  show Sx w W' (.blk g (PA (L.set j { p with x2 := x })) 66 :: PT (L.set j { p with x2 := x }))
  rw [← PT_set2 L j p x hj, PA, PL_same L j p { p with x2 := x } hj rfl]
  exact this
theorem PSt.mark3 {w W W' : World} {g : Nat} {L : List Pw} (h : Sx w W (PSt g L)) {j : Nat} {p : Pw} (hj : L[j]? = some p) {x : List Int} {ok : Nat → Prop} (hr : Kd.R (Kd.int .i64) 3 W' w.heap.size ok (.slice p.A3 p.n3 p.c3) x) (hk : Kept W W' (fun k => some k = (Value.slice p.A3 p.n3 p.c3).ownBlock)) (hb : Below w.heap.size w W') : Sx w W' (PSt g (L.set j { p with x3 := x })) := by
  have := h.marked (2 * j + 2) (PT_get3 hj) hr hk hb
  show Sx w W' (.blk g (PA (L.set j { p with x3 := x })) 66 :: PT (L.set j { p with x3 := x }))
  rw [← PT_set3 L j p x hj, PA, PL_same L j p { p with x3 := x } hj rfl]
  exact this
/-- All blocks of a row of parts are among O, its rows are not long. -/
def PIn (O : Nat → Prop) (g : Nat) (L : List Pw) : Prop := (∀ T ∈ PSt g L, ∀ k, T.on k → O k) ∧ ∀ p ∈ L, p.x2.length ≤ 1048576 ∧ p.x3.length ≤ 1048576
theorem PT_mem : ∀ (L : List Pw) (T : Th), T ∈ PT L → ∃ p ∈ L, T ∈ p.rows
  | [], T, h => by simp [PT] at h
  | p :: t, T, h => by
    rw [PT, List.mem_append] at h
    rcases h with h | h
    · exact ⟨p, by simp, h⟩
    · obtain ⟨q, hq, hT⟩ := PT_mem t T h
      exact ⟨q, by simp [hq], hT⟩
theorem PT_in : ∀ (L : List Pw) (p : Pw) (T : Th), p ∈ L → T ∈ p.rows → T ∈ PT L
  | [], p, T, h, _ => by simp at h
  | q :: t, p, T, h, hT => by
    rw [PT, List.mem_append]
    rcases List.mem_cons.1 h with rfl | h
    · exact .inl hT
    · exact .inr (PT_in t p T h hT)
theorem PIn.set {O : Nat → Prop} {g : Nat} {L : List Pw} (h : PIn O g L) {j : Nat} {p : Pw} (hj : L[j]? = some p) (p' : Pw) (e2 : (Value.slice p'.A2 p'.n2 p'.c2).ownBlock = (Value.slice p.A2 p.n2 p.c2).ownBlock) (e3 : (Value.slice p'.A3 p'.n3 p'.c3).ownBlock = (Value.slice p.A3 p.n3 p.c3).ownBlock) (l2 : p'.x2.length ≤ 1048576) (l3 : p'.x3.length ≤ 1048576) : PIn O g (L.set j p') := by
  have hpm : p ∈ L := List.mem_of_getElem? hj
  refine ⟨fun T hT k hk => ?_, fun q hq => ?_⟩
  · rcases List.mem_cons.1 hT with rfl | hT
    · exact h.1 (.blk g (PA L) 66) List.mem_cons_self k hk
    · obtain ⟨q, hq, hT2⟩ := PT_mem _ _ hT
      clear hT
      rcases List.mem_or_eq_of_mem_set hq with hq | rfl
      · exact h.1 T (List.mem_cons_of_mem _ (PT_in L q T hq hT2)) k hk
      · have hT : T = .row (.slice q.A2 q.n2 q.c2) q.x2 ∨ T = .row (.slice q.A3 q.n3 q.c3) q.x3 := by simpa [Pw.rows] using hT2
        rcases hT with rfl | rfl
        · exact h.1 (.row (.slice p.A2 p.n2 p.c2) p.x2) (List.mem_cons_of_mem _ (PT_in L p _ hpm (by simp [Pw.rows]))) k (e2.symm.trans hk)
        · exact h.1 (.row (.slice p.A3 p.n3 p.c3) p.x3) (List.mem_cons_of_mem _ (PT_in L p _ hpm (by simp [Pw.rows]))) k (e3.symm.trans hk)
  · rcases List.mem_or_eq_of_mem_set hq with hq | rfl
    · exact h.2 q hq
    · exact ⟨l2, l3⟩
def PNext (w W : World) (O : Nat → Prop) (g n j : Nat) (L : List Pw) (p : Pw) : Prop := L[j]? = some p ∧ L.length = n ∧ PIn O g L ∧ Sx w W (PSt g L)
theorem PNext.lens {w W : World} {O : Nat → Prop} {g n j : Nat} {L : List Pw} {p : Pw} (h : PNext w W O g n j L p) : p.x2.length ≤ 1048576 ∧ p.x3.length ≤ 1048576 := h.2.2.1.2 p (List.mem_of_getElem? h.1)
theorem set_atP {L : List Pw} {j : Nat} {p : Pw} (h : L[j]? = some p) (q : Pw) : (L.set j q)[j]? = some q := by
  obtain ⟨hj, _⟩ := List.getElem?_eq_some_iff.1 h
  simp [hj]
theorem PNext.zero {w W W' : World} {O : Nat → Prop} {g n j : Nat} {L : List Pw} {p : Pw} (h : PNext w W O g n j L p) {b : Bool} (hs : W'.heap[g]? = some (.cells ((PA L).setIfInBounds (j * 4) (.bool b)) 66 (0, 0))) (hk : But1 g W W') : ∃ L1 p1, PNext w W' O g n j L1 p1 :=
  ⟨L.set j { p with f0 := b }, { p with f0 := b }, set_atP h.1 _, by rw [List.length_set]; exact h.2.1, h.2.2.1.set h.1 _ rfl rfl h.lens.1 h.lens.2, PSt.one0 h.2.2.2 h.1 hs hk⟩
theorem PNext.one {w W W' : World} {O : Nat → Prop} {g n j : Nat} {L : List Pw} {p : Pw} (h : PNext w W O g n j L p) {b : Bool} (hs : W'.heap[g]? = some (.cells ((PA L).setIfInBounds (j * 4 + 1) (.bool b)) 66 (0, 0))) (hk : But1 g W W') : ∃ L1 p1, PNext w W' O g n j L1 p1 :=
  ⟨L.set j { p with f1 := b }, { p with f1 := b }, set_atP h.1 _, by rw [List.length_set]; exact h.2.1, h.2.2.1.set h.1 _ rfl rfl h.lens.1 h.lens.2, PSt.one1 h.2.2.2 h.1 hs hk⟩
theorem PNext.two {w W W' : World} {O : Nat → Prop} {g n j : Nat} {L : List Pw} {p : Pw} (h : PNext w W O g n j L p) {x : List Int} (hl : x.length = p.x2.length) {ok : Nat → Prop} (hr : Kd.R (Kd.int .i64) 3 W' w.heap.size ok (.slice p.A2 p.n2 p.c2) x) (hk : Kept W W' (fun k => some k = (Value.slice p.A2 p.n2 p.c2).ownBlock)) (hb : Below w.heap.size w W') : ∃ L1 p1, PNext w W' O g n j L1 p1 :=
  ⟨L.set j { p with x2 := x }, { p with x2 := x }, set_atP h.1 _, by rw [List.length_set]; exact h.2.1, h.2.2.1.set h.1 _ rfl rfl (by show x.length ≤ _; rw [hl]; exact h.lens.1) h.lens.2, PSt.mark2 h.2.2.2 h.1 hr hk hb⟩
theorem PNext.three {w W W' : World} {O : Nat → Prop} {g n j : Nat} {L : List Pw} {p : Pw} (h : PNext w W O g n j L p) {x : List Int} (hl : x.length = p.x3.length) {ok : Nat → Prop} (hr : Kd.R (Kd.int .i64) 3 W' w.heap.size ok (.slice p.A3 p.n3 p.c3) x) (hk : Kept W W' (fun k => some k = (Value.slice p.A3 p.n3 p.c3).ownBlock)) (hb : Below w.heap.size w W') : ∃ L1 p1, PNext w W' O g n j L1 p1 :=
  ⟨L.set j { p with x3 := x }, { p with x3 := x }, set_atP h.1 _, by rw [List.length_set]; exact h.2.1, h.2.2.1.set h.1 _ rfl rfl h.lens.1 (by show x.length ≤ _; rw [hl]; exact h.lens.2), PSt.mark3 h.2.2.2 h.1 hr hk hb⟩
theorem PNext.inG {w W : World} {O : Nat → Prop} {g n j : Nat} {L : List Pw} {p : Pw} (h : PNext w W O g n j L p) : O g := h.2.2.1.1 _ List.mem_cons_self g rfl
theorem PNext.in2 {w W : World} {O : Nat → Prop} {g n j : Nat} {L : List Pw} {p : Pw} (h : PNext w W O g n j L p) : ∀ k, some k = (Value.slice p.A2 p.n2 p.c2).ownBlock → O k := fun k hk => by
  have hm : Th.row (.slice p.A2 p.n2 p.c2) p.x2 ∈ PSt g L := List.mem_cons_of_mem _ (PT_in L p _ (List.mem_of_getElem? h.1) (by simp [Pw.rows]))
  exact h.2.2.1.1 _ hm k hk.symm
theorem PNext.in3 {w W : World} {O : Nat → Prop} {g n j : Nat} {L : List Pw} {p : Pw} (h : PNext w W O g n j L p) : ∀ k, some k = (Value.slice p.A3 p.n3 p.c3).ownBlock → O k := fun k hk => by
  have hm : Th.row (.slice p.A3 p.n3 p.c3) p.x3 ∈ PSt g L := List.mem_cons_of_mem _ (PT_in L p _ (List.mem_of_getElem? h.1) (by simp [Pw.rows]))
  exact h.2.2.1.1 _ hm k hk.symm
theorem PNext.size {w W : World} {O : Nat → Prop} {g n j : Nat} {L : List Pw} {p : Pw} (h : PNext w W O g n j L p) (hj : j < n) : j * 4 + 1 < (PA L).size := by rw [PA_size, h.2.1]; omega
set_option maxHeartbeats 2000000 in
set_option maxRecDepth 100000 in
theorem markPartS_any (O : Nat → Prop) (g : Nat) (L : List Pw) (a : Int) (w0 W : World) (hS : Sx w0 W (PSt g L)) (hPI : PIn O g L) (hn : L.length ≤ 1048576) (hab : 0 ≤ a ∧ a ≤ 10000000000000000) :
    Calls Try.prog 24 #[.slice (some ⟨g, 0, none⟩) L.length L.length, .int .i64 a] W fun e w' => ∃ r : Int, e = .returned (.int .i64 r) ∧ 0 ≤ r ∧ r ≤ a + (L.length : Int) * 4194304 ∧ Kept W w' O ∧ Below w0.heap.size w0 w' := by
  have HS := Aside0.mk hS
  have HPI := Aside0.mk hPI
  have HN := Aside0.mk hn
  have HAB := Aside0.mk hab
  clear hS hPI hn hab
  go_enter Try.func24, Try.ntmps24
  go_wp2_with fail
  go_loopw [1, 5] (fun s1 z wr => ∃ (i : Nat) (b : Int) (L0 : List Pw), z = .int .i64 (i : Int) ∧ s1 = .int .i64 b ∧ Aside0 (i ≤ L.length) ∧ Aside0 (L0.length = L.length) ∧ Aside0 (0 ≤ b ∧ b ≤ a + (i : Int) * 4194304) ∧ Aside0 (PIn O g L0) ∧ Aside0 (Kept W wr O) ∧ Aside0 (Sx w0 wr (PSt g L0))) (fun _ z _ => L.length - (intOf z).toNat)
  case atStart => exact ⟨0, a, L, rfl, rfl, ⟨Nat.zero_le _⟩, ⟨rfl⟩, ⟨by have := HAB.out; omega⟩, HPI, ⟨kept_refl _ _⟩, HS⟩
  case round =>
    clear HS HPI
    obtain ⟨i, b, L0, rfl, rfl, hi_, HL, HB, HPI, HK, HS⟩ := hrel
    by_cases hlt : i < L.length
    · have hb := HB.out
      have hab := HAB.out
      have hnn := HN.out
      obtain ⟨p0, hp0⟩ : ∃ p, L0[i]? = some p := ⟨L0[i]'(by rw [HL.out]; exact hlt), List.getElem?_eq_getElem _⟩
      have HP : Aside0 (PNext w0 wr O g L.length i L0 p0) := Aside0.mk ⟨hp0, HL.out, HPI.out, HS.out⟩
      clear hp0 HL HPI HS
      obtain ⟨b1, hb1⟩ : ∃ x, b + 1 = x := ⟨_, rfl⟩
      obtain ⟨b2, hb2⟩ : ∃ x, b1 + 1 = x := ⟨_, rfl⟩
      have e1 : IntKind.i64.wrap (b + 1) = b1 := by rw [IntWalk.i64_in _ (by omega)]; exact hb1
      have e2 : IntKind.i64.wrap (b1 + 1) = b2 := by rw [IntWalk.i64_in _ (by omega)]; exact hb2
      have e3 : RowKit.wrap64 (b + 1) = b1 := by rw [IntWalk.wrap64_in _ (by omega)]; exact hb1
      have e4 : RowKit.wrap64 (b1 + 1) = b2 := by rw [IntWalk.wrap64_in _ (by omega)]; exact hb2
      have HB2 := Aside0.mk (show 0 ≤ b2 ∧ b2 ≤ a + (i : Int) * 4194304 + 2 ∧ b2 ≤ 100000000000000000 by omega)
      have w1 : IntKind.i64.wrap ((i : Int) + 1) = ((i + 1 : Nat) : Int) := by rw [IntWalk.i64_in _ (by omega)]; omega
      have p_0 : (i : Int) < (L.length : Int) := by omega
      have p_1 : 0 ≤ (i : Int) := by omega
      clear hb hab hnn hb1 hb2
      go_wp2_with (first | ((with_reducible refine gate_store rfl ?_); refine ev_store rfl 4 (.tmp 18) (.tmp 16) rfl g (i * 4) rfl _ rfl (PA L0) 66 (HP.out.2.2.2.blk 0 rfl) (Nat.lt_of_succ_lt (HP.out.size hlt)) rfl (by kernel_rfl) ?_; intro w1 hx hb; obtain ⟨L1, p1, hn_⟩ := HP.out.zero hx hb; have nK := Aside0.mk (kept_but HK.out hb HP.out.inG); clear HP HK; have HP := Aside0.mk hn_; have HK := nK; clear hn_ nK; clear hx hb) | ((with_reducible refine gate_store rfl ?_); refine ev_store rfl 4 (.tmp 28) (.tmp 25) rfl g (i * 4 + 1) rfl _ rfl (PA L1) 66 (HP.out.2.2.2.blk 0 rfl) (HP.out.size hlt) rfl (by kernel_rfl) ?_; intro w2 hx hb; obtain ⟨L2, p2, hn_⟩ := HP.out.one hx hb; have nK := Aside0.mk (kept_but HK.out hb HP.out.inG); clear HP HK; have HP := Aside0.mk hn_; have HK := nK; clear hn_ nK; clear hx hb) | ((with_reducible refine gate_dst (N := 36) rfl ?_); refine ev_load rfl 22 (.tmp 35) rfl ⟨g, i * 4 + 2, none⟩ rfl (.slice p2.A2 p2.n2 p2.c2) ((PA_cell (HP.out.2.2.2.blk 0 rfl) HP.out.1 2 (by decide)).trans rfl) (by kernel_rfl) ?_) | (go_at_call 63; obtain ⟨km, hkm⟩ := (markIntS_ev p2.x2 b2 (by have := HP.out.lens; omega) (by have := HB2.out; omega) (by have := HB2.out; omega)).rounds; obtain ⟨b3, hb3⟩ : ∃ x, b2 + (p2.x2.length : Int) = x := ⟨_, rfl⟩; rw [hb3] at hkm; have HB3 := Aside0.mk (show 0 ≤ b3 ∧ b3 ≤ a + (i : Int) * 4194304 + 2 + 1048576 by have := HB2.out; have := HP.out.lens; omega); refine (laws_markIntS.calls km (fun k => some k = (Value.slice p2.A2 p2.n2 p2.c2).ownBlock) (.slice p2.A2 p2.n2 p2.c2) p2.x2 b2 b3 (upFrom b2 p2.x2.length) w0 _ HP.out.2.2.2.below (Kd.R_tight rfl (HP.out.2.2.2.row (2 * i + 1) (PT_get2 HP.out.1))) hkm).mono ?_; clear hkm hb3; rintro e w3 ⟨rfl, hr, hb, hk⟩; obtain ⟨L3, p3, hn_⟩ := HP.out.two (upFrom_len _ _) hr hk hb; have nK := Aside0.mk (kept_kept HK.out hk HP.out.in2); clear HP HK; have HP := Aside0.mk hn_; have HK := nK; clear hn_ nK; clear hr hb hk) | ((with_reducible refine gate_dst (N := 44) rfl ?_); refine ev_load rfl 22 (.tmp 43) rfl ⟨g, i * 4 + 3, none⟩ rfl (.slice p3.A3 p3.n3 p3.c3) ((PA_cell (HP.out.2.2.2.blk 0 rfl) HP.out.1 3 (by decide)).trans rfl) (by kernel_rfl) ?_) | (go_at_call 63; obtain ⟨km, hkm⟩ := (markIntS_ev p3.x3 b3 (by have := HP.out.lens; omega) (by have := HB3.out; omega) (by have := HB3.out; have := HAB.out; have := HN.out; omega)).rounds; obtain ⟨b4, hb4⟩ : ∃ x, b3 + (p3.x3.length : Int) = x := ⟨_, rfl⟩; rw [hb4] at hkm; have HB4 := Aside0.mk (show 0 ≤ b4 ∧ b4 ≤ a + (i : Int) * 4194304 + 2 + 1048576 + 1048576 by have := HB3.out; have := HP.out.lens; omega); refine (laws_markIntS.calls km (fun k => some k = (Value.slice p3.A3 p3.n3 p3.c3).ownBlock) (.slice p3.A3 p3.n3 p3.c3) p3.x3 b3 b4 (upFrom b3 p3.x3.length) w0 _ HP.out.2.2.2.below (Kd.R_tight rfl (HP.out.2.2.2.row (2 * i + 2) (PT_get3 HP.out.1))) hkm).mono ?_; clear hkm hb4; rintro e w4 ⟨rfl, hr, hb, hk⟩; obtain ⟨L4, p4, hn_⟩ := HP.out.three (upFrom_len _ _) hr hk hb; have nK := Aside0.mk (kept_kept HK.out hk HP.out.in3); clear HP HK; have HP := Aside0.mk hn_; have HK := nK; clear hn_ nK; clear hr hb hk))
      go_roundw
      case rel => exact ⟨i + 1, b4, L4, by first | rfl | (push_cast; rfl), rfl, ⟨hlt⟩, ⟨HP.out.2.1⟩, ⟨by have := HB4.out; push_cast; omega⟩, ⟨HP.out.2.2.1⟩, HK, ⟨HP.out.2.2.2⟩⟩
      case measure => simp [intOf]; omega
    · obtain rfl : i = L.length := by have := hi_.out; omega
      have p_0 : ¬ (L.length : Int) < (L.length : Int) := by omega
      go_wp2
      go_ret
      first | exact ⟨b, rfl, HB.out.1, HB.out.2, HK.out, HS.out.below⟩ | exact ⟨rfl, HB.out.1, HB.out.2, HK.out, HS.out.below⟩
abbrev PartL := S59
def szP : List PartL → Nat
  | [] => 0
  | p :: t => p.f1.f1.length + p.f1.f2.length + szP t
theorem rdL_midP (q : List PartL) (p : PartL) (t : List PartL) : rd_T59 (q ++ p :: t) (q.length : Int) = p := by simp [rd_T59]
theorem szPart_eq (p : PartL) (a : Int) (h0 : 0 ≤ a) (h1 : a ≤ 1048576) (hl1 : p.f1.f1.length ≤ maxLen) (hl2 : p.f1.f2.length ≤ maxLen) : laws_szPart.f p.f0 p.f1.f0 p.f1.f1 p.f1.f2 a = some (if (p.f1.f1.length : Int) + p.f1.f2.length ≤ a then a - p.f1.f1.length - p.f1.f2.length else -1) := by
  unfold laws_szPart.f
  rw [szArray_eq _ _ _ _ h0 h1 hl1 hl2, Option.bind_some]
  by_cases h : (p.f1.f1.length : Int) + p.f1.f2.length ≤ a
  · rw [if_pos h, if_neg (by omega)]
  · rw [if_neg h, if_pos (by omega)]
theorem szP_loop : ∀ (t q : List PartL) (a : Int), 0 ≤ a → a ≤ 1048576 → (q ++ t).length ≤ 1048576 → (∀ p ∈ t, p.f1.f1.length ≤ maxLen ∧ p.f1.f2.length ≤ maxLen) →
    Ev (fun k => laws_szPartS.l0 k (q ++ t) a (q.length : Int)) (if (szP t : Int) ≤ a then a - szP t else -1)
  | [], q, a, h0, h1, hl, _ => by
    refine evVal (evRound (Ev.now a) fun k => ?_) (by simp [szP, h0])
    simp only [laws_szPartS.l0]
    rw [if_neg (by simp)]
  | p :: t, q, a, h0, h1, hl, hm => by
    have hp := hm p (by simp)
    have hq : q.length < (q ++ p :: t).length := by simp
    by_cases h : (p.f1.f1.length : Int) + p.f1.f2.length ≤ a
    · have ih := szP_loop t (q ++ [p]) (a - p.f1.f1.length - p.f1.f2.length) (by omega) (by omega) (by simpa using hl) (fun x hx => hm x (by simp [hx]))
      rw [show q ++ [p] ++ t = q ++ p :: t by simp] at ih
      refine evVal (evRound ih fun k => ?_) ?_
      · simp only [laws_szPartS.l0]
        rw [if_pos (by omega), if_pos (by omega), rdL_midP, szPart_eq p a h0 h1 hp.1 hp.2, Option.bind_some, if_pos h, if_neg (by omega), w64 (by omega) (by omega)]
        simp
      · have es : (szP (p :: t) : Int) = p.f1.f1.length + p.f1.f2.length + szP t := by simp [szP]
        by_cases h2 : (szP t : Int) ≤ a - p.f1.f1.length - p.f1.f2.length
        · rw [if_pos h2, if_pos (by omega)]; omega
        · rw [if_neg h2, if_neg (by omega)]
    · refine evVal (evRound (Ev.now (-1)) fun k => ?_) ?_
      · simp only [laws_szPartS.l0]
        rw [if_pos (by omega), if_pos (by omega), rdL_midP, szPart_eq p a h0 h1 hp.1 hp.2, Option.bind_some, if_neg h, if_pos (by omega)]
      · have es : (szP (p :: t) : Int) = p.f1.f1.length + p.f1.f2.length + szP t := by simp [szP]
        rw [if_neg (by omega)]
theorem szPartS_ev (ps : List PartL) (a : Int) (h0 : 0 ≤ a) (h1 : a ≤ 1048576) (hl : ps.length ≤ maxLen) (hm : ∀ p ∈ ps, p.f1.f1.length ≤ maxLen ∧ p.f1.f2.length ≤ maxLen) : Ev (fun k => laws_szPartS.f k ps a) (if (ps.length : Int) + szP ps ≤ a then a - ps.length - szP ps else -1) := by
  have hml : maxLen ≤ 9223372036854775807 := by decide
  by_cases h : (ps.length : Int) ≤ a
  · have lp := szP_loop ps [] (a - ps.length) (by omega) (by omega) (by simp; omega) hm
    refine evVal (Ev.congr (fun k => ?_) lp) ?_
    · simp only [laws_szPartS.f]
      rw [w64 (by omega) (by omega), if_neg (by omega)]; rfl
    · by_cases h2 : (szP ps : Int) ≤ a - ps.length
      · rw [if_pos h2, if_pos (by omega)]
      · rw [if_neg h2, if_neg (by omega)]
  · refine evVal (evEq fun k => ?_) (if_neg (by omega)).symm
    simp only [laws_szPartS.f]
    rw [w64 (by omega) (by omega), if_pos (by omega)]
theorem szP_mem : ∀ {ps : List PartL} {p : PartL}, p ∈ ps → p.f1.f1.length + p.f1.f2.length ≤ szP ps
  | [], _, h => by simp at h
  | q :: t, p, h => by
    simp only [szP]
    rcases List.mem_cons.1 h with rfl | h
    · omega
    · have := szP_mem h; omega
abbrev PartI := S66
theorem rdI_midP (q : List PartI) (p : PartI) (t : List PartI) : rd_T66 (q ++ p :: t) (q.length : Int) = p := by simp [rd_T66]
theorem eqPart_self (p : PartI) (h2 : p.f1.f1.length ≤ 35184372088832) (h3 : p.f1.f2.length ≤ 35184372088832) : Ev (fun k => laws_eqPart.f k p.f0 p.f1.f0 p.f1.f1 p.f1.f2 p.f0 p.f1.f0 p.f1.f1 p.f1.f2) true := by
  have h := eqArray_self p.f1.f0 p.f1.f1 p.f1.f2 h2 h3
  refine Ev.congr (fun k => ?_) (Ev.bind h (f := fun _ t => if t = true then some true else some false) (Ev.now true))
  simp only [laws_eqPart.f]
  rw [if_neg (by simp)]
theorem eqP_loop : ∀ (t q : List PartI), (q ++ t).length ≤ 1048576 → (∀ p ∈ t, p.f1.f1.length ≤ 35184372088832 ∧ p.f1.f2.length ≤ 35184372088832) → Ev (fun k => laws_eqPartS.l0 k (q ++ t) (q ++ t) (q.length : Int)) true
  | [], q, hl, _ => by
    refine evRound (Ev.now true) fun k => ?_
    simp only [laws_eqPartS.l0]
    rw [if_neg (by simp)]
  | p :: t, q, hl, hm => by
    have hp := hm p (by simp)
    have hq : q.length < (q ++ p :: t).length := by simp
    have ih := eqP_loop t (q ++ [p]) (by simpa using hl) (fun x hx => hm x (by simp [hx]))
    rw [show q ++ [p] ++ t = q ++ p :: t by simp] at ih
    refine evRound (f := fun k => (laws_eqPart.f k p.f0 p.f1.f0 p.f1.f1 p.f1.f2 p.f0 p.f1.f0 p.f1.f1 p.f1.f2).bind fun r => if r = true then laws_eqPartS.l0 k (q ++ p :: t) (q ++ p :: t) (((q ++ [p]).length : Nat) : Int) else some false) (Ev.bind (eqPart_self p hp.1 hp.2) (by simp only [if_true]; exact ih)) fun k => ?_
    simp only [laws_eqPartS.l0]
    rw [if_pos (by omega), if_pos (by omega), if_pos (by omega), rdI_midP, w64 (by omega) (by omega)]
    simp
theorem eqPartS_self (ps : List PartI) (hl : ps.length ≤ 1048576) (hm : ∀ p ∈ ps, p.f1.f1.length ≤ 35184372088832 ∧ p.f1.f2.length ≤ 35184372088832) : Ev (fun k => laws_eqPartS.f k ps ps) true := by
  refine Ev.congr (fun k => ?_) (eqP_loop ps [] (by simpa using hl) hm)
  simp only [laws_eqPartS.f]
  rw [if_pos trivial]; rfl
/-! ### the law's state -/
theorem Sx.lowerB {w v W : World} {Ts : List Th} (h : Sx v W Ts) (hb : Below w.heap.size w W) (hs : w.heap.size ≤ v.heap.size) : Sx w W Ts :=
  ⟨hb, fun T hT => by
    have := h.ok T hT
    cases T with
    | blk g cs t => exact ⟨this.1, Nat.le_trans hs this.2⟩
    | row v xs => exact Kd.R_lower this hs, h.nod⟩
theorem Sx.but {w W W' : World} {Ts : List Th} (h : Sx w W Ts) {g : Nat} (hk : But1 g W W') (hg : ∀ T ∈ Ts, ∀ k, T.on k → k ≠ g) (hgw : w.heap.size ≤ g) : Sx w W' Ts :=
  ⟨h.below.trans (hk.below _ hgw), fun T hT => Th.keep (h.ok T hT) fun k hk' _ => hk.same k (hg T hT k hk'), h.nod⟩
theorem Sx.keptS {w W W' : World} {Ts : List Th} (h : Sx w W Ts) {S : Nat → Prop} (hk : Kept W W' S) (hS : ∀ T ∈ Ts, ∀ k, T.on k → ¬ S k) (hb : Below w.heap.size w W') : Sx w W' Ts :=
  ⟨hb, fun T hT => Th.keep (h.ok T hT) fun k hk' hlt => hk.2 k hlt (hS T hT k hk'), h.nod⟩
def OnP (g : Nat) (L : List Pw) (k : Nat) : Prop := ∃ T ∈ PSt g L, T.on k
theorem OnP.typed {w W : World} {g : Nat} {L : List Pw} (h : Sx w W (PSt g L)) {k : Nat} (hk : OnP g L k) : ∃ cells q, W.heap[k]? = some (.cells cells q (0, 0)) ∧ (q = 3 ∨ q = 66) := by
  obtain ⟨T, hT, hk⟩ := hk
  have hok := h.ok T hT
  rcases List.mem_cons.1 hT with rfl | hT
  · have e : k = g := hk
    subst e
    exact ⟨_, _, hok.1, .inr rfl⟩
  · obtain ⟨p, hp, hr⟩ := PT_mem _ _ hT
    have hr : T = .row (.slice p.A2 p.n2 p.c2) p.x2 ∨ T = .row (.slice p.A3 p.n3 p.c3) p.x3 := by simpa [Pw.rows] using hr
    rcases hr with rfl | rfl
    · obtain ⟨cells, hc⟩ := own_typed (Kd.own_of_R hok) k hk
      exact ⟨cells, _, hc, .inl rfl⟩
    · obtain ⟨cells, hc⟩ := own_typed (Kd.own_of_R hok) k hk
      exact ⟨cells, _, hc, .inl rfl⟩
/-- A place in the list of pairs, kept for a row of parts. -/
def gapD (lo hi : Nat) : PrD := ⟨lo, hi, .slice none 0 0, .slice none 0 0, [], []⟩
theorem St.gap {w W W' : World} {bl : List Bk} {ps : List PrD} (h : St w W bl ps) (hb : Below W.heap.size W W') : St w W' bl (gapD W.heap.size W'.heap.size :: ps) :=
  h.add hb (Nat.le_refl _) (ok2 := fun _ => True) (Kd.R_nil _ _ _ _ _) (Kd.R_nil _ _ _ _ _)
theorem St.markG {w W W' : World} {bl : List Bk} {ps : List PrD} (h : St w W bl ps) (i : Nat) {lo hi : Nat} (hi' : ps[i]? = some (gapD lo hi)) {O : Nat → Prop} (hk : Kept W W' O) (hO : ∀ k, O k → lo ≤ k ∧ k < hi) (hT : ∀ k, O k → ∃ cells q, W.heap[k]? = some (.cells cells q (0, 0)) ∧ (q = 3 ∨ q = 66)) (hbt : ∀ p ∈ bl, p.2.2 ≠ 66) (hb : Below w.heap.size w W') : St w W' bl ps := by
  obtain ⟨hlt, hie⟩ := List.getElem?_eq_some_iff.1 hi'
  have hfar := List.pairwise_iff_getElem.1 h.far
  refine ⟨hb, fun p hp => ⟨?_, (h.blk p hp).2⟩, h.nod, fun e he => ?_, h.far⟩
  · refine blk_kept (h.blk p hp).1 hk fun hs => ?_
    obtain ⟨cells, q, hc, hq⟩ := hT _ hs
    have hb' := (h.blk p hp).1
    rw [hc] at hb'; injection hb' with hb'; injection hb' with _ hb'
    rcases hq with rfl | rfl
    · exact (h.blk p hp).2.2 hb'.symm
    · exact hbt p hp hb'.symm
  · have hq := h.pr e he
    obtain ⟨j, hj, ej⟩ := List.getElem_of_mem he
    by_cases hij : i = j
    · subst hij
      rw [hie] at ej
      subst ej
      exact ⟨⟨Kd.R_nil _ _ _ _ _, Kd.R_nil _ _ _ _ _⟩, hq.2.1, Nat.le_trans hq.2.2 hk.1⟩
    have hdis : ∀ k, e.lo ≤ k → k < e.hi → ¬ O k := fun k h1 h2 hs => by
      have h3 := hO k hs
      rcases Nat.lt_or_gt_of_ne hij with hl | hl
      · have h4 : (ps[j]).hi ≤ (ps[i]).lo := hfar i j hlt hj hl
        rw [hie, ej] at h4
        have h5 : e.hi ≤ lo := h4
        omega
      · have h4 : (ps[i]).hi ≤ (ps[j]).lo := hfar j i hj hlt hl
        rw [hie, ej] at h4
        have h5 : hi ≤ e.lo := h4
        omega
    exact ⟨⟨Kd.R_mono (Kd.R_step (Kd.R_bound hq.1.1) (fun k hok hlt' => hk.2 k hlt' (hdis k hok.2.1 hok.1.1))) (fun k hok => hok.1), Kd.R_mono (Kd.R_step (Kd.R_bound hq.1.2) (fun k hok hlt' => hk.2 k hlt' (hdis k hok.2.1 hok.1.1))) (fun k hok => hok.1)⟩, hq.2.1, Nat.le_trans hq.2.2 hk.1⟩
theorem PSt.C' {w W : World} {g : Nat} {L : List Pw} {px : List PartI} {n : Nat} (h : Sx w W (PSt g L)) (hL : L.map Pw.val = px) (hb : n ≤ 1048576) (hn : px.length = n) : Kd.C k66 W (some ⟨g, 0, none⟩) px.length px := by
  subst hL
  rw [List.length_map] at hn ⊢
  exact PSt.C h (by omega)
theorem Sx.allocK {w W : World} {Ts : List Th} (h : Sx w W Ts) (cs : Array Value) (t : TypeId) : Sx w (W.alloc (.cells cs t)) Ts := h.step (below_alloc (Below.refl _ _) _)
theorem St.gapL {w W W' : World} {bl : List Bk} {ps : List PrD} {Ts : List Th} (h : St w W bl ps) (hq : Sx W W' Ts) : Sx w W' Ts := hq.lowerB (below_step h.below hq.below) h.below.size
theorem St.geI {w W : World} {bl : List Bk} {ps : List PrD} (h : St w W bl ps) (i : Nat) {g : Nat} {cs : Array Value} {t : TypeId} (hi : bl[i]? = some (g, cs, t)) : w.heap.size ≤ g := (h.blk _ (List.mem_of_getElem? hi)).2.1
theorem St.apartG {w W : World} {bl : List Bk} {ps : List PrD} (h : St w W bl ps) (i j : Nat) {lo hi : Nat} {d : PrD} (hi' : ps[i]? = some (gapD lo hi)) (hj : ps[j]? = some d) (hij : i ≠ j) : ∀ k, (lo ≤ k ∧ k < hi) → ¬ (some k = d.v1.ownBlock ∨ some k = d.v2.ownBlock) := by
  obtain ⟨hil, hie⟩ := List.getElem?_eq_some_iff.1 hi'
  obtain ⟨hjl, hje⟩ := List.getElem?_eq_some_iff.1 hj
  have hfar := List.pairwise_iff_getElem.1 h.far
  have hp := h.nth j hj
  intro k hk hs
  have h3 : d.lo ≤ k ∧ k < d.hi := by
    rcases hs with hs | hs
    · exact hp.in1 k hs
    · exact hp.in2 k hs
  rcases Nat.lt_or_gt_of_ne hij with hl | hl
  · have h4 : (ps[j]).hi ≤ (ps[i]).lo := hfar i j hil hjl hl
    rw [hie, hje] at h4
    have h5 : d.hi ≤ lo := h4
    omega
  · have h4 : (ps[i]).hi ≤ (ps[j]).lo := hfar j i hjl hil hl
    rw [hie, hje] at h4
    have h5 : hi ≤ d.lo := h4
    omega
theorem eqPartS_n (k : Nat) (A0 A1 : Option Addr) (n m : Nat) (px : List PartI) (hn : px.length = n) (r : Bool) (w : World) (h0 : Kd.C k66 w A0 px.length px) (h1 : Kd.C k66 w A1 px.length px) (h : laws_eqPartS.f k px px = some r) :
    Calls Try.prog 22 #[.slice A0 n n, .slice A1 n n] w fun e w' => e = .returned (.bool r) ∧ Below w.heap.size w w' := by
  subst hn
  exact laws_eqPartS.calls k A0 _ px A1 _ px r w h0 (Nat.le_refl _) h1 (Nat.le_refl _) h
theorem markP_n (g : Nat) (L : List Pw) (px : List PartI) (n : Nat) (a : Int) (w W : World) (hn : px.length = n) (hL : L.map Pw.val = px) (hS : Sx w W (PSt g L)) (hps : ∀ p ∈ px, p.f1.f1.length ≤ 1048576 ∧ p.f1.f2.length ≤ 1048576) (hb : n ≤ 1048576) (hab : 0 ≤ a ∧ a ≤ 10000000000000000) :
    Calls Try.prog 24 #[.slice (some ⟨g, 0, none⟩) n n, .int .i64 a] W fun e w' => ∃ r : Int, e = .returned (.int .i64 r) ∧ 0 ≤ r ∧ r ≤ a + (n : Int) * 4194304 ∧ Kept W w' (OnP g L) ∧ Below w.heap.size w w' := by
  subst hL
  rw [List.length_map] at hn
  subst hn
  exact markPartS_any (OnP g L) g L a w W hS ⟨fun T hT k hk => ⟨T, hT, hk⟩, fun p hp => hps p.val (List.mem_map_of_mem hp)⟩ hb hab
end Go.Proofs.Ytehfcnndjhjkoaa.PA
namespace Go.Proofs.Ytehfcnndjhjkoaa.PA
open Go Go.RowKit Go.Proofs.YtehfcnndjhjkoaaW.PrintWords Go.Proofs.YtehfcnndjhjkoaaW.PrintLast
set_option linter.unusedSimpArgs false
set_option linter.unusedVariables false
/-- From A to B every block of A's stands as it stood, but those of S. -/
structure ButS (S : Nat → Prop) (A B : World) : Prop where
  size : A.heap.size ≤ B.heap.size
  same : ∀ k, k < A.heap.size → ¬ S k → B.heap[k]? = A.heap[k]?
  os : B.os = A.os
  tape : B.tape = A.tape
  output : B.output = A.output
theorem ButS.mono {S T : Nat → Prop} {A B : World} (h : ButS S A B) (ht : ∀ k, S k → T k) : ButS T A B := ⟨h.size, fun k hk hn => h.same k hk (fun hs => hn (ht k hs)), h.os, h.tape, h.output⟩
theorem ButS.alloc (S : Nat → Prop) (A : World) (o : Obj) : ButS S A (A.alloc o) := ⟨by simp, fun k hk _ => Below.heap_alloc A o k hk, rfl, rfl, rfl⟩
theorem ButS.putObj (A : World) (l : Nat) (o : Obj) {S : Nat → Prop} (hl : S l) : ButS S A (A.putObj l o) := ⟨by simp [World.putObj], fun k _ hn => World.putObj_heap_other (fun e => hn (e ▸ hl)), rfl, rfl, rfl⟩
theorem ButS.trans {S : Nat → Prop} {A B C : World} (h : ButS S A B) (k : ButS S B C) : ButS S A C :=
  ⟨Nat.le_trans h.size k.size, fun i hi hn => (k.same i (Nat.lt_of_lt_of_le hi h.size) hn).trans (h.same i hi hn), k.os.trans h.os, k.tape.trans h.tape, k.output.trans h.output⟩
/-- THE ITERATOR's CONTRACT: N rounds, each handing out the values vs G, G the block laid first in the iterator (its number: the heap's size where it begins); in round t 'At G t' holds; a round that goes on keeps it, and the blocks of M. -/
def RoundsG (F : Fence) (n : Nat) (P : Program) (g : Nat) (lb : Array Value) (vs : Nat → Array Value) (At : Nat → Nat → World → Prop) (N : Nat) (M : Nat → Prop) (w : World) : Prop :=
  ∀ (l : Nat) (J Jx : Nat → World → Prop) (W : World), Below w.heap.size w W →
    (∀ t A B, J t A → ButS (fun k => k = W.heap.size) A B → J t B) →
    (∀ t W1, J t W1 → t < N → At W.heap.size t W1 → YieldAt F (n - 1) P l (vs W.heap.size) W1 fun e W' =>
      (e = .returned (.bool true) ∧ J (t + 1) W' ∧ At W.heap.size t W' ∧ (∀ k, M k → W'.heap[k]? = W1.heap[k]?)) ∨ (e = .returned (.bool false) ∧ Jx (t + 1) W')) →
    J 0 W →
    CallsIn F n P g (#[.func (.yield l) #[] #[]] ++ lb) W fun e W' => (∃ v, e = .returned v) ∧ (J N W' ∨ ∃ t, t < N ∧ Jx (t + 1) W')
/-- How the body of a round may be left. -/
def roundPost (M : Nat → Prop) (At1 : World → Prop) (I : World → Prop) (Ix : Code → World → Prop) (W : World) : Exit → Act → World → Prop
  | .normal, _, W' => KeepsOthers W W' ∧ (∀ k, M k → W'.heap[k]? = W.heap[k]?) ∧ At1 W' ∧ I W'
  | .ret, _, W' => KeepsOthers W W' ∧ Ix .ret W'
  | .exit id, _, W' => KeepsOthers W W' ∧ Ix (.exit id) W'
  | .goto t, _, W' => KeepsOthers W W' ∧ Ix (.goto t) W'
  | .panic _, _, _ => False
  | .outgrown, _, _ => False
theorem wpIn_rounds {F : Fence} {n : Nat} {P : Program} {g : Operand} {ps : Array Tmp} {assign body : Code} {Q : Exit → Act → World → Prop} {a : Act} {w : World}
    (hro : F.round = none) (h1 : 1 ≤ n) {gf : Nat} {lb : Array Value} (hg : a.eval g = .func (.func gf) #[] lb) (hFg : F.fn gf) (eg : ∀ args w, (callFunc gf args).run P w = .ok (.enter gf args) w)
    {vs : Nat → Array Value} {At : Nat → Nat → World → Prop} {N : Nat} {M : Nat → Prop} {w0 : World} (hseq : RoundsG F (n - 1) P gf lb vs At N M w0) (hb0 : Below w0.heap.size w0 w) (hM : ∀ k, M k → k < w.heap.size)
    (hAt : ∀ G t A B, At G t A → B.heap[G]? = A.heap[G]? → At G t B) (hps : (vs (w.heap.size + 2)).size = ps.size)
    (I : Nat → World → Prop) (Ix : Code → Nat → World → Prop)
    (hI : ∀ t A B, I t A → ButS (fun k => w.heap.size ≤ k ∧ k < w.heap.size + 3) A B → I t B)
    (hIx : ∀ c t A B, Ix c t A → ButS (fun k => w.heap.size ≤ k ∧ k < w.heap.size + 3) A B → Ix c t B) (h0 : I 0 w) (a₁ : Act)
    (hassign : ∀ (l : Nat) (W : World) (K : Act → World → Prop), K a₁ W →
      assign.wpIn (F.inRound l) (n - 1 - 1) P (Exit.then K (fun _ _ _ => False)) { tmps := (ps.zip (vs (w.heap.size + 2))).foldl (fun t (p, v) => t.setIfInBounds p v) a.tmps, defers := [] } W)
    (hbody : ∀ (l t : Nat) (W : World), I t W → t < N → At (w.heap.size + 2) t W → w.heap.size + 2 ≤ W.heap.size → body.wpIn (F.inRound l) (n - 1 - 1) P (roundPost M (At (w.heap.size + 2) t) (I (t + 1)) (fun c => Ix c (t + 1)) W) a₁ W)
    (hdone : ∀ (W : World), I N W → W.heap[w.heap.size]? = some (.deferred (some [])) → Q .normal { a with defers := { target := .collected w.heap.size, args := #[] } :: a.defers } W)
    (hstop : ∀ (c : Code) (t : Nat) (W : World), t < N → Ix c (t + 1) W → W.heap[w.heap.size]? = some (.deferred (some [])) → c.wpIn F n P Q { a with defers := { target := .collected w.heap.size, args := #[] } :: a.defers } W) :
    (Code.rangeFunc g ps assign body).wpIn F n P Q a w := by
  refine wpIn_rangeFunc ?_
  intro fn hfn
  rw [hro]
  obtain ⟨rec, hrec⟩ : ∃ rec : LoopState → Option Code → Loop, rec = fun st pe => { state := st, pending := pe, fn, tmps := a.tmps, params := ps, assign, body, defers := w.heap.size } := ⟨_, rfl⟩
  obtain ⟨W1, hW1⟩ : ∃ W1, (w.alloc (.deferred (some []))).alloc (.loop (rec .ready none)) = W1 := ⟨_, rfl⟩
  have hsz : W1.heap.size = w.heap.size + 2 := by rw [← hW1]; simp
  have hL1 : W1.heap[w.heap.size + 1]? = some (.loop (rec .ready none)) := by
    rw [← hW1]; have := World.alloc_heap_new (w.alloc (.deferred (some []))) (.loop (rec .ready none)); rwa [World.size_alloc] at this
  have hK1 : W1.heap[w.heap.size]? = some (.deferred (some [])) := by
    rw [← hW1]; exact (Below.heap_alloc _ _ _ (by simp)).trans (World.alloc_heap_new w _)
  have hI1 : I 0 W1 := by rw [← hW1]; exact hI _ _ _ (hI _ _ _ h0 (ButS.alloc _ _ _)) (ButS.alloc _ _ _)
  have hb1 : Below w0.heap.size w0 W1 := by
    rw [← hW1]; exact hb0.trans ((((Below.refl _ w).alloc (Nat.le_refl _) _).alloc (by simp) _).mono hb0.size)
  refine ⟨w.heap.size + 1, [{ target := .collected w.heap.size, args := #[] }], W1, { target := .fn (.func gf) lb, args := #[.func (.yield (w.heap.size + 1)) #[] #[]] }, W1, gf,
    #[.func (.yield (w.heap.size + 1)) #[] #[]] ++ lb, W1, ?_, ?_, ?_, ?_, fun _ => h1, ?_⟩
  · rw [← hW1, hrec]; exact run_enterLoop_outer _ _ _ _ _
  · simp only [resolve, hg]
    simp [go_sem]
  · intro f' hf'; simp [Target.leads] at hf'; subst hf'; exact hFg
  · simp [invoke, go_sem, eg]
  · have win : ∀ {A B : World}, ButS (fun k => k = W1.heap.size) A B → ButS (fun k => w.heap.size ≤ k ∧ k < w.heap.size + 3) A B := fun h => h.mono (fun k e => by omega)
    refine (hseq (w.heap.size + 1)
      (fun t W => I t W ∧ W.heap[w.heap.size + 1]? = some (.loop (rec .ready none)) ∧ W.heap[w.heap.size]? = some (.deferred (some [])))
      (fun t W => ∃ c, Ix c t W ∧ W.heap[w.heap.size + 1]? = some (.loop (rec .done (some c))) ∧ W.heap[w.heap.size]? = some (.deferred (some [])))
      W1 hb1
      (fun t A B hs hg' => ⟨hI t A B hs.1 (win hg'), (hg'.same _ (Array.getElem?_eq_some_iff.1 hs.2.1).1 (by omega)).trans hs.2.1, (hg'.same _ (Array.getElem?_eq_some_iff.1 hs.2.2).1 (by omega)).trans hs.2.2⟩)
      ?_ ⟨hI1, hL1, hK1⟩).mono ?_
    · rintro t W ⟨hi, hl, hk⟩ hlen hat
      rw [hsz] at hat ⊢
      have hlt : w.heap.size + 1 < W.heap.size := (Array.getElem?_eq_some_iff.1 hl).1
      have hy := run_yield (P := P) (args := vs (w.heap.size + 2)) hl (by rw [hrec]; exact hps)
      rw [hrec] at hy
      refine ⟨fn, _, assign, body, hy, roundIn_of_wpIn hfn (hassign _ W _ ⟨_, run_beginRound hl (by rw [hrec]), ?_⟩)⟩
      have hl2 : (W.putObj (w.heap.size + 1) (.loop { rec .ready none with state := .busy })).heap[w.heap.size + 1]? = some (.loop { rec .ready none with state := .busy }) := World.putObj_heap_same hlt
      have hk2 : (W.putObj (w.heap.size + 1) (.loop { rec .ready none with state := .busy })).heap[w.heap.size]? = some (.deferred (some [])) := (World.putObj_heap_other (by omega)).trans hk
      refine wpIn_mono (hbody _ t _ (hI _ _ _ hi (ButS.putObj _ _ _ (by omega))) hlen (hAt _ _ _ _ hat (World.putObj_heap_other (by omega))) (by simp [World.putObj]; omega)) ?_
      have fin : ∀ (jump : Option Code) (W3 : World), KeepsOthers (W.putObj (w.heap.size + 1) (.loop { rec .ready none with state := .busy })) W3 →
          (Instr.endRound (w.heap.size + 1) jump).run P W3 = .ok (.bool jump.isNone) (W3.putObj (w.heap.size + 1) (.loop (rec (if jump.isNone then .ready else .done) jump))) ∧
          W3.heap[w.heap.size + 1]? = some (.loop { rec .ready none with state := .busy }) ∧
          (W3.putObj (w.heap.size + 1) (.loop (rec (if jump.isNone then .ready else .done) jump))).heap[w.heap.size + 1]? = some (.loop (rec (if jump.isNone then .ready else .done) jump)) ∧
          (W3.putObj (w.heap.size + 1) (.loop (rec (if jump.isNone then .ready else .done) jump))).heap[w.heap.size]? = some (.deferred (some [])) := fun jump W3 hk3 => by
        have hl3 := hk3.same _ _ hl2 rfl
        have := run_endRound (P := P) jump hl3
        rw [hrec] at this ⊢
        exact ⟨this, by rw [hrec] at hl3; exact hl3, World.putObj_heap_same (Array.getElem?_eq_some_iff.1 hl3).1, (World.putObj_heap_other (by omega)).trans (hk3.same _ _ hk2 rfl)⟩
      rintro e a3 W3 hp
      cases e with
      | normal =>
        obtain ⟨hk3, hm3, hat3, hi3⟩ := hp
        obtain ⟨hr, hl3, hl4, hk4⟩ := fin none W3 hk3
        refine ⟨_, _, hr, .inl ⟨rfl, ⟨hI _ _ _ hi3 (ButS.putObj _ _ _ (by omega)), hl4, hk4⟩, hAt _ _ _ _ hat3 (World.putObj_heap_other (by omega)), fun k hk => ?_⟩⟩
        have hkl := hM k hk
        exact (World.putObj_heap_other (by omega)).trans ((hm3 k hk).trans (World.putObj_heap_other (by omega)))
      | ret =>
        obtain ⟨hk3, hi3⟩ := hp
        obtain ⟨hr, hl3, hl4, hk4⟩ := fin (some .ret) W3 hk3
        exact ⟨_, _, hr, .inr ⟨rfl, .ret, hIx _ _ _ _ hi3 (ButS.putObj _ _ _ (by omega)), hl4, hk4⟩⟩
      | exit id =>
        obtain ⟨hk3, hi3⟩ := hp
        obtain ⟨hr, hl3, hl4, hk4⟩ := fin (some (.exit id)) W3 hk3
        exact ⟨_, _, hr, .inr ⟨rfl, .exit id, hIx _ _ _ _ hi3 (ButS.putObj _ _ _ (by omega)), hl4, hk4⟩⟩
      | goto t =>
        obtain ⟨hk3, hi3⟩ := hp
        obtain ⟨hr, hl3, hl4, hk4⟩ := fin (some (.goto t)) W3 hk3
        exact ⟨_, _, hr, .inr ⟨rfl, .goto t, hIx _ _ _ _ hi3 (ButS.putObj _ _ _ (by omega)), hl4, hk4⟩⟩
      | panic ch => exact hp.elim
      | outgrown => exact hp.elim
    · rintro e W2 ⟨⟨v, rfl⟩, (⟨hi, hl, hk⟩ | ⟨t, ht, c, hi, hl, hk⟩)⟩
      · exact ⟨none, _, by have := run_endLoop (P := P) hl (by rw [hrec]; simp); rw [hrec] at this; exact this, hdone _ (hI _ _ _ hi (ButS.putObj _ _ _ (by omega))) ((World.putObj_heap_other (by omega)).trans hk)⟩
      · exact ⟨some c, _, by have := run_endLoop (P := P) hl (by rw [hrec]; simp); rw [hrec] at this; exact this, hstop c t _ ht (hIx _ _ _ _ hi (ButS.putObj _ _ _ (by omega))) ((World.putObj_heap_other (by omega)).trans hk)⟩
theorem ButS.below {S : Nat → Prop} {A B : World} (h : ButS S A B) {n : Nat} (hS : ∀ k, S k → n ≤ k) (hn : n ≤ A.heap.size) : Below n A B :=
  ⟨h.os, h.tape, h.output, h.size, fun k hk => h.same k (by omega) (fun hs => by have := hS k hs; omega)⟩
theorem ButS.blk {S : Nat → Prop} {A B : World} (h : ButS S A B) {k : Nat} {o : Obj} (hk : A.heap[k]? = some o) (hS : ¬ S k) : B.heap[k]? = some o := (h.same k (blk_lt hk) hS).trans hk
theorem ButS.own {S : Nat → Prop} {A B : World} (h : ButS S A B) {base e size n : Nat} {v : Value} {xs : List Value} (hr : A.ownsRow base e size v n xs) (hS : ∀ k, S k → k < base) : B.ownsRow base e size v n xs :=
  own_move hr fun k hk => h.same k (own_lt hr k hk) (fun hs => by have := hS k hs; have := own_base hr k hk; omega)
end Go.Proofs.Ytehfcnndjhjkoaa.PA
namespace Go.Proofs.Ytehfcnndjhjkoaa.PA
open Go.RowKit Go.Shelf Go.Proofs.YtehfcnndjhjkoaaW.PrintWords Go.Proofs.YtehfcnndjhjkoaaW.PrintLast Go.Proofs.YtehfcnndjhjkoaaW.PrintMore
attribute [local go_sem] Oper.semAt_some
set_option linter.unusedSimpArgs false
set_option linter.unusedVariables false
def rowI (l : List Int) : Array Value := (l.map (Value.int .i64)).toArray
theorem rowI_get (l : List Int) (i : Nat) (h : i < l.length) : (rowI l)[i]? = some (.int .i64 (rd l (i : Int))) := by
  simp [rowI, rd, h, List.getD_eq_getElem?_getD]
theorem rowI_set (l : List Int) (i : Nat) (x : Int) : (rowI l).setIfInBounds i (.int .i64 x) = rowI (l.set i x) := by
  apply Array.ext_getElem?; intro j; simp [rowI, List.getElem?_set, Array.getElem?_setIfInBounds, List.getElem?_map]
theorem rowI_cell {w : World} {g : Nat} {t : TypeId} {l : List Int} (h : w.heap[g]? = some (.cells (rowI l) t (0, 0))) (i : Nat) (hi : i < l.length) : w.cell? ⟨g, i, none⟩ = some (.int .i64 (rd l (i : Int))) :=
  (blk_cell h i).trans (rowI_get l i hi)
theorem rowI_put {w : World} {g : Nat} {t : TypeId} {l : List Int} (h : w.heap[g]? = some (.cells (rowI l) t (0, 0))) (i : Nat) (x : Int) : (w.setCell ⟨g, i, none⟩ (.int .i64 x)).heap[g]? = some (.cells (rowI (l.set i x)) t (0, 0)) := by
  rw [← rowI_set]; exact blk_set h i _
theorem make_row (n : Nat) (hn : n ≤ 1000) (w : World) : (Instr.makeSlice 22 (.int .i64 (n : Int)) (.int .i64 (n : Int))).run Try.prog w = .ok (.slice (some ⟨w.heap.size, 0, none⟩) n n) (w.alloc (.cells (rowI (List.replicate n 0)) 3)) := by
  obtain ⟨i, hi, hz⟩ := Option.map_eq_some_iff.1 info3
  simp only [Prod.mk.injEq] at hz
  have h := run_make (P := Try.prog) w 22 3 i (.int .i64 0) Try.underlying22 hi hz.1 .i64 .i64 (n : Int) (n : Int) (by omega) (by omega) (by rw [hz.2.2]; omega) (by omega)
  rw [h, hz.2.1]
  have e : madeCells (Value.int .i64 0).cells ((n : Int).toNat * 1) = rowI (List.replicate n 0) := by
    apply Array.ext
    · simp [madeCells, rowI]
    · intro j h1 h2
      simp [madeCells, rowI, Value.cells, Nat.mod_one]
  rw [e]; simp
theorem butS_set {S : Nat → Prop} {A B : World} (h : ButS S A B) {G : Nat} (hG : S G) (j : Nat) (v : Value) : ButS S A (B.setCell ⟨G, j, none⟩ v) :=
  ⟨Nat.le_trans h.size (KeepsOthers.setCell B ⟨G, j, none⟩ v).size, fun k hk hn => (Below.heap_setCell B ⟨G, j, none⟩ v k (fun e => hn (e ▸ hG))).trans (h.same k hk hn), h.os, h.tape, h.output⟩
theorem butS_drew {S : Nat → Prop} {A B : World} (h : ButS S A B) : ButS S A B.drew := ⟨h.size, h.same, h.os, h.tape, h.output⟩
def AtI (s : List Int) (G t : Nat) (W : World) : Prop := W.heap[G]? = some (.cells (rowI (idxL s t)) 3 (0, 0))
set_option maxRecDepth 100000 in
set_option maxHeartbeats 2000000 in
theorem idx_in (m : Nat) (hm : 1 ≤ m) (l Bs : Nat) (A : Option Addr) (c : Nat) (s : List Int) (hs5 : s.length ≤ 5) (hp : prod s ≤ 10000) (k : Nat) (hk : impl_shapeOk.f k s = some (prod s, true)) (J Jx : Nat → World → Prop) (W : World) (hJ : ∀ t A B, J t A → ButS (fun k => k = W.heap.size) A B → J t B)
    (hY : ∀ t W1, J t W1 → t < (prod s).toNat → AtI s W.heap.size t W1 → YieldAt Fence.wide (m - 1) Try.prog l #[.slice (some ⟨W.heap.size, 0, none⟩) s.length s.length] W1 fun e W' =>
      (e = .returned (.bool true) ∧ J (t + 1) W' ∧ AtI s W.heap.size t W' ∧ (∀ k, (k = Bs ∨ (0 < s.length ∧ some k = A.map (·.block))) → W'.heap[k]? = W1.heap[k]?)) ∨ (e = .returned (.bool false) ∧ Jx (t + 1) W'))
    (hBs : W.cell? ⟨Bs, 0, none⟩ = some (.slice A s.length c)) (hr : Kd.C (Kd.int .i64) W A s.length s) (hc : s.length ≤ c) (hadl : ∀ ad, A = some ad → 0 < s.length → ad.block < W.heap.size) (h0 : J 0 W) :
    CallsIn Fence.wide m Try.prog 137 #[.func (.yield l) #[] #[], .pointer (some ⟨Bs, 0, none⟩)] W fun e W' => (∃ v, e = .returned v) ∧ (J (prod s).toNat W' ∨ ∃ t, t < (prod s).toNat ∧ Jx (t + 1) W') := by
  have HR := Aside0.mk hr
  have HC := Aside0.mk hc
  have HK := Aside0.mk hk
  clear hr hc hk
  have hmk := make_row s.length (by omega)
  refine callsIn_of_wp Try.func137 rfl trivial ?_ rfl
  simp only [Try.ntmps137, List.size_toArray, List.length_cons, List.length_nil, Nat.reduceAdd, Nat.reduceSub, Array.replicate_succ, Array.replicate_zero, List.push_toArray, List.append_toArray, List.nil_append, List.cons_append]
  gi_wp2_with (first | (refine ⟨trivial, ?_⟩; gi_at_call 94; refine (callsIn_wide.2 (impl_shapeOk.calls k A c s (prod s) true W HR.out HC.out HK.out)).mono ?_; rintro e w' ⟨rfl, ⟨⟨n5, rfl⟩⟩⟩))
  gi_loopw [16] (fun i wr => ∃ t : Nat, i = .int .i64 (t : Int) ∧ Aside0 (t ≤ (prod s).toNat) ∧ J t wr ∧ Aside0 (AtI s W.heap.size t wr) ∧ Aside0 (∀ k, (k = Bs ∨ (0 < s.length ∧ some k = A.map (·.block))) → wr.heap[k]? = W.heap[k]?))
    (fun i _ => (prod s).toNat - (intOf i).toNat)
  case atStart =>
    refine ⟨0, rfl, ⟨Nat.zero_le _⟩, hJ _ _ _ h0 ⟨by simp, fun k hk _ => Below.heap_alloc _ _ k hk, rfl, rfl, rfl⟩, ⟨?_⟩, ⟨fun k hk => Below.heap_alloc _ _ k ?_⟩⟩
    · have := World.alloc_heap_new (W.drewN n5) (.cells (rowI (List.replicate s.length 0)) 3)
      exact this
    · rcases hk with rfl | ⟨hk0, hk⟩
      · exact World.block_lt_of_cell? W _ hBs
      · obtain ⟨ad, rfl, rfl⟩ : ∃ ad, A = some ad ∧ k = ad.block := by cases A with | none => cases hk | some ad => exact ⟨ad, rfl, Option.some.inj hk⟩
        exact hadl ad rfl hk0
  case round =>
    obtain ⟨t, rfl, ht, hJs, hA, hM⟩ := hrel
    by_cases hlt : (t : Int) < prod s
    · obtain ⟨fn, tmps, assign, body, hy, hR⟩ := hY t wr hJs (by omega) hA.out
      have hb1 := decide_eq_true hlt
      have hb2 := eq_true hlt
      gi_wp2
      refine hR.mono ?_
      rintro e W3 (⟨rfl, hJ3, hA3, hk3⟩ | ⟨rfl, hJx3⟩)
      · gi_wp2
        gi_loopw [6] (fun i wr => ∃ (a : Nat) (cur : List Int), i = .int .i64 ((a : Int) - 1) ∧ Aside0 (a ≤ s.length) ∧ Aside0 (cur.length = s.length) ∧ Aside0 (wr.heap[W.heap.size]? = some (.cells (rowI cur) 3 (0, 0))) ∧ Aside0 (odo s a cur = odo s s.length (idxL s t)) ∧ Aside0 (ButS (fun k => k = W.heap.size) W3 wr))
          (fun i _ => ((intOf i) + 1).toNat)
        case atStart => exact ⟨s.length, idxL s t, by first | rfl | (simp; done) | (unfold wrap64; simp; omega), ⟨Nat.le_refl _⟩, ⟨idxL_len s t⟩, ⟨hA3⟩, ⟨rfl⟩, ⟨⟨Nat.le_refl _, fun _ _ _ => rfl, rfl, rfl, rfl⟩⟩⟩
        case round =>
          obtain ⟨a, cur, rfl, ha, hcl, hcr, hod, hbs⟩ := hrel
          have hlm : ∀ k, (k = Bs ∨ (0 < s.length ∧ some k = A.map (·.block))) → k < W.heap.size := fun k hk => by
            rcases hk with rfl | ⟨hk0, hk⟩
            · exact World.block_lt_of_cell? W _ hBs
            · obtain ⟨ad, rfl, rfl⟩ : ∃ ad, A = some ad ∧ k = ad.block := by cases A with | none => cases hk | some ad => exact ⟨ad, rfl, Option.some.inj hk⟩
              exact hadl ad rfl hk0
          have hm3 : ∀ k, (k = Bs ∨ (0 < s.length ∧ some k = A.map (·.block))) → W3.heap[k]? = W.heap[k]? := fun k hk => (hk3 k hk).trans (hM.out k hk)
          have hl3 : ∀ k, (k = Bs ∨ (0 < s.length ∧ some k = A.map (·.block))) → k < W3.heap.size := fun k hk => by
            have h := hm3 k hk
            rw [Array.getElem?_eq_getElem (hlm k hk)] at h
            exact (Array.getElem?_eq_some_iff.1 h).1
          cases a with
          | zero =>
            have hc1 : decide (0 ≤ ((0 : Nat) : Int) - 1) = false := rfl
            gi_wp2
            refine ⟨⟨t + 1, rfl, ⟨by omega⟩, hJ _ _ _ hJ3 hbs.out, ⟨?_⟩, ⟨fun k hk => (hbs.out.same k (hl3 k hk) (by have := hlm k hk; omega)).trans (hm3 k hk)⟩⟩, ?_⟩
            · unfold AtI; rw [idxL, ← hod.out]; exact hcr.out
            · simp [intOf]; omega
          | succ a =>
            have hal : a < s.length := by have := ha.out; omega
            have p1 : 0 ≤ (a : Int) := by omega
            have p2 : (a : Int) < (s.length : Int) := by omega
            obtain ⟨ad, rfl, hx'⟩ := Kd.at_int HR.out (a : Int) p1 p2
            rw [Int.toNat_natCast] at hx'
            have HX' := Aside0.mk hx'
            clear hx'
            have hx := rowI_cell hcr.out a (by have := hcl.out; omega)
            have hfz := blk_frozen hcr.out a
            have hb3 : decide (0 ≤ (((a + 1 : Nat) : Int) - 1)) = true := by simp
            gi_wp2
            have E1 := Aside0.mk (rowI_put (t := 3) hcr.out a (wrap64 (rd cur (a : Int) + 1)))
            have hbx : (wr.setCell ⟨W.heap.size, a, none⟩ (.int .i64 (wrap64 (rd cur (a : Int) + 1)))).cell? ⟨Bs, 0, none⟩ = some (.slice (some ad) s.length c) := (World.cell?_of_block (((butS_set hbs.out rfl a _).same Bs (hl3 Bs (.inl rfl)) (by have := hlm Bs (.inl rfl); omega)).trans (hm3 Bs (.inl rfl)))).trans hBs
            have hsx : (wr.setCell ⟨W.heap.size, a, none⟩ (.int .i64 (wrap64 (rd cur (a : Int) + 1)))).cell? (ad.add a) = some (.int .i64 (rd s (a : Int))) := by
              refine (World.cell?_of_block (w := W) ?_).trans HX'.out
              rw [show (ad.add a).block = ad.block by unfold Addr.add; split <;> rfl]
              exact ((butS_set hbs.out rfl a _).same ad.block (hl3 ad.block (.inr ⟨by omega, rfl⟩)) (by have := hlm ad.block (.inr ⟨by omega, rfl⟩); omega)).trans (hm3 ad.block (.inr ⟨by omega, rfl⟩))
            have hcx := rowI_cell E1.out a (by have := hcl.out; rw [List.length_set]; omega)
            rw [show rd (cur.set a (wrap64 (rd cur (a : Int) + 1))) (a : Int) = wrap64 (rd cur (a : Int) + 1) by simp [rd, List.getD_eq_getElem?_getD, List.getElem?_set, show a < cur.length by have := hcl.out; omega]] at hcx
            have hfx := blk_frozen E1.out a
            gi_region
            by_cases hx9 : wrap64 (rd cur (a : Int) + 1) < rd s (a : Int)
            · have hx9b := decide_eq_true hx9
              gi_wp2
              refine ⟨⟨t + 1, rfl, ⟨by omega⟩, hJ _ _ _ hJ3 (butS_drew (butS_set hbs.out rfl a _)), ⟨?_⟩, ⟨fun k hk => ((butS_drew (butS_set hbs.out rfl a _)).same k (hl3 k hk) (by have := hlm k hk; omega)).trans (hm3 k hk)⟩⟩, by simp [intOf]; omega⟩
              unfold AtI
              rw [idxL, ← hod.out, odo, if_pos hx9]
              exact E1.out
            · have hx9b : decide (wrap64 (rd cur (a : Int) + 1) < rd s (a : Int)) = false := decide_eq_false hx9
              gi_wp2
              refine ⟨⟨a, cur.set a 0, rfl, ⟨by omega⟩, ⟨by rw [List.length_set]; exact hcl.out⟩, ⟨?_⟩, ⟨by rw [← hod.out, odo, if_neg hx9]⟩, ⟨butS_drew (butS_set (butS_set hbs.out rfl a _) rfl a _)⟩⟩, by simp [intOf]⟩
              have h0 := rowI_put (t := 3) E1.out a 0
              rw [List.set_set] at h0
              exact h0
      · gi_wp2
        refine bodyPost_ret (results_none rfl _ _ _) rfl ?_
        exact ⟨⟨_, rfl⟩, .inr ⟨t, by omega, hJx3⟩⟩
    · have hb1 : decide ((t : Int) < prod s) = false := decide_eq_false hlt
      have hb2 := eq_false hlt
      gi_wp2
      go_end0
      exact ⟨⟨_, rfl⟩, .inl (by rw [show (prod s).toNat = t by have := ht.out; omega]; exact hJs)⟩
/-- The iterator over a shape's indexes keeps the contract of rounds. -/
theorem idx_rounds (m : Nat) (hm : 1 ≤ m) (Bs : Nat) (A : Option Addr) (c : Nat) (s : List Int) (hs5 : s.length ≤ 5) (hp : prod s ≤ 10000) (k : Nat) (hk : impl_shapeOk.f k s = some (prod s, true)) (w : World)
    (hBs : w.cell? ⟨Bs, 0, none⟩ = some (.slice A s.length c)) (hr : Kd.C (Kd.int .i64) w A s.length s) (hc : s.length ≤ c) (hadl : ∀ ad, A = some ad → 0 < s.length → ad.block < w.heap.size) :
    RoundsG Fence.wide m Try.prog 137 #[.pointer (some ⟨Bs, 0, none⟩)] (fun G => #[.slice (some ⟨G, 0, none⟩) s.length s.length]) (fun G t W => AtI s G t W) (prod s).toNat (fun k => k = Bs ∨ (0 < s.length ∧ some k = A.map (·.block))) w :=
  fun l J Jx W hW hJ hY h0 => idx_in m hm l Bs A c s hs5 hp k hk J Jx W hJ hY (pw_cell_below hW hBs) (Kd.C_below hr hW) hc (fun ad e e0 => Nat.lt_of_lt_of_le (hadl ad e e0) hW.size) h0
set_option maxHeartbeats 1000000 in
theorem indexes_in (m : Nat) (A : Option Addr) (n c : Nat) (w : World) :
    CallsIn Fence.wide m Try.prog 119 #[.slice A n c] w fun e w' => e = .returned (.func (.func 137) #[] #[.pointer (some ⟨w.heap.size, 0, none⟩)]) ∧ w' = w.alloc (.cells #[.slice A n c] 22) := by
  refine callsIn_of_wp Try.func119 rfl trivial ?_ rfl
  simp only [Try.ntmps119, List.size_toArray, List.length_cons, List.length_nil, Nat.reduceAdd, Nat.reduceSub, Array.replicate_succ, Array.replicate_zero, List.push_toArray, List.append_toArray, List.nil_append, List.cons_append]
  gi_wp2
  go_ret
  exact ⟨rfl, rfl⟩
end Go.Proofs.Ytehfcnndjhjkoaa.PA
namespace Go.Proofs.Ytehfcnndjhjkoaa.PA
open Go.RowKit Go.Shelf
set_option linter.unusedSimpArgs false
set_option linter.unusedVariables false
theorem opIn_round {F : Fence} {n : Nat} {P : Program} {ops : Array Oper} {Q : Exit → Act → World → Prop} (l : Nat) (hd : ∀ (i : Nat) (o : Oper), ops[i]? = some o → ∀ c, o.op ≠ .defer c) {i : Nat} {K K' : Act → World → Prop} {a : Act} {w : World}
    (hK : ∀ a w, K a w → K' a w) (h : wpOpIn F n P ops Q i K a w) : wpOpIn (F.inRound l) n P ops Q i K' a w := by
  unfold wpOpIn at *
  cases ho : ops[i]? with
  | none => simp only [ho] at h ⊢; exact hK _ _ h
  | some o =>
    simp only [ho] at h ⊢
    split at h
    · rename_i hw
      rw [if_pos hw]
      have h' : o.wpIn F n P a w K' Q := Oper.wpIn_mono hK h
      unfold Oper.wpIn at *
      refine ⟨h'.1, ?_⟩
      have e := h'.2
      rw [Oper.semAt_eq _ _ _ (hd i o ho)] at e ⊢
      exact e
    · rename_i hw
      rw [if_neg hw]
      exact ⟨h.1, hK _ _ h.2⟩
theorem anyIn_round {F : Fence} {n : Nat} {P : Program} {md : Region.Mode} {ops : Array Oper} {Q : Exit → Act → World → Prop} (l : Nat) (hd : ∀ (i : Nat) (o : Oper), ops[i]? = some o → ∀ c, o.op ≠ .defer c) :
    ∀ (fuel : Nat) (listed : Array Bool) (a : Act) (w : World), wpAnyIn F n P md ops Q fuel listed a w → wpAnyIn (F.inRound l) n P md ops Q fuel listed a w
  | 0, _, _, _, h => h
  | fuel + 1, listed, a, w, h => ⟨h.1, fun i hi => opIn_round l hd (fun a' w' hh => anyIn_round l hd fuel _ a' w' hh) (h.2 i hi)⟩
/-- No operation of the list defers. -/
def noDefer (ops : Array Oper) : Bool := ops.toList.all fun o => match o.op with | .defer _ => false | _ => true
theorem noDefer_spec {ops : Array Oper} (h : noDefer ops = true) (i : Nat) (o : Oper) (ho : ops[i]? = some o) : ∀ c, o.op ≠ .defer c := by
  intro c hc
  have hm : o ∈ ops.toList := by
    rw [← Array.getElem?_toList] at ho
    exact List.mem_of_getElem? ho
  have := List.all_eq_true.1 h o hm
  rw [hc] at this
  cases this
/-- The region's any order, walked outside the round. -/
theorem region_round {id n l : Nat} {P : Program} {F : Fence} {ops : Array Oper} {Q : Exit → Act → World → Prop} {a : Act} {w : World} (hm : P.follows .mixedOrders = true) (hd : noDefer ops = true)
    (h : wpAnyIn F n P .any ops Q ops.size (Array.replicate ops.size false) a w.drew) : (Code.region id ops true).wpIn (F.inRound l) n P Q a w :=
  wpIn_region_any hm (anyIn_round l (noDefer_spec hd) _ _ _ _ h)
end Go.Proofs.Ytehfcnndjhjkoaa.PA
